/- Values without addresses: statements whose order is open, in which a new variable is laid at some time. -/
import Derived.Test.YtcaggadjkccbiaaGreatZ34
namespace Go.Proofs.YtcaggadjkccbiaaGreat
set_option linter.unusedVariables false
set_option linter.unusedSimpArgs false
open Go Go.RowKit

section
variable {P : Program} {T : TypeId → Ty} {B : Bg} {Q : AX → List D → Sto → Prop} {S : Sto} {A : List D} {ops : Array Oper}

def Sto.with (S:Sto) (t:TypeId) (z:D):Option Nat→Sto
 | none=>S
 | some b=>⟨(b,t,z)::S.bk,S.ow⟩
def fresh (S:Sto) (b:Nat):Prop:=b ∉ S.bk.map (·.1)∧b ∉ S.ow.map (·.1)

def AAnyA (P:Program) (B:Bg) (Q:AX→List D→Sto→Prop) (ops:Array Oper) (S:Sto) (t:TypeId) (z:D) (np ia:Nat) (dst:Option Tmp) (K:Array Bool→List D→Nat→Prop):Nat→Array Bool→List D→Option Nat→Prop
 | 0,listed,A,ob=>(∀ j∈Region.ready .any ops listed,np≤j)∧∃ b,ob=some b∧K listed A b
 | n+1,listed,A,ob=>Region.ready .any ops listed≠[]∧∀ i∈Region.ready .any ops listed,i<np ∧
   if i=ia then ob=none∧∀ b,fresh S b→AAnyA P B Q ops S t z np ia dst K n (listed.setIfInBounds i true) (putA A dst (.v (.pointer (some ⟨b,0,none⟩)))) (some b)
   else ∃ o d,ops[i]?=some o∧QOp P B Q ops (S.with t z ob) o A d∧AAnyA P B Q ops S t z np ia dst K n (listed.setIfInBounds i true) (putA A o.dst d) ob

theorem AAnyA.first {t:TypeId} {z:D} {np ia:Nat} {oa:Oper} {K:Array Bool→List D→Nat→Prop} {i:Nat} {oi:Oper} {v:D} (ha:ops[ia]?=some oa) (hi:ops[i]?=some oi) (hin:i<np) (hia:i≠ia):∀ (n:Nat) (listed:Array Bool) (A:List D) (ob:Option Nat),
  (∀ j oj,ops[j]?=some oj→j≠i→listed.getD j true=false→(∀ e∈oj.after,Region.binds .any e=true→e.on≠i)→oi.apart ops oj=true∧j<np) →
  i∈Region.ready .any ops listed→(∀ ob,(∀ b,ob=some b→fresh S b)→QOp P B Q ops (S.with t z ob) oi A v)→(∀ b,ob=some b→fresh S b) →
  AAnyA P B Q ops S t z np ia oa.dst K n (listed.setIfInBounds i true) (putA A oi.dst v) ob→AAnyA P B Q ops S t z np ia oa.dst K (n+1) listed A ob:=by
 intro n
 induction n with
 | zero=>
  intro listed A ob hfree hr hq hob H
  refine ⟨fun h=>(by rw [h] at hr;cases hr),fun j hj=>?_⟩
  by_cases hji:j=i
  ·subst hji;rw [if_neg hia];exact ⟨hin,oi,v,hi,hq ob hob,H⟩
  ·exfalso
   have h1:=H.1 j (ready_mono hj hji)
   obtain ⟨hjun,oj,hoj,hall⟩:=mem_ready.1 hj
   have hnot:∀ e∈oj.after,Region.binds .any e=true→e.on≠i:=fun e he hb heq=>by
    have h1:=hall e he hb
    have h0:=(mem_ready.1 hr).1
    rw [heq] at h1
    rcases Nat.lt_or_ge i listed.size with h' | h'
    ·simp [h'] at h0 h1;rw [h0] at h1;cases h1
    ·simp [Array.getElem?_eq_none h'] at h1
   have:=(hfree j oj hoj hji hjun hnot).2
   omega
 | succ n ih=>
  intro listed A ob hfree hr hq hob H
  refine ⟨fun h=>(by rw [h] at hr;cases hr),fun j hj=>?_⟩
  by_cases hji:j=i
  ·subst hji;rw [if_neg hia];exact ⟨hin,oi,v,hi,hq ob hob,H⟩
  ·obtain ⟨hjn,Hj⟩:=H.2 j (ready_mono hj hji)
   obtain ⟨hjun,oj,hoj,hall⟩:=mem_ready.1 hj
   have hnot:∀ e∈oj.after,Region.binds .any e=true→e.on≠i:=fun e he hb heq=>by
    have h1:=hall e he hb
    have h0:=(mem_ready.1 hr).1
    rw [heq] at h1
    rcases Nat.lt_or_ge i listed.size with h' | h'
    ·simp [h'] at h0 h1;rw [h0] at h1;cases h1
    ·simp [Array.getElem?_eq_none h'] at h1
   obtain ⟨p1,p2,p3⟩:=Oper.apart_spec (hfree j oj hoj hji hjun hnot).1
   have hfree':∀ k ok,ops[k]?=some ok→k≠i→(listed.setIfInBounds j true).getD k true=false→(∀ e∈ok.after,Region.binds .any e=true→e.on≠i)→oi.apart ops ok=true∧k<np:=fun k ok hk hki hun hno=>by
    refine hfree k ok hk hki ?_ hno
    by_cases hjk:j=k
    ·subst hjk;exact hjun
    ·rw [getD_set_ne true hjk] at hun;exact hun
   refine ⟨hjn,?_⟩
   by_cases hja:j=ia
   ·rw [if_pos hja] at Hj ⊢
    obtain ⟨h1,h2⟩:=Hj
    subst h1
    refine ⟨rfl,fun b hb=>?_⟩
    have hoa:oj=oa:=by rw [hja,ha] at hoj;simpa using hoj.symm
    subst hoa
    refine ih (listed.setIfInBounds j true) _ (some b) hfree' (ready_mono hr (Ne.symm hji)) (fun ob' hob'=>(hq ob' hob').agree (agree_put A oj.dst _ p3)) (fun b' hb'=>by simp only [Option.some.injEq] at hb';subst hb';exact hb) ?_
    rw [Array.setIfInBounds_comm _ _ hji,← putA_comm A oi.dst oj.dst v _ p2]
    exact h2 b hb
   ·rw [if_neg hja] at Hj ⊢
    obtain ⟨oj',u,hoj',hqj,Hj⟩:=Hj
    rw [hoj] at hoj'
    simp only [Option.some.injEq] at hoj'
    subst hoj'
    refine ⟨oj,u,hoj,hqj.agree (agree_put A oi.dst v p1).symm,?_⟩
    refine ih (listed.setIfInBounds j true) (putA A oj.dst u) ob hfree' (ready_mono hr (Ne.symm hji)) (fun ob' hob'=>(hq ob' hob').agree (agree_put A oj.dst u p3)) hob ?_
    rw [Array.setIfInBounds_comm _ _ hji,← putA_comm A oi.dst oj.dst v u p2]
    exact Hj

def lexA (ops:Array Oper) (np ia:Nat):Nat→Nat→Array Bool→Bool
 | 0,_,listed=>(match Region.ready .any ops listed with | [i]=>Nat.beq i ia | _=>false) && Nat.blt ia np && ((Region.ready .any ops (listed.setIfInBounds ia true)).all fun j=>Nat.ble np j)
 | n+1,k,listed=>if Nat.beq k ia then lexA ops np ia n (k+1) listed else Nat.blt k np && (Region.ready .any ops listed).contains k && Region.free .any ops listed k && waitB ops np k && lexA ops np ia n (k+1) (listed.setIfInBounds k true)
def setA (listed:Array Bool) (ia:Nat):Nat→Nat→Array Bool
 | 0,_=>listed.setIfInBounds ia true
 | n+1,k=>if Nat.beq k ia then setA listed ia n (k+1) else setA (listed.setIfInBounds k true) ia n (k+1)
def dropAt:List Oper→Nat→Nat→List Oper
 | [],_,_=>[]
 | o::l,k,ia=>if Nat.beq k ia then dropAt l (k+1) ia else o::dropAt l (k+1) ia

def Wth (S:Sto) (t:TypeId) (z:D) (S1:Sto):Prop:=∃ ob,(∀ b,ob=some b→fresh S b)∧S1=S.with t z ob
def ALexU (P:Program) (B:Bg) (Q:AX→List D→Sto→Prop) (ops:Array Oper) (S:Sto) (Ss:Sto→Prop):List Oper→List D→Prop
 | [],A=>Q .normal A S
 | o::l,A=>∃ d,(∀ S1,Ss S1→QOp P B Q ops S1 o A d)∧ALexU P B Q ops S Ss l (putA A o.dst d)

theorem AAnyA.lex {t:TypeId} {z:D} {np ia:Nat} {oa:Oper} {K:List D→Nat→Prop} {LF:Array Bool} (ha:ops[ia]?=some oa):∀ (l:List Oper) (k:Nat) (listed:Array Bool) (A:List D),(∀ j o,l[j]?=some o→ops[k+j]?=some o)→lexA ops np ia l.length k listed=true→setA listed ia l.length k=LF →
  ALexU P B (AX.then (fun A _=>∀ b,fresh S b→K (putA A oa.dst (.v (.pointer (some ⟨b,0,none⟩)))) b) Q) ops S (Wth S t z) (dropAt l k ia) A →
  AAnyA P B (AX.then (fun A _=>∀ b,fresh S b→K (putA A oa.dst (.v (.pointer (some ⟨b,0,none⟩)))) b) Q) ops S t z np ia oa.dst (fun listed A b=>listed=LF∧K A b∧fresh S b) ((dropAt l k ia).length+1) listed A none
 | [],k,listed,A,hl,hB,hLF,h=>by
  simp only [List.length_nil,lexA,Bool.and_eq_true] at hB
  obtain ⟨⟨h1,h2⟩,h3⟩:=hB
  split at h1
  ·rename_i i hr
   have hii:i=ia:=Nat.eq_of_beq_eq_true h1
   subst hii
   refine ⟨fun e=>(by rw [hr] at e;cases e),fun j hj=>?_⟩
   rw [hr] at hj
   simp only [List.mem_singleton] at hj
   subst hj
   refine ⟨Nat.blt_eq.mp h2,?_⟩
   rw [if_pos rfl]
   exact ⟨rfl,fun b hb=>⟨fun j' hj'=>Nat.le_of_ble_eq_true (List.all_eq_true.1 h3 j' hj'),b,rfl,hLF,h b hb,hb⟩⟩
  ·cases h1
 | o::l,k,listed,A,hl,hB,hLF,h=>by
  have h0:ops[k]?=some o:=by simpa using hl 0 o rfl
  have hl':∀ j o',l[j]?=some o'→ops[k+1+j]?=some o':=fun j o' hj=>by have:=hl (j+1) o' (by simpa using hj);simpa [Nat.add_assoc,Nat.add_comm 1 j] using this
  simp only [List.length_cons,lexA,setA] at hB hLF
  unfold dropAt at h ⊢
  by_cases hk:Nat.beq k ia=true
  ·rw [if_pos hk] at hB hLF h ⊢
   exact AAnyA.lex ha l (k+1) listed A hl' hB hLF h
  ·rw [if_neg hk] at hB hLF h ⊢
   simp only [Bool.and_eq_true] at hB
   obtain ⟨⟨⟨⟨hkn,hr⟩,hf⟩,ht⟩,hB'⟩:=hB
   have hne:k≠ia:=fun e=>hk (by subst e;exact Nat.beq_refl k)
   obtain ⟨d,hq,hK⟩:=h
   refine AAnyA.first ha h0 (Nat.blt_eq.mp hkn) hne (dropAt l (k+1) ia).length.succ listed A none (fun j oj hj hne hun hno=>⟨Region.free_spec h0 hf j oj hj hne hun hno,?_⟩) (by simpa using hr) (fun ob hob=>hq _ ⟨ob,hob,rfl⟩) (fun b h=>by cases h)
    (AAnyA.lex ha l (k+1) _ _ hl' hB' hLF hK)
   unfold waitB at ht
   simp only [List.all_eq_true,List.mem_range] at ht
   have h1:=ht j (Array.getElem?_eq_some_iff.1 hj).1
   simp only [hj,Bool.or_eq_true] at h1
   rcases h1 with h1 | h1
   ·exact Nat.blt_eq.mp h1
   ·obtain ⟨e,he,hb⟩:=Array.any_eq_true'.1 h1
    simp only [Bool.and_eq_true,beq_iff_eq] at hb
    exact absurd hb.2 (hno e he hb.1)

theorem AAnyA.sound (hP:Prg P T) {t:TypeId} {np ia:Nat} {oa:Oper} {KS:List D→Sto→Prop} {K:Array Bool→List D→Nat→Prop} {m:Nat} (ha:ops[ia]?=some oa) (hop:oa.op=.alloc t) (hg:oa.guard=none) (ht:(T t).known=true) (hl:(T t).zero.lies=true)
  (hK:∀ listed A b a w,K listed A b→At B A (S.with t (T t).zero (some b)) a w→wpAny P .any ops (Conc B Q) m listed a w):∀ (n:Nat) (listed:Array Bool) (A:List D) (ob:Option Nat),AAnyA P B (AX.then KS Q) ops S t (T t).zero np ia oa.dst K n listed A ob→∀ a w,At B A (S.with t (T t).zero ob) a w→wpAny P .any ops (Conc B Q) (n+m) listed a w
 | 0,listed,A,ob,h,a,w,k=>by
  rw [Nat.zero_add]
  obtain ⟨_,b,rfl,h⟩:=h
  exact hK _ _ _ _ _ h k
 | n+1,listed,A,ob,h,a,w,k=>by
  rw [show n+1+m=(n+m)+1 by omega]
  refine ⟨fun h0=>absurd h0 h.1,fun i hi=>?_⟩
  obtain ⟨_,hi⟩:=h.2 i hi
  by_cases hia:i=ia
  ·rw [if_pos hia] at hi
   subst hia
   obtain ⟨rfl,hi⟩:=hi
   have hw:wantedA ops A oa=some true:=by unfold wantedA;rw [hg]
   have:=AOps.alloc (B:=B) (Q:=AX.then (fun A' S'=>AMix P B Q ops (n+m) (listed.setIfInBounds i true) A' S') Q) (ops:=ops) (l:=[]) hP hop hw ht hl (fun b hb=>AOps.nil (show AMix P B Q ops (n+m) (listed.setIfInBounds i true) _ _ from fun a w k=>AAnyA.sound hP ha hop hg ht hl hK n _ _ _ (hi b hb) a w k)) a w k
   unfold wpOp
   simp only [ha]
   unfold wpList at this
   have hgo:∀ a w,wpList P ops (Conc B (AX.then (fun A' S'=>AMix P B Q ops (n+m) (listed.setIfInBounds i true) A' S') Q)) [] a w→wpAny P .any ops (Conc B Q) (n+m) (listed.setIfInBounds i true) a w:=fun a w ⟨A',S',k',h'⟩=>h' a w k'
   split
   ·rename_i hw
    rw [if_pos hw] at this
    rcases this with this | ⟨h1,a',w',h2⟩
    ·exact .inl (wp_then (Oper.wp_mono hgo this))
    ·exact .inr ⟨h1,a',w',conc_then (by simp) h2⟩
   ·rename_i hw
    rw [if_neg hw] at this
    exact hgo _ _ this
  ·rw [if_neg hia] at hi
   obtain ⟨o,d,ho,hq,hn⟩:=hi
   unfold wpOp
   simp only [ho]
   have:=hq A (Agree.refl _ _) (fun A'=>A'=putA A o.dst d) rfl a w k
   have hgo:∀ a' w',(∃ A',At B A' (S.with t (T t).zero ob) a' w'∧A'=putA A o.dst d)→wpAny P .any ops (Conc B Q) (n+m) (listed.setIfInBounds i true) a' w':=fun a' w' ⟨A',k',e⟩=>by
    subst e;exact AAnyA.sound hP ha hop hg ht hl hK n _ _ _ hn a' w' k'
   split
   ·rename_i hw
    rw [if_pos hw] at this
    exact .inl (wp_then (Oper.wp_mono hgo this))
   ·rename_i hw
    rw [if_neg hw] at this
    exact hgo _ _ this

theorem ALexU.step (hP:Prg P T) {Ss:Sto→Prop} {o:Oper} {l:List Oper} {d:D} (hw:wantedA ops A o=some true) (he:∀ S1,Ss S1→evalS T A S1 o.op=some (d,S1)) (k:ALexU P B Q ops S Ss l (putA A o.dst d)):ALexU P B Q ops S Ss (o::l) A:=⟨d,fun S1 h1=>QOp.step hP hw (he S1 h1),k⟩
theorem ALexU.skip {Ss:Sto→Prop} {o:Oper} {l:List Oper} (hw:wantedA ops A o=some false) (k:ALexU P B Q ops S Ss l (putA A o.dst (.tup []))):ALexU P B Q ops S Ss (o::l) A:=⟨_,fun S1 _=>QOp.skip hw,k⟩
theorem ALexU.call {Ss:Sto→Prop} {f:FuncId} {args:Array Operand} {ats:Array TypeId} {o:Oper} {l:List Oper} {d:D} (ho:o.op=.call ⟨.value (.func f),args,ats⟩) (hw:wantedA ops A o=some true)
  (hc:∀ S1,ACalls P f (args.toList.map (evalO A)) S1 (RetQ d S1)) (k:ALexU P B Q ops S Ss l (putA A o.dst d)):ALexU P B Q ops S Ss (o::l) A:=⟨d,fun S1 _=>QOp.call ho hw rfl (hc S1),k⟩
end

section
variable {B : Bg} {Q : AX → List D → Sto → Prop} {A A' : List D} {S : Sto} {ops : Array Oper} {l : List Oper} {R : Prop} {o : Oper} {id : Nat} {Ss : Sto → Prop}
theorem u1 {d:D} (k:ALexU Tryz.prog B Q ops S Ss l A') (hw:wantedA ops A o=some true:=by (simp only [go_sem,Int.reduceEq,Int.reduceLT,Int.reduceBEq,Int.reduceBNe,Int.reduceNe,Nat.reduceLeDiff,Nat.reduceAdd,Nat.reduceSub,Nat.reduceLT,Nat.reduceEqDiff,Nat.reduceBEq,Int.reduceLE,Int.reduceToNat,F];rfl)) (he:∀ S1,Ss S1→evalS tys A S1 o.op=some (d,S1):=by (intro S1 hS1;simp only [go_sem,Int.reduceEq,Int.reduceLT,Int.reduceBEq,Int.reduceBNe,Int.reduceNe,Nat.reduceLeDiff,Nat.reduceAdd,Nat.reduceSub,Nat.reduceLT,Nat.reduceEqDiff,Nat.reduceBEq,Int.reduceLE,Int.reduceToNat,F,hS1];rfl)) (hA:putA A o.dst d=A':=by (simp only [go_sem,Int.reduceEq,Int.reduceLT,Int.reduceBEq,Int.reduceBNe,Int.reduceNe,Nat.reduceLeDiff,Nat.reduceAdd,Nat.reduceSub,Nat.reduceLT,Nat.reduceEqDiff,Nat.reduceBEq,Int.reduceLE,Int.reduceToNat];rfl)):ALexU Tryz.prog B Q ops S Ss (o::l) A:=ALexU.step prg hw he (by rw [hA];exact k)
end


section
variable {P : Program} {T : TypeId → Ty} {B : Bg} {Q : AX → List D → Sto → Prop} {S : Sto} {A : List D} {ops : Array Oper}

def StepX (P:Program) (T:TypeId→Ty) (B:Bg) (Q:AX→List D→Sto→Prop) (ops:Array Oper) (o:Oper) (A:List D) (S:Sto) (K:List D→Sto→Prop):Prop:=
 (∃ d,QOp P B Q ops S o A d∧K (putA A o.dst d) S) ∨
 (∃ t,o.op=.alloc t∧o.guard=none∧(T t).known=true∧(T t).zero.lies=true∧∀ b,fresh S b→K (putA A o.dst (.v (.pointer (some ⟨b,0,none⟩)))) ⟨(b,t,(T t).zero)::S.bk,S.ow⟩) ∨
 (∃ d S',wantedA ops A o=some true∧evalS T A S o.op=some (d,S')∧K (putA A o.dst d) S')

def AAnyX (P:Program) (T:TypeId→Ty) (B:Bg) (Q:AX→List D→Sto→Prop) (ops:Array Oper):Nat→Array Bool→List D→Sto→Prop
 | 0,listed,A,S=>Region.ready .any ops listed=[]∧Q .normal A S
 | n+1,listed,A,S=>Region.ready .any ops listed≠[]∧∀ i∈Region.ready .any ops listed,∃ o,ops[i]?=some o∧StepX P T B Q ops o A S (fun A' S'=>AAnyX P T B Q ops n (listed.setIfInBounds i true) A' S')

theorem StepX.sound (hP : Prg P T) {o : Oper} {K : List D → Sto → Prop} (h : StepX P T B Q ops o A S K) : AOps P B ops (AX.then K Q) [o] A S := by
  rcases h with ⟨d, hq, hK⟩ | ⟨t, h1, h2, h3, h4, hK⟩ | ⟨d, S', hw, he, hK⟩
  · intro a w k
    have := hq A (Agree.refl _ _) (fun A' => A' = putA A o.dst d) rfl a w k
    refine wpList_step (fun K1 hK1 => ?_)
    have hgo : ∀ a' w', (∃ A', At B A' S a' w' ∧ A' = putA A o.dst d) → K1 a' w' := fun a' w' ⟨A', k', e⟩ => hK1 _ _ (wpList_nil ⟨A', S, k', by subst e; exact hK⟩)
    split
    · rename_i hw
      rw [if_pos hw] at this
      have := Oper.wp_mono hgo this
      unfold Oper.wp at this ⊢
      generalize (execOp a.eval o).run P w = r at *
      cases r with
      | ok nx w' =>
        cases nx <;> simp only [Oper.upon] at this ⊢ <;> first
          | exact this
          | (refine this.mono (fun e w'' he => ?_)
             cases e <;> first | exact he | (obtain ⟨a, w, he⟩ := he; exact he.elim))
      | halt x w' => cases x <;> first | exact this | exact this.elim
    · rename_i hw
      rw [if_neg hw] at this
      exact hgo _ _ this
  · have hw : wantedA ops A o = some true := by unfold wantedA; rw [h2]
    exact AOps.alloc hP h1 hw h3 h4 (fun b hb => AOps.nil (hK b hb))
  · exact AOps.step hP hw he (AOps.nil hK)

theorem AAnyX.sound (hP:Prg P T):∀ (n:Nat) (listed:Array Bool) (A:List D) (S:Sto),AAnyX P T B Q ops n listed A S→AMix P B Q ops n listed A S
 | 0,listed,A,S,h=>AMix.end h.1 h.2
 | n+1,listed,A,S,h=>AMix.branch _ rfl h.1 (fun i hi=>by
  obtain ⟨o,ho,hs⟩:=h.2 i hi
  refine ⟨o,ho,?_⟩
  have:StepX P T B Q ops o A S (fun A' S'=>AMix P B Q ops n (listed.setIfInBounds i true) A' S'):=by
   rcases hs with ⟨d,hq,hK⟩ | ⟨t,h1,h2,h3,h4,hK⟩ | ⟨d,S',hw,he,hK⟩
   ·exact .inl ⟨d,hq,AAnyX.sound hP n _ _ _ hK⟩
   ·exact .inr (.inl ⟨t,h1,h2,h3,h4,fun b hb=>AAnyX.sound hP n _ _ _ (hK b hb)⟩)
   ·exact .inr (.inr ⟨d,S',hw,he,AAnyX.sound hP n _ _ _ hK⟩)
  exact this.sound hP)

theorem AAnyX.first {Fs:Sto→Prop} {i:Nat} {oi:Oper} {v:D} (hi:ops[i]?=some oi) (np:Nat) (pure:Bool) (hF:∀ S b t,Fs S→fresh S b→pure=false→Fs ⟨(b,t,(T t).zero)::S.bk,S.ow⟩) (hT:pure=true→∀ S,Fs S)
  (hst:∀ j oj,ops[j]?=some oj→j<np→∀ A S d S',evalS T A S oj.op=some (d,S')→S'=S):∀ (n:Nat) (listed:Array Bool) (A:List D) (S:Sto),
  (∀ j oj,ops[j]?=some oj→j≠i→listed.getD j true=false→(∀ e∈oj.after,Region.binds .any e=true→e.on≠i)→oi.apart ops oj=true∧(pure=true∨j<np)) →
  i∈Region.ready .any ops listed→(∀ S',Fs S'→QOp P B Q ops S' oi A v)→Fs S →
  AAnyX P T B Q ops n (listed.setIfInBounds i true) (putA A oi.dst v) S→AAnyX P T B Q ops (n+1) listed A S:=by
 intro n
 induction n with
 | zero=>
  intro listed A S hfree hr hq hS H
  refine ⟨fun h=>(by rw [h] at hr;cases hr),fun j hj=>?_⟩
  by_cases hji:j=i
  ·subst hji;exact ⟨oi,hi,.inl ⟨v,hq S hS,H⟩⟩
  ·have:=ready_mono hj hji
   rw [H.1] at this
   cases this
 | succ n ih=>
  intro listed A S hfree hr hq hS H
  refine ⟨fun h=>(by rw [h] at hr;cases hr),fun j hj=>?_⟩
  by_cases hji:j=i
  ·subst hji;exact ⟨oi,hi,.inl ⟨v,hq S hS,H⟩⟩
  ·obtain ⟨oj,hoj,Hj⟩:=H.2 j (ready_mono hj hji)
   obtain ⟨hjun,oj',hoj',hall⟩:=mem_ready.1 hj
   rw [hoj] at hoj'
   simp only [Option.some.injEq] at hoj'
   subst hoj'
   have hnot:∀ e∈oj.after,Region.binds .any e=true→e.on≠i:=fun e he hb heq=>by
    have h1:=hall e he hb
    have h0:=(mem_ready.1 hr).1
    rw [heq] at h1
    rcases Nat.lt_or_ge i listed.size with h' | h'
    ·simp [h'] at h0 h1;rw [h0] at h1;cases h1
    ·simp [Array.getElem?_eq_none h'] at h1
   obtain ⟨hap,hnp⟩:=hfree j oj hoj hji hjun hnot
   obtain ⟨p1,p2,p3⟩:=Oper.apart_spec hap
   have hfree':∀ k ok,ops[k]?=some ok→k≠i→(listed.setIfInBounds j true).getD k true=false→(∀ e∈ok.after,Region.binds .any e=true→e.on≠i)→oi.apart ops ok=true∧(pure=true∨k<np):=fun k ok hk hki hun hno=>by
    refine hfree k ok hk hki ?_ hno
    by_cases hjk:j=k
    ·subst hjk;exact hjun
    ·rw [getD_set_ne true hjk] at hun;exact hun
   have go:∀ (d:D) (S':Sto),Fs S'→AAnyX P T B Q ops n ((listed.setIfInBounds i true).setIfInBounds j true) (putA (putA A oi.dst v) oj.dst d) S'→AAnyX P T B Q ops (n+1) (listed.setIfInBounds j true) (putA A oj.dst d) S':=fun d S' hS' hH=>by
    refine ih (listed.setIfInBounds j true) _ S' hfree' (ready_mono hr (Ne.symm hji)) (fun S2 h2=>(hq S2 h2).agree (agree_put A oj.dst d p3)) hS' ?_
    rw [Array.setIfInBounds_comm _ _ hji,← putA_comm A oi.dst oj.dst v d p2]
    exact hH
   have hag:=agree_put A oi.dst v p1
   refine ⟨oj,hoj,?_⟩
   rcases Hj with ⟨d,hqj,hK⟩ | ⟨t,h1,h2,h3,h4,hK⟩ | ⟨d,S',hw,he,hK⟩
   ·exact .inl ⟨d,hqj.agree hag.symm,go d S hS hK⟩
   ·refine .inr (.inl ⟨t,h1,h2,h3,h4,fun b hb=>go _ _ ?_ (hK b hb)⟩)
    cases hp:pure
    ·exact hF S b t hS hb hp
    ·exact hT hp _
   ·refine .inr (.inr ⟨d,S',(wantedA_agree hag).trans hw,(evalS_agree (T:=T) (S:=S) hag).trans he,go d S' ?_ hK⟩)
    rcases hnp with hp | hjn
    ·exact hT hp _
    ·rw [hst j oj hoj hjn _ _ _ _ he];exact hS

def ALexS (T:TypeId→Ty) (Q:AX→List D→Sto→Prop) (ops:Array Oper):List Oper→List D→Sto→Prop
 | [],A,S=>Q .normal A S
 | o::l,A,S=>∃ d S',wantedA ops A o=some true∧evalS T A S o.op=some (d,S')∧ALexS T Q ops l (putA A o.dst d) S'
theorem AAnyX.tail:∀ (l:List Oper) (k:Nat) (listed:Array Bool) (A:List D) (S:Sto),(∀ j,l[j]?=ops[k+j]?)→forcedB ops l.length k listed=true→ALexS T Q ops l A S→AAnyX P T B Q ops l.length listed A S
 | [],k,listed,A,S,hl,hf,h=>⟨by simpa [forcedB] using hf,h⟩
 | o::l,k,listed,A,S,hl,hf,h=>by
  have h0:ops[k]?=some o:=by simpa using (hl 0).symm
  simp only [List.length_cons,forcedB,Bool.and_eq_true] at hf
  obtain ⟨h1,h2⟩:=hf
  obtain ⟨d,S',hw,he,hK⟩:=h
  split at h1
  ·rename_i i hr
   have hik:i=k:=Nat.eq_of_beq_eq_true h1
   subst hik
   refine ⟨fun e=>(by rw [hr] at e;cases e),fun j hj=>?_⟩
   rw [hr] at hj
   simp only [List.mem_singleton] at hj
   subst hj
   exact ⟨o,h0,.inr (.inr ⟨d,S',hw,he,AAnyX.tail l (j+1) _ _ _ (fun i=>by have:=hl (i+1);simpa [Nat.add_assoc,Nat.add_comm 1 i] using this) h2 hK⟩)⟩
  ·cases h1

def pureOp (o:Oper):Bool:=match o.op with
 | .move _=>true
 | .assign _=>true
 | .extract _ _=>true
 | _=>false
def puO (ops:Array Oper) (k:Nat):Bool:=match ops[k]? with
 | some o=>pureOp o
 | none=>false
def ALexV (P:Program) (B:Bg) (Q:AX→List D→Sto→Prop) (ops:Array Oper) (S:Sto) (Ss:Sto→Prop) (ia:Nat):Nat→List Oper→List D→Prop
 | _,[],A=>Q .normal A S
 | k,o::l,A=>if Nat.beq k ia=true then ALexV P B Q ops S Ss ia (k+1) l A else ∃ d,(∀ S1,(pureOp o=false→Ss S1)→QOp P B Q ops S1 o A d)∧ALexV P B Q ops S Ss ia (k+1) l (putA A o.dst d)
def noStore (o:Oper):Bool:=match o.op with
 | .store _ _ _=>false
 | _=>true
def lexX (ops:Array Oper) (np ia:Nat):Nat→Nat→Array Bool→Bool
 | 0,_,_=>true
 | n+1,k,listed=>if Nat.beq k ia then lexX ops np ia n (k+1) listed else (Region.ready .any ops listed).contains k && Region.free .any ops listed k && (puO ops k || waitB ops np k) && lexX ops np ia n (k+1) (listed.setIfInBounds k true)
def setQ (listed:Array Bool) (ia:Nat):Nat→Nat→Array Bool
 | 0,_=>listed
 | n+1,k=>if Nat.beq k ia then setQ listed ia n (k+1) else setQ (listed.setIfInBounds k true) ia n (k+1)

inductive Grows (T:TypeId→Ty) (S:Sto):Sto→Prop
 | refl:Grows T S S
 | new {S1:Sto} {b:Nat} {t:TypeId}:Grows T S S1→fresh S1 b→Grows T S ⟨(b,t,(T t).zero)::S1.bk,S1.ow⟩
theorem Grows.get {b:Nat} {x:TypeId×D} (h:getM S.bk b=some x):∀ S1,Grows T S S1→getM S1.bk b=some x:=fun S1 hg=>by
 induction hg with
 | refl=>exact h
 | new hg hf ih=>
  show getM (_::_) b=_
  rw [getM_cons,if_neg (getM_ne ih hf.1)]
  exact ih

theorem QOp.of_then {K:List D→Sto→Prop} {o:Oper} {d:D} (h:QOp P B (AX.then K Q) ops S o A d):QOp P B Q ops S o A d:=fun A' hag K1 hK a w k=>by
 have:=h A' hag K1 hK a w k
 split
 ·rename_i hw
  rw [if_pos hw] at this
  exact wp_then this
 ·rename_i hw
  rw [if_neg hw] at this
  exact this

theorem AAnyX.lex {np:Nat} (hns:∀ j oj,ops[j]?=some oj→j<np→noStore oj=true) (ia:Nat) {m:Nat} {LQ:Array Bool} (Fin:List D→Prop) (hbase:∀ A,Fin A→AAnyX P T B Q ops m LQ A S) :
  ∀ (l:List Oper) (k:Nat) (listed:Array Bool) (A:List D),(∀ j o,l[j]?=some o→ops[k+j]?=some o)→lexX ops np ia l.length k listed=true→setQ listed ia l.length k=LQ →
  ALexV P B (AX.then (fun A _=>Fin A) Q) ops S (Grows T S) ia k l A→AAnyX P T B Q ops ((dropAt l k ia).length+m) listed A S
 | [],k,listed,A,hl,hB,hLQ,h=>by
  unfold dropAt
  rw [List.length_nil,Nat.zero_add]
  rw [show listed=LQ from hLQ]
  exact hbase A h
 | o::l,k,listed,A,hl,hB,hLQ,h=>by
  have h0:ops[k]?=some o:=by simpa using hl 0 o rfl
  have hl':∀ j o',l[j]?=some o'→ops[k+1+j]?=some o':=fun j o' hj=>by have:=hl (j+1) o' (by simpa using hj);simpa [Nat.add_assoc,Nat.add_comm 1 j] using this
  simp only [List.length_cons,lexX,setQ] at hB hLQ
  unfold ALexV at h
  unfold dropAt
  by_cases hk:Nat.beq k ia=true
  ·rw [if_pos hk] at hB hLQ h ⊢
   exact AAnyX.lex hns ia Fin hbase l (k+1) listed A hl' hB hLQ h
  ·rw [if_neg hk] at hB hLQ h ⊢
   simp only [Bool.and_eq_true] at hB
   obtain ⟨⟨⟨hr,hf⟩,ht⟩,hB'⟩:=hB
   obtain ⟨d,hq,hK⟩:=h
   have ih:=AAnyX.lex hns ia Fin hbase l (k+1) _ _ hl' hB' hLQ hK
   have hst:∀ j oj,ops[j]?=some oj→j<np→∀ A S d S',evalS T A S oj.op=some (d,S')→S'=S:=fun j oj hj hjn A S d S' he=>evalS_quiet (fun t x y e=>by have:=hns j oj hj hjn;unfold noStore at this;rw [e] at this;cases this) he
   rw [List.length_cons,show (dropAt l (k+1) ia).length+1+m=(dropAt l (k+1) ia).length+m+1 by omega]
   have hpk:puO ops k=pureOp o:=by unfold puO;rw [h0]
   cases hp:pureOp o with
   | true=>
    refine AAnyX.first (Fs:=fun _=>True) h0 np true (fun _ _ _ _ _ h=>by cases h) (fun _ _=>trivial) hst _ listed A S (fun j oj hj hne hun hno=>⟨Region.free_spec h0 hf j oj hj hne hun hno,.inl rfl⟩) (by simpa using hr) (fun S' _=>(hq S' (fun h=>by rw [hp] at h;cases h)).of_then) trivial ih
   | false=>
    refine AAnyX.first (Fs:=Grows T S) h0 np false (fun S1 b t hg hf _=>.new hg hf) (fun h=>by cases h) hst _ listed A S (fun j oj hj hne hun hno=>⟨Region.free_spec h0 hf j oj hj hne hun hno,.inr ?_⟩) (by simpa using hr) (fun S' hS'=>(hq S' (fun _=>hS')).of_then) .refl ih
    rw [hpk,hp,Bool.false_or] at ht
    unfold waitB at ht
    simp only [List.all_eq_true,List.mem_range] at ht
    have h1:=ht j (Array.getElem?_eq_some_iff.1 hj).1
    simp only [hj,Bool.or_eq_true] at h1
    rcases h1 with h1 | h1
    ·exact Nat.blt_eq.mp h1
    ·obtain ⟨e,he,hb⟩:=Array.any_eq_true'.1 h1
     simp only [Bool.and_eq_true,beq_iff_eq] at hb
     exact absurd hb.2 (hno e he hb.1)

theorem noStores {l:List Oper} {np:Nat} (h:(l.take np).all noStore=true):∀ j oj,l.toArray[j]?=some oj→j<np→noStore oj=true:=fun j oj hj hjn=>by
 refine List.all_eq_true.1 h oj (List.mem_of_getElem? (i:=j) ?_)
 rw [List.getElem?_take,if_pos hjn]
 simpa using hj

theorem AW.drawX (hP:Prg P T) {id:Nat} {l l2:List Oper} {oa:Oper} {t:TypeId} (np ia:Nat) (hl:np≤l.length) (h2:l.drop np=l2) (hoa:l[ia]?=some oa) (hop:oa.op=.alloc t) (hg:oa.guard=none) (ht:(T t).known=true) (hz:(T t).zero.lies=true)
  (hn:(dropAt (l.take np) 0 ia).length+1=np) (hns:(l.take np).all noStore=true) (hB:lexX l.toArray np ia np 0 (Array.replicate l.length false)=true) (hr:Region.ready .any l.toArray (setQ (Array.replicate l.length false) ia np 0)=[ia])
  (hf:forcedB l.toArray (l.length - np) np ((setQ (Array.replicate l.length false) ia np 0).setIfInBounds ia true)=true)
  (h:ALexV P B (AX.then (fun A S'=>∀ b,fresh S b→ALexS T Q l.toArray l2 (putA A oa.dst (.v (.pointer (some ⟨b,0,none⟩)))) ⟨(b,t,(T t).zero)::S.bk,S.ow⟩) Q) l.toArray S (Grows T S) ia 0 (l.take np) A):AW P B (.region id l.toArray true) Q A S:=fun a w k=>by
 refine wp_region_any hP.mixed ?_
 have hlen:(l.take np).length=np:=by rw [List.length_take];omega
 have hbase:∀ A,(∀ b,fresh S b→ALexS T Q l.toArray l2 (putA A oa.dst (.v (.pointer (some ⟨b,0,none⟩)))) ⟨(b,t,(T t).zero)::S.bk,S.ow⟩)→AAnyX P T B Q l.toArray (l2.length+1) (setQ (Array.replicate l.length false) ia np 0) A S:=fun A hA=>by
  refine ⟨fun e=>(by rw [hr] at e;cases e),fun i hi=>?_⟩
  rw [hr] at hi
  simp only [List.mem_singleton] at hi
  subst hi
  exact ⟨oa,by simpa using hoa,.inr (.inl ⟨t,hop,hg,ht,hz,fun b hb=>AAnyX.tail l2 np _ _ _ (fun j=>by rw [← h2,List.getElem?_drop];simp) (by rw [← h2,List.length_drop];exact hf) (hA b hb)⟩)⟩
 have:=AAnyX.lex (P:=P) (T:=T) (B:=B) (Q:=Q) (S:=S) (ops:=l.toArray) (np:=np) (noStores hns) ia _ hbase (l.take np) 0 (Array.replicate l.length false) A (fun j o hj=>by
  rw [List.getElem?_take] at hj
  split at hj
  ·simpa using hj
  ·cases hj) (by rw [hlen];exact hB) (by rw [hlen]) h
 have h3:=AAnyX.sound hP _ _ _ _ this a _ k.drawn
 rw [show (dropAt (l.take np) 0 ia).length+(l2.length+1)=l.length by rw [← h2,List.length_drop];omega] at h3
 simpa using h3
end

theorem Grows.get' {T:TypeId→Ty} {S S1:Sto} (hg:Grows T S S1):∀ b,(getM S.bk b).isSome=true→getM S1.bk b=getM S.bk b:=fun b h=>by
 cases hx:getM S.bk b with
 | none=>rw [hx] at h;cases h
 | some x=>exact Grows.get hx S1 hg
def reachB (ops:Array Oper):Nat→Nat→Nat→Bool
 | 0,_,_=>false
 | n+1,j,i=>match ops[j]? with
  | some o=>o.after.any fun e=>Region.binds .any e && (Nat.beq e.on i || reachB ops n e.on i)
  | none=>false
def Closed (ops:Array Oper) (listed:Array Bool):Prop:=∀ j o,listed.getD j false=true→ops[j]?=some o→∀ e∈o.after,Region.binds .any e=true→listed.getD e.on false=true
section
variable {P : Program} {T : TypeId → Ty} {B : Bg} {Q : AX → List D → Sto → Prop} {S : Sto} {A : List D} {ops : Array Oper}
theorem reach_listed {listed:Array Bool} (hc:Closed ops listed):∀ (n j i:Nat) (o:Oper),ops[j]?=some o→(∀ e∈o.after,Region.binds .any e=true→listed.getD e.on false=true)→reachB ops n j i=true→listed.getD i false=true
 | 0,_,_,_,_,_,h=>by cases h
 | n+1,j,i,o,ho,hall,h=>by
  unfold reachB at h
  rw [ho] at h
  obtain ⟨e,he,hb⟩:=Array.any_eq_true'.1 h
  simp only [Bool.and_eq_true,Bool.or_eq_true] at hb
  have hl:=hall e he hb.1
  rcases hb.2 with h1 | h1
  ·have:e.on=i:=Nat.eq_of_beq_eq_true h1
   rw [← this];exact hl
  ·cases hoe:ops[e.on]? with
   | none=>cases n with
    | zero=>cases h1
    | succ n=>unfold reachB at h1;rw [hoe] at h1;cases h1
   | some o'=>exact reach_listed hc n e.on i o' hoe (fun e' he' hb'=>hc e.on o' hl hoe e' he' hb') h1
theorem getD_tf {listed:Array Bool} {i:Nat} (h:listed.getD i false=true):listed.getD i true=true:=by
 rcases Nat.lt_or_ge i listed.size with h' | h'
 ·simp [h'] at h ⊢;exact h
 ·simp [Array.getElem?_eq_none h'] at h
theorem Closed.set {listed:Array Bool} (hc:Closed ops listed) {j:Nat} (hj:j∈Region.ready .any ops listed):Closed ops (listed.setIfInBounds j true):=fun k o hk ho e he hb=>by
 by_cases hkj:j=k
 ·subst hkj
  obtain ⟨_,o',ho',hall⟩:=mem_ready.1 hj
  rw [ho] at ho'
  simp only [Option.some.injEq] at ho'
  subst ho'
  exact getD_set_true (hall e he hb)
 ·rw [getD_set_ne false hkj] at hk
  exact getD_set_true (hc k o hk ho e he hb)

theorem AAnyK.first2 {np F:Nat} {K:Array Bool→List D→Prop} {i:Nat} {oi:Oper} {v:D} (hi:ops[i]?=some oi) (hin:i<np) (hreach:∀ j,np≤j→j<ops.size→reachB ops F j i=true):∀ (n:Nat) (listed:Array Bool) (A:List D),Closed ops listed →
  (∀ j oj,ops[j]?=some oj→j≠i→listed.getD j true=false→(∀ e∈oj.after,Region.binds .any e=true→e.on≠i)→oi.apart ops oj=true) →
  i∈Region.ready .any ops listed→QOp P B Q ops S oi A v→AAnyK P B Q ops S np K n (listed.setIfInBounds i true) (putA A oi.dst v)→AAnyK P B Q ops S np K (n+1) listed A:=by
 have hlt:∀ (listed:Array Bool) j,Closed ops listed→i∈Region.ready .any ops listed→j∈Region.ready .any ops listed→j<np:=fun listed j hc hr hj=>by
  rcases Nat.lt_or_ge j np with h | h
  ·exact h
  ·exfalso
   obtain ⟨_,oj,hoj,hall⟩:=mem_ready.1 hj
   have h1:=getD_tf (reach_listed hc F j i oj hoj hall (hreach j h (Array.getElem?_eq_some_iff.1 hoj).1))
   have h0:=(mem_ready.1 hr).1
   rw [h1] at h0;cases h0
 intro n
 induction n with
 | zero=>
  intro listed A hc hfree hr hq H
  refine ⟨fun h=>(by rw [h] at hr;cases hr),fun j hj=>?_⟩
  by_cases hji:j=i
  ·subst hji;exact ⟨hin,oi,v,hi,hq,H⟩
  ·exfalso
   have h1:=H.1 j (ready_mono hj hji)
   have:=hlt listed j hc hr hj
   omega
 | succ n ih=>
  intro listed A hc hfree hr hq H
  refine ⟨fun h=>(by rw [h] at hr;cases hr),fun j hj=>?_⟩
  by_cases hji:j=i
  ·subst hji;exact ⟨hin,oi,v,hi,hq,H⟩
  ·obtain ⟨hjn,oj,u,hoj,hqj,Hj⟩:=H.2 j (ready_mono hj hji)
   obtain ⟨hjun,oj',hoj',hall⟩:=mem_ready.1 hj
   rw [hoj] at hoj'
   simp only [Option.some.injEq] at hoj'
   subst hoj'
   have hnot:∀ e∈oj.after,Region.binds .any e=true→e.on≠i:=fun e he hb heq=>by
    have h1:=hall e he hb
    have h0:=(mem_ready.1 hr).1
    rw [heq] at h1
    rw [getD_tf h1] at h0;cases h0
   obtain ⟨p1,p2,p3⟩:=Oper.apart_spec (hfree j oj hoj hji hjun hnot)
   refine ⟨hjn,oj,u,hoj,hqj.agree (agree_put A oi.dst v p1).symm,?_⟩
   refine ih (listed.setIfInBounds j true) (putA A oj.dst u) (hc.set hj) (fun k ok hk hki hun hno=>?_) (ready_mono hr (Ne.symm hji)) (hq.agree (agree_put A oj.dst u p3)) ?_
   ·refine hfree k ok hk hki ?_ hno
    by_cases hjk:j=k
    ·subst hjk;exact hjun
    ·rw [getD_set_ne true hjk] at hun;exact hun
   ·rw [Array.setIfInBounds_comm _ _ hji,← putA_comm A oi.dst oj.dst v u p2]
    exact Hj
def lexZ (ops:Array Oper) (np:Nat):Nat→Nat→Array Bool→Bool
 | 0,_,listed=>(Region.ready .any ops listed).all fun j=>Nat.ble np j
 | n+1,k,listed=>Nat.blt k np && (Region.ready .any ops listed).contains k && Region.free .any ops listed k && ((List.range ops.size).all fun j=>Nat.blt j np || reachB ops ops.size j k) && lexZ ops np n (k+1) (listed.setIfInBounds k true)
theorem AAnyK.lex2 {np:Nat} {K:List D→Prop} {LF:Array Bool}:∀ (l:List Oper) (k:Nat) (listed:Array Bool) (A:List D),Closed ops listed→(∀ j o,l[j]?=some o→ops[k+j]?=some o)→lexZ ops np l.length k listed=true→setTo listed l.length k=LF →
  ALex P B (AX.then (fun A _=>K A) Q) ops S l A→AAnyK P B (AX.then (fun A _=>K A) Q) ops S np (fun listed A=>listed=LF∧K A) l.length listed A
 | [],k,listed,A,hc,hl,hB,hLF,h=>⟨fun j hj=>by
   simp only [List.length_nil,lexZ,List.all_eq_true] at hB
   exact Nat.le_of_ble_eq_true (hB j hj),hLF,h⟩
 | o::l,k,listed,A,hc,hl,hB,hLF,h=>by
  have h0:ops[k]?=some o:=by simpa using hl 0 o rfl
  simp only [List.length_cons,lexZ,Bool.and_eq_true] at hB
  obtain ⟨⟨⟨⟨hk,hr⟩,hf⟩,ht⟩,hB'⟩:=hB
  obtain ⟨d,hq,hK⟩:=h
  have hr':k∈Region.ready .any ops listed:=by simpa using hr
  refine AAnyK.first2 (F:=ops.size) h0 (Nat.blt_eq.mp hk) (fun j hj hjs=>?_) l.length listed A hc (fun j oj hj hne hun hno=>Region.free_spec h0 hf j oj hj hne hun hno) hr' hq
   (AAnyK.lex2 l (k+1) _ _ (hc.set hr') (fun j o' hj=>by have:=hl (j+1) o' (by simpa using hj);simpa [Nat.add_assoc,Nat.add_comm 1 j] using this) hB' hLF hK)
  simp only [List.all_eq_true,List.mem_range] at ht
  have h1:=ht j hjs
  simp only [Bool.or_eq_true] at h1
  rcases h1 with h1 | h1
  ·have:=Nat.blt_eq.mp h1;omega
  ·exact h1
theorem Closed.none (n:Nat):Closed ops (Array.replicate n false):=fun j o h=>by
 rcases Nat.lt_or_ge j n with h' | h' <;> simp [h'] at h
theorem AW.drawZ (hP:Prg P T) {id:Nat} {l l1 l2:List Oper} (np:Nat) (h1:l.take np=l1) (h2:l.drop np=l2) (hl:np≤l.length) (hB:lexZ l.toArray np np 0 (Array.replicate l.length false)=true) (hf:forcedB l.toArray (l.length - np) np (setTo (Array.replicate l.length false) np 0)=true)
  (h:ALex P B (AX.then (fun A S'=>AOps P B l.toArray Q l2 A S) Q) l.toArray S l1 A):AW P B (.region id l.toArray true) Q A S:=fun a w k=>by
 refine wp_region_any hP.mixed ?_
 have hlen:(l.take np).length=np:=by rw [List.length_take];omega
 subst h1
 have:=AAnyK.lex2 (P:=P) (B:=B) (Q:=Q) (S:=S) (ops:=l.toArray) (np:=np) (LF:=setTo (Array.replicate l.length false) np 0) (K:=fun A=>AOps P B l.toArray Q l2 A S) (l.take np) 0 (Array.replicate l.length false) A (Closed.none _) (fun j o hj=>by
  rw [List.getElem?_take] at hj
  split at hj
  ·simpa using hj
  ·cases hj) (by rw [hlen];exact hB) (by rw [hlen]) h
 rw [hlen] at this
 have h3:=AAnyK.sound (P:=P) (B:=B) (Q:=Q) (S:=S) (m:=l.length - np) (fun listed A a w hk ka=>by
  obtain ⟨rfl,hk⟩:=hk
  have:=AMix.forced (P:=P) (B:=B) (Q:=Q) (S:=S) (A:=A) (ops:=l.toArray) (l:=l2) (k:=np) (by simpa using h2) (by rw [← h2,List.length_drop];exact hf) hk
  rw [← h2,List.length_drop] at this
  exact this a w ka) np (Array.replicate l.length false) A this a _ k.drawn
 rw [show np+(l.length - np)=l.length by omega] at h3
 simpa using h3
end

def npS:List Oper→Nat
 | []=>0
 | o::l=>match o.op with
  | .store _ _ _=>0
  | _=>npS l+1
def iaS:List Oper→Nat
 | []=>0
 | o::l=>match o.op with
  | .alloc _=>0
  | _=>iaS l+1
section
variable {B : Bg} {Q : AX → List D → Sto → Prop} {A A' : List D} {S S' : Sto} {ops : Array Oper} {l : List Oper} {R : Prop} {o : Oper} {id k k' ia : Nat}
theorem v0 (c:ALexV Tryz.prog B Q ops S (Grows tys S) ia k' l A) (hk:Nat.beq k ia=true:=by rfl) (h1:k+1=k':=by rfl):ALexV Tryz.prog B Q ops S (Grows tys S) ia k (o::l) A:=by
 subst h1;unfold ALexV;rw [if_pos hk];exact c
theorem vstep {d:D} (hk:Nat.beq k ia=false) (hq:∀ S1,(pureOp o=false→Grows tys S S1)→QOp Tryz.prog B Q ops S1 o A d) (h1:k+1=k') (hA:putA A o.dst d=A') (c:ALexV Tryz.prog B Q ops S (Grows tys S) ia k' l A'):ALexV Tryz.prog B Q ops S (Grows tys S) ia k (o::l) A:=by
 subst h1;subst hA;unfold ALexV;rw [if_neg (by rw [hk];simp)];exact ⟨d,hq,c⟩
theorem v1 {d:D} (c:ALexV Tryz.prog B Q ops S (Grows tys S) ia k' l A') (hp:pureOp o=true:=by rfl) (hk:Nat.beq k ia=false:=by rfl) (hw:wantedA ops A o=some true:=by (first | rfl | (simp only [go_sem,Int.reduceEq,Int.reduceLT,Int.reduceBEq,Int.reduceBNe,Int.reduceNe,Nat.reduceLeDiff,Nat.reduceAdd,Nat.reduceSub,Nat.reduceLT,Nat.reduceEqDiff,Nat.reduceBEq,Int.reduceLE,Int.reduceToNat,F];done) | (simp only [go_sem,Int.reduceEq,Int.reduceLT,Int.reduceBEq,Int.reduceBNe,Int.reduceNe,Nat.reduceLeDiff,Nat.reduceAdd,Nat.reduceSub,Nat.reduceLT,Nat.reduceEqDiff,Nat.reduceBEq,Int.reduceLE,Int.reduceToNat,F];rfl))) (he:∀ S1,evalS tys A S1 o.op=some (d,S1):=by (intro S1;simp only [go_sem,Int.reduceEq,Int.reduceLT,Int.reduceBEq,Int.reduceBNe,Int.reduceNe,Nat.reduceLeDiff,Nat.reduceAdd,Nat.reduceSub,Nat.reduceLT,Nat.reduceEqDiff,Nat.reduceBEq,Int.reduceLE,Int.reduceToNat,F];rfl)) (hA:putA A o.dst d=A':=by (simp only [go_sem,Int.reduceEq,Int.reduceLT,Int.reduceBEq,Int.reduceBNe,Int.reduceNe,Nat.reduceLeDiff,Nat.reduceAdd,Nat.reduceSub,Nat.reduceLT,Nat.reduceEqDiff,Nat.reduceBEq,Int.reduceLE,Int.reduceToNat];rfl)) (h1:k+1=k':=by rfl):ALexV Tryz.prog B Q ops S (Grows tys S) ia k (o::l) A:=
 vstep hk (fun S1 _=>QOp.step prg hw (he S1)) h1 hA c
theorem v2 {d:D} (c:ALexV Tryz.prog B Q ops S (Grows tys S) ia k' l A') (hp:pureOp o=false:=by rfl) (hk:Nat.beq k ia=false:=by rfl) (hw:wantedA ops A o=some true:=by (first | rfl | (simp only [go_sem,Int.reduceEq,Int.reduceLT,Int.reduceBEq,Int.reduceBNe,Int.reduceNe,Nat.reduceLeDiff,Nat.reduceAdd,Nat.reduceSub,Nat.reduceLT,Nat.reduceEqDiff,Nat.reduceBEq,Int.reduceLE,Int.reduceToNat,F];done) | (simp only [go_sem,Int.reduceEq,Int.reduceLT,Int.reduceBEq,Int.reduceBNe,Int.reduceNe,Nat.reduceLeDiff,Nat.reduceAdd,Nat.reduceSub,Nat.reduceLT,Nat.reduceEqDiff,Nat.reduceBEq,Int.reduceLE,Int.reduceToNat,F];rfl))) (he:∀ S1,Grows tys S S1→evalS tys A S1 o.op=some (d,S1):=by (intro S1 hS1;have G:=Grows.get' hS1;simp only [go_sem,Int.reduceEq,Int.reduceLT,Int.reduceBEq,Int.reduceBNe,Int.reduceNe,Nat.reduceLeDiff,Nat.reduceAdd,Nat.reduceSub,Nat.reduceLT,Nat.reduceEqDiff,Nat.reduceBEq,Int.reduceLE,Int.reduceToNat,F,G,Option.isSome_some];rfl)) (hA:putA A o.dst d=A':=by (simp only [go_sem,Int.reduceEq,Int.reduceLT,Int.reduceBEq,Int.reduceBNe,Int.reduceNe,Nat.reduceLeDiff,Nat.reduceAdd,Nat.reduceSub,Nat.reduceLT,Nat.reduceEqDiff,Nat.reduceBEq,Int.reduceLE,Int.reduceToNat];rfl)) (h1:k+1=k':=by rfl):ALexV Tryz.prog B Q ops S (Grows tys S) ia k (o::l) A:=
 vstep hk (fun S1 h=>QOp.step prg hw (he S1 (h hp))) h1 hA c
theorem v3 (c:ALexV Tryz.prog B Q ops S (Grows tys S) ia k' l A') (hk:Nat.beq k ia=false:=by rfl) (hw:wantedA ops A o=some false:=by (first | rfl | (simp only [go_sem,Int.reduceEq,Int.reduceLT,Int.reduceBEq,Int.reduceBNe,Int.reduceNe,Nat.reduceLeDiff,Nat.reduceAdd,Nat.reduceSub,Nat.reduceLT,Nat.reduceEqDiff,Nat.reduceBEq,Int.reduceLE,Int.reduceToNat,F];done) | (simp only [go_sem,Int.reduceEq,Int.reduceLT,Int.reduceBEq,Int.reduceBNe,Int.reduceNe,Nat.reduceLeDiff,Nat.reduceAdd,Nat.reduceSub,Nat.reduceLT,Nat.reduceEqDiff,Nat.reduceBEq,Int.reduceLE,Int.reduceToNat,F];rfl))) (hA:putA A o.dst (.tup [])=A':=by (simp only [go_sem,Int.reduceEq,Int.reduceLT,Int.reduceBEq,Int.reduceBNe,Int.reduceNe,Nat.reduceLeDiff,Nat.reduceAdd,Nat.reduceSub,Nat.reduceLT,Nat.reduceEqDiff,Nat.reduceBEq,Int.reduceLE,Int.reduceToNat];rfl)) (h1:k+1=k':=by rfl):ALexV Tryz.prog B Q ops S (Grows tys S) ia k (o::l) A:=
 vstep hk (fun S1 _=>QOp.skip hw) h1 hA c
theorem v4 {f:FuncId} {args:Array Operand} {ats:Array TypeId} {d:D} (ho:o.op=.call ⟨.value (.func f),args,ats⟩:=by rfl) (hk:Nat.beq k ia=false:=by rfl) (hw:wantedA ops A o=some true:=by rfl) (c:∀ S1,ACalls Tryz.prog f (args.toList.map (evalO A)) S1 (RetQ d S1)) (n:ALexV Tryz.prog B Q ops S (Grows tys S) ia k' l A') (hA:putA A o.dst d=A':=by (simp only [go_sem,Int.reduceEq,Int.reduceLT,Int.reduceBEq,Int.reduceBNe,Int.reduceNe,Nat.reduceLeDiff,Nat.reduceAdd,Nat.reduceSub,Nat.reduceLT,Nat.reduceEqDiff,Nat.reduceBEq,Int.reduceLE,Int.reduceToNat];rfl)) (h1:k+1=k':=by rfl):ALexV Tryz.prog B Q ops S (Grows tys S) ia k (o::l) A:=
 vstep hk (fun S1 _=>QOp.call ho hw rfl (c S1)) h1 hA n
theorem v5 (k1:R) (h:Q .normal A S=R:=by ((try dsimp only [AX.then,AX.inBlock]);try rfl)):ALexV Tryz.prog B Q ops S (Grows tys S) ia k [] A:=(show Q .normal A S from h ▸ k1)
theorem v6 {d:D} (c:ALexS tys Q ops l A' S') (hw:wantedA ops A o=some true:=by (first | rfl | (simp only [go_sem,Int.reduceEq,Int.reduceLT,Int.reduceBEq,Int.reduceBNe,Int.reduceNe,Nat.reduceLeDiff,Nat.reduceAdd,Nat.reduceSub,Nat.reduceLT,Nat.reduceEqDiff,Nat.reduceBEq,Int.reduceLE,Int.reduceToNat,F];done) | (simp only [go_sem,Int.reduceEq,Int.reduceLT,Int.reduceBEq,Int.reduceBNe,Int.reduceNe,Nat.reduceLeDiff,Nat.reduceAdd,Nat.reduceSub,Nat.reduceLT,Nat.reduceEqDiff,Nat.reduceBEq,Int.reduceLE,Int.reduceToNat,F];rfl))) (he:evalS tys A S o.op=some (d,S'):=by (simp only [go_sem,Int.reduceEq,Int.reduceLT,Int.reduceBEq,Int.reduceBNe,Int.reduceNe,Nat.reduceLeDiff,Nat.reduceAdd,Nat.reduceSub,Nat.reduceLT,Nat.reduceEqDiff,Nat.reduceBEq,Int.reduceLE,Int.reduceToNat,F];rfl)) (hA:putA A o.dst d=A':=by (simp only [go_sem,Int.reduceEq,Int.reduceLT,Int.reduceBEq,Int.reduceBNe,Int.reduceNe,Nat.reduceLeDiff,Nat.reduceAdd,Nat.reduceSub,Nat.reduceLT,Nat.reduceEqDiff,Nat.reduceBEq,Int.reduceLE,Int.reduceToNat];rfl)):ALexS tys Q ops (o::l) A S:=⟨d,S',hw,he,by rw [hA];exact c⟩
theorem v7 (k1:R) (h:Q .normal A S=R:=by ((try dsimp only [AX.then,AX.inBlock]);try rfl)):ALexS tys Q ops [] A S:=(show Q .normal A S from h ▸ k1)
theorem vx {l1 l2:List Oper} {oa:Oper} {t:TypeId} {np:Nat} (c:ALexV Tryz.prog B (AX.then (fun A S'=>∀ b,fresh S b→ALexS tys Q l.toArray l2 (putA A oa.dst (.v (.pointer (some ⟨b,0,none⟩)))) ⟨(b,t,(tys t).zero)::S.bk,S.ow⟩) Q) l.toArray S (Grows tys S) ia 0 l1 A)
  (hnp:npS l=np:=by (simp only [npS];rfl)) (hia:iaS l=ia:=by (simp only [iaS];rfl)) (h1:l.take np=l1:=by (simp only [List.take_succ_cons,List.take_zero];rfl)) (h2:l.drop np=l2:=by (simp only [List.drop_succ_cons,List.drop_zero];rfl)) (hoa:l[ia]?=some oa:=by rfl) (hop:oa.op=.alloc t:=by rfl) (hg:oa.guard=none:=by rfl) (ht:(tys t).known=true:=by rfl) (hz:(tys t).zero.lies=true:=by rfl)
  (hn:(dropAt (l.take np) 0 ia).length+1=np:=by rfl) (hl:Nat.ble np l.length=true:=by rfl) (hns:(l.take np).all noStore=true:=by rfl) (hB:lexX l.toArray np ia np 0 (Array.replicate l.length false)=true:=by kernel_rfl) (hr:Region.ready .any l.toArray (setQ (Array.replicate l.length false) ia np 0)=[ia]:=by kernel_rfl)
  (hf:forcedB l.toArray (l.length - np) np ((setQ (Array.replicate l.length false) ia np 0).setIfInBounds ia true)=true:=by kernel_rfl):AW Tryz.prog B (.region id l.toArray true) Q A S:=
 AW.drawX prg np ia (Nat.le_of_ble_eq_true hl) h2 hoa hop hg ht hz hn hns hB hr hf (by rw [h1];exact c)
theorem vz {l1 l2:List Oper} (np:Nat) (c:ALex Tryz.prog B (AX.then (fun A S'=>AOps Tryz.prog B l.toArray Q l2 A S) Q) l.toArray S l1 A) (h1:l.take np=l1:=by (simp only [List.take_succ_cons,List.take_zero];rfl)) (h2:l.drop np=l2:=by (simp only [List.drop_succ_cons,List.drop_zero];rfl)) (hl:Nat.ble np l.length=true:=by rfl)
  (hB:lexZ l.toArray np np 0 (Array.replicate l.length false)=true:=by kernel_rfl) (hf:forcedB l.toArray (l.length - np) np (setTo (Array.replicate l.length false) np 0)=true:=by kernel_rfl):AW Tryz.prog B (.region id l.toArray true) Q A S:=AW.drawZ prg np h1 h2 (Nat.le_of_ble_eq_true hl) hB hf c
theorem Wu {f H G:Prop} (F:f) (k:H) (h:f→H→G:=by (intro F k;(repeat (first | refine v1 ?_ | refine v2 ?_ | refine v3 ?_ | refine v0 ?_ | refine v5 ?_ | refine v6 ?_ | refine v7 ?_));exact k)):G:=h F k
theorem cU {c H G:Prop} (X:c) (k:H) (h:c→H→G:=by (intro c k;exact v4 (c:=c) (n:=k))):G:=h X k
end

end Go.Proofs.YtcaggadjkccbiaaGreat