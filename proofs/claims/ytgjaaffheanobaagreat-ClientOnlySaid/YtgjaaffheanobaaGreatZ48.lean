/- Values without addresses: statements whose order is open, in which a new variable is laid at some time. -/
import Derived.Test.YtgjaaffheanobaaGreatZ43
namespace Go.Proofs.YtgjaaffheanobaaGreat
set_option linter.unusedVariables false
set_option linter.unusedSimpArgs false
open Go Go.RowKit

section
variable {P : Program} {T : TypeId → Ty} {B : Bg} {Q : AX → List D → Sto → Prop} {S : Sto} {A : List D} {ops : Array Oper}

def Sto.with (S:Sto) (t:TypeId) (z:D):Option Nat→Sto
 | none=>S
 | some b=>⟨(b,t,z)::S.bk,S.ow⟩
def fresh (S:Sto) (b:Nat):Prop:=b ∉ S.bk.map (·.1)∧b ∉ S.ow.map (·.1)

def AAnyA (P:Program) (B:Bg) (Q:AX→List D→Sto→Prop) (ops:Array Oper) (S:Sto) (t:TypeId) (z:D) (np ia:Nat) (dst:Option Tmp) (K:Array Bool→List D→Nat→Prop):Nat→Array Bool→List D→Option Nat→Prop
 | 0,listed,A,ob=>(∀ j∈Region.ready .any ops listed,np≤j)∧∃ b,ob=some b∧K listed A b
 | n+1,listed,A,ob=>Region.ready .any ops listed≠[]∧∀ i∈Region.ready .any ops listed,i<np ∧
   if i=ia then ob=none∧∀ b,fresh S b→AAnyA P B Q ops S t z np ia dst K n (listed.setIfInBounds i true) (putA A dst (.v (.pointer (some ⟨b,0,none⟩)))) (some b)
   else ∃ o d,ops[i]?=some o∧QOp P B Q ops (S.with t z ob) o A d∧AAnyA P B Q ops S t z np ia dst K n (listed.setIfInBounds i true) (putA A o.dst d) ob

theorem AAnyA.first {t:TypeId} {z:D} {np ia:Nat} {oa:Oper} {K:Array Bool→List D→Nat→Prop} {i:Nat} {oi:Oper} {v:D} (ha:ops[ia]?=some oa) (hi:ops[i]?=some oi) (hin:i<np) (hia:i≠ia):∀ (n:Nat) (listed:Array Bool) (A:List D) (ob:Option Nat),
  (∀ j oj,ops[j]?=some oj→j≠i→listed.getD j true=false→(∀ e∈oj.after,Region.binds .any e=true→e.on≠i)→oi.apart ops oj=true∧j<np) →
  i∈Region.ready .any ops listed→(∀ ob,(∀ b,ob=some b→fresh S b)→QOp P B Q ops (S.with t z ob) oi A v)→(∀ b,ob=some b→fresh S b) →
  AAnyA P B Q ops S t z np ia oa.dst K n (listed.setIfInBounds i true) (putA A oi.dst v) ob→AAnyA P B Q ops S t z np ia oa.dst K (n+1) listed A ob:=by
 intro n
 induction n with
 | zero=>
  intro listed A ob hfree hr hq hob H
  refine ⟨fun h=>(by rw [h] at hr;cases hr),fun j hj=>?_⟩
  by_cases hji:j=i
  ·subst hji;rw [if_neg hia];exact ⟨hin,oi,v,hi,hq ob hob,H⟩
  ·exfalso
   have h1:=H.1 j (ready_mono hj hji)
   obtain ⟨hjun,oj,hoj,hall⟩:=mem_ready.1 hj
   have hnot:∀ e∈oj.after,Region.binds .any e=true→e.on≠i:=fun e he hb heq=>by
    have h1:=hall e he hb
    have h0:=(mem_ready.1 hr).1
    rw [heq] at h1
    rcases Nat.lt_or_ge i listed.size with h' | h'
    ·simp [h'] at h0 h1;rw [h0] at h1;cases h1
    ·simp [Array.getElem?_eq_none h'] at h1
   have:=(hfree j oj hoj hji hjun hnot).2
   omega
 | succ n ih=>
  intro listed A ob hfree hr hq hob H
  refine ⟨fun h=>(by rw [h] at hr;cases hr),fun j hj=>?_⟩
  by_cases hji:j=i
  ·subst hji;rw [if_neg hia];exact ⟨hin,oi,v,hi,hq ob hob,H⟩
  ·obtain ⟨hjn,Hj⟩:=H.2 j (ready_mono hj hji)
   obtain ⟨hjun,oj,hoj,hall⟩:=mem_ready.1 hj
   have hnot:∀ e∈oj.after,Region.binds .any e=true→e.on≠i:=fun e he hb heq=>by
    have h1:=hall e he hb
    have h0:=(mem_ready.1 hr).1
    rw [heq] at h1
    rcases Nat.lt_or_ge i listed.size with h' | h'
    ·simp [h'] at h0 h1;rw [h0] at h1;cases h1
    ·simp [Array.getElem?_eq_none h'] at h1
   obtain ⟨p1,p2,p3⟩:=Oper.apart_spec (hfree j oj hoj hji hjun hnot).1
   have hfree':∀ k ok,ops[k]?=some ok→k≠i→(listed.setIfInBounds j true).getD k true=false→(∀ e∈ok.after,Region.binds .any e=true→e.on≠i)→oi.apart ops ok=true∧k<np:=fun k ok hk hki hun hno=>by
    refine hfree k ok hk hki ?_ hno
    by_cases hjk:j=k
    ·subst hjk;exact hjun
    ·rw [getD_set_ne true hjk] at hun;exact hun
   refine ⟨hjn,?_⟩
   by_cases hja:j=ia
   ·rw [if_pos hja] at Hj ⊢
    obtain ⟨h1,h2⟩:=Hj
    subst h1
    refine ⟨rfl,fun b hb=>?_⟩
    have hoa:oj=oa:=by rw [hja,ha] at hoj;simpa using hoj.symm
    subst hoa
    refine ih (listed.setIfInBounds j true) _ (some b) hfree' (ready_mono hr (Ne.symm hji)) (fun ob' hob'=>(hq ob' hob').agree (agree_put A oj.dst _ p3)) (fun b' hb'=>by simp only [Option.some.injEq] at hb';subst hb';exact hb) ?_
    rw [Array.setIfInBounds_comm _ _ hji,← putA_comm A oi.dst oj.dst v _ p2]
    exact h2 b hb
   ·rw [if_neg hja] at Hj ⊢
    obtain ⟨oj',u,hoj',hqj,Hj⟩:=Hj
    rw [hoj] at hoj'
    simp only [Option.some.injEq] at hoj'
    subst hoj'
    refine ⟨oj,u,hoj,hqj.agree (agree_put A oi.dst v p1).symm,?_⟩
    refine ih (listed.setIfInBounds j true) (putA A oj.dst u) ob hfree' (ready_mono hr (Ne.symm hji)) (fun ob' hob'=>(hq ob' hob').agree (agree_put A oj.dst u p3)) hob ?_
    rw [Array.setIfInBounds_comm _ _ hji,← putA_comm A oi.dst oj.dst v u p2]
    exact Hj

def lexA (ops:Array Oper) (np ia:Nat):Nat→Nat→Array Bool→Bool
 | 0,_,listed=>(match Region.ready .any ops listed with | [i]=>Nat.beq i ia | _=>false) && Nat.blt ia np && ((Region.ready .any ops (listed.setIfInBounds ia true)).all fun j=>Nat.ble np j)
 | n+1,k,listed=>if Nat.beq k ia then lexA ops np ia n (k+1) listed else Nat.blt k np && (Region.ready .any ops listed).contains k && Region.free .any ops listed k && waitB ops np k && lexA ops np ia n (k+1) (listed.setIfInBounds k true)
def setA (listed:Array Bool) (ia:Nat):Nat→Nat→Array Bool
 | 0,_=>listed.setIfInBounds ia true
 | n+1,k=>if Nat.beq k ia then setA listed ia n (k+1) else setA (listed.setIfInBounds k true) ia n (k+1)
def dropAt:List Oper→Nat→Nat→List Oper
 | [],_,_=>[]
 | o::l,k,ia=>if Nat.beq k ia then dropAt l (k+1) ia else o::dropAt l (k+1) ia

def Wth (S:Sto) (t:TypeId) (z:D) (S1:Sto):Prop:=∃ ob,(∀ b,ob=some b→fresh S b)∧S1=S.with t z ob
def ALexU (P:Program) (B:Bg) (Q:AX→List D→Sto→Prop) (ops:Array Oper) (S:Sto) (Ss:Sto→Prop):List Oper→List D→Prop
 | [],A=>Q .normal A S
 | o::l,A=>∃ d,(∀ S1,Ss S1→QOp P B Q ops S1 o A d)∧ALexU P B Q ops S Ss l (putA A o.dst d)

theorem AAnyA.lex {t:TypeId} {z:D} {np ia:Nat} {oa:Oper} {K:List D→Nat→Prop} {LF:Array Bool} (ha:ops[ia]?=some oa):∀ (l:List Oper) (k:Nat) (listed:Array Bool) (A:List D),(∀ j o,l[j]?=some o→ops[k+j]?=some o)→lexA ops np ia l.length k listed=true→setA listed ia l.length k=LF →
  ALexU P B (AX.then (fun A _=>∀ b,fresh S b→K (putA A oa.dst (.v (.pointer (some ⟨b,0,none⟩)))) b) Q) ops S (Wth S t z) (dropAt l k ia) A →
  AAnyA P B (AX.then (fun A _=>∀ b,fresh S b→K (putA A oa.dst (.v (.pointer (some ⟨b,0,none⟩)))) b) Q) ops S t z np ia oa.dst (fun listed A b=>listed=LF∧K A b∧fresh S b) ((dropAt l k ia).length+1) listed A none
 | [],k,listed,A,hl,hB,hLF,h=>by
  simp only [List.length_nil,lexA,Bool.and_eq_true] at hB
  obtain ⟨⟨h1,h2⟩,h3⟩:=hB
  split at h1
  ·rename_i i hr
   have hii:i=ia:=Nat.eq_of_beq_eq_true h1
   subst hii
   refine ⟨fun e=>(by rw [hr] at e;cases e),fun j hj=>?_⟩
   rw [hr] at hj
   simp only [List.mem_singleton] at hj
   subst hj
   refine ⟨Nat.blt_eq.mp h2,?_⟩
   rw [if_pos rfl]
   exact ⟨rfl,fun b hb=>⟨fun j' hj'=>Nat.le_of_ble_eq_true (List.all_eq_true.1 h3 j' hj'),b,rfl,hLF,h b hb,hb⟩⟩
  ·cases h1
 | o::l,k,listed,A,hl,hB,hLF,h=>by
  have h0:ops[k]?=some o:=by simpa using hl 0 o rfl
  have hl':∀ j o',l[j]?=some o'→ops[k+1+j]?=some o':=fun j o' hj=>by have:=hl (j+1) o' (by simpa using hj);simpa [Nat.add_assoc,Nat.add_comm 1 j] using this
  simp only [List.length_cons,lexA,setA] at hB hLF
  unfold dropAt at h ⊢
  by_cases hk:Nat.beq k ia=true
  ·rw [if_pos hk] at hB hLF h ⊢
   exact AAnyA.lex ha l (k+1) listed A hl' hB hLF h
  ·rw [if_neg hk] at hB hLF h ⊢
   simp only [Bool.and_eq_true] at hB
   obtain ⟨⟨⟨⟨hkn,hr⟩,hf⟩,ht⟩,hB'⟩:=hB
   have hne:k≠ia:=fun e=>hk (by subst e;exact Nat.beq_refl k)
   obtain ⟨d,hq,hK⟩:=h
   refine AAnyA.first ha h0 (Nat.blt_eq.mp hkn) hne (dropAt l (k+1) ia).length.succ listed A none (fun j oj hj hne hun hno=>⟨Region.free_spec h0 hf j oj hj hne hun hno,?_⟩) (by simpa using hr) (fun ob hob=>hq _ ⟨ob,hob,rfl⟩) (fun b h=>by cases h)
    (AAnyA.lex ha l (k+1) _ _ hl' hB' hLF hK)
   unfold waitB at ht
   simp only [List.all_eq_true,List.mem_range] at ht
   have h1:=ht j (Array.getElem?_eq_some_iff.1 hj).1
   simp only [hj,Bool.or_eq_true] at h1
   rcases h1 with h1 | h1
   ·exact Nat.blt_eq.mp h1
   ·obtain ⟨e,he,hb⟩:=Array.any_eq_true'.1 h1
    simp only [Bool.and_eq_true,beq_iff_eq] at hb
    exact absurd hb.2 (hno e he hb.1)

theorem AAnyA.sound (hP:Prg P T) {t:TypeId} {np ia:Nat} {oa:Oper} {KS:List D→Sto→Prop} {K:Array Bool→List D→Nat→Prop} {m:Nat} (ha:ops[ia]?=some oa) (hop:oa.op=.alloc t) (hg:oa.guard=none) (ht:(T t).known=true) (hl:(T t).zero.lies=true)
  (hK:∀ listed A b a w,K listed A b→At B A (S.with t (T t).zero (some b)) a w→wpAny P .any ops (Conc B Q) m listed a w):∀ (n:Nat) (listed:Array Bool) (A:List D) (ob:Option Nat),AAnyA P B (AX.then KS Q) ops S t (T t).zero np ia oa.dst K n listed A ob→∀ a w,At B A (S.with t (T t).zero ob) a w→wpAny P .any ops (Conc B Q) (n+m) listed a w
 | 0,listed,A,ob,h,a,w,k=>by
  rw [Nat.zero_add]
  obtain ⟨_,b,rfl,h⟩:=h
  exact hK _ _ _ _ _ h k
 | n+1,listed,A,ob,h,a,w,k=>by
  rw [show n+1+m=(n+m)+1 by omega]
  refine ⟨fun h0=>absurd h0 h.1,fun i hi=>?_⟩
  obtain ⟨_,hi⟩:=h.2 i hi
  by_cases hia:i=ia
  ·rw [if_pos hia] at hi
   subst hia
   obtain ⟨rfl,hi⟩:=hi
   have hw:wantedA ops A oa=some true:=by unfold wantedA;rw [hg]
   have:=AOps.alloc (B:=B) (Q:=AX.then (fun A' S'=>AMix P B Q ops (n+m) (listed.setIfInBounds i true) A' S') Q) (ops:=ops) (l:=[]) hP hop hw ht hl (fun b hb=>AOps.nil (show AMix P B Q ops (n+m) (listed.setIfInBounds i true) _ _ from fun a w k=>AAnyA.sound hP ha hop hg ht hl hK n _ _ _ (hi b hb) a w k)) a w k
   unfold wpOp
   simp only [ha]
   unfold wpList at this
   have hgo:∀ a w,wpList P ops (Conc B (AX.then (fun A' S'=>AMix P B Q ops (n+m) (listed.setIfInBounds i true) A' S') Q)) [] a w→wpAny P .any ops (Conc B Q) (n+m) (listed.setIfInBounds i true) a w:=fun a w ⟨A',S',k',h'⟩=>h' a w k'
   split
   ·rename_i hw
    rw [if_pos hw] at this
    rcases this with this | ⟨h1,a',w',h2⟩
    ·exact .inl (wp_then (Oper.wp_mono hgo this))
    ·exact .inr ⟨h1,a',w',conc_then (by simp) h2⟩
   ·rename_i hw
    rw [if_neg hw] at this
    exact hgo _ _ this
  ·rw [if_neg hia] at hi
   obtain ⟨o,d,ho,hq,hn⟩:=hi
   unfold wpOp
   simp only [ho]
   have:=hq A (Agree.refl _ _) (fun A'=>A'=putA A o.dst d) rfl a w k
   have hgo:∀ a' w',(∃ A',At B A' (S.with t (T t).zero ob) a' w'∧A'=putA A o.dst d)→wpAny P .any ops (Conc B Q) (n+m) (listed.setIfInBounds i true) a' w':=fun a' w' ⟨A',k',e⟩=>by
    subst e;exact AAnyA.sound hP ha hop hg ht hl hK n _ _ _ hn a' w' k'
   split
   ·rename_i hw
    rw [if_pos hw] at this
    exact .inl (wp_then (Oper.wp_mono hgo this))
   ·rename_i hw
    rw [if_neg hw] at this
    exact hgo _ _ this

theorem ALexU.step (hP:Prg P T) {Ss:Sto→Prop} {o:Oper} {l:List Oper} {d:D} (hw:wantedA ops A o=some true) (he:∀ S1,Ss S1→evalS T A S1 o.op=some (d,S1)) (k:ALexU P B Q ops S Ss l (putA A o.dst d)):ALexU P B Q ops S Ss (o::l) A:=⟨d,fun S1 h1=>QOp.step hP hw (he S1 h1),k⟩
theorem ALexU.skip {Ss:Sto→Prop} {o:Oper} {l:List Oper} (hw:wantedA ops A o=some false) (k:ALexU P B Q ops S Ss l (putA A o.dst (.tup []))):ALexU P B Q ops S Ss (o::l) A:=⟨_,fun S1 _=>QOp.skip hw,k⟩
theorem ALexU.call {Ss:Sto→Prop} {f:FuncId} {args:Array Operand} {ats:Array TypeId} {o:Oper} {l:List Oper} {d:D} (ho:o.op=.call ⟨.value (.func f),args,ats⟩) (hw:wantedA ops A o=some true)
  (hc:∀ S1,ACalls P f (args.toList.map (evalO A)) S1 (RetQ d S1)) (k:ALexU P B Q ops S Ss l (putA A o.dst d)):ALexU P B Q ops S Ss (o::l) A:=⟨d,fun S1 _=>QOp.call ho hw rfl (hc S1),k⟩
end

section
variable {B : Bg} {Q : AX → List D → Sto → Prop} {A A' : List D} {S : Sto} {ops : Array Oper} {l : List Oper} {R : Prop} {o : Oper} {id : Nat} {Ss : Sto → Prop}
theorem u1 {d:D} (k:ALexU Tryz.prog B Q ops S Ss l A') (hw:wantedA ops A o=some true:=by (simp only [go_sem,Int.reduceEq,Int.reduceLT,Int.reduceBEq,Int.reduceBNe,Int.reduceNe,Nat.reduceLeDiff,Nat.reduceAdd,Nat.reduceSub,Nat.reduceLT,Nat.reduceEqDiff,Nat.reduceBEq,Int.reduceLE,Int.reduceToNat,F];rfl)) (he:∀ S1,Ss S1→evalS tys A S1 o.op=some (d,S1):=by (intro S1 hS1;simp only [go_sem,Int.reduceEq,Int.reduceLT,Int.reduceBEq,Int.reduceBNe,Int.reduceNe,Nat.reduceLeDiff,Nat.reduceAdd,Nat.reduceSub,Nat.reduceLT,Nat.reduceEqDiff,Nat.reduceBEq,Int.reduceLE,Int.reduceToNat,F,hS1];rfl)) (hA:putA A o.dst d=A':=by (simp only [go_sem,Int.reduceEq,Int.reduceLT,Int.reduceBEq,Int.reduceBNe,Int.reduceNe,Nat.reduceLeDiff,Nat.reduceAdd,Nat.reduceSub,Nat.reduceLT,Nat.reduceEqDiff,Nat.reduceBEq,Int.reduceLE,Int.reduceToNat];rfl)):ALexU Tryz.prog B Q ops S Ss (o::l) A:=ALexU.step prg hw he (by rw [hA];exact k)
theorem u2 (k:ALexU Tryz.prog B Q ops S Ss l A') (hw:wantedA ops A o=some false:=by (simp only [go_sem,Int.reduceEq,Int.reduceLT,Int.reduceBEq,Int.reduceBNe,Int.reduceNe,Nat.reduceLeDiff,Nat.reduceAdd,Nat.reduceSub,Nat.reduceLT,Nat.reduceEqDiff,Nat.reduceBEq,Int.reduceLE,Int.reduceToNat,F];rfl)) (hA:putA A o.dst (.tup [])=A':=by (simp only [go_sem,Int.reduceEq,Int.reduceLT,Int.reduceBEq,Int.reduceBNe,Int.reduceNe,Nat.reduceLeDiff,Nat.reduceAdd,Nat.reduceSub,Nat.reduceLT,Nat.reduceEqDiff,Nat.reduceBEq,Int.reduceLE,Int.reduceToNat];rfl)):ALexU Tryz.prog B Q ops S Ss (o::l) A:=ALexU.skip hw (by rw [hA];exact k)
theorem u3 {f:FuncId} {args:Array Operand} {ats:Array TypeId} {d:D} (c:∀ S1,ACalls Tryz.prog f (args.toList.map (evalO A)) S1 (RetQ d S1)) (k:ALexU Tryz.prog B Q ops S Ss l A') (ho:o.op=.call ⟨.value (.func f),args,ats⟩:=by rfl) (hw:wantedA ops A o=some true:=by rfl) (hA:putA A o.dst d=A':=by (simp only [go_sem,Int.reduceEq,Int.reduceLT,Int.reduceBEq,Int.reduceBNe,Int.reduceNe,Nat.reduceLeDiff,Nat.reduceAdd,Nat.reduceSub,Nat.reduceLT,Nat.reduceEqDiff,Nat.reduceBEq,Int.reduceLE,Int.reduceToNat];rfl)):ALexU Tryz.prog B Q ops S Ss (o::l) A:=ALexU.call ho hw c (by rw [hA];exact k)
theorem u4 (k:R) (h:Q .normal A S=R:=by ((try dsimp only [AX.then,AX.inBlock]);try rfl)):ALexU Tryz.prog B Q ops S Ss [] A:=(show Q .normal A S from h ▸ k)
end


section
variable {P : Program} {T : TypeId → Ty} {B : Bg} {Q : AX → List D → Sto → Prop} {S : Sto} {A : List D} {ops : Array Oper}

def StepX (P:Program) (T:TypeId→Ty) (B:Bg) (Q:AX→List D→Sto→Prop) (ops:Array Oper) (o:Oper) (A:List D) (S:Sto) (K:List D→Sto→Prop):Prop:=
 (∃ d,QOp P B Q ops S o A d∧K (putA A o.dst d) S) ∨
 (∃ t,o.op=.alloc t∧o.guard=none∧(T t).known=true∧(T t).zero.lies=true∧∀ b,fresh S b→K (putA A o.dst (.v (.pointer (some ⟨b,0,none⟩)))) ⟨(b,t,(T t).zero)::S.bk,S.ow⟩) ∨
 (∃ d S',wantedA ops A o=some true∧evalS T A S o.op=some (d,S')∧K (putA A o.dst d) S')

def AAnyX (P:Program) (T:TypeId→Ty) (B:Bg) (Q:AX→List D→Sto→Prop) (ops:Array Oper):Nat→Array Bool→List D→Sto→Prop
 | 0,listed,A,S=>Region.ready .any ops listed=[]∧Q .normal A S
 | n+1,listed,A,S=>Region.ready .any ops listed≠[]∧∀ i∈Region.ready .any ops listed,∃ o,ops[i]?=some o∧StepX P T B Q ops o A S (fun A' S'=>AAnyX P T B Q ops n (listed.setIfInBounds i true) A' S')

theorem StepX.sound (hP : Prg P T) {o : Oper} {K : List D → Sto → Prop} (h : StepX P T B Q ops o A S K) : AOps P B ops (AX.then K Q) [o] A S := by
  rcases h with ⟨d, hq, hK⟩ | ⟨t, h1, h2, h3, h4, hK⟩ | ⟨d, S', hw, he, hK⟩
  · intro a w k
    have := hq A (Agree.refl _ _) (fun A' => A' = putA A o.dst d) rfl a w k
    refine wpList_step (fun K1 hK1 => ?_)
    have hgo : ∀ a' w', (∃ A', At B A' S a' w' ∧ A' = putA A o.dst d) → K1 a' w' := fun a' w' ⟨A', k', e⟩ => hK1 _ _ (wpList_nil ⟨A', S, k', by subst e; exact hK⟩)
    split
    · rename_i hw
      rw [if_pos hw] at this
      have := Oper.wp_mono hgo this
      unfold Oper.wp at this ⊢
      generalize (execOp a.eval o).run P w = r at *
      cases r with
      | ok nx w' =>
        cases nx <;> simp only [Oper.upon] at this ⊢ <;> first
          | exact this
          | (refine this.mono (fun e w'' he => ?_)
             cases e <;> first | exact he | (obtain ⟨a, w, he⟩ := he; exact he.elim))
      | halt x w' => cases x <;> first | exact this | exact this.elim
    · rename_i hw
      rw [if_neg hw] at this
      exact hgo _ _ this
  · have hw : wantedA ops A o = some true := by unfold wantedA; rw [h2]
    exact AOps.alloc hP h1 hw h3 h4 (fun b hb => AOps.nil (hK b hb))
  · exact AOps.step hP hw he (AOps.nil hK)

theorem AAnyX.sound (hP:Prg P T):∀ (n:Nat) (listed:Array Bool) (A:List D) (S:Sto),AAnyX P T B Q ops n listed A S→AMix P B Q ops n listed A S
 | 0,listed,A,S,h=>AMix.end h.1 h.2
 | n+1,listed,A,S,h=>AMix.branch _ rfl h.1 (fun i hi=>by
  obtain ⟨o,ho,hs⟩:=h.2 i hi
  refine ⟨o,ho,?_⟩
  have:StepX P T B Q ops o A S (fun A' S'=>AMix P B Q ops n (listed.setIfInBounds i true) A' S'):=by
   rcases hs with ⟨d,hq,hK⟩ | ⟨t,h1,h2,h3,h4,hK⟩ | ⟨d,S',hw,he,hK⟩
   ·exact .inl ⟨d,hq,AAnyX.sound hP n _ _ _ hK⟩
   ·exact .inr (.inl ⟨t,h1,h2,h3,h4,fun b hb=>AAnyX.sound hP n _ _ _ (hK b hb)⟩)
   ·exact .inr (.inr ⟨d,S',hw,he,AAnyX.sound hP n _ _ _ hK⟩)
  exact this.sound hP)

theorem AAnyX.first {Fs:Sto→Prop} {i:Nat} {oi:Oper} {v:D} (hi:ops[i]?=some oi) (np:Nat) (pure:Bool) (hF:∀ S b t,Fs S→fresh S b→pure=false→Fs ⟨(b,t,(T t).zero)::S.bk,S.ow⟩) (hT:pure=true→∀ S,Fs S)
  (hst:∀ j oj,ops[j]?=some oj→j<np→∀ A S d S',evalS T A S oj.op=some (d,S')→S'=S):∀ (n:Nat) (listed:Array Bool) (A:List D) (S:Sto),
  (∀ j oj,ops[j]?=some oj→j≠i→listed.getD j true=false→(∀ e∈oj.after,Region.binds .any e=true→e.on≠i)→oi.apart ops oj=true∧(pure=true∨j<np)) →
  i∈Region.ready .any ops listed→(∀ S',Fs S'→QOp P B Q ops S' oi A v)→Fs S →
  AAnyX P T B Q ops n (listed.setIfInBounds i true) (putA A oi.dst v) S→AAnyX P T B Q ops (n+1) listed A S:=by
 intro n
 induction n with
 | zero=>
  intro listed A S hfree hr hq hS H
  refine ⟨fun h=>(by rw [h] at hr;cases hr),fun j hj=>?_⟩
  by_cases hji:j=i
  ·subst hji;exact ⟨oi,hi,.inl ⟨v,hq S hS,H⟩⟩
  ·have:=ready_mono hj hji
   rw [H.1] at this
   cases this
 | succ n ih=>
  intro listed A S hfree hr hq hS H
  refine ⟨fun h=>(by rw [h] at hr;cases hr),fun j hj=>?_⟩
  by_cases hji:j=i
  ·subst hji;exact ⟨oi,hi,.inl ⟨v,hq S hS,H⟩⟩
  ·obtain ⟨oj,hoj,Hj⟩:=H.2 j (ready_mono hj hji)
   obtain ⟨hjun,oj',hoj',hall⟩:=mem_ready.1 hj
   rw [hoj] at hoj'
   simp only [Option.some.injEq] at hoj'
   subst hoj'
   have hnot:∀ e∈oj.after,Region.binds .any e=true→e.on≠i:=fun e he hb heq=>by
    have h1:=hall e he hb
    have h0:=(mem_ready.1 hr).1
    rw [heq] at h1
    rcases Nat.lt_or_ge i listed.size with h' | h'
    ·simp [h'] at h0 h1;rw [h0] at h1;cases h1
    ·simp [Array.getElem?_eq_none h'] at h1
   obtain ⟨hap,hnp⟩:=hfree j oj hoj hji hjun hnot
   obtain ⟨p1,p2,p3⟩:=Oper.apart_spec hap
   have hfree':∀ k ok,ops[k]?=some ok→k≠i→(listed.setIfInBounds j true).getD k true=false→(∀ e∈ok.after,Region.binds .any e=true→e.on≠i)→oi.apart ops ok=true∧(pure=true∨k<np):=fun k ok hk hki hun hno=>by
    refine hfree k ok hk hki ?_ hno
    by_cases hjk:j=k
    ·subst hjk;exact hjun
    ·rw [getD_set_ne true hjk] at hun;exact hun
   have go:∀ (d:D) (S':Sto),Fs S'→AAnyX P T B Q ops n ((listed.setIfInBounds i true).setIfInBounds j true) (putA (putA A oi.dst v) oj.dst d) S'→AAnyX P T B Q ops (n+1) (listed.setIfInBounds j true) (putA A oj.dst d) S':=fun d S' hS' hH=>by
    refine ih (listed.setIfInBounds j true) _ S' hfree' (ready_mono hr (Ne.symm hji)) (fun S2 h2=>(hq S2 h2).agree (agree_put A oj.dst d p3)) hS' ?_
    rw [Array.setIfInBounds_comm _ _ hji,← putA_comm A oi.dst oj.dst v d p2]
    exact hH
   have hag:=agree_put A oi.dst v p1
   refine ⟨oj,hoj,?_⟩
   rcases Hj with ⟨d,hqj,hK⟩ | ⟨t,h1,h2,h3,h4,hK⟩ | ⟨d,S',hw,he,hK⟩
   ·exact .inl ⟨d,hqj.agree hag.symm,go d S hS hK⟩
   ·refine .inr (.inl ⟨t,h1,h2,h3,h4,fun b hb=>go _ _ ?_ (hK b hb)⟩)
    cases hp:pure
    ·exact hF S b t hS hb hp
    ·exact hT hp _
   ·refine .inr (.inr ⟨d,S',(wantedA_agree hag).trans hw,(evalS_agree (T:=T) (S:=S) hag).trans he,go d S' ?_ hK⟩)
    rcases hnp with hp | hjn
    ·exact hT hp _
    ·rw [hst j oj hoj hjn _ _ _ _ he];exact hS

def ALexS (T:TypeId→Ty) (Q:AX→List D→Sto→Prop) (ops:Array Oper):List Oper→List D→Sto→Prop
 | [],A,S=>Q .normal A S
 | o::l,A,S=>∃ d S',wantedA ops A o=some true∧evalS T A S o.op=some (d,S')∧ALexS T Q ops l (putA A o.dst d) S'
def pureOp (o:Oper):Bool:=match o.op with
 | .move _=>true
 | .assign _=>true
 | .extract _ _=>true
 | _=>false
def puO (ops:Array Oper) (k:Nat):Bool:=match ops[k]? with
 | some o=>pureOp o
 | none=>false
def ALexV (P:Program) (B:Bg) (Q:AX→List D→Sto→Prop) (ops:Array Oper) (S:Sto) (Ss:Sto→Prop) (ia:Nat):Nat→List Oper→List D→Prop
 | _,[],A=>Q .normal A S
 | k,o::l,A=>if Nat.beq k ia=true then ALexV P B Q ops S Ss ia (k+1) l A else ∃ d,(∀ S1,(pureOp o=false→Ss S1)→QOp P B Q ops S1 o A d)∧ALexV P B Q ops S Ss ia (k+1) l (putA A o.dst d)
def noStore (o:Oper):Bool:=match o.op with
 | .store _ _ _=>false
 | _=>true
def lexX (ops:Array Oper) (np ia:Nat):Nat→Nat→Array Bool→Bool
 | 0,_,_=>true
 | n+1,k,listed=>if Nat.beq k ia then lexX ops np ia n (k+1) listed else (Region.ready .any ops listed).contains k && Region.free .any ops listed k && (puO ops k || waitB ops np k) && lexX ops np ia n (k+1) (listed.setIfInBounds k true)
def setQ (listed:Array Bool) (ia:Nat):Nat→Nat→Array Bool
 | 0,_=>listed
 | n+1,k=>if Nat.beq k ia then setQ listed ia n (k+1) else setQ (listed.setIfInBounds k true) ia n (k+1)

inductive Grows (T:TypeId→Ty) (S:Sto):Sto→Prop
 | refl:Grows T S S
 | new {S1:Sto} {b:Nat} {t:TypeId}:Grows T S S1→fresh S1 b→Grows T S ⟨(b,t,(T t).zero)::S1.bk,S1.ow⟩
theorem Grows.get {b:Nat} {x:TypeId×D} (h:getM S.bk b=some x):∀ S1,Grows T S S1→getM S1.bk b=some x:=fun S1 hg=>by
 induction hg with
 | refl=>exact h
 | new hg hf ih=>
  show getM (_::_) b=_
  rw [getM_cons,if_neg (getM_ne ih hf.1)]
  exact ih

theorem QOp.of_then {K:List D→Sto→Prop} {o:Oper} {d:D} (h:QOp P B (AX.then K Q) ops S o A d):QOp P B Q ops S o A d:=fun A' hag K1 hK a w k=>by
 have:=h A' hag K1 hK a w k
 split
 ·rename_i hw
  rw [if_pos hw] at this
  exact wp_then this
 ·rename_i hw
  rw [if_neg hw] at this
  exact this

theorem AAnyX.lex {np:Nat} (hns:∀ j oj,ops[j]?=some oj→j<np→noStore oj=true) (ia:Nat) {m:Nat} {LQ:Array Bool} (Fin:List D→Prop) (hbase:∀ A,Fin A→AAnyX P T B Q ops m LQ A S) :
  ∀ (l:List Oper) (k:Nat) (listed:Array Bool) (A:List D),(∀ j o,l[j]?=some o→ops[k+j]?=some o)→lexX ops np ia l.length k listed=true→setQ listed ia l.length k=LQ →
  ALexV P B (AX.then (fun A _=>Fin A) Q) ops S (Grows T S) ia k l A→AAnyX P T B Q ops ((dropAt l k ia).length+m) listed A S
 | [],k,listed,A,hl,hB,hLQ,h=>by
  unfold dropAt
  rw [List.length_nil,Nat.zero_add]
  rw [show listed=LQ from hLQ]
  exact hbase A h
 | o::l,k,listed,A,hl,hB,hLQ,h=>by
  have h0:ops[k]?=some o:=by simpa using hl 0 o rfl
  have hl':∀ j o',l[j]?=some o'→ops[k+1+j]?=some o':=fun j o' hj=>by have:=hl (j+1) o' (by simpa using hj);simpa [Nat.add_assoc,Nat.add_comm 1 j] using this
  simp only [List.length_cons,lexX,setQ] at hB hLQ
  unfold ALexV at h
  unfold dropAt
  by_cases hk:Nat.beq k ia=true
  ·rw [if_pos hk] at hB hLQ h ⊢
   exact AAnyX.lex hns ia Fin hbase l (k+1) listed A hl' hB hLQ h
  ·rw [if_neg hk] at hB hLQ h ⊢
   simp only [Bool.and_eq_true] at hB
   obtain ⟨⟨⟨hr,hf⟩,ht⟩,hB'⟩:=hB
   obtain ⟨d,hq,hK⟩:=h
   have ih:=AAnyX.lex hns ia Fin hbase l (k+1) _ _ hl' hB' hLQ hK
   have hst:∀ j oj,ops[j]?=some oj→j<np→∀ A S d S',evalS T A S oj.op=some (d,S')→S'=S:=fun j oj hj hjn A S d S' he=>evalS_quiet (fun t x y e=>by have:=hns j oj hj hjn;unfold noStore at this;rw [e] at this;cases this) he
   rw [List.length_cons,show (dropAt l (k+1) ia).length+1+m=(dropAt l (k+1) ia).length+m+1 by omega]
   have hpk:puO ops k=pureOp o:=by unfold puO;rw [h0]
   cases hp:pureOp o with
   | true=>
    refine AAnyX.first (Fs:=fun _=>True) h0 np true (fun _ _ _ _ _ h=>by cases h) (fun _ _=>trivial) hst _ listed A S (fun j oj hj hne hun hno=>⟨Region.free_spec h0 hf j oj hj hne hun hno,.inl rfl⟩) (by simpa using hr) (fun S' _=>(hq S' (fun h=>by rw [hp] at h;cases h)).of_then) trivial ih
   | false=>
    refine AAnyX.first (Fs:=Grows T S) h0 np false (fun S1 b t hg hf _=>.new hg hf) (fun h=>by cases h) hst _ listed A S (fun j oj hj hne hun hno=>⟨Region.free_spec h0 hf j oj hj hne hun hno,.inr ?_⟩) (by simpa using hr) (fun S' hS'=>(hq S' (fun _=>hS')).of_then) .refl ih
    rw [hpk,hp,Bool.false_or] at ht
    unfold waitB at ht
    simp only [List.all_eq_true,List.mem_range] at ht
    have h1:=ht j (Array.getElem?_eq_some_iff.1 hj).1
    simp only [hj,Bool.or_eq_true] at h1
    rcases h1 with h1 | h1
    ·exact Nat.blt_eq.mp h1
    ·obtain ⟨e,he,hb⟩:=Array.any_eq_true'.1 h1
     simp only [Bool.and_eq_true,beq_iff_eq] at hb
     exact absurd hb.2 (hno e he hb.1)

end

theorem Grows.get' {T:TypeId→Ty} {S S1:Sto} (hg:Grows T S S1):∀ b,(getM S.bk b).isSome=true→getM S1.bk b=getM S.bk b:=fun b h=>by
 cases hx:getM S.bk b with
 | none=>rw [hx] at h;cases h
 | some x=>exact Grows.get hx S1 hg
def reachB (ops:Array Oper):Nat→Nat→Nat→Bool
 | 0,_,_=>false
 | n+1,j,i=>match ops[j]? with
  | some o=>o.after.any fun e=>Region.binds .any e && (Nat.beq e.on i || reachB ops n e.on i)
  | none=>false
def Closed (ops:Array Oper) (listed:Array Bool):Prop:=∀ j o,listed.getD j false=true→ops[j]?=some o→∀ e∈o.after,Region.binds .any e=true→listed.getD e.on false=true
section
variable {P : Program} {T : TypeId → Ty} {B : Bg} {Q : AX → List D → Sto → Prop} {S : Sto} {A : List D} {ops : Array Oper}
theorem reach_listed {listed:Array Bool} (hc:Closed ops listed):∀ (n j i:Nat) (o:Oper),ops[j]?=some o→(∀ e∈o.after,Region.binds .any e=true→listed.getD e.on false=true)→reachB ops n j i=true→listed.getD i false=true
 | 0,_,_,_,_,_,h=>by cases h
 | n+1,j,i,o,ho,hall,h=>by
  unfold reachB at h
  rw [ho] at h
  obtain ⟨e,he,hb⟩:=Array.any_eq_true'.1 h
  simp only [Bool.and_eq_true,Bool.or_eq_true] at hb
  have hl:=hall e he hb.1
  rcases hb.2 with h1 | h1
  ·have:e.on=i:=Nat.eq_of_beq_eq_true h1
   rw [← this];exact hl
  ·cases hoe:ops[e.on]? with
   | none=>cases n with
    | zero=>cases h1
    | succ n=>unfold reachB at h1;rw [hoe] at h1;cases h1
   | some o'=>exact reach_listed hc n e.on i o' hoe (fun e' he' hb'=>hc e.on o' hl hoe e' he' hb') h1
theorem getD_tf {listed:Array Bool} {i:Nat} (h:listed.getD i false=true):listed.getD i true=true:=by
 rcases Nat.lt_or_ge i listed.size with h' | h'
 ·simp [h'] at h ⊢;exact h
 ·simp [Array.getElem?_eq_none h'] at h
theorem Closed.set {listed:Array Bool} (hc:Closed ops listed) {j:Nat} (hj:j∈Region.ready .any ops listed):Closed ops (listed.setIfInBounds j true):=fun k o hk ho e he hb=>by
 by_cases hkj:j=k
 ·subst hkj
  obtain ⟨_,o',ho',hall⟩:=mem_ready.1 hj
  rw [ho] at ho'
  simp only [Option.some.injEq] at ho'
  subst ho'
  exact getD_set_true (hall e he hb)
 ·rw [getD_set_ne false hkj] at hk
  exact getD_set_true (hc k o hk ho e he hb)

theorem Closed.none (n:Nat):Closed ops (Array.replicate n false):=fun j o h=>by
 rcases Nat.lt_or_ge j n with h' | h' <;> simp [h'] at h
end

section
variable {B : Bg} {Q : AX → List D → Sto → Prop} {A A' : List D} {S S' : Sto} {ops : Array Oper} {l : List Oper} {R : Prop} {o : Oper} {id k k' ia : Nat}
theorem v0 (c:ALexV Tryz.prog B Q ops S (Grows tys S) ia k' l A) (hk:Nat.beq k ia=true:=by rfl) (h1:k+1=k':=by rfl):ALexV Tryz.prog B Q ops S (Grows tys S) ia k (o::l) A:=by
 subst h1;unfold ALexV;rw [if_pos hk];exact c
theorem vstep {d:D} (hk:Nat.beq k ia=false) (hq:∀ S1,(pureOp o=false→Grows tys S S1)→QOp Tryz.prog B Q ops S1 o A d) (h1:k+1=k') (hA:putA A o.dst d=A') (c:ALexV Tryz.prog B Q ops S (Grows tys S) ia k' l A'):ALexV Tryz.prog B Q ops S (Grows tys S) ia k (o::l) A:=by
 subst h1;subst hA;unfold ALexV;rw [if_neg (by rw [hk];simp)];exact ⟨d,hq,c⟩
theorem v1 {d:D} (c:ALexV Tryz.prog B Q ops S (Grows tys S) ia k' l A') (hp:pureOp o=true:=by rfl) (hk:Nat.beq k ia=false:=by rfl) (hw:wantedA ops A o=some true:=by (first | rfl | (simp only [go_sem,Int.reduceEq,Int.reduceLT,Int.reduceBEq,Int.reduceBNe,Int.reduceNe,Nat.reduceLeDiff,Nat.reduceAdd,Nat.reduceSub,Nat.reduceLT,Nat.reduceEqDiff,Nat.reduceBEq,Int.reduceLE,Int.reduceToNat,F];done) | (simp only [go_sem,Int.reduceEq,Int.reduceLT,Int.reduceBEq,Int.reduceBNe,Int.reduceNe,Nat.reduceLeDiff,Nat.reduceAdd,Nat.reduceSub,Nat.reduceLT,Nat.reduceEqDiff,Nat.reduceBEq,Int.reduceLE,Int.reduceToNat,F];rfl))) (he:∀ S1,evalS tys A S1 o.op=some (d,S1):=by (intro S1;simp only [go_sem,Int.reduceEq,Int.reduceLT,Int.reduceBEq,Int.reduceBNe,Int.reduceNe,Nat.reduceLeDiff,Nat.reduceAdd,Nat.reduceSub,Nat.reduceLT,Nat.reduceEqDiff,Nat.reduceBEq,Int.reduceLE,Int.reduceToNat,F];rfl)) (hA:putA A o.dst d=A':=by (simp only [go_sem,Int.reduceEq,Int.reduceLT,Int.reduceBEq,Int.reduceBNe,Int.reduceNe,Nat.reduceLeDiff,Nat.reduceAdd,Nat.reduceSub,Nat.reduceLT,Nat.reduceEqDiff,Nat.reduceBEq,Int.reduceLE,Int.reduceToNat];rfl)) (h1:k+1=k':=by rfl):ALexV Tryz.prog B Q ops S (Grows tys S) ia k (o::l) A:=
 vstep hk (fun S1 _=>QOp.step prg hw (he S1)) h1 hA c
theorem v2 {d:D} (c:ALexV Tryz.prog B Q ops S (Grows tys S) ia k' l A') (hp:pureOp o=false:=by rfl) (hk:Nat.beq k ia=false:=by rfl) (hw:wantedA ops A o=some true:=by (first | rfl | (simp only [go_sem,Int.reduceEq,Int.reduceLT,Int.reduceBEq,Int.reduceBNe,Int.reduceNe,Nat.reduceLeDiff,Nat.reduceAdd,Nat.reduceSub,Nat.reduceLT,Nat.reduceEqDiff,Nat.reduceBEq,Int.reduceLE,Int.reduceToNat,F];done) | (simp only [go_sem,Int.reduceEq,Int.reduceLT,Int.reduceBEq,Int.reduceBNe,Int.reduceNe,Nat.reduceLeDiff,Nat.reduceAdd,Nat.reduceSub,Nat.reduceLT,Nat.reduceEqDiff,Nat.reduceBEq,Int.reduceLE,Int.reduceToNat,F];rfl))) (he:∀ S1,Grows tys S S1→evalS tys A S1 o.op=some (d,S1):=by (intro S1 hS1;have G:=Grows.get' hS1;simp only [go_sem,Int.reduceEq,Int.reduceLT,Int.reduceBEq,Int.reduceBNe,Int.reduceNe,Nat.reduceLeDiff,Nat.reduceAdd,Nat.reduceSub,Nat.reduceLT,Nat.reduceEqDiff,Nat.reduceBEq,Int.reduceLE,Int.reduceToNat,F,G,Option.isSome_some];rfl)) (hA:putA A o.dst d=A':=by (simp only [go_sem,Int.reduceEq,Int.reduceLT,Int.reduceBEq,Int.reduceBNe,Int.reduceNe,Nat.reduceLeDiff,Nat.reduceAdd,Nat.reduceSub,Nat.reduceLT,Nat.reduceEqDiff,Nat.reduceBEq,Int.reduceLE,Int.reduceToNat];rfl)) (h1:k+1=k':=by rfl):ALexV Tryz.prog B Q ops S (Grows tys S) ia k (o::l) A:=
 vstep hk (fun S1 h=>QOp.step prg hw (he S1 (h hp))) h1 hA c
theorem v3 (c:ALexV Tryz.prog B Q ops S (Grows tys S) ia k' l A') (hk:Nat.beq k ia=false:=by rfl) (hw:wantedA ops A o=some false:=by (first | rfl | (simp only [go_sem,Int.reduceEq,Int.reduceLT,Int.reduceBEq,Int.reduceBNe,Int.reduceNe,Nat.reduceLeDiff,Nat.reduceAdd,Nat.reduceSub,Nat.reduceLT,Nat.reduceEqDiff,Nat.reduceBEq,Int.reduceLE,Int.reduceToNat,F];done) | (simp only [go_sem,Int.reduceEq,Int.reduceLT,Int.reduceBEq,Int.reduceBNe,Int.reduceNe,Nat.reduceLeDiff,Nat.reduceAdd,Nat.reduceSub,Nat.reduceLT,Nat.reduceEqDiff,Nat.reduceBEq,Int.reduceLE,Int.reduceToNat,F];rfl))) (hA:putA A o.dst (.tup [])=A':=by (simp only [go_sem,Int.reduceEq,Int.reduceLT,Int.reduceBEq,Int.reduceBNe,Int.reduceNe,Nat.reduceLeDiff,Nat.reduceAdd,Nat.reduceSub,Nat.reduceLT,Nat.reduceEqDiff,Nat.reduceBEq,Int.reduceLE,Int.reduceToNat];rfl)) (h1:k+1=k':=by rfl):ALexV Tryz.prog B Q ops S (Grows tys S) ia k (o::l) A:=
 vstep hk (fun S1 _=>QOp.skip hw) h1 hA c
theorem v4 {f:FuncId} {args:Array Operand} {ats:Array TypeId} {d:D} (ho:o.op=.call ⟨.value (.func f),args,ats⟩:=by rfl) (hk:Nat.beq k ia=false:=by rfl) (hw:wantedA ops A o=some true:=by rfl) (c:∀ S1,ACalls Tryz.prog f (args.toList.map (evalO A)) S1 (RetQ d S1)) (n:ALexV Tryz.prog B Q ops S (Grows tys S) ia k' l A') (hA:putA A o.dst d=A':=by (simp only [go_sem,Int.reduceEq,Int.reduceLT,Int.reduceBEq,Int.reduceBNe,Int.reduceNe,Nat.reduceLeDiff,Nat.reduceAdd,Nat.reduceSub,Nat.reduceLT,Nat.reduceEqDiff,Nat.reduceBEq,Int.reduceLE,Int.reduceToNat];rfl)) (h1:k+1=k':=by rfl):ALexV Tryz.prog B Q ops S (Grows tys S) ia k (o::l) A:=
 vstep hk (fun S1 _=>QOp.call ho hw rfl (c S1)) h1 hA n
theorem v5 (k1:R) (h:Q .normal A S=R:=by ((try dsimp only [AX.then,AX.inBlock]);try rfl)):ALexV Tryz.prog B Q ops S (Grows tys S) ia k [] A:=(show Q .normal A S from h ▸ k1)
theorem v6 {d:D} (c:ALexS tys Q ops l A' S') (hw:wantedA ops A o=some true:=by (first | rfl | (simp only [go_sem,Int.reduceEq,Int.reduceLT,Int.reduceBEq,Int.reduceBNe,Int.reduceNe,Nat.reduceLeDiff,Nat.reduceAdd,Nat.reduceSub,Nat.reduceLT,Nat.reduceEqDiff,Nat.reduceBEq,Int.reduceLE,Int.reduceToNat,F];done) | (simp only [go_sem,Int.reduceEq,Int.reduceLT,Int.reduceBEq,Int.reduceBNe,Int.reduceNe,Nat.reduceLeDiff,Nat.reduceAdd,Nat.reduceSub,Nat.reduceLT,Nat.reduceEqDiff,Nat.reduceBEq,Int.reduceLE,Int.reduceToNat,F];rfl))) (he:evalS tys A S o.op=some (d,S'):=by (simp only [go_sem,Int.reduceEq,Int.reduceLT,Int.reduceBEq,Int.reduceBNe,Int.reduceNe,Nat.reduceLeDiff,Nat.reduceAdd,Nat.reduceSub,Nat.reduceLT,Nat.reduceEqDiff,Nat.reduceBEq,Int.reduceLE,Int.reduceToNat,F];rfl)) (hA:putA A o.dst d=A':=by (simp only [go_sem,Int.reduceEq,Int.reduceLT,Int.reduceBEq,Int.reduceBNe,Int.reduceNe,Nat.reduceLeDiff,Nat.reduceAdd,Nat.reduceSub,Nat.reduceLT,Nat.reduceEqDiff,Nat.reduceBEq,Int.reduceLE,Int.reduceToNat];rfl)):ALexS tys Q ops (o::l) A S:=⟨d,S',hw,he,by rw [hA];exact c⟩
end


section
variable {P : Program} {T : TypeId → Ty} {B : Bg} {Q : AX → List D → Sto → Prop} {S : Sto} {A : List D} {ops : Array Oper} {Ls : List Nat}

def loudOp (o:Oper):Bool:=match o.op with
 | .store _ _ _=>true
 | .alloc _=>true
 | .call c=>(match c.callee with | .builtin .len=>false | .builtin .max=>false | _=>true)
 | _=>false
theorem quiet_same {o:Oper} {d:D} {S':Sto} (h:evalS T A S o.op=some (d,S')) (hq:loudOp o=false):S'=S:=by
 unfold evalS at h
 split at h
 ·rename_i he
  unfold loudOp at hq
  rw [he] at hq
  cases hq
 ·split at h
  ·simp only [Option.some.injEq,Prod.mk.injEq] at h;exact h.2.symm
  ·cases h
 all_goals
  obtain ⟨d',h1,h2⟩:=Option.map_eq_some_iff.1 h
  simp only [Prod.mk.injEq] at h2
  exact h2.2.symm

def FrL (Ls:List Nat) (S S':Sto):Prop:=∀ c∈Ls,getM S'.bk c=getM S.bk c
theorem FrL.refl (Ls:List Nat) (S:Sto):FrL Ls S S:=fun _ _=>rfl
theorem FrL.trans {Ls:List Nat} {S S' S2:Sto} (h:FrL Ls S S') (k:FrL Ls S' S2):FrL Ls S S2:=fun c hc=>(k c hc).trans (h c hc)
def StepY (P:Program) (B:Bg) (Ls:List Nat) (ops:Array Oper) (o:Oper) (A:List D) (S:Sto) (K:List D→Sto→Prop):Prop:=
 ∃ R:D→Sto→Prop,(loudOp o=false→∀ d S',R d S'→S'=S)∧(∀ d S',R d S'→FrL Ls S S')∧(∀ (Q':AX→List D→Sto→Prop) (A':List D),Agree (o.looksAt ops) A A'→(∀ d S',R d S'→Q' .normal (putA A' o.dst d) S')→AOps P B ops Q' [o] A' S)∧∀ d S',R d S'→K (putA A o.dst d) S'
def AAnyY (P:Program) (B:Bg) (Q:AX→List D→Sto→Prop) (Ls:List Nat) (ops:Array Oper):Nat→Array Bool→List D→Sto→Prop
 | 0,listed,A,S=>Region.ready .any ops listed=[]∧Q .normal A S
 | n+1,listed,A,S=>Region.ready .any ops listed≠[]∧∀ i∈Region.ready .any ops listed,∃ o,ops[i]?=some o∧StepY P B Ls ops o A S (fun A' S'=>AAnyY P B Q Ls ops n (listed.setIfInBounds i true) A' S')
theorem AAnyY.sound:∀ (n:Nat) (listed:Array Bool) (A:List D) (S:Sto),AAnyY P B Q Ls ops n listed A S→AMix P B Q ops n listed A S
 | 0,listed,A,S,h=>AMix.end h.1 h.2
 | n+1,listed,A,S,h=>AMix.branch _ rfl h.1 (fun i hi=>by
  obtain ⟨o,ho,R,_,_,h1,h2⟩:=h.2 i hi
  exact ⟨o,ho,h1 _ A (Agree.refl _ _) (fun d S' hr=>AAnyY.sound n _ _ _ (h2 d S' hr))⟩)
theorem StepY.eval (hP:Prg P T) {o:Oper} {d:D} {S':Sto} {K:List D→Sto→Prop} (hw:wantedA ops A o=some true) (he:evalS T A S o.op=some (d,S')) (hf:FrL Ls S S') (h:K (putA A o.dst d) S'):StepY P B Ls ops o A S K:=
 ⟨fun d1 S1=>d1=d∧S1=S',fun hq d1 S1 h1=>h1.2.trans (quiet_same he hq),fun d1 S1 h1=>h1.2 ▸ hf,fun Q' A' hag hq=>AOps.step hP ((wantedA_agree hag).symm.trans hw) ((evalS_agree (T:=T) (S:=S) hag).symm.trans he) (AOps.nil (hq d S' ⟨rfl,rfl⟩)),fun d1 S1 h1=>by obtain ⟨rfl,rfl⟩:=h1;exact h⟩
theorem StepY.skip {o:Oper} {K:List D→Sto→Prop} (hw:wantedA ops A o=some false) (h:K (putA A o.dst (.tup [])) S):StepY P B Ls ops o A S K:=
 ⟨fun d1 S1=>d1=.tup []∧S1=S,fun _ d1 S1 h1=>h1.2,fun d1 S1 h1=>h1.2 ▸ FrL.refl _ _,fun Q' A' hag hq=>AOps.skip ((wantedA_agree hag).symm.trans hw) (AOps.nil (hq _ _ ⟨rfl,rfl⟩)),fun d1 S1 h1=>by obtain ⟨rfl,rfl⟩:=h1;exact h⟩
def QY (T:TypeId→Ty) (ops:Array Oper) (o:Oper) (A:List D) (S:Sto) (v:D):Prop:=(wantedA ops A o=some true∧evalS T A S o.op=some (v,S))∨(wantedA ops A o=some false∧v=.tup [])
theorem QY.step (hP:Prg P T) {o:Oper} {v:D} {K:List D→Sto→Prop} (h:QY T ops o A S v) (k:K (putA A o.dst v) S):StepY P B Ls ops o A S K:=by
 rcases h with ⟨h1,h2⟩ | ⟨h1,rfl⟩
 ·exact .eval hP h1 h2 (FrL.refl _ _) k
 ·exact .skip h1 k
theorem QY.agree {o:Oper} {v:D} {A':List D} (hag:Agree (o.looksAt ops) A A') (h:QY T ops o A S v):QY T ops o A' S v:=by
 rcases h with ⟨h1,h2⟩ | ⟨h1,h2⟩
 ·exact .inl ⟨(wantedA_agree hag).symm.trans h1,(evalS_agree (T:=T) (S:=S) hag).symm.trans h2⟩
 ·exact .inr ⟨(wantedA_agree hag).symm.trans h1,h2⟩

theorem AAnyY.first (hP:Prg P T) {Fs:Sto→Prop} {i F:Nat} {oi:Oper} {v:D} (hi:ops[i]?=some oi) (pure:Bool) (hT:pure=true→∀ S S',Fs S→FrL Ls S S'→Fs S') (hreach:pure=false→∀ j oj,ops[j]?=some oj→j≠i→loudOp oj=true→reachB ops F j i=true) :
  ∀ (n:Nat) (listed:Array Bool) (A:List D) (S:Sto),Closed ops listed→(∀ j oj,ops[j]?=some oj→j≠i→listed.getD j true=false→(∀ e∈oj.after,Region.binds .any e=true→e.on≠i)→oi.apart ops oj=true) →
  i∈Region.ready .any ops listed→(∀ S',Fs S'→QY T ops oi A S' v)→Fs S→AAnyY P B Q Ls ops n (listed.setIfInBounds i true) (putA A oi.dst v) S→AAnyY P B Q Ls ops (n+1) listed A S:=by
 intro n
 induction n with
 | zero=>
  intro listed A S hc hfree hr hq hS H
  refine ⟨fun h=>(by rw [h] at hr;cases hr),fun j hj=>?_⟩
  by_cases hji:j=i
  ·subst hji;exact ⟨oi,hi,(hq S hS).step hP H⟩
  ·have:=ready_mono hj hji
   rw [H.1] at this
   cases this
 | succ n ih=>
  intro listed A S hc hfree hr hq hS H
  refine ⟨fun h=>(by rw [h] at hr;cases hr),fun j hj=>?_⟩
  by_cases hji:j=i
  ·subst hji;exact ⟨oi,hi,(hq S hS).step hP H⟩
  ·obtain ⟨oj,hoj,R,hl,hfr,h1,h2⟩:=H.2 j (ready_mono hj hji)
   obtain ⟨hjun,oj',hoj',hall⟩:=mem_ready.1 hj
   rw [hoj] at hoj'
   simp only [Option.some.injEq] at hoj'
   subst hoj'
   have hnot:∀ e∈oj.after,Region.binds .any e=true→e.on≠i:=fun e he hb heq=>by
    have h1:=hall e he hb
    have h0:=(mem_ready.1 hr).1
    rw [heq] at h1
    rw [getD_tf h1] at h0;cases h0
   obtain ⟨p1,p2,p3⟩:=Oper.apart_spec (hfree j oj hoj hji hjun hnot)
   have hag:=agree_put A oi.dst v p1
   refine ⟨oj,hoj,R,hl,hfr,fun Q' A' ha hk=>h1 Q' A' (hag.symm.trans ha) hk,fun d S' hd=>?_⟩
   have hS':Fs S':=by
    cases hp:pure with
    | true=>exact hT hp S S' hS (hfr d S' hd)
    | false=>
     cases hlo:loudOp oj with
     | true=>
      exfalso
      have h1:=getD_tf (reach_listed hc F j i oj hoj hall (hreach hp j oj hoj hji hlo))
      have h0:=(mem_ready.1 hr).1
      rw [h1] at h0;cases h0
     | false=>rw [hl hlo d S' hd];exact hS
   refine ih (listed.setIfInBounds j true) _ S' (hc.set hj) (fun k ok hk hki hun hno=>?_) (ready_mono hr (Ne.symm hji)) (fun S2 h2=>(hq S2 h2).agree (agree_put A oj.dst d p3)) hS' ?_
   ·refine hfree k ok hk hki ?_ hno
    by_cases hjk:j=k
    ·subst hjk;exact hjun
    ·rw [getD_set_ne true hjk] at hun;exact hun
   ·rw [Array.setIfInBounds_comm _ _ hji,← putA_comm A oi.dst oj.dst v d p2]
    exact h2 d S' hd

def reachAll (ops:Array Oper) (i:Nat):Bool:=(List.range ops.size).all fun j=>Nat.beq j i || (match ops[j]? with | some o=>!loudOp o | none=>true) || reachB ops ops.size j i
theorem reachAll_spec {i:Nat} (h:reachAll ops i=true):∀ j oj,ops[j]?=some oj→j≠i→loudOp oj=true→reachB ops ops.size j i=true:=fun j oj hj hji hl=>by
 unfold reachAll at h
 simp only [List.all_eq_true,List.mem_range] at h
 have:=h j (Array.getElem?_eq_some_iff.1 hj).1
 rw [hj] at this
 simp only [hl,Bool.not_true,Bool.or_false,Bool.or_eq_true] at this
 rcases this with h1 | h1
 ·exact absurd (Nat.eq_of_beq_eq_true h1) hji
 ·exact h1
def AY (P:Program) (B:Bg) (Q:AX→List D→Sto→Prop) (Ls:List Nat) (ops:Array Oper) (n:Nat) (listed:Array Bool) (A:List D) (S:Sto):Prop:=Closed ops listed→AAnyY P B Q Ls ops n listed A S
end

section
variable {B : Bg} {Q : AX → List D → Sto → Prop} {A A' : List D} {S S' : Sto} {ops : Array Oper} {l : List Oper} {R : Prop} {o : Oper} {id n : Nat} {listed l1 : Array Bool} {Ls : List Nat}
theorem yp (i:Nat) {v:D} (k:AY Tryz.prog B Q Ls ops n l1 A' S) (hi:ops[i]?=some o:=by (simp only [List.getElem?_toArray,List.getElem?_cons_succ,List.getElem?_cons_zero];rfl)) (hr:(Region.ready .any ops listed).contains i=true:=by kernel_rfl) (hf:Region.free .any ops listed i=true:=by kernel_rfl)
  (hw:wantedA ops A o=some true:=by (first | rfl | (simp only [go_sem,Int.reduceEq,Int.reduceLT,Int.reduceBEq,Int.reduceBNe,Int.reduceNe,Nat.reduceLeDiff,Nat.reduceAdd,Nat.reduceSub,Nat.reduceLT,Nat.reduceEqDiff,Nat.reduceBEq,Int.reduceLE,Int.reduceToNat,F];done) | (simp only [go_sem,Int.reduceEq,Int.reduceLT,Int.reduceBEq,Int.reduceBNe,Int.reduceNe,Nat.reduceLeDiff,Nat.reduceAdd,Nat.reduceSub,Nat.reduceLT,Nat.reduceEqDiff,Nat.reduceBEq,Int.reduceLE,Int.reduceToNat,F];rfl))) (he:∀ S1,evalS tys A S1 o.op=some (v,S1):=by (intro S1;simp only [go_sem,Int.reduceEq,Int.reduceLT,Int.reduceBEq,Int.reduceBNe,Int.reduceNe,Nat.reduceLeDiff,Nat.reduceAdd,Nat.reduceSub,Nat.reduceLT,Nat.reduceEqDiff,Nat.reduceBEq,Int.reduceLE,Int.reduceToNat,F];rfl)) (hA:putA A o.dst v=A':=by (simp only [go_sem,Int.reduceEq,Int.reduceLT,Int.reduceBEq,Int.reduceBNe,Int.reduceNe,Nat.reduceLeDiff,Nat.reduceAdd,Nat.reduceSub,Nat.reduceLT,Nat.reduceEqDiff,Nat.reduceBEq,Int.reduceLE,Int.reduceToNat];rfl)) (h1:listed.setIfInBounds i true=l1:=by rfl):AY Tryz.prog B Q Ls ops (n+1) listed A S:=fun hc=>by
 subst hA h1
 have hr':i∈Region.ready .any ops listed:=by simpa using hr
 exact AAnyY.first (F:=0) (Fs:=fun _=>True) prg hi true (fun _ _ _ _ _=>trivial) (fun h=>by cases h) n listed A S hc (fun j oj hj hne hun hno=>Region.free_spec hi hf j oj hj hne hun hno) hr' (fun S' _=>.inl ⟨hw,he S'⟩) trivial (k (hc.set hr'))
theorem yk (i:Nat) (k:AY Tryz.prog B Q Ls ops n l1 A' S) (hi:ops[i]?=some o:=by (simp only [List.getElem?_toArray,List.getElem?_cons_succ,List.getElem?_cons_zero];rfl)) (hr:(Region.ready .any ops listed).contains i=true:=by kernel_rfl) (hf:Region.free .any ops listed i=true:=by kernel_rfl)
  (hw:wantedA ops A o=some false:=by (first | rfl | (simp only [go_sem,Int.reduceEq,Int.reduceLT,Int.reduceBEq,Int.reduceBNe,Int.reduceNe,Nat.reduceLeDiff,Nat.reduceAdd,Nat.reduceSub,Nat.reduceLT,Nat.reduceEqDiff,Nat.reduceBEq,Int.reduceLE,Int.reduceToNat,F];done) | (simp only [go_sem,Int.reduceEq,Int.reduceLT,Int.reduceBEq,Int.reduceBNe,Int.reduceNe,Nat.reduceLeDiff,Nat.reduceAdd,Nat.reduceSub,Nat.reduceLT,Nat.reduceEqDiff,Nat.reduceBEq,Int.reduceLE,Int.reduceToNat,F];rfl))) (hA:putA A o.dst (.tup [])=A':=by (simp only [go_sem,Int.reduceEq,Int.reduceLT,Int.reduceBEq,Int.reduceBNe,Int.reduceNe,Nat.reduceLeDiff,Nat.reduceAdd,Nat.reduceSub,Nat.reduceLT,Nat.reduceEqDiff,Nat.reduceBEq,Int.reduceLE,Int.reduceToNat];rfl)) (h1:listed.setIfInBounds i true=l1:=by rfl):AY Tryz.prog B Q Ls ops (n+1) listed A S:=fun hc=>by
 subst hA h1
 have hr':i∈Region.ready .any ops listed:=by simpa using hr
 exact AAnyY.first (F:=0) (Fs:=fun _=>True) prg hi true (fun _ _ _ _ _=>trivial) (fun h=>by cases h) n listed A S hc (fun j oj hj hne hun hno=>Region.free_spec hi hf j oj hj hne hun hno) hr' (fun S' _=>.inr ⟨hw,rfl⟩) trivial (k (hc.set hr'))
theorem yq (i:Nat) {v:D} (k:AY Tryz.prog B Q Ls ops n l1 A' S) (hi:ops[i]?=some o:=by (simp only [List.getElem?_toArray,List.getElem?_cons_succ,List.getElem?_cons_zero];rfl)) (hr:(Region.ready .any ops listed).contains i=true:=by kernel_rfl) (hf:Region.free .any ops listed i=true:=by kernel_rfl) (hL:reachAll ops i=true:=by kernel_rfl)
  (hw:wantedA ops A o=some true:=by (first | rfl | (simp only [go_sem,Int.reduceEq,Int.reduceLT,Int.reduceBEq,Int.reduceBNe,Int.reduceNe,Nat.reduceLeDiff,Nat.reduceAdd,Nat.reduceSub,Nat.reduceLT,Nat.reduceEqDiff,Nat.reduceBEq,Int.reduceLE,Int.reduceToNat,F];done) | (simp only [go_sem,Int.reduceEq,Int.reduceLT,Int.reduceBEq,Int.reduceBNe,Int.reduceNe,Nat.reduceLeDiff,Nat.reduceAdd,Nat.reduceSub,Nat.reduceLT,Nat.reduceEqDiff,Nat.reduceBEq,Int.reduceLE,Int.reduceToNat,F];rfl))) (he:evalS tys A S o.op=some (v,S):=by (simp only [go_sem,Int.reduceEq,Int.reduceLT,Int.reduceBEq,Int.reduceBNe,Int.reduceNe,Nat.reduceLeDiff,Nat.reduceAdd,Nat.reduceSub,Nat.reduceLT,Nat.reduceEqDiff,Nat.reduceBEq,Int.reduceLE,Int.reduceToNat,F];rfl)) (hA:putA A o.dst v=A':=by (simp only [go_sem,Int.reduceEq,Int.reduceLT,Int.reduceBEq,Int.reduceBNe,Int.reduceNe,Nat.reduceLeDiff,Nat.reduceAdd,Nat.reduceSub,Nat.reduceLT,Nat.reduceEqDiff,Nat.reduceBEq,Int.reduceLE,Int.reduceToNat];rfl)) (h1:listed.setIfInBounds i true=l1:=by rfl):AY Tryz.prog B Q Ls ops (n+1) listed A S:=fun hc=>by
 subst hA h1
 have hr':i∈Region.ready .any ops listed:=by simpa using hr
 exact AAnyY.first (Fs:=fun S'=>S'=S) prg hi false (fun h=>by cases h) (fun _=>reachAll_spec hL) n listed A S hc (fun j oj hj hne hun hno=>Region.free_spec hi hf j oj hj hne hun hno) hr' (fun S' h=>by rw [h];exact .inl ⟨hw,he⟩) rfl (k (hc.set hr'))
theorem ys (i:Nat) {v:D} (k:AY Tryz.prog B Q Ls ops n l1 A' S') (hi:ops[i]?=some o:=by (simp only [List.getElem?_toArray,List.getElem?_cons_succ,List.getElem?_cons_zero];rfl)) (hr:Region.ready .any ops listed=[i]:=by kernel_rfl)
  (hw:wantedA ops A o=some true:=by (first | rfl | (simp only [go_sem,Int.reduceEq,Int.reduceLT,Int.reduceBEq,Int.reduceBNe,Int.reduceNe,Nat.reduceLeDiff,Nat.reduceAdd,Nat.reduceSub,Nat.reduceLT,Nat.reduceEqDiff,Nat.reduceBEq,Int.reduceLE,Int.reduceToNat,F];done) | (simp only [go_sem,Int.reduceEq,Int.reduceLT,Int.reduceBEq,Int.reduceBNe,Int.reduceNe,Nat.reduceLeDiff,Nat.reduceAdd,Nat.reduceSub,Nat.reduceLT,Nat.reduceEqDiff,Nat.reduceBEq,Int.reduceLE,Int.reduceToNat,F];rfl))) (he:evalS tys A S o.op=some (v,S'):=by (simp only [go_sem,Int.reduceEq,Int.reduceLT,Int.reduceBEq,Int.reduceBNe,Int.reduceNe,Nat.reduceLeDiff,Nat.reduceAdd,Nat.reduceSub,Nat.reduceLT,Nat.reduceEqDiff,Nat.reduceBEq,Int.reduceLE,Int.reduceToNat,F];rfl)) (hA:putA A o.dst v=A':=by (simp only [go_sem,Int.reduceEq,Int.reduceLT,Int.reduceBEq,Int.reduceBNe,Int.reduceNe,Nat.reduceLeDiff,Nat.reduceAdd,Nat.reduceSub,Nat.reduceLT,Nat.reduceEqDiff,Nat.reduceBEq,Int.reduceLE,Int.reduceToNat];rfl)) (h1:listed.setIfInBounds i true=l1:=by rfl) (hfr:FrL Ls S S':=by (first | (intro c hc;cases hc;done) | (simp only [FrL,List.forall_mem_cons,List.not_mem_nil,false_implies,implies_true,go_sem,Int.reduceEq,Int.reduceLT,Int.reduceBEq,Int.reduceBNe,Int.reduceNe,Nat.reduceLeDiff,Nat.reduceAdd,Nat.reduceSub,Nat.reduceLT,Nat.reduceEqDiff,Nat.reduceBEq,Int.reduceLE,Int.reduceToNat,F];done) | (simp only [FrL,List.forall_mem_cons,List.not_mem_nil,false_implies,implies_true,go_sem,Int.reduceEq,Int.reduceLT,Int.reduceBEq,Int.reduceBNe,Int.reduceNe,Nat.reduceLeDiff,Nat.reduceAdd,Nat.reduceSub,Nat.reduceLT,Nat.reduceEqDiff,Nat.reduceBEq,Int.reduceLE,Int.reduceToNat,F,and_self];rfl))):AY Tryz.prog B Q Ls ops (n+1) listed A S:=fun hc=>by
 subst hA h1
 refine ⟨by rw [hr];simp,fun j hj=>?_⟩
 have hj':=hj
 rw [hr] at hj
 simp only [List.mem_singleton] at hj
 subst hj
 exact ⟨o,hi,.eval prg hw he hfr (k (hc.set hj'))⟩
theorem yb (i j:Nat) {oi oj:Oper} {vi vj:D} {Ai Aj:List D} {Si Sj:Sto} {li lj:Array Bool} (ki:AY Tryz.prog B Q Ls ops n li Ai Si) (kj:AY Tryz.prog B Q Ls ops n lj Aj Sj) (hi:ops[i]?=some oi:=by (simp only [List.getElem?_toArray,List.getElem?_cons_succ,List.getElem?_cons_zero];rfl)) (hj:ops[j]?=some oj:=by (simp only [List.getElem?_toArray,List.getElem?_cons_succ,List.getElem?_cons_zero];rfl))
  (hr:Region.ready .any ops listed=[i,j]:=by kernel_rfl)
  (hwi:wantedA ops A oi=some true:=by (first | rfl | (simp only [go_sem,Int.reduceEq,Int.reduceLT,Int.reduceBEq,Int.reduceBNe,Int.reduceNe,Nat.reduceLeDiff,Nat.reduceAdd,Nat.reduceSub,Nat.reduceLT,Nat.reduceEqDiff,Nat.reduceBEq,Int.reduceLE,Int.reduceToNat,F];done) | (simp only [go_sem,Int.reduceEq,Int.reduceLT,Int.reduceBEq,Int.reduceBNe,Int.reduceNe,Nat.reduceLeDiff,Nat.reduceAdd,Nat.reduceSub,Nat.reduceLT,Nat.reduceEqDiff,Nat.reduceBEq,Int.reduceLE,Int.reduceToNat,F];rfl))) (hei:evalS tys A S oi.op=some (vi,Si):=by (simp only [go_sem,Int.reduceEq,Int.reduceLT,Int.reduceBEq,Int.reduceBNe,Int.reduceNe,Nat.reduceLeDiff,Nat.reduceAdd,Nat.reduceSub,Nat.reduceLT,Nat.reduceEqDiff,Nat.reduceBEq,Int.reduceLE,Int.reduceToNat,F];rfl)) (hAi:putA A oi.dst vi=Ai:=by (simp only [go_sem,Int.reduceEq,Int.reduceLT,Int.reduceBEq,Int.reduceBNe,Int.reduceNe,Nat.reduceLeDiff,Nat.reduceAdd,Nat.reduceSub,Nat.reduceLT,Nat.reduceEqDiff,Nat.reduceBEq,Int.reduceLE,Int.reduceToNat];rfl)) (h1:listed.setIfInBounds i true=li:=by rfl)
  (hwj:wantedA ops A oj=some true:=by (first | rfl | (simp only [go_sem,Int.reduceEq,Int.reduceLT,Int.reduceBEq,Int.reduceBNe,Int.reduceNe,Nat.reduceLeDiff,Nat.reduceAdd,Nat.reduceSub,Nat.reduceLT,Nat.reduceEqDiff,Nat.reduceBEq,Int.reduceLE,Int.reduceToNat,F];done) | (simp only [go_sem,Int.reduceEq,Int.reduceLT,Int.reduceBEq,Int.reduceBNe,Int.reduceNe,Nat.reduceLeDiff,Nat.reduceAdd,Nat.reduceSub,Nat.reduceLT,Nat.reduceEqDiff,Nat.reduceBEq,Int.reduceLE,Int.reduceToNat,F];rfl))) (hej:evalS tys A S oj.op=some (vj,Sj):=by (simp only [go_sem,Int.reduceEq,Int.reduceLT,Int.reduceBEq,Int.reduceBNe,Int.reduceNe,Nat.reduceLeDiff,Nat.reduceAdd,Nat.reduceSub,Nat.reduceLT,Nat.reduceEqDiff,Nat.reduceBEq,Int.reduceLE,Int.reduceToNat,F];rfl)) (hAj:putA A oj.dst vj=Aj:=by (simp only [go_sem,Int.reduceEq,Int.reduceLT,Int.reduceBEq,Int.reduceBNe,Int.reduceNe,Nat.reduceLeDiff,Nat.reduceAdd,Nat.reduceSub,Nat.reduceLT,Nat.reduceEqDiff,Nat.reduceBEq,Int.reduceLE,Int.reduceToNat];rfl)) (h2:listed.setIfInBounds j true=lj:=by rfl) (hfi:FrL Ls S Si:=by (first | (intro c hc;cases hc;done) | (simp only [FrL,List.forall_mem_cons,List.not_mem_nil,false_implies,implies_true,go_sem,Int.reduceEq,Int.reduceLT,Int.reduceBEq,Int.reduceBNe,Int.reduceNe,Nat.reduceLeDiff,Nat.reduceAdd,Nat.reduceSub,Nat.reduceLT,Nat.reduceEqDiff,Nat.reduceBEq,Int.reduceLE,Int.reduceToNat,F];done) | (simp only [FrL,List.forall_mem_cons,List.not_mem_nil,false_implies,implies_true,go_sem,Int.reduceEq,Int.reduceLT,Int.reduceBEq,Int.reduceBNe,Int.reduceNe,Nat.reduceLeDiff,Nat.reduceAdd,Nat.reduceSub,Nat.reduceLT,Nat.reduceEqDiff,Nat.reduceBEq,Int.reduceLE,Int.reduceToNat,F,and_self];rfl))) (hfj:FrL Ls S Sj:=by (first | (intro c hc;cases hc;done) | (simp only [FrL,List.forall_mem_cons,List.not_mem_nil,false_implies,implies_true,go_sem,Int.reduceEq,Int.reduceLT,Int.reduceBEq,Int.reduceBNe,Int.reduceNe,Nat.reduceLeDiff,Nat.reduceAdd,Nat.reduceSub,Nat.reduceLT,Nat.reduceEqDiff,Nat.reduceBEq,Int.reduceLE,Int.reduceToNat,F];done) | (simp only [FrL,List.forall_mem_cons,List.not_mem_nil,false_implies,implies_true,go_sem,Int.reduceEq,Int.reduceLT,Int.reduceBEq,Int.reduceBNe,Int.reduceNe,Nat.reduceLeDiff,Nat.reduceAdd,Nat.reduceSub,Nat.reduceLT,Nat.reduceEqDiff,Nat.reduceBEq,Int.reduceLE,Int.reduceToNat,F,and_self];rfl))):AY Tryz.prog B Q Ls ops (n+1) listed A S:=fun hc=>by
 subst hAi hAj h1 h2
 refine ⟨by rw [hr];simp,fun k hk=>?_⟩
 have hk':=hk
 rw [hr] at hk
 simp only [List.mem_cons,List.not_mem_nil,or_false] at hk
 rcases hk with rfl | rfl
 ·exact ⟨oi,hi,.eval prg hwi hei hfi (ki (hc.set hk'))⟩
 ·exact ⟨oj,hj,.eval prg hwj hej hfj (kj (hc.set hk'))⟩
theorem ya (i:Nat) (e:TypeId) (z by_:Nat) {t:TypeId} {x y:Operand} {tg tg':Tag} {es ns:List D} (hsz:∀ d∈es++ns,d.size=z) (hm:mayApp S e z es tg) (hb:(es.length+ns.length)*by_≤140737488355328)
  (k:∀ g,g ∉ S.bk.map (·.1)→g ∉ (dropTok tg S.ow).map (·.1)→AY Tryz.prog B Q Ls ops n l1 (putA A o.dst (.sl (.own g e z) (es++ns))) ⟨S.bk,(g,(es++ns).length*z)::dropTok tg S.ow⟩)
  (hi:ops[i]?=some o:=by (simp only [List.getElem?_toArray,List.getElem?_cons_succ,List.getElem?_cons_zero];rfl)) (ho:o.op=.call ⟨.builtin .append,#[x,y],#[t,t]⟩:=by rfl) (hr:Region.ready .any ops listed=[i]:=by kernel_rfl) (hw:wantedA ops A o=some true:=by rfl) (hx:evalO A x=.sl tg es:=by rfl) (hy:evalO A y=.sl tg' ns:=by rfl) (ht:tys t=.slice e:=by rfl)
  (hk:(tys e).known=true:=by rfl) (hl:(tys e).zero.lies=true:=by rfl) (hz:(tys e).zero.size=z:=by rfl) (hz0:0<z:=by decide) (hby:((Tryz.prog).info? e).map (·.bytes)=some by_:=by kernel_rfl) (hby0:0<by_:=by decide) (hn:ns≠[]:=by simp) (h1:listed.setIfInBounds i true=l1:=by rfl):AY Tryz.prog B Q Ls ops (n+1) listed A S:=fun hc=>by
 subst h1
 refine ⟨by rw [hr];simp,fun j hj=>?_⟩
 have hj':=hj
 rw [hr] at hj
 simp only [List.mem_singleton] at hj
 subst hj
 refine ⟨o,hi,fun d S'=>∃ g,g ∉ S.bk.map (·.1)∧g ∉ (dropTok tg S.ow).map (·.1)∧d=.sl (.own g e z) (es++ns)∧S'=⟨S.bk,(g,(es++ns).length*z)::dropTok tg S.ow⟩,?_,?_,?_,?_⟩
 ·intro hq
  unfold loudOp at hq
  rw [ho] at hq
  cases hq
 ·rintro d S' ⟨g,_,_,_,rfl⟩
  exact fun _ _=>rfl
 ·intro Q' A' hag hk'
  have hlook:∀ u,x=.tmp u∨y=.tmp u→u∈o.looksAt ops:=fun u hu=>looks_mem (by rw [ho];rcases hu with h | h <;> (subst h;simp [Op.operands,Call.operands]))
  refine AOps.append prg ho ((wantedA_agree hag).symm.trans hw) ht ((evalO_agree hag (fun u hu=>hlook u (.inl hu))).symm.trans hx) ((evalO_agree hag (fun u hu=>hlook u (.inr hu))).symm.trans hy) hk hl hz hz0 hby hby0 hsz hm hn hb (fun g h1 h2=>AOps.nil (hk' _ _ ⟨g,h1,h2,rfl,rfl⟩))
 ·rintro d S' ⟨g,h1,h2,rfl,rfl⟩
  exact k g h1 h2 (hc.set hj')
theorem ye (k:R) (hr:Region.ready .any ops listed=[]:=by kernel_rfl) (h:Q .normal A S=R:=by ((try dsimp only [AX.then,AX.inBlock]);try rfl)):AY Tryz.prog B Q Ls ops 0 listed A S:=fun _=>⟨hr,h ▸ k⟩
theorem yc (i:Nat) {f:FuncId} {args:Array Operand} {ats:Array TypeId} {R:D→Sto→Prop} (c:ACalls Tryz.prog f (args.toList.map (evalO A)) S (fun e S'=>∃ d,e=.ret d∧R d S')) (hfr:∀ d S',R d S'→FrL Ls S S')
  (k:∀ d S',R d S'→AY Tryz.prog B Q Ls ops n l1 (putA A o.dst d) S') (hi:ops[i]?=some o:=by (simp only [List.getElem?_toArray,List.getElem?_cons_succ,List.getElem?_cons_zero];rfl)) (ho:o.op=.call ⟨.value (.func f),args,ats⟩:=by rfl) (hr:Region.ready .any ops listed=[i]:=by kernel_rfl)
  (hw:wantedA ops A o=some true:=by rfl) (h1:listed.setIfInBounds i true=l1:=by rfl):AY Tryz.prog B Q Ls ops (n+1) listed A S:=fun hc=>by
 subst h1
 refine ⟨by rw [hr];simp,fun j hj=>?_⟩
 have hj':=hj
 rw [hr] at hj
 simp only [List.mem_singleton] at hj
 subst hj
 refine ⟨o,hi,R,?_,hfr,?_,fun d S' hR=>k d S' hR (hc.set hj')⟩
 ·intro hq
  unfold loudOp at hq
  rw [ho] at hq
  cases hq
 ·intro Q' A' hag hk'
  have hargs:args.toList.map (evalO A')=args.toList.map (evalO A):=List.map_congr_left (fun x hx=>(evalO_agree hag (fun u hu=>looks_mem (by rw [ho];subst hu;simp [Op.operands,Call.operands,hx]))).symm)
  refine AOps.callx ho ((wantedA_agree hag).symm.trans hw) (by rw [hargs];exact c) (fun d S' hR=>AOps.nil (hk' d S' hR))
theorem ACalls.x {f:FuncId} {a:List D} {S S':Sto} {d:D} (c:ACalls Tryz.prog f a S (RetQ d S')):ACalls Tryz.prog f a S (fun e S1=>∃ d1,e=.ret d1∧(d1=d∧S1=S')):=
 ⟨c.1,fun w xs hS hx=>(c.2 w xs hS hx).mono fun e w' h=>by
  cases e with
  | returned v=>obtain ⟨d1,S1,h1,h2,h3,h4,rfl⟩:=h;simp only [AEnd.ret.injEq] at h4;subst h4;exact ⟨d1,S1,h1,h2,h3,d1,rfl,rfl,rfl⟩
  | panicked ch=>obtain ⟨d1,v,S1,h1,_,_,_,h4,_⟩:=h;cases h4
  | outgrown=>exact h.elim⟩
theorem yr (i:Nat) {f:FuncId} {args:Array Operand} {ats:Array TypeId} {d:D} (k:AY Tryz.prog B Q Ls ops n l1 A' S) (hi:ops[i]?=some o:=by (simp only [List.getElem?_toArray,List.getElem?_cons_succ,List.getElem?_cons_zero];rfl)) (ho:o.op=.call ⟨.value (.func f),args,ats⟩:=by rfl) (c:ACalls Tryz.prog f (args.toList.map (evalO A)) S (RetQ d S)) (hr:Region.ready .any ops listed=[i]:=by kernel_rfl)
  (hw:wantedA ops A o=some true:=by rfl) (hA:putA A o.dst d=A':=by (simp only [go_sem,Int.reduceEq,Int.reduceLT,Int.reduceBEq,Int.reduceBNe,Int.reduceNe,Nat.reduceLeDiff,Nat.reduceAdd,Nat.reduceSub,Nat.reduceLT,Nat.reduceEqDiff,Nat.reduceBEq,Int.reduceLE,Int.reduceToNat];rfl)) (h1:listed.setIfInBounds i true=l1:=by rfl):AY Tryz.prog B Q Ls ops (n+1) listed A S:=
 yc i c.x (fun d' S' h=>by rw [h.2];exact FrL.refl _ _) (fun d' S' h=>by obtain ⟨rfl,rfl⟩:=h;subst hA;exact k) hi ho hr hw h1
theorem fr_next {bt bo:Nat} {x y:D} {S:Sto} {ow:List (Nat×Nat)} (h:∀ c∈Ls,¬ c=bt∧¬ c=bo):FrL Ls S ⟨setM (setM S.bk bt x) bo y,ow⟩:=fun c hc=>by
 show getM (setM (setM _ _ _) _ _) c=_
 rw [getM_setM_ne (h c hc).2,getM_setM_ne (h c hc).1]
theorem yl (i:Nat) {v:D} (k:AY Tryz.prog B Q Ls ops n l1 A' S) (he:∀ S1,FrL Ls S S1→evalS tys A S1 o.op=some (v,S1)) (hi:ops[i]?=some o:=by (simp only [List.getElem?_toArray,List.getElem?_cons_succ,List.getElem?_cons_zero];rfl)) (hr:(Region.ready .any ops listed).contains i=true:=by kernel_rfl) (hf:Region.free .any ops listed i=true:=by kernel_rfl)
  (hw:wantedA ops A o=some true:=by (first | rfl | (simp only [go_sem,Int.reduceEq,Int.reduceLT,Int.reduceBEq,Int.reduceBNe,Int.reduceNe,Nat.reduceLeDiff,Nat.reduceAdd,Nat.reduceSub,Nat.reduceLT,Nat.reduceEqDiff,Nat.reduceBEq,Int.reduceLE,Int.reduceToNat,F];done) | (simp only [go_sem,Int.reduceEq,Int.reduceLT,Int.reduceBEq,Int.reduceBNe,Int.reduceNe,Nat.reduceLeDiff,Nat.reduceAdd,Nat.reduceSub,Nat.reduceLT,Nat.reduceEqDiff,Nat.reduceBEq,Int.reduceLE,Int.reduceToNat,F];rfl))) (hA:putA A o.dst v=A':=by (simp only [go_sem,Int.reduceEq,Int.reduceLT,Int.reduceBEq,Int.reduceBNe,Int.reduceNe,Nat.reduceLeDiff,Nat.reduceAdd,Nat.reduceSub,Nat.reduceLT,Nat.reduceEqDiff,Nat.reduceBEq,Int.reduceLE,Int.reduceToNat];rfl)) (h1:listed.setIfInBounds i true=l1:=by rfl):AY Tryz.prog B Q Ls ops (n+1) listed A S:=fun hc=>by
 subst hA h1
 have hr':i∈Region.ready .any ops listed:=by simpa using hr
 exact AAnyY.first (F:=0) (Fs:=fun S1=>FrL Ls S S1) prg hi true (fun _ S1 S2 h1 h2=>h1.trans h2) (fun h=>by cases h) n listed A S hc (fun j oj hj hne hun hno=>Region.free_spec hi hf j oj hj hne hun hno) hr' (fun S' h'=>.inl ⟨hw,he S' h'⟩) (FrL.refl _ _) (k (hc.set hr'))
theorem loadS {t tb:TypeId} {b:Nat} {d:D} {x:Operand} {S1:Sto} (h1:FrL Ls S S1) (hb:b∈Ls) (hg:getM S.bk b=some (tb,d)) (hx:evalO A x=.v (.pointer (some ⟨b,0,Option.none⟩))) (hs:subD d 0 (tys t).zero.size (tys t).agg=some d) (hk:(tys t).known=true):evalS tys A S1 (.load t x)=some (d,S1):=by
 have g:=(h1 b hb).trans hg
 simp only [evalS,evalV,hx,loadV,hk,if_true,g,hs,Option.map_some]
theorem yd (i:Nat) {t tb:TypeId} {b:Nat} {d:D} {x:Operand} (k:AY Tryz.prog B Q Ls ops n l1 A' S) (hi:ops[i]?=some o:=by (simp only [List.getElem?_toArray,List.getElem?_cons_succ,List.getElem?_cons_zero];rfl)) (ho:o.op=.load t x:=by rfl) (hx:evalO A x=.v (.pointer (some ⟨b,0,Option.none⟩)):=by rfl)
  (hg:getM S.bk b=some (tb,d):=by (simp only [go_sem,Int.reduceEq,Int.reduceLT,Int.reduceBEq,Int.reduceBNe,Int.reduceNe,Nat.reduceLeDiff,Nat.reduceAdd,Nat.reduceSub,Nat.reduceLT,Nat.reduceEqDiff,Nat.reduceBEq,Int.reduceLE,Int.reduceToNat,F];rfl)) (hs:subD d 0 (tys t).zero.size (tys t).agg=some d:=by rfl) (hk:(tys t).known=true:=by rfl) (hb:b∈Ls:=by simp) (hr:(Region.ready .any ops listed).contains i=true:=by kernel_rfl) (hf:Region.free .any ops listed i=true:=by kernel_rfl)
  (hw:wantedA ops A o=some true:=by (first | rfl | (simp only [go_sem,Int.reduceEq,Int.reduceLT,Int.reduceBEq,Int.reduceBNe,Int.reduceNe,Nat.reduceLeDiff,Nat.reduceAdd,Nat.reduceSub,Nat.reduceLT,Nat.reduceEqDiff,Nat.reduceBEq,Int.reduceLE,Int.reduceToNat,F];done) | (simp only [go_sem,Int.reduceEq,Int.reduceLT,Int.reduceBEq,Int.reduceBNe,Int.reduceNe,Nat.reduceLeDiff,Nat.reduceAdd,Nat.reduceSub,Nat.reduceLT,Nat.reduceEqDiff,Nat.reduceBEq,Int.reduceLE,Int.reduceToNat,F];rfl))) (hA:putA A o.dst d=A':=by (simp only [go_sem,Int.reduceEq,Int.reduceLT,Int.reduceBEq,Int.reduceBNe,Int.reduceNe,Nat.reduceLeDiff,Nat.reduceAdd,Nat.reduceSub,Nat.reduceLT,Nat.reduceEqDiff,Nat.reduceBEq,Int.reduceLE,Int.reduceToNat];rfl)) (h1:listed.setIfInBounds i true=l1:=by rfl):AY Tryz.prog B Q Ls ops (n+1) listed A S:=
 yl i k (fun S1 h1=>by rw [ho];exact loadS h1 hb hg hx hs hk) hi hr hf hw hA h1
theorem yo (i:Nat) {b:Nat} {tb:TypeId} {d0 v:D} (hg:getM S.bk b=some (tb,d0)) (k:AY Tryz.prog B Q Ls ops n l1 A' S) (hi:ops[i]?=some o:=by (simp only [List.getElem?_toArray,List.getElem?_cons_succ,List.getElem?_cons_zero];rfl)) (he:∀ S1,getM S1.bk b=some (tb,d0)→evalS tys A S1 o.op=some (v,S1):=by (intro S1 g;simp only [go_sem,Int.reduceEq,Int.reduceLT,Int.reduceBEq,Int.reduceBNe,Int.reduceNe,Nat.reduceLeDiff,Nat.reduceAdd,Nat.reduceSub,Nat.reduceLT,Nat.reduceEqDiff,Nat.reduceBEq,Int.reduceLE,Int.reduceToNat,g,F];rfl)) (hb:b∈Ls:=by simp)
  (hr:(Region.ready .any ops listed).contains i=true:=by kernel_rfl) (hf:Region.free .any ops listed i=true:=by kernel_rfl)
  (hw:wantedA ops A o=some true:=by (first | rfl | (simp only [go_sem,Int.reduceEq,Int.reduceLT,Int.reduceBEq,Int.reduceBNe,Int.reduceNe,Nat.reduceLeDiff,Nat.reduceAdd,Nat.reduceSub,Nat.reduceLT,Nat.reduceEqDiff,Nat.reduceBEq,Int.reduceLE,Int.reduceToNat,F];done) | (simp only [go_sem,Int.reduceEq,Int.reduceLT,Int.reduceBEq,Int.reduceBNe,Int.reduceNe,Nat.reduceLeDiff,Nat.reduceAdd,Nat.reduceSub,Nat.reduceLT,Nat.reduceEqDiff,Nat.reduceBEq,Int.reduceLE,Int.reduceToNat,F];rfl))) (hA:putA A o.dst v=A':=by (simp only [go_sem,Int.reduceEq,Int.reduceLT,Int.reduceBEq,Int.reduceBNe,Int.reduceNe,Nat.reduceLeDiff,Nat.reduceAdd,Nat.reduceSub,Nat.reduceLT,Nat.reduceEqDiff,Nat.reduceBEq,Int.reduceLE,Int.reduceToNat];rfl)) (h1:listed.setIfInBounds i true=l1:=by rfl):AY Tryz.prog B Q Ls ops (n+1) listed A S:=
 yl i k (fun S1 h1=>he S1 ((h1 b hb).trans hg)) hi hr hf hw hA h1
theorem yy (Ls:List Nat) (k:AY Tryz.prog B Q Ls l.toArray l.length (Array.replicate l.length false) A S):AW Tryz.prog B (.region id l.toArray true) Q A S:=fun a w ka=>by
 refine wp_region_any prg.mixed ?_
 have h3:=AAnyY.sound _ _ _ _ (k (Closed.none _)) a _ ka.drawn
 simpa using h3
theorem yz (k:AY Tryz.prog B Q [] l.toArray l.length (Array.replicate l.length false) A S):AW Tryz.prog B (.region id l.toArray true) Q A S:=fun a w ka=>by
 refine wp_region_any prg.mixed ?_
 have h3:=AAnyY.sound _ _ _ _ (k (Closed.none _)) a _ ka.drawn
 simpa using h3
end

end Go.Proofs.YtgjaaffheanobaaGreat