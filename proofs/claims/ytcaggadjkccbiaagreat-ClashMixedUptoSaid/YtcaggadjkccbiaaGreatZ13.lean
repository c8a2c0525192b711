/- Values without addresses: statements whose order is open and that write at their end; what is put off. -/
import Derived.Test.YtcaggadjkccbiaaGreatZ12
import Derived.Recover
namespace Go.Proofs.YtcaggadjkccbiaaGreat
set_option linter.unusedVariables false
set_option linter.unusedSimpArgs false
open Go Go.RowKit

section
variable {P : Program} {T : TypeId → Ty} {B : Bg} {Q : AX → List D → Sto → Prop} {S : Sto} {A : List D} {ops : Array Oper}

def AMix (P:Program) (B:Bg) (Q:AX→List D→Sto→Prop) (ops:Array Oper) (n:Nat) (listed:Array Bool) (A:List D) (S:Sto):Prop:=∀ a w,At B A S a w→wpAny P .any ops (Conc B Q) n listed a w

def forcedB (ops:Array Oper):Nat→Nat→Array Bool→Bool
 | 0,_,listed=>(Region.ready .any ops listed).isEmpty
 | n+1,k,listed=>(match Region.ready .any ops listed with | [i]=>Nat.beq i k | _=>false) && forcedB ops n (k+1) (listed.setIfInBounds k true)

theorem forced_any {Q:Exit→Act→World→Prop}:∀ (l:List Oper) (k:Nat) (listed:Array Bool) (a:Act) (w:World),(∀ j,l[j]?=ops[k+j]?)→forcedB ops l.length k listed=true→wpList P ops Q l a w→wpAny P .any ops Q l.length listed a w
 | [],k,listed,a,w,hl,hf,h=>⟨by simpa [forcedB] using hf,h⟩
 | o::l,k,listed,a,w,hl,hf,h=>by
  have h0:ops[k]?=some o:=by simpa using (hl 0).symm
  simp only [List.length_cons,forcedB,Bool.and_eq_true] at hf
  obtain ⟨h1,h2⟩:=hf
  split at h1
  ·rename_i i hr
   have hik:i=k:=Nat.eq_of_beq_eq_true h1
   subst hik
   refine ⟨fun e=>(by rw [hr] at e;cases e),fun j hj=>?_⟩
   rw [hr] at hj
   simp only [List.mem_singleton] at hj
   subst hj
   have ih:=fun a w=>forced_any (Q:=Q) l (j+1) (listed.setIfInBounds j true) a w (fun i=>by have:=hl (i+1);simpa [Nat.add_assoc,Nat.add_comm 1 i] using this) h2
   unfold wpOp
   simp only [h0]
   unfold wpList at h
   split
   ·rename_i hw
    rw [if_pos hw] at h
    rcases h with h | h
    ·exact .inl (Oper.wp_mono (fun a w h=>ih a w h) h)
    ·exact .inr h
   ·rename_i hw
    rw [if_neg hw] at h
    exact ih _ _ h
  ·cases h1

theorem AMix.forced {l:List Oper} {k:Nat} {listed:Array Bool} (hl:ops.toList.drop k=l) (hf:forcedB ops l.length k listed=true) (h:AOps P B ops Q l A S):AMix P B Q ops l.length listed A S:=fun a w ka=>
 forced_any l k listed a w (fun j=>by rw [← hl,List.getElem?_drop];simp) hf (h a w ka)

theorem conc_then {K:List D→Sto→Prop} {e:Exit} {a:Act} {w:World} (hn:e≠.normal) (h:Conc B (AX.then K Q) e a w):Conc B Q e a w:=by
 cases e with
 | normal=>exact absurd rfl hn
 | exit id=>exact h
 | goto l=>exact h
 | ret=>exact h
 | panic ch=>exact h
 | outgrown=>exact h

theorem wp_then {K : List D → Sto → Prop} {o : Oper} {a : Act} {w : World} {next : Act → World → Prop} (h : o.wp P a w next (Conc B (AX.then K Q))) : o.wp P a w next (Conc B Q) := by
  unfold Oper.wp at *
  generalize (execOp a.eval o).run P w = r at *
  cases r with
  | ok nx w' =>
    cases nx <;> simp only [Oper.upon] at h ⊢ <;> first
      | exact h
      | (refine h.mono (fun e w'' he => ?_)
         cases e <;> first | exact he | exact conc_then (by simp) he | (obtain ⟨a, w, he⟩ := he; exact ⟨a, w, conc_then (by simp) he⟩))
  | halt x w' => cases x <;> first | exact h | exact conc_then (by simp) h | exact h.elim

theorem AMix.branch {n:Nat} {listed:Array Bool} (r:List Nat) (hr:Region.ready .any ops listed=r) (hne:r≠[]) (h:∀ i∈r,∃ o,ops[i]?=some o∧AOps P B ops (AX.then (fun A' S'=>AMix P B Q ops n (listed.setIfInBounds i true) A' S') Q) [o] A S):AMix P B Q ops (n+1) listed A S:=fun a w k=>by
 refine ⟨fun e=>absurd (hr.symm.trans e) hne,fun i hi=>?_⟩
 rw [hr] at hi
 obtain ⟨o,ho,h⟩:=h i hi
 have:=h a w k
 unfold wpOp
 simp only [ho]
 unfold wpList at this
 have hgo:∀ a w,wpList P ops (Conc B (AX.then (fun A' S'=>AMix P B Q ops n (listed.setIfInBounds i true) A' S') Q)) [] a w→wpAny P .any ops (Conc B Q) n (listed.setIfInBounds i true) a w:=fun a w ⟨A',S',k',h'⟩=>h' a w k'
 split
 ·rename_i hw
  rw [if_pos hw] at this
  rcases this with this | ⟨h1,a',w',h2⟩
  ·exact .inl (wp_then (Oper.wp_mono hgo this))
  ·exact .inr ⟨h1,a',w',conc_then (by simp) h2⟩
 ·rename_i hw
  rw [if_neg hw] at this
  exact hgo _ _ this
theorem AMix.end {listed:Array Bool} (hr:Region.ready .any ops listed=[]) (h:Q .normal A S):AMix P B Q ops 0 listed A S:=fun a w k=>⟨hr,A,S,k,h⟩

def AAnyK (P:Program) (B:Bg) (Q:AX→List D→Sto→Prop) (ops:Array Oper) (S:Sto) (np:Nat) (K:Array Bool→List D→Prop):Nat→Array Bool→List D→Prop
 | 0,listed,A=>(∀ j∈Region.ready .any ops listed,np≤j)∧K listed A
 | n+1,listed,A=>Region.ready .any ops listed≠[]∧∀ i∈Region.ready .any ops listed,i<np∧∃ o d,ops[i]?=some o∧QOp P B Q ops S o A d∧AAnyK P B Q ops S np K n (listed.setIfInBounds i true) (putA A o.dst d)

theorem AAnyK.first {np:Nat} {K:Array Bool→List D→Prop} {i:Nat} {oi:Oper} {v:D} (hi:ops[i]?=some oi) (hin:i<np):∀ (n:Nat) (listed:Array Bool) (A:List D),
  (∀ j oj,ops[j]?=some oj→j≠i→listed.getD j true=false→(∀ e∈oj.after,Region.binds .any e=true→e.on≠i)→oi.apart ops oj=true∧j<np) →
  i∈Region.ready .any ops listed→QOp P B Q ops S oi A v→AAnyK P B Q ops S np K n (listed.setIfInBounds i true) (putA A oi.dst v)→AAnyK P B Q ops S np K (n+1) listed A:=by
 intro n
 induction n with
 | zero=>
  intro listed A hfree hr hq H
  refine ⟨fun h=>(by rw [h] at hr;cases hr),fun j hj=>?_⟩
  by_cases hji:j=i
  ·subst hji;exact ⟨hin,oi,v,hi,hq,H⟩
  ·exfalso
   have h1:=H.1 j (ready_mono hj hji)
   obtain ⟨hjun,oj,hoj,hall⟩:=mem_ready.1 hj
   have hnot:∀ e∈oj.after,Region.binds .any e=true→e.on≠i:=fun e he hb heq=>by
    have h1:=hall e he hb
    have h0:=(mem_ready.1 hr).1
    rw [heq] at h1
    rcases Nat.lt_or_ge i listed.size with h' | h'
    ·simp [h'] at h0 h1;rw [h0] at h1;cases h1
    ·simp [Array.getElem?_eq_none h'] at h1
   have:=(hfree j oj hoj hji hjun hnot).2
   omega
 | succ n ih=>
  intro listed A hfree hr hq H
  refine ⟨fun h=>(by rw [h] at hr;cases hr),fun j hj=>?_⟩
  by_cases hji:j=i
  ·subst hji;exact ⟨hin,oi,v,hi,hq,H⟩
  ·obtain ⟨hjn,oj,u,hoj,hqj,Hj⟩:=H.2 j (ready_mono hj hji)
   obtain ⟨hjun,oj',hoj',hall⟩:=mem_ready.1 hj
   rw [hoj] at hoj'
   simp only [Option.some.injEq] at hoj'
   subst hoj'
   have hnot:∀ e∈oj.after,Region.binds .any e=true→e.on≠i:=fun e he hb heq=>by
    have h1:=hall e he hb
    have h0:=(mem_ready.1 hr).1
    rw [heq] at h1
    rcases Nat.lt_or_ge i listed.size with h' | h'
    ·simp [h'] at h0 h1;rw [h0] at h1;cases h1
    ·simp [Array.getElem?_eq_none h'] at h1
   obtain ⟨p1,p2,p3⟩:=Oper.apart_spec (hfree j oj hoj hji hjun hnot).1
   refine ⟨hjn,oj,u,hoj,hqj.agree (agree_put A oi.dst v p1).symm,?_⟩
   refine ih (listed.setIfInBounds j true) (putA A oj.dst u) (fun k ok hk hki hun hno=>?_) (ready_mono hr (Ne.symm hji)) (hq.agree (agree_put A oj.dst u p3)) ?_
   ·refine hfree k ok hk hki ?_ hno
    by_cases hjk:j=k
    ·subst hjk;exact hjun
    ·rw [getD_set_ne true hjk] at hun;exact hun
   ·rw [Array.setIfInBounds_comm _ _ hji,← putA_comm A oi.dst oj.dst v u p2]
    exact Hj

def waitB (ops:Array Oper) (np k:Nat):Bool:=(List.range ops.size).all fun j=>Nat.blt j np || match ops[j]? with
 | some oj=>oj.after.any (fun e=>Region.binds .any e && e.on == k)
 | none=>true
def lexK (ops:Array Oper) (np:Nat):Nat→Nat→Array Bool→Bool
 | 0,_,listed=>(Region.ready .any ops listed).all fun j=>Nat.ble np j
 | n+1,k,listed=>Nat.blt k np && (Region.ready .any ops listed).contains k && Region.free .any ops listed k && waitB ops np k && lexK ops np n (k+1) (listed.setIfInBounds k true)
def setTo (listed:Array Bool):Nat→Nat→Array Bool
 | 0,_=>listed
 | n+1,k=>setTo (listed.setIfInBounds k true) n (k+1)

theorem AAnyK.lex {np:Nat} {K:List D→Prop} {LF:Array Bool}:∀ (l:List Oper) (k:Nat) (listed:Array Bool) (A:List D),(∀ j o,l[j]?=some o→ops[k+j]?=some o)→lexK ops np l.length k listed=true→setTo listed l.length k=LF →
  ALex P B (AX.then (fun A _=>K A) Q) ops S l A→AAnyK P B (AX.then (fun A _=>K A) Q) ops S np (fun listed A=>listed=LF∧K A) l.length listed A
 | [],k,listed,A,hl,hB,hLF,h=>⟨fun j hj=>by
   simp only [List.length_nil,lexK,List.all_eq_true] at hB
   exact Nat.le_of_ble_eq_true (hB j hj),hLF,h⟩
 | o::l,k,listed,A,hl,hB,hLF,h=>by
  have h0:ops[k]?=some o:=by simpa using hl 0 o rfl
  simp only [List.length_cons,lexK,Bool.and_eq_true] at hB
  obtain ⟨⟨⟨⟨hk,hr⟩,hf⟩,ht⟩,hB'⟩:=hB
  obtain ⟨d,hq,hK⟩:=h
  refine AAnyK.first h0 (Nat.blt_eq.mp hk) l.length listed A (fun j oj hj hne hun hno=>⟨Region.free_spec h0 hf j oj hj hne hun hno,?_⟩) (by simpa using hr) hq
   (AAnyK.lex l (k+1) _ _ (fun j o' hj=>by have:=hl (j+1) o' (by simpa using hj);simpa [Nat.add_assoc,Nat.add_comm 1 j] using this) hB' hLF hK)
  unfold waitB at ht
  simp only [List.all_eq_true,List.mem_range] at ht
  have h1:=ht j (Array.getElem?_eq_some_iff.1 hj).1
  simp only [hj,Bool.or_eq_true] at h1
  rcases h1 with h1 | h1
  ·exact Nat.blt_eq.mp h1
  ·obtain ⟨e,he,hb⟩:=Array.any_eq_true'.1 h1
   simp only [Bool.and_eq_true,beq_iff_eq] at hb
   exact absurd hb.2 (hno e he hb.1)

theorem AAnyK.sound {np:Nat} {K:Array Bool→List D→Prop} {KS:List D→Sto→Prop} {m:Nat} (hK:∀ listed A a w,K listed A→At B A S a w→wpAny P .any ops (Conc B Q) m listed a w):∀ (n:Nat) (listed:Array Bool) (A:List D),AAnyK P B (AX.then KS Q) ops S np K n listed A→∀ a w,At B A S a w→wpAny P .any ops (Conc B Q) (n+m) listed a w
 | 0,listed,A,h,a,w,k=>by rw [Nat.zero_add];exact hK _ _ _ _ h.2 k
 | n+1,listed,A,h,a,w,k=>by
  rw [show n+1+m=(n+m)+1 by omega]
  refine ⟨fun h0=>absurd h0 h.1,fun i hi=>?_⟩
  obtain ⟨_,o,d,ho,hq,hn⟩:=h.2 i hi
  unfold wpOp
  simp only [ho]
  have:=hq A (Agree.refl _ _) (fun A'=>A'=putA A o.dst d) rfl a w k
  have hgo:∀ a' w',(∃ A',At B A' S a' w'∧A'=putA A o.dst d)→wpAny P .any ops (Conc B Q) (n+m) (listed.setIfInBounds i true) a' w':=fun a' w' ⟨A',k',e⟩=>by
   subst e;exact AAnyK.sound hK n _ _ hn a' w' k'
  split
  ·rename_i hw
   rw [if_pos hw] at this
   exact .inl (wp_then (Oper.wp_mono hgo this))
  ·rename_i hw
   rw [if_neg hw] at this
   exact hgo _ _ this

theorem AW.drawM (hP:Prg P T) {id:Nat} {l:List Oper} (np:Nat) {LF:Array Bool} (hl:np≤l.length) (hB:lexK l.toArray np np 0 (Array.replicate l.length false)=true) (hLF:setTo (Array.replicate l.length false) np 0=LF)
  (h:ALex P B (AX.then (fun A S'=>AMix P B Q l.toArray (l.length - np) LF A S) Q) l.toArray S (l.take np) A):AW P B (.region id l.toArray true) Q A S:=fun a w k=>by
 refine wp_region_any hP.mixed ?_
 have hlen:(l.take np).length=np:=by rw [List.length_take];omega
 have:=AAnyK.lex (P:=P) (B:=B) (Q:=Q) (S:=S) (ops:=l.toArray) (np:=np) (LF:=LF) (K:=fun A=>AMix P B Q l.toArray (l.length - np) LF A S) (l.take np) 0 (Array.replicate l.length false) A (fun j o hj=>by
  rw [List.getElem?_take] at hj
  split at hj
  ·simpa using hj
  ·cases hj) (by rw [hlen];exact hB) (by rw [hlen];exact hLF) h
 rw [hlen] at this
 have h2:=AAnyK.sound (P:=P) (B:=B) (Q:=Q) (S:=S) (m:=l.length - np) (fun listed A a w hk ka=>by obtain ⟨rfl,hk⟩:=hk;exact hk a w ka) np (Array.replicate l.length false) A this a _ k.drawn
 rw [show np+(l.length - np)=l.length by omega] at h2
 simpa using h2

/-- .. behind which the order is forced. -/
theorem AW.drawT (hP : Prg P T) {id : Nat} {l l1 l2 : List Oper} (np : Nat) (h1 : l.take np = l1) (h2 : l.drop np = l2) (hl : np ≤ l.length) (hB : lexK l.toArray np np 0 (Array.replicate l.length false) = true) (hf : forcedB l.toArray (l.length - np) np (setTo (Array.replicate l.length false) np 0) = true)
    (h : ALex P B (AX.then (fun A S' => AOps P B l.toArray Q l2 A S) Q) l.toArray S l1 A) : AW P B (.region id l.toArray true) Q A S := by
  refine AW.drawM hP np hl hB rfl ?_
  rw [h1]
  have key : ∀ A, AOps P B l.toArray Q l2 A S → AMix P B Q l.toArray (l.length - np) (setTo (Array.replicate l.length false) np 0) A S := fun A hA => by
    have := AMix.forced (P := P) (B := B) (Q := Q) (S := S) (A := A) (ops := l.toArray) (l := l2) (k := np) (listed := setTo (Array.replicate l.length false) np 0) (by simpa using h2) (by rw [← h2, List.length_drop]; exact hf) hA
    rw [← h2, List.length_drop] at this
    exact this
  clear h1 h2 hB hf hl
  induction l1 generalizing A with
  | nil => exact key A h
  | cons o l1 ih =>
    obtain ⟨d, hq, h⟩ := h
    refine ⟨d, fun A' hag K hK a w ka => ?_, ih h⟩
    have := hq A' hag K hK a w ka
    split
    · rename_i hw
      rw [if_pos hw] at this
      have := wp_then this
      unfold Oper.wp at this ⊢
      generalize (execOp a.eval o).run P w = r at *
      cases r with
      | ok nx w' =>
        cases nx <;> simp only [Oper.upon] at this ⊢ <;> first
          | exact this
          | (refine this.mono (fun e w'' he => ?_)
             cases e <;> first | exact he | (obtain ⟨a, w, he⟩ := he; exact ⟨a, w, he⟩))
      | halt x w' => cases x <;> first | exact this | exact this.elim
    · rename_i hw
      rw [if_neg hw] at this
      exact this
end


def ADefer (P:Program) (f:FuncId) (args:List D) (S:Sto) (u:FrameMode) (R:FrameMode→Sto→Prop):Prop:=
 Callable P f∧∀ w xs,StAt w S→RVals w S.I args xs→CallsD P f xs.toArray u w (fun e u' w'=>∃ v S',e=.returned v∧StAt w' S'∧Evo w S.I w' S'.I∧R u' S')

theorem ADefer.mono {P:Program} {f:FuncId} {args:List D} {S:Sto} {u:FrameMode} {R R':FrameMode→Sto→Prop} (h:ADefer P f args S u R) (hr:∀ u' S',R u' S'→R' u' S'):ADefer P f args S u R':=
 ⟨h.1,fun w xs hS hx=>(h.2 w xs hS hx).mono fun e u' w' ⟨v,S',a,b,c,k⟩=>⟨v,S',a,b,c,hr _ _ k⟩⟩

section
variable {P : Program} {T : TypeId → Ty} {B : Bg} {Q : AX → List D → Sto → Prop} {A : List D} {S S0 : Sto} {Z : Exit → Act → World → Prop}

def AWD (P:Program) (B:Bg) (c:Code) (Z:Exit→Act→World→Prop) (A:List D) (S:Sto):Prop:=∀ a w,At B A S a w→c.wp P Z a w

theorem AWD.seq {x y:Code} (hQ:∀ e a w,Conc B Q e a w→Z e a w) (h:AW P B x (AX.then (fun A S=>AWD P B y Z A S) Q) A S):AWD P B (.seq x y) Z A S:=fun a w k=>
 wp_seq (wp_mono (h a w k) (fun e a w q=>by
  cases e with
  | normal=>obtain ⟨A',S',k',h'⟩:=q;exact h' a w k'
  | exit id=>exact hQ _ _ _ q
  | goto l=>exact hQ _ _ _ q
  | ret=>exact hQ _ _ _ q
  | panic ch=>exact hQ _ _ _ q
  | outgrown=>exact hQ _ _ _ q))
theorem AWD.of {c:Code} (hQ:∀ e a w,Conc B Q e a w→Z e a w) (h:AW P B c Q A S):AWD P B c Z A S:=fun a w k=>wp_mono (h a w k) (hQ)

abbrev dfr (f:FuncId) (caps:Array Value):Deferred:=⟨.fn (.func f) caps,#[]⟩

theorem AWD.put_off (hP:Prg P T) {id:Nat} {o1 o2:Oper} {y:Code} {x:Operand} {f:FuncId} {caps:Array Value} (h1:evalS T A S o1.op=some (.v (.func (.func f) #[] caps),S)) (hg1:o1.guard=none) (hg2:o2.guard=none)
  (ho:o2.op=.defer ⟨.value x,#[],#[]⟩) (hx:evalO (putA A o1.dst (.v (.func (.func f) #[] caps))) x=.v (.func (.func f) #[] caps))
  (h:AWD P ⟨B.w,B.I,dfr f caps::B.dl⟩ y Z (putA (putA A o1.dst (.v (.func (.func f) #[] caps))) o2.dst (.tup [])) S):AWD P B (.seq (.region id #[o1,o2] false) y) Z A S:=fun a w k=>by
 have w1:∀ (t:Array Value) ops,Region.wanted o1 (yielded ops t)=true:=fun t ops=>by unfold Region.wanted;rw [hg1]
 have w2:∀ (t:Array Value) ops,Region.wanted o2 (yielded ops t)=true:=fun t ops=>by unfold Region.wanted;rw [hg2]
 refine wp_seq (wp_region_lit (l:=[o1,o2]) (wpList_step fun K1 hK1=>?_))
 rw [if_pos (w1 _ _)]
 obtain ⟨r,y1,w',e1,e2,e3,e4,e5⟩:=evalS_ok hP k.st k.act h1
 unfold Oper.wp
 rw [e1]
 have hgo:K1 (a.put o1.dst y1) w':=by
  refine hK1 _ _ (wpList_step fun K2 hK2=>?_)
  rw [if_pos (w2 _ _)]
  unfold Oper.wp
  have k':At B (putA A o1.dst (.v (.func (.func f) #[] caps))) S (a.put o1.dst y1) w':=⟨(k.act.evo e5).put o1.dst e3,e4,k.evo.trans e5,by rw [put_df];exact k.df⟩
  have hv:=evalO_ok k'.act x
  rw [hx] at hv
  unfold RVal at hv
  have hrun:(execOp (a.put o1.dst y1).eval o2).run P w'=.ok (.defer (dfr f caps)) w':=by
   obtain ⟨dst,op,type,pos,after,guard⟩:=o2
   simp only at ho
   subst ho
   simp only [execOp,resolve,Sem.run_bind,hv.1,Deferred.ofValue,Sem.run_pure,Result.andThen_ok,dfr]
   simp
  rw [hrun]
  refine hK2 _ _ (wpList_nil ?_)
  refine h _ _ ⟨?_,e4,k'.evo,?_⟩
  ·have:ActAt w' S.I (putA A o1.dst (.v (.func (.func f) #[] caps))) { (a.put o1.dst y1) with defers:=dfr f caps::(a.put o1.dst y1).defers }:=⟨k'.act.size,k'.act.val⟩
   exact this.put o2.dst RVal.undef
  ·rw [put_df]
   show _::_=_::_
   rw [k'.df]
 rcases e2 with rfl | ⟨rfl,rfl⟩
 ·exact hgo
 ·exact hgo

def EndD (P:Program) (T:TypeId→Ty) (rs:List ResultVar) (f:FuncId) (caps:List Value) (R:AEnd→Sto→Prop):AX→List D→Sto→Prop
 | .normal,A,S=>ADefer P f (caps.map .v) S .returning (fun u S'=>settle u=.returning∧ResQ T rs A S' (fun d S'=>R (.ret d) S'))
 | .ret,A,S=>ADefer P f (caps.map .v) S .returning (fun u S'=>settle u=.returning∧ResQ T rs A S' (fun d S'=>R (.ret d) S'))
 | .panic d,A,S=>∃ v,d=.v v∧ADefer P f (caps.map .v) S (.panicking [{ v:=v,recovered:=false }]) (fun u S'=>settle u=.returning∧ResQ T rs A S' (fun d S'=>R (.ret d) S'))
 | _,_,_=>False

theorem endd_body (hP:Prg P T) {fn:Func} {rs:List ResultVar} {R:AEnd→Sto→Prop} {w:World} {f:FuncId} {caps:Array Value} (hrs:fn.results.toList=rs) (h1:∀ v∈caps.toList,v.oneCell'=true) (hd:B.dl=[dfr f caps]) (hw:B.w=w) (hI:B.I=S0.I) (e:Exit) (a':Act) (w':World)
  (q:Conc B (EndD P T rs f caps.toList R) e a' w'):bodyPostD P fn (APost w S0 R) e a' w':=by
 subst hw
 have key:∀ A' S' u,u≠.run→At B A' S' a' w'→ADefer P f (caps.toList.map .v) S' u (fun u S'=>settle u=.returning∧ResQ T rs A' S' (fun d S'=>R (.ret d) S'))→Leaves P fn a'.tmps (APost B.w S0 R) a'.defers u w':=by
  intro A' S' u hu k ⟨hc,hcall⟩
  rw [k.df,hd]
  refine leaves_cons hu (f:=f) (args:=caps.toList.toArray) ?_ ?_
  ·have:=hc (#[]++caps) w'
   simpa [invoke] using this
  ·refine (hcall w' caps.toList k.st (RVals.vs _ h1)).mono (fun e u' w2 he=>?_)
   obtain ⟨v,S2,rfl,s1,s2,s3,s4⟩:=he
   show Leaves P fn a'.tmps (APost B.w S0 R) [] (settle u') w2
   rw [s3]
   have k2:At B A' S2 a' w2:=⟨k.act.evo s2,s1,k.evo.trans s2,k.df⟩
   obtain ⟨x,d,S3,r1,r2,r3,r4,r5⟩:=s4.ok hP hrs k2
   exact ⟨x,r1,d,S3,r2,hI ▸ r3,r4,r5⟩
 cases e with
 | normal=>obtain ⟨A',S',k,q⟩:=q;exact key A' S' _ (by simp) k q
 | ret=>obtain ⟨A',S',k,q⟩:=q;exact key A' S' _ (by simp) k q
 | panic ch=>
  obtain ⟨A',S',d,v,k,he,hr,v',hd',q⟩:=q
  subst hd'
  unfold RVal at hr
  obtain ⟨rfl,-⟩:=hr
  subst he
  exact key A' S' _ (by simp) k q
 | exit id=>obtain ⟨_,_,_,q⟩:=q;exact q.elim
 | goto l=>obtain ⟨_,_,_,q⟩:=q;exact q.elim
 | outgrown=>exact q.elim
theorem endq_bodyD (hP:Prg P T) {fn:Func} {rs:List ResultVar} {R:AEnd→Sto→Prop} {w:World} (hrs:fn.results.toList=rs) (hd:B.dl=[]) (hw:B.w=w) (hI:B.I=S0.I) (e:Exit) (a':Act) (w':World) (q:Conc B (EndQ T rs S0 R) e a' w'):bodyPostD P fn (APost w S0 R) e a' w':=by
 have:=endq_body hP hrs hd hw hI e a' w' q
 cases e with
 | normal=>obtain ⟨h1,h2⟩:=this;show Leaves _ _ _ _ a'.defers _ _;rw [h1];exact h2
 | ret=>obtain ⟨h1,h2⟩:=this;show Leaves _ _ _ _ a'.defers _ _;rw [h1];exact h2
 | panic ch=>obtain ⟨h1,h2⟩:=this;show Leaves _ _ _ _ a'.defers _ _;rw [h1];exact h2
 | exit id=>exact this.elim
 | goto l=>exact this.elim
 | outgrown=>exact this

theorem acalls_of_defer (hP : Prg P T) {f : FuncId} {fn : Func} {c : Code} {rs : List ResultVar} {args : List D} {n : Nat} {R : AEnd → Sto → Prop} (hf : P.funcs[f]? = some fn) (hb : fn.body = some c) (hn : (fn.name == "runtime.NumGoroutine") = false)
  (hrs:fn.results.toList=rs) (hnt:fn.ntmps=n)
  (h:∀ (B:Bg) (Z:Exit→Act→World→Prop),B.dl=[]→(∀ e a w,Conc B (EndQ T rs S R) e a w→Z e a w)→(∀ (g:FuncId) (caps:Array Value),(∀ v∈caps.toList,v.oneCell'=true)→∀ e a w,Conc ⟨B.w,B.I,[dfr g caps]⟩ (EndD P T rs g caps.toList R) e a w→Z e a w) →
   AWD P B c Z (args++List.replicate (n - args.length) (.tup [])) S):ACalls P f args S R:=
 ⟨callable hf hb hn,fun w xs hS hx=>calls_of_wp_defers hf hb (h ⟨w,S.I,[]⟩ (bodyPostD P fn (APost w S R)) rfl (fun e a w' q=>endq_bodyD hP (S0:=S) hrs rfl rfl rfl e a w' q) (fun g caps h1 e a w' q=>endd_body hP (S0:=S) hrs h1 rfl rfl rfl e a w' q) _ _ (start_at hnt hS hx))⟩

theorem adefer_of (hP : Prg P T) {f : FuncId} {fn : Func} {c : Code} {rs : List ResultVar} {args : List D} {n : Nat} {R : Sto → Prop} {u : FrameMode} (hf : P.funcs[f]? = some fn) (hb : fn.body = some c) (hn : (fn.name == "runtime.NumGoroutine") = false)
  (hrs:fn.results.toList=rs) (hnt:fn.ntmps=n)
  (h:∀ B:Bg,B.dl=[]→AW P B c (EndQ T rs S (fun e S'=>∃ d,e=.ret d∧R S')) (args++List.replicate (n - args.length) (.tup [])) S):ADefer P f args S u (fun u' S'=>u'=u∧R S'):=
 ⟨callable hf hb hn,fun w xs hS hx=>by
  have:=callsD_of_wp (u:=u) hf hb (Go.wp_mono (h ⟨w,S.I,[]⟩ rfl _ _ (start_at hnt hS hx)) (fun e a' w' q=>endq_body hP (B:=⟨w,S.I,[]⟩) hrs rfl rfl rfl e a' w' q))
  refine this.mono (fun e u' w' ⟨h1,h2⟩=>?_)
  cases e with
  | returned v=>obtain ⟨d,S',a,b,c,d',_,k⟩:=h2;exact ⟨v,S',rfl,a,b,h1,k⟩
  | panicked ch=>obtain ⟨d,v,S',he,a,b,c,d',h3,_⟩:=h2;cases h3
  | outgrown=>exact h2.elim⟩

def Recs (u:FrameMode) (x:Value) (u':FrameMode):Prop:=(u=.returning∧x=.nilIface∧u'=.returning)∨∃ v,u=.panicking [{ v:=v,recovered:=false }]∧x=v∧u'=.panicking [{ v:=v,recovered:=true }]
theorem Recs.settle {u u':FrameMode} {x:Value} (h:Recs u x u'):settle u'=.returning:=by
 rcases h with ⟨_,_,rfl⟩ | ⟨v,_,_,rfl⟩ <;> rfl

theorem adefer_rec (hP : Prg P T) {f : FuncId} {fn : Func} {y : Code} {id : Nat} {o1 o2 : Oper} {t1 t2 : Tmp} {ats : Array TypeId} {rs : List ResultVar} {args : List D} {n : Nat} {R : Sto → Prop} {u u' : FrameMode} {x : Value} (hf : P.funcs[f]? = some fn) (hb : fn.body = some (.seq (.region id #[o1, o2] false) y)) (hn : (fn.name == "runtime.NumGoroutine") = false)
  (ho1:o1.op=.call ⟨.builtin .recover,#[],ats⟩) (hg1:o1.guard=none) (hd1:o1.dst=some t1) (ho2:o2.op=.assign (.tmp t1)) (hg2:o2.guard=none) (hd2:o2.dst=some t2) (hrs:fn.results.toList=rs) (hnt:fn.ntmps=n) (hu:Recs u x u') (hx:x.oneCell'=true)
  (ht1:t1<n)
  (h:∀ B:Bg,B.dl=[]→AW P B y (EndQ T rs S (fun e S'=>∃ d,e=.ret d∧R S')) (((args++List.replicate (n - args.length) (D.tup [])).set t1 (D.v x)).set t2 (D.v x)) S):ADefer P f args S u (fun u'' S'=>u''=u'∧R S'):=
 ⟨callable hf hb hn,fun w xs hS hx'=>by
  refine callsD_of_wpS hf hb (fun c₀ cs hmode=>?_)
  have k:=start_at (fn:=fn) hnt hS hx'
  generalize ha:({ tmps:=xs.toArray++Array.replicate (fn.ntmps - xs.toArray.size) undef,defers:=[] }:Act)=a at k ⊢
  have hsz:n≤a.tmps.size:=by rw [← ha];simp;omega
  have w1:∀ (t:Array Value) ops,Region.wanted o1 (yielded ops t)=true:=fun t ops=>by unfold Region.wanted;rw [hg1]
  have w2:∀ (t:Array Value) ops,Region.wanted o2 (yielded ops t)=true:=fun t ops=>by unfold Region.wanted;rw [hg2]
  have r1:(execOp a.eval o1).run P w=.ok .recover w:=by
   obtain ⟨dst,op,type,pos,after,guard⟩:=o1
   simp only at ho1
   subst ho1
   simp only [execOp,resolve,invoke,builtin,Sem.run_bind,Sem.run_pure,Result.andThen_ok]
  have key:∀ cs',cs'={ c₀ with mode:=u' }::cs→Code.wpS P y (bodyPostS P fn c₀ cs (fun e u'' w'=>∃ v S',e=.returned v∧StAt w' S'∧Evo w S.I w' S'.I∧u''=u'∧R S')) ((a.put o1.dst x).put o2.dst x) cs' w:=by
   rintro cs' rfl
   have k2:At ⟨w,S.I,[]⟩ (((args++List.replicate (n - args.length) (D.tup [])).set t1 (D.v x)).set t2 (D.v x)) S ((a.put o1.dst x).put o2.dst x) w:=by
    refine ⟨?_,k.st,k.evo,by rw [put_df,put_df];exact k.df⟩
    have:=(k.act.put o1.dst (RVal.vv hx)).put o2.dst (RVal.vv (w:=w) (I:=S.I) hx)
    rw [hd1,hd2] at this ⊢
    exact this
   refine wpS_of_wp (Go.wp_mono (h ⟨w,S.I,[]⟩ rfl _ _ k2) (fun e a' w' q=>?_))
   have q':=endq_body hP (B:=⟨w,S.I,[]⟩) hrs rfl rfl rfl e a' w' q
   cases e with
   | normal=>obtain ⟨h1,v,h2,d,S',s1,s2,_,_,_,s3⟩:=q';exact ⟨h1,u',rfl,v,h2,v,S',rfl,s1,s2,rfl,s3⟩
   | ret=>obtain ⟨h1,v,h2,d,S',s1,s2,_,_,_,s3⟩:=q';exact ⟨h1,u',rfl,v,h2,v,S',rfl,s1,s2,rfl,s3⟩
   | panic ch=>obtain ⟨_,d,v,S',he,_,_,_,d',h3,_⟩:=q';cases h3
   | exit id=>exact q'.elim
   | goto l=>exact q'.elim
   | outgrown=>exact q'.elim
  have hev:(a.put o1.dst x).eval (.tmp t1)=x:=by
   rw [hd1]
   show (a.tmps.setIfInBounds t1 x).getD t1 undef=x
   have:t1<a.tmps.size:=Nat.lt_of_lt_of_le ht1 hsz
   simp [Array.getD,this]
  have r2:(execOp (a.put o1.dst x).eval o2).run P w=.ok (.value x) w:=by
   obtain ⟨dst,op,type,pos,after,guard⟩:=o2
   simp only at ho2
   subst ho2
   simp only [execOp,hev]
   rfl
  refine wpS_seq (wpS_region ?_)
  show wpOpsS P #[o1,o2] _ [0,1] a (c₀::cs) w
  simp only [wpOpsS,List.getElem?_toArray,List.getElem?_cons_zero,List.getElem?_cons_succ,w1,if_true,r1]
  have hrec:(recoverD (c₀::cs)=none∧x=.nilIface∧({ c₀ with mode:=u' }:Frame)=c₀)∨recoverD (c₀::cs)=some (x,{ c₀ with mode:=u' }::cs):=by
   rcases hu with ⟨rfl,rfl,rfl⟩ | ⟨v,rfl,rfl,rfl⟩
   ·exact .inl ⟨by simp [recoverD,hmode],rfl,by rw [← hmode]⟩
   ·exact .inr (by simp [recoverD,hmode])
  rcases hrec with ⟨h1,rfl,h3⟩ | h1
  ·simp only [h1,w2,if_true,r2,Oper.upon]
   exact key _ (by rw [h3])
  ·simp only [h1,w2,if_true,r2,Oper.upon]
   exact key _ rfl⟩
end

end Go.Proofs.YtcaggadjkccbiaaGreat