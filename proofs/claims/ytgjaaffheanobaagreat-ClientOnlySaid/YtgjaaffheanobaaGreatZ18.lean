/- Values without addresses: statements whose order is open and that write at their end; what is put off. -/
import Derived.Test.YtgjaaffheanobaaGreatZ17
import Derived.Recover
namespace Go.Proofs.YtgjaaffheanobaaGreat
set_option linter.unusedVariables false
set_option linter.unusedSimpArgs false
open Go Go.RowKit

section
variable {P : Program} {T : TypeId → Ty} {B : Bg} {Q : AX → List D → Sto → Prop} {S : Sto} {A : List D} {ops : Array Oper}

def AMix (P:Program) (B:Bg) (Q:AX→List D→Sto→Prop) (ops:Array Oper) (n:Nat) (listed:Array Bool) (A:List D) (S:Sto):Prop:=∀ a w,At B A S a w→wpAny P .any ops (Conc B Q) n listed a w

def forcedB (ops:Array Oper):Nat→Nat→Array Bool→Bool
 | 0,_,listed=>(Region.ready .any ops listed).isEmpty
 | n+1,k,listed=>(match Region.ready .any ops listed with | [i]=>Nat.beq i k | _=>false) && forcedB ops n (k+1) (listed.setIfInBounds k true)

theorem forced_any {Q:Exit→Act→World→Prop}:∀ (l:List Oper) (k:Nat) (listed:Array Bool) (a:Act) (w:World),(∀ j,l[j]?=ops[k+j]?)→forcedB ops l.length k listed=true→wpList P ops Q l a w→wpAny P .any ops Q l.length listed a w
 | [],k,listed,a,w,hl,hf,h=>⟨by simpa [forcedB] using hf,h⟩
 | o::l,k,listed,a,w,hl,hf,h=>by
  have h0:ops[k]?=some o:=by simpa using (hl 0).symm
  simp only [List.length_cons,forcedB,Bool.and_eq_true] at hf
  obtain ⟨h1,h2⟩:=hf
  split at h1
  ·rename_i i hr
   have hik:i=k:=Nat.eq_of_beq_eq_true h1
   subst hik
   refine ⟨fun e=>(by rw [hr] at e;cases e),fun j hj=>?_⟩
   rw [hr] at hj
   simp only [List.mem_singleton] at hj
   subst hj
   have ih:=fun a w=>forced_any (Q:=Q) l (j+1) (listed.setIfInBounds j true) a w (fun i=>by have:=hl (i+1);simpa [Nat.add_assoc,Nat.add_comm 1 i] using this) h2
   unfold wpOp
   simp only [h0]
   unfold wpList at h
   split
   ·rename_i hw
    rw [if_pos hw] at h
    rcases h with h | h
    ·exact .inl (Oper.wp_mono (fun a w h=>ih a w h) h)
    ·exact .inr h
   ·rename_i hw
    rw [if_neg hw] at h
    exact ih _ _ h
  ·cases h1

theorem AMix.forced {l:List Oper} {k:Nat} {listed:Array Bool} (hl:ops.toList.drop k=l) (hf:forcedB ops l.length k listed=true) (h:AOps P B ops Q l A S):AMix P B Q ops l.length listed A S:=fun a w ka=>
 forced_any l k listed a w (fun j=>by rw [← hl,List.getElem?_drop];simp) hf (h a w ka)

theorem conc_then {K:List D→Sto→Prop} {e:Exit} {a:Act} {w:World} (hn:e≠.normal) (h:Conc B (AX.then K Q) e a w):Conc B Q e a w:=by
 cases e with
 | normal=>exact absurd rfl hn
 | exit id=>exact h
 | goto l=>exact h
 | ret=>exact h
 | panic ch=>exact h
 | outgrown=>exact h

theorem wp_then {K : List D → Sto → Prop} {o : Oper} {a : Act} {w : World} {next : Act → World → Prop} (h : o.wp P a w next (Conc B (AX.then K Q))) : o.wp P a w next (Conc B Q) := by
  unfold Oper.wp at *
  generalize (execOp a.eval o).run P w = r at *
  cases r with
  | ok nx w' =>
    cases nx <;> simp only [Oper.upon] at h ⊢ <;> first
      | exact h
      | (refine h.mono (fun e w'' he => ?_)
         cases e <;> first | exact he | exact conc_then (by simp) he | (obtain ⟨a, w, he⟩ := he; exact ⟨a, w, conc_then (by simp) he⟩))
  | halt x w' => cases x <;> first | exact h | exact conc_then (by simp) h | exact h.elim

theorem AMix.branch {n:Nat} {listed:Array Bool} (r:List Nat) (hr:Region.ready .any ops listed=r) (hne:r≠[]) (h:∀ i∈r,∃ o,ops[i]?=some o∧AOps P B ops (AX.then (fun A' S'=>AMix P B Q ops n (listed.setIfInBounds i true) A' S') Q) [o] A S):AMix P B Q ops (n+1) listed A S:=fun a w k=>by
 refine ⟨fun e=>absurd (hr.symm.trans e) hne,fun i hi=>?_⟩
 rw [hr] at hi
 obtain ⟨o,ho,h⟩:=h i hi
 have:=h a w k
 unfold wpOp
 simp only [ho]
 unfold wpList at this
 have hgo:∀ a w,wpList P ops (Conc B (AX.then (fun A' S'=>AMix P B Q ops n (listed.setIfInBounds i true) A' S') Q)) [] a w→wpAny P .any ops (Conc B Q) n (listed.setIfInBounds i true) a w:=fun a w ⟨A',S',k',h'⟩=>h' a w k'
 split
 ·rename_i hw
  rw [if_pos hw] at this
  rcases this with this | ⟨h1,a',w',h2⟩
  ·exact .inl (wp_then (Oper.wp_mono hgo this))
  ·exact .inr ⟨h1,a',w',conc_then (by simp) h2⟩
 ·rename_i hw
  rw [if_neg hw] at this
  exact hgo _ _ this
theorem AMix.end {listed:Array Bool} (hr:Region.ready .any ops listed=[]) (h:Q .normal A S):AMix P B Q ops 0 listed A S:=fun a w k=>⟨hr,A,S,k,h⟩

def AAnyK (P:Program) (B:Bg) (Q:AX→List D→Sto→Prop) (ops:Array Oper) (S:Sto) (np:Nat) (K:Array Bool→List D→Prop):Nat→Array Bool→List D→Prop
 | 0,listed,A=>(∀ j∈Region.ready .any ops listed,np≤j)∧K listed A
 | n+1,listed,A=>Region.ready .any ops listed≠[]∧∀ i∈Region.ready .any ops listed,i<np∧∃ o d,ops[i]?=some o∧QOp P B Q ops S o A d∧AAnyK P B Q ops S np K n (listed.setIfInBounds i true) (putA A o.dst d)

theorem AAnyK.first {np:Nat} {K:Array Bool→List D→Prop} {i:Nat} {oi:Oper} {v:D} (hi:ops[i]?=some oi) (hin:i<np):∀ (n:Nat) (listed:Array Bool) (A:List D),
  (∀ j oj,ops[j]?=some oj→j≠i→listed.getD j true=false→(∀ e∈oj.after,Region.binds .any e=true→e.on≠i)→oi.apart ops oj=true∧j<np) →
  i∈Region.ready .any ops listed→QOp P B Q ops S oi A v→AAnyK P B Q ops S np K n (listed.setIfInBounds i true) (putA A oi.dst v)→AAnyK P B Q ops S np K (n+1) listed A:=by
 intro n
 induction n with
 | zero=>
  intro listed A hfree hr hq H
  refine ⟨fun h=>(by rw [h] at hr;cases hr),fun j hj=>?_⟩
  by_cases hji:j=i
  ·subst hji;exact ⟨hin,oi,v,hi,hq,H⟩
  ·exfalso
   have h1:=H.1 j (ready_mono hj hji)
   obtain ⟨hjun,oj,hoj,hall⟩:=mem_ready.1 hj
   have hnot:∀ e∈oj.after,Region.binds .any e=true→e.on≠i:=fun e he hb heq=>by
    have h1:=hall e he hb
    have h0:=(mem_ready.1 hr).1
    rw [heq] at h1
    rcases Nat.lt_or_ge i listed.size with h' | h'
    ·simp [h'] at h0 h1;rw [h0] at h1;cases h1
    ·simp [Array.getElem?_eq_none h'] at h1
   have:=(hfree j oj hoj hji hjun hnot).2
   omega
 | succ n ih=>
  intro listed A hfree hr hq H
  refine ⟨fun h=>(by rw [h] at hr;cases hr),fun j hj=>?_⟩
  by_cases hji:j=i
  ·subst hji;exact ⟨hin,oi,v,hi,hq,H⟩
  ·obtain ⟨hjn,oj,u,hoj,hqj,Hj⟩:=H.2 j (ready_mono hj hji)
   obtain ⟨hjun,oj',hoj',hall⟩:=mem_ready.1 hj
   rw [hoj] at hoj'
   simp only [Option.some.injEq] at hoj'
   subst hoj'
   have hnot:∀ e∈oj.after,Region.binds .any e=true→e.on≠i:=fun e he hb heq=>by
    have h1:=hall e he hb
    have h0:=(mem_ready.1 hr).1
    rw [heq] at h1
    rcases Nat.lt_or_ge i listed.size with h' | h'
    ·simp [h'] at h0 h1;rw [h0] at h1;cases h1
    ·simp [Array.getElem?_eq_none h'] at h1
   obtain ⟨p1,p2,p3⟩:=Oper.apart_spec (hfree j oj hoj hji hjun hnot).1
   refine ⟨hjn,oj,u,hoj,hqj.agree (agree_put A oi.dst v p1).symm,?_⟩
   refine ih (listed.setIfInBounds j true) (putA A oj.dst u) (fun k ok hk hki hun hno=>?_) (ready_mono hr (Ne.symm hji)) (hq.agree (agree_put A oj.dst u p3)) ?_
   ·refine hfree k ok hk hki ?_ hno
    by_cases hjk:j=k
    ·subst hjk;exact hjun
    ·rw [getD_set_ne true hjk] at hun;exact hun
   ·rw [Array.setIfInBounds_comm _ _ hji,← putA_comm A oi.dst oj.dst v u p2]
    exact Hj

def waitB (ops:Array Oper) (np k:Nat):Bool:=(List.range ops.size).all fun j=>Nat.blt j np || match ops[j]? with
 | some oj=>oj.after.any (fun e=>Region.binds .any e && e.on == k)
 | none=>true
def lexK (ops:Array Oper) (np:Nat):Nat→Nat→Array Bool→Bool
 | 0,_,listed=>(Region.ready .any ops listed).all fun j=>Nat.ble np j
 | n+1,k,listed=>Nat.blt k np && (Region.ready .any ops listed).contains k && Region.free .any ops listed k && waitB ops np k && lexK ops np n (k+1) (listed.setIfInBounds k true)
def setTo (listed:Array Bool):Nat→Nat→Array Bool
 | 0,_=>listed
 | n+1,k=>setTo (listed.setIfInBounds k true) n (k+1)

theorem AAnyK.lex {np:Nat} {K:List D→Prop} {LF:Array Bool}:∀ (l:List Oper) (k:Nat) (listed:Array Bool) (A:List D),(∀ j o,l[j]?=some o→ops[k+j]?=some o)→lexK ops np l.length k listed=true→setTo listed l.length k=LF →
  ALex P B (AX.then (fun A _=>K A) Q) ops S l A→AAnyK P B (AX.then (fun A _=>K A) Q) ops S np (fun listed A=>listed=LF∧K A) l.length listed A
 | [],k,listed,A,hl,hB,hLF,h=>⟨fun j hj=>by
   simp only [List.length_nil,lexK,List.all_eq_true] at hB
   exact Nat.le_of_ble_eq_true (hB j hj),hLF,h⟩
 | o::l,k,listed,A,hl,hB,hLF,h=>by
  have h0:ops[k]?=some o:=by simpa using hl 0 o rfl
  simp only [List.length_cons,lexK,Bool.and_eq_true] at hB
  obtain ⟨⟨⟨⟨hk,hr⟩,hf⟩,ht⟩,hB'⟩:=hB
  obtain ⟨d,hq,hK⟩:=h
  refine AAnyK.first h0 (Nat.blt_eq.mp hk) l.length listed A (fun j oj hj hne hun hno=>⟨Region.free_spec h0 hf j oj hj hne hun hno,?_⟩) (by simpa using hr) hq
   (AAnyK.lex l (k+1) _ _ (fun j o' hj=>by have:=hl (j+1) o' (by simpa using hj);simpa [Nat.add_assoc,Nat.add_comm 1 j] using this) hB' hLF hK)
  unfold waitB at ht
  simp only [List.all_eq_true,List.mem_range] at ht
  have h1:=ht j (Array.getElem?_eq_some_iff.1 hj).1
  simp only [hj,Bool.or_eq_true] at h1
  rcases h1 with h1 | h1
  ·exact Nat.blt_eq.mp h1
  ·obtain ⟨e,he,hb⟩:=Array.any_eq_true'.1 h1
   simp only [Bool.and_eq_true,beq_iff_eq] at hb
   exact absurd hb.2 (hno e he hb.1)

theorem AAnyK.sound {np:Nat} {K:Array Bool→List D→Prop} {KS:List D→Sto→Prop} {m:Nat} (hK:∀ listed A a w,K listed A→At B A S a w→wpAny P .any ops (Conc B Q) m listed a w):∀ (n:Nat) (listed:Array Bool) (A:List D),AAnyK P B (AX.then KS Q) ops S np K n listed A→∀ a w,At B A S a w→wpAny P .any ops (Conc B Q) (n+m) listed a w
 | 0,listed,A,h,a,w,k=>by rw [Nat.zero_add];exact hK _ _ _ _ h.2 k
 | n+1,listed,A,h,a,w,k=>by
  rw [show n+1+m=(n+m)+1 by omega]
  refine ⟨fun h0=>absurd h0 h.1,fun i hi=>?_⟩
  obtain ⟨_,o,d,ho,hq,hn⟩:=h.2 i hi
  unfold wpOp
  simp only [ho]
  have:=hq A (Agree.refl _ _) (fun A'=>A'=putA A o.dst d) rfl a w k
  have hgo:∀ a' w',(∃ A',At B A' S a' w'∧A'=putA A o.dst d)→wpAny P .any ops (Conc B Q) (n+m) (listed.setIfInBounds i true) a' w':=fun a' w' ⟨A',k',e⟩=>by
   subst e;exact AAnyK.sound hK n _ _ hn a' w' k'
  split
  ·rename_i hw
   rw [if_pos hw] at this
   exact .inl (wp_then (Oper.wp_mono hgo this))
  ·rename_i hw
   rw [if_neg hw] at this
   exact hgo _ _ this

theorem AW.drawM (hP:Prg P T) {id:Nat} {l:List Oper} (np:Nat) {LF:Array Bool} (hl:np≤l.length) (hB:lexK l.toArray np np 0 (Array.replicate l.length false)=true) (hLF:setTo (Array.replicate l.length false) np 0=LF)
  (h:ALex P B (AX.then (fun A S'=>AMix P B Q l.toArray (l.length - np) LF A S) Q) l.toArray S (l.take np) A):AW P B (.region id l.toArray true) Q A S:=fun a w k=>by
 refine wp_region_any hP.mixed ?_
 have hlen:(l.take np).length=np:=by rw [List.length_take];omega
 have:=AAnyK.lex (P:=P) (B:=B) (Q:=Q) (S:=S) (ops:=l.toArray) (np:=np) (LF:=LF) (K:=fun A=>AMix P B Q l.toArray (l.length - np) LF A S) (l.take np) 0 (Array.replicate l.length false) A (fun j o hj=>by
  rw [List.getElem?_take] at hj
  split at hj
  ·simpa using hj
  ·cases hj) (by rw [hlen];exact hB) (by rw [hlen];exact hLF) h
 rw [hlen] at this
 have h2:=AAnyK.sound (P:=P) (B:=B) (Q:=Q) (S:=S) (m:=l.length - np) (fun listed A a w hk ka=>by obtain ⟨rfl,hk⟩:=hk;exact hk a w ka) np (Array.replicate l.length false) A this a _ k.drawn
 rw [show np+(l.length - np)=l.length by omega] at h2
 simpa using h2

/-- .. behind which the order is forced. -/
theorem AW.drawT (hP : Prg P T) {id : Nat} {l l1 l2 : List Oper} (np : Nat) (h1 : l.take np = l1) (h2 : l.drop np = l2) (hl : np ≤ l.length) (hB : lexK l.toArray np np 0 (Array.replicate l.length false) = true) (hf : forcedB l.toArray (l.length - np) np (setTo (Array.replicate l.length false) np 0) = true)
    (h : ALex P B (AX.then (fun A S' => AOps P B l.toArray Q l2 A S) Q) l.toArray S l1 A) : AW P B (.region id l.toArray true) Q A S := by
  refine AW.drawM hP np hl hB rfl ?_
  rw [h1]
  have key : ∀ A, AOps P B l.toArray Q l2 A S → AMix P B Q l.toArray (l.length - np) (setTo (Array.replicate l.length false) np 0) A S := fun A hA => by
    have := AMix.forced (P := P) (B := B) (Q := Q) (S := S) (A := A) (ops := l.toArray) (l := l2) (k := np) (listed := setTo (Array.replicate l.length false) np 0) (by simpa using h2) (by rw [← h2, List.length_drop]; exact hf) hA
    rw [← h2, List.length_drop] at this
    exact this
  clear h1 h2 hB hf hl
  induction l1 generalizing A with
  | nil => exact key A h
  | cons o l1 ih =>
    obtain ⟨d, hq, h⟩ := h
    refine ⟨d, fun A' hag K hK a w ka => ?_, ih h⟩
    have := hq A' hag K hK a w ka
    split
    · rename_i hw
      rw [if_pos hw] at this
      have := wp_then this
      unfold Oper.wp at this ⊢
      generalize (execOp a.eval o).run P w = r at *
      cases r with
      | ok nx w' =>
        cases nx <;> simp only [Oper.upon] at this ⊢ <;> first
          | exact this
          | (refine this.mono (fun e w'' he => ?_)
             cases e <;> first | exact he | (obtain ⟨a, w, he⟩ := he; exact ⟨a, w, he⟩))
      | halt x w' => cases x <;> first | exact this | exact this.elim
    · rename_i hw
      rw [if_neg hw] at this
      exact this
end


def ADefer (P:Program) (f:FuncId) (args:List D) (S:Sto) (u:FrameMode) (R:FrameMode→Sto→Prop):Prop:=
 Callable P f∧∀ w xs,StAt w S→RVals w S.I args xs→CallsD P f xs.toArray u w (fun e u' w'=>∃ v S',e=.returned v∧StAt w' S'∧Evo w S.I w' S'.I∧R u' S')

theorem ADefer.mono {P:Program} {f:FuncId} {args:List D} {S:Sto} {u:FrameMode} {R R':FrameMode→Sto→Prop} (h:ADefer P f args S u R) (hr:∀ u' S',R u' S'→R' u' S'):ADefer P f args S u R':=
 ⟨h.1,fun w xs hS hx=>(h.2 w xs hS hx).mono fun e u' w' ⟨v,S',a,b,c,k⟩=>⟨v,S',a,b,c,hr _ _ k⟩⟩

section
variable {P : Program} {T : TypeId → Ty} {B : Bg} {Q : AX → List D → Sto → Prop} {A : List D} {S S0 : Sto} {Z : Exit → Act → World → Prop}

def AWD (P:Program) (B:Bg) (c:Code) (Z:Exit→Act→World→Prop) (A:List D) (S:Sto):Prop:=∀ a w,At B A S a w→c.wp P Z a w

theorem AWD.seq {x y:Code} (hQ:∀ e a w,Conc B Q e a w→Z e a w) (h:AW P B x (AX.then (fun A S=>AWD P B y Z A S) Q) A S):AWD P B (.seq x y) Z A S:=fun a w k=>
 wp_seq (wp_mono (h a w k) (fun e a w q=>by
  cases e with
  | normal=>obtain ⟨A',S',k',h'⟩:=q;exact h' a w k'
  | exit id=>exact hQ _ _ _ q
  | goto l=>exact hQ _ _ _ q
  | ret=>exact hQ _ _ _ q
  | panic ch=>exact hQ _ _ _ q
  | outgrown=>exact hQ _ _ _ q))
theorem AWD.of {c:Code} (hQ:∀ e a w,Conc B Q e a w→Z e a w) (h:AW P B c Q A S):AWD P B c Z A S:=fun a w k=>wp_mono (h a w k) (hQ)

end

end Go.Proofs.YtgjaaffheanobaaGreat