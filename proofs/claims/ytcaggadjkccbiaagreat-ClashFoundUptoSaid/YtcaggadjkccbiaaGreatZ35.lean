/- The document's reader (values without addresses). -/
import Derived.Test.YtcaggadjkccbiaaGreatZ13
import Derived.Test.YtcaggadjkccbiaaGreatZ17
import Derived.Test.YtcaggadjkccbiaaGreatZ2
import Derived.Test.YtcaggadjkccbiaaGreatZ3
import Derived.Test.YtcaggadjkccbiaaGreatZ32
import Derived.IntWalk
import Derived.Test.YtcaggadjkccbiaaGreatZ15
import Derived.Test.YtcaggadjkccbiaaGreatZ9
import Derived.Test.YtcaggadjkccbiaaGreatZ33
import Derived.Test.YtcaggadjkccbiaaGreatZ29
import Derived.Test.YtcaggadjkccbiaaGreatZ22
import Derived.Deep.RegionLaw
import Derived.Test.YtcaggadjkccbiaaGreatZ31
import Derived.Test.YtcaggadjkccbiaaGreatZ30
import Derived.Deep.RegionHeld3
namespace Go.Proofs.YtcaggadjkccbiaaGreat
set_option linter.unusedVariables false
set_option linter.unusedSimpArgs false
open Go Go.RowKit

@[go_sem] def rrD (s : Bs) (p c : Int) : D:=.agg [sD s,iD p,iD c]
def RrIs (s : Bs) (o : Option Bs) (p c : Int) : Prop:=
 match o with
 | some l=>c = 0 ∧ ∃ k : Nat,p = k ∧ k + l.length = s.length ∧ l = s.drop k
 | none=>c ≠ 0 ∧ ∃ k : Nat,p = k ∧ k ≤ s.length
def RrSt (S : Sto) (b : Nat) (s : Bs) (o : Option Bs) : Prop:=∃ t p c,getM S.bk b = some (t,rrD s p c) ∧ RrIs s o p c
def RrTo (S : Sto) (b : Nat) (s : Bs) (o : Option Bs) (S' : Sto) : Prop:=∃ p c,S' = ⟨setM S.bk b (rrD s p c),S.ow⟩ ∧ RrIs s o p c
theorem RrTo.st {S S' : Sto} {b : Nat} {s : Bs} {o o' : Option Bs} (h : RrSt S b s o) (k : RrTo S b s o' S') : RrSt S' b s o':=by
 obtain ⟨t,p,c,h1,_⟩:=h
 obtain ⟨p',c',rfl,h2⟩:=k
 exact ⟨t,p',c',by rw [getM_setM,h1];rfl,h2⟩
theorem RrTo.trans {S S1 S2 : Sto} {b : Nat} {s : Bs} {o1 o2 : Option Bs} (h : RrTo S b s o1 S1) (k : RrTo S1 b s o2 S2) : RrTo S b s o2 S2:=by
 obtain ⟨p,c,rfl,_⟩:=h
 obtain ⟨p',c',rfl,h2⟩:=k
 exact ⟨p',c',by rw [setM_setM],h2⟩
theorem RrTo.same {S : Sto} {b : Nat} {s : Bs} {o : Option Bs} (h : RrSt S b s o) : RrTo S b s o S:=by
 obtain ⟨t,p,c,h1,h2⟩:=h
 exact ⟨p,c,by rw [setM_same h1],h2⟩

def gv {α : Type} (f : Bs → Option (α × Bs)) (d : α) (o : Option Bs) : α:=((o.bind f).map (·.1)).getD d
def gr {α : Type} (f : Bs → Option (α × Bs)) (o : Option Bs) : Option Bs:=(o.bind f).map (·.2)

theorem gv_some {α : Type} {f : Bs → Option (α × Bs)} {d x : α} {l l' : Bs} (h : f l = some (x,l')) : gv f d (some l) = x:=by simp [gv,h]
theorem gr_some {α : Type} {f : Bs → Option (α × Bs)} {x : α} {l l' : Bs} (h : f l = some (x,l')) : gr f (some l) = some l':=by simp [gr,h]
theorem gv_none {α : Type} {f : Bs → Option (α × Bs)} {d : α} {l : Bs} (h : f l = none) : gv f d (some l) = d:=by simp [gv,h]
theorem gr_none {α : Type} {f : Bs → Option (α × Bs)} {l : Bs} (h : f l = none) : gr f (some l) = none:=by simp [gr,h]



def countP (m : Nat) (l : Bs) : Option (Nat × Bs):=
 match freeP m l with
 | none=>none
 | some (n,l')=>if n ≤ l'.length then some (n,l') else none

def padTo (s : Bs) (i : Nat) : Dg:=Dg.pad (s.take i)
theorem padTo_set (s : Bs) (i : Nat) (u : UInt8) (hu : s[i]? = some u) (hi : i < 32) : (padTo s i).setB i u.toNat = padTo s (i + 1):=by
 have hlt : i < s.length:=(List.getElem?_eq_some_iff.1 hu).1
 apply Dg.ext'
 show (padB (s.take i)).set i (UInt8.ofNat u.toNat) = padB (s.take (i + 1))
 have h1 : (s.take i).length = i:=by rw [List.length_take];omega
 have h2 : (s.take (i + 1)).length = i + 1:=by rw [List.length_take];omega
 unfold padB
 rw [h1,h2,List.take_of_length_le (show (s.take i).length ≤ 32 by omega),List.take_of_length_le (show (s.take (i + 1)).length ≤ 32 by omega),UInt8.ofNat_toNat]
 have h3 : s.take (i + 1) = s.take i ++ [u]:=by rw [List.take_add_one,hu];rfl
 rw [h3]
 rw [show 32 - i = (32 - (i + 1)) + 1 by omega,List.replicate_succ]
 rw [List.set_append_right _ _ (by omega),h1,Nat.sub_self,List.set_cons_zero]
 simp

theorem RrSt.cons {S : Sto} {b c : Nat} {s : Bs} {o : Option Bs} {t : TypeId} {d : D} (h : RrSt S b s o) (hc : c ∉ S.bk.map (·.1)) : RrSt ⟨(c,t,d) :: S.bk,S.ow⟩ b s o:=by
 obtain ⟨t',p,k,h1,h2⟩:=h
 exact ⟨t',p,k,by rw [getM_cons,if_neg (getM_ne h1 hc)];exact h1,h2⟩
theorem RrTo.cons {S S1 : Sto} {b c : Nat} {s : Bs} {o : Option Bs} {t : TypeId} {d : D} (h : RrTo ⟨(c,t,d) :: S.bk,S.ow⟩ b s o S1) (hc : ¬ b = c) : ∃ S2,RrTo S b s o S2 ∧ S1 = ⟨(c,t,d) :: S2.bk,S2.ow⟩:=by
 obtain ⟨p,k,rfl,h2⟩:=h
 exact ⟨_,⟨p,k,rfl,h2⟩,by simp only [setM_cons,if_neg hc]⟩
theorem RrSt.ne {S : Sto} {b c : Nat} {s : Bs} {o : Option Bs} (h : RrSt S b s o) (hc : c ∉ S.bk.map (·.1)) : ¬ b = c:=by
 obtain ⟨t',p,k,h1,h2⟩:=h
 exact getM_ne h1 hc


theorem nes {a b : Nat} (h : ¬ a = b) : ¬ b = a:=fun e=>h e.symm
structure NdGrw (ow0 ow : List (Nat × Nat)) (tp ts tk : Tag) (n : Nd) : Prop where
 p : Grw ow 73 2 tp (n.pairs.map prD)
 s : Grw ow 9 1 ts (n.seps.map sD)
 k : Grw ow 150 33 tk (n.kids.map kdD)
 ps : ∀ b,tagB tp = some b → tagB ts ≠ some b
 pk : ∀ b,tagB tp = some b → tagB tk ≠ some b
 sk : ∀ b,tagB ts = some b → tagB tk ≠ some b
 sub : List.Sublist ow0 ow
 out : ∀ b,tagB tp = some b ∨ tagB ts = some b ∨ tagB tk = some b → b ∉ ow0.map (·.1)
theorem NdGrw.nil (ow : List (Nat × Nat)) : NdGrw ow ow .nil .nil .nil ⟨[],[],[]⟩:=by
 refine ⟨Grw.nil _ _ _,Grw.nil _ _ _,Grw.nil _ _ _,?_,?_,?_,List.Sublist.refl _,?_⟩ <;> simp [tagB]

def noN : Nd:=⟨[],[],[]⟩
theorem noN_ok : NdOk noN:=⟨by decide,by decide,by decide,by simp [noN],by simp [noN],by simp [noN]⟩


theorem read_arg {p wd : Int} {s : Bs} (h : rightB p wd = false) : readP p wd s = none:=by simp [readP,h]


def cv1 (x : Value) : Sem Value:=convert 29 9 x
def slowCv (P : Program) (v : Value) (w : World) : Result Value:=(cv1 v).run P w
@[go_sem] theorem conv_at (g o : Nat) (w : World) : (convert 29 9 (.slice (some ⟨g,o,none⟩) 1 1)).run Tryz.prog w = match w.cell? ⟨g,o,none⟩ with
  | some (.int .u8 x)=>.ok (.string ⟨#[UInt8.ofNat x.toNat]⟩) w
  | _=>slowCv Tryz.prog (.slice (some ⟨g,o,none⟩) 1 1) w:=by
 split
 ·rename_i x hc
  have hl:=run_loadCells_list (P:=Tryz.prog) w ⟨g,o,none⟩ [.int .u8 x] (by
   intro j u hj
   match j,hj with
   | 0,hj=>
    simp at hj
    subst hj
    rw [show (⟨g,o,none⟩ : Addr).add 0 = ⟨g,o,none⟩ by simp [Addr.add],hc])
  rw [run_convert_bytes_string w 29 9 5 _ _ _ Tryz.underlying29 Tryz.underlying5 Tryz.underlying9]
  rw [run_bytesToString w ⟨g,o,none⟩ 1 1 [x] (by rw [show (1 : Nat) = [Value.int .u8 x].length from rfl,hl];simp)]
  simp [ByteArray.empty,ByteArray.emptyWithCapacity];rfl
 ·rfl
theorem str_cons (b : UInt8) (l : Bs) : (⟨#[b]⟩ : ByteArray) ++ ⟨l.toArray⟩ = ⟨(b :: l).toArray⟩:=by
 apply ByteArray.ext
 simp [ByteArray.data_append]
theorem str_app (k l : Bs) : (⟨k.toArray⟩ : ByteArray) ++ ⟨l.toArray⟩ = ⟨(k ++ l).toArray⟩:=by
 apply ByteArray.ext
 simp [ByteArray.data_append]


@[go_sem] theorem str_app1 (k l : Bs) : (⟨k.toArray⟩ : ByteArray) ++ ⟨l.toArray⟩ = ⟨(k ++ l).toArray⟩:=str_app k l
@[go_sem] theorem str_cons1 (l : Bs) : (⟨#[1]⟩ : ByteArray) ++ ⟨l.toArray⟩ = ⟨(1 :: l).toArray⟩:=str_cons 1 l
@[go_sem] theorem str_cons2 (l : Bs) : (⟨#[2]⟩ : ByteArray) ++ ⟨l.toArray⟩ = ⟨(2 :: l).toArray⟩:=str_cons 2 l


theorem Rets.kp {v : Value} {w : World} {e : Ending} {w' : World} (h : Rets v w e w') : e = .returned v ∧ Kp [] w w':=by
 obtain ⟨h1,bs,n,rfl⟩:=h
 exact ⟨h1,(Kp.refl [] _).ext _ _⟩
theorem RVal.of_int {w : World} {I : Nat → Nat → Prop} {k : IntKind} {n : Int} : RVal w I (.v (.int k n)) (.int k n):=by unfold RVal;exact ⟨rfl,rfl⟩
theorem RVal.of_str {w : World} {I : Nat → Nat → Prop} {s : Bs} : RVal w I (sD s) (.string ⟨s.toArray⟩):=by unfold RVal;exact ⟨rfl,rfl⟩
theorem RVal.of_bool {w : World} {I : Nat → Nat → Prop} {b : Bool} : RVal w I (bD b) (.bool b):=by unfold RVal;exact ⟨rfl,rfl⟩

def okE (o : Option Nd) (c : Int) : Int:=if o.isSome then 0 else c


section
variable {w : World} {I : Nat → Nat → Prop}
theorem rv_sd (s : Bs) (us : List Value) : RV w I (sD s) us ↔ us = csS s:=by
 unfold RV;exact ⟨fun h=>h.1,fun h=>⟨h,rfl⟩⟩
theorem rv_pr (p : Pr) (us : List Value) : RV w I (prD p) us ↔ us = csP p:=by
 unfold prD
 constructor
 ·intro h
  unfold RV at h
  obtain ⟨xs,ys,rfl,h1,h2⟩:=RVs.two h
  rw [(rv_sd _ _).1 h1,(rv_sd _ _).1 h2];rfl
 ·rintro rfl
  unfold RV
  exact RVs.mk2 ((rv_sd p.1 _).2 rfl) ((rv_sd p.2 _).2 rfl)
theorem rv_kd (k : Kd) (us : List Value) : RV w I (kdD k) us ↔ us = csK k:=by
 unfold kdD
 constructor
 ·intro h
  unfold RV at h
  obtain ⟨xs,ys,rfl,h1,h2⟩:=RVs.two h
  unfold RV at h1 h2
  rw [h1.1,h2];simp [csK,Kd.c]
 ·rintro rfl
  unfold RV
  have e : csK k = [Value.int .u32 (k.page : Nat)] ++ bC k.sum.l:=by simp [csK,Kd.c]
  rw [e]
  exact RVs.mk2 (by unfold RV;exact ⟨rfl,rfl⟩) (by unfold RV;rfl)
theorem rvs_flat {α : Type} (f : α → D) (g : α → List Value) (h : ∀ x us,RV w I (f x) us ↔ us = g x) : ∀ (l : List α) (us : List Value),RVs w I (l.map f) us ↔ us = l.flatMap g
 | [],us=>by unfold RVs;simp
 | x :: l,us=>by
  have ih:=rvs_flat f g h l
  rw [List.map_cons]
  unfold RVs
  constructor
  ·rintro ⟨xs,ys,rfl,h1,h2⟩
   rw [(h x xs).1 h1,(ih ys).1 h2];simp
  ·rintro rfl
   exact ⟨_,_,by simp,(h x _).2 rfl,(ih _).2 rfl⟩
end
end Go.Proofs.YtcaggadjkccbiaaGreat