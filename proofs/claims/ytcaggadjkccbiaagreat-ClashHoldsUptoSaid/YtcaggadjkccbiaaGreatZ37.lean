/- The document's reader (values without addresses). -/
import Derived.Test.YtcaggadjkccbiaaGreatZ13
import Derived.Test.YtcaggadjkccbiaaGreatZ17
import Derived.Test.YtcaggadjkccbiaaGreatZ3
import Derived.Test.YtcaggadjkccbiaaGreatZ5
import Derived.Test.YtcaggadjkccbiaaGreatZ36
import Derived.IntWalk
import Derived.Test.YtcaggadjkccbiaaGreatZ15
namespace Go.Proofs.YtcaggadjkccbiaaGreat
set_option linter.unusedVariables false
set_option linter.unusedSimpArgs false
open Go Go.RowKit

/-- A reader: its bytes, its place, its fault. -/
@[go_sem] def rrD (s : Bs) (p c : Int) : D := .agg [sD s, iD p, iD c]
/-- What is left of the bytes; nothing: it has failed. -/
def RrIs (s : Bs) (o : Option Bs) (p c : Int) : Prop :=
  match o with
  | some l => c = 0 ∧ ∃ k : Nat, p = k ∧ k + l.length = s.length ∧ l = s.drop k
  | none => c ≠ 0 ∧ ∃ k : Nat, p = k ∧ k ≤ s.length
/-- A reader lies in block b. -/
def RrSt (S : Sto) (b : Nat) (s : Bs) (o : Option Bs) : Prop := ∃ t p c, getM S.bk b = some (t, rrD s p c) ∧ RrIs s o p c
/-- The reader in block b has gone on. -/
def RrTo (S : Sto) (b : Nat) (s : Bs) (o : Option Bs) (S' : Sto) : Prop := ∃ p c, S' = ⟨setM S.bk b (rrD s p c), S.ow⟩ ∧ RrIs s o p c
theorem RrTo.st {S S' : Sto} {b : Nat} {s : Bs} {o o' : Option Bs} (h : RrSt S b s o) (k : RrTo S b s o' S') : RrSt S' b s o' := by
  obtain ⟨t, p, c, h1, _⟩ := h
  obtain ⟨p', c', rfl, h2⟩ := k
  exact ⟨t, p', c', by rw [getM_setM, h1]; rfl, h2⟩
theorem RrTo.trans {S S1 S2 : Sto} {b : Nat} {s : Bs} {o1 o2 : Option Bs} (h : RrTo S b s o1 S1) (k : RrTo S1 b s o2 S2) : RrTo S b s o2 S2 := by
  obtain ⟨p, c, rfl, _⟩ := h
  obtain ⟨p', c', rfl, h2⟩ := k
  exact ⟨p', c', by rw [setM_setM], h2⟩
theorem RrTo.same {S : Sto} {b : Nat} {s : Bs} {o : Option Bs} (h : RrSt S b s o) : RrTo S b s o S := by
  obtain ⟨t, p, c, h1, h2⟩ := h
  exact ⟨p, c, by rw [setM_same h1], h2⟩

def gv {α : Type} (f : Bs → Option (α × Bs)) (d : α) (o : Option Bs) : α := ((o.bind f).map (·.1)).getD d
def gr {α : Type} (f : Bs → Option (α × Bs)) (o : Option Bs) : Option Bs := (o.bind f).map (·.2)

theorem gv_some {α : Type} {f : Bs → Option (α × Bs)} {d x : α} {l l' : Bs} (h : f l = some (x, l')) : gv f d (some l) = x := by simp [gv, h]
theorem gr_some {α : Type} {f : Bs → Option (α × Bs)} {x : α} {l l' : Bs} (h : f l = some (x, l')) : gr f (some l) = some l' := by simp [gr, h]
theorem gv_none {α : Type} {f : Bs → Option (α × Bs)} {d : α} {l : Bs} (h : f l = none) : gv f d (some l) = d := by simp [gv, h]
theorem gr_none {α : Type} {f : Bs → Option (α × Bs)} {l : Bs} (h : f l = none) : gr f (some l) = none := by simp [gr, h]

end Go.Proofs.YtcaggadjkccbiaaGreat

/- The document's reader: a free number (values without addresses). -/
namespace Go.Proofs.YtcaggadjkccbiaaGreat
set_option linter.unusedVariables false
set_option linter.unusedSimpArgs false
open Go Go.RowKit

end Go.Proofs.YtcaggadjkccbiaaGreat

/- The document's reader: digests, texts, counts (values without addresses). -/
namespace Go.Proofs.YtcaggadjkccbiaaGreat
set_option linter.unusedVariables false
set_option linter.unusedSimpArgs false
open Go Go.RowKit

def countP (m : Nat) (l : Bs) : Option (Nat × Bs) :=
  match freeP m l with
  | none => none
  | some (n, l') => if n ≤ l'.length then some (n, l') else none

theorem RrSt.cons {S : Sto} {b c : Nat} {s : Bs} {o : Option Bs} {t : TypeId} {d : D} (h : RrSt S b s o) (hc : c ∉ S.bk.map (·.1)) : RrSt ⟨(c, t, d) :: S.bk, S.ow⟩ b s o := by
  obtain ⟨t', p, k, h1, h2⟩ := h
  exact ⟨t', p, k, by rw [getM_cons, if_neg (getM_ne h1 hc)]; exact h1, h2⟩
theorem RrTo.cons {S S1 : Sto} {b c : Nat} {s : Bs} {o : Option Bs} {t : TypeId} {d : D} (h : RrTo ⟨(c, t, d) :: S.bk, S.ow⟩ b s o S1) (hc : ¬ b = c) : ∃ S2, RrTo S b s o S2 ∧ S1 = ⟨(c, t, d) :: S2.bk, S2.ow⟩ := by
  obtain ⟨p, k, rfl, h2⟩ := h
  exact ⟨_, ⟨p, k, rfl, h2⟩, by simp only [setM_cons, if_neg hc]⟩
theorem RrSt.ne {S : Sto} {b c : Nat} {s : Bs} {o : Option Bs} (h : RrSt S b s o) (hc : c ∉ S.bk.map (·.1)) : ¬ b = c := by
  obtain ⟨t', p, k, h1, h2⟩ := h
  exact getM_ne h1 hc

end Go.Proofs.YtcaggadjkccbiaaGreat

/- What bytes would be the form of: the document's loose (values without addresses). -/
namespace Go.Proofs.YtcaggadjkccbiaaGreat
set_option linter.unusedVariables false
set_option linter.unusedSimpArgs false
open Go Go.RowKit

theorem nes {a b : Nat} (h : ¬ a = b) : ¬ b = a := fun e => h e.symm
/-- The three lists that grow. -/
structure NdGrw (ow0 ow : List (Nat × Nat)) (tp ts tk : Tag) (n : Nd) : Prop where
  p : Grw ow 73 2 tp (n.pairs.map prD)
  s : Grw ow 9 1 ts (n.seps.map sD)
  k : Grw ow 150 33 tk (n.kids.map kdD)
  ps : ∀ b, tagB tp = some b → tagB ts ≠ some b
  pk : ∀ b, tagB tp = some b → tagB tk ≠ some b
  sk : ∀ b, tagB ts = some b → tagB tk ≠ some b
  sub : List.Sublist ow0 ow
  out : ∀ b, tagB tp = some b ∨ tagB ts = some b ∨ tagB tk = some b → b ∉ ow0.map (·.1)
theorem NdGrw.nil (ow : List (Nat × Nat)) : NdGrw ow ow .nil .nil .nil ⟨[], [], []⟩ := by
  refine ⟨Grw.nil _ _ _, Grw.nil _ _ _, Grw.nil _ _ _, ?_, ?_, ?_, List.Sublist.refl _, ?_⟩ <;> simp [tagB]
end Go.Proofs.YtcaggadjkccbiaaGreat
