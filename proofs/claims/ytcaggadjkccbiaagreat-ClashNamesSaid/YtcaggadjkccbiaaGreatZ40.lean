/- Plain laws of what is read loosely: a form is read as its node. -/
import Derived.Test.YtcaggadjkccbiaaGreatZ36
import Derived.Test.YtcaggadjkccbiaaGreatZ37
import Derived.Test.YtcaggadjkccbiaaGreatZ35
import Derived.Test.YtcaggadjkccbiaaGreatZ39
import Derived.Deep.RegionHeld3
import Derived.Test.YtcaggadjkccbiaaGreatZ17
namespace Go.Proofs.YtcaggadjkccbiaaGreat
set_option linter.unusedVariables false
set_option linter.unusedSimpArgs false
open Go Go.RowKit

theorem read_arg {p wd : Int} {s : Bs} (h : rightB p wd = false) : readP p wd s = none := by simp [readP, h]

end Go.Proofs.YtcaggadjkccbiaaGreat

/- The document's Plain, Pack, Sum, Empty; the program's Empty. -/
namespace Go.Proofs.YtcaggadjkccbiaaGreat
set_option linter.unusedVariables false
set_option linter.unusedSimpArgs false
open Go Go.RowKit

end Go.Proofs.YtcaggadjkccbiaaGreat

/- The document's Unpack and Read (values without addresses). -/
namespace Go.Proofs.YtcaggadjkccbiaaGreat
set_option linter.unusedVariables false
set_option linter.unusedSimpArgs false
open Go Go.RowKit

theorem Rets.kp {v : Value} {w : World} {e : Ending} {w' : World} (h : Rets v w e w') : e = .returned v ∧ Kp [] w w' := by
  obtain ⟨h1, bs, n, rfl⟩ := h
  exact ⟨h1, (Kp.refl [] _).ext _ _⟩
theorem RVal.of_int {w : World} {I : Nat → Nat → Prop} {k : IntKind} {n : Int} : RVal w I (.v (.int k n)) (.int k n) := by unfold RVal; exact ⟨rfl, rfl⟩
theorem RVal.of_str {w : World} {I : Nat → Nat → Prop} {s : Bs} : RVal w I (sD s) (.string ⟨s.toArray⟩) := by unfold RVal; exact ⟨rfl, rfl⟩
theorem RVal.of_bool {w : World} {I : Nat → Nat → Prop} {b : Bool} : RVal w I (bD b) (.bool b) := by unfold RVal; exact ⟨rfl, rfl⟩

def okE (o : Option Nd) (c : Int) : Int := if o.isSome then 0 else c

end Go.Proofs.YtcaggadjkccbiaaGreat
