/- What Unpack and Read answer. -/
import Derived.Test.YtcaggadjkccbiaaGreatZ32
import Derived.Test.YtcaggadjkccbiaaGreatZ35
namespace Go.Proofs.YtcaggadjkccbiaaGreat
set_option linter.unusedVariables false
set_option linter.unusedSimpArgs false
open Go Go.RowKit

/-- A node or an error. -/
def NodePost (w : World) (code : Int) (r : Option Nd) (e : Ending) (w' : World) : Prop :=
  match r with
  | some n => ∃ pa sa ka pc sc kc, e = .returned (.tuple #[.agg #[.slice pa n.pairs.length pc, .slice sa n.seps.length sc, .slice ka n.kids.length kc], .int .i64 0]) ∧ Own3 w' w.heap.size pa sa ka pc sc kc n ∧ Kp [] w w'
  | none => e = .returned (.tuple #[.agg #[.slice none 0 0, .slice none 0 0, .slice none 0 0], .int .i64 code]) ∧ Kp [] w w'

/-- The same, of which less is told. -/
def NodePostW (w : World) (code : Int) (r : Option Nd) (e : Ending) (w' : World) : Prop :=
  match r with
  | some n => ∃ pa sa ka pc sc kc, e = .returned (.tuple #[.agg #[.slice pa n.pairs.length pc, .slice sa n.seps.length sc, .slice ka n.kids.length kc], .int .i64 0]) ∧ NdAt w' pa sa ka n ∧ Kp [] w w' ∧ ∀ g ∈ ab pa ++ ab sa ++ ab ka, w.heap.size ≤ g
  | none => e = .returned (.tuple #[.agg #[.slice none 0 0, .slice none 0 0, .slice none 0 0], .int .i64 code]) ∧ Kp [] w w'
theorem NodePost.weak {w : World} {code : Int} {r : Option Nd} {e : Ending} {w' : World} (h : NodePost w code r e w') : NodePostW w code r e w' := by
  cases r with
  | none => exact h
  | some n =>
    obtain ⟨pa, sa, ka, pc, sc, kc, he, od, k⟩ := h
    exact ⟨pa, sa, ka, pc, sc, kc, he, od.at, k, od.lo⟩

def unpackE (p wd : Int) : Int := if rightB p wd = true then 73 else 2
def readP (p wd : Int) (s : Bs) : Option Nd := if rightB p wd = true then (parseP p.toNat wd.toNat false s).filter (fun n => decide (mayE p wd n = 0)) else none

end Go.Proofs.YtcaggadjkccbiaaGreat

/- Plain laws: what is laid is read, and what is read was laid: numbers, texts, digests, pairs. -/
namespace Go.Proofs.YtcaggadjkccbiaaGreat
set_option linter.unusedVariables false
set_option linter.unusedSimpArgs false
open Go Go.RowKit

end Go.Proofs.YtcaggadjkccbiaaGreat
