/- A law's arguments opened: a frame, a node, a text. -/
import Derived.Test.YtcaggadjkccbiaaGreatZ9
import Derived.Deep.Slices
import Derived.ChangeArms
import Derived.ShutString
import Derived.ChangeOld
import Derived.SizedLaws
import Derived.Lib.SmallJoins
import Derived.Test.YtcaggadjkccbiaaGreatZ24
import Derived.Test.YtcaggadjkccbiaaGreatZ25
import Derived.Test.YtcaggadjkccbiaaGreatZ27
import Derived.Laws.Cover3
namespace Go.Proofs.YtcaggadjkccbiaaGreat
set_option linter.unusedVariables false
set_option linter.unusedSimpArgs false
open Go Go.RowKit Go.ChangeShapes Go.WideShapes Go.Deep

section
variable {H : Type} {enc : TypeId × Value → H} {P : Program} {w : World} {base : Nat} {spare : Nat → Bool} {held : Bool}

theorem row_of_cells {w : World} {b o n : Nat} {cs : List Value} (hn : 0 < n) (hl : cs.length = n) (h : ∀ i, i < n → w.cell? ⟨b, o + i, none⟩ = cs[i]?) : rowAt? w ⟨b, o, none⟩ n = some cs.toArray := by
  have h0 := h (n - 1) (by omega)
  rw [List.getElem?_eq_getElem (by omega)] at h0
  unfold rowAt?
  unfold World.cell? at h0
  split at h0
  · rename_i c e f hb
    simp only at hb
    have hsz : o + (n - 1) < c.size := by
      rcases Nat.lt_or_ge (o + (n - 1)) c.size with h1 | h1
      · exact h1
      · simp [Array.getElem?_eq_none h1] at h0
    simp only [hb, Option.isSome_none, Bool.false_eq_true, if_false]
    rw [if_pos (by omega)]
    congr 1
    apply Array.ext_getElem?
    intro i
    simp only [Array.getElem?_extract, List.getElem?_toArray]
    by_cases hi : i < n
    · have h1 := h i hi
      simp only [World.cell?, hb, Option.isSome_none, Bool.false_eq_true, if_false] at h1
      rw [if_pos (by omega), h1]
    · rw [if_neg (by omega), List.getElem?_eq_none (by omega)]
  · cases h0

instance : Inhabited Kd := ⟨Kd.zero⟩

end

end Go.Proofs.YtcaggadjkccbiaaGreat

/- A piece of a row of cells. -/
namespace Go.Proofs.YtcaggadjkccbiaaGreat
set_option linter.unusedVariables false
set_option linter.unusedSimpArgs false
open Go Go.RowKit

theorem rowAt?_sub {w : World} {b o n : Nat} {cs : Array Value} (h : rowAt? w ⟨b, o, none⟩ n = some cs) (i m : Nat) (hm : i + m ≤ n) : rowAt? w ⟨b, o + i, none⟩ m = some (cs.extract i (i + m)) := by
  unfold rowAt? at *
  split at h
  · rename_i c e f hb
    rw [hb]
    simp only [Option.isSome_none, Bool.false_eq_true, if_false] at h ⊢
    split at h
    · rename_i hle
      simp only [Option.some.injEq] at h
      subst h
      rw [if_pos (by omega), Array.extract_extract]
      congr 1
      rw [Nat.add_assoc, Nat.min_eq_left (by omega)]
    · cases h
  · cases h

end Go.Proofs.YtcaggadjkccbiaaGreat

/- Rows of pairs, texts, kids as what an append takes. -/
namespace Go.Proofs.YtcaggadjkccbiaaGreat
set_option linter.unusedVariables false
set_option linter.unusedSimpArgs false
open Go Go.RowKit

abbrev csS (t : Bs) : List Value := [.string ⟨t.toArray⟩]
theorem csS_map (l : List Bs) : l.flatMap csS = l.map fun t => .string ⟨t.toArray⟩ := by
  induction l with
  | nil => rfl
  | cons x t ih => simp [List.flatMap_cons, ih]

theorem run_eql_nilsl {P : Program} {w : World} (t e : TypeId) (a : Option Addr) (n c : Nat) (h : P.underlying t = some (.slice e)) : (binOp .eql t (.slice a n c) (.slice none 0 0)).run P w = .ok (.bool a.isNone) w := by
  simp only [binOp, Sem.run_bind, run_equal_slice_nil w t e a n c h, Result.andThen_ok, Sem.run_pure]
@[go_sem] theorem eql_nil_ps (a : Option Addr) (n c : Nat) (w : World) : (binOp .eql 46 (.slice a n c) (.slice none 0 0)).run Tryz.prog w = .ok (.bool a.isNone) w := run_eql_nilsl _ _ a n c Tryz.underlying46
@[go_sem] theorem eql_nil_ss (a : Option Addr) (n c : Nat) (w : World) : (binOp .eql 53 (.slice a n c) (.slice none 0 0)).run Tryz.prog w = .ok (.bool a.isNone) w := run_eql_nilsl _ _ a n c Tryz.underlying53
@[go_sem] theorem eql_nil_ks (a : Option Addr) (n c : Nat) (w : World) : (binOp .eql 85 (.slice a n c) (.slice none 0 0)).run Tryz.prog w = .ok (.bool a.isNone) w := run_eql_nilsl _ _ a n c Tryz.underlying85

end Go.Proofs.YtcaggadjkccbiaaGreat
