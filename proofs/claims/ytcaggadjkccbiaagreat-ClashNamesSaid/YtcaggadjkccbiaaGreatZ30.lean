/- A piece of a row of cells. -/
import Derived.Test.YtcaggadjkccbiaaGreatZ14
import Derived.Test.YtcaggadjkccbiaaGreatZ24
import Derived.Test.YtcaggadjkccbiaaGreatZ25
import Derived.Test.YtcaggadjkccbiaaGreatZ27
import Derived.Laws.Cover3
namespace Go.Proofs.YtcaggadjkccbiaaGreat
set_option linter.unusedVariables false
set_option linter.unusedSimpArgs false
open Go Go.RowKit

theorem rowAt?_sub {w : World} {b o n : Nat} {cs : Array Value} (h : rowAt? w ⟨b, o, none⟩ n = some cs) (i m : Nat) (hm : i + m ≤ n) : rowAt? w ⟨b, o + i, none⟩ m = some (cs.extract i (i + m)) := by
  unfold rowAt? at *
  split at h
  · rename_i c e f hb
    rw [hb]
    simp only [Option.isSome_none, Bool.false_eq_true, if_false] at h ⊢
    split at h
    · rename_i hle
      simp only [Option.some.injEq] at h
      subst h
      rw [if_pos (by omega), Array.extract_extract]
      congr 1
      rw [Nat.add_assoc, Nat.min_eq_left (by omega)]
    · cases h
  · cases h

end Go.Proofs.YtcaggadjkccbiaaGreat

/- Rows of pairs, texts, kids as what an append takes. -/
namespace Go.Proofs.YtcaggadjkccbiaaGreat
set_option linter.unusedVariables false
set_option linter.unusedSimpArgs false
open Go Go.RowKit

abbrev csS (t : Bs) : List Value := [.string ⟨t.toArray⟩]
theorem csS_map (l : List Bs) : l.flatMap csS = l.map fun t => .string ⟨t.toArray⟩ := by
  induction l with
  | nil => rfl
  | cons x t ih => simp [List.flatMap_cons, ih]

theorem run_eql_nilsl {P : Program} {w : World} (t e : TypeId) (a : Option Addr) (n c : Nat) (h : P.underlying t = some (.slice e)) : (binOp .eql t (.slice a n c) (.slice none 0 0)).run P w = .ok (.bool a.isNone) w := by
  simp only [binOp, Sem.run_bind, run_equal_slice_nil w t e a n c h, Result.andThen_ok, Sem.run_pure]
@[go_sem] theorem eql_nil_ps (a : Option Addr) (n c : Nat) (w : World) : (binOp .eql 46 (.slice a n c) (.slice none 0 0)).run Tryz.prog w = .ok (.bool a.isNone) w := run_eql_nilsl _ _ a n c Tryz.underlying46
@[go_sem] theorem eql_nil_ss (a : Option Addr) (n c : Nat) (w : World) : (binOp .eql 53 (.slice a n c) (.slice none 0 0)).run Tryz.prog w = .ok (.bool a.isNone) w := run_eql_nilsl _ _ a n c Tryz.underlying53
@[go_sem] theorem eql_nil_ks (a : Option Addr) (n c : Nat) (w : World) : (binOp .eql 85 (.slice a n c) (.slice none 0 0)).run Tryz.prog w = .ok (.bool a.isNone) w := run_eql_nilsl _ _ a n c Tryz.underlying85

end Go.Proofs.YtcaggadjkccbiaaGreat
