/- A piece of a row of cells. -/
import Derived.Test.YtgjaaffheanobaaGreatZ9
namespace Go.Proofs.YtgjaaffheanobaaGreat
set_option linter.unusedVariables false
set_option linter.unusedSimpArgs false
open Go Go.RowKit

theorem rowAt?_sub {w:World} {b o n:Nat} {cs:Array Value} (h:rowAt? w ⟨b,o,none⟩ n=some cs) (i m:Nat) (hm:i+m≤n):rowAt? w ⟨b,o+i,none⟩ m=some (cs.extract i (i+m)):=by
 unfold rowAt? at *
 split at h
 ·rename_i c e f hb
  rw [hb]
  simp only [Option.isSome_none,Bool.false_eq_true,if_false] at h ⊢
  split at h
  ·rename_i hle
   simp only [Option.some.injEq] at h
   subst h
   rw [if_pos (by omega),Array.extract_extract]
   congr 1
   rw [Nat.add_assoc,Nat.min_eq_left (by omega)]
  ·cases h
 ·cases h

end Go.Proofs.YtgjaaffheanobaaGreat