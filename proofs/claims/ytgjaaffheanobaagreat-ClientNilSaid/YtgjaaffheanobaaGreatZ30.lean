/- A law's arguments opened: a frame, a node, a text. -/
import Derived.Test.YtgjaaffheanobaaGreatZ14
import Derived.Deep.Slices
import Derived.ChangeArms
import Derived.ShutString
import Derived.ChangeOld
import Derived.SizedLaws
import Derived.Lib.SmallJoins
namespace Go.Proofs.YtgjaaffheanobaaGreat
set_option linter.unusedVariables false
set_option linter.unusedSimpArgs false
open Go Go.RowKit Go.ChangeShapes Go.WideShapes Go.Deep

section
variable {H : Type} {enc : TypeId × Value → H} {P : Program} {w : World} {base : Nat} {spare : Nat → Bool} {held : Bool}

theorem row_of_cells {w:World} {b o n:Nat} {cs:List Value} (hn:0<n) (hl:cs.length=n) (h:∀ i,i<n→w.cell? ⟨b,o+i,none⟩=cs[i]?):rowAt? w ⟨b,o,none⟩ n=some cs.toArray:=by
 have h0:=h (n - 1) (by omega)
 rw [List.getElem?_eq_getElem (by omega)] at h0
 unfold rowAt?
 unfold World.cell? at h0
 split at h0
 ·rename_i c e f hb
  simp only at hb
  have hsz:o+(n - 1)<c.size:=by
   rcases Nat.lt_or_ge (o+(n - 1)) c.size with h1 | h1
   ·exact h1
   ·simp [Array.getElem?_eq_none h1] at h0
  simp only [hb,Option.isSome_none,Bool.false_eq_true,if_false]
  rw [if_pos (by omega)]
  congr 1
  apply Array.ext_getElem?
  intro i
  simp only [Array.getElem?_extract,List.getElem?_toArray]
  by_cases hi:i<n
  ·have h1:=h i hi
   simp only [World.cell?,hb,Option.isSome_none,Bool.false_eq_true,if_false] at h1
   rw [if_pos (by omega),h1]
  ·rw [if_neg (by omega),List.getElem?_eq_none (by omega)]
 ·cases h0

instance:Inhabited Kd:=⟨Kd.zero⟩

end

end Go.Proofs.YtgjaaffheanobaaGreat