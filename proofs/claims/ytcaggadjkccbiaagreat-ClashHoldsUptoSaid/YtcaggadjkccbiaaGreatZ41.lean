/- The empty node. -/
import Derived.Test.YtcaggadjkccbiaaGreatZ9
import Derived.Test.YtcaggadjkccbiaaGreatZ37
import Derived.Test.YtcaggadjkccbiaaGreatZ38
import Derived.Test.YtcaggadjkccbiaaGreatZ36
import Derived.Test.YtcaggadjkccbiaaGreatZ33
import Derived.Test.YtcaggadjkccbiaaGreatZ24
import Derived.Deep.RegionLaw
import Derived.Test.YtcaggadjkccbiaaGreatZ39
import Derived.Test.YtcaggadjkccbiaaGreatZ34
import Derived.Test.YtcaggadjkccbiaaGreatZ35
import Derived.Deep.RegionHeld3
namespace Go.Proofs.YtcaggadjkccbiaaGreat
set_option linter.unusedVariables false
set_option linter.unusedSimpArgs false
open Go Go.RowKit

def noN : Nd := ⟨[], [], []⟩
end Go.Proofs.YtcaggadjkccbiaaGreat

/- Plain laws of what is read loosely: a form is read as its node. -/
namespace Go.Proofs.YtcaggadjkccbiaaGreat
set_option linter.unusedVariables false
set_option linter.unusedSimpArgs false
open Go Go.RowKit

theorem read_arg {p wd : Int} {s : Bs} (h : rightB p wd = false) : readP p wd s = none := by simp [readP, h]

end Go.Proofs.YtcaggadjkccbiaaGreat

/- The document's free numbers, texts, fixed numbers, digests. -/
namespace Go.Proofs.YtcaggadjkccbiaaGreat
set_option linter.unusedVariables false
set_option linter.unusedSimpArgs false
open Go Go.RowKit

def cv1 (x : Value) : Sem Value := convert 29 9 x
def slowCv (P : Program) (v : Value) (w : World) : Result Value := (cv1 v).run P w
/-- One byte, made a text. -/
@[go_sem] theorem conv_at (g o : Nat) (w : World) : (convert 29 9 (.slice (some ⟨g, o, none⟩) 1 1)).run Tryz.prog w = match w.cell? ⟨g, o, none⟩ with
    | some (.int .u8 x) => .ok (.string ⟨#[UInt8.ofNat x.toNat]⟩) w
    | _ => slowCv Tryz.prog (.slice (some ⟨g, o, none⟩) 1 1) w := by
  split
  · rename_i x hc
    have hl := run_loadCells_list (P := Tryz.prog) w ⟨g, o, none⟩ [.int .u8 x] (by
      intro j u hj
      match j, hj with
      | 0, hj =>
        simp at hj
        subst hj
        rw [show (⟨g, o, none⟩ : Addr).add 0 = ⟨g, o, none⟩ by simp [Addr.add], hc])
    rw [run_convert_bytes_string w 29 9 5 _ _ _ Tryz.underlying29 Tryz.underlying5 Tryz.underlying9]
    rw [run_bytesToString w ⟨g, o, none⟩ 1 1 [x] (by rw [show (1 : Nat) = [Value.int .u8 x].length from rfl, hl]; simp)]
    simp [ByteArray.empty, ByteArray.emptyWithCapacity]; rfl
  · rfl
theorem str_cons (b : UInt8) (l : Bs) : (⟨#[b]⟩ : ByteArray) ++ ⟨l.toArray⟩ = ⟨(b :: l).toArray⟩ := by
  apply ByteArray.ext
  simp [ByteArray.data_append]
theorem str_app (k l : Bs) : (⟨k.toArray⟩ : ByteArray) ++ ⟨l.toArray⟩ = ⟨(k ++ l).toArray⟩ := by
  apply ByteArray.ext
  simp [ByteArray.data_append]
end Go.Proofs.YtcaggadjkccbiaaGreat

/- The document's Most and Size. -/
namespace Go.Proofs.YtcaggadjkccbiaaGreat
set_option linter.unusedVariables false
set_option linter.unusedSimpArgs false
open Go Go.RowKit

end Go.Proofs.YtcaggadjkccbiaaGreat

/- The document's form of a node. Printed by genrform.py. -/
namespace Go.Proofs.YtcaggadjkccbiaaGreat
set_option linter.unusedVariables false
set_option linter.unusedSimpArgs false
open Go Go.RowKit

@[go_sem] theorem str_app1 (k l : Bs) : (⟨k.toArray⟩ : ByteArray) ++ ⟨l.toArray⟩ = ⟨(k ++ l).toArray⟩ := str_app k l
@[go_sem] theorem str_cons1 (l : Bs) : (⟨#[1]⟩ : ByteArray) ++ ⟨l.toArray⟩ = ⟨(1 :: l).toArray⟩ := str_cons 1 l
@[go_sem] theorem str_cons2 (l : Bs) : (⟨#[2]⟩ : ByteArray) ++ ⟨l.toArray⟩ = ⟨(2 :: l).toArray⟩ := str_cons 2 l
end Go.Proofs.YtcaggadjkccbiaaGreat

/- The document's Plain, Pack, Sum, Empty; the program's Empty. -/
namespace Go.Proofs.YtcaggadjkccbiaaGreat
set_option linter.unusedVariables false
set_option linter.unusedSimpArgs false
open Go Go.RowKit

end Go.Proofs.YtcaggadjkccbiaaGreat
