/- The two nodes of 'lives', in plain words. -/
import Derived.Test.YtemicgccgcmmbaaUnpack
namespace Go.Proofs.Ytemicgccgcmmbaa
set_option linter.unusedVariables false
set_option linter.unusedSimpArgs false
open Go Go.RowKit

def lN : Nd := ⟨[([97], [120]), ([98], [])], [], []⟩
def bN : Nd := ⟨[], [[109]], [⟨5, Dg.pad [10, 11]⟩, ⟨9, Dg.pad [12, 13]⟩]⟩
def tS : Bs := [2, 2, 0, 0, 0, 5, 10, 11, 1, 109, 0, 0, 0, 9, 12, 13]

theorem l_size : SizeE 1024 2 lN = 9 := by decide +kernel
theorem l_pack : packE 1024 2 lN = 0 := by decide +kernel
theorem l_packS : packS 1024 2 lN = [1, 2, 1, 97, 1, 120, 1, 98, 0] := by decide +kernel
theorem b_pack : packE 1024 2 bN = 0 := by decide +kernel
theorem b_packS : packS 1024 2 bN = tS := by decide +kernel
theorem b_plain : mayE 1024 2 bN = 0 := by decide +kernel
theorem b_plainS : plainS 1024 2 bN = [2, 2, 10, 11, 1, 109, 12, 13] := by decide +kernel
theorem b_unpack : unpackP 1024 2 tS = some bN := by decide +kernel
theorem l_ok : NdOk lN := ⟨by decide, by decide, by decide, by decide, by decide, by decide⟩
theorem b_ok : NdOk bN := ⟨by decide, by decide, by decide, by decide, by decide, by decide⟩

end Go.Proofs.Ytemicgccgcmmbaa
