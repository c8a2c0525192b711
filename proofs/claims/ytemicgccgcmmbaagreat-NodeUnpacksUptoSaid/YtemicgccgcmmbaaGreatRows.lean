/-
  No cell of these rows narrows 'for every input' (looked for: loops, veiled, ifaces, maps, wideKeys, modest, calm, conditions, laid).
  DERIVED. THE GIVEN ROWS OF THIS SEAT. 3 by the template 'for every input the law returns true; each argument reads behind the call as it read before'; 0 by the template 'total and deterministic' (their statements: YtemicgccgcmmbaaGreatTotals.lean).
  GIVEN WITH THE SEED: the statements are not yours to turn. If you find one false, say at which input.
  Laid BY PROGRAM, IN A SANDBOX (cutbox-rows.mjs): the forced cells as the released guide's own fill.sh prints them over the translation e3e510ade2b198c4… (all of the seat's roots in one cut). By AI agents, Wed Nov 11 2026. No macro, syntax, notation, axiom, sorry.
-/
import Derived.Test.YtemicgccgcmmbaaGreatChecked
import GoSem.Claim
import GoSem.ClaimJoined
import GoSem.ClaimMapViews
import Derived.JoinedTies
import Derived.KernelRfl
namespace Go.Proofs.YtemicgccgcmmbaaGreat
/- THE CELL 'sum', in the pinned program and in every row, IS THE sha256 OF THE DUMP (.gsa) THAT YtemicgccgcmmbaaGreatProg.lean LOADS. Nothing in Lean hashes anything: it is a label: what it is worth is what the hold of that sum in a sandbox is worth. -/
noncomputable def Tryz.pinned : Pinned := { name := "ytemicgccgcmmbaagreat", sum := "e3e510ade2b198c49c6494d08238e7f064f79238a6b774d865726366c23aee37", checked := Tryz.checked }
namespace Rows
def none {H : Type} : Left H := { results := [], args := [] }

/-- 'heartwoodlaw07.NodeUnpacks': WHATEVER THE INPUT: true; the input reads as it did. -/
def nodeUnpacksSpec : ChangeSpec := { name := "nodeUnpacks", fn := fun _ => fun
  | [d1, d2] => { results := [.lit (.bool true)], args := [d1, d2] }
  | _ => none }
def nodeUnpacksRow : OpenClaim := { program := "ytemicgccgcmmbaagreat", sum := "e3e510ade2b198c49c6494d08238e7f064f79238a6b774d865726366c23aee37", func := "heartwood/heartwoodlaw07.NodeUnpacks", spec := "nodeUnpacks", unfollowed := true, recurses := true, apart := false }
def NodeUnpacksSaid : Prop := nodeUnpacksRow.holds Tryz.pinned (OpenSpec.ofChange nodeUnpacksSpec)

/-- ITS FALSE NEIGHBOUR: 'it returns false'. Refute it at one input. -/
def nodeUnpacksWrong : ChangeSpec := { name := "nodeUnpacks", fn := fun _ => fun
  | [d1, d2] => { results := [.lit (.bool false)], args := [d1, d2] }
  | _ => none }
def NodeUnpacksWrongFalsely : Prop := nodeUnpacksRow.holds Tryz.pinned (OpenSpec.ofChange nodeUnpacksWrong)

/-- 'heartwoodlaw07.NodeSums': WHATEVER THE INPUT: true; the input reads as it did. -/
def nodeSumsSpec : ChangeSpec := { name := "nodeSums", fn := fun _ => fun
  | [d1, d2, d3] => { results := [.lit (.bool true)], args := [d1, d2, d3] }
  | _ => none }
def nodeSumsRow : OpenClaim := { program := "ytemicgccgcmmbaagreat", sum := "e3e510ade2b198c49c6494d08238e7f064f79238a6b774d865726366c23aee37", func := "heartwood/heartwoodlaw07.NodeSums", spec := "nodeSums", unfollowed := true, recurses := true, apart := false }
def NodeSumsSaid : Prop := nodeSumsRow.holds Tryz.pinned (OpenSpec.ofChange nodeSumsSpec)

/-- ITS FALSE NEIGHBOUR: 'it returns false'. Refute it at one input. -/
def nodeSumsWrong : ChangeSpec := { name := "nodeSums", fn := fun _ => fun
  | [d1, d2, d3] => { results := [.lit (.bool false)], args := [d1, d2, d3] }
  | _ => none }
def NodeSumsWrongFalsely : Prop := nodeSumsRow.holds Tryz.pinned (OpenSpec.ofChange nodeSumsWrong)

/-- 'heartwoodlaw07.NodeChecks': WHATEVER THE INPUT: true; the input reads as it did. -/
def nodeChecksSpec : ChangeSpec := { name := "nodeChecks", fn := fun _ => fun
  | [d1, d2] => { results := [.lit (.bool true)], args := [d1, d2] }
  | _ => none }
def nodeChecksRow : OpenClaim := { program := "ytemicgccgcmmbaagreat", sum := "e3e510ade2b198c49c6494d08238e7f064f79238a6b774d865726366c23aee37", func := "heartwood/heartwoodlaw07.NodeChecks", spec := "nodeChecks", unfollowed := true, recurses := true, apart := false }
def NodeChecksSaid : Prop := nodeChecksRow.holds Tryz.pinned (OpenSpec.ofChange nodeChecksSpec)

/-- ITS FALSE NEIGHBOUR: 'it returns false'. Refute it at one input. -/
def nodeChecksWrong : ChangeSpec := { name := "nodeChecks", fn := fun _ => fun
  | [d1, d2] => { results := [.lit (.bool false)], args := [d1, d2] }
  | _ => none }
def NodeChecksWrongFalsely : Prop := nodeChecksRow.holds Tryz.pinned (OpenSpec.ofChange nodeChecksWrong)

/- THE SECOND FORM. 'bulk': how many values and letters a reading holds, each counted each time it is reached (what is shared counts as often as it is met; a slice's spare places count too). A statement '..UptoSaid' is the law's where the arguments, and the package variables that the reading takes, are together of bulk at most 1048576: NARROWER than '..Said'. Prove '..Said' where nothing that the law and all that it calls make is longer than what came in: it says more and counts as full. Else prove '..UptoSaid'. A law counts once. -/
mutual
def uptoBulk {H : Type} : DataW H → Nat
  | .lit (.string bytes) => bytes.length + 1
  | .lit _ => 1
  | .nil => 1
  | .ptr d => uptoBulk d + 1
  | .slice elems spare => uptoBulkAll elems + uptoBulkAll spare + 1
  | .agg parts => uptoBulkAll parts + 1
  | .iface _ d => uptoBulk d + 1
  | .map entries => uptoBulkEntries entries + 1
  | .held _ => 1
def uptoBulkAll {H : Type} : List (DataW H) → Nat
  | [] => 0
  | d :: r => uptoBulk d + uptoBulkAll r
def uptoBulkEntries {H : Type} : List (Lit × DataW H) → Nat
  | [] => 0
  | x :: r => uptoBulkEntry x + uptoBulkEntries r
def uptoBulkEntry {H : Type} : Lit × DataW H → Nat
  | (.string bytes, d) => bytes.length + uptoBulk d + 1
  | (_, d) => uptoBulk d + 1
 end
def uptoSmall : (H : Type) → List (DataW H) → Bool := fun _ ds => decide (uptoBulkAll ds ≤ 1048576)
def OpenSpec.upto (s : _root_.Go.ChangeSpec) : _root_.Go.OpenSpec := { _root_.Go.OpenSpec.ofChange s with cond := some uptoSmall }

/-- 'heartwoodlaw07.NodeUnpacks', WHERE WHAT IT READS IS OF BULK AT MOST 1048576: true; the input reads as it did. -/
def nodeUnpacksUptoRow : OpenClaim := { program := "ytemicgccgcmmbaagreat", sum := "e3e510ade2b198c49c6494d08238e7f064f79238a6b774d865726366c23aee37", func := "heartwood/heartwoodlaw07.NodeUnpacks", spec := "nodeUnpacks", unfollowed := true, recurses := true, apart := false, narrowed := true }
def NodeUnpacksUptoSaid : Prop := nodeUnpacksUptoRow.holds Tryz.pinned (OpenSpec.upto nodeUnpacksSpec)

/-- 'heartwoodlaw07.NodeSums', WHERE WHAT IT READS IS OF BULK AT MOST 1048576: true; the input reads as it did. -/
def nodeSumsUptoRow : OpenClaim := { program := "ytemicgccgcmmbaagreat", sum := "e3e510ade2b198c49c6494d08238e7f064f79238a6b774d865726366c23aee37", func := "heartwood/heartwoodlaw07.NodeSums", spec := "nodeSums", unfollowed := true, recurses := true, apart := false, narrowed := true }
def NodeSumsUptoSaid : Prop := nodeSumsUptoRow.holds Tryz.pinned (OpenSpec.upto nodeSumsSpec)

/-- 'heartwoodlaw07.NodeChecks', WHERE WHAT IT READS IS OF BULK AT MOST 1048576: true; the input reads as it did. -/
def nodeChecksUptoRow : OpenClaim := { program := "ytemicgccgcmmbaagreat", sum := "e3e510ade2b198c49c6494d08238e7f064f79238a6b774d865726366c23aee37", func := "heartwood/heartwoodlaw07.NodeChecks", spec := "nodeChecks", unfollowed := true, recurses := true, apart := false, narrowed := true }
def NodeChecksUptoSaid : Prop := nodeChecksUptoRow.holds Tryz.pinned (OpenSpec.upto nodeChecksSpec)

end Rows
end Go.Proofs.YtemicgccgcmmbaaGreat
