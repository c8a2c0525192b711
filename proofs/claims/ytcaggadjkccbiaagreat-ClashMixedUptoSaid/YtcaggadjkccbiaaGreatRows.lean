/-
  No cell of these rows narrows 'for every input' (looked for: loops, veiled, ifaces, maps, wideKeys, modest, calm, conditions, laid).
  DERIVED. THE GIVEN ROWS OF THIS SEAT. 6 by the template 'for every input the law returns true; each argument reads behind the call as it read before'; 0 by the template 'total and deterministic' (their statements: YtcaggadjkccbiaaGreatTotals.lean).
  GIVEN WITH THE SEED: the statements are not yours to turn. If you find one false, say at which input.
  Laid BY PROGRAM, IN A SANDBOX (cutbox-rows.mjs): the forced cells as the released guide's own fill.sh prints them over the translation 473966d18ffd523f… (all of the seat's roots in one cut). By AI agents, Wed Nov 11 2026. No macro, syntax, notation, axiom, sorry.
-/
import Derived.Test.YtcaggadjkccbiaaGreatChecked
import GoSem.Claim
import GoSem.ClaimJoined
import GoSem.ClaimMapViews
import Derived.JoinedTies
import Derived.KernelRfl
namespace Go.Proofs.YtcaggadjkccbiaaGreat
/- THE CELL 'sum', in the pinned program and in every row, IS THE sha256 OF THE DUMP (.gsa) THAT YtcaggadjkccbiaaGreatProg.lean LOADS. Nothing in Lean hashes anything: it is a label: what it is worth is what the hold of that sum in a sandbox is worth. -/
noncomputable def Tryz.pinned : Pinned := { name := "ytcaggadjkccbiaagreat", sum := "473966d18ffd523fd8820a55189c03acd50e5d77ea65d55e3bcae9e07abcc1c2", checked := Tryz.checked }
namespace Rows
def none {H : Type} : Left H := { results := [], args := [] }

/-- 'heartwoodlaw17.ClashNames': WHATEVER THE INPUT: true; the input reads as it did. -/
def clashNamesSpec : ChangeSpec := { name := "clashNames", fn := fun _ => fun
  | [] => { results := [.lit (.bool true)], args := [] }
  | _ => none }
def clashNamesRow : OpenClaim := { program := "ytcaggadjkccbiaagreat", sum := "473966d18ffd523fd8820a55189c03acd50e5d77ea65d55e3bcae9e07abcc1c2", func := "heartwood/heartwoodlaw17.ClashNames", spec := "clashNames", unfollowed := true, recurses := true, apart := false }
def ClashNamesSaid : Prop := clashNamesRow.holds Tryz.pinned (OpenSpec.ofChange clashNamesSpec)

/-- ITS FALSE NEIGHBOUR: 'it returns false'. Refute it at one input. -/
def clashNamesWrong : ChangeSpec := { name := "clashNames", fn := fun _ => fun
  | [] => { results := [.lit (.bool false)], args := [] }
  | _ => none }
def ClashNamesWrongFalsely : Prop := clashNamesRow.holds Tryz.pinned (OpenSpec.ofChange clashNamesWrong)

/-- 'heartwoodlaw17.ClashHolds': WHATEVER THE INPUT: true; the input reads as it did. -/
def clashHoldsSpec : ChangeSpec := { name := "clashHolds", fn := fun _ => fun
  | [d1, d2, d3] => { results := [.lit (.bool true)], args := [d1, d2, d3] }
  | _ => none }
def clashHoldsRow : OpenClaim := { program := "ytcaggadjkccbiaagreat", sum := "473966d18ffd523fd8820a55189c03acd50e5d77ea65d55e3bcae9e07abcc1c2", func := "heartwood/heartwoodlaw17.ClashHolds", spec := "clashHolds", unfollowed := true, recurses := true, apart := false }
def ClashHoldsSaid : Prop := clashHoldsRow.holds Tryz.pinned (OpenSpec.ofChange clashHoldsSpec)

/-- ITS FALSE NEIGHBOUR: 'it returns false'. Refute it at one input. -/
def clashHoldsWrong : ChangeSpec := { name := "clashHolds", fn := fun _ => fun
  | [d1, d2, d3] => { results := [.lit (.bool false)], args := [d1, d2, d3] }
  | _ => none }
def ClashHoldsWrongFalsely : Prop := clashHoldsRow.holds Tryz.pinned (OpenSpec.ofChange clashHoldsWrong)

/-- 'heartwoodlaw17.ClashPoints': WHATEVER THE INPUT: true; the input reads as it did. -/
def clashPointsSpec : ChangeSpec := { name := "clashPoints", fn := fun _ => fun
  | [d] => { results := [.lit (.bool true)], args := [d] }
  | _ => none }
def clashPointsRow : OpenClaim := { program := "ytcaggadjkccbiaagreat", sum := "473966d18ffd523fd8820a55189c03acd50e5d77ea65d55e3bcae9e07abcc1c2", func := "heartwood/heartwoodlaw17.ClashPoints", spec := "clashPoints", unfollowed := true, recurses := true, apart := false }
def ClashPointsSaid : Prop := clashPointsRow.holds Tryz.pinned (OpenSpec.ofChange clashPointsSpec)

/-- ITS FALSE NEIGHBOUR: 'it returns false'. Refute it at one input. -/
def clashPointsWrong : ChangeSpec := { name := "clashPoints", fn := fun _ => fun
  | [d] => { results := [.lit (.bool false)], args := [d] }
  | _ => none }
def ClashPointsWrongFalsely : Prop := clashPointsRow.holds Tryz.pinned (OpenSpec.ofChange clashPointsWrong)

/-- 'heartwoodlaw17.ClashMixed': WHATEVER THE INPUT: true; the input reads as it did. -/
def clashMixedSpec : ChangeSpec := { name := "clashMixed", fn := fun _ => fun
  | [d] => { results := [.lit (.bool true)], args := [d] }
  | _ => none }
def clashMixedRow : OpenClaim := { program := "ytcaggadjkccbiaagreat", sum := "473966d18ffd523fd8820a55189c03acd50e5d77ea65d55e3bcae9e07abcc1c2", func := "heartwood/heartwoodlaw17.ClashMixed", spec := "clashMixed", unfollowed := true, recurses := true, apart := false }
def ClashMixedSaid : Prop := clashMixedRow.holds Tryz.pinned (OpenSpec.ofChange clashMixedSpec)

/-- ITS FALSE NEIGHBOUR: 'it returns false'. Refute it at one input. -/
def clashMixedWrong : ChangeSpec := { name := "clashMixed", fn := fun _ => fun
  | [d] => { results := [.lit (.bool false)], args := [d] }
  | _ => none }
def ClashMixedWrongFalsely : Prop := clashMixedRow.holds Tryz.pinned (OpenSpec.ofChange clashMixedWrong)

/-- 'heartwoodlaw17.ClashSpans': WHATEVER THE INPUT: true; the input reads as it did. -/
def clashSpansSpec : ChangeSpec := { name := "clashSpans", fn := fun _ => fun
  | [d] => { results := [.lit (.bool true)], args := [d] }
  | _ => none }
def clashSpansRow : OpenClaim := { program := "ytcaggadjkccbiaagreat", sum := "473966d18ffd523fd8820a55189c03acd50e5d77ea65d55e3bcae9e07abcc1c2", func := "heartwood/heartwoodlaw17.ClashSpans", spec := "clashSpans", unfollowed := true, recurses := true, apart := false }
def ClashSpansSaid : Prop := clashSpansRow.holds Tryz.pinned (OpenSpec.ofChange clashSpansSpec)

/-- ITS FALSE NEIGHBOUR: 'it returns false'. Refute it at one input. -/
def clashSpansWrong : ChangeSpec := { name := "clashSpans", fn := fun _ => fun
  | [d] => { results := [.lit (.bool false)], args := [d] }
  | _ => none }
def ClashSpansWrongFalsely : Prop := clashSpansRow.holds Tryz.pinned (OpenSpec.ofChange clashSpansWrong)

/-- 'heartwoodlaw17.ClashFound': WHATEVER THE INPUT: true; the input reads as it did. -/
def clashFoundSpec : ChangeSpec := { name := "clashFound", fn := fun _ => fun
  | [d] => { results := [.lit (.bool true)], args := [d] }
  | _ => none }
def clashFoundRow : OpenClaim := { program := "ytcaggadjkccbiaagreat", sum := "473966d18ffd523fd8820a55189c03acd50e5d77ea65d55e3bcae9e07abcc1c2", func := "heartwood/heartwoodlaw17.ClashFound", spec := "clashFound", unfollowed := true, recurses := true, apart := false }
def ClashFoundSaid : Prop := clashFoundRow.holds Tryz.pinned (OpenSpec.ofChange clashFoundSpec)

/-- ITS FALSE NEIGHBOUR: 'it returns false'. Refute it at one input. -/
def clashFoundWrong : ChangeSpec := { name := "clashFound", fn := fun _ => fun
  | [d] => { results := [.lit (.bool false)], args := [d] }
  | _ => none }
def ClashFoundWrongFalsely : Prop := clashFoundRow.holds Tryz.pinned (OpenSpec.ofChange clashFoundWrong)

/- THE SECOND FORM. 'bulk': how many values and letters a reading holds, each counted each time it is reached (what is shared counts as often as it is met; a slice's spare places count too). A statement '..UptoSaid' is the law's where the arguments, and the package variables that the reading takes, are together of bulk at most 1048576: NARROWER than '..Said'. Prove '..Said' where nothing that the law and all that it calls make is longer than what came in: it says more and counts as full. Else prove '..UptoSaid'. A law counts once. -/
mutual
def uptoBulk {H : Type} : DataW H → Nat
  | .lit (.string bytes) => bytes.length + 1
  | .lit _ => 1
  | .nil => 1
  | .ptr d => uptoBulk d + 1
  | .slice elems spare => uptoBulkAll elems + uptoBulkAll spare + 1
  | .agg parts => uptoBulkAll parts + 1
  | .iface _ d => uptoBulk d + 1
  | .map entries => uptoBulkEntries entries + 1
  | .held _ => 1
def uptoBulkAll {H : Type} : List (DataW H) → Nat
  | [] => 0
  | d :: r => uptoBulk d + uptoBulkAll r
def uptoBulkEntries {H : Type} : List (Lit × DataW H) → Nat
  | [] => 0
  | x :: r => uptoBulkEntry x + uptoBulkEntries r
def uptoBulkEntry {H : Type} : Lit × DataW H → Nat
  | (.string bytes, d) => bytes.length + uptoBulk d + 1
  | (_, d) => uptoBulk d + 1
 end
def uptoSmall : (H : Type) → List (DataW H) → Bool := fun _ ds => decide (uptoBulkAll ds ≤ 1048576)
def OpenSpec.upto (s : _root_.Go.ChangeSpec) : _root_.Go.OpenSpec := { _root_.Go.OpenSpec.ofChange s with cond := some uptoSmall }

/-- 'heartwoodlaw17.ClashNames', WHERE WHAT IT READS IS OF BULK AT MOST 1048576: true; the input reads as it did. -/
def clashNamesUptoRow : OpenClaim := { program := "ytcaggadjkccbiaagreat", sum := "473966d18ffd523fd8820a55189c03acd50e5d77ea65d55e3bcae9e07abcc1c2", func := "heartwood/heartwoodlaw17.ClashNames", spec := "clashNames", unfollowed := true, recurses := true, apart := false, narrowed := true }
def ClashNamesUptoSaid : Prop := clashNamesUptoRow.holds Tryz.pinned (OpenSpec.upto clashNamesSpec)

/-- 'heartwoodlaw17.ClashHolds', WHERE WHAT IT READS IS OF BULK AT MOST 1048576: true; the input reads as it did. -/
def clashHoldsUptoRow : OpenClaim := { program := "ytcaggadjkccbiaagreat", sum := "473966d18ffd523fd8820a55189c03acd50e5d77ea65d55e3bcae9e07abcc1c2", func := "heartwood/heartwoodlaw17.ClashHolds", spec := "clashHolds", unfollowed := true, recurses := true, apart := false, narrowed := true }
def ClashHoldsUptoSaid : Prop := clashHoldsUptoRow.holds Tryz.pinned (OpenSpec.upto clashHoldsSpec)

/-- 'heartwoodlaw17.ClashPoints', WHERE WHAT IT READS IS OF BULK AT MOST 1048576: true; the input reads as it did. -/
def clashPointsUptoRow : OpenClaim := { program := "ytcaggadjkccbiaagreat", sum := "473966d18ffd523fd8820a55189c03acd50e5d77ea65d55e3bcae9e07abcc1c2", func := "heartwood/heartwoodlaw17.ClashPoints", spec := "clashPoints", unfollowed := true, recurses := true, apart := false, narrowed := true }
def ClashPointsUptoSaid : Prop := clashPointsUptoRow.holds Tryz.pinned (OpenSpec.upto clashPointsSpec)

/-- 'heartwoodlaw17.ClashMixed', WHERE WHAT IT READS IS OF BULK AT MOST 1048576: true; the input reads as it did. -/
def clashMixedUptoRow : OpenClaim := { program := "ytcaggadjkccbiaagreat", sum := "473966d18ffd523fd8820a55189c03acd50e5d77ea65d55e3bcae9e07abcc1c2", func := "heartwood/heartwoodlaw17.ClashMixed", spec := "clashMixed", unfollowed := true, recurses := true, apart := false, narrowed := true }
def ClashMixedUptoSaid : Prop := clashMixedUptoRow.holds Tryz.pinned (OpenSpec.upto clashMixedSpec)

/-- 'heartwoodlaw17.ClashSpans', WHERE WHAT IT READS IS OF BULK AT MOST 1048576: true; the input reads as it did. -/
def clashSpansUptoRow : OpenClaim := { program := "ytcaggadjkccbiaagreat", sum := "473966d18ffd523fd8820a55189c03acd50e5d77ea65d55e3bcae9e07abcc1c2", func := "heartwood/heartwoodlaw17.ClashSpans", spec := "clashSpans", unfollowed := true, recurses := true, apart := false, narrowed := true }
def ClashSpansUptoSaid : Prop := clashSpansUptoRow.holds Tryz.pinned (OpenSpec.upto clashSpansSpec)

/-- 'heartwoodlaw17.ClashFound', WHERE WHAT IT READS IS OF BULK AT MOST 1048576: true; the input reads as it did. -/
def clashFoundUptoRow : OpenClaim := { program := "ytcaggadjkccbiaagreat", sum := "473966d18ffd523fd8820a55189c03acd50e5d77ea65d55e3bcae9e07abcc1c2", func := "heartwood/heartwoodlaw17.ClashFound", spec := "clashFound", unfollowed := true, recurses := true, apart := false, narrowed := true }
def ClashFoundUptoSaid : Prop := clashFoundUptoRow.holds Tryz.pinned (OpenSpec.upto clashFoundSpec)

end Rows
end Go.Proofs.YtcaggadjkccbiaaGreat
