/-
  No cell of these rows narrows 'for every input' (looked for: loops, veiled, ifaces, maps, wideKeys, modest, calm, conditions, laid).
  DERIVED. THE GIVEN ROWS OF THIS SEAT. 7 by the template 'for every input the law returns true; each argument reads behind the call as it read before'; 0 by the template 'total and deterministic' (their statements: YtgjaaffheanobaaGreatTotals.lean).
  GIVEN WITH THE SEED: the statements are not yours to turn. If you find one false, say at which input.
  Laid BY PROGRAM, IN A SANDBOX (cutbox-rows.mjs): the forced cells as the released guide's own fill.sh prints them over the translation 166e9e741bbfa7d1… (all of the seat's roots in one cut). By AI agents, Wed Nov 11 2026. No macro, syntax, notation, axiom, sorry.
-/
import Derived.Test.YtgjaaffheanobaaGreatChecked
import GoSem.Claim
import GoSem.ClaimJoined
import GoSem.ClaimMapViews
import Derived.JoinedTies
import Derived.KernelRfl
namespace Go.Proofs.YtgjaaffheanobaaGreat
/- THE CELL 'sum', in the pinned program and in every row, IS THE sha256 OF THE DUMP (.gsa) THAT YtgjaaffheanobaaGreatProg.lean LOADS. Nothing in Lean hashes anything: it is a label: what it is worth is what the hold of that sum in a sandbox is worth. -/
noncomputable def Tryz.pinned : Pinned := { name := "ytgjaaffheanobaagreat", sum := "166e9e741bbfa7d135b75019f0d43bd62fe4f5c02dd0ad0f94c11e624df867f0", checked := Tryz.checked }
namespace Rows
def none {H : Type} : Left H := { results := [], args := [] }

/-- 'heartwoodlaw21.ClientForks': WHATEVER THE INPUT: true; the input reads as it did. -/
def clientForksSpec : ChangeSpec := { name := "clientForks", fn := fun _ => fun
  | [d1, d2] => { results := [.lit (.bool true)], args := [d1, d2] }
  | _ => none }
def clientForksRow : OpenClaim := { program := "ytgjaaffheanobaagreat", sum := "166e9e741bbfa7d135b75019f0d43bd62fe4f5c02dd0ad0f94c11e624df867f0", func := "heartwood/heartwoodlaw21.ClientForks", spec := "clientForks", unfollowed := true, recurses := true, plainKeys := false, apart := false }
def ClientForksSaid : Prop := clientForksRow.holds Tryz.pinned (OpenSpec.ofChange clientForksSpec)

/-- ITS FALSE NEIGHBOUR: 'it returns false'. Refute it at one input. -/
def clientForksWrong : ChangeSpec := { name := "clientForks", fn := fun _ => fun
  | [d1, d2] => { results := [.lit (.bool false)], args := [d1, d2] }
  | _ => none }
def ClientForksWrongFalsely : Prop := clientForksRow.holds Tryz.pinned (OpenSpec.ofChange clientForksWrong)

/-- 'heartwoodlaw21.ClientOnly': WHATEVER THE INPUT: true; the input reads as it did. -/
def clientOnlySpec : ChangeSpec := { name := "clientOnly", fn := fun _ => fun
  | [d1, d2] => { results := [.lit (.bool true)], args := [d1, d2] }
  | _ => none }
def clientOnlyRow : OpenClaim := { program := "ytgjaaffheanobaagreat", sum := "166e9e741bbfa7d135b75019f0d43bd62fe4f5c02dd0ad0f94c11e624df867f0", func := "heartwood/heartwoodlaw21.ClientOnly", spec := "clientOnly", unfollowed := true, recurses := true, plainKeys := false, apart := false }
def ClientOnlySaid : Prop := clientOnlyRow.holds Tryz.pinned (OpenSpec.ofChange clientOnlySpec)

/-- ITS FALSE NEIGHBOUR: 'it returns false'. Refute it at one input. -/
def clientOnlyWrong : ChangeSpec := { name := "clientOnly", fn := fun _ => fun
  | [d1, d2] => { results := [.lit (.bool false)], args := [d1, d2] }
  | _ => none }
def ClientOnlyWrongFalsely : Prop := clientOnlyRow.holds Tryz.pinned (OpenSpec.ofChange clientOnlyWrong)

/-- 'heartwoodlaw21.ClientNames': WHATEVER THE INPUT: true; the input reads as it did. -/
def clientNamesSpec : ChangeSpec := { name := "clientNames", fn := fun _ => fun
  | [] => { results := [.lit (.bool true)], args := [] }
  | _ => none }
def clientNamesRow : OpenClaim := { program := "ytgjaaffheanobaagreat", sum := "166e9e741bbfa7d135b75019f0d43bd62fe4f5c02dd0ad0f94c11e624df867f0", func := "heartwood/heartwoodlaw21.ClientNames", spec := "clientNames", unfollowed := true, recurses := true, plainKeys := false, apart := false }
def ClientNamesSaid : Prop := clientNamesRow.holds Tryz.pinned (OpenSpec.ofChange clientNamesSpec)

/-- ITS FALSE NEIGHBOUR: 'it returns false'. Refute it at one input. -/
def clientNamesWrong : ChangeSpec := { name := "clientNames", fn := fun _ => fun
  | [] => { results := [.lit (.bool false)], args := [] }
  | _ => none }
def ClientNamesWrongFalsely : Prop := clientNamesRow.holds Tryz.pinned (OpenSpec.ofChange clientNamesWrong)

/-- 'heartwoodlaw21.ClientLearns': WHATEVER THE INPUT: true; the input reads as it did. -/
def clientLearnsSpec : ChangeSpec := { name := "clientLearns", fn := fun _ => fun
  | [d1, d2, d3] => { results := [.lit (.bool true)], args := [d1, d2, d3] }
  | _ => none }
def clientLearnsRow : OpenClaim := { program := "ytgjaaffheanobaagreat", sum := "166e9e741bbfa7d135b75019f0d43bd62fe4f5c02dd0ad0f94c11e624df867f0", func := "heartwood/heartwoodlaw21.ClientLearns", spec := "clientLearns", unfollowed := true, recurses := true, plainKeys := false, apart := false }
def ClientLearnsSaid : Prop := clientLearnsRow.holds Tryz.pinned (OpenSpec.ofChange clientLearnsSpec)

/-- ITS FALSE NEIGHBOUR: 'it returns false'. Refute it at one input. -/
def clientLearnsWrong : ChangeSpec := { name := "clientLearns", fn := fun _ => fun
  | [d1, d2, d3] => { results := [.lit (.bool false)], args := [d1, d2, d3] }
  | _ => none }
def ClientLearnsWrongFalsely : Prop := clientLearnsRow.holds Tryz.pinned (OpenSpec.ofChange clientLearnsWrong)

/-- 'heartwoodlaw21.ClientForged': WHATEVER THE INPUT: true; the input reads as it did. -/
def clientForgedSpec : ChangeSpec := { name := "clientForged", fn := fun _ => fun
  | [d1, d2, d3, d4, d5, d6] => { results := [.lit (.bool true)], args := [d1, d2, d3, d4, d5, d6] }
  | _ => none }
def clientForgedRow : OpenClaim := { program := "ytgjaaffheanobaagreat", sum := "166e9e741bbfa7d135b75019f0d43bd62fe4f5c02dd0ad0f94c11e624df867f0", func := "heartwood/heartwoodlaw21.ClientForged", spec := "clientForged", unfollowed := true, recurses := true, plainKeys := false, apart := false }
def ClientForgedSaid : Prop := clientForgedRow.holds Tryz.pinned (OpenSpec.ofChange clientForgedSpec)

/-- ITS FALSE NEIGHBOUR: 'it returns false'. Refute it at one input. -/
def clientForgedWrong : ChangeSpec := { name := "clientForged", fn := fun _ => fun
  | [d1, d2, d3, d4, d5, d6] => { results := [.lit (.bool false)], args := [d1, d2, d3, d4, d5, d6] }
  | _ => none }
def ClientForgedWrongFalsely : Prop := clientForgedRow.holds Tryz.pinned (OpenSpec.ofChange clientForgedWrong)

/-- 'heartwoodlaw21.ClientScripts': WHATEVER THE INPUT: true; the input reads as it did. -/
def clientScriptsSpec : ChangeSpec := { name := "clientScripts", fn := fun _ => fun
  | [d1, d2, d3] => { results := [.lit (.bool true)], args := [d1, d2, d3] }
  | _ => none }
def clientScriptsRow : OpenClaim := { program := "ytgjaaffheanobaagreat", sum := "166e9e741bbfa7d135b75019f0d43bd62fe4f5c02dd0ad0f94c11e624df867f0", func := "heartwood/heartwoodlaw21.ClientScripts", spec := "clientScripts", unfollowed := true, recurses := true, plainKeys := false, apart := false }
def ClientScriptsSaid : Prop := clientScriptsRow.holds Tryz.pinned (OpenSpec.ofChange clientScriptsSpec)

/-- ITS FALSE NEIGHBOUR: 'it returns false'. Refute it at one input. -/
def clientScriptsWrong : ChangeSpec := { name := "clientScripts", fn := fun _ => fun
  | [d1, d2, d3] => { results := [.lit (.bool false)], args := [d1, d2, d3] }
  | _ => none }
def ClientScriptsWrongFalsely : Prop := clientScriptsRow.holds Tryz.pinned (OpenSpec.ofChange clientScriptsWrong)

/-- 'heartwoodlaw21.ClientNil': WHATEVER THE INPUT: true; the input reads as it did. -/
def clientNilSpec : ChangeSpec := { name := "clientNil", fn := fun _ => fun
  | [] => { results := [.lit (.bool true)], args := [] }
  | _ => none }
def clientNilRow : OpenClaim := { program := "ytgjaaffheanobaagreat", sum := "166e9e741bbfa7d135b75019f0d43bd62fe4f5c02dd0ad0f94c11e624df867f0", func := "heartwood/heartwoodlaw21.ClientNil", spec := "clientNil", unfollowed := true, recurses := true, plainKeys := false, apart := false }
def ClientNilSaid : Prop := clientNilRow.holds Tryz.pinned (OpenSpec.ofChange clientNilSpec)

/-- ITS FALSE NEIGHBOUR: 'it returns false'. Refute it at one input. -/
def clientNilWrong : ChangeSpec := { name := "clientNil", fn := fun _ => fun
  | [] => { results := [.lit (.bool false)], args := [] }
  | _ => none }
def ClientNilWrongFalsely : Prop := clientNilRow.holds Tryz.pinned (OpenSpec.ofChange clientNilWrong)

/- THE SECOND FORM. 'bulk': how many values and letters a reading holds, each counted each time it is reached (what is shared counts as often as it is met; a slice's spare places count too). A statement '..UptoSaid' is the law's where the arguments, and the package variables that the reading takes, are together of bulk at most 1048576: NARROWER than '..Said'. Prove '..Said' where nothing that the law and all that it calls make is longer than what came in: it says more and counts as full. Else prove '..UptoSaid'. A law counts once. -/
mutual
def uptoBulk {H : Type} : DataW H → Nat
  | .lit (.string bytes) => bytes.length + 1
  | .lit _ => 1
  | .nil => 1
  | .ptr d => uptoBulk d + 1
  | .slice elems spare => uptoBulkAll elems + uptoBulkAll spare + 1
  | .agg parts => uptoBulkAll parts + 1
  | .iface _ d => uptoBulk d + 1
  | .map entries => uptoBulkEntries entries + 1
  | .held _ => 1
def uptoBulkAll {H : Type} : List (DataW H) → Nat
  | [] => 0
  | d :: r => uptoBulk d + uptoBulkAll r
def uptoBulkEntries {H : Type} : List (Lit × DataW H) → Nat
  | [] => 0
  | x :: r => uptoBulkEntry x + uptoBulkEntries r
def uptoBulkEntry {H : Type} : Lit × DataW H → Nat
  | (.string bytes, d) => bytes.length + uptoBulk d + 1
  | (_, d) => uptoBulk d + 1
 end
def uptoSmall : (H : Type) → List (DataW H) → Bool := fun _ ds => decide (uptoBulkAll ds ≤ 1048576)
def OpenSpec.upto (s : _root_.Go.ChangeSpec) : _root_.Go.OpenSpec := { _root_.Go.OpenSpec.ofChange s with cond := some uptoSmall }

/-- 'heartwoodlaw21.ClientForks', WHERE WHAT IT READS IS OF BULK AT MOST 1048576: true; the input reads as it did. -/
def clientForksUptoRow : OpenClaim := { program := "ytgjaaffheanobaagreat", sum := "166e9e741bbfa7d135b75019f0d43bd62fe4f5c02dd0ad0f94c11e624df867f0", func := "heartwood/heartwoodlaw21.ClientForks", spec := "clientForks", unfollowed := true, recurses := true, plainKeys := false, apart := false, narrowed := true }
def ClientForksUptoSaid : Prop := clientForksUptoRow.holds Tryz.pinned (OpenSpec.upto clientForksSpec)

/-- 'heartwoodlaw21.ClientOnly', WHERE WHAT IT READS IS OF BULK AT MOST 1048576: true; the input reads as it did. -/
def clientOnlyUptoRow : OpenClaim := { program := "ytgjaaffheanobaagreat", sum := "166e9e741bbfa7d135b75019f0d43bd62fe4f5c02dd0ad0f94c11e624df867f0", func := "heartwood/heartwoodlaw21.ClientOnly", spec := "clientOnly", unfollowed := true, recurses := true, plainKeys := false, apart := false, narrowed := true }
def ClientOnlyUptoSaid : Prop := clientOnlyUptoRow.holds Tryz.pinned (OpenSpec.upto clientOnlySpec)

/-- 'heartwoodlaw21.ClientNames', WHERE WHAT IT READS IS OF BULK AT MOST 1048576: true; the input reads as it did. -/
def clientNamesUptoRow : OpenClaim := { program := "ytgjaaffheanobaagreat", sum := "166e9e741bbfa7d135b75019f0d43bd62fe4f5c02dd0ad0f94c11e624df867f0", func := "heartwood/heartwoodlaw21.ClientNames", spec := "clientNames", unfollowed := true, recurses := true, plainKeys := false, apart := false, narrowed := true }
def ClientNamesUptoSaid : Prop := clientNamesUptoRow.holds Tryz.pinned (OpenSpec.upto clientNamesSpec)

/-- 'heartwoodlaw21.ClientLearns', WHERE WHAT IT READS IS OF BULK AT MOST 1048576: true; the input reads as it did. -/
def clientLearnsUptoRow : OpenClaim := { program := "ytgjaaffheanobaagreat", sum := "166e9e741bbfa7d135b75019f0d43bd62fe4f5c02dd0ad0f94c11e624df867f0", func := "heartwood/heartwoodlaw21.ClientLearns", spec := "clientLearns", unfollowed := true, recurses := true, plainKeys := false, apart := false, narrowed := true }
def ClientLearnsUptoSaid : Prop := clientLearnsUptoRow.holds Tryz.pinned (OpenSpec.upto clientLearnsSpec)

/-- 'heartwoodlaw21.ClientForged', WHERE WHAT IT READS IS OF BULK AT MOST 1048576: true; the input reads as it did. -/
def clientForgedUptoRow : OpenClaim := { program := "ytgjaaffheanobaagreat", sum := "166e9e741bbfa7d135b75019f0d43bd62fe4f5c02dd0ad0f94c11e624df867f0", func := "heartwood/heartwoodlaw21.ClientForged", spec := "clientForged", unfollowed := true, recurses := true, plainKeys := false, apart := false, narrowed := true }
def ClientForgedUptoSaid : Prop := clientForgedUptoRow.holds Tryz.pinned (OpenSpec.upto clientForgedSpec)

/-- 'heartwoodlaw21.ClientScripts', WHERE WHAT IT READS IS OF BULK AT MOST 1048576: true; the input reads as it did. -/
def clientScriptsUptoRow : OpenClaim := { program := "ytgjaaffheanobaagreat", sum := "166e9e741bbfa7d135b75019f0d43bd62fe4f5c02dd0ad0f94c11e624df867f0", func := "heartwood/heartwoodlaw21.ClientScripts", spec := "clientScripts", unfollowed := true, recurses := true, plainKeys := false, apart := false, narrowed := true }
def ClientScriptsUptoSaid : Prop := clientScriptsUptoRow.holds Tryz.pinned (OpenSpec.upto clientScriptsSpec)

/-- 'heartwoodlaw21.ClientNil', WHERE WHAT IT READS IS OF BULK AT MOST 1048576: true; the input reads as it did. -/
def clientNilUptoRow : OpenClaim := { program := "ytgjaaffheanobaagreat", sum := "166e9e741bbfa7d135b75019f0d43bd62fe4f5c02dd0ad0f94c11e624df867f0", func := "heartwood/heartwoodlaw21.ClientNil", spec := "clientNil", unfollowed := true, recurses := true, plainKeys := false, apart := false, narrowed := true }
def ClientNilUptoSaid : Prop := clientNilUptoRow.holds Tryz.pinned (OpenSpec.upto clientNilSpec)

end Rows
end Go.Proofs.YtgjaaffheanobaaGreat
