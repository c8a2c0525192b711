/- pack.List of pairs, over the contract of the closure that reads one. -/
import Derived.Test.YtgjaaffheanobaaGreatZ30
namespace Go.Proofs.YtgjaaffheanobaaGreat
set_option linter.unusedVariables false
set_option linter.unusedSimpArgs false
open Go Go.RowKit

abbrev csP (x:Pr):List Value:=[.string ⟨x.1.toArray⟩,.string ⟨x.2.toArray⟩]

end Go.Proofs.YtgjaaffheanobaaGreat