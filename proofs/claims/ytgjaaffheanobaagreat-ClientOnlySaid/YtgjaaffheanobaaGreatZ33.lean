/- pack.List of kids, over the contract of the closure that reads one. -/
import Derived.Test.YtgjaaffheanobaaGreatZ30
namespace Go.Proofs.YtgjaaffheanobaaGreat
set_option linter.unusedVariables false
set_option linter.unusedSimpArgs false
open Go Go.RowKit

abbrev csK (x:Kd):List Value:=x.c.toList

end Go.Proofs.YtgjaaffheanobaaGreat