/- A list is searched by a function. -/
import Derived.Test.YtgjaaffheanobaaGreatZ14
namespace Go.Proofs.YtgjaaffheanobaaGreat
set_option linter.unusedVariables false
set_option linter.unusedSimpArgs false
open Go Go.RowKit

end Go.Proofs.YtgjaaffheanobaaGreat