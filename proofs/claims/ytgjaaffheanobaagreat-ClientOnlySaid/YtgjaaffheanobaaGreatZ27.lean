/- Keys that rise. -/
import Derived.Test.YtgjaaffheanobaaGreatZ9
namespace Go.Proofs.YtgjaaffheanobaaGreat
set_option linter.unusedVariables false
set_option linter.unusedSimpArgs false
open Go Go.RowKit


end Go.Proofs.YtgjaaffheanobaaGreat