/- A reader is opened; what stands at its end. -/
import Derived.Test.YtgjaaffheanobaaGreatZ32
namespace Go.Proofs.YtgjaaffheanobaaGreat
set_option linter.unusedVariables false
set_option linter.unusedSimpArgs false
open Go Go.RowKit

end Go.Proofs.YtgjaaffheanobaaGreat