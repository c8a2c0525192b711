/- A digest is read; what stands at a reader's end. -/
import Derived.Test.YtgjaaffheanobaaGreatZ5
import Derived.Test.YtgjaaffheanobaaGreatZ1
import Derived.Deep.RegionHeld3
namespace Go.Proofs.YtgjaaffheanobaaGreat
set_option linter.unusedVariables false
set_option linter.unusedSimpArgs false
open Go Go.RowKit

set_option maxHeartbeats 400000 in
theorem into_any (n:Int) (w:World) (h1:0≤n) (h2:n≤32):Calls Tryz.prog 80 #[.int .i64 n] w fun e w'=>e=.returned (.int .i64 n)∧w=w':=by
 go_enter Tryz.func80,Tryz.ntmps80
 go_wp2
 all_goals
  go_ret
  exact ⟨ret_int (by omega),rfl⟩

end Go.Proofs.YtgjaaffheanobaaGreat