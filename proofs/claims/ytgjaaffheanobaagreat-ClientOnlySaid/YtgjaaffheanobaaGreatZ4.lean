/- Small functions of sums and node. -/
import Derived.Test.YtgjaaffheanobaaGreatZ2
import Derived.Test.YtgjaaffheanobaaGreatZ3
namespace Go.Proofs.YtgjaaffheanobaaGreat
set_option maxHeartbeats 1000000
set_option maxRecDepth 100000
set_option linter.unusedVariables false
set_option linter.unusedSimpArgs false
open Go Go.RowKit

theorem ret_bool {a b:Bool} (h:a=b):Ending.returned (.bool a)=.returned (.bool b):=by rw [h]

theorem wide_any (n:Int) (w:World):Calls Tryz.prog 81 #[.int .i64 n] w fun e w'=>e=.returned (.bool (decide (1≤n∧n≤32)))∧w=w':=by
 by_cases h1:1≤n
 ·go_enter Tryz.func81,Tryz.ntmps81
  go_wp2
  go_ret
  exact ⟨ret_bool (by rw [Bool.eq_iff_iff];simp;omega),rfl⟩
 ·go_enter Tryz.func81,Tryz.ntmps81
  go_wp2
  go_ret
  exact ⟨ret_bool (by rw [Bool.eq_iff_iff];simp;omega),rfl⟩

end Go.Proofs.YtgjaaffheanobaaGreat