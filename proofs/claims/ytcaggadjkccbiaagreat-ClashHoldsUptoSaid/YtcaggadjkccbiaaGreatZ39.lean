/- A node in lists of its own. -/
import Derived.Test.YtcaggadjkccbiaaGreatZ30
import Derived.Test.YtcaggadjkccbiaaGreatZ31
import Derived.Test.YtcaggadjkccbiaaGreatZ20
namespace Go.Proofs.YtcaggadjkccbiaaGreat
set_option linter.unusedVariables false
set_option linter.unusedSimpArgs false
open Go Go.RowKit

end Go.Proofs.YtcaggadjkccbiaaGreat

/- The document's Check: right, leaf, fits, keys, shaped. -/
namespace Go.Proofs.YtcaggadjkccbiaaGreat
set_option linter.unusedVariables false
set_option linter.unusedSimpArgs false
open Go Go.RowKit

set_option maxHeartbeats 1000000 in set_option maxRecDepth 100000 in
theorem rright_any (p wd : Int) (w : World) : Calls Tryz.prog 25 #[.agg #[.int .i64 p, .int .i64 wd]] w (Rets (.bool (rightB p wd)) w) := by
  by_cases h1024 : p = 1024
  · subst h1024
    by_cases h2 : 1 ≤ wd
    · go_enter Tryz.func25, Tryz.ntmps25
      go_wp2
      go_ret
      exact ⟨ret_bool (by rw [Bool.eq_iff_iff, rightB_iff]; simp; try omega), (by (try simp only [alloc_ext, drew_ext, drewN_ext, ext_ext]); exact ⟨_, _, rfl⟩)⟩
    · go_enter Tryz.func25, Tryz.ntmps25
      go_wp2
      go_ret
      exact ⟨ret_bool (by rw [Bool.eq_iff_iff, rightB_iff]; simp; try omega), (by (try simp only [alloc_ext, drew_ext, drewN_ext, ext_ext]); exact ⟨_, _, rfl⟩)⟩
  by_cases h2048 : p = 2048
  · subst h2048
    by_cases h2 : 1 ≤ wd
    · go_enter Tryz.func25, Tryz.ntmps25
      go_wp2
      go_ret
      exact ⟨ret_bool (by rw [Bool.eq_iff_iff, rightB_iff]; simp; try omega), (by (try simp only [alloc_ext, drew_ext, drewN_ext, ext_ext]); exact ⟨_, _, rfl⟩)⟩
    · go_enter Tryz.func25, Tryz.ntmps25
      go_wp2
      go_ret
      exact ⟨ret_bool (by rw [Bool.eq_iff_iff, rightB_iff]; simp; try omega), (by (try simp only [alloc_ext, drew_ext, drewN_ext, ext_ext]); exact ⟨_, _, rfl⟩)⟩
  by_cases h4096 : p = 4096
  · subst h4096
    by_cases h2 : 1 ≤ wd
    · go_enter Tryz.func25, Tryz.ntmps25
      go_wp2
      go_ret
      exact ⟨ret_bool (by rw [Bool.eq_iff_iff, rightB_iff]; simp; try omega), (by (try simp only [alloc_ext, drew_ext, drewN_ext, ext_ext]); exact ⟨_, _, rfl⟩)⟩
    · go_enter Tryz.func25, Tryz.ntmps25
      go_wp2
      go_ret
      exact ⟨ret_bool (by rw [Bool.eq_iff_iff, rightB_iff]; simp; try omega), (by (try simp only [alloc_ext, drew_ext, drewN_ext, ext_ext]); exact ⟨_, _, rfl⟩)⟩
  by_cases h8192 : p = 8192
  · subst h8192
    by_cases h2 : 1 ≤ wd
    · go_enter Tryz.func25, Tryz.ntmps25
      go_wp2
      go_ret
      exact ⟨ret_bool (by rw [Bool.eq_iff_iff, rightB_iff]; simp; try omega), (by (try simp only [alloc_ext, drew_ext, drewN_ext, ext_ext]); exact ⟨_, _, rfl⟩)⟩
    · go_enter Tryz.func25, Tryz.ntmps25
      go_wp2
      go_ret
      exact ⟨ret_bool (by rw [Bool.eq_iff_iff, rightB_iff]; simp; try omega), (by (try simp only [alloc_ext, drew_ext, drewN_ext, ext_ext]); exact ⟨_, _, rfl⟩)⟩
  have e1 : (p == 1024) = false := by simpa using h1024
  have e2 : (p == 2048) = false := by simpa using h2048
  have e3 : (p == 4096) = false := by simpa using h4096
  have e4 : (p == 8192) = false := by simpa using h8192
  have hr : rightB p wd = false := by
    cases h : rightB p wd
    · rfl
    · have := (rightB_iff.1 h).1; omega
  rw [hr]
  clear h1024 h2048 h4096 h8192 hr
  go_enter Tryz.func25, Tryz.ntmps25
  go_wp2
  go_ret
  exact ⟨rfl, by (try simp only [alloc_ext, drew_ext, drewN_ext, ext_ext]); exact ⟨_, _, rfl⟩⟩

end Go.Proofs.YtcaggadjkccbiaaGreat

/- The document's shaped and Check. -/
namespace Go.Proofs.YtcaggadjkccbiaaGreat
set_option linter.unusedVariables false
set_option linter.unusedSimpArgs false
open Go Go.RowKit

end Go.Proofs.YtcaggadjkccbiaaGreat

/- The document's Check. -/
namespace Go.Proofs.YtcaggadjkccbiaaGreat
set_option linter.unusedVariables false
set_option linter.unusedSimpArgs false
open Go Go.RowKit

end Go.Proofs.YtcaggadjkccbiaaGreat
