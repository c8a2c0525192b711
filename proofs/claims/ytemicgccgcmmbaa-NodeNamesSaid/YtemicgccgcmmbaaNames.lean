/- NodeNames answers true. -/
import Derived.Test.YtemicgccgcmmbaaLives
namespace Go.Proofs.Ytemicgccgcmmbaa
open Go Go.RowKit

set_option maxHeartbeats 1000000 in set_option maxRecDepth 100000 in
theorem least_any (w : World) : Calls Try.prog 11 #[.agg #[.int .i64 4096, .int .i64 8]] w (Rets (.int .i64 1355) w) := by
  go_enter Try.func11, Try.ntmps11
  go_wp2_with fail
  refine (room_any _ _ _ (by omega) (by omega)).mono ?_
  rintro e w' ⟨rfl, bs, m, rfl⟩
  go_wp2_with fail
  go_ret
  exact ⟨rfl, by (try simp only [alloc_ext, drew_ext, drewN_ext, ext_ext]); exact ⟨_, _, rfl⟩⟩

set_option maxHeartbeats 1000000 in set_option maxRecDepth 100000 in
theorem sector_any (w : World) : Calls Try.prog 12 #[.agg #[.int .i64 4096, .int .i64 8]] w (Rets (.int .i64 512) w) := by
  go_enter Try.func12, Try.ntmps12
  go_wp2_with fail
  go_ret
  exact ⟨rfl, by (try simp only [alloc_ext, drew_ext, drewN_ext, ext_ext]); exact ⟨_, _, rfl⟩⟩

set_option maxHeartbeats 1000000 in set_option maxRecDepth 100000 in
theorem names_any (w : World) : Calls Try.prog 3 #[] w (Rets (.bool true) w) := by
  go_enter Try.func3, Try.ntmps3
  go_wp2_with fail
  refine (maxKey_any _ _ _ (by omega) (by omega)).mono ?_
  rintro e w' ⟨rfl, bs, m, rfl⟩
  go_wp2_with fail
  refine (maxVal_any _ _ _ (by omega) (by omega)).mono ?_
  rintro e w' ⟨rfl, bs1, m1, rfl⟩
  go_wp2_with fail
  refine (room_any _ _ _ (by omega) (by omega)).mono ?_
  rintro e w' ⟨rfl, bs2, m2, rfl⟩
  go_wp2_with fail
  refine (least_any _).mono ?_
  rintro e w' ⟨rfl, bs3, m3, rfl⟩
  go_wp2_with fail
  refine (sector_any _).mono ?_
  rintro e w' ⟨rfl, bs4, m4, rfl⟩
  go_wp2_with fail
  refine (lives_any _).mono ?_
  rintro e w' ⟨rfl, bs5, m5, rfl⟩
  go_wp2_with fail
  go_ret
  exact ⟨rfl, by (try simp only [alloc_ext, drew_ext, drewN_ext, ext_ext]); exact ⟨_, _, rfl⟩⟩

end Go.Proofs.Ytemicgccgcmmbaa
