/- Small functions of sums and node. -/
import Derived.Test.YtcaggadjkccbiaaGreatZ2
import Derived.Test.YtcaggadjkccbiaaGreatZ3
namespace Go.Proofs.YtcaggadjkccbiaaGreat
set_option linter.unusedVariables false
set_option linter.unusedSimpArgs false
open Go Go.RowKit

set_option maxHeartbeats 1000000 in set_option maxRecDepth 100000 in
theorem maxKey_any (p wd : Int) (w : World) (h0 : 0 ≤ p) (h1 : p ≤ 1000000) : Calls Tryz.prog 116 #[.agg #[.int .i64 p, .int .i64 wd]] w (Rets (.int .i64 (p / 16)) w) := by
  go_enter Tryz.func116, Tryz.ntmps116
  go_wp2
  go_ret
  exact ⟨rfl, by (try simp only [alloc_ext, drew_ext, drewN_ext, ext_ext]); exact ⟨_, _, rfl⟩⟩

set_option maxHeartbeats 1000000 in set_option maxRecDepth 100000 in
theorem maxVal_any (p wd : Int) (w : World) (h0 : 0 ≤ p) (h1 : p ≤ 1000000) : Calls Tryz.prog 136 #[.agg #[.int .i64 p, .int .i64 wd]] w (Rets (.int .i64 (p / 8)) w) := by
  go_enter Tryz.func136, Tryz.ntmps136
  go_wp2
  go_ret
  exact ⟨rfl, by (try simp only [alloc_ext, drew_ext, drewN_ext, ext_ext]); exact ⟨_, _, rfl⟩⟩

set_option maxHeartbeats 1000000 in set_option maxRecDepth 100000 in
theorem room_any (p wd : Int) (w : World) (h0 : 0 ≤ p) (h1 : p ≤ 1000000) : Calls Tryz.prog 143 #[.agg #[.int .i64 p, .int .i64 wd]] w (Rets (.int .i64 (p - 32)) w) := by
  go_enter Tryz.func143, Tryz.ntmps143
  go_wp2
  go_ret
  exact ⟨rfl, by (try simp only [alloc_ext, drew_ext, drewN_ext, ext_ext]); exact ⟨_, _, rfl⟩⟩

theorem ret_bool {a b : Bool} (h : a = b) : Ending.returned (.bool a) = .returned (.bool b) := by rw [h]

/-- How many bytes a free number has. -/
def cntN (n : Nat) : Nat := if h : n < 128 then 1 else cntN (n / 128) + 1
termination_by n
decreasing_by omega
theorem cntN_small {n : Nat} (h : n < 128) : cntN n = 1 := by rw [cntN]; simp [h]
theorem cntN_big {n : Nat} (h : ¬ n < 128) : cntN n = cntN (n / 128) + 1 := by rw [cntN]; simp [h]
theorem cntN_le : ∀ (k n : Nat), n < 128 ^ k → 0 < k → cntN n ≤ k
  | 0, n, _, h => absurd h (by omega)
  | k + 1, n, h, _ => by
    rw [cntN]
    split
    · omega
    · by_cases hk : k = 0
      · subst hk; simp at h; omega
      · have : n / 128 < 128 ^ k := by
          rw [Nat.pow_succ] at h
          exact Nat.div_lt_of_lt_mul (by omega)
        have := cntN_le k (n / 128) this (by omega)
        omega
theorem cntN_pos (n : Nat) : 1 ≤ cntN n := by rw [cntN]; split <;> omega
theorem cntN_le9 (n : Nat) (h : n < 9223372036854775808) : cntN n ≤ 9 := cntN_le 9 n (by omega) (by omega)

set_option maxHeartbeats 1000000 in set_option maxRecDepth 100000 in
theorem count_any (n : Nat) (w : World) (hn : n ≤ 9223372036854775807) : Calls Tryz.prog 167 #[.int .i64 n] w fun e w' => e = .returned (.int .i64 (cntN n : Nat)) ∧ w = w' := by
  have hl := cntN_le9 n (by omega)
  have HL := Lib.hid hl; clear hl
  go_enter Tryz.func167, Tryz.ntmps167
  go_wp2
  go_loop [0, 3] (fun x k => ∃ m j : Nat, x = .int .i64 m ∧ k = .int .i64 j ∧ m ≤ n ∧ 1 ≤ j ∧ Hid (j - 1 + cntN m = cntN n)) (fun x _ => (intOf x).toNat)
  case atStart => exact ⟨n, 1, rfl, rfl, Nat.le_refl _, Nat.le_refl _, by show _ = _; omega⟩
  case round =>
    obtain ⟨m, j, rfl, rfl, hm, hj, HJ⟩ := hrel
    have hj9 : j ≤ 9 := by have := HJ.out; have := HL.out; have := cntN_pos m; omega
    by_cases hs : m < 128
    · go_wp2
      go_ret
      exact ⟨ret_int (by have := HJ.out; rw [cntN_small hs] at this; omega), rfl⟩
    · go_wp2
      go_round
      case rel => exact ⟨m / 128, j + 1, by go_num, by go_num, by omega, by omega, by show _ = _; have := HJ.out; rw [cntN_big hs] at this; omega⟩
      case measure => simp [intOf]; omega

/-- How many bytes a text has. -/
def txN (t : Bs) : Nat := cntN t.length + t.length

set_option maxHeartbeats 1000000 in set_option maxRecDepth 100000 in
theorem text_any (t : Bs) (w : World) (hn : t.length ≤ 140737488351232) : Calls Tryz.prog 168 #[.string ⟨t.toArray⟩] w fun e w' => e = .returned (.int .i64 (txN t : Nat)) ∧ w = w' := by
  have hl := cntN_le9 t.length (by omega)
  go_enter Tryz.func168, Tryz.ntmps168
  go_wp2_with (go_at_call 167; refine (count_any _ _ (by omega)).mono ?_; rintro e w' ⟨rfl, rfl⟩)
  go_ret
  exact ⟨ret_int (by simp [txN]), rfl⟩

set_option maxHeartbeats 1000000 in set_option maxRecDepth 100000 in
theorem wide_any (n : Int) (w : World) : Calls Tryz.prog 53 #[.int .i64 n] w fun e w' => e = .returned (.bool (decide (1 ≤ n ∧ n ≤ 32))) ∧ w = w' := by
  by_cases h1 : 1 ≤ n
  · go_enter Tryz.func53, Tryz.ntmps53
    go_wp2
    go_ret
    exact ⟨ret_bool (by rw [Bool.eq_iff_iff]; simp; omega), rfl⟩
  · go_enter Tryz.func53, Tryz.ntmps53
    go_wp2
    go_ret
    exact ⟨ret_bool (by rw [Bool.eq_iff_iff]; simp; omega), rfl⟩

set_option maxHeartbeats 1000000 in set_option maxRecDepth 100000 in
theorem isLeaf_any (pa sa ka : Option Addr) (pn sn kn pc sc kc : Nat) (w : World) :
    Calls Tryz.prog 129 #[.agg #[.slice pa pn pc, .slice sa sn sc, .slice ka kn kc]] w (Rets (.bool (decide (sn = 0 ∧ kn = 0))) w) := by
  by_cases h1 : sn = 0
  · have hb : ((sn : Int) == 0) = true := by simp; omega
    go_enter Tryz.func129, Tryz.ntmps129
    go_wp2
    go_ret
    exact ⟨ret_bool (by rw [Bool.eq_iff_iff]; simp; omega), (by (try simp only [alloc_ext, drew_ext, drewN_ext, ext_ext]); exact ⟨_, _, rfl⟩)⟩
  · have hb : ((sn : Int) == 0) = false := by simp; omega
    go_enter Tryz.func129, Tryz.ntmps129
    go_wp2
    go_ret
    exact ⟨ret_bool (by rw [Bool.eq_iff_iff]; simp; omega), (by (try simp only [alloc_ext, drew_ext, drewN_ext, ext_ext]); exact ⟨_, _, rfl⟩)⟩

end Go.Proofs.YtcaggadjkccbiaaGreat
