/- The writer's further methods. -/
import Derived.Test.YtemicgccgcmmbaaWr
namespace Go.Proofs.Ytemicgccgcmmbaa
set_option linter.unusedVariables false
set_option linter.unusedSimpArgs false
open Go Go.RowKit

/-- A fixed number's bytes, the great ones first. -/
def fixB : Nat → Nat → Bs
  | 0, _ => []
  | k + 1, n => (n / 256 ^ k % 256).toUInt8 :: fixB k n
theorem fixB_len : ∀ k n, (fixB k n).length = k
  | 0, _ => rfl
  | k + 1, n => by simp [fixB, fixB_len k n]
theorem fixB_take : ∀ (k n j : Nat), j < k → (fixB k n).take (k - j) = (fixB k n).take (k - (j + 1)) ++ [(n / 256 ^ j % 256).toUInt8]
  | 0, _, _, h => absurd h (by omega)
  | k + 1, n, j, h => by
    by_cases hj : j = k
    · subst hj; simp [fixB]
    · have ih := fixB_take k n j (by omega)
      rw [show k + 1 - j = (k - j) + 1 by omega, show k + 1 - (j + 1) = (k - (j + 1)) + 1 by omega]
      simp only [fixB, List.take_succ_cons, ih, List.cons_append]

theorem own_cast {w : World} {e : TypeId} {a : Option Addr} {n c : Nat} {xs : List Value} {x y : Int} (h : x = y) (o : Own w e 1 a n c (xs ++ [.int .u8 y])) : Own w e 1 a n c (xs ++ [.int .u8 x]) := by rw [h]; exact o

set_option maxHeartbeats 1000000 in
set_option maxRecDepth 100000 in
theorem wr_put_uint8 (wb n c : Nat) (a : Option Addr) (out : Bs) (w : World) (h : Wr w wb a c out) (hn : n < 256) (ho : out.length ≤ 70368744177664) :
    Calls Try.prog 53 #[.pointer (some ⟨wb, 0, none⟩), .int .u8 n] w (WrPost w wb a (out ++ fixB 1 n)) := by
  obtain ⟨c0, c1, f1, hlt⟩ := h.cells
  have H := Lib.hid h; clear h
  go_enter Try.func53, Try.ntmps53
  go_wp2_with (go_at_call 78; refine (width_uint8 _).mono ?_; rintro e w' ⟨rfl, rfl⟩)
  clear c0 c1 f1 hlt
  go_loopw [4] (fun i wr => ∃ (k : Int) (c' : Nat) (a' : Option Addr) (pre : Bs), i = .int .i64 k ∧ -1 ≤ k ∧ k ≤ 0 ∧ Hid (pre = out ++ (fixB 1 n).take (0 - k).toNat) ∧ Wr wr wb a' c' pre ∧ WK wb a w a' wr) (fun i _ => (intOf i + 1).toNat)
  case atStart => exact ⟨0, c, a, out, rfl, by omega, by omega, by show _ = _; simp, H.out, WK.refl _ _ _⟩
  case round =>
    obtain ⟨k, c', a', pre, rfl, hk3, hk4, HP, hw, hk⟩ := hrel
    obtain ⟨c0, c1, f1, hlt⟩ := hw.cells
    have hpre : pre.length ≤ 70368744177700 := by rw [HP.out]; simp [fixB_len]; omega
    have HW := Lib.hid hw; clear hw
    have HK := Lib.hid hk; clear hk
    rcases (show k = -1 ∨ k = 0 by omega) with rfl | rfl
    · have HQ : Hid (out ++ fixB 1 n = pre) := by show _ = _; rw [HP.out]; exact congrArg _ (List.take_of_length_le (by rw [fixB_len]; omega)).symm
      go_wp2
      go_end0
      exact ⟨rfl, a', c', by rw [HQ.out]; exact HW.out, HK.out⟩
    · go_wp2_with (at_builtin; refine wpList_app_u8 rfl rfl rfl (HW.out.own.kp ((Kp.refl [] _).alloc _) (by simp)) 1 _ (src_one rfl _) (by omega) ?_; intro a2 c2 w1 hown hk2 hnew; have ho2 := Lib.hid hown; have hk2' := Lib.hid hk2; have hn2 := Lib.hid hnew; obtain ⟨d0, d1, d2, d3⟩ := HW.out.later ((Kp.refl [] _).alloc _) hk2; clear hown hk2 hnew)
      obtain ⟨p1, p2⟩ := HW.out.put' (t := [(n / 256 ^ 0 % 256).toUInt8]) ((Kp.refl [] _).alloc _) (by rw [bC_byte _ (Nat.mod_lt _ (by omega))]; exact own_cast (by omega) ho2.out) hk2'.out hn2.out
      go_roundw
      case rel => exact ⟨-1, c2, a2, pre ++ [(n / 256 ^ 0 % 256).toUInt8], rfl, by omega, by omega, by show _ = _; rw [HP.out]; have := fixB_take 1 n 0 (by omega); simp only [Nat.reduceSub, Nat.reduceAdd] at this; simp only [Int.reduceSub, Int.reduceNeg, Int.reduceToNat, this, List.append_assoc], p1, HK.out.trans p2⟩
      case measure => simp [intOf]

set_option maxHeartbeats 1000000 in
set_option maxRecDepth 100000 in
theorem wr_put_uint32 (wb n c : Nat) (a : Option Addr) (out : Bs) (w : World) (h : Wr w wb a c out) (hn : n < 4294967296) (ho : out.length ≤ 70368744177664) :
    Calls Try.prog 60 #[.pointer (some ⟨wb, 0, none⟩), .int .u32 n] w (WrPost w wb a (out ++ fixB 4 n)) := by
  obtain ⟨c0, c1, f1, hlt⟩ := h.cells
  have H := Lib.hid h; clear h
  go_enter Try.func60, Try.ntmps60
  go_wp2_with (go_at_call 81; refine (width_uint32 _).mono ?_; rintro e w' ⟨rfl, rfl⟩)
  clear c0 c1 f1 hlt
  go_loopw [4] (fun i wr => ∃ (k : Int) (c' : Nat) (a' : Option Addr) (pre : Bs), i = .int .i64 k ∧ -1 ≤ k ∧ k ≤ 3 ∧ Hid (pre = out ++ (fixB 4 n).take (3 - k).toNat) ∧ Wr wr wb a' c' pre ∧ WK wb a w a' wr) (fun i _ => (intOf i + 1).toNat)
  case atStart => exact ⟨3, c, a, out, rfl, by omega, by omega, by show _ = _; simp, H.out, WK.refl _ _ _⟩
  case round =>
    obtain ⟨k, c', a', pre, rfl, hk3, hk4, HP, hw, hk⟩ := hrel
    obtain ⟨c0, c1, f1, hlt⟩ := hw.cells
    have hpre : pre.length ≤ 70368744177700 := by rw [HP.out]; simp [fixB_len]; omega
    have HW := Lib.hid hw; clear hw
    have HK := Lib.hid hk; clear hk
    rcases (show k = -1 ∨ k = 0 ∨ k = 1 ∨ k = 2 ∨ k = 3 by omega) with rfl | rfl | rfl | rfl | rfl
    · have HQ : Hid (out ++ fixB 4 n = pre) := by show _ = _; rw [HP.out]; exact congrArg _ (List.take_of_length_le (by rw [fixB_len]; omega)).symm
      go_wp2
      go_end0
      exact ⟨rfl, a', c', by rw [HQ.out]; exact HW.out, HK.out⟩
    · go_wp2_with (at_builtin; refine wpList_app_u8 rfl rfl rfl (HW.out.own.kp ((Kp.refl [] _).alloc _) (by simp)) 1 _ (src_one rfl _) (by omega) ?_; intro a2 c2 w1 hown hk2 hnew; have ho2 := Lib.hid hown; have hk2' := Lib.hid hk2; have hn2 := Lib.hid hnew; obtain ⟨d0, d1, d2, d3⟩ := HW.out.later ((Kp.refl [] _).alloc _) hk2; clear hown hk2 hnew)
      obtain ⟨p1, p2⟩ := HW.out.put' (t := [(n / 256 ^ 0 % 256).toUInt8]) ((Kp.refl [] _).alloc _) (by rw [bC_byte _ (Nat.mod_lt _ (by omega))]; exact own_cast (by omega) ho2.out) hk2'.out hn2.out
      go_roundw
      case rel => exact ⟨-1, c2, a2, pre ++ [(n / 256 ^ 0 % 256).toUInt8], rfl, by omega, by omega, by show _ = _; rw [HP.out]; have := fixB_take 4 n 0 (by omega); simp only [Nat.reduceSub, Nat.reduceAdd] at this; simp only [Int.reduceSub, Int.reduceNeg, Int.reduceToNat, this, List.append_assoc], p1, HK.out.trans p2⟩
      case measure => simp [intOf]
    · go_wp2_with (at_builtin; refine wpList_app_u8 rfl rfl rfl (HW.out.own.kp ((Kp.refl [] _).alloc _) (by simp)) 1 _ (src_one rfl _) (by omega) ?_; intro a2 c2 w1 hown hk2 hnew; have ho2 := Lib.hid hown; have hk2' := Lib.hid hk2; have hn2 := Lib.hid hnew; obtain ⟨d0, d1, d2, d3⟩ := HW.out.later ((Kp.refl [] _).alloc _) hk2; clear hown hk2 hnew)
      obtain ⟨p1, p2⟩ := HW.out.put' (t := [(n / 256 ^ 1 % 256).toUInt8]) ((Kp.refl [] _).alloc _) (by rw [bC_byte _ (Nat.mod_lt _ (by omega))]; exact own_cast (by omega) ho2.out) hk2'.out hn2.out
      go_roundw
      case rel => exact ⟨0, c2, a2, pre ++ [(n / 256 ^ 1 % 256).toUInt8], rfl, by omega, by omega, by show _ = _; rw [HP.out]; have := fixB_take 4 n 1 (by omega); simp only [Nat.reduceSub, Nat.reduceAdd] at this; simp only [Int.reduceSub, Int.reduceNeg, Int.reduceToNat, this, List.append_assoc], p1, HK.out.trans p2⟩
      case measure => simp [intOf]
    · go_wp2_with (at_builtin; refine wpList_app_u8 rfl rfl rfl (HW.out.own.kp ((Kp.refl [] _).alloc _) (by simp)) 1 _ (src_one rfl _) (by omega) ?_; intro a2 c2 w1 hown hk2 hnew; have ho2 := Lib.hid hown; have hk2' := Lib.hid hk2; have hn2 := Lib.hid hnew; obtain ⟨d0, d1, d2, d3⟩ := HW.out.later ((Kp.refl [] _).alloc _) hk2; clear hown hk2 hnew)
      obtain ⟨p1, p2⟩ := HW.out.put' (t := [(n / 256 ^ 2 % 256).toUInt8]) ((Kp.refl [] _).alloc _) (by rw [bC_byte _ (Nat.mod_lt _ (by omega))]; exact own_cast (by omega) ho2.out) hk2'.out hn2.out
      go_roundw
      case rel => exact ⟨1, c2, a2, pre ++ [(n / 256 ^ 2 % 256).toUInt8], rfl, by omega, by omega, by show _ = _; rw [HP.out]; have := fixB_take 4 n 2 (by omega); simp only [Nat.reduceSub, Nat.reduceAdd] at this; simp only [Int.reduceSub, Int.reduceNeg, Int.reduceToNat, this, List.append_assoc], p1, HK.out.trans p2⟩
      case measure => simp [intOf]
    · go_wp2_with (at_builtin; refine wpList_app_u8 rfl rfl rfl (HW.out.own.kp ((Kp.refl [] _).alloc _) (by simp)) 1 _ (src_one rfl _) (by omega) ?_; intro a2 c2 w1 hown hk2 hnew; have ho2 := Lib.hid hown; have hk2' := Lib.hid hk2; have hn2 := Lib.hid hnew; obtain ⟨d0, d1, d2, d3⟩ := HW.out.later ((Kp.refl [] _).alloc _) hk2; clear hown hk2 hnew)
      obtain ⟨p1, p2⟩ := HW.out.put' (t := [(n / 256 ^ 3 % 256).toUInt8]) ((Kp.refl [] _).alloc _) (by rw [bC_byte _ (Nat.mod_lt _ (by omega))]; exact own_cast (by omega) ho2.out) hk2'.out hn2.out
      go_roundw
      case rel => exact ⟨2, c2, a2, pre ++ [(n / 256 ^ 3 % 256).toUInt8], rfl, by omega, by omega, by show _ = _; rw [HP.out]; have := fixB_take 4 n 3 (by omega); simp only [Nat.reduceSub, Nat.reduceAdd] at this; simp only [Int.reduceSub, Int.reduceNeg, Int.reduceToNat, this, List.append_assoc], p1, HK.out.trans p2⟩
      case measure => simp [intOf]

end Go.Proofs.Ytemicgccgcmmbaa
