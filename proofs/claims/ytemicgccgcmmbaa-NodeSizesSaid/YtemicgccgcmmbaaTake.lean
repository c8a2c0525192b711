/- Fixed numbers are read. -/
import Derived.Test.YtemicgccgcmmbaaRd2
namespace Go.Proofs.Ytemicgccgcmmbaa
set_option linter.unusedVariables false
set_option linter.unusedSimpArgs false
open Go Go.RowKit

theorem be_app (a b : Bs) (acc : Nat) : be (a ++ b) acc = be b (be a acc) := by
  induction a generalizing acc with
  | nil => rfl
  | cons x t ih => exact ih _
theorem be_le : ∀ (l : Bs) (acc : Nat), be l acc < (acc + 1) * 256 ^ l.length
  | [], acc => by simp [be]
  | x :: t, acc => by
    have h := be_le t (acc * 256 + x.toNat)
    have hx := x.toNat_lt
    have h2 : (acc * 256 + x.toNat + 1) * 256 ^ t.length ≤ ((acc + 1) * 256) * 256 ^ t.length := Nat.mul_le_mul_right _ (by omega)
    rw [List.length_cons, Nat.pow_succ, Nat.mul_comm (256 ^ t.length) 256, ← Nat.mul_assoc]
    exact Nat.lt_of_lt_of_le h h2
theorem be_lt (l : Bs) : be l 0 < 256 ^ l.length := by simpa using be_le l 0

theorem pow_uint8 : ∀ k, k < 8 → ((2 : Int) ^ k % 256 != 0) = true := by decide
theorem dbl_uint8 (k : Nat) : (2 : Int) ^ k % 256 * 2 % 256 = 2 ^ (k + 1) % 256 := by rw [Int.pow_succ]; omega

set_option maxHeartbeats 1000000 in
theorem width_uint8 (w : World) : Calls Try.prog 78 #[] w fun e w' => e = .returned (.int .i64 1) ∧ w = w' := by
  go_enter Try.func78, Try.ntmps78
  go_wp2
  go_loop [1, 2] (fun n x => ∃ k : Nat, k ≤ 8 ∧ n = .int .i64 k ∧ x = .int .u8 ((2 : Int) ^ k % 256)) (fun n _ => 8 - (intOf n).toNat)
  case atStart => exact ⟨0, by omega, rfl, rfl⟩
  case round =>
    obtain ⟨k, hk, rfl, rfl⟩ := hrel
    by_cases h8 : k = 8
    · subst h8
      go_wp2
      go_ret
      exact ⟨rfl, rfl⟩
    · have hb := pow_uint8 k (by omega)
      go_wp2
      go_round
      case rel => exact ⟨k + 1, by omega, by go_num, by rw [← dbl_uint8]⟩
      case measure => simp [intOf]; omega

def TakePostuint8 (w : World) (b : Nat) (s : Bs) (r : Option (Nat × Bs)) (e : Ending) (w' : World) : Prop :=
  match r with
  | some (n, l') => e = .returned (.int .u8 n) ∧ Kp [b] w w' ∧ RdOk w' b s l'
  | none => e = .returned (.int .u8 0) ∧ Kp [b] w w' ∧ RdBad w' b s

set_option maxHeartbeats 400000 in
theorem take_bad_uint8 (b : Nat) (s : Bs) (w : World) (h : RdBad w b s) :
    Calls Try.prog 64 #[.pointer (some ⟨b, 0, none⟩)] w fun e w' => e = .returned (.int .u8 0) ∧ w = w' := by
  obtain ⟨p, f, hf, hp, h⟩ := h
  have H := Lib.hid h; have HF := Lib.hid hf; clear h hf
  go_enter Try.func64, Try.ntmps64
  go_wp2_with (go_at_call 84; refine (rd_dead1 H.out HF.out).mono ?_; rintro e w' ⟨rfl, rfl⟩)
  go_ret
  exact ⟨rfl, rfl⟩

set_option maxHeartbeats 2000000 in
set_option maxRecDepth 100000 in
theorem take_uint8 (b : Nat) (s l : Bs) (w : World) (h : RdOk w b s l) (hs : s.length ≤ 140737488351232) :
    Calls Try.prog 64 #[.pointer (some ⟨b, 0, none⟩)] w (TakePostuint8 w b s (takeP 1 l)) := by
  obtain ⟨p, hp, hl, h⟩ := h
  obtain ⟨c0, c1, c2, c3⟩ := h.cells
  have f2 := Blk.frozen h 2
  have f3 := Blk.frozen h 3
  have H := Lib.hid h; clear h
  have HL := Lib.hid hl; clear hl
  have hp' : p ≤ s.length := by omega
  by_cases hle : 1 ≤ l.length
  · have hr : Hid (takeP 1 l = some (be (l.take 1) 0, l.drop 1)) := by show _ = _; simp [takeP, hle]
    have hlt : ¬ ((s.length : Int) - p < 1) := by omega
    have hpn : p + 1 ≤ s.length := by omega
    have HP := Lib.hid hp; clear hp
    go_enter Try.func64, Try.ntmps64
    go_wp2_with (first | (go_at_call 84; refine (rd_dead0 H.out).mono ?_; rintro e w' ⟨rfl, rfl⟩) | (go_at_call 78; refine (width_uint8 _).mono ?_; rintro e w' ⟨rfl, rfl⟩) | (go_at_call 85; refine (rd_left _ _ _ _ _ H.out hs hp').mono ?_; rintro e w' ⟨rfl, nq, rfl⟩))
    go_loopw [4, 5, 20] (fun x _ i wr => ∃ k X : Nat, k ≤ 1 ∧ i = .int .i64 k ∧ x = .int .u64 X ∧ Hid (X = be ((s.drop p).take k) 0) ∧ ∃ nn, wr = w.drewN nn) (fun _ _ i _ => 1 - (intOf i).toNat)
    case atStart => exact ⟨0, 0, by omega, rfl, rfl, rfl, _, rfl⟩
    case round =>
      obtain ⟨k, X, hk, rfl, rfl, HX, nn, rfl⟩ := hrel
      have hb := be_lt ((s.drop p).take k)
      rw [← HX.out, List.length_take, List.length_drop, show min k (s.length - p) = k by omega] at hb
      have hX : X < 256 ^ 1 := Nat.lt_of_lt_of_le hb (Nat.pow_le_pow_right (by omega) hk)
      by_cases hkn : k = 1
      · subst hkn
        clear hb
        have hXb : X < 256 := by omega
        clear hX
        go_wp2
        go_ret
        rw [hr.out, HL.out, ← HX.out]
        exact ⟨rfl, ((Kp.refl _ _).drewN _).setCell _ (.inr (by simp)), p + 1, by simp; omega, by simp, RdAt.setAt (w := w.drewN _) (Blk.drewN H.out _) _⟩
      · have hkl : k < 1 := by omega
        have hX2 : X < 256 ^ 0 := Nat.lt_of_lt_of_le hb (Nat.pow_le_pow_right (by omega) (by omega))
        clear hb hX
        have e1 : IntKind.i64.wrap ((p : Int) + k) = p + k := IntWalk.i64_in _ (by omega)
        have e2 : (0 : Int) ≤ p + k := by omega
        have e3 : ((p : Int) + k).toNat = p + k := by omega
        have e4 : p + k < s.length := by omega
        obtain ⟨c, hcell, hsc, hc⟩ := byte_at s (p + k) e4
        have HS := Lib.hid hsc; clear hsc
        have e5 : bits .or .u64 ((X : Int) * 256) (c : Int) = ((X * 256 + c : Nat) : Int) := by
          have : X * 256 + 256 ≤ 256 := by omega
          rw [show (X : Int) * 256 = ((X * 2 ^ 8 : Nat) : Int) by omega, u64_or_nat _ _ (by omega) (by omega), Nat.or_comm, or_shift _ _ _ (by omega), Nat.add_comm]
        go_wp2
        go_quiet (fail)
        clear e1 e2 e3
        go_wp2
        go_roundw
        case rel => exact ⟨k + 1, X * 256 + c, by omega, by go_num, by first | rfl | rw [e5], by show _ = _; rw [HX.out, List.take_add_one, List.getElem?_drop, List.getElem?_eq_getElem e4, be_app, ← HS.out]; rfl, _, rfl⟩
        case measure => simp [intOf]; omega
  · have hr : Hid (takeP 1 l = none) := by show _ = _; simp [takeP, hle]
    have hlt : (s.length : Int) - p < 1 := by omega
    go_enter Try.func64, Try.ntmps64
    go_wp2_with (first | (go_at_call 84; refine (rd_dead0 H.out).mono ?_; rintro e w' ⟨rfl, rfl⟩) | (go_at_call 78; refine (width_uint8 _).mono ?_; rintro e w' ⟨rfl, rfl⟩) | (go_at_call 85; refine (rd_left _ _ _ _ _ H.out hs hp').mono ?_; rintro e w' ⟨rfl, nq, rfl⟩) | (go_at_call 86; refine (rd_fail _ _ _ _ _ _ _ (Blk.drewN H.out _)).mono ?_; rintro e w' ⟨rfl, hk1, hr1⟩))
    go_ret
    rw [hr.out]
    exact ⟨rfl, ((Kp.refl _ _).drewN _).trans hk1, hr1.bad (by decide) hp'⟩

theorem pow_uint32 : ∀ k, k < 32 → ((2 : Int) ^ k % 4294967296 != 0) = true := by decide
theorem dbl_uint32 (k : Nat) : (2 : Int) ^ k % 4294967296 * 2 % 4294967296 = 2 ^ (k + 1) % 4294967296 := by rw [Int.pow_succ]; omega

set_option maxHeartbeats 1000000 in
theorem width_uint32 (w : World) : Calls Try.prog 81 #[] w fun e w' => e = .returned (.int .i64 4) ∧ w = w' := by
  go_enter Try.func81, Try.ntmps81
  go_wp2
  go_loop [1, 2] (fun n x => ∃ k : Nat, k ≤ 32 ∧ n = .int .i64 k ∧ x = .int .u32 ((2 : Int) ^ k % 4294967296)) (fun n _ => 32 - (intOf n).toNat)
  case atStart => exact ⟨0, by omega, rfl, rfl⟩
  case round =>
    obtain ⟨k, hk, rfl, rfl⟩ := hrel
    by_cases h8 : k = 32
    · subst h8
      go_wp2
      go_ret
      exact ⟨rfl, rfl⟩
    · have hb := pow_uint32 k (by omega)
      go_wp2
      go_round
      case rel => exact ⟨k + 1, by omega, by go_num, by rw [← dbl_uint32]⟩
      case measure => simp [intOf]; omega

def TakePostuint32 (w : World) (b : Nat) (s : Bs) (r : Option (Nat × Bs)) (e : Ending) (w' : World) : Prop :=
  match r with
  | some (n, l') => e = .returned (.int .u32 n) ∧ Kp [b] w w' ∧ RdOk w' b s l'
  | none => e = .returned (.int .u32 0) ∧ Kp [b] w w' ∧ RdBad w' b s

set_option maxHeartbeats 400000 in
theorem take_bad_uint32 (b : Nat) (s : Bs) (w : World) (h : RdBad w b s) :
    Calls Try.prog 70 #[.pointer (some ⟨b, 0, none⟩)] w fun e w' => e = .returned (.int .u32 0) ∧ w = w' := by
  obtain ⟨p, f, hf, hp, h⟩ := h
  have H := Lib.hid h; have HF := Lib.hid hf; clear h hf
  go_enter Try.func70, Try.ntmps70
  go_wp2_with (go_at_call 84; refine (rd_dead1 H.out HF.out).mono ?_; rintro e w' ⟨rfl, rfl⟩)
  go_ret
  exact ⟨rfl, rfl⟩

set_option maxHeartbeats 2000000 in
set_option maxRecDepth 100000 in
theorem take_uint32 (b : Nat) (s l : Bs) (w : World) (h : RdOk w b s l) (hs : s.length ≤ 140737488351232) :
    Calls Try.prog 70 #[.pointer (some ⟨b, 0, none⟩)] w (TakePostuint32 w b s (takeP 4 l)) := by
  obtain ⟨p, hp, hl, h⟩ := h
  obtain ⟨c0, c1, c2, c3⟩ := h.cells
  have f2 := Blk.frozen h 2
  have f3 := Blk.frozen h 3
  have H := Lib.hid h; clear h
  have HL := Lib.hid hl; clear hl
  have hp' : p ≤ s.length := by omega
  by_cases hle : 4 ≤ l.length
  · have hr : Hid (takeP 4 l = some (be (l.take 4) 0, l.drop 4)) := by show _ = _; simp [takeP, hle]
    have hlt : ¬ ((s.length : Int) - p < 4) := by omega
    have hpn : p + 4 ≤ s.length := by omega
    have HP := Lib.hid hp; clear hp
    go_enter Try.func70, Try.ntmps70
    go_wp2_with (first | (go_at_call 84; refine (rd_dead0 H.out).mono ?_; rintro e w' ⟨rfl, rfl⟩) | (go_at_call 81; refine (width_uint32 _).mono ?_; rintro e w' ⟨rfl, rfl⟩) | (go_at_call 85; refine (rd_left _ _ _ _ _ H.out hs hp').mono ?_; rintro e w' ⟨rfl, nq, rfl⟩))
    go_loopw [4, 5, 20] (fun x _ i wr => ∃ k X : Nat, k ≤ 4 ∧ i = .int .i64 k ∧ x = .int .u64 X ∧ Hid (X = be ((s.drop p).take k) 0) ∧ ∃ nn, wr = w.drewN nn) (fun _ _ i _ => 4 - (intOf i).toNat)
    case atStart => exact ⟨0, 0, by omega, rfl, rfl, rfl, _, rfl⟩
    case round =>
      obtain ⟨k, X, hk, rfl, rfl, HX, nn, rfl⟩ := hrel
      have hb := be_lt ((s.drop p).take k)
      rw [← HX.out, List.length_take, List.length_drop, show min k (s.length - p) = k by omega] at hb
      have hX : X < 256 ^ 4 := Nat.lt_of_lt_of_le hb (Nat.pow_le_pow_right (by omega) hk)
      by_cases hkn : k = 4
      · subst hkn
        clear hb
        have hXb : X < 4294967296 := by omega
        clear hX
        go_wp2
        go_ret
        rw [hr.out, HL.out, ← HX.out]
        exact ⟨rfl, ((Kp.refl _ _).drewN _).setCell _ (.inr (by simp)), p + 4, by simp; omega, by simp, RdAt.setAt (w := w.drewN _) (Blk.drewN H.out _) _⟩
      · have hkl : k < 4 := by omega
        have hX2 : X < 256 ^ 3 := Nat.lt_of_lt_of_le hb (Nat.pow_le_pow_right (by omega) (by omega))
        clear hb hX
        have e1 : IntKind.i64.wrap ((p : Int) + k) = p + k := IntWalk.i64_in _ (by omega)
        have e2 : (0 : Int) ≤ p + k := by omega
        have e3 : ((p : Int) + k).toNat = p + k := by omega
        have e4 : p + k < s.length := by omega
        obtain ⟨c, hcell, hsc, hc⟩ := byte_at s (p + k) e4
        have HS := Lib.hid hsc; clear hsc
        have e5 : bits .or .u64 ((X : Int) * 256) (c : Int) = ((X * 256 + c : Nat) : Int) := by
          have : X * 256 + 256 ≤ 4294967296 := by omega
          rw [show (X : Int) * 256 = ((X * 2 ^ 8 : Nat) : Int) by omega, u64_or_nat _ _ (by omega) (by omega), Nat.or_comm, or_shift _ _ _ (by omega), Nat.add_comm]
        go_wp2
        go_quiet (fail)
        clear e1 e2 e3
        go_wp2
        go_roundw
        case rel => exact ⟨k + 1, X * 256 + c, by omega, by go_num, by first | rfl | rw [e5], by show _ = _; rw [HX.out, List.take_add_one, List.getElem?_drop, List.getElem?_eq_getElem e4, be_app, ← HS.out]; rfl, _, rfl⟩
        case measure => simp [intOf]; omega
  · have hr : Hid (takeP 4 l = none) := by show _ = _; simp [takeP, hle]
    have hlt : (s.length : Int) - p < 4 := by omega
    go_enter Try.func70, Try.ntmps70
    go_wp2_with (first | (go_at_call 84; refine (rd_dead0 H.out).mono ?_; rintro e w' ⟨rfl, rfl⟩) | (go_at_call 81; refine (width_uint32 _).mono ?_; rintro e w' ⟨rfl, rfl⟩) | (go_at_call 85; refine (rd_left _ _ _ _ _ H.out hs hp').mono ?_; rintro e w' ⟨rfl, nq, rfl⟩) | (go_at_call 86; refine (rd_fail _ _ _ _ _ _ _ (Blk.drewN H.out _)).mono ?_; rintro e w' ⟨rfl, hk1, hr1⟩))
    go_ret
    rw [hr.out]
    exact ⟨rfl, ((Kp.refl _ _).drewN _).trans hk1, hr1.bad (by decide) hp'⟩

end Go.Proofs.Ytemicgccgcmmbaa
