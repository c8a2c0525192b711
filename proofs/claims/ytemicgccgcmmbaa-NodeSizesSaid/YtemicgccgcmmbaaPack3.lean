/- Pack, in every case. -/
import Derived.Test.YtemicgccgcmmbaaPack2
namespace Go.Proofs.Ytemicgccgcmmbaa
set_option linter.unusedVariables false
set_option linter.unusedSimpArgs false
open Go Go.RowKit

set_option maxHeartbeats 1000000 in set_option maxRecDepth 100000 in
theorem Pack_empty (p wd : Int) (pa sa ka : Option Addr) (pc sc kc : Nat) (n : Nd) (w : World) (he : checkE p wd n = 0 ∧ leafB n = true ∧ n.pairs.length = 0) (h : NdAt w pa sa ka n) (ho : NdOk n) :
    Calls Try.prog 14 #[.agg #[.int .i64 p, .int .i64 wd], .agg #[.slice pa n.pairs.length pc, .slice sa n.seps.length sc, .slice ka n.kids.length kc]] w (Rets2 (packS p wd n) (packE p wd n) w) := by
  have h1 : packE p wd n = 70 := by unfold packE; rw [if_pos he]
  have h2 : packS p wd n = [] := by unfold packS; rw [h1]; rfl
  have H1 := Lib.hid h1; have H2 := Lib.hid h2
  obtain ⟨hc, hl, hp⟩ := he
  have hl' : (decide (n.seps.length = 0 ∧ n.kids.length = 0)) = leafB n := rfl
  rw [hl] at hl'
  have hp' : ((n.pairs.length : Int) == 0) = true := by rw [hp]; rfl
  have HL := Lib.hid hl'; have HC := Lib.hid hc; have H := Lib.hid h; have HO := Lib.hid ho
  clear h1 h2 hc hl hp hl' h ho
  go_enter Try.func14, Try.ntmps14
  go_wp2_with fail
  refine (check_any _ _ _ _ _ _ _ _ n _ (H.out.kp0 (((Kp.refl [] _).alloc _).alloc _)) HO.out).mono ?_
  rintro e w' ⟨rfl, bs, m, rfl⟩
  rw [HC.out]
  go_wp2_with fail
  refine (isLeaf_any _ _ _ _ _ _ _ _ _ _).mono ?_
  rintro e w' ⟨rfl, bs1, m1, rfl⟩
  rw [HL.out]
  go_wp2_with fail
  go_ret2
  rw [H1.out, H2.out]
  exact ⟨rfl, by (try simp only [alloc_ext, drew_ext, drewN_ext, ext_ext]); exact ⟨_, _, rfl⟩⟩

set_option maxHeartbeats 1000000 in set_option maxRecDepth 100000 in
theorem Pack_not (p wd : Int) (pa sa ka : Option Addr) (pc sc kc : Nat) (n : Nd) (w : World) (hm : mayE p wd n ≠ 0) (hne : ¬ (checkE p wd n = 0 ∧ leafB n = true ∧ n.pairs.length = 0)) (h : NdAt w pa sa ka n) (ho : NdOk n) :
    Calls Try.prog 14 #[.agg #[.int .i64 p, .int .i64 wd], .agg #[.slice pa n.pairs.length pc, .slice sa n.seps.length sc, .slice ka n.kids.length kc]] w (Rets2 (packS p wd n) (packE p wd n) w) := by
  have h1 : packE p wd n = mayE p wd n := by unfold packE; rw [if_neg hne, if_neg hm]
  have h2 : packS p wd n = [] := by unfold packS; rw [h1, if_neg hm]
  have hcases : (checkE p wd n ≠ 0) ∨ (checkE p wd n = 0 ∧ leafB n = false) ∨ (checkE p wd n = 0 ∧ leafB n = true ∧ ((n.pairs.length : Int) == 0) = false) := by
    by_cases hc : checkE p wd n = 0
    · right
      cases hl : leafB n
      · exact .inl ⟨hc, rfl⟩
      · exact .inr ⟨hc, rfl, by simp only [beq_eq_false_iff_ne]; intro e; exact hne ⟨hc, hl, by omega⟩⟩
    · exact .inl hc
  obtain ⟨m0, hm0⟩ : ∃ m0, mayE p wd n = m0 := ⟨_, rfl⟩
  rw [hm0] at hm h1
  have hmb : (m0 != 0) = true := by simpa using hm
  have H1 := Lib.hid h1; have H2 := Lib.hid h2; have HM := Lib.hid hm0; have H := Lib.hid h; have HO := Lib.hid ho
  clear h1 h2 hne h ho hm hm0
  rcases hcases with hc | hc
  · obtain ⟨c, hc0⟩ : ∃ c, checkE p wd n = c := ⟨_, rfl⟩
    rw [hc0] at hc
    have hb : (c == 0) = false := by simpa using hc
    have HC := Lib.hid hc0; clear hc0 hc
    go_enter Try.func14, Try.ntmps14
    go_wp2_with fail
    refine (check_any _ _ _ _ _ _ _ _ n _ (H.out.kp0 (((Kp.refl [] _).alloc _).alloc _)) HO.out).mono ?_
    rintro e w' ⟨rfl, bs, m, rfl⟩
    rw [HC.out]
    go_wp2_with fail
    refine (may_any _ _ _ _ _ _ _ _ n _ (H.out.kp0 ((((Kp.refl [] _).alloc _).alloc _).ext _ _)) HO.out).mono ?_
    rintro e w' ⟨rfl, bs2, m2, rfl⟩
    rw [HM.out]
    go_wp2_with fail
    go_ret2
    rw [H1.out, H2.out]
    exact ⟨rfl, by (try simp only [alloc_ext, drew_ext, drewN_ext, ext_ext]); exact ⟨_, _, rfl⟩⟩
  · have hc0 : checkE p wd n = 0 := by rcases hc with h | h <;> exact h.1
    have HC := Lib.hid hc0; clear hc0
    rcases hc with ⟨_, hl⟩ | ⟨_, hl, hp⟩
    all_goals
      have hl' : (decide (n.seps.length = 0 ∧ n.kids.length = 0)) = leafB n := rfl
      rw [hl] at hl'
      have HL := Lib.hid hl'; clear hl hl'
      go_enter Try.func14, Try.ntmps14
      go_wp2_with fail
      refine (check_any _ _ _ _ _ _ _ _ n _ (H.out.kp0 (((Kp.refl [] _).alloc _).alloc _)) HO.out).mono ?_
      rintro e w' ⟨rfl, bs, m, rfl⟩
      rw [HC.out]
      go_wp2_with fail
      refine (isLeaf_any _ _ _ _ _ _ _ _ _ _).mono ?_
      rintro e w' ⟨rfl, bs1, m1, rfl⟩
      rw [HL.out]
      go_wp2_with fail
      refine (may_any _ _ _ _ _ _ _ _ n _ (H.out.kp0 ((((Kp.refl [] _).alloc _).alloc _).ext _ _)) HO.out).mono ?_
      rintro e w' ⟨rfl, bs2, m2, rfl⟩
      rw [HM.out]
      go_wp2_with fail
      go_ret2
      rw [H1.out, H2.out]
      exact ⟨rfl, by (try simp only [alloc_ext, drew_ext, drewN_ext, ext_ext]); exact ⟨_, _, rfl⟩⟩

theorem Pack_any (p wd : Int) (pa sa ka : Option Addr) (pc sc kc : Nat) (n : Nd) (w : World) (h : NdAt w pa sa ka n) (ho : NdOk n) :
    Calls Try.prog 14 #[.agg #[.int .i64 p, .int .i64 wd], .agg #[.slice pa n.pairs.length pc, .slice sa n.seps.length sc, .slice ka n.kids.length kc]] w (Rets2 (packS p wd n) (packE p wd n) w) := by
  by_cases he : checkE p wd n = 0 ∧ leafB n = true ∧ n.pairs.length = 0
  · exact Pack_empty p wd pa sa ka pc sc kc n w he h ho
  · by_cases hm : mayE p wd n = 0
    · have hr := rightB_iff.1 (checkE_ok (mayE_ok hm).1).1
      obtain ⟨d, rfl⟩ := Int.eq_ofNat_of_zero_le (show 0 ≤ wd by omega)
      obtain ⟨q, rfl⟩ := Int.eq_ofNat_of_zero_le (show 0 ≤ p by omega)
      exact Pack_rest q d pa sa ka pc sc kc n w hm he h ho
    · exact Pack_not p wd pa sa ka pc sc kc n w hm he h ho

end Go.Proofs.Ytemicgccgcmmbaa
