/- A free number is read. -/
import Derived.Test.YtemicgccgcmmbaaRd
namespace Go.Proofs.Ytemicgccgcmmbaa
set_option linter.unusedVariables false
set_option linter.unusedSimpArgs false
open Go Go.RowKit

set_option maxHeartbeats 2000000 in
set_option maxRecDepth 100000 in
theorem rd_free (b : Nat) (s l : Bs) (m : Nat) (w : World) (h : RdOk w b s l) (hs : s.length ≤ 140737488351232) (hm : m < 18446744073709551616) :
    Calls Try.prog 87 #[.pointer (some ⟨b, 0, none⟩), .int .u64 m] w (FreePost w b s (freeP m l)) := by
  obtain ⟨p, hp, hl, h⟩ := h
  obtain ⟨c0, c1, c2, c3⟩ := h.cells
  have f2 := Blk.frozen h 2
  have f3 := Blk.frozen h 3
  have H := Lib.hid h; clear h
  have HL := Lib.hid hl; clear hl
  have hp' : p ≤ s.length := by omega
  have HP := Lib.hid hp; clear hp
  go_enter Try.func87, Try.ntmps87
  go_wp2_with (go_at_call 84; refine (rd_dead0 H.out).mono ?_; rintro e w' ⟨rfl, rfl⟩)
  go_loop [5, 6, 7] (fun n q k => ∃ n' q' k' : Nat, n = .int .u64 n' ∧ q = .int .i64 q' ∧ k = .int .u64 k' ∧ k' ≤ 63 ∧ k' % 7 = 0 ∧ Hid (n' < 2 ^ k') ∧ p ≤ q' ∧ q' ≤ s.length ∧ Hid (vrd l 0 0 = vrd (s.drop q') k' n')) (fun _ q _ => s.length - (intOf q).toNat)
  case atStart => exact ⟨0, p, 0, rfl, rfl, rfl, by omega, by omega, by show 0 < 2 ^ 0; omega, by omega, hp', by show _ = _; rw [HL.out]⟩
  case round =>
    obtain ⟨n', q', k', rfl, rfl, rfl, hk, h7, HN, hq, hqs, HV⟩ := hrel
    by_cases he : q' = s.length
    · subst he
      go_wp2_with (go_at_call 86; refine (rd_fail _ _ _ _ _ _ _ H.out).mono ?_; rintro e w' ⟨rfl, hk1, hr1⟩)
      go_ret
      have : freeP m l = none := by unfold freeP; rw [HV.out]; simp [vrd]
      rw [this]
      exact ⟨rfl, hk1, hr1.bad (by decide) hp'⟩
    · have hlt : q' < s.length := by omega
      have hd := Lib.hid (drop_cons hlt)
      obtain ⟨c, hcell, hsc, hc⟩ := byte_at s q' hlt
      have HS := Lib.hid hsc; clear hsc
      by_cases ht : (k' = 63 ∧ 1 < c) ∨ (0 < k' ∧ c = 0)
      · have HO := Lib.hid (free_none (m := m) (HV.out.trans (by rw [hd.out])) (by rw [HS.out]; exact ht))
        rcases ht with ⟨rfl, ht⟩ | ⟨hk0, rfl⟩
        · go_wp2_with (go_at_call 86; refine (rd_fail _ _ _ _ _ _ _ H.out).mono ?_; rintro e w' ⟨rfl, hk1, hr1⟩)
          go_ret
          rw [HO.out]; exact ⟨rfl, hk1, hr1.bad (by decide) hp'⟩
        · have hk63 : k' = 63 ∨ k' < 63 := by omega
          rcases hk63 with rfl | hk63
          all_goals
            go_wp2_with (go_at_call 86; refine (rd_fail _ _ _ _ _ _ _ H.out).mono ?_; rintro e w' ⟨rfl, hk1, hr1⟩)
            go_ret
            rw [HO.out]; exact ⟨rfl, hk1, hr1.bad (by decide) hp'⟩
      · have HG := Lib.hid (gather n' c k' HN.out h7 hk hc (by omega))
        have HT := Lib.hid ht
        obtain ⟨z, hz⟩ : ∃ z, z = n' + c % 128 * 2 ^ k' := ⟨_, rfl⟩
        have HZ := Lib.hid hz; clear hz
        have hz64 : z < 18446744073709551616 := by rw [HZ.out]; exact HG.out.2
        have hor := HG.out.1
        rw [← HZ.out] at hor
        by_cases hlo : c < 128
        · have HF := Lib.hid (free_some (m := m) (HV.out.trans (by rw [hd.out])) (by rw [HS.out]; exact ht) (by rw [HS.out]; exact hlo))
          have h3 : (((k' : Int) == 63) = true ∧ c ≤ 1 ∧ 0 < c ∧ 0 < k') ∨ (((k' : Int) == 63) = false ∧ 0 < k' ∧ 0 < c) ∨ (((k' : Int) == 63) = false ∧ ¬ 0 < k') := by simp only [beq_iff_eq, beq_eq_false_iff_ne]; omega
          by_cases hzm : z ≤ m
          · rw [HS.out, ← HZ.out, if_pos hzm] at HF
            have hzm' : ¬ m < z := by omega
            rcases h3 with ⟨h4, h5, h6, h7'⟩ | ⟨h4, h5, h6⟩ | ⟨h4, h5⟩
            all_goals
              try (have h8 : ((c : Int) == 0) = false := by simp only [beq_eq_false_iff_ne]; omega)
              go_wp2_with fail
              go_ret
              rw [HF.out]
              exact ⟨rfl, (Kp.refl _ _).setCell _ (.inr (by simp)), q' + 1, by simp; omega, rfl, H.out.setAt _⟩
          · rw [HS.out, ← HZ.out, if_neg hzm] at HF
            have hzm' : m < z := by omega
            rcases h3 with ⟨h4, h5, h6, h7'⟩ | ⟨h4, h5, h6⟩ | ⟨h4, h5⟩
            all_goals
              try (have h8 : ((c : Int) == 0) = false := by simp only [beq_eq_false_iff_ne]; omega)
              go_wp2_with (go_at_call 86; refine (rd_fail _ _ _ _ _ _ _ H.out).mono ?_; rintro e w' ⟨rfl, hk1, hr1⟩)
              go_ret
              rw [HF.out]; exact ⟨rfl, hk1, hr1.bad (by decide) hp'⟩
        · have h3 : (((k' : Int) == 63) = false ∧ k' < 63 ∧ 0 < k' ∧ 0 < c) ∨ (((k' : Int) == 63) = false ∧ k' < 63 ∧ ¬ 0 < k') := by simp only [beq_iff_eq, beq_eq_false_iff_ne]; omega
          have HF := Lib.hid (free_step (HV.out.trans (by rw [hd.out])) (by rw [HS.out]; exact ht) (by rw [HS.out]; omega))
          have HX := Lib.hid (gather_lt n' c k' HN.out)
          rcases h3 with ⟨h4', h4, h5, h6⟩ | ⟨h4', h4, h5⟩
          all_goals
            go_wp2_with fail
            go_round
            case rel => exact ⟨z, q' + 1, k' + 7, rfl, by go_num, by go_num, by omega, by omega, by rw [HZ.out]; exact HX.out, by omega, by omega, by show _ = _; rw [HF.out, HS.out, HZ.out]⟩
            case measure => simp [intOf]; omega
end Go.Proofs.Ytemicgccgcmmbaa
