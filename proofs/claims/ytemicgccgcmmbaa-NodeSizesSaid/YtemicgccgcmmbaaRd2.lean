/- The reader's further methods. -/
import Derived.Test.YtemicgccgcmmbaaFree
namespace Go.Proofs.Ytemicgccgcmmbaa
set_option linter.unusedVariables false
set_option linter.unusedSimpArgs false
open Go Go.RowKit

def StrPost (w : World) (b : Nat) (s : Bs) (r : Option (Bs × Bs)) (e : Ending) (w' : World) : Prop :=
  match r with
  | some (t, l') => e = .returned (.string ⟨t.toArray⟩) ∧ Kp [b] w w' ∧ RdOk w' b s l'
  | none => e = .returned (.string ⟨#[]⟩) ∧ Kp [b] w w' ∧ RdBad w' b s

theorem ext_drop (s : Bs) (p n : Nat) : ByteArray.extract ⟨s.toArray⟩ p (p + n) = ⟨((s.drop p).take n).toArray⟩ := by
  apply ByteArray.ext
  rw [ByteArray.data_extract]
  apply Array.ext'
  simp [List.extract_eq_take_drop]

set_option maxHeartbeats 400000 in
theorem rd_raw_bad (b : Nat) (s : Bs) (n : Int) (w : World) (h : RdBad w b s) :
    Calls Try.prog 88 #[.pointer (some ⟨b, 0, none⟩), .int .i64 n] w fun e w' => e = .returned (.string ⟨#[]⟩) ∧ w = w' := by
  obtain ⟨p, f, hf, hp, h⟩ := h
  have H := Lib.hid h; have HF := Lib.hid hf; clear h hf
  go_enter Try.func88, Try.ntmps88
  go_wp2_with (go_at_call 84; refine (rd_dead1 H.out HF.out).mono ?_; rintro e w' ⟨rfl, rfl⟩)
  go_ret
  exact ⟨rfl, rfl⟩

set_option maxHeartbeats 1000000 in
theorem rd_raw (b n : Nat) (s l : Bs) (w : World) (h : RdOk w b s l) (hs : s.length ≤ 140737488351232) (hn : n ≤ 9223372036854775807) :
    Calls Try.prog 88 #[.pointer (some ⟨b, 0, none⟩), .int .i64 n] w (StrPost w b s (rawP n l)) := by
  obtain ⟨p, hp, hl, h⟩ := h
  obtain ⟨c0, c1, c2, c3⟩ := h.cells
  have f2 := Blk.frozen h 2
  have f3 := Blk.frozen h 3
  have H := Lib.hid h; clear h
  have HL := Lib.hid hl; clear hl
  have hp' : p ≤ s.length := by omega
  by_cases h0 : n = 0
  · subst h0
    go_enter Try.func88, Try.ntmps88
    go_wp2_with (go_at_call 84; refine (rd_dead0 H.out).mono ?_; rintro e w' ⟨rfl, rfl⟩)
    go_ret
    exact ⟨rfl, Kp.refl _ _, p, by simpa using hp, by simpa using HL.out, H.out⟩
  · have h1 : 1 ≤ n := by omega
    by_cases hle : n ≤ l.length
    · have hr : Hid (rawP n l = some (l.take n, l.drop n)) := by show _ = _; simp [rawP, hle]
      have hpn : p + n ≤ s.length := by omega
      have HP := Lib.hid hp; clear hp
      have hlt : ¬ ((s.length : Int) - p < n) := by omega
      go_enter Try.func88, Try.ntmps88
      go_wp2_with (first | (go_at_call 84; refine (rd_dead0 H.out).mono ?_; rintro e w' ⟨rfl, rfl⟩) | (go_at_call 85; refine (rd_left _ _ _ _ _ H.out hs hp').mono ?_; rintro e w' ⟨rfl, nq, rfl⟩))
      go_quiet (fail)
      go_wp2
      go_ret
      rw [hr.out]
      refine ⟨?_, ((Kp.refl _ _).drewN _).setCell _ (.inr (by simp)), p + n, by simp; have := HP.out; omega, by rw [HL.out, List.drop_drop], ?_⟩
      · show Ending.returned (.string (ByteArray.extract ⟨s.toArray⟩ p (p + n))) = _
        rw [ext_drop, HL.out]
      · rw [Int.natCast_add]
        exact (RdAt.setAt (w := w.drewN _) (Blk.drewN H.out _) _)
    · have hr : Hid (rawP n l = none) := by show _ = _; simp [rawP, hle]
      have hlt : (s.length : Int) - p < n := by omega
      go_enter Try.func88, Try.ntmps88
      go_wp2_with (first | (go_at_call 84; refine (rd_dead0 H.out).mono ?_; rintro e w' ⟨rfl, rfl⟩) | (go_at_call 85; refine (rd_left _ _ _ _ _ H.out hs hp').mono ?_; rintro e w' ⟨rfl, nq, rfl⟩) | (go_at_call 86; refine (rd_fail _ _ _ _ _ _ _ (Blk.drewN H.out _)).mono ?_; rintro e w' ⟨rfl, hk1, hr1⟩))
      go_ret
      rw [hr.out]
      exact ⟨rfl, ((Kp.refl _ _).drewN _).trans hk1, hr1.bad (by decide) hp'⟩

set_option maxHeartbeats 400000 in
theorem rd_text_bad (b : Nat) (s : Bs) (n : Int) (w : World) (h : RdBad w b s) :
    Calls Try.prog 67 #[.pointer (some ⟨b, 0, none⟩), .int .i64 n] w fun e w' => e = .returned (.string ⟨#[]⟩) ∧ w = w' := by
  obtain ⟨p, f, hf, hp, h⟩ := h
  have H := Lib.hid h; have HF := Lib.hid hf; clear h hf
  go_enter Try.func67, Try.ntmps67
  go_wp2_with (go_at_call 84; refine (rd_dead1 H.out HF.out).mono ?_; rintro e w' ⟨rfl, rfl⟩)
  go_ret
  exact ⟨rfl, rfl⟩

set_option maxHeartbeats 1000000 in
theorem rd_text (b m : Nat) (s l : Bs) (w : World) (h : RdOk w b s l) (hs : s.length ≤ 140737488351232) (hm0 : 0 < m) (hm : m ≤ 9223372036854775807) :
    Calls Try.prog 67 #[.pointer (some ⟨b, 0, none⟩), .int .i64 m] w (StrPost w b s (textP m l)) := by
  have hm' : m < 18446744073709551616 := by omega
  have HO := Lib.hid h
  obtain ⟨p, hp, hl, h⟩ := h
  obtain ⟨c0, c1, c2, c3⟩ := h.cells
  have H := Lib.hid h; clear h
  have HL := Lib.hid hl; clear hl
  have hp' : p ≤ s.length := by omega
  have HP := Lib.hid hp; clear hp
  rcases hf : freeP m l with _ | ⟨n, l'⟩
  · have HF := Lib.hid hf; clear hf
    have HT : Hid (textP m l = none) := by show _ = _; unfold textP; rw [HF.out]
    go_enter Try.func67, Try.ntmps67
    go_wp2_with (first | (go_at_call 84; refine (rd_dead0 H.out).mono ?_; rintro e w' ⟨rfl, rfl⟩))
    refine (rd_free _ _ _ _ _ HO.out hs hm').mono ?_
    rintro e w1 h1
    rw [HF.out] at h1
    obtain ⟨rfl, hk1, hr1⟩ := h1
    have HR := Lib.hid hr1
    obtain ⟨p', f', hf', hp1, hr1⟩ := hr1
    have H1 := Lib.hid hr1; have HF1 := Lib.hid hf'; clear hr1 hf'
    go_wp2_with (first | (go_at_call 84; refine (rd_dead1 H1.out HF1.out).mono ?_; rintro e w' ⟨rfl, rfl⟩))
    go_ret
    rw [HT.out]
    exact ⟨rfl, hk1, HR.out⟩
  · have HF := Lib.hid hf
    obtain ⟨hsuf, hlen, hnm⟩ := freeP_rest hf
    clear hf
    go_enter Try.func67, Try.ntmps67
    go_wp2_with (first | (go_at_call 84; refine (rd_dead0 H.out).mono ?_; rintro e w' ⟨rfl, rfl⟩))
    refine (rd_free _ _ _ _ _ HO.out hs hm').mono ?_
    rintro e w1 h1
    rw [HF.out] at h1
    obtain ⟨rfl, hk1, hr1⟩ := h1
    have HR := Lib.hid hr1
    obtain ⟨p', hp1, hl1, hr1⟩ := hr1
    have H1 := Lib.hid hr1; clear hr1 hl1
    have hp1' : p' ≤ s.length := by omega
    by_cases hle : n ≤ l'.length
    · have HT : Hid (textP m l = rawP n l') := by show _ = _; unfold textP; rw [HF.out]
      have hlt : ¬ ((s.length : Int) - p' < n) := by omega
      have hn63 : n ≤ 9223372036854775807 := by omega
      have HP1 := Lib.hid hp1; clear hp1
      go_wp2_with (first | (go_at_call 84; refine (rd_dead0 H1.out).mono ?_; rintro e w' ⟨rfl, rfl⟩) | (go_at_call 85; refine (rd_left _ _ _ _ _ H1.out hs hp1').mono ?_; rintro e w' ⟨rfl, nq, rfl⟩))
      refine (rd_raw _ _ _ _ _ (HR.out.kp ((Kp.refl [] _).drewN _) (by simp)) hs hn63).mono ?_
      rintro e w2 h2
      have hr : rawP n l' = some (l'.take n, l'.drop n) := by simp [rawP, hle]
      rw [hr] at h2 HT
      obtain ⟨rfl, hk2, hr2⟩ := h2
      have HR2 := Lib.hid hr2; clear hr2 hr
      go_wp2_with fail
      go_ret
      rw [HT.out]
      exact ⟨rfl, (hk1.drewN _).trans hk2, HR2.out⟩
    · have HT : Hid (textP m l = none) := by show _ = _; unfold textP; rw [HF.out]; simp [rawP, hle]
      have hlt : ((s.length : Int) - p' < n) := by omega
      have HP1 := Lib.hid hp1; clear hp1
      go_wp2_with (first | (go_at_call 84; refine (rd_dead0 H1.out).mono ?_; rintro e w' ⟨rfl, rfl⟩) | (go_at_call 85; refine (rd_left _ _ _ _ _ H1.out hs hp1').mono ?_; rintro e w' ⟨rfl, nq, rfl⟩) | (go_at_call 86; refine (rd_fail _ _ _ _ _ _ _ (Blk.drewN H1.out _)).mono ?_; rintro e w' ⟨rfl, hk2, hr2⟩))
      go_ret
      rw [HT.out]
      exact ⟨rfl, (hk1.drewN _).trans hk2, hr2.bad (by decide) hp'⟩

end Go.Proofs.Ytemicgccgcmmbaa
