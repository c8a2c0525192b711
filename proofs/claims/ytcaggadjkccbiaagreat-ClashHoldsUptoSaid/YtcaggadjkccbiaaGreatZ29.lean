/- A reader is opened; what stands at its end. -/
import Derived.Test.YtcaggadjkccbiaaGreatZ26
namespace Go.Proofs.YtcaggadjkccbiaaGreat
set_option linter.unusedVariables false
set_option linter.unusedSimpArgs false
open Go Go.RowKit

set_option maxHeartbeats 1000000 in set_option maxRecDepth 100000 in
theorem open_any (s : Bs) (w : World) : Calls Tryz.prog 85 #[.string ⟨s.toArray⟩] w fun e w' => e = .returned (.pointer (some ⟨w.heap.size, 0, none⟩)) ∧ w' = w.alloc (.cells #[.bool true, .string ⟨s.toArray⟩, .int .i64 0, .int .i64 0] 179) := by
  go_enter Tryz.func85, Tryz.ntmps85
  go_wp2
  go_ret
  exact ⟨rfl, rfl⟩
theorem open_st (s : Bs) (w : World) : RdOk (w.alloc (.cells #[.bool true, .string ⟨s.toArray⟩, .int .i64 0, .int .i64 0] 179)) w.heap.size s s :=
  ⟨0, by simp, by simp, Blk.new w _ _⟩

set_option maxHeartbeats 1000000 in set_option maxRecDepth 100000 in
theorem fault_none (b : Nat) (s l : Bs) (w : World) (h : RdOk w b s l) : Calls Tryz.prog 127 #[.pointer (some ⟨b, 0, none⟩)] w fun e w' => e = .returned (.pointer none) ∧ w = w' := by
  obtain ⟨p, hp, hl, h⟩ := h
  obtain ⟨c0, c1, c2, c3⟩ := h.cells
  clear h hl
  go_enter Tryz.func127, Tryz.ntmps127
  go_wp2
  go_ret
  exact ⟨rfl, rfl⟩

set_option maxHeartbeats 1000000 in set_option maxRecDepth 100000 in
theorem fault_some (b : Nat) (s : Bs) (w : World) (h : RdBad w b s) : Calls Tryz.prog 127 #[.pointer (some ⟨b, 0, none⟩)] w fun e w' => ∃ g, e = .returned (.pointer (some ⟨g, 0, none⟩)) ∧ Kp [] w w' := by
  obtain ⟨p, f, hf, hp, h⟩ := h
  obtain ⟨c0, c1, c2, c3⟩ := h.cells
  have hf' : (f == 0) = false := by simpa using hf
  have hl := h.lt
  clear h hf
  go_enter Tryz.func127, Tryz.ntmps127
  go_wp2
  have sk := Lib.hid (show ∀ (W : World), Kp [] w W → (W.cell? ⟨b, 2, none⟩ = some (.int .i64 p) ∧ W.cell? ⟨b, 3, none⟩ = some (.int .i64 f)) from fun W k => ⟨k.cell c2 (by simp), k.cell c3 (by simp)⟩)
  go_region_held3 (fun W => W.cell? ⟨b, 2, none⟩ = some (.int .i64 p) ∧ W.cell? ⟨b, 3, none⟩ = some (.int .i64 f)) (first | exact sk.out _ ((Kp.refl [] w).drew) | exact sk.out _ (((Kp.refl [] w).drew).alloc _)) (fail)
  go_wp2
  go_ret
  exact ⟨_, rfl, ((Kp.refl [] w).drew).alloc _⟩

set_option maxHeartbeats 1000000 in set_option maxRecDepth 100000 in
theorem end_ok (b : Nat) (s : Bs) (w : World) (hs : s.length ≤ 140737488351232) (h : RdOk w b s []) : Calls Tryz.prog 89 #[.pointer (some ⟨b, 0, none⟩)] w fun e w' => e = .returned .nilIface ∧ Kp [] w w' := by
  have HO := Lib.hid h
  obtain ⟨p, hp, hl, h⟩ := h
  obtain ⟨c0, c1, c2, c3⟩ := h.cells
  have H := Lib.hid h
  clear h hl
  simp only [List.length_nil, Nat.add_zero] at hp
  subst hp
  go_enter Tryz.func89, Tryz.ntmps89
  go_wp2_with (first | (go_at_call 127; refine (fault_none _ _ _ _ HO.out).mono ?_; rintro e w' ⟨rfl, rfl⟩) | (go_at_call 124; refine (rd_left _ _ _ _ _ H.out hs (Nat.le_refl _)).mono ?_; rintro e w' ⟨rfl, nq, rfl⟩))
  go_ret
  exact ⟨rfl, (Kp.refl [] w).drewN _⟩

def EndBad (w : World) (e : Ending) (w' : World) : Prop := ∃ g, e = .returned (.iface 180 (.pointer (some ⟨g, 0, none⟩))) ∧ Kp [] w w'

set_option maxHeartbeats 1000000 in set_option maxRecDepth 100000 in
theorem end_rest (b : Nat) (s l : Bs) (w : World) (hs : s.length ≤ 140737488351232) (h : RdOk w b s l) (hne : l ≠ []) : Calls Tryz.prog 89 #[.pointer (some ⟨b, 0, none⟩)] w (EndBad w) := by
  have HO := Lib.hid h
  obtain ⟨p, hp, hl, h⟩ := h
  obtain ⟨c0, c1, c2, c3⟩ := h.cells
  have H := Lib.hid h
  have hll : 1 ≤ l.length := by cases l; exact absurd rfl hne; simp
  have hp' : p ≤ s.length := by omega
  clear h hl hne
  go_enter Tryz.func89, Tryz.ntmps89
  go_wp2_with (first | (go_at_call 127; refine (fault_none _ _ _ _ HO.out).mono ?_; rintro e w' ⟨rfl, rfl⟩) | (go_at_call 124; refine (rd_left _ _ _ _ _ H.out hs hp').mono ?_; rintro e w' ⟨rfl, nq, rfl⟩))
  go_ret
  exact ⟨_, rfl, ((Kp.refl [] w).drewN _).alloc _⟩

set_option maxHeartbeats 1000000 in set_option maxRecDepth 100000 in
theorem end_bad (b : Nat) (s : Bs) (w : World) (h : RdBad w b s) : Calls Tryz.prog 89 #[.pointer (some ⟨b, 0, none⟩)] w (EndBad w) := by
  have HO := Lib.hid h
  obtain ⟨p, f, hf, hp, h⟩ := h
  obtain ⟨c0, c1, c2, c3⟩ := h.cells
  clear h hf
  go_enter Tryz.func89, Tryz.ntmps89
  go_wp2_with (first | (go_at_call 127; refine (fault_some _ _ _ HO.out).mono ?_; rintro e w' ⟨g, rfl, k1⟩))
  go_ret
  exact ⟨_, rfl, k1⟩

end Go.Proofs.YtcaggadjkccbiaaGreat
