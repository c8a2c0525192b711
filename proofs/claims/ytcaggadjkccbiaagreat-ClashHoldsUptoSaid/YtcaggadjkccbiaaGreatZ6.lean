/- A digest is read; what stands at a reader's end. -/
import Derived.Test.YtcaggadjkccbiaaGreatZ5
import Derived.Test.YtcaggadjkccbiaaGreatZ1
import Derived.Deep.RegionHeld3
namespace Go.Proofs.YtcaggadjkccbiaaGreat
set_option linter.unusedVariables false
set_option linter.unusedSimpArgs false
open Go Go.RowKit

set_option maxHeartbeats 400000 in
theorem into_any (n : Int) (w : World) (h1 : 0 ≤ n) (h2 : n ≤ 32) : Calls Tryz.prog 158 #[.int .i64 n] w fun e w' => e = .returned (.int .i64 n) ∧ w = w' := by
  go_enter Tryz.func158, Tryz.ntmps158
  go_wp2
  all_goals
    go_ret
    exact ⟨ret_int (by omega), rfl⟩

def DgPost (w : World) (b : Nat) (s : Bs) (r : Option (Bs × Bs)) (e : Ending) (w' : World) : Prop :=
  match r with
  | some (t, l') => e = .returned (.agg (Dg.pad t).c) ∧ Kp [b] w w' ∧ RdOk w' b s l'
  | none => e = .returned (.agg Dg.zero.c) ∧ Kp [b] w w' ∧ RdBad w' b s

/-- A digest that stands in a block of its own is handed back. -/
theorem dg_ret {fn : Func} {R : Ending → World → Prop} {a : Act} {w : World} {p : Tmp} {g : Nat} {t : TypeId} {d : Dg} (hr : fn.results = #[.cell p 36]) (hp : a.tmps.getD p undef = .pointer (some ⟨g, 0, none⟩)) (hg : Blk w g t d.c) (hd : a.defers = []) (hR : R (.returned (.agg d.c)) w) :
    bodyPost Tryz.prog fn R .ret a w :=
  bodyPost_ret (results_cell_row hr a.tmps w g t d.c (0, 0) _ hp hg Tryz.underlying36 rfl (by rw [Dg.c_size]; kernel_rfl)) hd hR

theorem two_new (w : World) (t : TypeId) (c : Array Value) : Hid (Blk (((w.alloc (.cells c t)).alloc (.cells c t)).drew) w.heap.size t c) ∧ Hid (Blk (((w.alloc (.cells c t)).alloc (.cells c t)).drew) (w.heap.size + 1) t c) :=
  ⟨((Blk.new w t c).alloc _).drew, Blk.drew (by have := Blk.new (w.alloc (.cells c t)) t c; simpa using this)⟩

set_option maxHeartbeats 1000000 in
set_option maxRecDepth 100000 in
theorem rd_digest (b n : Nat) (s l : Bs) (w : World) (h : RdOk w b s l) (hs : s.length ≤ 140737488351232) (hn : n ≤ 32) :
    Calls Tryz.prog 140 #[.pointer (some ⟨b, 0, none⟩), .int .i64 n] w (DgPost w b s (rawP n l)) := by
  have hb := h.lt
  have H := Lib.hid h; clear h
  have hn' : n ≤ 9223372036854775807 := by omega
  obtain ⟨B4, B5⟩ := two_new w 36 Dg.zero.c
  rcases hr : rawP n l with _ | ⟨t, l'⟩
  · have HR := Lib.hid hr; clear hr
    go_enter Tryz.func140, Tryz.ntmps140
    go_wp2
    go_region_held3 (fun _ => True) (trivial) (first | (go_at_call 158; refine (into_any _ _ (by omega) (by omega)).mono ?_; rintro e w' ⟨rfl, rfl⟩) | (go_at_call 126; refine (rd_raw _ _ _ _ _ (H.out.kp ((((Kp.refl [] _).alloc _).alloc _).drew) (by simp)) hs hn').mono ?_; rintro e w1 h1; rw [HR.out] at h1; obtain ⟨rfl, hk1, hr1⟩ := h1; have HR1 := Lib.hid hr1; clear hr1; have b4 := Lib.hid (B4.out.kp hk1 (by simp; omega)); have b5 := Lib.hid (B5.out.kp hk1 (by simp; omega)); have o4 := own?_blk b4.out; have o5 := own?_blk b5.out; have hz : w.heap.size + 1 < w1.heap.size := by have := hk1.size; simp at this; omega))
    go_wp2
    refine dg_ret rfl rfl (((b4.out.setRow_other (g := w.heap.size + 1) _ (by omega)).setRow _)) rfl ⟨rfl, ?_, HR1.out.kp (((Kp.refl [w.heap.size, w.heap.size + 1] _).setRow _ _ (by simp)).setRow _ _ (by simp)) (by simp; omega)⟩
    exact (((((Kp.refl [b] w).alloc _).alloc _).drew.trans hk1).setRow _ _ (.inl (by omega))).setRow _ _ (.inl (by omega))
  · have HR := Lib.hid hr; clear hr
    go_enter Tryz.func140, Tryz.ntmps140
    go_wp2
    go_region_held3 (fun _ => True) (trivial) (first | (go_at_call 158; refine (into_any _ _ (by omega) (by omega)).mono ?_; rintro e w' ⟨rfl, rfl⟩) | (go_at_call 126; refine (rd_raw _ _ _ _ _ (H.out.kp ((((Kp.refl [] _).alloc _).alloc _).drew) (by simp)) hs hn').mono ?_; rintro e w1 h1; rw [HR.out] at h1; obtain ⟨rfl, hk1, hr1⟩ := h1; have HR1 := Lib.hid hr1; clear hr1; have b4 := Lib.hid (B4.out.kp hk1 (by simp; omega)); have b5 := Lib.hid (B5.out.kp hk1 (by simp; omega)); have o4 := own?_blk b4.out; have o5 := own?_blk b5.out; have hz : w.heap.size + 1 < w1.heap.size := by have := hk1.size; simp at this; omega))
    go_wp2
    refine dg_ret rfl rfl (((b4.out.setRow_other (g := w.heap.size + 1) _ (by omega)).setRow _)) rfl ⟨rfl, ?_, HR1.out.kp (((Kp.refl [w.heap.size, w.heap.size + 1] _).setRow _ _ (by simp)).setRow _ _ (by simp)) (by simp; omega)⟩
    exact (((((Kp.refl [b] w).alloc _).alloc _).drew.trans hk1).setRow _ _ (.inl (by omega))).setRow _ _ (.inl (by omega))

set_option maxHeartbeats 1000000 in
set_option maxRecDepth 100000 in
theorem rd_digest_bad (b n : Nat) (s : Bs) (w : World) (h : RdBad w b s) (hn : n ≤ 32) :
    Calls Tryz.prog 140 #[.pointer (some ⟨b, 0, none⟩), .int .i64 n] w fun e w' => e = .returned (.agg Dg.zero.c) ∧ Kp [] w w' := by
  have hb := h.lt
  have H := Lib.hid h; clear h
  obtain ⟨B4, B5⟩ := two_new w 36 Dg.zero.c
  go_enter Tryz.func140, Tryz.ntmps140
  go_wp2
  go_region_held3 (fun _ => True) (trivial) (first | (go_at_call 158; refine (into_any _ _ (by omega) (by omega)).mono ?_; rintro e w' ⟨rfl, rfl⟩) | (go_at_call 126; refine (rd_raw_bad _ _ _ _ (H.out.kp ((((Kp.refl [] _).alloc _).alloc _).drew) (by simp))).mono ?_; rintro e w1 ⟨rfl, rfl⟩))
  go_wp2
  exact dg_ret rfl rfl B4.out rfl ⟨rfl, ((((Kp.refl [] w).alloc _).alloc _).drew)⟩

end Go.Proofs.YtcaggadjkccbiaaGreat
