/- A reader is opened; what stands at its end. -/
import Derived.Test.YtemicgccgcmmbaaGreatZ17
import Derived.Test.YtemicgccgcmmbaaGreatZ9
import Derived.Test.YtemicgccgcmmbaaGreatZ15
import Derived.Test.YtemicgccgcmmbaaGreatZ16
import Derived.Test.YtemicgccgcmmbaaGreatZ18
import Derived.Laws.Cover3
namespace Go.Proofs.YtemicgccgcmmbaaGreat
set_option linter.unusedVariables false
set_option linter.unusedSimpArgs false
open Go Go.RowKit

set_option maxHeartbeats 1000000 in set_option maxRecDepth 100000 in
theorem open_any (s : Bs) (w : World) : Calls Tryz.prog 62 #[.string ⟨s.toArray⟩] w fun e w' => e = .returned (.pointer (some ⟨w.heap.size, 0, none⟩)) ∧ w' = w.alloc (.cells #[.bool true, .string ⟨s.toArray⟩, .int .i64 0, .int .i64 0] 125) := by
  go_enter Tryz.func62, Tryz.ntmps62
  go_wp2
  go_ret
  exact ⟨rfl, rfl⟩
theorem open_st (s : Bs) (w : World) : RdOk (w.alloc (.cells #[.bool true, .string ⟨s.toArray⟩, .int .i64 0, .int .i64 0] 125)) w.heap.size s s :=
  ⟨0, by simp, by simp, Blk.new w _ _⟩

set_option maxHeartbeats 1000000 in set_option maxRecDepth 100000 in
theorem fault_none (b : Nat) (s l : Bs) (w : World) (h : RdOk w b s l) : Calls Tryz.prog 113 #[.pointer (some ⟨b, 0, none⟩)] w fun e w' => e = .returned (.pointer none) ∧ w = w' := by
  obtain ⟨p, hp, hl, h⟩ := h
  obtain ⟨c0, c1, c2, c3⟩ := h.cells
  clear h hl
  go_enter Tryz.func113, Tryz.ntmps113
  go_wp2
  go_ret
  exact ⟨rfl, rfl⟩

set_option maxHeartbeats 1000000 in set_option maxRecDepth 100000 in
theorem fault_some (b : Nat) (s : Bs) (w : World) (h : RdBad w b s) : Calls Tryz.prog 113 #[.pointer (some ⟨b, 0, none⟩)] w fun e w' => ∃ g, e = .returned (.pointer (some ⟨g, 0, none⟩)) ∧ Kp [] w w' := by
  obtain ⟨p, f, hf, hp, h⟩ := h
  obtain ⟨c0, c1, c2, c3⟩ := h.cells
  have hf' : (f == 0) = false := by simpa using hf
  have hl := h.lt
  clear h hf
  go_enter Tryz.func113, Tryz.ntmps113
  go_wp2
  have sk := Lib.hid (show ∀ (W : World), Kp [] w W → (W.cell? ⟨b, 2, none⟩ = some (.int .i64 p) ∧ W.cell? ⟨b, 3, none⟩ = some (.int .i64 f)) from fun W k => ⟨k.cell c2 (by simp), k.cell c3 (by simp)⟩)
  go_region_held3 (fun W => W.cell? ⟨b, 2, none⟩ = some (.int .i64 p) ∧ W.cell? ⟨b, 3, none⟩ = some (.int .i64 f)) (first | exact sk.out _ ((Kp.refl [] w).drew) | exact sk.out _ (((Kp.refl [] w).drew).alloc _)) (fail)
  go_wp2
  go_ret
  exact ⟨_, rfl, ((Kp.refl [] w).drew).alloc _⟩

set_option maxHeartbeats 1000000 in set_option maxRecDepth 100000 in
theorem end_ok (b : Nat) (s : Bs) (w : World) (hs : s.length ≤ 140737488351232) (h : RdOk w b s []) : Calls Tryz.prog 72 #[.pointer (some ⟨b, 0, none⟩)] w fun e w' => e = .returned .nilIface ∧ Kp [] w w' := by
  have HO := Lib.hid h
  obtain ⟨p, hp, hl, h⟩ := h
  obtain ⟨c0, c1, c2, c3⟩ := h.cells
  have H := Lib.hid h
  clear h hl
  simp only [List.length_nil, Nat.add_zero] at hp
  subst hp
  go_enter Tryz.func72, Tryz.ntmps72
  go_wp2_with (first | (go_at_call 113; refine (fault_none _ _ _ _ HO.out).mono ?_; rintro e w' ⟨rfl, rfl⟩) | (go_at_call 107; refine (rd_left _ _ _ _ _ H.out hs (Nat.le_refl _)).mono ?_; rintro e w' ⟨rfl, nq, rfl⟩))
  go_ret
  exact ⟨rfl, (Kp.refl [] w).drewN _⟩

def EndBad (w : World) (e : Ending) (w' : World) : Prop := ∃ g, e = .returned (.iface 128 (.pointer (some ⟨g, 0, none⟩))) ∧ Kp [] w w'

set_option maxHeartbeats 1000000 in set_option maxRecDepth 100000 in
theorem end_rest (b : Nat) (s l : Bs) (w : World) (hs : s.length ≤ 140737488351232) (h : RdOk w b s l) (hne : l ≠ []) : Calls Tryz.prog 72 #[.pointer (some ⟨b, 0, none⟩)] w (EndBad w) := by
  have HO := Lib.hid h
  obtain ⟨p, hp, hl, h⟩ := h
  obtain ⟨c0, c1, c2, c3⟩ := h.cells
  have H := Lib.hid h
  have hll : 1 ≤ l.length := by cases l; exact absurd rfl hne; simp
  have hp' : p ≤ s.length := by omega
  clear h hl hne
  go_enter Tryz.func72, Tryz.ntmps72
  go_wp2_with (first | (go_at_call 113; refine (fault_none _ _ _ _ HO.out).mono ?_; rintro e w' ⟨rfl, rfl⟩) | (go_at_call 107; refine (rd_left _ _ _ _ _ H.out hs hp').mono ?_; rintro e w' ⟨rfl, nq, rfl⟩))
  go_ret
  exact ⟨_, rfl, ((Kp.refl [] w).drewN _).alloc _⟩

set_option maxHeartbeats 1000000 in set_option maxRecDepth 100000 in
theorem end_bad (b : Nat) (s : Bs) (w : World) (h : RdBad w b s) : Calls Tryz.prog 72 #[.pointer (some ⟨b, 0, none⟩)] w (EndBad w) := by
  have HO := Lib.hid h
  obtain ⟨p, f, hf, hp, h⟩ := h
  obtain ⟨c0, c1, c2, c3⟩ := h.cells
  clear h hf
  go_enter Tryz.func72, Tryz.ntmps72
  go_wp2_with (first | (go_at_call 113; refine (fault_some _ _ _ HO.out).mono ?_; rintro e w' ⟨g, rfl, k1⟩))
  go_ret
  exact ⟨_, rfl, k1⟩

end Go.Proofs.YtemicgccgcmmbaaGreat

/- A piece of a row of cells. -/
namespace Go.Proofs.YtemicgccgcmmbaaGreat
set_option linter.unusedVariables false
set_option linter.unusedSimpArgs false
open Go Go.RowKit

theorem rowAt?_sub {w : World} {b o n : Nat} {cs : Array Value} (h : rowAt? w ⟨b, o, none⟩ n = some cs) (i m : Nat) (hm : i + m ≤ n) : rowAt? w ⟨b, o + i, none⟩ m = some (cs.extract i (i + m)) := by
  unfold rowAt? at *
  split at h
  · rename_i c e f hb
    rw [hb]
    simp only [Option.isSome_none, Bool.false_eq_true, if_false] at h ⊢
    split at h
    · rename_i hle
      simp only [Option.some.injEq] at h
      subst h
      rw [if_pos (by omega), Array.extract_extract]
      congr 1
      rw [Nat.add_assoc, Nat.min_eq_left (by omega)]
    · cases h
  · cases h

end Go.Proofs.YtemicgccgcmmbaaGreat

/- Rows of pairs, texts, kids as what an append takes. -/
namespace Go.Proofs.YtemicgccgcmmbaaGreat
set_option linter.unusedVariables false
set_option linter.unusedSimpArgs false
open Go Go.RowKit

theorem flat_at {T : Type} (cells : T → List Value) (size : Nat) (hsz : ∀ x, (cells x).length = size) : ∀ (l : List T) (j : Nat) (u : Value), (l.flatMap cells)[j]? = some u → ∃ i x k, l[i]? = some x ∧ (cells x)[k]? = some u ∧ j = i * size + k
  | [], j, u, h => by simp at h
  | x :: t, j, u, h => by
    rw [List.flatMap_cons] at h
    by_cases hj : j < size
    · rw [List.getElem?_append_left (by rw [hsz]; exact hj)] at h
      exact ⟨0, x, j, rfl, h, by omega⟩
    · rw [List.getElem?_append_right (by rw [hsz]; omega), hsz] at h
      obtain ⟨i, y, k, h1, h2, h3⟩ := flat_at cells size hsz t _ _ h
      exact ⟨i + 1, y, k, by simpa using h1, h2, by rw [Nat.succ_mul]; omega⟩
theorem flat_len {T : Type} (cells : T → List Value) (size : Nat) (hsz : ∀ x, (cells x).length = size) : ∀ (l : List T), (l.flatMap cells).length = l.length * size
  | [] => by simp
  | x :: t => by rw [List.flatMap_cons, List.length_append, hsz, flat_len cells size hsz t, List.length_cons, Nat.succ_mul]; omega

abbrev csS (t : Bs) : List Value := [.string ⟨t.toArray⟩]
theorem csS_map (l : List Bs) : l.flatMap csS = l.map fun t => .string ⟨t.toArray⟩ := by
  induction l with
  | nil => rfl
  | cons x t ih => simp [List.flatMap_cons, ih]

theorem src_pairs {w : World} {ad : Addr} {l : List Pr} (h : PsAt w (some ad) l) (c : Nat) : Src Tryz.prog 2 24 (.slice (some ad) l.length c) l.length (l.flatMap csP) w := by
  refine Src.ofSlice w Tryz.underlying24 ad _ c _ (flat_len csP 2 (fun _ => rfl) l) ?_ ?_
  · intro j u hj
    obtain ⟨i, x, k, h1, h2, rfl⟩ := flat_at csP 2 (fun _ => rfl) l j u hj
    obtain ⟨b, o, ha, _, h3, h4⟩ := h i x h1
    cases ha
    rw [Addr.add_lit]
    match k, h2 with
    | 0, h2 => simp at h2; subst h2; exact h3
    | 1, h2 => simp at h2; subst h2; exact h4
  · intro u hu
    obtain ⟨x, _, hx⟩ := List.mem_flatMap.1 hu
    simp at hx; rcases hx with rfl | rfl <;> rfl
theorem src_texts {w : World} {ad : Addr} {l : List Bs} (h : SsAt w (some ad) l) (c : Nat) : Src Tryz.prog 1 25 (.slice (some ad) l.length c) l.length (l.flatMap csS) w := by
  refine Src.ofSlice w Tryz.underlying25 ad _ c _ (flat_len csS 1 (fun _ => rfl) l) ?_ ?_
  · intro j u hj
    obtain ⟨i, x, k, h1, h2, rfl⟩ := flat_at csS 1 (fun _ => rfl) l j u hj
    obtain ⟨b, o, ha, _, h3⟩ := h i x h1
    cases ha
    rw [Addr.add_lit]
    match k, h2 with
    | 0, h2 => simp at h2; subst h2; simpa using h3
  · intro u hu
    obtain ⟨x, _, hx⟩ := List.mem_flatMap.1 hu
    simp at hx; subst hx; rfl
theorem src_kids {w : World} {ad : Addr} {l : List Kd} (h : KsAt w (some ad) l) (c : Nat) : Src Tryz.prog 33 26 (.slice (some ad) l.length c) l.length (l.flatMap csK) w := by
  refine Src.ofSlice w Tryz.underlying26 ad _ c _ (flat_len csK 33 (fun x => by simp) l) ?_ ?_
  · intro j u hj
    obtain ⟨i, x, k, h1, h2, rfl⟩ := flat_at csK 33 (fun x => by simp) l j u hj
    obtain ⟨b, o, ha, _, h3⟩ := h i x h1
    cases ha
    have := (rowAt?_cell h3).2 k u (by simpa using h2)
    simp only [Addr.add_lit] at this
    rw [Addr.add_lit, ← Nat.add_assoc]
    exact this
  · intro u hu
    obtain ⟨x, _, hx⟩ := List.mem_flatMap.1 hu
    exact Kd.c_one x u hx

theorem own_empty {w : World} {e : TypeId} {size g : Nat} (hg : g = w.heap.size) : Own (w.alloc (.cells #[] e)) e size (some ⟨g, 0, none⟩) 0 0 [] := by
  subst hg
  exact ⟨by simp, .inr ⟨w.heap.size, 0, #[], rfl, Nat.zero_le _, Blk.new w e #[], Nat.le_refl _, Nat.zero_le _, by simp, by simp⟩⟩

theorem run_eql_nilsl {P : Program} {w : World} (t e : TypeId) (a : Option Addr) (n c : Nat) (h : P.underlying t = some (.slice e)) : (binOp .eql t (.slice a n c) (.slice none 0 0)).run P w = .ok (.bool a.isNone) w := by
  simp only [binOp, Sem.run_bind, run_equal_slice_nil w t e a n c h, Result.andThen_ok, Sem.run_pure]
@[go_sem] theorem eql_nil_ps (a : Option Addr) (n c : Nat) (w : World) : (binOp .eql 24 (.slice a n c) (.slice none 0 0)).run Tryz.prog w = .ok (.bool a.isNone) w := run_eql_nilsl _ _ a n c Tryz.underlying24
@[go_sem] theorem eql_nil_ss (a : Option Addr) (n c : Nat) (w : World) : (binOp .eql 25 (.slice a n c) (.slice none 0 0)).run Tryz.prog w = .ok (.bool a.isNone) w := run_eql_nilsl _ _ a n c Tryz.underlying25
@[go_sem] theorem eql_nil_ks (a : Option Addr) (n c : Nat) (w : World) : (binOp .eql 26 (.slice a n c) (.slice none 0 0)).run Tryz.prog w = .ok (.bool a.isNone) w := run_eql_nilsl _ _ a n c Tryz.underlying26

end Go.Proofs.YtemicgccgcmmbaaGreat

/- The empty node. -/
namespace Go.Proofs.YtemicgccgcmmbaaGreat
set_option linter.unusedVariables false
set_option linter.unusedSimpArgs false
open Go Go.RowKit

def noN : Nd := ⟨[], [], []⟩
theorem noN_at (w : World) : NdAt w none none none noN := ⟨PsAt.nil _ _, SsAt.nil _ _, KsAt.nil _ _⟩
theorem noN_ok : NdOk noN := ⟨by decide, by decide, by decide, by simp [noN], by simp [noN], by simp [noN]⟩

end Go.Proofs.YtemicgccgcmmbaaGreat
