/- slices.Clone of pairs, texts and kids. -/
import Derived.Test.YtemicgccgcmmbaaList0
import Derived.Test.YtemicgccgcmmbaaListP
import Derived.Test.YtemicgccgcmmbaaListK
import Derived.Test.YtemicgccgcmmbaaRow
import Derived.Laws.Cover3
namespace Go.Proofs.Ytemicgccgcmmbaa
set_option linter.unusedVariables false
set_option linter.unusedSimpArgs false
open Go Go.RowKit

theorem flat_at {T : Type} (cells : T → List Value) (size : Nat) (hsz : ∀ x, (cells x).length = size) : ∀ (l : List T) (j : Nat) (u : Value), (l.flatMap cells)[j]? = some u → ∃ i x k, l[i]? = some x ∧ (cells x)[k]? = some u ∧ j = i * size + k
  | [], j, u, h => by simp at h
  | x :: t, j, u, h => by
    rw [List.flatMap_cons] at h
    by_cases hj : j < size
    · rw [List.getElem?_append_left (by rw [hsz]; exact hj)] at h
      exact ⟨0, x, j, rfl, h, by omega⟩
    · rw [List.getElem?_append_right (by rw [hsz]; omega), hsz] at h
      obtain ⟨i, y, k, h1, h2, h3⟩ := flat_at cells size hsz t _ _ h
      exact ⟨i + 1, y, k, by simpa using h1, h2, by rw [Nat.succ_mul]; omega⟩
theorem flat_len {T : Type} (cells : T → List Value) (size : Nat) (hsz : ∀ x, (cells x).length = size) : ∀ (l : List T), (l.flatMap cells).length = l.length * size
  | [] => by simp
  | x :: t => by rw [List.flatMap_cons, List.length_append, hsz, flat_len cells size hsz t, List.length_cons, Nat.succ_mul]; omega

abbrev csS (t : Bs) : List Value := [.string ⟨t.toArray⟩]
theorem csS_map (l : List Bs) : l.flatMap csS = l.map fun t => .string ⟨t.toArray⟩ := by
  induction l with
  | nil => rfl
  | cons x t ih => simp [List.flatMap_cons, ih]

theorem src_pairs {w : World} {ad : Addr} {l : List Pr} (h : PsAt w (some ad) l) (c : Nat) : Src Try.prog 2 26 (.slice (some ad) l.length c) l.length (l.flatMap csP) w := by
  refine Src.ofSlice w Try.underlying26 ad _ c _ (flat_len csP 2 (fun _ => rfl) l) ?_ ?_
  · intro j u hj
    obtain ⟨i, x, k, h1, h2, rfl⟩ := flat_at csP 2 (fun _ => rfl) l j u hj
    obtain ⟨b, o, ha, _, h3, h4⟩ := h i x h1
    cases ha
    rw [Addr.add_lit]
    match k, h2 with
    | 0, h2 => simp at h2; subst h2; exact h3
    | 1, h2 => simp at h2; subst h2; exact h4
  · intro u hu
    obtain ⟨x, _, hx⟩ := List.mem_flatMap.1 hu
    simp at hx; rcases hx with rfl | rfl <;> rfl
theorem src_texts {w : World} {ad : Addr} {l : List Bs} (h : SsAt w (some ad) l) (c : Nat) : Src Try.prog 1 27 (.slice (some ad) l.length c) l.length (l.flatMap csS) w := by
  refine Src.ofSlice w Try.underlying27 ad _ c _ (flat_len csS 1 (fun _ => rfl) l) ?_ ?_
  · intro j u hj
    obtain ⟨i, x, k, h1, h2, rfl⟩ := flat_at csS 1 (fun _ => rfl) l j u hj
    obtain ⟨b, o, ha, _, h3⟩ := h i x h1
    cases ha
    rw [Addr.add_lit]
    match k, h2 with
    | 0, h2 => simp at h2; subst h2; simpa using h3
  · intro u hu
    obtain ⟨x, _, hx⟩ := List.mem_flatMap.1 hu
    simp at hx; subst hx; rfl
theorem src_kids {w : World} {ad : Addr} {l : List Kd} (h : KsAt w (some ad) l) (c : Nat) : Src Try.prog 33 28 (.slice (some ad) l.length c) l.length (l.flatMap csK) w := by
  refine Src.ofSlice w Try.underlying28 ad _ c _ (flat_len csK 33 (fun x => by simp) l) ?_ ?_
  · intro j u hj
    obtain ⟨i, x, k, h1, h2, rfl⟩ := flat_at csK 33 (fun x => by simp) l j u hj
    obtain ⟨b, o, ha, _, h3⟩ := h i x h1
    cases ha
    have := (rowAt?_cell h3).2 k u (by simpa using h2)
    simp only [Addr.add_lit] at this
    rw [Addr.add_lit, ← Nat.add_assoc]
    exact this
  · intro u hu
    obtain ⟨x, _, hx⟩ := List.mem_flatMap.1 hu
    exact Kd.c_one x u hx

theorem own_empty {w : World} {e : TypeId} {size g : Nat} (hg : g = w.heap.size) : Own (w.alloc (.cells #[] e)) e size (some ⟨g, 0, none⟩) 0 0 [] := by
  subst hg
  exact ⟨by simp, .inr ⟨w.heap.size, 0, #[], rfl, Nat.zero_le _, Blk.new w e #[], Nat.le_refl _, Nat.zero_le _, by simp, by simp⟩⟩

theorem run_eql_nilsl {P : Program} {w : World} (t e : TypeId) (a : Option Addr) (n c : Nat) (h : P.underlying t = some (.slice e)) : (binOp .eql t (.slice a n c) (.slice none 0 0)).run P w = .ok (.bool a.isNone) w := by
  simp only [binOp, Sem.run_bind, run_equal_slice_nil w t e a n c h, Result.andThen_ok, Sem.run_pure]
@[go_sem] theorem eql_nil_ps (a : Option Addr) (n c : Nat) (w : World) : (binOp .eql 26 (.slice a n c) (.slice none 0 0)).run Try.prog w = .ok (.bool a.isNone) w := run_eql_nilsl _ _ a n c Try.underlying26
@[go_sem] theorem eql_nil_ss (a : Option Addr) (n c : Nat) (w : World) : (binOp .eql 27 (.slice a n c) (.slice none 0 0)).run Try.prog w = .ok (.bool a.isNone) w := run_eql_nilsl _ _ a n c Try.underlying27
@[go_sem] theorem eql_nil_ks (a : Option Addr) (n c : Nat) (w : World) : (binOp .eql 28 (.slice a n c) (.slice none 0 0)).run Try.prog w = .ok (.bool a.isNone) w := run_eql_nilsl _ _ a n c Try.underlying28

/-- A list of its own. -/
def ClonePost (e : TypeId) (size n : Nat) (xs : List Value) (w : World) (en : Ending) (w' : World) : Prop :=
  ∃ a c, en = .returned (.slice a n c) ∧ Own w' e size a n c xs ∧ Kp [] w w' ∧ ∀ g ∈ ab a, w.heap.size ≤ g

set_option maxHeartbeats 1000000 in set_option maxRecDepth 100000 in
theorem clone_pair (a : Option Addr) (c : Nat) (l : List Pr) (w : World) (h : PsAt w a l) (hl : l.length ≤ 4398046511104) :
    Calls Try.prog 43 #[.slice a l.length c] w (ClonePost 48 2 l.length (l.flatMap csP) w) := by
  cases a with
  | none =>
    have h0 : l = [] := by
      cases l with
      | nil => rfl
      | cons x t => obtain ⟨b, o, ha, _⟩ := h 0 x rfl; cases ha
    subst h0
    clear h hl
    go_enter Try.func43, Try.ntmps43
    go_wp2_with fail
    go_ret
    exact ⟨none, 0, rfl, Own.nil _ _ _, Kp.refl _ _, by simp [ab]⟩
  | some ad =>
    have hs := src_pairs (PsAt.kp h ((Kp.refl [] w).alloc (.cells #[] 48)) (by simp)) c
    have HS := Lib.hid hs
    have HO := Lib.hid (own_empty (w := w) (e := 48) (size := 2) rfl)
    clear h hs
    go_enter Try.func43, Try.ntmps43
    go_wp2_with (at_builtin; refine wpList_app_pair rfl rfl rfl HO.out l.length (l.flatMap csP) HS.out (by omega) ?_; intro a' c' w' o' k' n'; have O := Lib.hid o'; have K := Lib.hid k'; have N := Lib.hid n'; clear o' k' n')
    go_ret
    refine ⟨a', c', rfl, by have := O.out; simpa using this, ?_, ?_⟩
    · refine ((Kp.refl [] w).alloc _).from K.out (fun x hx => .inl ?_)
      simp [ab] at hx; omega
    · intro g hg
      rcases N.out g hg with h | h
      · simp [ab] at h; omega
      · simp at h; omega
set_option maxHeartbeats 1000000 in set_option maxRecDepth 100000 in
theorem clone_text (a : Option Addr) (c : Nat) (l : List Bs) (w : World) (h : SsAt w a l) (hl : l.length ≤ 8796093022208) :
    Calls Try.prog 44 #[.slice a l.length c] w (ClonePost 9 1 l.length (l.flatMap csS) w) := by
  cases a with
  | none =>
    have h0 : l = [] := by
      cases l with
      | nil => rfl
      | cons x t => obtain ⟨b, o, ha, _⟩ := h 0 x rfl; cases ha
    subst h0
    clear h hl
    go_enter Try.func44, Try.ntmps44
    go_wp2_with fail
    go_ret
    exact ⟨none, 0, rfl, Own.nil _ _ _, Kp.refl _ _, by simp [ab]⟩
  | some ad =>
    have hs := src_texts (SsAt.kp h ((Kp.refl [] w).alloc (.cells #[] 9)) (by simp)) c
    have HS := Lib.hid hs
    have HO := Lib.hid (own_empty (w := w) (e := 9) (size := 1) rfl)
    clear h hs
    go_enter Try.func44, Try.ntmps44
    go_wp2_with (at_builtin; refine wpList_app_str rfl rfl rfl HO.out l.length (l.flatMap csS) HS.out (by omega) ?_; intro a' c' w' o' k' n'; have O := Lib.hid o'; have K := Lib.hid k'; have N := Lib.hid n'; clear o' k' n')
    go_ret
    refine ⟨a', c', rfl, by have := O.out; simpa using this, ?_, ?_⟩
    · refine ((Kp.refl [] w).alloc _).from K.out (fun x hx => .inl ?_)
      simp [ab] at hx; omega
    · intro g hg
      rcases N.out g hg with h | h
      · simp [ab] at h; omega
      · simp at h; omega
set_option maxHeartbeats 1000000 in set_option maxRecDepth 100000 in
theorem clone_kid (a : Option Addr) (c : Nat) (l : List Kd) (w : World) (h : KsAt w a l) (hl : l.length ≤ 3909374676453) :
    Calls Try.prog 45 #[.slice a l.length c] w (ClonePost 42 33 l.length (l.flatMap csK) w) := by
  cases a with
  | none =>
    have h0 : l = [] := by
      cases l with
      | nil => rfl
      | cons x t => obtain ⟨b, o, ha, _⟩ := h 0 x rfl; cases ha
    subst h0
    clear h hl
    go_enter Try.func45, Try.ntmps45
    go_wp2_with fail
    go_ret
    exact ⟨none, 0, rfl, Own.nil _ _ _, Kp.refl _ _, by simp [ab]⟩
  | some ad =>
    have hs := src_kids (KsAt.kp h ((Kp.refl [] w).alloc (.cells #[] 42)) (by simp)) c
    have HS := Lib.hid hs
    have HO := Lib.hid (own_empty (w := w) (e := 42) (size := 33) rfl)
    clear h hs
    go_enter Try.func45, Try.ntmps45
    go_wp2_with (at_builtin; refine wpList_app_kid rfl rfl rfl HO.out l.length (l.flatMap csK) HS.out (by omega) ?_; intro a' c' w' o' k' n'; have O := Lib.hid o'; have K := Lib.hid k'; have N := Lib.hid n'; clear o' k' n')
    go_ret
    refine ⟨a', c', rfl, by have := O.out; simpa using this, ?_, ?_⟩
    · refine ((Kp.refl [] w).alloc _).from K.out (fun x hx => .inl ?_)
      simp [ab] at hx; omega
    · intro g hg
      rcases N.out g hg with h | h
      · simp [ab] at h; omega
      · simp at h; omega
end Go.Proofs.Ytemicgccgcmmbaa
