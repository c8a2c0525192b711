/- append onto an owned slice, and what becomes of the old one: it reads as before. -/
import Derived.Test.YtemicgccgcmmbaaGreatZ15
namespace Go.Proofs.YtemicgccgcmmbaaGreat
set_option linter.unusedVariables false
set_option linter.unusedSimpArgs false
open Go Go.RowKit

section
variable {P : Program} (w : World)

theorem run_app2 (t tx ty e : TypeId) (i : TypeInfo) (z : Value) (size bytes : Nat) (ht : P.underlying t = some (.slice e)) (hi : P.info? e = some i) (hz : i.zero = some z)
    (hsize : i.size = size) (hby : i.bytes = bytes) (hzs : z.cells.size = size)
    (a : Option Addr) (n c : Nat) (xs : List Value) (hown : Own w e size a n c xs) (x : Value) (m : Nat) (news : List Value) (hs : Src P size tx x m news w)
    (hbytes : (n + m) * bytes ≤ 140737488355328) (h63 : n + m ≤ maxLen) :
    ∃ a' c' w', (Builtin.append_ #[t, tx] ty #[.slice a n c, x]).run P w = .ok (.slice a' (n + m) c') w' ∧ Own w' e size a' (n + m) c' (xs ++ news) ∧ Kp (ab a) w w' ∧ (∀ g ∈ ab a', g ∈ ab a ∨ w.heap.size ≤ g) ∧ Own w' e size a n c xs := by
  subst hsize
  subst hby
  have hlen : (xs ++ news).length = (n + m) * i.size := by rw [List.length_append, hown.1, hs.newsLen, Nat.add_mul]
  have grown : ∀ (old : Nat) (a0 : Option Addr), c = old → old < n + m → (Builtin.firstCells i.size n (.slice a0 n old)).run P w.drew = .ok xs.toArray w.drew →
      a0 = a → ∃ a' c' w', (Builtin.append_ #[t, tx] ty #[.slice a n c, x]).run P w = .ok (.slice a' (n + m) c') w' ∧ Own w' e i.size a' (n + m) c' (xs ++ news) ∧ Kp (ab a) w w' ∧ (∀ g ∈ ab a', g ∈ ab a ∨ w.heap.size ≤ g) ∧ Own w' e i.size a n c xs := by
    intro old a0 hc ho hf ha
    subst hc ha
    have hr := run_append_grow_src w t tx ty e i z ht hi hz a0 n c xs hf x m news hs ho (by simp only [maxLen] at h63; omega) (growslice_fits (by omega) hbytes)
    have hge := grownCap_ge w (n + m) c e
    have hcm : grownCap w (n + m) c e ≤ maxLen := grownCap_le_maxLen w (n + m) c e h63
    refine ⟨_, _, _, hr, ⟨hlen, .inr ⟨w.heap.size, _, _, rfl, Nat.zero_le _, heap_alloc_new w.drew _, hge, hcm, ?_, ?_⟩⟩, ((Kp.refl _ _).drew).alloc _, fun g hg => .inr (by simp [ab] at hg; omega), hown.kp (((Kp.refl [] _).drew).alloc _) (by simp)⟩
    · simp only [Array.size_append, List.size_toArray, size_zeroCells, hzs, hlen, ← Nat.add_mul]
      congr 1
      omega
    · simp only [Array.toList_append]
      rw [← hlen]
      exact List.take_left
  rcases hown.block.2 with ⟨rfl, rfl, rfl⟩ | ⟨g, cur, rfl, hb, hnc, hcm, hcs, htake⟩
  · have hx : xs = [] := List.eq_nil_of_length_eq_zero (by simpa using hown.1)
    subst hx
    by_cases hm : m = 0
    · subst hm
      have hn : news = [] := List.eq_nil_of_length_eq_zero (by simpa using hs.newsLen)
      subst hn
      refine ⟨none, 0, w, ?_, Own.nil w e i.size, Kp.refl _ _, by simp [ab], hown⟩
      rcases hs.kind with ⟨e', hk⟩ | hk <;> simp [Builtin.append_, run_underlying ht, run_underlying hk, sizeOf, typeInfo, hi, hs.len, hs.cells]
    · exact grown 0 none rfl (by omega) (by simp [Builtin.firstCells]) rfl
  · by_cases hroom : n + m ≤ c
    · have hfit : n * i.size + news.length ≤ cur.size := by rw [hs.newsLen, hcs, ← Nat.add_mul]; exact Nat.mul_le_mul_right _ hroom
      have hst := run_storeCells_at P g (n * i.size) e news 0 cur w hb (by simpa using hfit) hs.one
      simp only [Nat.add_zero] at hst
      refine ⟨some ⟨g, 0, none⟩, c, w.setRow g (cur.toList.take (n * i.size) ++ news ++ cur.toList.drop (n * i.size + news.length)).toArray, ?_, ⟨hlen, .inr ⟨g, c, (cur.toList.take (n * i.size) ++ news ++ cur.toList.drop (n * i.size + news.length)).toArray, rfl, Nat.zero_le _, setRow_heap w g cur _ e _ hb, hroom, hcm, ?_, ?_⟩⟩, (Kp.refl _ _).setRow _ _ (.inr (by simp [ab])), fun g' hg' => .inl hg', ?_⟩
      · rcases hs.kind with ⟨e', hk⟩ | hk <;> simp [Builtin.append_, run_underlying ht, run_underlying hk, sizeOf, typeInfo, hi, hs.len, hroom, hs.cells, Addr.add_lit, hst]
      · simp only [List.size_toArray, List.length_append, List.length_take, List.length_drop, Array.length_toList]
        omega
      · rw [htake, ← hlen]
        exact List.take_left
      · refine ⟨hown.1, .inr ⟨g, c, (cur.toList.take (n * i.size) ++ news ++ cur.toList.drop (n * i.size + news.length)).toArray, rfl, Nat.zero_le _, setRow_heap w g cur _ e _ hb, hnc, hcm, ?_, ?_⟩⟩
        · simp only [List.size_toArray, List.length_append, List.length_take, List.length_drop, Array.length_toList]
          omega
        · rw [htake, ← hown.1, List.append_assoc]
          exact List.take_left
    · have holds : ∀ j u, xs[j]? = some u → w.drew.cell? ((⟨g, 0, none⟩ : Addr).add j) = some u := hown.cells rfl
      exact grown c (some ⟨g, 0, none⟩) rfl (by omega) (run_firstCells_some w.drew i.size n ⟨g, 0, none⟩ n c xs hown.1 holds) rfl

theorem wp_app2 {o : Oper} {A : Act} {K : Act → World → Prop} {Q : Exit → Act → World → Prop} (s x : Operand) (t tx : TypeId)
    (ho : o.op = .call { callee := .builtin .append, args := #[s, x], argTypes := #[t, tx] })
    (e : TypeId) (i : TypeInfo) (z : Value) (size bytes : Nat) (ht : P.underlying t = some (.slice e)) (hi : P.info? e = some i) (hz : i.zero = some z)
    (hsize : i.size = size) (hby : i.bytes = bytes) (hzs : z.cells.size = size)
    (a : Option Addr) (n c : Nat) (xs : List Value) (hs : A.eval s = .slice a n c) (hown : Own w e size a n c xs) (m : Nat) (news : List Value) (hsrc : Src P size tx (A.eval x) m news w)
    (hbytes : (n + m) * bytes ≤ 140737488355328) (h63 : n + m ≤ maxLen)
    (h : ∀ a' c' w', Own w' e size a' (n + m) c' (xs ++ news) → Kp (ab a) w w' → (∀ g ∈ ab a', g ∈ ab a ∨ w.heap.size ≤ g) → Own w' e size a n c xs → K (A.put o.dst (.slice a' (n + m) c')) w') : o.wp P A w K Q := by
  obtain ⟨a', c', w', hr, h2, h3, h4, h5⟩ := run_app2 (P := P) w t tx o.type e i z size bytes ht hi hz hsize hby hzs a n c xs hown _ m news hsrc hbytes h63
  unfold Oper.wp execOp
  simp only [ho, resolve, invoke, builtin, Sem.run_bind, Sem.run_pure, Result.andThen_ok, List.map_toArray, List.map_cons, List.map_nil, hs, hr]
  exact h a' c' w' h2 h3 h4 h5

theorem wpList_app2 {ops : Array Oper} {rest : List Oper} {o : Oper} {A : Act} {Q : Exit → Act → World → Prop} (hgd : o.guard = none) (s x : Operand) (t tx : TypeId)
    (ho : o.op = .call { callee := .builtin .append, args := #[s, x], argTypes := #[t, tx] })
    (e : TypeId) (i : TypeInfo) (z : Value) (size bytes : Nat) (ht : P.underlying t = some (.slice e)) (hi : P.info? e = some i) (hz : i.zero = some z)
    (hsize : i.size = size) (hby : i.bytes = bytes) (hzs : z.cells.size = size)
    (a : Option Addr) (n c : Nat) (xs : List Value) (hs : A.eval s = .slice a n c) (hown : Own w e size a n c xs) (m : Nat) (news : List Value) (hsrc : Src P size tx (A.eval x) m news w)
    (hbytes : (n + m) * bytes ≤ 140737488355328) (h63 : n + m ≤ maxLen)
    (h : ∀ a' c' w', Own w' e size a' (n + m) c' (xs ++ news) → Kp (ab a) w w' → (∀ g ∈ ab a', g ∈ ab a ∨ w.heap.size ≤ g) → Own w' e size a n c xs → wpList P ops Q rest (A.put o.dst (.slice a' (n + m) c')) w') : wpList P ops Q (o :: rest) A w :=
  wpList_plain hgd fun _ hK => wp_app2 w s x t tx ho e i z size bytes ht hi hz hsize hby hzs a n c xs hs hown m news hsrc hbytes h63 fun a' c' w' h2 h3 h4 h5 => hK _ _ (h a' c' w' h2 h3 h4 h5)
end

theorem wpList_app2_pair {w : World} {ops : Array Oper} {rest : List Oper} {o : Oper} {A : Act} {Q : Exit → Act → World → Prop} (hgd : o.guard = none) {s x : Operand} {tx : TypeId}
    (ho : o.op = .call { callee := .builtin .append, args := #[s, x], argTypes := #[24, tx] })
    {a : Option Addr} {n c : Nat} {xs : List Value} (hs : A.eval s = .slice a n c) (hown : Own w 56 2 a n c xs) (m : Nat) (news : List Value) (hsrc : Src Tryz.prog 2 tx (A.eval x) m news w)
    (h63 : n + m ≤ 4398046511104)
    (h : ∀ a' c' w', Own w' 56 2 a' (n + m) c' (xs ++ news) → Kp (ab a) w w' → (∀ g ∈ ab a', g ∈ ab a ∨ w.heap.size ≤ g) → Own w' 56 2 a n c xs → wpList Tryz.prog ops Q rest (A.put o.dst (.slice a' (n + m) c')) w') : wpList Tryz.prog ops Q (o :: rest) A w := by
  obtain ⟨i0, hi, hz0, hz1, hz2⟩ := info_parts Tryz.infoPair
  exact wpList_app2 w hgd s x 24 tx ho 56 i0 (.agg #[.string ⟨#[]⟩, .string ⟨#[]⟩]) 2 32 Tryz.underlying24 hi hz0 hz1 hz2 rfl a n c xs hs hown m news hsrc (by omega) (by unfold maxLen; omega) h

theorem wpList_app2_kid {w : World} {ops : Array Oper} {rest : List Oper} {o : Oper} {A : Act} {Q : Exit → Act → World → Prop} (hgd : o.guard = none) {s x : Operand} {tx : TypeId}
    (ho : o.op = .call { callee := .builtin .append, args := #[s, x], argTypes := #[26, tx] })
    {a : Option Addr} {n c : Nat} {xs : List Value} (hs : A.eval s = .slice a n c) (hown : Own w 59 33 a n c xs) (m : Nat) (news : List Value) (hsrc : Src Tryz.prog 33 tx (A.eval x) m news w)
    (h63 : n + m ≤ 3909374676453)
    (h : ∀ a' c' w', Own w' 59 33 a' (n + m) c' (xs ++ news) → Kp (ab a) w w' → (∀ g ∈ ab a', g ∈ ab a ∨ w.heap.size ≤ g) → Own w' 59 33 a n c xs → wpList Tryz.prog ops Q rest (A.put o.dst (.slice a' (n + m) c')) w') : wpList Tryz.prog ops Q (o :: rest) A w := by
  obtain ⟨i0, hi, hz0, hz1, hz2⟩ := info_parts Tryz.infoKid
  exact wpList_app2 w hgd s x 26 tx ho 59 i0 (.agg Kd.zero.c) 33 36 Tryz.underlying26 hi hz0 hz1 hz2 (Kd.c_size Kd.zero) a n c xs hs hown m news hsrc (by omega) (by unfold maxLen; omega) h

theorem wpList_app2_str {w : World} {ops : Array Oper} {rest : List Oper} {o : Oper} {A : Act} {Q : Exit → Act → World → Prop} (hgd : o.guard = none) {s x : Operand} {tx : TypeId}
    (ho : o.op = .call { callee := .builtin .append, args := #[s, x], argTypes := #[25, tx] })
    {a : Option Addr} {n c : Nat} {xs : List Value} (hs : A.eval s = .slice a n c) (hown : Own w 9 1 a n c xs) (m : Nat) (news : List Value) (hsrc : Src Tryz.prog 1 tx (A.eval x) m news w)
    (h63 : n + m ≤ 8796093022208)
    (h : ∀ a' c' w', Own w' 9 1 a' (n + m) c' (xs ++ news) → Kp (ab a) w w' → (∀ g ∈ ab a', g ∈ ab a ∨ w.heap.size ≤ g) → Own w' 9 1 a n c xs → wpList Tryz.prog ops Q rest (A.put o.dst (.slice a' (n + m) c')) w') : wpList Tryz.prog ops Q (o :: rest) A w := by
  obtain ⟨i0, hi, hz0, hz1, hz2⟩ := info_parts Tryz.infoStr
  exact wpList_app2 w hgd s x 25 tx ho 9 i0 (.string ⟨#[]⟩) 1 16 Tryz.underlying25 hi hz0 hz1 hz2 rfl a n c xs hs hown m news hsrc (by omega) (by unfold maxLen; omega) h

end Go.Proofs.YtemicgccgcmmbaaGreat
