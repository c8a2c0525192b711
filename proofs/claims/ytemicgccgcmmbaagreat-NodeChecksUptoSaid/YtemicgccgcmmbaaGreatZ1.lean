/- Digests are cut; they fit a width. -/
import Derived.Test.YtemicgccgcmmbaaGreatZ0
import Derived.Laws.ResultCell
import Derived.Deep.AppendSrc
namespace Go.Proofs.YtemicgccgcmmbaaGreat
set_option linter.unusedVariables false
set_option linter.unusedSimpArgs false
open Go Go.RowKit

/-- A digest, and a second result, are handed back. -/
theorem dg_ret2 {fn : Func} {R : Ending → World → Prop} {a : Act} {w : World} {p u : Tmp} {g : Nat} {d : Dg} {v : Value} (hr : fn.results = #[.cell p 36, .tmp u]) (hp : a.tmps.getD p undef = .pointer (some ⟨g, 0, none⟩)) (hv : a.tmps.getD u undef = v) (hg : rowAt? w ⟨g, 0, none⟩ 32 = some d.c) (hd : a.defers = []) (hR : R (.returned (.tuple #[.agg d.c, v])) w) :
    bodyPost Tryz.prog fn R .ret a w := by
  refine bodyPost_ret (v := .tuple #[.agg d.c, v]) ?_ hd hR
  rw [results_cell_tmp hr, hp, hv]
  have h1 := run_loadVar_big Tryz.prog 36 32 _ Tryz.underlying36 rfl (by kernel_rfl) ⟨g, 0, none⟩ w
  rw [hg] at h1
  simp [asAddr, h1, Result.andThen]

/-- Of a digest the first bytes. -/
def Dg.cut (n : Nat) (d : Dg) : Dg := Dg.pad (d.l.take n)

set_option maxHeartbeats 1000000 in set_option maxRecDepth 100000 in
theorem cut_bad (n : Int) (d : Dg) (w : World) (h : ¬ (1 ≤ n ∧ n ≤ 32)) : Calls Tryz.prog 101 #[.int .i64 n, .agg d.c] w (Rets (.tuple #[.agg Dg.zero.c, .int .i64 2]) w) := by
  have hb : decide (1 ≤ n ∧ n ≤ 32) = false := decide_eq_false h
  clear h
  go_enter Tryz.func101, Tryz.ntmps101
  go_wp2_with (go_at_call 78; refine (wide_any _ _).mono ?_; rintro e w' ⟨rfl, rfl⟩)
  refine dg_ret2 rfl rfl rfl (d := Dg.zero) ?_ rfl ?_
  · simp [go_sem]
  · exact ⟨rfl, by (try simp only [alloc_ext, drew_ext, drewN_ext, ext_ext]); exact ⟨_, _, rfl⟩⟩

@[go_sem] theorem extract_take (d : Dg) (n : Nat) : d.c.extract 0 n = (bC (d.l.take n)).toArray := by
  apply Array.ext'
  simp [Dg.c, bC, List.extract_eq_take_drop]
@[go_sem] theorem take32 (d : Dg) : d.l.take 32 = d.l := List.take_of_length_le (by rw [d.h]; omega)
@[go_sem] theorem bC_l (d : Dg) : (bC d.l).toArray = d.c := rfl
@[go_sem] theorem okCells_bC (l : Bs) : okCells (bC l).toArray = true := okCells_of (by simpa using bC_one l)
@[go_sem] theorem spl_cut (d : Dg) (n : Nat) (h : n ≤ 32) : spl Dg.zero.c 0 (bC (d.l.take n)).toArray = (Dg.cut n d).c := by
  have := spl_pad (d.l.take n)
  rw [List.take_of_length_le (by simp; omega)] at this
  exact this

set_option maxHeartbeats 1000000 in set_option maxRecDepth 100000 in
theorem cut_any (n : Nat) (d : Dg) (w : World) (h1 : 1 ≤ n) (h2 : n ≤ 32) : Calls Tryz.prog 101 #[.int .i64 n, .agg d.c] w (Rets (.tuple #[.agg (Dg.cut n d).c, .int .i64 0]) w) := by
  have hb : decide ((1 : Int) ≤ n ∧ (n : Int) ≤ 32) = true := decide_eq_true (by omega)
  go_enter Tryz.func101, Tryz.ntmps101
  go_wp2_with (go_at_call 78; refine (wide_any _ _).mono ?_; rintro e w' ⟨rfl, rfl⟩)
  go_region_held3 (fun _ => True) (trivial) (fail)
  go_wp2
  refine dg_ret2 rfl rfl rfl (d := Dg.cut n d) ?_ rfl ?_
  · simp [go_sem]
  · exact ⟨rfl, by (try simp only [alloc_ext, drew_ext, drewN_ext, ext_ext]); exact ⟨_, _, rfl⟩⟩

end Go.Proofs.YtemicgccgcmmbaaGreat

/- Digests fit a width. -/
namespace Go.Proofs.YtemicgccgcmmbaaGreat
set_option linter.unusedVariables false
set_option linter.unusedSimpArgs false
open Go Go.RowKit

/-- Does a digest fit a width? -/
def fitB (n : Int) (d : Dg) : Bool := decide (1 ≤ n ∧ n ≤ 32) && decide (Dg.cut n.toNat d = d)

set_option maxHeartbeats 1000000 in set_option maxRecDepth 100000 in
theorem fits_any (n : Int) (d : Dg) (w : World) : Calls Tryz.prog 56 #[.int .i64 n, .agg d.c] w (Rets (.bool (fitB n d)) w) := by
  by_cases h : 1 ≤ n ∧ n ≤ 32
  · obtain ⟨m, rfl⟩ := Int.eq_ofNat_of_zero_le (show 0 ≤ n by omega)
    have hf : Hid (fitB m d = decide (Dg.cut m d = d)) := by show _ = _; unfold fitB; rw [decide_eq_true h]; rfl
    obtain ⟨h1, h2⟩ := h
    have h1' : 1 ≤ m := by omega
    have h2' : m ≤ 32 := by omega
    go_enter Tryz.func56, Tryz.ntmps56
    go_wp2_with (go_at_call 101; refine (cut_any _ _ _ h1' h2').mono ?_; rintro e w' ⟨rfl, bs, nn, rfl⟩)
    go_ret
    rw [hf.out]
    exact ⟨rfl, by (try simp only [alloc_ext, drew_ext, drewN_ext, ext_ext]); exact ⟨_, _, rfl⟩⟩
  · have hf : Hid (fitB n d = false) := by show _ = _; unfold fitB; rw [decide_eq_false h]; rfl
    have H := Lib.hid h; clear h
    go_enter Tryz.func56, Tryz.ntmps56
    go_wp2_with (go_at_call 101; refine (cut_bad _ _ _ H.out).mono ?_; rintro e w' ⟨rfl, bs, nn, rfl⟩)
    go_ret
    rw [hf.out]
    exact ⟨rfl, by (try simp only [alloc_ext, drew_ext, drewN_ext, ext_ext]); exact ⟨_, _, rfl⟩⟩

/-! The frame. -/
def IndexPost (xs : List Int) (v : Int) (w : World) (e : Ending) (w' : World) : Prop := (∃ r : Int, e = .returned (.int .i64 r) ∧ (0 ≤ r ↔ v ∈ xs)) ∧ w = w'

set_option maxHeartbeats 1000000 in set_option maxRecDepth 100000 in
theorem index_any (b : Nat) (xs : List Int) (v : Int) (w : World) (hl : xs.length ≤ 1000) (hc : ∀ i x, xs[i]? = some x → w.cell? ⟨b, i, none⟩ = some (.int .i64 x)) :
    Calls Tryz.prog 99 #[.slice (some ⟨b, 0, none⟩) xs.length xs.length, .int .i64 v] w (IndexPost xs v w) := by
  have HC := Lib.hid hc; clear hc
  go_enter Tryz.func99, Tryz.ntmps99
  go_wp2
  go_loop [5, 8] (fun _ i => ∃ k : Nat, k ≤ xs.length ∧ i = .int .i64 k ∧ Hid (v ∉ xs.take k)) (fun _ i => xs.length - (intOf i).toNat)
  case atStart => exact ⟨0, by omega, rfl, by simp [Hid]⟩
  case round =>
    obtain ⟨k, hk, rfl, HN⟩ := hrel
    by_cases hlt : k < xs.length
    · obtain ⟨x, hx⟩ : ∃ x, xs[k]? = some x := ⟨_, List.getElem?_eq_getElem hlt⟩
      have hc := HC.out k x hx
      have HX := Lib.hid hx; clear hx
      by_cases he : v = x
      · have hb : (v == x) = true := by simpa using he
        have HE := Lib.hid he; clear he
        go_wp2
        go_ret
        exact ⟨⟨k, rfl, ⟨fun _ => by rw [HE.out]; exact List.mem_of_getElem? HX.out, fun _ => by omega⟩⟩, rfl⟩
      · have hb : (v == x) = false := by simpa using he
        have HE := Lib.hid he; clear he
        go_wp2
        go_round
        case rel => exact ⟨k + 1, by omega, by go_num, by show ¬ _; rw [List.take_add_one, HX.out]; simp; exact ⟨HN.out, HE.out⟩⟩
        case measure => simp [intOf]; omega
    · go_wp2
      go_ret
      exact ⟨⟨-1, rfl, ⟨fun h => absurd h (by omega), fun h => absurd h (by have := HN.out; rwa [List.take_of_length_le (by omega)] at this)⟩⟩, rfl⟩

def memB (v : Int) (xs : List Int) : Bool := decide (v ∈ xs)

set_option maxHeartbeats 1000000 in set_option maxRecDepth 100000 in
theorem contains_any (b : Nat) (xs : List Int) (v : Int) (w : World) (hl : xs.length ≤ 1000) (hc : ∀ i x, xs[i]? = some x → w.cell? ⟨b, i, none⟩ = some (.int .i64 x)) :
    Calls Tryz.prog 49 #[.slice (some ⟨b, 0, none⟩) xs.length xs.length, .int .i64 v] w fun e w' => e = .returned (.bool (memB v xs)) ∧ w = w' := by
  have HC := Lib.hid hc; clear hc
  go_enter Tryz.func49, Tryz.ntmps49
  go_wp2_with fail
  refine (index_any _ _ _ _ hl HC.out).mono ?_
  rintro e w' ⟨⟨r, rfl, hr⟩, rfl⟩
  have HR := Lib.hid hr; clear hr
  go_wp2_with fail
  go_ret
  exact ⟨ret_bool (by have := HR.out; rw [Bool.eq_iff_iff]; simpa [memB] using this), rfl⟩

/-- May a frame be? -/
def rightB (p wd : Int) : Bool := (decide (p = 1024) || decide (p = 2048) || decide (p = 4096) || decide (p = 8192)) && decide (1 ≤ wd) && decide (wd ≤ 32)
theorem rightB_iff {p wd : Int} : rightB p wd = true ↔ (p = 1024 ∨ p = 2048 ∨ p = 4096 ∨ p = 8192) ∧ 1 ≤ wd ∧ wd ≤ 32 := by
  simp [rightB, and_assoc, or_assoc]

set_option maxHeartbeats 1000000 in set_option maxRecDepth 100000 in
theorem right_any (p wd : Int) (w : World) : Calls Tryz.prog 29 #[.agg #[.int .i64 p, .int .i64 wd]] w (Rets (.bool (rightB p wd)) w) := by
  obtain ⟨m, hm⟩ : ∃ m, memB p [1024, 2048, 4096, 8192] = m := ⟨_, rfl⟩
  have hr : rightB p wd = (m && decide (1 ≤ wd) && decide (wd ≤ 32)) := by
    rw [← hm, Bool.eq_iff_iff, rightB_iff]; simp [memB, and_assoc]
  have HM := Lib.hid hm; have HR := Lib.hid hr; clear hm hr
  have hl : ([1024, 2048, 4096, 8192] : List Int).length ≤ 1000 := by decide
  cases m
  · go_enter Tryz.func29, Tryz.ntmps29
    go_wp2_with fail
    refine (contains_any _ [1024, 2048, 4096, 8192] _ _ hl (by intro i x hx; match i, hx with | 0, hx => (simp at hx; subst hx; simp [go_sem]) | 1, hx => (simp at hx; subst hx; simp [go_sem]) | 2, hx => (simp at hx; subst hx; simp [go_sem]) | 3, hx => (simp at hx; subst hx; simp [go_sem]) | i + 4, hx => simp at hx)).mono ?_
    rintro e w' ⟨rfl, rfl⟩
    rw [HM.out]
    go_wp2_with fail
    go_ret
    rw [HR.out]
    exact ⟨rfl, by (try simp only [alloc_ext, drew_ext, drewN_ext, ext_ext]); exact ⟨_, _, rfl⟩⟩
  · go_enter Tryz.func29, Tryz.ntmps29
    go_wp2_with fail
    refine (contains_any _ [1024, 2048, 4096, 8192] _ _ hl (by intro i x hx; match i, hx with | 0, hx => (simp at hx; subst hx; simp [go_sem]) | 1, hx => (simp at hx; subst hx; simp [go_sem]) | 2, hx => (simp at hx; subst hx; simp [go_sem]) | 3, hx => (simp at hx; subst hx; simp [go_sem]) | i + 4, hx => simp at hx)).mono ?_
    rintro e w' ⟨rfl, rfl⟩
    rw [HM.out]
    go_wp2_with fail
    all_goals
      go_ret
      rw [HR.out]
      exact ⟨ret_bool (by rw [Bool.eq_iff_iff]; simp; omega), (by (try simp only [alloc_ext, drew_ext, drewN_ext, ext_ext]); exact ⟨_, _, rfl⟩)⟩

end Go.Proofs.YtemicgccgcmmbaaGreat

/- append onto a slice that is owned: whatever is appended; the new slice lies where the old one lay, or in new memory. -/
namespace Go.Proofs.YtemicgccgcmmbaaGreat
set_option linter.unusedVariables false
set_option linter.unusedSimpArgs false
open Go Go.RowKit

def ab (a : Option Addr) : List Nat := (a.map (·.block)).toList

/-- An owned slice. -/
def Own (w : World) (e : TypeId) (size : Nat) (a : Option Addr) (n c : Nat) (xs : List Value) : Prop := w.ownsRow 0 e size (.slice a n c) n xs

theorem Own.nil (w : World) (e : TypeId) (size : Nat) : Own w e size none 0 0 [] := World.ownsRow_nil w 0 e size
theorem Own.block {w : World} {e : TypeId} {size : Nat} {a : Option Addr} {n c : Nat} {xs : List Value} (h : Own w e size a n c xs) :
    xs.length = n * size ∧ ((a = none ∧ n = 0 ∧ c = 0) ∨ ∃ g cur, a = some ⟨g, 0, none⟩ ∧ Blk w g e cur ∧ n ≤ c ∧ c ≤ maxLen ∧ cur.size = c * size ∧ cur.toList.take (n * size) = xs) := by
  refine ⟨h.1, ?_⟩
  rcases h.2 with ⟨h1, h2⟩ | ⟨g, cap, cur, h1, _, h2, h3, h4, h5, h6⟩
  · left; cases h1; exact ⟨rfl, rfl, rfl⟩
  · right; cases h1; exact ⟨g, cur, rfl, h2, h3, h4, h5, h6⟩
theorem Own.kp {S : List Nat} {w w' : World} {e : TypeId} {size : Nat} {a : Option Addr} {n c : Nat} {xs : List Value} (h : Own w e size a n c xs) (k : Kp S w w') (hs : ∀ g ∈ ab a, g ∉ S) : Own w' e size a n c xs := by
  refine ⟨h.1, ?_⟩
  rcases h.2 with h1 | ⟨g, cap, cur, h1, h0, h2, h3⟩
  · exact .inl h1
  · cases h1
    exact .inr ⟨g, _, cur, rfl, h0, k.blk h2 (hs g (by simp [ab])), h3⟩
theorem Own.lt {w : World} {e : TypeId} {size : Nat} {a : Option Addr} {n c : Nat} {xs : List Value} (h : Own w e size a n c xs) : ∀ g ∈ ab a, g < w.heap.size := by
  intro g hg
  rcases h.block.2 with ⟨rfl, _⟩ | ⟨g', cur, rfl, hb, _⟩
  · simp [ab] at hg
  · simp [ab] at hg; subst hg; exact hb.lt
theorem Own.cells {w : World} {e : TypeId} {size : Nat} {a : Option Addr} {n c : Nat} {xs : List Value} (h : Own w e size a n c xs) {ad : Addr} (ha : a = some ad) : ∀ j u, xs[j]? = some u → w.cell? (ad.add j) = some u := by
  subst ha
  rcases h.block.2 with ⟨h1, _⟩ | ⟨g', cur, h1, hb, _⟩
  · cases h1
  · cases h1
    exact World.ownsRow.cells (g := g') h rfl

section
variable {P : Program} (w : World)

theorem run_app (t tx ty e : TypeId) (i : TypeInfo) (z : Value) (size bytes : Nat) (ht : P.underlying t = some (.slice e)) (hi : P.info? e = some i) (hz : i.zero = some z)
    (hsize : i.size = size) (hby : i.bytes = bytes) (hzs : z.cells.size = size)
    (a : Option Addr) (n c : Nat) (xs : List Value) (hown : Own w e size a n c xs) (x : Value) (m : Nat) (news : List Value) (hs : Src P size tx x m news w)
    (hbytes : (n + m) * bytes ≤ 140737488355328) (h63 : n + m ≤ maxLen) :
    ∃ a' c' w', (Builtin.append_ #[t, tx] ty #[.slice a n c, x]).run P w = .ok (.slice a' (n + m) c') w' ∧ Own w' e size a' (n + m) c' (xs ++ news) ∧ Kp (ab a) w w' ∧ (∀ g ∈ ab a', g ∈ ab a ∨ w.heap.size ≤ g) := by
  subst hsize
  subst hby
  have hlen : (xs ++ news).length = (n + m) * i.size := by rw [List.length_append, hown.1, hs.newsLen, Nat.add_mul]
  have grown : ∀ (old : Nat) (a0 : Option Addr), c = old → old < n + m → (Builtin.firstCells i.size n (.slice a0 n old)).run P w.drew = .ok xs.toArray w.drew →
      a0 = a → ∃ a' c' w', (Builtin.append_ #[t, tx] ty #[.slice a n c, x]).run P w = .ok (.slice a' (n + m) c') w' ∧ Own w' e i.size a' (n + m) c' (xs ++ news) ∧ Kp (ab a) w w' ∧ (∀ g ∈ ab a', g ∈ ab a ∨ w.heap.size ≤ g) := by
    intro old a0 hc ho hf ha
    subst hc ha
    have hr := run_append_grow_src w t tx ty e i z ht hi hz a0 n c xs hf x m news hs ho (by simp only [maxLen] at h63; omega) (growslice_fits (by omega) hbytes)
    have hge := grownCap_ge w (n + m) c e
    have hcm : grownCap w (n + m) c e ≤ maxLen := grownCap_le_maxLen w (n + m) c e h63
    refine ⟨_, _, _, hr, ⟨hlen, .inr ⟨w.heap.size, _, _, rfl, Nat.zero_le _, heap_alloc_new w.drew _, hge, hcm, ?_, ?_⟩⟩, ((Kp.refl _ _).drew).alloc _, fun g hg => .inr (by simp [ab] at hg; omega)⟩
    · simp only [Array.size_append, List.size_toArray, size_zeroCells, hzs, hlen, ← Nat.add_mul]
      congr 1
      omega
    · simp only [Array.toList_append]
      rw [← hlen]
      exact List.take_left
  rcases hown.block.2 with ⟨rfl, rfl, rfl⟩ | ⟨g, cur, rfl, hb, hnc, hcm, hcs, htake⟩
  · have hx : xs = [] := List.eq_nil_of_length_eq_zero (by simpa using hown.1)
    subst hx
    by_cases hm : m = 0
    · subst hm
      have hn : news = [] := List.eq_nil_of_length_eq_zero (by simpa using hs.newsLen)
      subst hn
      refine ⟨none, 0, w, ?_, Own.nil w e i.size, Kp.refl _ _, by simp [ab]⟩
      rcases hs.kind with ⟨e', hk⟩ | hk <;> simp [Builtin.append_, run_underlying ht, run_underlying hk, sizeOf, typeInfo, hi, hs.len, hs.cells]
    · exact grown 0 none rfl (by omega) (by simp [Builtin.firstCells]) rfl
  · by_cases hroom : n + m ≤ c
    · have hfit : n * i.size + news.length ≤ cur.size := by rw [hs.newsLen, hcs, ← Nat.add_mul]; exact Nat.mul_le_mul_right _ hroom
      have hst := run_storeCells_at P g (n * i.size) e news 0 cur w hb (by simpa using hfit) hs.one
      simp only [Nat.add_zero] at hst
      refine ⟨some ⟨g, 0, none⟩, c, w.setRow g (cur.toList.take (n * i.size) ++ news ++ cur.toList.drop (n * i.size + news.length)).toArray, ?_, ⟨hlen, .inr ⟨g, c, (cur.toList.take (n * i.size) ++ news ++ cur.toList.drop (n * i.size + news.length)).toArray, rfl, Nat.zero_le _, setRow_heap w g cur _ e _ hb, hroom, hcm, ?_, ?_⟩⟩, (Kp.refl _ _).setRow _ _ (.inr (by simp [ab])), fun g' hg' => .inl hg'⟩
      · rcases hs.kind with ⟨e', hk⟩ | hk <;> simp [Builtin.append_, run_underlying ht, run_underlying hk, sizeOf, typeInfo, hi, hs.len, hroom, hs.cells, Addr.add_lit, hst]
      · simp only [List.size_toArray, List.length_append, List.length_take, List.length_drop, Array.length_toList]
        omega
      · rw [htake, ← hlen]
        exact List.take_left
    · have holds : ∀ j u, xs[j]? = some u → w.drew.cell? ((⟨g, 0, none⟩ : Addr).add j) = some u := hown.cells rfl
      exact grown c (some ⟨g, 0, none⟩) rfl (by omega) (run_firstCells_some w.drew i.size n ⟨g, 0, none⟩ n c xs hown.1 holds) rfl

theorem wp_app {o : Oper} {A : Act} {K : Act → World → Prop} {Q : Exit → Act → World → Prop} (s x : Operand) (t tx : TypeId)
    (ho : o.op = .call { callee := .builtin .append, args := #[s, x], argTypes := #[t, tx] })
    (e : TypeId) (i : TypeInfo) (z : Value) (size bytes : Nat) (ht : P.underlying t = some (.slice e)) (hi : P.info? e = some i) (hz : i.zero = some z)
    (hsize : i.size = size) (hby : i.bytes = bytes) (hzs : z.cells.size = size)
    (a : Option Addr) (n c : Nat) (xs : List Value) (hs : A.eval s = .slice a n c) (hown : Own w e size a n c xs) (m : Nat) (news : List Value) (hsrc : Src P size tx (A.eval x) m news w)
    (hbytes : (n + m) * bytes ≤ 140737488355328) (h63 : n + m ≤ maxLen)
    (h : ∀ a' c' w', Own w' e size a' (n + m) c' (xs ++ news) → Kp (ab a) w w' → (∀ g ∈ ab a', g ∈ ab a ∨ w.heap.size ≤ g) → K (A.put o.dst (.slice a' (n + m) c')) w') : o.wp P A w K Q := by
  obtain ⟨a', c', w', hr, h2, h3, h4⟩ := run_app (P := P) w t tx o.type e i z size bytes ht hi hz hsize hby hzs a n c xs hown _ m news hsrc hbytes h63
  unfold Oper.wp execOp
  simp only [ho, resolve, invoke, builtin, Sem.run_bind, Sem.run_pure, Result.andThen_ok, List.map_toArray, List.map_cons, List.map_nil, hs, hr]
  exact h a' c' w' h2 h3 h4

theorem wpList_app {ops : Array Oper} {rest : List Oper} {o : Oper} {A : Act} {Q : Exit → Act → World → Prop} (hgd : o.guard = none) (s x : Operand) (t tx : TypeId)
    (ho : o.op = .call { callee := .builtin .append, args := #[s, x], argTypes := #[t, tx] })
    (e : TypeId) (i : TypeInfo) (z : Value) (size bytes : Nat) (ht : P.underlying t = some (.slice e)) (hi : P.info? e = some i) (hz : i.zero = some z)
    (hsize : i.size = size) (hby : i.bytes = bytes) (hzs : z.cells.size = size)
    (a : Option Addr) (n c : Nat) (xs : List Value) (hs : A.eval s = .slice a n c) (hown : Own w e size a n c xs) (m : Nat) (news : List Value) (hsrc : Src P size tx (A.eval x) m news w)
    (hbytes : (n + m) * bytes ≤ 140737488355328) (h63 : n + m ≤ maxLen)
    (h : ∀ a' c' w', Own w' e size a' (n + m) c' (xs ++ news) → Kp (ab a) w w' → (∀ g ∈ ab a', g ∈ ab a ∨ w.heap.size ≤ g) → wpList P ops Q rest (A.put o.dst (.slice a' (n + m) c')) w') : wpList P ops Q (o :: rest) A w :=
  wpList_plain hgd fun _ hK => wp_app w s x t tx ho e i z size bytes ht hi hz hsize hby hzs a n c xs hs hown m news hsrc hbytes h63 fun a' c' w' h2 h3 h4 => hK _ _ (h a' c' w' h2 h3 h4)
end

theorem Tryz.infoU8 : (Tryz.prog.info? 5).map (fun i => (i.zero, i.size, i.bytes)) = some (some (.int .u8 0), 1, 1) := by kernel_rfl

/-- append onto an owned []byte. -/
theorem wpList_app_u8 {w : World} {ops : Array Oper} {rest : List Oper} {o : Oper} {A : Act} {Q : Exit → Act → World → Prop} (hgd : o.guard = none) {s x : Operand} {tx : TypeId}
    (ho : o.op = .call { callee := .builtin .append, args := #[s, x], argTypes := #[66, tx] })
    {a : Option Addr} {n c : Nat} {xs : List Value} (hs : A.eval s = .slice a n c) (hown : Own w 5 1 a n c xs) (m : Nat) (news : List Value) (hsrc : Src Tryz.prog 1 tx (A.eval x) m news w)
    (h63 : n + m ≤ 140737488355328)
    (h : ∀ a' c' w', Own w' 5 1 a' (n + m) c' (xs ++ news) → Kp (ab a) w w' → (∀ g ∈ ab a', g ∈ ab a ∨ w.heap.size ≤ g) → wpList Tryz.prog ops Q rest (A.put o.dst (.slice a' (n + m) c')) w') : wpList Tryz.prog ops Q (o :: rest) A w := by
  obtain ⟨i0, hi, hz0, hz1, hz2⟩ := info_parts Tryz.infoU8
  exact wpList_app w hgd s x 66 tx ho 5 i0 (.int .u8 0) 1 1 Tryz.underlying66 hi hz0 hz1 hz2 rfl a n c xs hs hown m news hsrc (by omega) (by unfold maxLen; omega) h

end Go.Proofs.YtemicgccgcmmbaaGreat

/- Nodes as they lie in memory. -/
namespace Go.Proofs.YtemicgccgcmmbaaGreat
set_option linter.unusedVariables false
set_option linter.unusedSimpArgs false
open Go Go.RowKit

/-- A kid: its page, its digest. -/
structure Kd where
  page : Nat
  sum : Dg
deriving DecidableEq

def Kd.c (k : Kd) : Array Value := (.int .u32 (k.page : Int) :: bC k.sum.l).toArray
@[simp, go_sem] theorem Kd.c_size (k : Kd) : k.c.size = 33 := by simp [Kd.c, bC, k.sum.h]
@[simp, go_sem] theorem okCells_kd (k : Kd) : okCells k.c = true := okCells_of (by
  intro v hv
  simp only [Kd.c, List.mem_cons] at hv
  rcases hv with rfl | hv
  · rfl
  · exact bC_one _ v hv)
@[go_sem] theorem Kd.get0 (k : Kd) : k.c[0]? = some (.int .u32 (k.page : Int)) := by simp [Kd.c]
@[go_sem] theorem Kd.extract1 (k : Kd) : k.c.extract 1 33 = k.sum.c := by
  apply Array.ext'
  simp [Kd.c, Dg.c, List.extract_eq_take_drop]
  exact List.take_of_length_le (by simp [bC, k.sum.h])
@[go_sem] theorem Kd.extract_all (k : Kd) : k.c.extract 0 33 = k.c := by simp [Array.extract_eq_self_of_le]
@[go_sem] theorem spl_kd (d e : Kd) : spl e.c 0 d.c = d.c := spl_whole _ _ (by simp)
def Kd.zero : Kd := ⟨0, Dg.zero⟩
theorem zero33 : Kd.zero.c = (.int .u32 0 :: Dg.zero.c.toList).toArray := by simp [Kd.zero, Kd.c, Dg.c]
@[go_sem ↓] theorem zero_kd (w : World) : (zeroValue 59).run Tryz.prog w = .ok (.agg Kd.zero.c) w := by
  rw [zero33, zero32]; kernel_rfl
@[go_sem ↓] theorem exec_load_kd (a : Act) (dst : Option Tmp) (x : Operand) (ty : TypeId) (pos : String) (after : Array Edge) (guard : Option (Nat × Bool)) :
    execOp a.eval { dst, op := .load 59 x, type := ty, pos, after, guard } = ldBig 59 (a.eval x) := rfl
@[go_sem ↓] theorem exec_store_kd (a : Act) (dst : Option Tmp) (x y : Operand) (ty : TypeId) (pos : String) (after : Array Edge) (guard : Option (Nat × Bool)) :
    execOp a.eval { dst, op := .store 59 x y, type := ty, pos, after, guard } = stBig 59 (a.eval x) (a.eval y) := rfl
@[go_sem] theorem run_load_kd (a : Addr) (w : World) : (ldBig 59 (.pointer (some a))).run Tryz.prog w = match rowAt? w a 33 with | some cs => .ok (.value (.agg cs)) w | none => slowLd Tryz.prog 59 (.pointer (some a)) w :=
  run_ldBig Tryz.prog 59 33 _ Tryz.underlying59 rfl (by kernel_rfl) a w
@[go_sem] theorem run_store_kd (g o : Nat) (cs : Array Value) (w : World) : (stBig 59 (.pointer (some ⟨g, o, none⟩)) (.agg cs)).run Tryz.prog w = match own? w g with | some c => (if o + 33 ≤ c.size ∧ cs.size = 33 ∧ okCells cs = true then .ok .skip (w.setRow g (spl c o cs)) else slowSt Tryz.prog 59 (.pointer (some ⟨g, o, none⟩)) (.agg cs) w) | none => slowSt Tryz.prog 59 (.pointer (some ⟨g, o, none⟩)) (.agg cs) w :=
  run_stBig Tryz.prog 59 33 (by kernel_rfl) g o cs w

abbrev Pr := Bs × Bs
/-- A node. -/
structure Nd where
  pairs : List Pr
  seps : List Bs
  kids : List Kd
deriving DecidableEq

def PsAt (w : World) (a : Option Addr) (ps : List Pr) : Prop := ∀ i p, ps[i]? = some p → ∃ b o, a = some ⟨b, o, none⟩ ∧ b < w.heap.size ∧ w.cell? ⟨b, o + i * 2, none⟩ = some (.string ⟨p.1.toArray⟩) ∧ w.cell? ⟨b, o + i * 2 + 1, none⟩ = some (.string ⟨p.2.toArray⟩)
def SsAt (w : World) (a : Option Addr) (ss : List Bs) : Prop := ∀ i p, ss[i]? = some p → ∃ b o, a = some ⟨b, o, none⟩ ∧ b < w.heap.size ∧ w.cell? ⟨b, o + i, none⟩ = some (.string ⟨p.toArray⟩)
def KsAt (w : World) (a : Option Addr) (ks : List Kd) : Prop := ∀ i k, ks[i]? = some k → ∃ b o, a = some ⟨b, o, none⟩ ∧ b < w.heap.size ∧ rowAt? w ⟨b, o + i * 33, none⟩ 33 = some k.c

theorem PsAt.nil (w : World) (a : Option Addr) : PsAt w a [] := by intro i p h; simp at h
theorem SsAt.nil (w : World) (a : Option Addr) : SsAt w a [] := by intro i p h; simp at h
theorem KsAt.nil (w : World) (a : Option Addr) : KsAt w a [] := by intro i p h; simp at h
theorem PsAt.kp {S : List Nat} {w w' : World} {a : Option Addr} {ps : List Pr} (h : PsAt w a ps) (k : Kp S w w') (hs : ∀ b ∈ ab a, b ∉ S) : PsAt w' a ps := by
  intro i p hp
  obtain ⟨b, o, ha, hb, h1, h2⟩ := h i p hp
  have : b ∉ S := hs b (by simp [ab, ha])
  exact ⟨b, o, ha, Nat.lt_of_lt_of_le hb k.size, k.cell h1 this, k.cell h2 this⟩
theorem SsAt.kp {S : List Nat} {w w' : World} {a : Option Addr} {ps : List Bs} (h : SsAt w a ps) (k : Kp S w w') (hs : ∀ b ∈ ab a, b ∉ S) : SsAt w' a ps := by
  intro i p hp
  obtain ⟨b, o, ha, hb, h1⟩ := h i p hp
  have : b ∉ S := hs b (by simp [ab, ha])
  exact ⟨b, o, ha, Nat.lt_of_lt_of_le hb k.size, k.cell h1 this⟩
theorem KsAt.kp {S : List Nat} {w w' : World} {a : Option Addr} {ps : List Kd} (h : KsAt w a ps) (k : Kp S w w') (hs : ∀ b ∈ ab a, b ∉ S) : KsAt w' a ps := by
  intro i p hp
  obtain ⟨b, o, ha, hb, h1⟩ := h i p hp
  have : b ∉ S := hs b (by simp [ab, ha])
  exact ⟨b, o, ha, Nat.lt_of_lt_of_le hb k.size, rowAt?_kp k h1 this⟩

/-- The bounds that every node in memory has. -/
structure NdOk (n : Nd) : Prop where
  np : n.pairs.length ≤ 4398046511104
  ns : n.seps.length ≤ 8796093022208
  nk : n.kids.length ≤ 3909374676453
  sp : ∀ p ∈ n.pairs, p.1.length ≤ 140737488351232 ∧ p.2.length ≤ 140737488351232
  ss : ∀ p ∈ n.seps, p.length ≤ 140737488351232
  pg : ∀ k ∈ n.kids, k.page < 4294967296

/-- A node's three slices, and what stands in them. -/
structure NdAt (w : World) (pa sa ka : Option Addr) (n : Nd) : Prop where
  ps : PsAt w pa n.pairs
  ss : SsAt w sa n.seps
  ks : KsAt w ka n.kids

theorem NdAt.kp {S : List Nat} {w w' : World} {pa sa ka : Option Addr} {n : Nd} (h : NdAt w pa sa ka n) (k : Kp S w w') (h1 : ∀ b ∈ ab pa, b ∉ S) (h2 : ∀ b ∈ ab sa, b ∉ S) (h3 : ∀ b ∈ ab ka, b ∉ S) : NdAt w' pa sa ka n :=
  ⟨h.ps.kp k h1, h.ss.kp k h2, h.ks.kp k h3⟩
theorem NdAt.kp0 {w w' : World} {pa sa ka : Option Addr} {n : Nd} (h : NdAt w pa sa ka n) (k : Kp [] w w') : NdAt w' pa sa ka n := h.kp k (by simp) (by simp) (by simp)

end Go.Proofs.YtemicgccgcmmbaaGreat

/- Keys that rise. -/
namespace Go.Proofs.YtemicgccgcmmbaaGreat
set_option linter.unusedVariables false
set_option linter.unusedSimpArgs false
open Go Go.RowKit

def risesFrom (m : Nat) : Option Bs → List Bs → Bool
  | _, [] => true
  | pv, k :: t => decide (1 ≤ k.length) && decide (k.length ≤ m) && (match pv with | none => true | some q => Op.bytesLess q k) && risesFrom m (some k) t

theorem risesDrop {α : Type} (l : List α) (k : Nat) (x : α) (hx : l[k]? = some x) (m : Nat) (f : α → Bs) :
    risesFrom m (if k = 0 then none else (l[k - 1]?).map f) ((l.drop k).map f) =
      (decide (1 ≤ (f x).length) && decide ((f x).length ≤ m) && (match (if k = 0 then none else (l[k - 1]?).map f) with | none => true | some q => Op.bytesLess q (f x)) && risesFrom m (if k + 1 = 0 then none else (l[k + 1 - 1]?).map f) ((l.drop (k + 1)).map f)) := by
  obtain ⟨hk, rfl⟩ := List.getElem?_eq_some_iff.1 hx
  rw [← List.getElem_cons_drop hk]
  simp only [List.map_cons, risesFrom, Nat.add_eq_zero_iff, Nat.one_ne_zero, and_false, if_false, Nat.add_sub_cancel, hx, Option.map_some]

theorem risesDrop' (l : List Bs) (k : Nat) (x : Bs) (hx : l[k]? = some x) (m : Nat) :
    risesFrom m (if k = 0 then none else l[k - 1]?) (l.drop k) =
      (decide (1 ≤ x.length) && decide (x.length ≤ m) && (match (if k = 0 then none else l[k - 1]?) with | none => true | some q => Op.bytesLess q x) && risesFrom m (if k + 1 = 0 then none else l[k + 1 - 1]?) (l.drop (k + 1))) := by
  have := risesDrop l k x hx m (fun x => x)
  simpa using this
theorem rises_no1 {r r' : Bool} {x : Bs} {m : Nat} {pv : Option Bs} (h : r = (decide (1 ≤ x.length) && decide (x.length ≤ m) && (match pv with | none => true | some q => Op.bytesLess q x) && r')) (h1 : x.length < 1) : r = false := by
  rw [h, show decide (1 ≤ x.length) = false from decide_eq_false (by omega)]; rfl
theorem rises_no2 {r r' : Bool} {x : Bs} {m : Nat} {pv : Option Bs} (h : r = (decide (1 ≤ x.length) && decide (x.length ≤ m) && (match pv with | none => true | some q => Op.bytesLess q x) && r')) (h1 : m < x.length) : r = false := by
  rw [h, show decide (x.length ≤ m) = false from decide_eq_false (by omega)]; simp
theorem rises_no3 {r r' : Bool} {x q : Bs} {m : Nat} (h : r = (decide (1 ≤ x.length) && decide (x.length ≤ m) && (match some q with | none => true | some q => Op.bytesLess q x) && r')) (h1 : Op.bytesLess q x = false) : r = false := by
  rw [h]; simp [h1]
theorem rises_yes0 {r r' : Bool} {x : Bs} {m : Nat} (h : r = (decide (1 ≤ x.length) && decide (x.length ≤ m) && (match (none : Option Bs) with | none => true | some q => Op.bytesLess q x) && r')) (h1 : ¬ x.length < 1) (h2 : ¬ m < x.length) : r = r' := by
  rw [h, decide_eq_true (show 1 ≤ x.length by omega), decide_eq_true (show x.length ≤ m by omega)]; rfl
theorem rises_yes {r r' : Bool} {x q : Bs} {m : Nat} (h : r = (decide (1 ≤ x.length) && decide (x.length ≤ m) && (match some q with | none => true | some q => Op.bytesLess q x) && r')) (h1 : ¬ x.length < 1) (h2 : ¬ m < x.length) (h3 : Op.bytesLess q x = true) : r = r' := by
  rw [h, decide_eq_true (show 1 ≤ x.length by omega), decide_eq_true (show x.length ≤ m by omega)]; simp [h3]

set_option maxHeartbeats 1000000 in set_option maxRecDepth 100000 in
theorem pair_key (p : Pr) (w : World) : Calls Tryz.prog 53 #[.agg #[.string ⟨p.1.toArray⟩, .string ⟨p.2.toArray⟩]] w (Rets (.string ⟨p.1.toArray⟩) w) := by
  go_enter Tryz.func53, Tryz.ntmps53
  go_wp2
  go_ret
  exact ⟨rfl, by (try simp only [alloc_ext, drew_ext, drewN_ext, ext_ext]); exact ⟨_, _, rfl⟩⟩

set_option maxHeartbeats 1000000 in set_option maxRecDepth 100000 in
theorem sep_key (p : Bs) (w : World) : Calls Tryz.prog 59 #[.string ⟨p.toArray⟩] w fun e w' => e = .returned (.string ⟨p.toArray⟩) ∧ w = w' := by
  go_enter Tryz.func59, Tryz.ntmps59
  go_wp2
  go_ret
  exact ⟨rfl, rfl⟩

set_option maxHeartbeats 1000000 in set_option maxRecDepth 100000 in
theorem rises_pair (P : Nat) (wd : Int) (a : Option Addr) (c : Nat) (l : List Pr) (w : World) (hP : P ≤ 8192) (hl : l.length ≤ 8796093022208) (hs : ∀ x ∈ l, (x.1).length ≤ 140737488351232) (h : PsAt w a l) :
    Calls Tryz.prog 52 #[.agg #[.int .i64 P, .int .i64 wd], .slice a l.length c, .func (.func 53) #[] #[]] w (Rets (.bool (risesFrom (P / 16) none (l.map fun x => x.1))) w) := by
  have H := Lib.hid h; clear h
  have HS := Lib.hid hs; clear hs
  go_enter Tryz.func52, Tryz.ntmps52
  go_wp2
  go_loopw [7, 8, 9, 12] (fun _ _ _ i wr => ∃ k bs n, i = .int .i64 (k : Nat) ∧ k ≤ l.length ∧ wr = ext (w.alloc (.cells #[.int .i64 P, .int .i64 wd] 23)) bs n ∧ Hid (risesFrom (P / 16) none (l.map fun x => x.1) = risesFrom (P / 16) (if k = 0 then none else (l[k - 1]?).map fun x => x.1) ((l.drop k).map fun x => x.1))) (fun _ _ _ i _ => l.length - (intOf i).toNat)
  case atStart => exact ⟨0, [], 0, rfl, Nat.zero_le _, ext_zero _, rfl⟩
  case round =>
    obtain ⟨k, bs, n, rfl, hk, rfl, HE⟩ := hrel
    by_cases hlt : k < l.length
    · obtain ⟨x, hx⟩ : ∃ x, l[k]? = some x := ⟨_, List.getElem?_eq_getElem hlt⟩
      have hd := risesDrop l k x hx (P / 16) (fun x => x.1)
      obtain ⟨b, o, rfl, hb, cf1, cf2⟩ := H.out k x hx
      have hxl := HS.out x (List.mem_of_getElem? hx)
      have HX := Lib.hid hx; have HD := Lib.hid hd; clear hx hd
      have hbb : b < w.heap.size + 1 := by omega
      by_cases h1 : (x.1).length < 1
      · have hf := Lib.hid (rises_no1 (x := x.1) (HE.out.trans (by rw [HD.out])) h1)
        go_wp2_with (go_at_call 53; refine (pair_key _ _).mono ?_; rintro e w' ⟨rfl, bs1, n1, rfl⟩)
        go_ret
        rw [hf.out]
        exact ⟨rfl, by (try simp only [alloc_ext, drew_ext, drewN_ext, ext_ext]); exact ⟨_, _, rfl⟩⟩
      · by_cases h2 : P / 16 < (x.1).length
        · have hf := Lib.hid (rises_no2 (x := x.1) (HE.out.trans (by rw [HD.out])) h2)
          go_wp2_with (first | (go_at_call 53; refine (pair_key _ _).mono ?_; rintro e w' ⟨rfl, bs1, n1, rfl⟩) | (go_at_call 67; refine (maxKey_any _ _ _ (by omega) (by omega)).mono ?_; rintro e w' ⟨rfl, bs2, n2, rfl⟩))
          go_ret
          rw [hf.out]
          exact ⟨rfl, by (try simp only [alloc_ext, drew_ext, drewN_ext, ext_ext]); exact ⟨_, _, rfl⟩⟩
        · by_cases h3 : 0 < k
          · obtain ⟨y, hy⟩ : ∃ y, l[k - 1]? = some y := ⟨_, List.getElem?_eq_getElem (show k - 1 < l.length by omega)⟩
            obtain ⟨b', o', hb', hb'', cg1, cg2⟩ := H.out (k - 1) y hy
            obtain ⟨rfl, rfl⟩ : b' = b ∧ o' = o := by cases hb'; exact ⟨rfl, rfl⟩
            clear hb' hb''
            have hkk : ((k : Int) - 1).toNat = k - 1 := by omega
            have HY := Lib.hid hy; clear hy
            have hpv : (if k = 0 then none else (l[k - 1]?).map fun x => x.1) = some (y.1) := by rw [if_neg (by omega), HY.out]; rfl
            have HV := Lib.hid hpv; clear hpv
            by_cases h4 : Op.bytesLess (y.1) (x.1) = true
            · have hf := Lib.hid (rises_yes (x := x.1) (HE.out.trans (by rw [HD.out, HV.out])) h1 h2 h4)
              go_wp2_with (first | (go_at_call 53; refine (pair_key _ _).mono ?_; rintro e w' ⟨rfl, bs1, n1, rfl⟩) | (go_at_call 67; refine (maxKey_any _ _ _ (by omega) (by omega)).mono ?_; rintro e w' ⟨rfl, bs2, n2, rfl⟩))
              go_roundw
              case rel => exact ⟨k + 1, _, _, by go_num, by omega, by (try simp only [ext_alloc, ext_drew, ext_drewN, ext_ext]); rfl, hf.out⟩
              case measure => simp [intOf]; omega
            · have h4' : Op.bytesLess (y.1) (x.1) = false := by simpa using h4
              clear h4
              have hf := Lib.hid (rises_no3 (x := x.1) (HE.out.trans (by rw [HD.out, HV.out])) h4')
              go_wp2_with (first | (go_at_call 53; refine (pair_key _ _).mono ?_; rintro e w' ⟨rfl, bs1, n1, rfl⟩) | (go_at_call 67; refine (maxKey_any _ _ _ (by omega) (by omega)).mono ?_; rintro e w' ⟨rfl, bs2, n2, rfl⟩))
              go_ret
              rw [hf.out]
              exact ⟨rfl, by (try simp only [alloc_ext, drew_ext, drewN_ext, ext_ext]); exact ⟨_, _, rfl⟩⟩
          · have hpv : (if k = 0 then none else (l[k - 1]?).map fun x => x.1) = none := by rw [if_pos (by omega)]
            have hf := Lib.hid (rises_yes0 (x := x.1) (HE.out.trans (by rw [HD.out, hpv])) h1 h2)
            clear hpv
            go_wp2_with (first | (go_at_call 53; refine (pair_key _ _).mono ?_; rintro e w' ⟨rfl, bs1, n1, rfl⟩) | (go_at_call 67; refine (maxKey_any _ _ _ (by omega) (by omega)).mono ?_; rintro e w' ⟨rfl, bs2, n2, rfl⟩))
            go_roundw
            case rel => exact ⟨k + 1, _, _, by go_num, by omega, by (try simp only [ext_alloc, ext_drew, ext_drewN, ext_ext]); rfl, hf.out⟩
            case measure => simp [intOf]; omega
    · have hf : Hid (risesFrom (P / 16) none (l.map fun x => x.1) = true) := by show _ = _; rw [HE.out, List.drop_of_length_le (by omega)]; rfl
      go_wp2
      go_ret
      rw [hf.out]
      exact ⟨rfl, by (try simp only [alloc_ext, drew_ext, drewN_ext, ext_ext]); exact ⟨_, _, rfl⟩⟩

set_option maxHeartbeats 1000000 in set_option maxRecDepth 100000 in
theorem rises_sep (P : Nat) (wd : Int) (a : Option Addr) (c : Nat) (l : List Bs) (w : World) (hP : P ≤ 8192) (hl : l.length ≤ 8796093022208) (hs : ∀ x ∈ l, (x).length ≤ 140737488351232) (h : SsAt w a l) :
    Calls Tryz.prog 58 #[.agg #[.int .i64 P, .int .i64 wd], .slice a l.length c, .func (.func 59) #[] #[]] w (Rets (.bool (risesFrom (P / 16) none l)) w) := by
  have H := Lib.hid h; clear h
  have HS := Lib.hid hs; clear hs
  go_enter Tryz.func58, Tryz.ntmps58
  go_wp2
  go_loopw [7, 8, 9, 12] (fun _ _ _ i wr => ∃ k bs n, i = .int .i64 (k : Nat) ∧ k ≤ l.length ∧ wr = ext (w.alloc (.cells #[.int .i64 P, .int .i64 wd] 23)) bs n ∧ Hid (risesFrom (P / 16) none l = risesFrom (P / 16) (if k = 0 then none else l[k - 1]?) (l.drop k))) (fun _ _ _ i _ => l.length - (intOf i).toNat)
  case atStart => exact ⟨0, [], 0, rfl, Nat.zero_le _, ext_zero _, rfl⟩
  case round =>
    obtain ⟨k, bs, n, rfl, hk, rfl, HE⟩ := hrel
    by_cases hlt : k < l.length
    · obtain ⟨x, hx⟩ : ∃ x, l[k]? = some x := ⟨_, List.getElem?_eq_getElem hlt⟩
      have hd := risesDrop' l k x hx (P / 16)
      obtain ⟨b, o, rfl, hb, cf1⟩ := H.out k x hx
      have hxl := HS.out x (List.mem_of_getElem? hx)
      have HX := Lib.hid hx; have HD := Lib.hid hd; clear hx hd
      have hbb : b < w.heap.size + 1 := by omega
      by_cases h1 : (x).length < 1
      · have hf := Lib.hid (rises_no1 (x := x) (HE.out.trans (by rw [HD.out])) h1)
        go_wp2_with (go_at_call 59; refine (sep_key _ _).mono ?_; rintro e w' ⟨rfl, rfl⟩)
        go_ret
        rw [hf.out]
        exact ⟨rfl, by (try simp only [alloc_ext, drew_ext, drewN_ext, ext_ext]); exact ⟨_, _, rfl⟩⟩
      · by_cases h2 : P / 16 < (x).length
        · have hf := Lib.hid (rises_no2 (x := x) (HE.out.trans (by rw [HD.out])) h2)
          go_wp2_with (first | (go_at_call 59; refine (sep_key _ _).mono ?_; rintro e w' ⟨rfl, rfl⟩) | (go_at_call 67; refine (maxKey_any _ _ _ (by omega) (by omega)).mono ?_; rintro e w' ⟨rfl, bs2, n2, rfl⟩))
          go_ret
          rw [hf.out]
          exact ⟨rfl, by (try simp only [alloc_ext, drew_ext, drewN_ext, ext_ext]); exact ⟨_, _, rfl⟩⟩
        · by_cases h3 : 0 < k
          · obtain ⟨y, hy⟩ : ∃ y, l[k - 1]? = some y := ⟨_, List.getElem?_eq_getElem (show k - 1 < l.length by omega)⟩
            obtain ⟨b', o', hb', hb'', cg1⟩ := H.out (k - 1) y hy
            obtain ⟨rfl, rfl⟩ : b' = b ∧ o' = o := by cases hb'; exact ⟨rfl, rfl⟩
            clear hb' hb''
            have hkk : ((k : Int) - 1).toNat = k - 1 := by omega
            have HY := Lib.hid hy; clear hy
            have hpv : (if k = 0 then none else l[k - 1]?) = some (y) := by rw [if_neg (by omega), HY.out]
            have HV := Lib.hid hpv; clear hpv
            by_cases h4 : Op.bytesLess (y) (x) = true
            · have hf := Lib.hid (rises_yes (x := x) (HE.out.trans (by rw [HD.out, HV.out])) h1 h2 h4)
              go_wp2_with (first | (go_at_call 59; refine (sep_key _ _).mono ?_; rintro e w' ⟨rfl, rfl⟩) | (go_at_call 67; refine (maxKey_any _ _ _ (by omega) (by omega)).mono ?_; rintro e w' ⟨rfl, bs2, n2, rfl⟩))
              go_roundw
              case rel => exact ⟨k + 1, _, _, by go_num, by omega, by (try simp only [ext_alloc, ext_drew, ext_drewN, ext_ext]); rfl, hf.out⟩
              case measure => simp [intOf]; omega
            · have h4' : Op.bytesLess (y) (x) = false := by simpa using h4
              clear h4
              have hf := Lib.hid (rises_no3 (x := x) (HE.out.trans (by rw [HD.out, HV.out])) h4')
              go_wp2_with (first | (go_at_call 59; refine (sep_key _ _).mono ?_; rintro e w' ⟨rfl, rfl⟩) | (go_at_call 67; refine (maxKey_any _ _ _ (by omega) (by omega)).mono ?_; rintro e w' ⟨rfl, bs2, n2, rfl⟩))
              go_ret
              rw [hf.out]
              exact ⟨rfl, by (try simp only [alloc_ext, drew_ext, drewN_ext, ext_ext]); exact ⟨_, _, rfl⟩⟩
          · have hpv : (if k = 0 then none else l[k - 1]?) = none := by rw [if_pos (by omega)]
            have hf := Lib.hid (rises_yes0 (x := x) (HE.out.trans (by rw [HD.out, hpv])) h1 h2)
            clear hpv
            go_wp2_with (first | (go_at_call 59; refine (sep_key _ _).mono ?_; rintro e w' ⟨rfl, rfl⟩) | (go_at_call 67; refine (maxKey_any _ _ _ (by omega) (by omega)).mono ?_; rintro e w' ⟨rfl, bs2, n2, rfl⟩))
            go_roundw
            case rel => exact ⟨k + 1, _, _, by go_num, by omega, by (try simp only [ext_alloc, ext_drew, ext_drewN, ext_ext]); rfl, hf.out⟩
            case measure => simp [intOf]; omega
    · have hf : Hid (risesFrom (P / 16) none l = true) := by show _ = _; rw [HE.out, List.drop_of_length_le (by omega)]; rfl
      go_wp2
      go_ret
      rw [hf.out]
      exact ⟨rfl, by (try simp only [alloc_ext, drew_ext, drewN_ext, ext_ext]); exact ⟨_, _, rfl⟩⟩

end Go.Proofs.YtemicgccgcmmbaaGreat

/- A list is searched by a function. -/
namespace Go.Proofs.YtemicgccgcmmbaaGreat
set_option linter.unusedVariables false
set_option linter.unusedSimpArgs false
open Go Go.RowKit

/-- The first place at which a thing is found; -1: none. -/
def ixOf {α : Type} (pred : α → Bool) (l : List α) : Int := match l.findIdx? pred with | some i => (i : Int) | none => -1
theorem ixOf_yes {α : Type} {pred : α → Bool} {l : List α} {k : Nat} {x : α} (h : ∀ y ∈ l.take k, pred y = false) (hx : l[k]? = some x) (hp : pred x = true) : ixOf pred l = k := by
  have : l.findIdx? pred = some k := by
    rw [List.findIdx?_eq_some_iff_getElem]
    obtain ⟨hk, rfl⟩ := List.getElem?_eq_some_iff.1 hx
    refine ⟨hk, hp, fun j hj => ?_⟩
    have := h (l[j]'(by omega)) (by rw [List.mem_take_iff_getElem]; exact ⟨j, by omega, rfl⟩)
    simpa using this
  simp [ixOf, this]
theorem ixOf_no {α : Type} {pred : α → Bool} {l : List α} (h : ∀ y ∈ l, pred y = false) : ixOf pred l = -1 := by
  have : l.findIdx? pred = none := by
    rw [List.findIdx?_eq_none_iff]; exact h
  simp [ixOf, this]
theorem ixOf_any {α : Type} (pred : α → Bool) (l : List α) : decide (0 ≤ ixOf pred l) = l.any pred := by
  unfold ixOf
  cases h : l.findIdx? pred with
  | none =>
    rw [List.findIdx?_eq_none_iff] at h
    have : l.any pred = false := by simpa using h
    rw [this]; rfl
  | some i =>
    rw [List.findIdx?_eq_some_iff_getElem] at h
    obtain ⟨hi, hp, _⟩ := h
    have : l.any pred = true := by rw [List.any_eq_true]; exact ⟨_, List.getElem_mem hi, hp⟩
    rw [this]; simp

set_option maxHeartbeats 1000000 in set_option maxRecDepth 100000 in
theorem ixf_pair (fid : FuncId) (cap : Array Value) (pred : Pr → Bool) (a : Option Addr) (c : Nat) (l : List Pr) (w : World) (hl : l.length ≤ 8796093022208) (h : PsAt w a l) (hfn : ∀ args w, (callFunc fid args).run Tryz.prog w = .ok (.enter fid args) w)
    (hf : ∀ x ∈ l, ∀ bs n, Calls Tryz.prog fid (#[.agg #[.string ⟨x.1.toArray⟩, .string ⟨x.2.toArray⟩]] ++ cap) (ext w bs n) (Rets (.bool (pred x)) (ext w bs n))) :
    Calls Tryz.prog 100 #[.slice a l.length c, .func (.func fid) #[] cap] w (Rets (.int .i64 (ixOf pred l)) w) := by
  have H := Lib.hid h; clear h
  have HF := Lib.hid hf; clear hf
  go_enter Tryz.func100, Tryz.ntmps100
  go_wp2
  go_loopw [5, 8] (fun _ i wr => ∃ k bs n, i = .int .i64 (k : Nat) ∧ k ≤ l.length ∧ wr = ext w bs n ∧ Hid (∀ x ∈ l.take k, pred x = false)) (fun _ i _ => l.length - (intOf i).toNat)
  case atStart => exact ⟨0, [], 0, rfl, Nat.zero_le _, ext_zero _, by simp [Hid]⟩
  case round =>
    obtain ⟨k, bs, n, rfl, hk, rfl, HE⟩ := hrel
    by_cases hlt : k < l.length
    · obtain ⟨x, hx⟩ : ∃ x, l[k]? = some x := ⟨_, List.getElem?_eq_getElem hlt⟩
      obtain ⟨b, o, rfl, hb, cf1, cf2⟩ := H.out k x hx
      have HX := Lib.hid hx; clear hx
      have hcall := HF.out x (List.mem_of_getElem? HX.out)
      have HC := Lib.hid hcall; clear hcall
      rcases hp : pred x with _ | _
      · have HP := Lib.hid hp; clear hp
        go_wp2_with fail
        refine (HC.out _ _).mono ?_
        rintro e w' ⟨rfl, bs2, n2, rfl⟩
        rw [HP.out]
        go_wp2_with fail
        go_roundw
        case rel => exact ⟨k + 1, _, _, by go_num, by omega, by (try simp only [ext_alloc, ext_drew, ext_drewN, ext_ext]); rfl, by
          intro y hy
          rw [List.take_add_one, HX.out] at hy
          simp at hy
          rcases hy with hy | rfl
          · exact HE.out y hy
          · exact HP.out⟩
        case measure => simp [intOf]; omega
      · have HP := Lib.hid hp; clear hp
        go_wp2_with fail
        refine (HC.out _ _).mono ?_
        rintro e w' ⟨rfl, bs2, n2, rfl⟩
        rw [HP.out]
        go_wp2_with fail
        go_ret
        exact ⟨ret_int (ixOf_yes HE.out HX.out HP.out).symm, (by (try simp only [alloc_ext, drew_ext, drewN_ext, ext_ext]); exact ⟨_, _, rfl⟩)⟩
    · go_wp2
      go_ret
      exact ⟨ret_int (ixOf_no (fun x hx => HE.out x (by rwa [List.take_of_length_le (by omega)]))).symm, (by (try simp only [alloc_ext, drew_ext, drewN_ext, ext_ext]); exact ⟨_, _, rfl⟩)⟩

set_option maxHeartbeats 1000000 in set_option maxRecDepth 100000 in
theorem ctf_pair (fid : FuncId) (cap : Array Value) (pred : Pr → Bool) (a : Option Addr) (c : Nat) (l : List Pr) (w : World) (hl : l.length ≤ 8796093022208) (h : PsAt w a l) (hfn : ∀ args w, (callFunc fid args).run Tryz.prog w = .ok (.enter fid args) w)
    (hf : ∀ x ∈ l, ∀ bs n, Calls Tryz.prog fid (#[.agg #[.string ⟨x.1.toArray⟩, .string ⟨x.2.toArray⟩]] ++ cap) (ext w bs n) (Rets (.bool (pred x)) (ext w bs n))) :
    Calls Tryz.prog 54 #[.slice a l.length c, .func (.func fid) #[] cap] w (Rets (.bool (l.any pred)) w) := by
  have H := Lib.hid h; clear h
  have HF := Lib.hid hf; clear hf
  have HFN := Lib.hid hfn; clear hfn
  have hx := ixOf_any pred l
  have HX := Lib.hid hx; clear hx
  go_enter Tryz.func54, Tryz.ntmps54
  go_wp2_with fail
  refine (ixf_pair fid cap pred _ _ _ _ hl H.out HFN.out HF.out).mono ?_
  rintro e w' ⟨rfl, bs, n, rfl⟩
  go_wp2_with fail
  go_ret
  exact ⟨ret_bool HX.out, (by (try simp only [alloc_ext, drew_ext, drewN_ext, ext_ext]); exact ⟨_, _, rfl⟩)⟩

set_option maxHeartbeats 1000000 in set_option maxRecDepth 100000 in
theorem ixf_kid (fid : FuncId) (cap : Array Value) (pred : Kd → Bool) (a : Option Addr) (c : Nat) (l : List Kd) (w : World) (hl : l.length ≤ 8796093022208) (h : KsAt w a l) (hfn : ∀ args w, (callFunc fid args).run Tryz.prog w = .ok (.enter fid args) w)
    (hf : ∀ x ∈ l, ∀ bs n, Calls Tryz.prog fid (#[.agg x.c] ++ cap) (ext w bs n) (Rets (.bool (pred x)) (ext w bs n))) :
    Calls Tryz.prog 102 #[.slice a l.length c, .func (.func fid) #[] cap] w (Rets (.int .i64 (ixOf pred l)) w) := by
  have H := Lib.hid h; clear h
  have HF := Lib.hid hf; clear hf
  go_enter Tryz.func102, Tryz.ntmps102
  go_wp2
  go_loopw [5, 8] (fun _ i wr => ∃ k bs n, i = .int .i64 (k : Nat) ∧ k ≤ l.length ∧ wr = ext w bs n ∧ Hid (∀ x ∈ l.take k, pred x = false)) (fun _ i _ => l.length - (intOf i).toNat)
  case atStart => exact ⟨0, [], 0, rfl, Nat.zero_le _, ext_zero _, by simp [Hid]⟩
  case round =>
    obtain ⟨k, bs, n, rfl, hk, rfl, HE⟩ := hrel
    by_cases hlt : k < l.length
    · obtain ⟨x, hx⟩ : ∃ x, l[k]? = some x := ⟨_, List.getElem?_eq_getElem hlt⟩
      obtain ⟨b, o, rfl, hb, cf1⟩ := H.out k x hx
      have HX := Lib.hid hx; clear hx
      have hcall := HF.out x (List.mem_of_getElem? HX.out)
      have HC := Lib.hid hcall; clear hcall
      rcases hp : pred x with _ | _
      · have HP := Lib.hid hp; clear hp
        go_wp2_with fail
        refine (HC.out _ _).mono ?_
        rintro e w' ⟨rfl, bs2, n2, rfl⟩
        rw [HP.out]
        go_wp2_with fail
        go_roundw
        case rel => exact ⟨k + 1, _, _, by go_num, by omega, by (try simp only [ext_alloc, ext_drew, ext_drewN, ext_ext]); rfl, by
          intro y hy
          rw [List.take_add_one, HX.out] at hy
          simp at hy
          rcases hy with hy | rfl
          · exact HE.out y hy
          · exact HP.out⟩
        case measure => simp [intOf]; omega
      · have HP := Lib.hid hp; clear hp
        go_wp2_with fail
        refine (HC.out _ _).mono ?_
        rintro e w' ⟨rfl, bs2, n2, rfl⟩
        rw [HP.out]
        go_wp2_with fail
        go_ret
        exact ⟨ret_int (ixOf_yes HE.out HX.out HP.out).symm, (by (try simp only [alloc_ext, drew_ext, drewN_ext, ext_ext]); exact ⟨_, _, rfl⟩)⟩
    · go_wp2
      go_ret
      exact ⟨ret_int (ixOf_no (fun x hx => HE.out x (by rwa [List.take_of_length_le (by omega)]))).symm, (by (try simp only [alloc_ext, drew_ext, drewN_ext, ext_ext]); exact ⟨_, _, rfl⟩)⟩

set_option maxHeartbeats 1000000 in set_option maxRecDepth 100000 in
theorem ctf_kid (fid : FuncId) (cap : Array Value) (pred : Kd → Bool) (a : Option Addr) (c : Nat) (l : List Kd) (w : World) (hl : l.length ≤ 8796093022208) (h : KsAt w a l) (hfn : ∀ args w, (callFunc fid args).run Tryz.prog w = .ok (.enter fid args) w)
    (hf : ∀ x ∈ l, ∀ bs n, Calls Tryz.prog fid (#[.agg x.c] ++ cap) (ext w bs n) (Rets (.bool (pred x)) (ext w bs n))) :
    Calls Tryz.prog 57 #[.slice a l.length c, .func (.func fid) #[] cap] w (Rets (.bool (l.any pred)) w) := by
  have H := Lib.hid h; clear h
  have HF := Lib.hid hf; clear hf
  have HFN := Lib.hid hfn; clear hfn
  have hx := ixOf_any pred l
  have HX := Lib.hid hx; clear hx
  go_enter Tryz.func57, Tryz.ntmps57
  go_wp2_with fail
  refine (ixf_kid fid cap pred _ _ _ _ hl H.out HFN.out HF.out).mono ?_
  rintro e w' ⟨rfl, bs, n, rfl⟩
  go_wp2_with fail
  go_ret
  exact ⟨ret_bool HX.out, (by (try simp only [alloc_ext, drew_ext, drewN_ext, ext_ext]); exact ⟨_, _, rfl⟩)⟩

theorem enter_test (args : Array Value) (w : World) : (callFunc 50 args).run Tryz.prog w = .ok (.enter 50 args) w := by kernel_rfl

end Go.Proofs.YtemicgccgcmmbaaGreat

/- Is a node well shaped? -/
namespace Go.Proofs.YtemicgccgcmmbaaGreat
set_option linter.unusedVariables false
set_option linter.unusedSimpArgs false
open Go Go.RowKit

theorem Rets.ext {v : Value} {w : World} {bs : List Obj} {n : Nat} {e : Ending} {w' : World} (h : Rets v (Proofs.YtemicgccgcmmbaaGreat.ext w bs n) e w') : Rets v w e w' := by
  obtain ⟨rfl, cs, m, rfl⟩ := h
  exact ⟨rfl, _, _, ext_ext _ _ _ _ _⟩

set_option maxHeartbeats 1000000 in set_option maxRecDepth 100000 in
theorem long_any (fb P : Nat) (wd : Int) (x : Pr) (w : World) (hP : P ≤ 8192) (hx : x.2.length ≤ 140737488351232) (hb : fb < w.heap.size) (c0 : w.cell? ⟨fb, 0, none⟩ = some (.int .i64 P)) (c1 : w.cell? ⟨fb, 1, none⟩ = some (.int .i64 wd)) :
    Calls Tryz.prog 50 #[.agg #[.string ⟨x.1.toArray⟩, .string ⟨x.2.toArray⟩], .pointer (some ⟨fb, 0, none⟩)] w (Rets (.bool (decide (P / 8 < x.2.length))) w) := by
  have hd : (P : Int) / 8 = ((P / 8 : Nat) : Int) := by omega
  have HD := Lib.hid hd; clear hd
  go_enter Tryz.func50, Tryz.ntmps50
  go_wp2
  refine wp_region_ext (by kernel_rfl) (by kernel_rfl) ?_
  repeat (go_big_quiet_step ((go_at_call 51; exact Calls.quiet_ext (maxVal_any _ _ _ (by omega) (by omega)))))
  (refine wpQuiet_nil ?_; intro _ hw'; obtain ⟨⟨bsq, nq⟩, hw''⟩ := hw'; subst hw'')
  go_wp2
  go_ret
  exact ⟨ret_bool (by rw [HD.out]; rw [Bool.eq_iff_iff]; simp; omega), (by (try simp only [alloc_ext, drew_ext, drewN_ext, ext_ext]); exact ⟨_, _, rfl⟩)⟩

set_option maxHeartbeats 1000000 in set_option maxRecDepth 100000 in
theorem wideK_any (fb P : Nat) (wd : Int) (x : Kd) (w : World) (hb : fb < w.heap.size) (c0 : w.cell? ⟨fb, 0, none⟩ = some (.int .i64 P)) (c1 : w.cell? ⟨fb, 1, none⟩ = some (.int .i64 wd)) :
    Calls Tryz.prog 55 #[.agg x.c, .pointer (some ⟨fb, 0, none⟩)] w (Rets (.bool (!fitB wd x.sum)) w) := by
  go_enter Tryz.func55, Tryz.ntmps55
  go_wp2_with (go_at_call 56; refine (fits_any _ _ _).mono ?_; rintro e w' ⟨rfl, bs, nn, rfl⟩)
  go_ret
  exact ⟨rfl, by (try simp only [alloc_ext, drew_ext, drewN_ext, ext_ext]); exact ⟨_, _, rfl⟩⟩

def leafB (n : Nd) : Bool := decide (n.seps.length = 0 ∧ n.kids.length = 0)
def shapedB (P : Nat) (wd : Int) (n : Nd) : Bool :=
  if leafB n = true then risesFrom (P / 16) none (n.pairs.map fun x => x.1) && !(n.pairs.any fun x => decide (P / 8 < x.2.length))
  else decide (n.pairs.length = 0) && decide (2 ≤ n.kids.length) && decide (n.seps.length + 1 = n.kids.length) && !(n.kids.any fun k => !fitB wd k.sum) && risesFrom (P / 16) none n.seps
/-- What Check answers. -/
def checkE (p wd : Int) (n : Nd) : Int := if rightB p wd = true then (if shapedB p.toNat wd n = true then 0 else 70) else 2

theorem long_enter (args : Array Value) (w : World) : (callFunc 50 args).run Tryz.prog w = .ok (.enter 50 args) w := by kernel_rfl
theorem wide_enter (args : Array Value) (w : World) : (callFunc 55 args).run Tryz.prog w = .ok (.enter 55 args) w := by kernel_rfl

set_option maxHeartbeats 1000000 in set_option maxRecDepth 100000 in
theorem check_arg (p wd : Int) (pa sa ka : Option Addr) (pc sc kc : Nat) (n : Nd) (w : World) (hr : rightB p wd = false) :
    Calls Tryz.prog 31 #[.agg #[.int .i64 p, .int .i64 wd], .agg #[.slice pa n.pairs.length pc, .slice sa n.seps.length sc, .slice ka n.kids.length kc]] w (Rets (.int .i64 2) w) := by
  have HR := Lib.hid hr; clear hr
  go_enter Tryz.func31, Tryz.ntmps31
  go_wp2_with fail
  refine (right_any _ _ _).mono ?_
  rintro e w' ⟨rfl, bs, m, rfl⟩
  rw [HR.out]
  go_wp2_with fail
  go_ret
  exact ⟨rfl, by (try simp only [alloc_ext, drew_ext, drewN_ext, ext_ext]); exact ⟨_, _, rfl⟩⟩

set_option maxHeartbeats 1000000 in set_option maxRecDepth 100000 in
theorem check_leaf (P : Nat) (wd : Int) (pa sa ka : Option Addr) (pc sc kc : Nat) (n : Nd) (w : World) (hr : rightB P wd = true) (hl : leafB n = true) (h : NdAt w pa sa ka n) (ho : NdOk n) :
    Calls Tryz.prog 31 #[.agg #[.int .i64 P, .int .i64 wd], .agg #[.slice pa n.pairs.length pc, .slice sa n.seps.length sc, .slice ka n.kids.length kc]] w (Rets (.int .i64 (checkE P wd n)) w) := by
  have hP : P ≤ 8192 := by have := rightB_iff.1 hr; omega
  have hs : checkE P wd n = if (risesFrom (P / 16) none (n.pairs.map fun x => x.1) && !(n.pairs.any fun x => decide (P / 8 < x.2.length))) = true then 0 else 70 := by
    simp only [checkE, hr, if_true, shapedB, hl, Int.toNat_natCast]
  have hl' : (decide (n.seps.length = 0 ∧ n.kids.length = 0)) = true := hl
  have HR := Lib.hid hr; clear hr
  have HS := Lib.hid hs; clear hs
  have HL := Lib.hid hl'; clear hl hl'
  have hnp := ho.np
  have H := Lib.hid h; have HO := Lib.hid ho; clear h ho
  rcases h1 : risesFrom (P / 16) none (n.pairs.map fun x => x.1) with _ | _
  · have H1 := Lib.hid h1; clear h1
    have hf : Hid (checkE P wd n = 70) := by show _ = _; rw [HS.out, H1.out]; rfl
    go_enter Tryz.func31, Tryz.ntmps31
    go_wp2_with fail
    refine (right_any _ _ _).mono ?_
    rintro e w' ⟨rfl, bs, m, rfl⟩
    rw [HR.out]
    go_wp2_with fail
    refine (isLeaf_any _ _ _ _ _ _ _ _ _ _).mono ?_
    rintro e w' ⟨rfl, bs1, m1, rfl⟩
    rw [HL.out]
    go_wp2_with fail
    refine (rises_pair P wd _ _ _ _ hP (by omega) (fun x hx => (HO.out.sp x hx).1) (H.out.ps.kp (((((Kp.refl [] _).alloc _).alloc _).ext _ _)) (by simp))).mono ?_
    rintro e w' ⟨rfl, bs2, m2, rfl⟩
    rw [H1.out]
    go_wp2_with fail
    go_ret
    rw [hf.out]
    exact ⟨rfl, by (try simp only [alloc_ext, drew_ext, drewN_ext, ext_ext]); exact ⟨_, _, rfl⟩⟩
  · have H1 := Lib.hid h1; clear h1
    obtain ⟨m0, hm0⟩ : ∃ m0, n.pairs.any (fun x => decide (P / 8 < x.2.length)) = m0 := ⟨_, rfl⟩
    have hf : Hid (checkE P wd n = if m0 = true then 70 else 0) := by show _ = _; rw [HS.out, H1.out, hm0]; cases m0 <;> rfl
    have HM := Lib.hid hm0; clear hm0
    go_enter Tryz.func31, Tryz.ntmps31
    go_wp2_with fail
    refine (right_any _ _ _).mono ?_
    rintro e w' ⟨rfl, bs, m, rfl⟩
    rw [HR.out]
    go_wp2_with fail
    refine (isLeaf_any _ _ _ _ _ _ _ _ _ _).mono ?_
    rintro e w' ⟨rfl, bs1, m1, rfl⟩
    rw [HL.out]
    go_wp2_with fail
    refine (rises_pair P wd _ _ _ _ hP (by omega) (fun x hx => (HO.out.sp x hx).1) (H.out.ps.kp (((((Kp.refl [] _).alloc _).alloc _).ext _ _)) (by simp))).mono ?_
    rintro e w' ⟨rfl, bs2, m2, rfl⟩
    rw [H1.out]
    go_wp2_with fail
    refine (ctf_pair 50 #[.pointer (some ⟨w.heap.size, 0, none⟩)] (fun x => decide (P / 8 < x.2.length)) _ _ _ _ (by omega) (H.out.ps.kp (((((Kp.refl [] _).alloc _).alloc _).ext _ _)) (by simp)) long_enter ?_).mono ?_
    · intro x hx bs3 m3
      refine long_any _ P wd x _ hP (HO.out.sp x hx).2 (by simp; omega) ?_ ?_
      · simp [go_sem]
      · simp [go_sem]
    · rintro e w' ⟨rfl, bs4, m4, rfl⟩
      rw [HM.out]
      cases m0
      · go_wp2_with fail
        go_ret
        rw [hf.out]
        exact ⟨rfl, by (try simp only [alloc_ext, drew_ext, drewN_ext, ext_ext]); exact ⟨_, _, rfl⟩⟩
      · go_wp2_with fail
        go_ret
        rw [hf.out]
        exact ⟨rfl, by (try simp only [alloc_ext, drew_ext, drewN_ext, ext_ext]); exact ⟨_, _, rfl⟩⟩

set_option maxHeartbeats 1000000 in set_option maxRecDepth 100000 in
theorem check_branch (P : Nat) (wd : Int) (pa sa ka : Option Addr) (pc sc kc : Nat) (n : Nd) (w : World) (hr : rightB P wd = true) (hl : leafB n = false) (h : NdAt w pa sa ka n) (ho : NdOk n) :
    Calls Tryz.prog 31 #[.agg #[.int .i64 P, .int .i64 wd], .agg #[.slice pa n.pairs.length pc, .slice sa n.seps.length sc, .slice ka n.kids.length kc]] w (Rets (.int .i64 (checkE P wd n)) w) := by
  have hP : P ≤ 8192 := by have := rightB_iff.1 hr; omega
  have hs : checkE P wd n = if (decide (n.pairs.length = 0) && decide (2 ≤ n.kids.length) && decide (n.seps.length + 1 = n.kids.length) && !(n.kids.any fun k => !fitB wd k.sum) && risesFrom (P / 16) none n.seps) = true then 0 else 70 := by
    simp only [checkE, hr, if_true, shapedB, hl, Int.toNat_natCast, Bool.false_eq_true, if_false]
  have hl' : (decide (n.seps.length = 0 ∧ n.kids.length = 0)) = false := hl
  have HR := Lib.hid hr; clear hr
  have HS := Lib.hid hs; clear hs
  have HL := Lib.hid hl'; clear hl hl'
  have hnp := ho.np
  have hns := ho.ns
  have hnk := ho.nk
  have H := Lib.hid h; have HO := Lib.hid ho; clear h ho
  by_cases h1 : 0 < n.pairs.length
  · have hf : Hid (checkE P wd n = 70) := by show _ = _; rw [HS.out, show decide (n.pairs.length = 0) = false from decide_eq_false (by omega)]; rfl
    go_enter Tryz.func31, Tryz.ntmps31
    go_wp2_with fail
    refine (right_any _ _ _).mono ?_
    rintro e w' ⟨rfl, bs, m, rfl⟩
    rw [HR.out]
    go_wp2_with fail
    refine (isLeaf_any _ _ _ _ _ _ _ _ _ _).mono ?_
    rintro e w' ⟨rfl, bs1, m1, rfl⟩
    rw [HL.out]
    go_wp2_with fail
    go_ret
    rw [hf.out]
    exact ⟨rfl, by (try simp only [alloc_ext, drew_ext, drewN_ext, ext_ext]); exact ⟨_, _, rfl⟩⟩
  by_cases h2 : n.kids.length < 2
  · have hf : Hid (checkE P wd n = 70) := by show _ = _; rw [HS.out, show decide (2 ≤ n.kids.length) = false from decide_eq_false (by omega)]; simp
    go_enter Tryz.func31, Tryz.ntmps31
    go_wp2_with fail
    refine (right_any _ _ _).mono ?_
    rintro e w' ⟨rfl, bs, m, rfl⟩
    rw [HR.out]
    go_wp2_with fail
    refine (isLeaf_any _ _ _ _ _ _ _ _ _ _).mono ?_
    rintro e w' ⟨rfl, bs1, m1, rfl⟩
    rw [HL.out]
    go_wp2_with fail
    go_ret
    rw [hf.out]
    exact ⟨rfl, by (try simp only [alloc_ext, drew_ext, drewN_ext, ext_ext]); exact ⟨_, _, rfl⟩⟩
  by_cases h3 : n.seps.length + 1 = n.kids.length
  case neg =>
    have hf : Hid (checkE P wd n = 70) := by show _ = _; rw [HS.out, show decide (n.seps.length + 1 = n.kids.length) = false from decide_eq_false h3]; simp
    have hb : ((n.seps.length : Int) != (n.kids.length : Int) - 1) = true := by simp only [bne_iff_ne, ne_eq]; omega
    have H3 := Lib.hid h3; clear h3
    go_enter Tryz.func31, Tryz.ntmps31
    go_wp2_with fail
    refine (right_any _ _ _).mono ?_
    rintro e w' ⟨rfl, bs, m, rfl⟩
    rw [HR.out]
    go_wp2_with fail
    refine (isLeaf_any _ _ _ _ _ _ _ _ _ _).mono ?_
    rintro e w' ⟨rfl, bs1, m1, rfl⟩
    rw [HL.out]
    go_wp2_with fail
    go_ret
    rw [hf.out]
    exact ⟨rfl, by (try simp only [alloc_ext, drew_ext, drewN_ext, ext_ext]); exact ⟨_, _, rfl⟩⟩
  have hb : ((n.seps.length : Int) != (n.kids.length : Int) - 1) = false := by simp only [bne_eq_false_iff_eq]; omega
  have hs2 : checkE P wd n = if (!(n.kids.any fun k => !fitB wd k.sum) && risesFrom (P / 16) none n.seps) = true then 0 else 70 := by
    rw [HS.out, decide_eq_true (show n.pairs.length = 0 by omega), decide_eq_true (show 2 ≤ n.kids.length by omega), decide_eq_true h3]; rfl
  have HS2 := Lib.hid hs2; clear hs2
  have H3 := Lib.hid h3; clear h3
  obtain ⟨m0, hm0⟩ : ∃ m0, n.kids.any (fun k => !fitB wd k.sum) = m0 := ⟨_, rfl⟩
  rcases m0 with _ | _
  case true =>
    have hf : Hid (checkE P wd n = 70) := by show _ = _; rw [HS2.out, hm0]; rfl
    have HM := Lib.hid hm0; clear hm0
    go_enter Tryz.func31, Tryz.ntmps31
    go_wp2_with fail
    refine (right_any _ _ _).mono ?_
    rintro e w' ⟨rfl, bs, m, rfl⟩
    rw [HR.out]
    go_wp2_with fail
    refine (isLeaf_any _ _ _ _ _ _ _ _ _ _).mono ?_
    rintro e w' ⟨rfl, bs1, m1, rfl⟩
    rw [HL.out]
    go_wp2_with fail
    refine (ctf_kid 55 #[.pointer (some ⟨w.heap.size, 0, none⟩)] (fun k => !fitB wd k.sum) _ _ _ _ (by omega) (H.out.ks.kp (((((Kp.refl [] _).alloc _).alloc _).ext _ _)) (by simp)) wide_enter ?_).mono ?_
    · intro x hx bs3 m3
      refine wideK_any _ P wd x _ (by simp; omega) ?_ ?_
      · simp [go_sem]
      · simp [go_sem]
    · rintro e w' ⟨rfl, bs4, m4, rfl⟩
      rw [HM.out]
      go_wp2_with fail
      go_ret
      rw [hf.out]
      exact ⟨rfl, by (try simp only [alloc_ext, drew_ext, drewN_ext, ext_ext]); exact ⟨_, _, rfl⟩⟩
  case false =>
    obtain ⟨m1', hm1⟩ : ∃ m1', risesFrom (P / 16) none n.seps = m1' := ⟨_, rfl⟩
    have hf : Hid (checkE P wd n = if m1' = true then 0 else 70) := by show _ = _; rw [HS2.out, hm0, hm1]; cases m1' <;> rfl
    have HM := Lib.hid hm0; clear hm0
    have HM1 := Lib.hid hm1; clear hm1
    go_enter Tryz.func31, Tryz.ntmps31
    go_wp2_with fail
    refine (right_any _ _ _).mono ?_
    rintro e w' ⟨rfl, bs, m, rfl⟩
    rw [HR.out]
    go_wp2_with fail
    refine (isLeaf_any _ _ _ _ _ _ _ _ _ _).mono ?_
    rintro e w' ⟨rfl, bs1, m1, rfl⟩
    rw [HL.out]
    go_wp2_with fail
    refine (ctf_kid 55 #[.pointer (some ⟨w.heap.size, 0, none⟩)] (fun k => !fitB wd k.sum) _ _ _ _ (by omega) (H.out.ks.kp (((((Kp.refl [] _).alloc _).alloc _).ext _ _)) (by simp)) wide_enter ?_).mono ?_
    · intro x hx bs3 m3
      refine wideK_any _ P wd x _ (by simp; omega) ?_ ?_
      · simp [go_sem]
      · simp [go_sem]
    · rintro e w' ⟨rfl, bs4, m4, rfl⟩
      rw [HM.out]
      go_wp2_with fail
      refine (rises_sep P wd _ _ _ _ hP (by omega) (fun x hx => HO.out.ss x hx) (H.out.ss.kp (((((Kp.refl [] _).alloc _).alloc _).ext _ _)) (by simp))).mono ?_
      rintro e w' ⟨rfl, bs2, m2, rfl⟩
      rw [HM1.out]
      cases m1'
      · go_wp2_with fail
        go_ret
        rw [hf.out]
        exact ⟨rfl, by (try simp only [alloc_ext, drew_ext, drewN_ext, ext_ext]); exact ⟨_, _, rfl⟩⟩
      · go_wp2_with fail
        go_ret
        rw [hf.out]
        exact ⟨rfl, by (try simp only [alloc_ext, drew_ext, drewN_ext, ext_ext]); exact ⟨_, _, rfl⟩⟩

theorem check_any (p wd : Int) (pa sa ka : Option Addr) (pc sc kc : Nat) (n : Nd) (w : World) (h : NdAt w pa sa ka n) (ho : NdOk n) :
    Calls Tryz.prog 31 #[.agg #[.int .i64 p, .int .i64 wd], .agg #[.slice pa n.pairs.length pc, .slice sa n.seps.length sc, .slice ka n.kids.length kc]] w (Rets (.int .i64 (checkE p wd n)) w) := by
  cases hr : rightB p wd
  · have : checkE p wd n = 2 := by simp [checkE, hr]
    rw [this]
    exact check_arg p wd pa sa ka pc sc kc n w hr
  · obtain ⟨P, rfl⟩ := Int.eq_ofNat_of_zero_le (show 0 ≤ p by have := rightB_iff.1 hr; omega)
    cases hl : leafB n
    · exact check_branch P wd pa sa ka pc sc kc n w hr hl h ho
    · exact check_leaf P wd pa sa ka pc sc kc n w hr hl h ho

end Go.Proofs.YtemicgccgcmmbaaGreat

/- A node's size. -/
namespace Go.Proofs.YtemicgccgcmmbaaGreat
set_option linter.unusedVariables false
set_option linter.unusedSimpArgs false
open Go Go.RowKit

def prN (x : Pr) : Nat := txN x.1 + txN x.2
def sizeN (wd : Nat) (n : Nd) : Nat :=
  if leafB n = true then 1 + cntN n.pairs.length + (n.pairs.map prN).sum
  else 1 + cntN n.kids.length + n.kids.length * (4 + wd) + (n.seps.map txN).sum

theorem txN_le {t : Bs} {m : Nat} (h : t.length ≤ m) (hm : m ≤ 140737488351232) : txN t ≤ 9 + m := by
  have := cntN_le9 t.length (by omega); unfold txN; omega
theorem sum_le {α : Type} (f : α → Nat) (B : Nat) : ∀ (l : List α), (∀ x ∈ l, f x ≤ B) → (l.map f).sum ≤ l.length * B
  | [], _ => by simp
  | x :: t, h => by
    have h1 := sum_le f B t (fun y hy => h y (by simp [hy]))
    have h2 := h x (by simp)
    simp only [List.map_cons, List.sum_cons, List.length_cons, Nat.succ_mul]
    omega
theorem sum_take {α : Type} (f : α → Nat) (l : List α) (k : Nat) (x : α) (hx : l[k]? = some x) : ((l.take (k + 1)).map f).sum = ((l.take k).map f).sum + f x := by
  rw [List.take_add_one, hx]; simp

/-- What is small enough to be counted. -/
structure Small (n : Nd) : Prop where
  sp : ∀ p ∈ n.pairs, p.1.length ≤ 8192 ∧ p.2.length ≤ 8192
  ss : ∀ p ∈ n.seps, p.length ≤ 8192

set_option maxHeartbeats 1000000 in set_option maxRecDepth 100000 in
theorem size_leaf (P : Int) (wd : Nat) (pa sa ka : Option Addr) (pc sc kc : Nat) (n : Nd) (w : World) (hl : leafB n = true) (h : NdAt w pa sa ka n) (ho : NdOk n) (hsm : Small n) :
    Calls Tryz.prog 60 #[.agg #[.int .i64 P, .int .i64 wd], .agg #[.slice pa n.pairs.length pc, .slice sa n.seps.length sc, .slice ka n.kids.length kc]] w (Rets (.int .i64 (sizeN wd n : Nat)) w) := by
  have hl' : (decide (n.seps.length = 0 ∧ n.kids.length = 0)) = true := hl
  have hs : sizeN wd n = 1 + cntN n.pairs.length + (n.pairs.map prN).sum := by unfold sizeN; rw [if_pos hl]
  have hnp := ho.np
  have hc9 := cntN_le9 n.pairs.length (by omega)
  have HS := Lib.hid hs; have HL := Lib.hid hl'; clear hs hl hl'
  have H := Lib.hid h; have HSM := Lib.hid hsm; clear h ho hsm
  go_enter Tryz.func60, Tryz.ntmps60
  go_wp2_with fail
  refine (isLeaf_any _ _ _ _ _ _ _ _ _ _).mono ?_
  rintro e w' ⟨rfl, bs1, m1, rfl⟩
  rw [HL.out]
  go_wp2_with fail
  refine (count_any _ _ (by omega)).mono ?_
  rintro e w' ⟨rfl, rfl⟩
  go_wp2_with fail
  go_loopw [5, 21] (fun x i wr => ∃ k z bs n', i = .int .i64 (k : Nat) ∧ k ≤ n.pairs.length ∧ x = .int .i64 (z : Nat) ∧ z ≤ 20 + k * 20000 ∧ Hid (z = 1 + cntN n.pairs.length + ((n.pairs.take k).map prN).sum) ∧ wr = ext ((w.alloc (.cells #[.int .i64 P, .int .i64 wd] 23)).alloc (.cells #[.slice pa n.pairs.length pc, .slice sa n.seps.length sc, .slice ka n.kids.length kc] 28)) bs n') (fun _ i _ => n.pairs.length - (intOf i).toNat)
  case atStart => exact ⟨0, 1 + cntN n.pairs.length, bs1, m1, rfl, by omega, by go_num, by omega, by show _ = _; simp, rfl⟩
  case round =>
    obtain ⟨k, z, bs, n', rfl, hk, rfl, hz, HZ, rfl⟩ := hrel
    by_cases hlt : k < n.pairs.length
    · obtain ⟨x, hx⟩ : ∃ x, n.pairs[k]? = some x := ⟨_, List.getElem?_eq_getElem hlt⟩
      obtain ⟨b, o, rfl, hb, cf1, cf2⟩ := H.out.ps k x hx
      obtain ⟨hx1, hx2⟩ := HSM.out.sp x (List.mem_of_getElem? hx)
      have hst := sum_take prN _ _ _ hx
      have hp1 := txN_le hx1 (by omega)
      have hp2 := txN_le hx2 (by omega)
      have HX := Lib.hid hst; clear hst hx
      have e1 : IntKind.i64.wrap ((txN x.1 : Int) + txN x.2) = txN x.1 + txN x.2 := IntWalk.i64_in _ (by omega)
      have e2 : IntKind.i64.wrap ((z : Int) + (txN x.1 + txN x.2)) = z + (txN x.1 + txN x.2) := IntWalk.i64_in _ (by omega)
      go_wp2_with fail
      refine wp_region_ext (by kernel_rfl) (by kernel_rfl) ?_
      repeat (go_big_quiet_step ((go_at_call 104; exact Calls.quiet_pure (text_any _ _ (by omega)))))
      (refine wpQuiet_nil ?_; intro _ hw'; obtain ⟨⟨bsq, nq⟩, hw''⟩ := hw'; subst hw'')
      clear e1 e2
      go_wp2_with fail
      go_roundw
      case rel => exact ⟨k + 1, z + (txN x.1 + txN x.2), _, _, by go_num, by omega, by go_num, by omega, by show _ = _; rw [HX.out, HZ.out]; simp only [prN]; omega, by (try simp only [ext_alloc, ext_drew, ext_drewN, ext_ext]); rfl⟩
      case measure => simp [intOf]; omega
    · have hfin : Hid (sizeN wd n = z) := by show _ = _; rw [HS.out, HZ.out, List.take_of_length_le (by omega)]
      go_wp2_with fail
      go_ret
      exact ⟨ret_int (by rw [hfin.out]), (by (try simp only [alloc_ext, drew_ext, drewN_ext, ext_ext]); exact ⟨_, _, rfl⟩)⟩

end Go.Proofs.YtemicgccgcmmbaaGreat

/- A branch's size; Size; may. -/
namespace Go.Proofs.YtemicgccgcmmbaaGreat
set_option linter.unusedVariables false
set_option linter.unusedSimpArgs false
open Go Go.RowKit

theorem Calls.quiet_ext2 {P : Program} {f : FuncId} {args : Array Value} {w : World} {bs0 : List Obj} {n0 : Nat} {q : Q} {v : Value}
    (h : Calls P f args (Proofs.YtemicgccgcmmbaaGreat.ext w (bs0 ++ q.bs) (n0 + q.n)) (Rets v (Proofs.YtemicgccgcmmbaaGreat.ext w (bs0 ++ q.bs) (n0 + q.n)))) : Calls P f args (Proofs.YtemicgccgcmmbaaGreat.ext w (bs0 ++ q.bs) (n0 + q.n)) fun e w'' => e = .returned v ∧ ∃ q : Q, w'' = Proofs.YtemicgccgcmmbaaGreat.ext w (bs0 ++ q.bs) (n0 + q.n) :=
  h.mono fun _ _ ⟨he, bs', m, hm⟩ => ⟨he, ⟨q.bs ++ bs', q.n + m⟩, by rw [hm, ext_ext, List.append_assoc, Nat.add_assoc]⟩
theorem Calls.quiet_pure2 {P : Program} {f : FuncId} {args : Array Value} {w : World} {bs0 : List Obj} {n0 : Nat} {q : Q} {v : Value}
    (h : Calls P f args (Proofs.YtemicgccgcmmbaaGreat.ext w (bs0 ++ q.bs) (n0 + q.n)) fun e w' => e = .returned v ∧ Proofs.YtemicgccgcmmbaaGreat.ext w (bs0 ++ q.bs) (n0 + q.n) = w') : Calls P f args (Proofs.YtemicgccgcmmbaaGreat.ext w (bs0 ++ q.bs) (n0 + q.n)) fun e w'' => e = .returned v ∧ ∃ q : Q, w'' = Proofs.YtemicgccgcmmbaaGreat.ext w (bs0 ++ q.bs) (n0 + q.n) :=
  h.mono fun _ _ ⟨he, hm⟩ => ⟨he, q, hm.symm⟩

set_option maxHeartbeats 1000000 in set_option maxRecDepth 100000 in
theorem size_branch (P : Int) (wd : Nat) (pa sa ka : Option Addr) (pc sc kc : Nat) (n : Nd) (w : World) (hwd : wd ≤ 32) (hl : leafB n = false) (h : NdAt w pa sa ka n) (ho : NdOk n) (hsm : Small n) :
    Calls Tryz.prog 60 #[.agg #[.int .i64 P, .int .i64 wd], .agg #[.slice pa n.pairs.length pc, .slice sa n.seps.length sc, .slice ka n.kids.length kc]] w (Rets (.int .i64 (sizeN wd n : Nat)) w) := by
  have hl' : (decide (n.seps.length = 0 ∧ n.kids.length = 0)) = false := hl
  have hs : sizeN wd n = 1 + cntN n.kids.length + n.kids.length * (4 + wd) + (n.seps.map txN).sum := by unfold sizeN; rw [if_neg (by rw [hl]; decide)]
  have hns := ho.ns
  have hnk := ho.nk
  have hc9 := cntN_le9 n.kids.length (by omega)
  have hmul : n.kids.length * (4 + wd) ≤ n.kids.length * 36 := Nat.mul_le_mul_left _ (by omega)
  obtain ⟨y, hy⟩ : ∃ y, y = n.kids.length * (4 + wd) := ⟨_, rfl⟩
  rw [← hy] at hmul hs
  have hy36 : y ≤ 140737488352308 := by omega
  clear hmul
  have e0 : IntKind.i64.wrap (4 + (wd : Int)) = 4 + wd := IntWalk.i64_in _ (by omega)
  have e1 : IntKind.i64.wrap ((n.kids.length : Int) * (4 + wd)) = y := by rw [show (n.kids.length : Int) * (4 + wd) = (y : Int) by rw [hy]; simp]; exact IntWalk.i64_in _ (by omega)
  have e2 : IntKind.i64.wrap (1 + (cntN n.kids.length : Int)) = 1 + cntN n.kids.length := IntWalk.i64_in _ (by omega)
  have e3 : IntKind.i64.wrap (1 + (cntN n.kids.length : Int) + y) = 1 + cntN n.kids.length + y := IntWalk.i64_in _ (by omega)
  have HS := Lib.hid hs; have HL := Lib.hid hl'; clear hs hl hl'
  clear hy
  have H := Lib.hid h; have HSM := Lib.hid hsm; clear h ho hsm
  go_enter Tryz.func60, Tryz.ntmps60
  go_wp2_with fail
  refine (isLeaf_any _ _ _ _ _ _ _ _ _ _).mono ?_
  rintro e w' ⟨rfl, bs1, m1, rfl⟩
  rw [HL.out]
  go_wp2_with fail
  refine wp_region_ext (by kernel_rfl) (by kernel_rfl) ?_
  repeat (go_big_quiet_step ((go_at_call 103; exact Calls.quiet_pure2 (count_any _ _ (by omega)))))
  (refine wpQuiet_nil ?_; intro _ hw'; obtain ⟨⟨bsq, nq⟩, hw''⟩ := hw'; subst hw'')
  clear e0 e1 e2 e3
  go_wp2_with fail
  go_loopw [8, 10, 52] (fun x _ i wr => ∃ k z bs n', i = .int .i64 (k : Nat) ∧ k ≤ n.seps.length ∧ x = .int .i64 (z : Nat) ∧ z ≤ 20 + y + k * 20000 ∧ Hid (z = 1 + cntN n.kids.length + y + ((n.seps.take k).map txN).sum) ∧ wr = ext ((w.alloc (.cells #[.int .i64 P, .int .i64 wd] 23)).alloc (.cells #[.slice pa n.pairs.length pc, .slice sa n.seps.length sc, .slice ka n.kids.length kc] 28)) bs n') (fun _ _ i _ => n.seps.length - (intOf i).toNat)
  case atStart => exact ⟨0, 1 + cntN n.kids.length + y, _, _, rfl, by omega, by go_num, by omega, by show _ = _; simp, by (try simp only [ext_alloc, ext_drew, ext_drewN, ext_ext]); rfl⟩
  case round =>
    obtain ⟨k, z, bs, n', rfl, hk, rfl, hz, HZ, rfl⟩ := hrel
    by_cases hlt : k < n.seps.length
    · obtain ⟨x, hx⟩ : ∃ x, n.seps[k]? = some x := ⟨_, List.getElem?_eq_getElem hlt⟩
      obtain ⟨b, o, rfl, hb, cf1⟩ := H.out.ss k x hx
      have hx1 := HSM.out.ss x (List.mem_of_getElem? hx)
      have hst := sum_take txN _ _ _ hx
      have hp1 := txN_le hx1 (by omega)
      have HX := Lib.hid hst; clear hst hx
      go_wp2_with (go_at_call 104; refine (text_any _ _ (by omega)).mono ?_; rintro e w' ⟨rfl, rfl⟩)
      go_roundw
      case rel => exact ⟨k + 1, z + txN x, _, _, by go_num, by omega, by go_num, by omega, by show _ = _; rw [HX.out, HZ.out]; omega, by (try simp only [ext_alloc, ext_drew, ext_drewN, ext_ext]); rfl⟩
      case measure => simp [intOf]; omega
    · have hfin : Hid (sizeN wd n = z) := by show _ = _; rw [HS.out, HZ.out, List.take_of_length_le (by omega)]
      go_wp2_with fail
      go_ret
      exact ⟨ret_int (by rw [hfin.out]), (by (try simp only [alloc_ext, drew_ext, drewN_ext, ext_ext]); exact ⟨_, _, rfl⟩)⟩

theorem size_any (P : Int) (wd : Nat) (pa sa ka : Option Addr) (pc sc kc : Nat) (n : Nd) (w : World) (hwd : wd ≤ 32) (h : NdAt w pa sa ka n) (ho : NdOk n) (hsm : Small n) :
    Calls Tryz.prog 60 #[.agg #[.int .i64 P, .int .i64 wd], .agg #[.slice pa n.pairs.length pc, .slice sa n.seps.length sc, .slice ka n.kids.length kc]] w (Rets (.int .i64 (sizeN wd n : Nat)) w) := by
  cases hl : leafB n
  · exact size_branch P wd pa sa ka pc sc kc n w hwd hl h ho hsm
  · exact size_leaf P wd pa sa ka pc sc kc n w hl h ho hsm

theorem rises_len : ∀ (l : List Bs) (m : Nat) (pv : Option Bs), risesFrom m pv l = true → ∀ x ∈ l, 1 ≤ x.length ∧ x.length ≤ m
  | [], _, _, _ => by simp
  | k :: t, m, pv, h => by
    simp only [risesFrom, Bool.and_eq_true, decide_eq_true_eq] at h
    intro x hx
    rcases List.mem_cons.1 hx with rfl | hx
    · exact ⟨h.1.1.1, h.1.1.2⟩
    · exact rises_len t m (some k) h.2 x hx

theorem checkE_ok {p wd : Int} {n : Nd} (h : checkE p wd n = 0) : rightB p wd = true ∧ shapedB p.toNat wd n = true := by
  unfold checkE at h
  split at h
  · split at h
    · exact ⟨‹_›, ‹_›⟩
    · cases h
  · cases h
theorem leafB_iff {n : Nd} : leafB n = true ↔ n.seps = [] ∧ n.kids = [] := by
  unfold leafB
  rw [decide_eq_true_eq]
  constructor
  · rintro ⟨h1, h2⟩; exact ⟨List.eq_nil_of_length_eq_zero h1, List.eq_nil_of_length_eq_zero h2⟩
  · rintro ⟨h1, h2⟩; simp [h1, h2]
/-- A well shaped node is small. -/
theorem small_of {p wd : Int} {n : Nd} (h : checkE p wd n = 0) : Small n := by
  obtain ⟨hr, hs⟩ := checkE_ok h
  have hp := (rightB_iff.1 hr).1
  unfold shapedB at hs
  split at hs
  · rename_i hl
    obtain ⟨h1, h2⟩ := leafB_iff.1 hl
    simp only [Bool.and_eq_true, Bool.not_eq_true', List.any_eq_false, decide_eq_true_eq] at hs
    refine ⟨fun q hq => ?_, by rw [h1]; simp⟩
    have := rises_len _ _ _ hs.1 q.1 (List.mem_map.2 ⟨q, hq, rfl⟩)
    have := hs.2 q hq
    omega
  · simp only [Bool.and_eq_true, decide_eq_true_eq] at hs
    have hn : n.pairs = [] := List.eq_nil_of_length_eq_zero hs.1.1.1.1
    refine ⟨by rw [hn]; simp, fun q hq => ?_⟩
    have := rises_len _ _ _ hs.2 q hq
    omega

/-- What may answers. -/
def mayE (p wd : Int) (n : Nd) : Int := if checkE p wd n = 0 then (if p.toNat - 32 < sizeN wd.toNat n then 71 else 0) else checkE p wd n

/-- What Size answers. -/
def SizeE (p wd : Int) (n : Nd) : Nat := if checkE p wd n = 0 then sizeN wd.toNat n else 0

set_option maxHeartbeats 1000000 in set_option maxRecDepth 100000 in
theorem Size_any (p wd : Int) (pa sa ka : Option Addr) (pc sc kc : Nat) (n : Nd) (w : World) (h : NdAt w pa sa ka n) (ho : NdOk n) :
    Calls Tryz.prog 32 #[.agg #[.int .i64 p, .int .i64 wd], .agg #[.slice pa n.pairs.length pc, .slice sa n.seps.length sc, .slice ka n.kids.length kc]] w (Rets (.int .i64 (SizeE p wd n : Nat)) w) := by
  obtain ⟨c, hc⟩ : ∃ c, checkE p wd n = c := ⟨_, rfl⟩
  have HC := Lib.hid hc
  by_cases h0 : c = 0
  · subst h0
    have hsm := small_of hc
    have hr := rightB_iff.1 (checkE_ok hc).1
    obtain ⟨d, rfl⟩ := Int.eq_ofNat_of_zero_le (show 0 ≤ wd by omega)
    have hd : d ≤ 32 := by omega
    have H := Lib.hid h; have HO := Lib.hid ho; have HSM := Lib.hid hsm; clear h ho hsm hr hc
    go_enter Tryz.func32, Tryz.ntmps32
    go_wp2_with fail
    refine (check_any _ _ _ _ _ _ _ _ n _ (H.out.kp0 (((Kp.refl [] _).alloc _).alloc _)) HO.out).mono ?_
    rintro e w' ⟨rfl, bs, m, rfl⟩
    rw [HC.out]
    go_wp2_with fail
    refine (size_any _ d _ _ _ _ _ _ n _ hd (H.out.kp0 ((((Kp.refl [] _).alloc _).alloc _).ext _ _)) HO.out HSM.out).mono ?_
    rintro e w' ⟨rfl, bs1, m1, rfl⟩
    go_wp2_with fail
    go_ret
    exact ⟨ret_int (by unfold SizeE; rw [HC.out, if_pos rfl]; rfl), (by (try simp only [alloc_ext, drew_ext, drewN_ext, ext_ext]); exact ⟨_, _, rfl⟩)⟩
  · have hb : (c != 0) = true := by simpa using h0
    have H0 := Lib.hid h0
    have H := Lib.hid h; have HO := Lib.hid ho; clear h ho hc h0
    go_enter Tryz.func32, Tryz.ntmps32
    go_wp2_with fail
    refine (check_any _ _ _ _ _ _ _ _ n _ (H.out.kp0 (((Kp.refl [] _).alloc _).alloc _)) HO.out).mono ?_
    rintro e w' ⟨rfl, bs, m, rfl⟩
    rw [HC.out]
    go_wp2_with fail
    go_ret
    exact ⟨ret_int (by unfold SizeE; rw [HC.out, if_neg H0.out]; rfl), (by (try simp only [alloc_ext, drew_ext, drewN_ext, ext_ext]); exact ⟨_, _, rfl⟩)⟩

set_option maxHeartbeats 1000000 in set_option maxRecDepth 100000 in
theorem may_any (p wd : Int) (pa sa ka : Option Addr) (pc sc kc : Nat) (n : Nd) (w : World) (h : NdAt w pa sa ka n) (ho : NdOk n) :
    Calls Tryz.prog 35 #[.agg #[.int .i64 p, .int .i64 wd], .agg #[.slice pa n.pairs.length pc, .slice sa n.seps.length sc, .slice ka n.kids.length kc]] w (Rets (.int .i64 (mayE p wd n)) w) := by
  obtain ⟨c, hc⟩ : ∃ c, checkE p wd n = c := ⟨_, rfl⟩
  have HC := Lib.hid hc
  by_cases h0 : c = 0
  · subst h0
    have hsm := small_of hc
    have hr := rightB_iff.1 (checkE_ok hc).1
    obtain ⟨d, rfl⟩ := Int.eq_ofNat_of_zero_le (show 0 ≤ wd by omega)
    obtain ⟨q, rfl⟩ := Int.eq_ofNat_of_zero_le (show 0 ≤ p by omega)
    have hd : d ≤ 32 := by omega
    have hq : q ≤ 8192 := by omega
    have hq2 : 1024 ≤ q := by omega
    have hm : mayE q d n = if q - 32 < sizeN d n then 71 else 0 := by simp [mayE, hc]
    have HM := Lib.hid hm; clear hm
    have H := Lib.hid h; have HO := Lib.hid ho; have HSM := Lib.hid hsm; clear h ho hsm hr hc
    have hlo : ((q : Int) - 32 < (sizeN d n : Nat)) ∨ ¬ ((q : Int) - 32 < (sizeN d n : Nat)) := by omega
    rcases hlo with hlo | hlo
    all_goals
      go_enter Tryz.func35, Tryz.ntmps35
      go_wp2_with fail
      refine (check_any _ _ _ _ _ _ _ _ n _ (H.out.kp0 (((Kp.refl [] _).alloc _).alloc _)) HO.out).mono ?_
      rintro e w' ⟨rfl, bs, m, rfl⟩
      rw [HC.out]
      go_wp2_with fail
      refine wp_region_ext (by kernel_rfl) (by kernel_rfl) ?_
      repeat (go_big_quiet_step ((first | (go_at_call 73; exact Calls.quiet_ext2 (room_any _ _ _ (by omega) (by omega))) | (go_at_call 60; exact Calls.quiet_ext2 (size_any _ d _ _ _ _ _ _ n _ hd (H.out.kp0 ((((Kp.refl [] _).alloc _).alloc _).ext _ _)) HO.out HSM.out)))))
      (refine wpQuiet_nil ?_; intro _ hw'; obtain ⟨⟨bsq, nq⟩, hw''⟩ := hw'; subst hw'')
      go_wp2_with fail
      go_ret
      exact ⟨ret_int (by rw [HM.out]; split <;> omega), (by (try simp only [alloc_ext, drew_ext, drewN_ext, ext_ext]); exact ⟨_, _, rfl⟩)⟩
  · have hb : (c != 0) = true := by simpa using h0
    have H0 := Lib.hid h0
    have H := Lib.hid h; have HO := Lib.hid ho; clear h ho hc h0
    go_enter Tryz.func35, Tryz.ntmps35
    go_wp2_with fail
    refine (check_any _ _ _ _ _ _ _ _ n _ (H.out.kp0 (((Kp.refl [] _).alloc _).alloc _)) HO.out).mono ?_
    rintro e w' ⟨rfl, bs, m, rfl⟩
    rw [HC.out]
    go_wp2_with fail
    go_ret
    exact ⟨ret_int (by unfold mayE; rw [HC.out, if_neg H0.out]), (by (try simp only [alloc_ext, drew_ext, drewN_ext, ext_ext]); exact ⟨_, _, rfl⟩)⟩

end Go.Proofs.YtemicgccgcmmbaaGreat
