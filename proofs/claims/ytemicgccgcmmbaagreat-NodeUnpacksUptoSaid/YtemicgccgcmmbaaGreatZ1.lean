/- Digests are cut; they fit a width. -/
import Derived.Test.YtemicgccgcmmbaaGreatZ0
import Derived.Laws.ResultCell
import Derived.Deep.AppendSrc
import Derived.Deep.Slices
import Derived.ChangeArms
import Derived.ShutString
import Derived.ChangeOld
import Derived.SizedLaws
import Derived.Lib.SmallJoins
import Derived.Below
namespace Go.Proofs.YtemicgccgcmmbaaGreat
set_option linter.unusedVariables false
set_option linter.unusedSimpArgs false
open Go Go.RowKit

/-- A digest, and a second result, are handed back. -/
theorem dg_ret2 {fn : Func} {R : Ending → World → Prop} {a : Act} {w : World} {p u : Tmp} {g : Nat} {d : Dg} {v : Value} (hr : fn.results = #[.cell p 36, .tmp u]) (hp : a.tmps.getD p undef = .pointer (some ⟨g, 0, none⟩)) (hv : a.tmps.getD u undef = v) (hg : rowAt? w ⟨g, 0, none⟩ 32 = some d.c) (hd : a.defers = []) (hR : R (.returned (.tuple #[.agg d.c, v])) w) :
    bodyPost Tryz.prog fn R .ret a w := by
  refine bodyPost_ret (v := .tuple #[.agg d.c, v]) ?_ hd hR
  rw [results_cell_tmp hr, hp, hv]
  have h1 := run_loadVar_big Tryz.prog 36 32 _ Tryz.underlying36 rfl (by kernel_rfl) ⟨g, 0, none⟩ w
  rw [hg] at h1
  simp [asAddr, h1, Result.andThen]

/-- Of a digest the first bytes. -/
def Dg.cut (n : Nat) (d : Dg) : Dg := Dg.pad (d.l.take n)

set_option maxHeartbeats 1000000 in set_option maxRecDepth 100000 in
theorem cut_bad (n : Int) (d : Dg) (w : World) (h : ¬ (1 ≤ n ∧ n ≤ 32)) : Calls Tryz.prog 101 #[.int .i64 n, .agg d.c] w (Rets (.tuple #[.agg Dg.zero.c, .int .i64 2]) w) := by
  have hb : decide (1 ≤ n ∧ n ≤ 32) = false := decide_eq_false h
  clear h
  go_enter Tryz.func101, Tryz.ntmps101
  go_wp2_with (go_at_call 78; refine (wide_any _ _).mono ?_; rintro e w' ⟨rfl, rfl⟩)
  refine dg_ret2 rfl rfl rfl (d := Dg.zero) ?_ rfl ?_
  · simp [go_sem]
  · exact ⟨rfl, by (try simp only [alloc_ext, drew_ext, drewN_ext, ext_ext]); exact ⟨_, _, rfl⟩⟩

@[go_sem] theorem extract_take (d : Dg) (n : Nat) : d.c.extract 0 n = (bC (d.l.take n)).toArray := by
  apply Array.ext'
  simp [Dg.c, bC, List.extract_eq_take_drop]
@[go_sem] theorem take32 (d : Dg) : d.l.take 32 = d.l := List.take_of_length_le (by rw [d.h]; omega)
@[go_sem] theorem bC_l (d : Dg) : (bC d.l).toArray = d.c := rfl
@[go_sem] theorem okCells_bC (l : Bs) : okCells (bC l).toArray = true := okCells_of (by simpa using bC_one l)
@[go_sem] theorem spl_cut (d : Dg) (n : Nat) (h : n ≤ 32) : spl Dg.zero.c 0 (bC (d.l.take n)).toArray = (Dg.cut n d).c := by
  have := spl_pad (d.l.take n)
  rw [List.take_of_length_le (by simp; omega)] at this
  exact this

set_option maxHeartbeats 1000000 in set_option maxRecDepth 100000 in
theorem cut_any (n : Nat) (d : Dg) (w : World) (h1 : 1 ≤ n) (h2 : n ≤ 32) : Calls Tryz.prog 101 #[.int .i64 n, .agg d.c] w (Rets (.tuple #[.agg (Dg.cut n d).c, .int .i64 0]) w) := by
  have hb : decide ((1 : Int) ≤ n ∧ (n : Int) ≤ 32) = true := decide_eq_true (by omega)
  go_enter Tryz.func101, Tryz.ntmps101
  go_wp2_with (go_at_call 78; refine (wide_any _ _).mono ?_; rintro e w' ⟨rfl, rfl⟩)
  go_region_held3 (fun _ => True) (trivial) (fail)
  go_wp2
  refine dg_ret2 rfl rfl rfl (d := Dg.cut n d) ?_ rfl ?_
  · simp [go_sem]
  · exact ⟨rfl, by (try simp only [alloc_ext, drew_ext, drewN_ext, ext_ext]); exact ⟨_, _, rfl⟩⟩

end Go.Proofs.YtemicgccgcmmbaaGreat

/- Digests fit a width. -/
namespace Go.Proofs.YtemicgccgcmmbaaGreat
set_option linter.unusedVariables false
set_option linter.unusedSimpArgs false
open Go Go.RowKit

/-- Does a digest fit a width? -/
def fitB (n : Int) (d : Dg) : Bool := decide (1 ≤ n ∧ n ≤ 32) && decide (Dg.cut n.toNat d = d)

set_option maxHeartbeats 1000000 in set_option maxRecDepth 100000 in
theorem fits_any (n : Int) (d : Dg) (w : World) : Calls Tryz.prog 56 #[.int .i64 n, .agg d.c] w (Rets (.bool (fitB n d)) w) := by
  by_cases h : 1 ≤ n ∧ n ≤ 32
  · obtain ⟨m, rfl⟩ := Int.eq_ofNat_of_zero_le (show 0 ≤ n by omega)
    have hf : Hid (fitB m d = decide (Dg.cut m d = d)) := by show _ = _; unfold fitB; rw [decide_eq_true h]; rfl
    obtain ⟨h1, h2⟩ := h
    have h1' : 1 ≤ m := by omega
    have h2' : m ≤ 32 := by omega
    go_enter Tryz.func56, Tryz.ntmps56
    go_wp2_with (go_at_call 101; refine (cut_any _ _ _ h1' h2').mono ?_; rintro e w' ⟨rfl, bs, nn, rfl⟩)
    go_ret
    rw [hf.out]
    exact ⟨rfl, by (try simp only [alloc_ext, drew_ext, drewN_ext, ext_ext]); exact ⟨_, _, rfl⟩⟩
  · have hf : Hid (fitB n d = false) := by show _ = _; unfold fitB; rw [decide_eq_false h]; rfl
    have H := Lib.hid h; clear h
    go_enter Tryz.func56, Tryz.ntmps56
    go_wp2_with (go_at_call 101; refine (cut_bad _ _ _ H.out).mono ?_; rintro e w' ⟨rfl, bs, nn, rfl⟩)
    go_ret
    rw [hf.out]
    exact ⟨rfl, by (try simp only [alloc_ext, drew_ext, drewN_ext, ext_ext]); exact ⟨_, _, rfl⟩⟩

/-! The frame. -/
def IndexPost (xs : List Int) (v : Int) (w : World) (e : Ending) (w' : World) : Prop := (∃ r : Int, e = .returned (.int .i64 r) ∧ (0 ≤ r ↔ v ∈ xs)) ∧ w = w'

set_option maxHeartbeats 1000000 in set_option maxRecDepth 100000 in
theorem index_any (b : Nat) (xs : List Int) (v : Int) (w : World) (hl : xs.length ≤ 1000) (hc : ∀ i x, xs[i]? = some x → w.cell? ⟨b, i, none⟩ = some (.int .i64 x)) :
    Calls Tryz.prog 99 #[.slice (some ⟨b, 0, none⟩) xs.length xs.length, .int .i64 v] w (IndexPost xs v w) := by
  have HC := Lib.hid hc; clear hc
  go_enter Tryz.func99, Tryz.ntmps99
  go_wp2
  go_loop [5, 8] (fun _ i => ∃ k : Nat, k ≤ xs.length ∧ i = .int .i64 k ∧ Hid (v ∉ xs.take k)) (fun _ i => xs.length - (intOf i).toNat)
  case atStart => exact ⟨0, by omega, rfl, by simp [Hid]⟩
  case round =>
    obtain ⟨k, hk, rfl, HN⟩ := hrel
    by_cases hlt : k < xs.length
    · obtain ⟨x, hx⟩ : ∃ x, xs[k]? = some x := ⟨_, List.getElem?_eq_getElem hlt⟩
      have hc := HC.out k x hx
      have HX := Lib.hid hx; clear hx
      by_cases he : v = x
      · have hb : (v == x) = true := by simpa using he
        have HE := Lib.hid he; clear he
        go_wp2
        go_ret
        exact ⟨⟨k, rfl, ⟨fun _ => by rw [HE.out]; exact List.mem_of_getElem? HX.out, fun _ => by omega⟩⟩, rfl⟩
      · have hb : (v == x) = false := by simpa using he
        have HE := Lib.hid he; clear he
        go_wp2
        go_round
        case rel => exact ⟨k + 1, by omega, by go_num, by show ¬ _; rw [List.take_add_one, HX.out]; simp; exact ⟨HN.out, HE.out⟩⟩
        case measure => simp [intOf]; omega
    · go_wp2
      go_ret
      exact ⟨⟨-1, rfl, ⟨fun h => absurd h (by omega), fun h => absurd h (by have := HN.out; rwa [List.take_of_length_le (by omega)] at this)⟩⟩, rfl⟩

def memB (v : Int) (xs : List Int) : Bool := decide (v ∈ xs)

set_option maxHeartbeats 1000000 in set_option maxRecDepth 100000 in
theorem contains_any (b : Nat) (xs : List Int) (v : Int) (w : World) (hl : xs.length ≤ 1000) (hc : ∀ i x, xs[i]? = some x → w.cell? ⟨b, i, none⟩ = some (.int .i64 x)) :
    Calls Tryz.prog 49 #[.slice (some ⟨b, 0, none⟩) xs.length xs.length, .int .i64 v] w fun e w' => e = .returned (.bool (memB v xs)) ∧ w = w' := by
  have HC := Lib.hid hc; clear hc
  go_enter Tryz.func49, Tryz.ntmps49
  go_wp2_with fail
  refine (index_any _ _ _ _ hl HC.out).mono ?_
  rintro e w' ⟨⟨r, rfl, hr⟩, rfl⟩
  have HR := Lib.hid hr; clear hr
  go_wp2_with fail
  go_ret
  exact ⟨ret_bool (by have := HR.out; rw [Bool.eq_iff_iff]; simpa [memB] using this), rfl⟩

/-- May a frame be? -/
def rightB (p wd : Int) : Bool := (decide (p = 1024) || decide (p = 2048) || decide (p = 4096) || decide (p = 8192)) && decide (1 ≤ wd) && decide (wd ≤ 32)
theorem rightB_iff {p wd : Int} : rightB p wd = true ↔ (p = 1024 ∨ p = 2048 ∨ p = 4096 ∨ p = 8192) ∧ 1 ≤ wd ∧ wd ≤ 32 := by
  simp [rightB, and_assoc, or_assoc]

set_option maxHeartbeats 1000000 in set_option maxRecDepth 100000 in
theorem right_any (p wd : Int) (w : World) : Calls Tryz.prog 29 #[.agg #[.int .i64 p, .int .i64 wd]] w (Rets (.bool (rightB p wd)) w) := by
  obtain ⟨m, hm⟩ : ∃ m, memB p [1024, 2048, 4096, 8192] = m := ⟨_, rfl⟩
  have hr : rightB p wd = (m && decide (1 ≤ wd) && decide (wd ≤ 32)) := by
    rw [← hm, Bool.eq_iff_iff, rightB_iff]; simp [memB, and_assoc]
  have HM := Lib.hid hm; have HR := Lib.hid hr; clear hm hr
  have hl : ([1024, 2048, 4096, 8192] : List Int).length ≤ 1000 := by decide
  cases m
  · go_enter Tryz.func29, Tryz.ntmps29
    go_wp2_with fail
    refine (contains_any _ [1024, 2048, 4096, 8192] _ _ hl (by intro i x hx; match i, hx with | 0, hx => (simp at hx; subst hx; simp [go_sem]) | 1, hx => (simp at hx; subst hx; simp [go_sem]) | 2, hx => (simp at hx; subst hx; simp [go_sem]) | 3, hx => (simp at hx; subst hx; simp [go_sem]) | i + 4, hx => simp at hx)).mono ?_
    rintro e w' ⟨rfl, rfl⟩
    rw [HM.out]
    go_wp2_with fail
    go_ret
    rw [HR.out]
    exact ⟨rfl, by (try simp only [alloc_ext, drew_ext, drewN_ext, ext_ext]); exact ⟨_, _, rfl⟩⟩
  · go_enter Tryz.func29, Tryz.ntmps29
    go_wp2_with fail
    refine (contains_any _ [1024, 2048, 4096, 8192] _ _ hl (by intro i x hx; match i, hx with | 0, hx => (simp at hx; subst hx; simp [go_sem]) | 1, hx => (simp at hx; subst hx; simp [go_sem]) | 2, hx => (simp at hx; subst hx; simp [go_sem]) | 3, hx => (simp at hx; subst hx; simp [go_sem]) | i + 4, hx => simp at hx)).mono ?_
    rintro e w' ⟨rfl, rfl⟩
    rw [HM.out]
    go_wp2_with fail
    all_goals
      go_ret
      rw [HR.out]
      exact ⟨ret_bool (by rw [Bool.eq_iff_iff]; simp; omega), (by (try simp only [alloc_ext, drew_ext, drewN_ext, ext_ext]); exact ⟨_, _, rfl⟩)⟩

end Go.Proofs.YtemicgccgcmmbaaGreat

/- append onto a slice that is owned: whatever is appended; the new slice lies where the old one lay, or in new memory. -/
namespace Go.Proofs.YtemicgccgcmmbaaGreat
set_option linter.unusedVariables false
set_option linter.unusedSimpArgs false
open Go Go.RowKit

def ab (a : Option Addr) : List Nat := (a.map (·.block)).toList

/-- An owned slice. -/
def Own (w : World) (e : TypeId) (size : Nat) (a : Option Addr) (n c : Nat) (xs : List Value) : Prop := w.ownsRow 0 e size (.slice a n c) n xs

theorem Own.nil (w : World) (e : TypeId) (size : Nat) : Own w e size none 0 0 [] := World.ownsRow_nil w 0 e size
theorem Own.block {w : World} {e : TypeId} {size : Nat} {a : Option Addr} {n c : Nat} {xs : List Value} (h : Own w e size a n c xs) :
    xs.length = n * size ∧ ((a = none ∧ n = 0 ∧ c = 0) ∨ ∃ g cur, a = some ⟨g, 0, none⟩ ∧ Blk w g e cur ∧ n ≤ c ∧ c ≤ maxLen ∧ cur.size = c * size ∧ cur.toList.take (n * size) = xs) := by
  refine ⟨h.1, ?_⟩
  rcases h.2 with ⟨h1, h2⟩ | ⟨g, cap, cur, h1, _, h2, h3, h4, h5, h6⟩
  · left; cases h1; exact ⟨rfl, rfl, rfl⟩
  · right; cases h1; exact ⟨g, cur, rfl, h2, h3, h4, h5, h6⟩
theorem Own.kp {S : List Nat} {w w' : World} {e : TypeId} {size : Nat} {a : Option Addr} {n c : Nat} {xs : List Value} (h : Own w e size a n c xs) (k : Kp S w w') (hs : ∀ g ∈ ab a, g ∉ S) : Own w' e size a n c xs := by
  refine ⟨h.1, ?_⟩
  rcases h.2 with h1 | ⟨g, cap, cur, h1, h0, h2, h3⟩
  · exact .inl h1
  · cases h1
    exact .inr ⟨g, _, cur, rfl, h0, k.blk h2 (hs g (by simp [ab])), h3⟩
theorem Own.lt {w : World} {e : TypeId} {size : Nat} {a : Option Addr} {n c : Nat} {xs : List Value} (h : Own w e size a n c xs) : ∀ g ∈ ab a, g < w.heap.size := by
  intro g hg
  rcases h.block.2 with ⟨rfl, _⟩ | ⟨g', cur, rfl, hb, _⟩
  · simp [ab] at hg
  · simp [ab] at hg; subst hg; exact hb.lt
theorem Own.cells {w : World} {e : TypeId} {size : Nat} {a : Option Addr} {n c : Nat} {xs : List Value} (h : Own w e size a n c xs) {ad : Addr} (ha : a = some ad) : ∀ j u, xs[j]? = some u → w.cell? (ad.add j) = some u := by
  subst ha
  rcases h.block.2 with ⟨h1, _⟩ | ⟨g', cur, h1, hb, _⟩
  · cases h1
  · cases h1
    exact World.ownsRow.cells (g := g') h rfl

section
variable {P : Program} (w : World)

theorem run_app (t tx ty e : TypeId) (i : TypeInfo) (z : Value) (size bytes : Nat) (ht : P.underlying t = some (.slice e)) (hi : P.info? e = some i) (hz : i.zero = some z)
    (hsize : i.size = size) (hby : i.bytes = bytes) (hzs : z.cells.size = size)
    (a : Option Addr) (n c : Nat) (xs : List Value) (hown : Own w e size a n c xs) (x : Value) (m : Nat) (news : List Value) (hs : Src P size tx x m news w)
    (hbytes : (n + m) * bytes ≤ 140737488355328) (h63 : n + m ≤ maxLen) :
    ∃ a' c' w', (Builtin.append_ #[t, tx] ty #[.slice a n c, x]).run P w = .ok (.slice a' (n + m) c') w' ∧ Own w' e size a' (n + m) c' (xs ++ news) ∧ Kp (ab a) w w' ∧ (∀ g ∈ ab a', g ∈ ab a ∨ w.heap.size ≤ g) := by
  subst hsize
  subst hby
  have hlen : (xs ++ news).length = (n + m) * i.size := by rw [List.length_append, hown.1, hs.newsLen, Nat.add_mul]
  have grown : ∀ (old : Nat) (a0 : Option Addr), c = old → old < n + m → (Builtin.firstCells i.size n (.slice a0 n old)).run P w.drew = .ok xs.toArray w.drew →
      a0 = a → ∃ a' c' w', (Builtin.append_ #[t, tx] ty #[.slice a n c, x]).run P w = .ok (.slice a' (n + m) c') w' ∧ Own w' e i.size a' (n + m) c' (xs ++ news) ∧ Kp (ab a) w w' ∧ (∀ g ∈ ab a', g ∈ ab a ∨ w.heap.size ≤ g) := by
    intro old a0 hc ho hf ha
    subst hc ha
    have hr := run_append_grow_src w t tx ty e i z ht hi hz a0 n c xs hf x m news hs ho (by simp only [maxLen] at h63; omega) (growslice_fits (by omega) hbytes)
    have hge := grownCap_ge w (n + m) c e
    have hcm : grownCap w (n + m) c e ≤ maxLen := grownCap_le_maxLen w (n + m) c e h63
    refine ⟨_, _, _, hr, ⟨hlen, .inr ⟨w.heap.size, _, _, rfl, Nat.zero_le _, heap_alloc_new w.drew _, hge, hcm, ?_, ?_⟩⟩, ((Kp.refl _ _).drew).alloc _, fun g hg => .inr (by simp [ab] at hg; omega)⟩
    · simp only [Array.size_append, List.size_toArray, size_zeroCells, hzs, hlen, ← Nat.add_mul]
      congr 1
      omega
    · simp only [Array.toList_append]
      rw [← hlen]
      exact List.take_left
  rcases hown.block.2 with ⟨rfl, rfl, rfl⟩ | ⟨g, cur, rfl, hb, hnc, hcm, hcs, htake⟩
  · have hx : xs = [] := List.eq_nil_of_length_eq_zero (by simpa using hown.1)
    subst hx
    by_cases hm : m = 0
    · subst hm
      have hn : news = [] := List.eq_nil_of_length_eq_zero (by simpa using hs.newsLen)
      subst hn
      refine ⟨none, 0, w, ?_, Own.nil w e i.size, Kp.refl _ _, by simp [ab]⟩
      rcases hs.kind with ⟨e', hk⟩ | hk <;> simp [Builtin.append_, run_underlying ht, run_underlying hk, sizeOf, typeInfo, hi, hs.len, hs.cells]
    · exact grown 0 none rfl (by omega) (by simp [Builtin.firstCells]) rfl
  · by_cases hroom : n + m ≤ c
    · have hfit : n * i.size + news.length ≤ cur.size := by rw [hs.newsLen, hcs, ← Nat.add_mul]; exact Nat.mul_le_mul_right _ hroom
      have hst := run_storeCells_at P g (n * i.size) e news 0 cur w hb (by simpa using hfit) hs.one
      simp only [Nat.add_zero] at hst
      refine ⟨some ⟨g, 0, none⟩, c, w.setRow g (cur.toList.take (n * i.size) ++ news ++ cur.toList.drop (n * i.size + news.length)).toArray, ?_, ⟨hlen, .inr ⟨g, c, (cur.toList.take (n * i.size) ++ news ++ cur.toList.drop (n * i.size + news.length)).toArray, rfl, Nat.zero_le _, setRow_heap w g cur _ e _ hb, hroom, hcm, ?_, ?_⟩⟩, (Kp.refl _ _).setRow _ _ (.inr (by simp [ab])), fun g' hg' => .inl hg'⟩
      · rcases hs.kind with ⟨e', hk⟩ | hk <;> simp [Builtin.append_, run_underlying ht, run_underlying hk, sizeOf, typeInfo, hi, hs.len, hroom, hs.cells, Addr.add_lit, hst]
      · simp only [List.size_toArray, List.length_append, List.length_take, List.length_drop, Array.length_toList]
        omega
      · rw [htake, ← hlen]
        exact List.take_left
    · have holds : ∀ j u, xs[j]? = some u → w.drew.cell? ((⟨g, 0, none⟩ : Addr).add j) = some u := hown.cells rfl
      exact grown c (some ⟨g, 0, none⟩) rfl (by omega) (run_firstCells_some w.drew i.size n ⟨g, 0, none⟩ n c xs hown.1 holds) rfl

theorem wp_app {o : Oper} {A : Act} {K : Act → World → Prop} {Q : Exit → Act → World → Prop} (s x : Operand) (t tx : TypeId)
    (ho : o.op = .call { callee := .builtin .append, args := #[s, x], argTypes := #[t, tx] })
    (e : TypeId) (i : TypeInfo) (z : Value) (size bytes : Nat) (ht : P.underlying t = some (.slice e)) (hi : P.info? e = some i) (hz : i.zero = some z)
    (hsize : i.size = size) (hby : i.bytes = bytes) (hzs : z.cells.size = size)
    (a : Option Addr) (n c : Nat) (xs : List Value) (hs : A.eval s = .slice a n c) (hown : Own w e size a n c xs) (m : Nat) (news : List Value) (hsrc : Src P size tx (A.eval x) m news w)
    (hbytes : (n + m) * bytes ≤ 140737488355328) (h63 : n + m ≤ maxLen)
    (h : ∀ a' c' w', Own w' e size a' (n + m) c' (xs ++ news) → Kp (ab a) w w' → (∀ g ∈ ab a', g ∈ ab a ∨ w.heap.size ≤ g) → K (A.put o.dst (.slice a' (n + m) c')) w') : o.wp P A w K Q := by
  obtain ⟨a', c', w', hr, h2, h3, h4⟩ := run_app (P := P) w t tx o.type e i z size bytes ht hi hz hsize hby hzs a n c xs hown _ m news hsrc hbytes h63
  unfold Oper.wp execOp
  simp only [ho, resolve, invoke, builtin, Sem.run_bind, Sem.run_pure, Result.andThen_ok, List.map_toArray, List.map_cons, List.map_nil, hs, hr]
  exact h a' c' w' h2 h3 h4

theorem wpList_app {ops : Array Oper} {rest : List Oper} {o : Oper} {A : Act} {Q : Exit → Act → World → Prop} (hgd : o.guard = none) (s x : Operand) (t tx : TypeId)
    (ho : o.op = .call { callee := .builtin .append, args := #[s, x], argTypes := #[t, tx] })
    (e : TypeId) (i : TypeInfo) (z : Value) (size bytes : Nat) (ht : P.underlying t = some (.slice e)) (hi : P.info? e = some i) (hz : i.zero = some z)
    (hsize : i.size = size) (hby : i.bytes = bytes) (hzs : z.cells.size = size)
    (a : Option Addr) (n c : Nat) (xs : List Value) (hs : A.eval s = .slice a n c) (hown : Own w e size a n c xs) (m : Nat) (news : List Value) (hsrc : Src P size tx (A.eval x) m news w)
    (hbytes : (n + m) * bytes ≤ 140737488355328) (h63 : n + m ≤ maxLen)
    (h : ∀ a' c' w', Own w' e size a' (n + m) c' (xs ++ news) → Kp (ab a) w w' → (∀ g ∈ ab a', g ∈ ab a ∨ w.heap.size ≤ g) → wpList P ops Q rest (A.put o.dst (.slice a' (n + m) c')) w') : wpList P ops Q (o :: rest) A w :=
  wpList_plain hgd fun _ hK => wp_app w s x t tx ho e i z size bytes ht hi hz hsize hby hzs a n c xs hs hown m news hsrc hbytes h63 fun a' c' w' h2 h3 h4 => hK _ _ (h a' c' w' h2 h3 h4)
end

theorem Tryz.infoU8 : (Tryz.prog.info? 5).map (fun i => (i.zero, i.size, i.bytes)) = some (some (.int .u8 0), 1, 1) := by kernel_rfl

/-- append onto an owned []byte. -/
theorem wpList_app_u8 {w : World} {ops : Array Oper} {rest : List Oper} {o : Oper} {A : Act} {Q : Exit → Act → World → Prop} (hgd : o.guard = none) {s x : Operand} {tx : TypeId}
    (ho : o.op = .call { callee := .builtin .append, args := #[s, x], argTypes := #[66, tx] })
    {a : Option Addr} {n c : Nat} {xs : List Value} (hs : A.eval s = .slice a n c) (hown : Own w 5 1 a n c xs) (m : Nat) (news : List Value) (hsrc : Src Tryz.prog 1 tx (A.eval x) m news w)
    (h63 : n + m ≤ 140737488355328)
    (h : ∀ a' c' w', Own w' 5 1 a' (n + m) c' (xs ++ news) → Kp (ab a) w w' → (∀ g ∈ ab a', g ∈ ab a ∨ w.heap.size ≤ g) → wpList Tryz.prog ops Q rest (A.put o.dst (.slice a' (n + m) c')) w') : wpList Tryz.prog ops Q (o :: rest) A w := by
  obtain ⟨i0, hi, hz0, hz1, hz2⟩ := info_parts Tryz.infoU8
  exact wpList_app w hgd s x 66 tx ho 5 i0 (.int .u8 0) 1 1 Tryz.underlying66 hi hz0 hz1 hz2 rfl a n c xs hs hown m news hsrc (by omega) (by unfold maxLen; omega) h

end Go.Proofs.YtemicgccgcmmbaaGreat

/- Nodes as they lie in memory. -/
namespace Go.Proofs.YtemicgccgcmmbaaGreat
set_option linter.unusedVariables false
set_option linter.unusedSimpArgs false
open Go Go.RowKit

/-- A kid: its page, its digest. -/
structure Kd where
  page : Nat
  sum : Dg
deriving DecidableEq

def Kd.c (k : Kd) : Array Value := (.int .u32 (k.page : Int) :: bC k.sum.l).toArray
@[simp, go_sem] theorem Kd.c_size (k : Kd) : k.c.size = 33 := by simp [Kd.c, bC, k.sum.h]
@[simp, go_sem] theorem okCells_kd (k : Kd) : okCells k.c = true := okCells_of (by
  intro v hv
  simp only [Kd.c, List.mem_cons] at hv
  rcases hv with rfl | hv
  · rfl
  · exact bC_one _ v hv)
@[go_sem] theorem Kd.get0 (k : Kd) : k.c[0]? = some (.int .u32 (k.page : Int)) := by simp [Kd.c]
@[go_sem] theorem Kd.extract1 (k : Kd) : k.c.extract 1 33 = k.sum.c := by
  apply Array.ext'
  simp [Kd.c, Dg.c, List.extract_eq_take_drop]
  exact List.take_of_length_le (by simp [bC, k.sum.h])
@[go_sem] theorem Kd.extract_all (k : Kd) : k.c.extract 0 33 = k.c := by simp [Array.extract_eq_self_of_le]
@[go_sem] theorem spl_kd (d e : Kd) : spl e.c 0 d.c = d.c := spl_whole _ _ (by simp)
def Kd.zero : Kd := ⟨0, Dg.zero⟩
theorem zero33 : Kd.zero.c = (.int .u32 0 :: Dg.zero.c.toList).toArray := by simp [Kd.zero, Kd.c, Dg.c]
@[go_sem ↓] theorem zero_kd (w : World) : (zeroValue 59).run Tryz.prog w = .ok (.agg Kd.zero.c) w := by
  rw [zero33, zero32]; kernel_rfl
@[go_sem ↓] theorem exec_load_kd (a : Act) (dst : Option Tmp) (x : Operand) (ty : TypeId) (pos : String) (after : Array Edge) (guard : Option (Nat × Bool)) :
    execOp a.eval { dst, op := .load 59 x, type := ty, pos, after, guard } = ldBig 59 (a.eval x) := rfl
@[go_sem ↓] theorem exec_store_kd (a : Act) (dst : Option Tmp) (x y : Operand) (ty : TypeId) (pos : String) (after : Array Edge) (guard : Option (Nat × Bool)) :
    execOp a.eval { dst, op := .store 59 x y, type := ty, pos, after, guard } = stBig 59 (a.eval x) (a.eval y) := rfl
@[go_sem] theorem run_load_kd (a : Addr) (w : World) : (ldBig 59 (.pointer (some a))).run Tryz.prog w = match rowAt? w a 33 with | some cs => .ok (.value (.agg cs)) w | none => slowLd Tryz.prog 59 (.pointer (some a)) w :=
  run_ldBig Tryz.prog 59 33 _ Tryz.underlying59 rfl (by kernel_rfl) a w
@[go_sem] theorem run_store_kd (g o : Nat) (cs : Array Value) (w : World) : (stBig 59 (.pointer (some ⟨g, o, none⟩)) (.agg cs)).run Tryz.prog w = match own? w g with | some c => (if o + 33 ≤ c.size ∧ cs.size = 33 ∧ okCells cs = true then .ok .skip (w.setRow g (spl c o cs)) else slowSt Tryz.prog 59 (.pointer (some ⟨g, o, none⟩)) (.agg cs) w) | none => slowSt Tryz.prog 59 (.pointer (some ⟨g, o, none⟩)) (.agg cs) w :=
  run_stBig Tryz.prog 59 33 (by kernel_rfl) g o cs w

abbrev Pr := Bs × Bs
/-- A node. -/
structure Nd where
  pairs : List Pr
  seps : List Bs
  kids : List Kd
deriving DecidableEq

def PsAt (w : World) (a : Option Addr) (ps : List Pr) : Prop := ∀ i p, ps[i]? = some p → ∃ b o, a = some ⟨b, o, none⟩ ∧ b < w.heap.size ∧ w.cell? ⟨b, o + i * 2, none⟩ = some (.string ⟨p.1.toArray⟩) ∧ w.cell? ⟨b, o + i * 2 + 1, none⟩ = some (.string ⟨p.2.toArray⟩)
def SsAt (w : World) (a : Option Addr) (ss : List Bs) : Prop := ∀ i p, ss[i]? = some p → ∃ b o, a = some ⟨b, o, none⟩ ∧ b < w.heap.size ∧ w.cell? ⟨b, o + i, none⟩ = some (.string ⟨p.toArray⟩)
def KsAt (w : World) (a : Option Addr) (ks : List Kd) : Prop := ∀ i k, ks[i]? = some k → ∃ b o, a = some ⟨b, o, none⟩ ∧ b < w.heap.size ∧ rowAt? w ⟨b, o + i * 33, none⟩ 33 = some k.c

theorem PsAt.nil (w : World) (a : Option Addr) : PsAt w a [] := by intro i p h; simp at h
theorem SsAt.nil (w : World) (a : Option Addr) : SsAt w a [] := by intro i p h; simp at h
theorem KsAt.nil (w : World) (a : Option Addr) : KsAt w a [] := by intro i p h; simp at h
theorem PsAt.kp {S : List Nat} {w w' : World} {a : Option Addr} {ps : List Pr} (h : PsAt w a ps) (k : Kp S w w') (hs : ∀ b ∈ ab a, b ∉ S) : PsAt w' a ps := by
  intro i p hp
  obtain ⟨b, o, ha, hb, h1, h2⟩ := h i p hp
  have : b ∉ S := hs b (by simp [ab, ha])
  exact ⟨b, o, ha, Nat.lt_of_lt_of_le hb k.size, k.cell h1 this, k.cell h2 this⟩
theorem SsAt.kp {S : List Nat} {w w' : World} {a : Option Addr} {ps : List Bs} (h : SsAt w a ps) (k : Kp S w w') (hs : ∀ b ∈ ab a, b ∉ S) : SsAt w' a ps := by
  intro i p hp
  obtain ⟨b, o, ha, hb, h1⟩ := h i p hp
  have : b ∉ S := hs b (by simp [ab, ha])
  exact ⟨b, o, ha, Nat.lt_of_lt_of_le hb k.size, k.cell h1 this⟩
theorem KsAt.kp {S : List Nat} {w w' : World} {a : Option Addr} {ps : List Kd} (h : KsAt w a ps) (k : Kp S w w') (hs : ∀ b ∈ ab a, b ∉ S) : KsAt w' a ps := by
  intro i p hp
  obtain ⟨b, o, ha, hb, h1⟩ := h i p hp
  have : b ∉ S := hs b (by simp [ab, ha])
  exact ⟨b, o, ha, Nat.lt_of_lt_of_le hb k.size, rowAt?_kp k h1 this⟩

/-- The bounds that every node in memory has. -/
structure NdOk (n : Nd) : Prop where
  np : n.pairs.length ≤ 4398046511104
  ns : n.seps.length ≤ 8796093022208
  nk : n.kids.length ≤ 3909374676453
  sp : ∀ p ∈ n.pairs, p.1.length ≤ 140737488351232 ∧ p.2.length ≤ 140737488351232
  ss : ∀ p ∈ n.seps, p.length ≤ 140737488351232
  pg : ∀ k ∈ n.kids, k.page < 4294967296

/-- A node's three slices, and what stands in them. -/
structure NdAt (w : World) (pa sa ka : Option Addr) (n : Nd) : Prop where
  ps : PsAt w pa n.pairs
  ss : SsAt w sa n.seps
  ks : KsAt w ka n.kids

theorem NdAt.kp {S : List Nat} {w w' : World} {pa sa ka : Option Addr} {n : Nd} (h : NdAt w pa sa ka n) (k : Kp S w w') (h1 : ∀ b ∈ ab pa, b ∉ S) (h2 : ∀ b ∈ ab sa, b ∉ S) (h3 : ∀ b ∈ ab ka, b ∉ S) : NdAt w' pa sa ka n :=
  ⟨h.ps.kp k h1, h.ss.kp k h2, h.ks.kp k h3⟩
theorem NdAt.kp0 {w w' : World} {pa sa ka : Option Addr} {n : Nd} (h : NdAt w pa sa ka n) (k : Kp [] w w') : NdAt w' pa sa ka n := h.kp k (by simp) (by simp) (by simp)

end Go.Proofs.YtemicgccgcmmbaaGreat

/- A law's arguments opened: a frame, a node, a text. -/
namespace Go.Proofs.YtemicgccgcmmbaaGreat
set_option linter.unusedVariables false
set_option linter.unusedSimpArgs false
open Go Go.RowKit Go.ChangeShapes Go.WideShapes Go.Deep

section
variable {H : Type} {enc : TypeId × Value → H} {P : Program} {w : World} {base : Nat} {spare : Nat → Bool} {held : Bool}

theorem spot_none {w : World} {a : Addr} {v : Value} (h : w.cell? a = some v) : a = ⟨a.block, a.off, none⟩ ∧ a.block < w.heap.size := by
  refine ⟨?_, World.block_lt_of_cell? w a h⟩
  obtain ⟨b, o, sp⟩ := a
  unfold World.cell? at h
  split at h
  · cases sp with
    | none => rfl
    | some x => simp at h
  · cases h

theorem row_of_cells {w : World} {b o n : Nat} {cs : List Value} (hn : 0 < n) (hl : cs.length = n) (h : ∀ i, i < n → w.cell? ⟨b, o + i, none⟩ = cs[i]?) : rowAt? w ⟨b, o, none⟩ n = some cs.toArray := by
  have h0 := h (n - 1) (by omega)
  rw [List.getElem?_eq_getElem (by omega)] at h0
  unfold rowAt?
  unfold World.cell? at h0
  split at h0
  · rename_i c e f hb
    simp only at hb
    have hsz : o + (n - 1) < c.size := by
      rcases Nat.lt_or_ge (o + (n - 1)) c.size with h1 | h1
      · exact h1
      · simp [Array.getElem?_eq_none h1] at h0
    simp only [hb, Option.isSome_none, Bool.false_eq_true, if_false]
    rw [if_pos (by omega)]
    congr 1
    apply Array.ext_getElem?
    intro i
    simp only [Array.getElem?_extract, List.getElem?_toArray]
    by_cases hi : i < n
    · have h1 := h i hi
      simp only [World.cell?, hb, Option.isSome_none, Bool.false_eq_true, if_false] at h1
      rw [if_pos (by omega), h1]
    · rw [if_neg (by omega), List.getElem?_eq_none (by omega)]
  · cases h0

theorem weightsAll_mem {e : TypeId} : ∀ {ds : List (DataW H)} {d : DataW H}, d ∈ ds → ∀ n ∈ d.weights P e, n ∈ DataW.weightsAll P e ds
  | x :: r, d, hd, n, hn => by
    simp only [DataW.weightsAll, List.mem_append]
    rcases List.mem_cons.1 hd with rfl | h
    · exact .inl hn
    · exact .inr (weightsAll_mem h n hn)

/-- A slice: its length, and each element that is read, with its weights. -/
theorem open_sl {t e : TypeId} {fuel : Nat} {cs : List Value} {x : DataW H × List MemPlace} (ht : P.underlying t = some (.slice e)) (h : DataW.trod enc P w base spare held fuel t cs = some x)
    (hz : ∀ n ∈ x.1.weights P t, n ≤ reachBytes) :
    ∃ (a : Option Addr) (len cap : Nat), cs = [.slice a len cap] ∧ len * P.bytesOf e ≤ reachBytes ∧
      ∀ i, i < len → ∃ (ad : Addr) (n : Nat) (cs' : List Value) (y : DataW H × List MemPlace), a = some ad ∧ w.cells? base (ad.add (i * P.cellsOf e)) (P.cellsOf e) = some cs' ∧ DataW.trod enc P w base spare held n e cs' = some y ∧ ∀ m ∈ y.1.weights P e, m ≤ reachBytes := by
  rcases DataW.trod_slice ht h with ⟨rfl, rfl⟩ | ⟨a, len, cap, elems, rest, n, _, rfl, rfl, hb, hl, hm, hlen, hel, _, _⟩
  · exact ⟨none, 0, 0, rfl, by simp, fun i hi => absurd hi (Nat.not_lt_zero _)⟩
  · refine ⟨some a, len, cap, rfl, ?_, fun i hi => ?_⟩
    · have := hz ((elems.length + rest.length) * P.bytesOf e) (by simp [DataW.weights, ht])
      exact Nat.le_trans (Nat.mul_le_mul_right _ (by omega)) this
    · have hy : elems[i]? = some (elems[i]'(by omega)) := List.getElem?_eq_getElem (by omega)
      have h1 := hel i hi
      rw [hy] at h1
      obtain ⟨cs', hc, hd⟩ := Option.bind_eq_some_iff.1 h1
      refine ⟨a, n, cs', _, rfl, hc, hd, fun m hm => hz m ?_⟩
      have hmem : (elems[i]'(by omega)).1 ∈ elems.map (·.1) := List.mem_map.2 ⟨_, List.getElem_mem _, rfl⟩
      simp only [DataW.weights, ht, List.mem_cons, List.mem_append]
      exact .inr (.inl (weightsAll_mem hmem m hm))


/-- One text. -/
theorem elem_str {t : TypeId} (ht : P.underlying t = some .string) {n : Nat} {cs : List Value} {y : DataW H × List MemPlace} (h : DataW.trod enc P w base spare held n t cs = some y) (hz : ∀ m ∈ y.1.weights P t, m ≤ reachBytes) :
    ∃ l : Bs, cs = [.string ⟨l.toArray⟩] ∧ l.length ≤ 140737488351232 := by
  obtain ⟨s, rfl, rfl, _⟩ := DataW.trod_string ht h
  refine ⟨s.data.toList, by simp, ?_⟩
  have := hz s.data.toList.length (by simp [DataW.weights])
  exact this

theorem cells1 {w : World} {base : Nat} {a : Addr} {v : Value} (h : w.cells? base a 1 = some [v]) : w.cell? a = some v := by
  have := (World.cells?_some h).2.2 0 (by omega)
  simpa [Addr.add] using this

/-- A slice of texts. -/
theorem open_texts {t e : TypeId} {fuel : Nat} {cs : List Value} {x : DataW H × List MemPlace} (ht : P.underlying t = some (.slice e)) (he : P.underlying e = some .string) (hc : P.cellsOf e = 1) (h16 : P.bytesOf e = 16) (h : DataW.trod enc P w base spare held fuel t cs = some x)
    (hz : ∀ n ∈ x.1.weights P t, n ≤ reachBytes) :
    ∃ (a : Option Addr) (cap : Nat) (ss : List Bs), cs = [.slice a ss.length cap] ∧ SsAt w a ss ∧ ss.length ≤ 8796093022208 ∧ ∀ p ∈ ss, p.length ≤ 140737488351232 := by
  obtain ⟨a, len, cap, rfl, hl, hel⟩ := open_sl ht h hz
  have each : ∀ i, i < len → ∃ l : Bs, (∃ ad : Addr, a = some ad ∧ w.cell? (ad.add i) = some (.string ⟨l.toArray⟩)) ∧ l.length ≤ 140737488351232 ∧ ∃ ad : Addr, a = some ad ∧ (i = 0 → True) := by
    intro i hi
    obtain ⟨ad, n, cs', y, ha, hcs, hd, hw⟩ := hel i hi
    obtain ⟨l, rfl, hlen⟩ := elem_str he hd hw
    rw [hc] at hcs
    refine ⟨l, ⟨ad, ha, ?_⟩, hlen, ad, ha, fun _ => trivial⟩
    have := cells1 hcs
    simpa using this
  obtain ⟨f, hf⟩ := choose_lt each
  refine ⟨a, cap, (List.range len).map f, by simp, ?_, by simp; rw [h16] at hl; unfold reachBytes at hl; omega, ?_⟩
  · intro i p hp
    have hi : i < len := by
      rcases Nat.lt_or_ge i len with h1 | h1
      · exact h1
      · simp [List.getElem?_eq_none (show (List.range len).length ≤ i by simpa using h1)] at hp
    simp only [List.getElem?_map, List.getElem?_range hi, Option.map_some, Option.some.injEq] at hp
    subst hp
    obtain ⟨ad, rfl, hcell⟩ := (hf i hi).1
    obtain ⟨ad0, h0, hcell0⟩ := (hf 0 (by omega)).1
    cases h0
    have hsp := spot_none (by simpa [Addr.add] using hcell0)
    refine ⟨ad.block, ad.off, by rw [← hsp.1], hsp.2, ?_⟩
    rw [hsp.1, Addr.add_lit] at hcell
    exact hcell
  · intro p hp
    obtain ⟨i, hi, rfl⟩ := List.mem_map.1 hp
    exact (hf i (List.mem_range.1 hi)).2.1


/-- One pair. -/
theorem elem_pair {t t0 : TypeId} {f0 f1 : Field} (ht : P.underlying t = some (.struct #[f0, f1])) (e0 : f0.type = t0) (e1 : f1.type = t0) (o0 : f0.offset = 0) (o1 : f1.offset = 1) (hs : P.underlying t0 = some .string) (hc0 : P.cellsOf t0 = 1)
    {n : Nat} {cs : List Value} {y : DataW H × List MemPlace} (h : DataW.trod enc P w base spare held n t cs = some y) (hl2 : cs.length = 2) (hz : ∀ m ∈ y.1.weights P t, m ≤ reachBytes) :
    ∃ p : Pr, cs = [.string ⟨p.1.toArray⟩, .string ⟨p.2.toArray⟩] ∧ p.1.length ≤ 140737488351232 ∧ p.2.length ≤ 140737488351232 := by
  subst e0
  obtain ⟨y0, y1, m, rfl, _, h0, h1⟩ := trod_struct2 ht h
  rw [e1] at h1
  simp only [DataW.weights, ht, List.map_cons, List.map_nil, DataW.weightsEach, List.append_nil, List.mem_append] at hz
  rw [e1] at hz
  obtain ⟨p0, q0, b0⟩ := elem_str hs h0 (fun m hm => hz m (.inl hm))
  obtain ⟨p1, q1, b1⟩ := elem_str hs h1 (fun m hm => hz m (.inr hm))
  match cs, hl2 with
  | [c0, c1], _ =>
    rw [hc0, o0] at q0
    rw [hc0, o1] at q1
    simp at q0 q1
    exact ⟨⟨p0, p1⟩, by simp [q0, q1], b0, b1⟩

theorem cells_at {w : World} {base : Nat} {a : Addr} {k : Nat} {cs : List Value} (h : w.cells? base a k = some cs) (hk : 0 < k) : a = ⟨a.block, a.off, none⟩ ∧ a.block < w.heap.size ∧ cs.length = k ∧ ∀ i, i < k → w.cell? ⟨a.block, a.off + i, none⟩ = cs[i]? := by
  obtain ⟨_, hl, hc⟩ := World.cells?_some h
  have h0 := hc 0 hk
  rw [List.getElem?_eq_getElem (by omega)] at h0
  have ha : a.add 0 = a := by simp [Addr.add]
  rw [ha] at h0
  obtain ⟨h1, h2⟩ := spot_none h0
  refine ⟨h1, h2, hl, fun i hi => ?_⟩
  rw [← hc i hi]
  rw [h1, Addr.add_lit]

/-- A slice of pairs. -/
theorem open_pairs {t e t0 : TypeId} {f0 f1 : Field} {fuel : Nat} {cs : List Value} {x : DataW H × List MemPlace} (ht : P.underlying t = some (.slice e)) (he : P.underlying e = some (.struct #[f0, f1])) (e0 : f0.type = t0) (e1 : f1.type = t0) (o0 : f0.offset = 0) (o1 : f1.offset = 1) (hs : P.underlying t0 = some .string) (hc0 : P.cellsOf t0 = 1)
    (hc : P.cellsOf e = 2) (h32 : P.bytesOf e = 32) (h : DataW.trod enc P w base spare held fuel t cs = some x)
    (hz : ∀ n ∈ x.1.weights P t, n ≤ reachBytes) :
    ∃ (a : Option Addr) (cap : Nat) (ps : List Pr), cs = [.slice a ps.length cap] ∧ PsAt w a ps ∧ ps.length ≤ 4398046511104 ∧ ∀ p ∈ ps, p.1.length ≤ 140737488351232 ∧ p.2.length ≤ 140737488351232 := by
  obtain ⟨a, len, cap, rfl, hl, hel⟩ := open_sl ht h hz
  have hn : 0 < len → ∃ b o, a = some ⟨b, o, none⟩ := by
    intro h0
    obtain ⟨ad, n, cs', y, ha, hcs, hd, hw⟩ := hel 0 h0
    rw [hc, Nat.zero_mul, show ad.add 0 = ad by simp [Addr.add]] at hcs
    exact ⟨ad.block, ad.off, by rw [ha, ← (cells_at hcs (by omega)).1]⟩
  have each : ∀ i, i < len → ∃ p : Pr, (∃ b o, a = some ⟨b, o, none⟩ ∧ b < w.heap.size ∧ w.cell? ⟨b, o + i * 2, none⟩ = some (.string ⟨p.1.toArray⟩) ∧ w.cell? ⟨b, o + i * 2 + 1, none⟩ = some (.string ⟨p.2.toArray⟩)) ∧ p.1.length ≤ 140737488351232 ∧ p.2.length ≤ 140737488351232 := by
    intro i hi
    obtain ⟨ad, n, cs', y, ha, hcs, hd, hw⟩ := hel i hi
    obtain ⟨b, o, rfl⟩ := hn (by omega)
    cases ha
    rw [hc, Addr.add_lit] at hcs
    obtain ⟨h1, h2, h3, h4⟩ := cells_at hcs (by omega)
    obtain ⟨p, hp, b0, b1⟩ := elem_pair he e0 e1 o0 o1 hs hc0 hd h3 hw
    subst hp
    have k0 := h4 0 (by omega)
    have k1 := h4 1 (by omega)
    exact ⟨p, ⟨b, o, rfl, h2, k0, k1⟩, b0, b1⟩
  obtain ⟨f, hf⟩ := choose_lt each
  refine ⟨a, cap, (List.range len).map f, by simp, ?_, by simp; rw [h32] at hl; unfold reachBytes at hl; omega, ?_⟩
  · intro i p hp
    have hi : i < len := by
      rcases Nat.lt_or_ge i len with h1 | h1
      · exact h1
      · simp [List.getElem?_eq_none (show (List.range len).length ≤ i by simpa using h1)] at hp
    simp only [List.getElem?_map, List.getElem?_range hi, Option.map_some, Option.some.injEq] at hp
    subst hp
    exact (hf i hi).1
  · intro p hp
    obtain ⟨i, hi, rfl⟩ := List.mem_map.1 hp
    exact (hf i (List.mem_range.1 hi)).2

/-- An array of 32 bytes. -/
theorem elem_bytes {t e : TypeId} {k : Nat} (ht : P.underlying t = some (.array k e)) (he : P.underlying e = some (.int .u8)) (hc : P.cellsOf e = 1) (hck : P.cellsOf t = k)
    {n : Nat} {cs : List Value} {y : DataW H × List MemPlace} (h : DataW.trod enc P w base spare held n t cs = some y) :
    ∃ l : Bs, l.length = k ∧ cs = bC l := by
  obtain ⟨xs, m, _, _, hl, hlx, hel⟩ := DataW.trod_array ht h
  rw [hck] at hl
  have each : ∀ i, i < k → ∃ b : UInt8, cs[i]? = some (.int .u8 (b.toNat : Int)) := by
    intro i hi
    have h1 := hel i hi
    rw [List.getElem?_eq_getElem (by omega)] at h1
    obtain ⟨z, hz, _, hwf⟩ := DataW.trod_int he h1
    rw [hc] at hz
    have h2 : ((cs.drop (i * 1)).take 1)[0]? = some (.int .u8 z) := by rw [hz]; rfl
    simp at h2
    have hr : 0 ≤ z ∧ z < 256 := by
      simp [Lit.wf, IntKind.min, IntKind.max, IntKind.bits, IntKind.signed] at hwf
      omega
    refine ⟨UInt8.ofNat z.toNat, ?_⟩
    rw [h2]
    congr 2
    rw [UInt8.toNat_ofNat_of_lt' (by simp [UInt8.size]; omega)]
    omega
  obtain ⟨f, hf⟩ := choose_lt each
  refine ⟨(List.range k).map f, by simp, ?_⟩
  apply List.ext_getElem?
  intro i
  by_cases hi : i < k
  · rw [hf i hi]
    simp [bC, hi]
  · rw [List.getElem?_eq_none (by omega), List.getElem?_eq_none (by simp [bC]; omega)]

/-- One kid. -/
theorem elem_kid {t t0 t1 e : TypeId} {f0 f1 : Field} (ht : P.underlying t = some (.struct #[f0, f1])) (e0 : f0.type = t0) (e1 : f1.type = t1) (o0 : f0.offset = 0) (o1 : f1.offset = 1) (hs : P.underlying t0 = some (.int .u32)) (hc0 : P.cellsOf t0 = 1)
    (h1 : P.underlying t1 = some (.array 32 e)) (he : P.underlying e = some (.int .u8)) (hce : P.cellsOf e = 1) (hc1 : P.cellsOf t1 = 32)
    {n : Nat} {cs : List Value} {y : DataW H × List MemPlace} (h : DataW.trod enc P w base spare held n t cs = some y) (hl2 : cs.length = 33) :
    ∃ k : Kd, cs.toArray = k.c ∧ k.page < 4294967296 := by
  obtain ⟨y0, y1, m, rfl, _, h0, h1'⟩ := trod_struct2 ht h
  rw [e0, o0, hc0] at h0
  rw [e1, o1, hc1] at h1'
  obtain ⟨z, hz, _, hwf⟩ := DataW.trod_int hs h0
  obtain ⟨l, hl, hcs⟩ := elem_bytes h1 he hce hc1 h1'
  have hr : 0 ≤ z ∧ z < 4294967296 := by
    simp [Lit.wf, IntKind.min, IntKind.max, IntKind.bits, IntKind.signed] at hwf
    omega
  refine ⟨⟨z.toNat, ⟨l, hl⟩⟩, ?_, by simp; omega⟩
  match cs, hl2 with
  | c :: r, hr2 =>
    simp at hz hcs
    have h32 : r.length = 32 := by simpa using hr2
    rw [List.take_of_length_le (by omega)] at hcs
    subst hz hcs
    simp only [Kd.c]
    congr 2
    congr 1
    omega

instance : Inhabited Kd := ⟨Kd.zero⟩

/-- A slice of kids. -/
theorem open_kids {t e t0 t1 e8 : TypeId} {f0 f1 : Field} {fuel : Nat} {cs : List Value} {x : DataW H × List MemPlace} (ht : P.underlying t = some (.slice e)) (he : P.underlying e = some (.struct #[f0, f1])) (e0 : f0.type = t0) (e1 : f1.type = t1) (o0 : f0.offset = 0) (o1 : f1.offset = 1) (hs : P.underlying t0 = some (.int .u32)) (hc0 : P.cellsOf t0 = 1)
    (h1 : P.underlying t1 = some (.array 32 e8)) (he8 : P.underlying e8 = some (.int .u8)) (hce : P.cellsOf e8 = 1) (hc1 : P.cellsOf t1 = 32)
    (hc : P.cellsOf e = 33) (h36 : P.bytesOf e = 36) (h : DataW.trod enc P w base spare held fuel t cs = some x)
    (hz : ∀ n ∈ x.1.weights P t, n ≤ reachBytes) :
    ∃ (a : Option Addr) (cap : Nat) (ks : List Kd), cs = [.slice a ks.length cap] ∧ KsAt w a ks ∧ ks.length ≤ 3909374676453 ∧ ∀ k ∈ ks, k.page < 4294967296 := by
  obtain ⟨a, len, cap, rfl, hl, hel⟩ := open_sl ht h hz
  have hn : 0 < len → ∃ b o, a = some ⟨b, o, none⟩ := by
    intro h0
    obtain ⟨ad, n, cs', y, ha, hcs, hd, hw⟩ := hel 0 h0
    rw [hc, Nat.zero_mul, show ad.add 0 = ad by simp [Addr.add]] at hcs
    exact ⟨ad.block, ad.off, by rw [ha, ← (cells_at hcs (by omega)).1]⟩
  have each : ∀ i, i < len → ∃ k : Kd, (∃ b o, a = some ⟨b, o, none⟩ ∧ b < w.heap.size ∧ rowAt? w ⟨b, o + i * 33, none⟩ 33 = some k.c) ∧ k.page < 4294967296 := by
    intro i hi
    obtain ⟨ad, n, cs', y, ha, hcs, hd, hw⟩ := hel i hi
    obtain ⟨b, o, rfl⟩ := hn (by omega)
    cases ha
    rw [hc, Addr.add_lit] at hcs
    obtain ⟨h1', h2, h3, h4⟩ := cells_at hcs (by omega)
    obtain ⟨k, hk, hp⟩ := elem_kid he e0 e1 o0 o1 hs hc0 h1 he8 hce hc1 hd h3
    refine ⟨k, ⟨b, o, rfl, h2, ?_⟩, hp⟩
    rw [← hk]
    exact row_of_cells (by omega) h3 (fun j hj => h4 j hj)
  obtain ⟨f, hf⟩ := choose_lt each
  refine ⟨a, cap, (List.range len).map f, by simp, ?_, by simp; rw [h36] at hl; unfold reachBytes at hl; omega, ?_⟩
  · intro i k hk
    have hi : i < len := by
      rcases Nat.lt_or_ge i len with h1 | h1
      · exact h1
      · simp [List.getElem?_eq_none (show (List.range len).length ≤ i by simpa using h1)] at hk
    simp only [List.getElem?_map, List.getElem?_range hi, Option.map_some, Option.some.injEq] at hk
    subst hk
    exact (hf i hi).1
  · intro k hk
    obtain ⟨i, hi, rfl⟩ := List.mem_map.1 hk
    exact (hf i (List.mem_range.1 hi)).2

theorem cells_agg {v : Value} {k : Nat} (h : v.cells.size = k) (h2 : 1 < k) : ∃ cs, v = .agg cs ∧ cs.size = k := by
  cases v <;> simp [Value.cells] at h <;> first | exact ⟨_, rfl, h⟩ | omega


end

end Go.Proofs.YtemicgccgcmmbaaGreat

/- This program's frame and node, opened where they come in. -/
namespace Go.Proofs.YtemicgccgcmmbaaGreat
set_option linter.unusedVariables false
set_option linter.unusedSimpArgs false
open Go Go.RowKit Go.ChangeShapes Go.WideShapes Go.Deep Go.Joins

theorem pair_struct : ∃ f0 f1, Tryz.prog.underlying 56 = some (.struct #[f0, f1]) ∧ f0.type = 9 ∧ f1.type = 9 ∧ f0.offset = 0 ∧ f1.offset = 1 := ⟨_, _, Tryz.underlying56, rfl, rfl, rfl, rfl⟩
theorem kid_struct : ∃ f0 f1, Tryz.prog.underlying 59 = some (.struct #[f0, f1]) ∧ f0.type = 57 ∧ f1.type = 36 ∧ f0.offset = 0 ∧ f1.offset = 1 := ⟨_, _, Tryz.underlying59, rfl, rfl, rfl, rfl⟩
theorem node_struct : ∃ f0 f1 f2, Tryz.prog.underlying 28 = some (.struct #[f0, f1, f2]) ∧ f0.type = 24 ∧ f1.type = 25 ∧ f2.type = 26 ∧ f0.offset = 0 ∧ f1.offset = 1 ∧ f2.offset = 2 := ⟨_, _, _, Tryz.underlying28, rfl, rfl, rfl, rfl, rfl, rfl⟩
theorem frame_struct : ∃ f0 f1, Tryz.prog.underlying 23 = some (.struct #[f0, f1]) ∧ f0.type = 3 ∧ f1.type = 3 ∧ f0.offset = 0 ∧ f1.offset = 1 := ⟨_, _, Tryz.underlying23, rfl, rfl, rfl, rfl⟩

section
variable {H : Type} {enc : TypeId × Value → H} {w : World} {base : Nat} {spare : Nat → Bool} {held : Bool}

theorem agg_two {v : Value} {a b : Value} (h : v.cells.toList = [a, b]) : v = .agg #[a, b] := by
  cases v <;> simp [Value.cells] at h
  rename_i cs
  obtain ⟨l⟩ := cs
  simp at h; simp [h]
theorem agg_three {v : Value} {a b c : Value} (h : v.cells.toList = [a, b, c]) : v = .agg #[a, b, c] := by
  cases v <;> simp [Value.cells] at h
  rename_i cs
  obtain ⟨l⟩ := cs
  simp at h; simp [h]

/-- A frame that comes in. -/
theorem open_frame {v : Value} {d : DataW H} {p : List MemPlace} (h : DataW.Trod enc Tryz.prog w base spare held 23 v d p) : ∃ pg wd : Int, v = .agg #[.int .i64 pg, .int .i64 wd] ∧ p = [] := by
  obtain ⟨fuel, hf⟩ := h
  obtain ⟨f0, f1, hu, e0, e1, o0, o1⟩ := frame_struct
  obtain ⟨y0, y1, n, hx, hl, h0, h1⟩ := trod_struct2 hu hf
  have hc : Tryz.prog.cellsOf 23 = 2 := by kernel_rfl
  have hi : Tryz.prog.cellsOf 3 = 1 := by kernel_rfl
  rw [hc] at hl
  rw [e0, o0, hi] at h0
  rw [e1, o1, hi] at h1
  obtain ⟨z0, q0, r0, _⟩ := DataW.trod_int Tryz.underlying3 h0
  obtain ⟨z1, q1, r1, _⟩ := DataW.trod_int Tryz.underlying3 h1
  simp only [Prod.mk.injEq] at hx
  refine ⟨z0, z1, agg_two ?_, by rw [hx.2, r0, r1]; rfl⟩
  generalize v.cells.toList = cs at *
  match cs, hl with
  | [a, b], _ => simp at q0 q1; rw [q0, q1]

/-- A node that comes in. -/
theorem open_node {v : Value} {d : DataW H} {p : List MemPlace} (h : DataW.Trod enc Tryz.prog w base spare held 28 v d p) (hz : ∀ m ∈ d.weights Tryz.prog 28, m ≤ reachBytes) :
    ∃ (pa sa ka : Option Addr) (pc sc kc : Nat) (n : Nd), v = .agg #[.slice pa n.pairs.length pc, .slice sa n.seps.length sc, .slice ka n.kids.length kc] ∧ NdAt w pa sa ka n ∧ NdOk n := by
  obtain ⟨fuel, hf⟩ := h
  obtain ⟨f0, f1, f2, hu, e0, e1, e2, o0, o1, o2⟩ := node_struct
  obtain ⟨y0, y1, y2, n, hx, hl, h0, h1, h2⟩ := trod_struct3 hu hf
  have hc : Tryz.prog.cellsOf 28 = 3 := by kernel_rfl
  have i0 : Tryz.prog.cellsOf 24 = 1 := by kernel_rfl
  have i1 : Tryz.prog.cellsOf 25 = 1 := by kernel_rfl
  have i2 : Tryz.prog.cellsOf 26 = 1 := by kernel_rfl
  rw [hc] at hl
  rw [e0, o0, i0] at h0
  rw [e1, o1, i1] at h1
  rw [e2, o2, i2] at h2
  simp only [Prod.mk.injEq] at hx
  rw [hx.1] at hz
  simp only [DataW.weights, hu, List.map_cons, List.map_nil, DataW.weightsEach, List.append_nil, List.mem_append, e0, e1, e2] at hz
  obtain ⟨f0, f1, hp, e0, e1, o0, o1⟩ := pair_struct
  obtain ⟨pa, pc, ps, q0, a0, b0, c0⟩ := open_pairs (w := w) Tryz.underlying24 hp e0 e1 o0 o1 Tryz.underlying9 (by kernel_rfl) (by kernel_rfl) (by kernel_rfl) h0 (fun m hm => hz m (.inl hm))
  obtain ⟨sa, sc, ss, q1, a1, b1, c1⟩ := open_texts (w := w) Tryz.underlying25 Tryz.underlying9 (by kernel_rfl) (by kernel_rfl) h1 (fun m hm => hz m (.inr (.inl hm)))
  obtain ⟨f0, f1, hk, e0, e1, o0, o1⟩ := kid_struct
  obtain ⟨ka, kc, ks, q2, a2, b2, c2⟩ := open_kids (w := w) Tryz.underlying26 hk e0 e1 o0 o1 Tryz.underlying57 (by kernel_rfl) Tryz.underlying36 Tryz.underlying5 (by kernel_rfl) (by kernel_rfl) (by kernel_rfl) (by kernel_rfl) h2 (fun m hm => hz m (.inr (.inr hm)))
  refine ⟨pa, sa, ka, pc, sc, kc, ⟨ps, ss, ks⟩, agg_three ?_, ⟨a0, a1, a2⟩, ⟨b0, b1, b2, c0, c1, c2⟩⟩
  generalize v.cells.toList = cs at *
  match cs, hl with
  | [a, b, c], _ => simp at q0 q1 q2; simp [q0, q1, q2]

theorem weights_at {P : Program} {ts : List TypeId} {ds : List (DataW H)} (h : (DataW.weightsEach P ts ds).all (· ≤ reachBytes) = true) {j : Nat} {t : TypeId} {d : DataW H} (ht : ts[j]? = some t) (hd : ds[j]? = some d) : ∀ n ∈ d.weights P t, n ≤ reachBytes := fun n hn => by
  have := List.all_eq_true.1 h _ (DataW.weights_mem_each ht hd n hn)
  simpa using this
end

theorem laidOut : laidOutB Tryz.prog = true := by kernel_rfl

end Go.Proofs.YtemicgccgcmmbaaGreat

/- Values without addresses: what a value stands for, whatever lies where in memory. -/
namespace Go.Proofs.YtemicgccgcmmbaaGreat
set_option linter.unusedVariables false
set_option linter.unusedSimpArgs false
open Go Go.RowKit

/-- What is known of a list's memory: nothing; it is nil; it ends where its memory ends; it begins block b, whose rest is its own. -/
inductive Tag where
  | none
  | nil
  | full
  | own (b : Nat) (t : TypeId) (z : Nat)

/-- A value without addresses. -/
inductive D where
  | v (x : Value)
  | dg (d : Dg)
  | agg (ds : List D)
  | sl (t : Tag) (es : List D)
  | pt (d : D)
  | tup (ds : List D)
  | any
instance : Inhabited D := ⟨.any⟩

mutual
def D.size : D → Nat
  | .v _ => 1
  | .dg _ => 32
  | .agg ds => D.sizes ds
  | .sl _ _ => 1
  | .pt _ => 1
  | .tup _ => 0
  | .any => 0
def D.sizes : List D → Nat
  | [] => 0
  | d :: ds => d.size + D.sizes ds
end

def CellsAt (w : World) (b o : Nat) (us : List Value) : Prop := ∀ j v, us[j]? = some v → w.cell? ⟨b, o + j, none⟩ = some v

/-- A list's memory, by its tag. -/
def TagOk (w : World) (a : Option Addr) (c : Nat) (es : List D) : Tag → Prop
  | .none => True
  | .nil => a = none
  | .full => c = es.length
  | .own b t z => a = some ⟨b, 0, Option.none⟩ ∧ (∃ cur, w.heap[b]? = some (.cells cur t (0, 0)) ∧ cur.size = c * z) ∧ c ≤ maxLen ∧ ∀ e ∈ es, e.size = z

mutual
/-- The cells us stand for d. I b e: what lies in block b ahead of e stays as it is. -/
def RV (w : World) (I : Nat → Nat → Prop) : D → List Value → Prop
  | .v x, us => us = [x] ∧ x.oneCell' = true
  | .dg d, us => us = bC d.l
  | .agg ds, us => RVs w I ds us
  | .sl t es, us => ∃ a n c, us = [.slice a n c] ∧ n = es.length ∧ n ≤ c ∧ TagOk w a c es t ∧
      ((a = Option.none ∧ es = [] ∧ c = 0) ∨ ∃ b o, a = some ⟨b, o, Option.none⟩ ∧ b < w.heap.size ∧ I b (o + D.sizes es) ∧ (∃ z, ∀ e ∈ es, e.size = z) ∧ REs w I b o es)
  | .pt d, us => ∃ b o ys, us = [.pointer (some ⟨b, o, Option.none⟩)] ∧ b < w.heap.size ∧ I b (o + d.size) ∧ RV w I d ys ∧ CellsAt w b o ys
  | .tup _, _ => False
  | .any, _ => False
def RVs (w : World) (I : Nat → Nat → Prop) : List D → List Value → Prop
  | [], us => us = []
  | d :: ds, us => ∃ xs ys, us = xs ++ ys ∧ RV w I d xs ∧ RVs w I ds ys
def REs (w : World) (I : Nat → Nat → Prop) (b : Nat) : Nat → List D → Prop
  | _, [] => True
  | o, e :: es => ∃ us, RV w I e us ∧ CellsAt w b o us ∧ REs w I b (o + e.size) es
end

mutual
theorem RV.len {w : World} {I : Nat → Nat → Prop} : ∀ (d : D) (us : List Value), RV w I d us → us.length = d.size
  | .v x, us, h => by unfold RV at h; rw [h.1]; rfl
  | .dg d, us, h => by unfold RV at h; rw [h, bC_length, d.h]; rfl
  | .agg ds, us, h => by unfold RV at h; unfold D.size; exact RVs.len ds us h
  | .sl t es, us, h => by unfold RV at h; obtain ⟨a, n, c, rfl, _⟩ := h; rfl
  | .pt d, us, h => by unfold RV at h; obtain ⟨b, o, ys, rfl, _⟩ := h; rfl
  | .tup _, us, h => by unfold RV at h; exact h.elim
  | .any, us, h => by unfold RV at h; exact h.elim
theorem RVs.len {w : World} {I : Nat → Nat → Prop} : ∀ (ds : List D) (us : List Value), RVs w I ds us → us.length = D.sizes ds
  | [], us, h => by unfold RVs at h; rw [h]; rfl
  | d :: ds, us, h => by
    unfold RVs at h
    obtain ⟨xs, ys, rfl, h1, h2⟩ := h
    rw [List.length_append, RV.len d xs h1, RVs.len ds ys h2]; rfl
end

/-- From one moment to a later one: what is to stay as it is does. -/
structure Evo (w : World) (I : Nat → Nat → Prop) (w' : World) (I' : Nat → Nat → Prop) : Prop where
  os : w'.os = w.os
  tape : w'.tape = w.tape
  output : w'.output = w.output
  size : w.heap.size ≤ w'.heap.size
  drawn : w.drawn ≤ w'.drawn
  imm : ∀ b e, b < w.heap.size → I b e → I' b e
  cell : ∀ b e, b < w.heap.size → I b e → ∀ o, o < e → w'.cell? ⟨b, o, none⟩ = w.cell? ⟨b, o, none⟩
  shape : ∀ b e, b < w.heap.size → I b e → ∀ cur t f, w.heap[b]? = some (.cells cur t f) → ∃ cur', w'.heap[b]? = some (.cells cur' t f) ∧ cur'.size = cur.size
  whole : ∀ b, b < w.heap.size → (∀ e, I b e) → w'.heap[b]? = w.heap[b]?

theorem Evo.refl (w : World) (I : Nat → Nat → Prop) : Evo w I w I :=
  ⟨rfl, rfl, rfl, Nat.le_refl _, Nat.le_refl _, fun _ _ _ h => h, fun _ _ _ _ _ _ => rfl, fun _ _ _ _ cur _ _ h => ⟨cur, h, rfl⟩, fun _ _ _ => rfl⟩
theorem Evo.trans {w w1 w2 : World} {I I1 I2 : Nat → Nat → Prop} (h : Evo w I w1 I1) (k : Evo w1 I1 w2 I2) : Evo w I w2 I2 :=
  ⟨k.os.trans h.os, k.tape.trans h.tape, k.output.trans h.output, Nat.le_trans h.size k.size, Nat.le_trans h.drawn k.drawn,
    fun b e hb hi => k.imm b e (Nat.lt_of_lt_of_le hb h.size) (h.imm b e hb hi),
    fun b e hb hi o ho => (k.cell b e (Nat.lt_of_lt_of_le hb h.size) (h.imm b e hb hi) o ho).trans (h.cell b e hb hi o ho),
    fun b e hb hi cur t f hc => by
      obtain ⟨c1, h1, s1⟩ := h.shape b e hb hi cur t f hc
      obtain ⟨c2, h2, s2⟩ := k.shape b e (Nat.lt_of_lt_of_le hb h.size) (h.imm b e hb hi) c1 t f h1
      exact ⟨c2, h2, s2.trans s1⟩,
    fun b hb hi => (k.whole b (Nat.lt_of_lt_of_le hb h.size) (fun e => h.imm b e hb (hi e))).trans (h.whole b hb hi)⟩
theorem Evo.mono {w w' : World} {I I1 I' : Nat → Nat → Prop} (h : Evo w I w' I1) (hi : ∀ b e, b < w.heap.size → I1 b e → I' b e) : Evo w I w' I' :=
  ⟨h.os, h.tape, h.output, h.size, h.drawn, fun b e hb x => hi b e hb (h.imm b e hb x), h.cell, h.shape, h.whole⟩
/-- Where all blocks but those of S are as they were. -/
theorem Kp.evo {S : List Nat} {w w' : World} {I I' : Nat → Nat → Prop} (k : Kp S w w') (hS : ∀ b e, b < w.heap.size → I b e → b ∉ S) (hI : ∀ b e, b < w.heap.size → I b e → I' b e) : Evo w I w' I' :=
  ⟨k.os, k.tape, k.output, k.size, k.drawn, hI, fun b e hb hi o _ => World.cell?_of_block (k.block b hb (hS b e hb hi)),
    fun b e hb hi cur t f hc => ⟨cur, (k.block b hb (hS b e hb hi)).trans hc, rfl⟩, fun b hb hi => k.block b hb (hS b 0 hb (hi 0))⟩

theorem CellsAt.evo {w w' : World} {I I' : Nat → Nat → Prop} (h : Evo w I w' I') {b o e : Nat} {us : List Value} (hc : CellsAt w b o us) (hb : b < w.heap.size) (hi : I b e) (he : o + us.length ≤ e) : CellsAt w' b o us := by
  intro j v hj
  have hlt : j < us.length := (List.getElem?_eq_some_iff.1 hj).1
  rw [h.cell b e hb hi (o + j) (by omega)]
  exact hc j v hj

theorem TagOk.evo {w w' : World} {I I' : Nat → Nat → Prop} (h : Evo w I w' I') {a : Option Addr} {c : Nat} {es : List D} {t : Tag} (ht : TagOk w a c es t) (ha : ∀ b o, a = some ⟨b, o, none⟩ → b < w.heap.size ∧ ∃ e, I b e) : TagOk w' a c es t := by
  cases t with
  | none => trivial
  | nil => exact ht
  | full => exact ht
  | own b t z =>
    obtain ⟨h1, ⟨cur, h2, h3⟩, h4, h5⟩ := ht
    obtain ⟨hb, e, hi⟩ := ha b 0 h1
    obtain ⟨c1, h6, h7⟩ := h.shape b e hb hi cur t _ h2
    exact ⟨h1, ⟨c1, h6, h7.trans h3⟩, h4, h5⟩

theorem D.sizes_app : ∀ (a b : List D), D.sizes (a ++ b) = D.sizes a + D.sizes b
  | [], b => by simp [D.sizes]
  | x :: a, b => by simp only [List.cons_append, D.sizes, D.sizes_app a b]; omega

mutual
theorem RV.evo {w w' : World} {I I' : Nat → Nat → Prop} (h : Evo w I w' I') : ∀ (d : D) (us : List Value), RV w I d us → RV w' I' d us
  | .v x, us, k => by unfold RV at *; exact k
  | .dg d, us, k => by unfold RV at *; exact k
  | .agg ds, us, k => by unfold RV at *; exact RVs.evo h ds us k
  | .sl t es, us, k => by
    unfold RV at *
    obtain ⟨a, n, c, rfl, h1, h2, h3, h4⟩ := k
    refine ⟨a, n, c, rfl, h1, h2, ?_, ?_⟩
    · refine h3.evo h (fun b o ha => ?_)
      rcases h4 with ⟨rfl, _⟩ | ⟨b', o', rfl, hb, hi, _⟩
      · cases ha
      · simp only [Option.some.injEq, Addr.mk.injEq, and_true] at ha
        obtain ⟨rfl, rfl⟩ := ha
        exact ⟨hb, _, hi⟩
    · rcases h4 with h4 | ⟨b', o', rfl, hb, hi, hz, hr⟩
      · exact .inl h4
      · exact .inr ⟨b', o', rfl, Nat.lt_of_lt_of_le hb h.size, h.imm _ _ hb hi, hz, REs.evo h b' (o' + D.sizes es) hb hi o' es (Nat.le_refl _) hr⟩
  | .pt d, us, k => by
    unfold RV at *
    obtain ⟨b, o, ys, rfl, hb, hi, hd, hc⟩ := k
    exact ⟨b, o, ys, rfl, Nat.lt_of_lt_of_le hb h.size, h.imm _ _ hb hi, RV.evo h d ys hd, hc.evo h hb hi (by rw [RV.len d ys hd]; exact Nat.le_refl _)⟩
  | .tup _, us, k => by unfold RV at k; exact k.elim
  | .any, us, k => by unfold RV at k; exact k.elim
theorem RVs.evo {w w' : World} {I I' : Nat → Nat → Prop} (h : Evo w I w' I') : ∀ (ds : List D) (us : List Value), RVs w I ds us → RVs w' I' ds us
  | [], us, k => by unfold RVs at *; exact k
  | d :: ds, us, k => by
    unfold RVs at *
    obtain ⟨xs, ys, rfl, h1, h2⟩ := k
    exact ⟨xs, ys, rfl, RV.evo h d xs h1, RVs.evo h ds ys h2⟩
theorem REs.evo {w w' : World} {I I' : Nat → Nat → Prop} (h : Evo w I w' I') (b e : Nat) (hb : b < w.heap.size) (hi : I b e) : ∀ (o : Nat) (es : List D), o + D.sizes es ≤ e → REs w I b o es → REs w' I' b o es
  | _, [], _, _ => by unfold REs; trivial
  | o, d :: ds, he, k => by
    unfold REs at *
    obtain ⟨us, h1, h2, h3⟩ := k
    unfold D.sizes at he
    exact ⟨us, RV.evo h d us h1, h2.evo h hb hi (by rw [RV.len d us h1]; omega), REs.evo h b e hb hi (o + d.size) ds (by omega) h3⟩
end

mutual
/-- A value stands for d. -/
def RVal (w : World) (I : Nat → Nat → Prop) : D → Value → Prop
  | .agg ds, x => ∃ us : List Value, x = .agg us.toArray ∧ RVs w I ds us
  | .dg d, x => x = .agg d.c
  | .tup ds, x => ∃ xs : List Value, x = .tuple xs.toArray ∧ RVals w I ds xs
  | .any, _ => True
  | .v y, x => x = y ∧ y.oneCell' = true
  | .sl t es, x => RV w I (.sl t es) [x]
  | .pt d, x => RV w I (.pt d) [x]
def RVals (w : World) (I : Nat → Nat → Prop) : List D → List Value → Prop
  | [], xs => xs = []
  | d :: ds, xs => ∃ y ys, xs = y :: ys ∧ RVal w I d y ∧ RVals w I ds ys
end

mutual
theorem RVal.evo {w w' : World} {I I' : Nat → Nat → Prop} (h : Evo w I w' I') : ∀ (d : D) (x : Value), RVal w I d x → RVal w' I' d x
  | .agg ds, x, k => by unfold RVal at *; obtain ⟨us, rfl, k⟩ := k; exact ⟨us, rfl, k.evo h ds us⟩
  | .dg d, x, k => by unfold RVal at *; exact k
  | .tup ds, x, k => by unfold RVal at *; obtain ⟨xs, rfl, k⟩ := k; exact ⟨xs, rfl, RVals.evo h ds xs k⟩
  | .any, x, k => by unfold RVal; trivial
  | .v y, x, k => by unfold RVal at *; exact k
  | .sl t es, x, k => by unfold RVal at *; exact k.evo h _ _
  | .pt d, x, k => by unfold RVal at *; exact k.evo h _ _
theorem RVals.evo {w w' : World} {I I' : Nat → Nat → Prop} (h : Evo w I w' I') : ∀ (ds : List D) (xs : List Value), RVals w I ds xs → RVals w' I' ds xs
  | [], xs, k => by unfold RVals at *; exact k
  | d :: ds, xs, k => by unfold RVals at *; obtain ⟨y, ys, rfl, h1, h2⟩ := k; exact ⟨y, ys, rfl, RVal.evo h d y h1, RVals.evo h ds ys h2⟩
end

/-- What lies in a block that may be written: all that is known, or that and so many cells behind it. -/
def D.front : D → D × Nat
  | .tup [d, .v (.int .i64 k)] => (d, k.toNat)
  | d => (d, 0)
def RVT (w : World) (I : Nat → Nat → Prop) (d : D) (us : List Value) : Prop := ∃ xs ys, us = xs ++ ys ∧ RV w I d.front.1 xs ∧ ys.length = d.front.2
theorem D.front_plain {d : D} (h : ∀ l, d ≠ .tup l) : d.front = (d, 0) := by
  cases d <;> first | rfl | exact absurd rfl (h _)
theorem RVT.of {w : World} {I : Nat → Nat → Prop} {d : D} {us : List Value} (h : RV w I d us) : RVT w I d us := by
  have hd : d.front = (d, 0) := D.front_plain (fun l e => by subst e; unfold RV at h; exact h)
  exact ⟨us, [], by simp, by rw [hd]; exact h, by rw [hd]; rfl⟩
theorem RVT.plain {w : World} {I : Nat → Nat → Prop} {d : D} {us : List Value} (h : RVT w I d us) (hd : ∀ l, d ≠ .tup l) : RV w I d us := by
  obtain ⟨xs, ys, rfl, h1, h2⟩ := h
  rw [D.front_plain hd] at h1 h2
  have : ys = [] := List.eq_nil_of_length_eq_zero h2
  subst this
  simpa using h1
theorem RVT.evo {w w' : World} {I I' : Nat → Nat → Prop} (h : Evo w I w' I') : ∀ (d : D) (us : List Value), RVT w I d us → RVT w' I' d us := fun d us ⟨xs, ys, e, h1, h2⟩ => ⟨xs, ys, e, RV.evo h _ _ h1, h2⟩

/-- What can lie in memory. -/
def D.lies : D → Bool
  | .tup _ => false
  | .any => false
  | _ => true

theorem RVal.cells {w : World} {I : Nat → Nat → Prop} {d : D} {x : Value} (h : RVal w I d x) (hl : d.lies = true) : RV w I d x.cells.toList := by
  cases d with
  | v y => unfold RVal at h; obtain ⟨rfl, h1⟩ := h; unfold RV; cases x <;> simp_all [Value.cells, Value.oneCell']
  | dg d => unfold RVal at h; subst h; unfold RV; simp [Value.cells, Dg.c]
  | agg ds => unfold RVal at h; obtain ⟨us, rfl, h1⟩ := h; unfold RV; simpa [Value.cells] using h1
  | sl t es =>
    unfold RVal at h
    have h0 := h
    unfold RV at h0; obtain ⟨a, n, c, e, _⟩ := h0; simp only [List.cons.injEq, and_true] at e; subst e; exact h
  | pt d =>
    unfold RVal at h
    have h0 := h
    unfold RV at h0; obtain ⟨b, o, ys, e, _⟩ := h0; simp only [List.cons.injEq, and_true] at e; subst e; exact h
  | tup ds => cases hl
  | any => cases hl

/-- Is it a value of many cells (a struct, an array)? -/
def D.isAgg : D → Bool
  | .agg _ => true
  | .dg _ => true
  | _ => false

/-- What is loaded from cells. -/
def ofCells (g : Bool) (us : List Value) : Value := if g then .agg us.toArray else us.headD undef
theorem RV.loaded {w : World} {I : Nat → Nat → Prop} {d : D} {us : List Value} (h : RV w I d us) : RVal w I d (ofCells d.isAgg us) := by
  cases d with
  | v y => unfold RV at h; obtain ⟨rfl, h1⟩ := h; unfold RVal; exact ⟨rfl, h1⟩
  | dg d => unfold RV at h; subst h; unfold RVal; rfl
  | agg ds => unfold RV at h; unfold RVal; exact ⟨us, rfl, h⟩
  | sl t es => have h0 := h; unfold RV at h0; obtain ⟨a, n, c, rfl, _⟩ := h0; unfold RVal; exact h
  | pt d => have h0 := h; unfold RV at h0; obtain ⟨b, o, ys, rfl, _⟩ := h0; unfold RVal; exact h
  | tup ds => unfold RV at h; exact h.elim
  | any => unfold RV at h; exact h.elim

end Go.Proofs.YtemicgccgcmmbaaGreat

/- Values without addresses: blocks that may be written, frames, and what an operation makes of them. -/
namespace Go.Proofs.YtemicgccgcmmbaaGreat
set_option linter.unusedVariables false
set_option linter.unusedSimpArgs false
open Go Go.RowKit

/-- Blocks that may be written; rows that may be appended to. -/
structure Sto where
  bk : List (Nat × TypeId × D)
  ow : List (Nat × Nat)

def Sto.I (S : Sto) (b e : Nat) : Prop := b ∉ S.bk.map (·.1) ∧ ∀ L, (b, L) ∈ S.ow → e ≤ L

structure StAt (w : World) (S : Sto) : Prop where
  nd : (S.bk.map (·.1) ++ S.ow.map (·.1)).Nodup
  mutAt : ∀ b t d, (b, t, d) ∈ S.bk → ∃ us : List Value, Blk w b t us.toArray ∧ RVT w S.I d us
  ownAt : ∀ b L, (b, L) ∈ S.ow → ∃ t cur, w.heap[b]? = some (.cells cur t (0, 0)) ∧ L ≤ cur.size

/-- Fewer blocks are looked at. -/
structure Sto.Sub (S' S : Sto) : Prop where
  m : List.Sublist S'.bk S.bk
  o : List.Sublist S'.ow S.ow
theorem Sto.Sub.refl (S : Sto) : S.Sub S := ⟨List.Sublist.refl _, List.Sublist.refl _⟩
theorem Sto.Sub.I {S' S : Sto} (h : S'.Sub S) {b e : Nat} (hi : S.I b e) : S'.I b e :=
  ⟨fun hm => hi.1 ((h.m.map (·.1)).subset hm), fun L hL => hi.2 L (h.o.subset hL)⟩
theorem Evo.imp {w : World} {I I' : Nat → Nat → Prop} (h : ∀ b e, I b e → I' b e) : Evo w I w I' := (Evo.refl w I).mono (fun b e _ => h b e)
theorem StAt.sub {w : World} {S S' : Sto} (h : StAt w S) (s : S'.Sub S) : StAt w S' :=
  ⟨((s.m.map _).append (s.o.map _)).nodup h.nd, fun b t d hm => by
    obtain ⟨us, h1, h2⟩ := h.mutAt b t d (s.m.subset hm)
    exact ⟨us, h1, h2.evo (Evo.imp (fun _ _ => s.I)) _ _⟩, fun b L hm => h.ownAt b L (s.o.subset hm)⟩

def getM : List (Nat × TypeId × D) → Nat → Option (TypeId × D)
  | [], _ => none
  | (b', t, d) :: l, b => if b = b' then some (t, d) else getM l b
def setM : List (Nat × TypeId × D) → Nat → D → List (Nat × TypeId × D)
  | [], _, _ => []
  | (b', t, d) :: l, b, x => if b = b' then (b', t, x) :: l else (b', t, d) :: setM l b x
theorem getM_mem : ∀ {l : List (Nat × TypeId × D)} {b : Nat} {t : TypeId} {d : D}, getM l b = some (t, d) → (b, t, d) ∈ l
  | (b', t', d') :: l, b, t, d, h => by
    unfold getM at h
    split at h
    · rename_i e; simp only [Option.some.injEq, Prod.mk.injEq] at h; obtain ⟨rfl, rfl⟩ := h; subst e; exact List.mem_cons_self
    · exact List.mem_cons_of_mem _ (getM_mem h)
theorem setM_keys : ∀ (l : List (Nat × TypeId × D)) (b : Nat) (x : D), (setM l b x).map (·.1) = l.map (·.1)
  | [], _, _ => rfl
  | (b', t, d) :: l, b, x => by unfold setM; split <;> simp [setM_keys l b x]
theorem setM_mem : ∀ {l : List (Nat × TypeId × D)} {b : Nat} {x : D} {t0 : TypeId} {d0 : D}, (l.map (·.1)).Nodup → getM l b = some (t0, d0) → ∀ {c : Nat} {t : TypeId} {d : D}, (c, t, d) ∈ setM l b x → (c = b ∧ t = t0 ∧ d = x) ∨ (c ≠ b ∧ (c, t, d) ∈ l)
  | (b', t', d') :: l, b, x, t0, d0, hn, hg, c, t, d, h => by
    simp only [List.map_cons, List.nodup_cons] at hn
    unfold getM at hg
    unfold setM at h
    split at h
    · rename_i e
      rw [if_pos e] at hg
      simp only [Option.some.injEq, Prod.mk.injEq] at hg
      obtain ⟨rfl, rfl⟩ := hg
      subst e
      rcases List.mem_cons.1 h with h | h
      · simp only [Prod.mk.injEq] at h; obtain ⟨rfl, rfl, rfl⟩ := h; exact .inl ⟨rfl, rfl, rfl⟩
      · exact .inr ⟨fun e => hn.1 (List.mem_map.2 ⟨_, h, e⟩), List.mem_cons_of_mem _ h⟩
    · rename_i e
      rw [if_neg e] at hg
      rcases List.mem_cons.1 h with h | h
      · simp only [Prod.mk.injEq] at h; obtain ⟨rfl, rfl, rfl⟩ := h; exact .inr ⟨fun e' => e e'.symm, List.mem_cons_self⟩
      · rcases setM_mem hn.2 hg h with h | ⟨h1, h2⟩
        · exact .inl h
        · exact .inr ⟨h1, List.mem_cons_of_mem _ h2⟩

mutual
/-- The part of d at cell o, of so many cells; g: of many cells. -/
def subD : D → Nat → Nat → Bool → Option D
  | .agg ds, o, n, g => if o = 0 ∧ D.sizes ds = n ∧ g = true then some (.agg ds) else subDs ds o n g
  | .dg d, o, n, g => if o = 0 ∧ n = 32 ∧ g = true then some (.dg d) else if n = 1 ∧ g = false then (d.l[o]?).map (fun b => .v (.int .u8 b.toNat)) else none
  | .tup _, _, _, _ => none
  | d, o, n, g => if o = 0 ∧ d.size = n ∧ d.isAgg = g then some d else none
def subDs : List D → Nat → Nat → Bool → Option D
  | [], _, _, _ => none
  | d :: ds, o, n, g => if o < d.size then subD d o n g else subDs ds (o - d.size) n g
end
def Dg.setB (d : Dg) (o k : Nat) : Dg := ⟨d.l.set o (UInt8.ofNat k), by simp [d.h]⟩
mutual
/-- d with x in the place of its part at cell o. -/
def putD : D → Nat → D → Option D
  | .agg ds, o, x => if o = 0 ∧ D.sizes ds = x.size ∧ x.isAgg = true then some x else (putDs ds o x).map .agg
  | .dg d, o, x => if o = 0 ∧ x.size = 32 ∧ x.isAgg = true then some x else
    match x with
    | .v (.int .u8 n) => if o < 32 ∧ 0 ≤ n ∧ n < 256 then some (.dg (d.setB o n.toNat)) else none
    | _ => none
  | .tup _, _, _ => none
  | d, o, x => if o = 0 ∧ d.size = x.size ∧ d.isAgg = x.isAgg then some x else none
def putDs : List D → Nat → D → Option (List D)
  | [], _, _ => none
  | d :: ds, o, x => if o < d.size then (putD d o x).map (· :: ds) else (putDs ds (o - d.size) x).map (d :: ·)
end

section
variable {w : World} {I : Nat → Nat → Prop}
theorem subD_leaf {d : D} (hl : ∀ ds, d ≠ .agg ds) (hg : ∀ x, d ≠ .dg x) {o n : Nat} {g : Bool} {e : D} (h : subD d o n g = some e) : o = 0 ∧ d.size = n ∧ d.isAgg = g ∧ d = e := by
  cases d <;> first | exact absurd rfl (hl _) | exact absurd rfl (hg _) | (unfold subD at h; cases h; done) | (unfold subD at h; split at h; (rename_i h1; simp only [Option.some.injEq] at h; exact ⟨h1.1, h1.2.1, h1.2.2, h⟩); cases h)
theorem putD_leaf {d : D} (hl : ∀ ds, d ≠ .agg ds) (hg : ∀ x, d ≠ .dg x) {o : Nat} {x e : D} (h : putD d o x = some e) : o = 0 ∧ d.size = x.size ∧ d.isAgg = x.isAgg ∧ x = e := by
  cases d <;> first | exact absurd rfl (hl _) | exact absurd rfl (hg _) | (unfold putD at h; cases h; done) | (unfold putD at h; split at h; (rename_i h1; simp only [Option.some.injEq] at h; exact ⟨h1.1, h1.2.1, h1.2.2, h⟩); cases h)
theorem subD_tup {d e : D} {o n : Nat} {g : Bool} (h : subD d o n g = some e) : ∀ l, d ≠ .tup l := fun l hd => by subst hd; unfold subD at h; cases h
theorem putD_tup {d x e : D} {o : Nat} (h : putD d o x = some e) : ∀ l, d ≠ .tup l := fun l hd => by subst hd; unfold putD at h; cases h
mutual
theorem subD_ok : ∀ (d : D) (us : List Value) (o n : Nat) (g : Bool) (e : D), RV w I d us → subD d o n g = some e → ∃ xs ys zs, us = xs ++ ys ++ zs ∧ xs.length = o ∧ RV w I e ys ∧ e.size = n ∧ e.isAgg = g
  | .agg ds, us, o, n, g, e, h, hs => by
    unfold subD at hs
    split at hs
    · rename_i h1
      obtain ⟨rfl, h2, rfl⟩ := h1
      simp only [Option.some.injEq] at hs
      subst hs
      exact ⟨[], us, [], by simp, rfl, h, h2, rfl⟩
    · unfold RV at h
      exact subDs_ok ds us o n g e h hs
  | .v x, us, o, n, g, e, h, hs => by obtain ⟨rfl, h2, h3, rfl⟩ := subD_leaf (by simp) (by simp) hs; exact ⟨[], us, [], by simp, rfl, h, h2, h3⟩
  | .dg x, us, o, n, g, e, h, hs => by
    unfold subD at hs
    split at hs
    · rename_i h1
      obtain ⟨rfl, rfl, rfl⟩ := h1
      simp only [Option.some.injEq] at hs
      subst hs
      exact ⟨[], us, [], by simp, rfl, h, rfl, rfl⟩
    · split at hs
      · rename_i h1
        obtain ⟨rfl, rfl⟩ := h1
        obtain ⟨u, hu, rfl⟩ := Option.map_eq_some_iff.1 hs
        unfold RV at h
        subst h
        have hlt : o < x.l.length := (List.getElem?_eq_some_iff.1 hu).1
        refine ⟨bC (x.l.take o), [.int .u8 u.toNat], bC (x.l.drop (o + 1)), ?_, by rw [bC_length, List.length_take]; omega, by unfold RV; exact ⟨rfl, rfl⟩, rfl, rfl⟩
        have e1 : x.l = x.l.take o ++ [u] ++ x.l.drop (o + 1) := by
          rw [List.append_assoc, List.singleton_append, ← (List.getElem?_eq_some_iff.1 hu).2, List.getElem_cons_drop, List.take_append_drop]
        have e2 := congrArg bC e1
        rw [bC_app, bC_app] at e2
        exact e2
      · cases hs
  | .sl _ x, us, o, n, g, e, h, hs => by obtain ⟨rfl, h2, h3, rfl⟩ := subD_leaf (by simp) (by simp) hs; exact ⟨[], us, [], by simp, rfl, h, h2, h3⟩
  | .pt x, us, o, n, g, e, h, hs => by obtain ⟨rfl, h2, h3, rfl⟩ := subD_leaf (by simp) (by simp) hs; exact ⟨[], us, [], by simp, rfl, h, h2, h3⟩
  | .tup x, us, o, n, g, e, h, hs => by unfold RV at h; exact h.elim
  | .any, us, o, n, g, e, h, hs => by unfold RV at h; exact h.elim
theorem subDs_ok : ∀ (ds : List D) (us : List Value) (o n : Nat) (g : Bool) (e : D), RVs w I ds us → subDs ds o n g = some e → ∃ xs ys zs, us = xs ++ ys ++ zs ∧ xs.length = o ∧ RV w I e ys ∧ e.size = n ∧ e.isAgg = g
  | [], us, o, n, g, e, h, hs => by unfold subDs at hs; cases hs
  | d :: ds, us, o, n, g, e, h, hs => by
    unfold RVs at h
    obtain ⟨pp, qq, rfl, h1, h2⟩ := h
    unfold subDs at hs
    split at hs
    · obtain ⟨xs, ys, zs, rfl, h3, h4, h5⟩ := subD_ok d pp o n g e h1 hs
      exact ⟨xs, ys, zs ++ qq, by simp, h3, h4, h5⟩
    · rename_i hlt
      obtain ⟨xs, ys, zs, rfl, h3, h4, h5⟩ := subDs_ok ds qq (o - d.size) n g e h2 hs
      exact ⟨pp ++ xs, ys, zs, by simp, by rw [List.length_append, RV.len d pp h1, h3]; omega, h4, h5⟩
end
mutual
theorem putD_ok : ∀ (d : D) (us : List Value) (o : Nat) (x e : D) (ys : List Value), RV w I d us → putD d o x = some e → RV w I x ys → ∃ xs ms zs, us = xs ++ ms ++ zs ∧ xs.length = o ∧ ms.length = ys.length ∧ RV w I e (xs ++ ys ++ zs)
  | .agg ds, us, o, x, e, ys, h, hs, hx => by
    unfold putD at hs
    split at hs
    · rename_i h1
      obtain ⟨rfl, h2, _⟩ := h1
      simp only [Option.some.injEq] at hs
      subst hs
      refine ⟨[], us, [], by simp, rfl, ?_, by simpa using hx⟩
      rw [RV.len _ _ h, RV.len _ _ hx, ← h2]; rfl
    · unfold RV at h
      cases hp : putDs ds o x with
      | none => rw [hp] at hs; cases hs
      | some es =>
        rw [hp] at hs
        simp only [Option.map_some, Option.some.injEq] at hs
        subst hs
        obtain ⟨xs, ms, zs, h1, h2, h3, h4⟩ := putDs_ok ds us o x es ys h hp hx
        exact ⟨xs, ms, zs, h1, h2, h3, by unfold RV; exact h4⟩
  | .v x, us, o, y, e, ys, h, hs, hx => by obtain ⟨rfl, h2, h3, rfl⟩ := putD_leaf (by simp) (by simp) hs; exact ⟨[], us, [], by simp, rfl, by rw [RV.len _ _ h, RV.len _ _ hx, h2], by simpa using hx⟩
  | .dg x, us, o, y, e, ys, h, hs, hx => by
    unfold putD at hs
    split at hs
    · rename_i h1
      obtain ⟨rfl, h2, _⟩ := h1
      simp only [Option.some.injEq] at hs
      subst hs
      exact ⟨[], us, [], by simp, rfl, by rw [RV.len _ _ h, RV.len _ _ hx, h2]; rfl, by simpa using hx⟩
    · split at hs
      · rename_i n _
        split at hs
        · rename_i h1
          obtain ⟨h1, h2, h3⟩ := h1
          simp only [Option.some.injEq] at hs
          subst hs
          unfold RV at h hx
          subst h
          obtain ⟨rfl, -⟩ := hx
          have hlt : o < x.l.length := by rw [x.h]; exact h1
          refine ⟨bC (x.l.take o), [.int .u8 (x.l[o]).toNat], bC (x.l.drop (o + 1)), ?_, by rw [bC_length, List.length_take]; omega, rfl, ?_⟩
          · have e1 : x.l = x.l.take o ++ [x.l[o]] ++ x.l.drop (o + 1) := by
              rw [List.append_assoc, List.singleton_append, List.getElem_cons_drop, List.take_append_drop]
            have e2 := congrArg bC e1
            rw [bC_app, bC_app] at e2
            exact e2
          · unfold RV
            have e1 : (x.setB o n.toNat).l = x.l.take o ++ [UInt8.ofNat n.toNat] ++ x.l.drop (o + 1) := by
              show x.l.set o _ = _
              rw [List.set_eq_take_append_cons_drop, if_pos hlt]; simp
            rw [e1, bC_app, bC_app]
            congr 2
            simp only [bC, List.map_cons, List.map_nil, UInt8.toNat_ofNat']
            congr 2
            omega
        · cases hs
      · cases hs
  | .sl _ x, us, o, y, e, ys, h, hs, hx => by obtain ⟨rfl, h2, h3, rfl⟩ := putD_leaf (by simp) (by simp) hs; exact ⟨[], us, [], by simp, rfl, by rw [RV.len _ _ h, RV.len _ _ hx, h2], by simpa using hx⟩
  | .pt x, us, o, y, e, ys, h, hs, hx => by obtain ⟨rfl, h2, h3, rfl⟩ := putD_leaf (by simp) (by simp) hs; exact ⟨[], us, [], by simp, rfl, by rw [RV.len _ _ h, RV.len _ _ hx, h2], by simpa using hx⟩
  | .tup x, us, o, y, e, ys, h, hs, hx => by unfold RV at h; exact h.elim
  | .any, us, o, y, e, ys, h, hs, hx => by unfold RV at h; exact h.elim
theorem putDs_ok : ∀ (ds : List D) (us : List Value) (o : Nat) (x : D) (es : List D) (ys : List Value), RVs w I ds us → putDs ds o x = some es → RV w I x ys → ∃ xs ms zs, us = xs ++ ms ++ zs ∧ xs.length = o ∧ ms.length = ys.length ∧ RVs w I es (xs ++ ys ++ zs)
  | [], us, o, x, es, ys, h, hs, hx => by unfold putDs at hs; cases hs
  | d :: ds, us, o, x, es, ys, h, hs, hx => by
    unfold RVs at h
    obtain ⟨pp, qq, rfl, h1, h2⟩ := h
    unfold putDs at hs
    split at hs
    · cases hp : putD d o x with
      | none => rw [hp] at hs; cases hs
      | some e =>
        rw [hp] at hs
        simp only [Option.map_some, Option.some.injEq] at hs
        subst hs
        obtain ⟨xs, ms, zs, rfl, h3, h4, h5⟩ := putD_ok d pp o x e ys h1 hp hx
        exact ⟨xs, ms, zs ++ qq, by simp, h3, h4, by unfold RVs; exact ⟨xs ++ ys ++ zs, qq, by simp, h5, h2⟩⟩
    · rename_i hlt
      cases hp : putDs ds (o - d.size) x with
      | none => rw [hp] at hs; cases hs
      | some es' =>
        rw [hp] at hs
        simp only [Option.map_some, Option.some.injEq] at hs
        subst hs
        obtain ⟨xs, ms, zs, rfl, h3, h4, h5⟩ := putDs_ok ds qq (o - d.size) x es' ys h2 hp hx
        exact ⟨pp ++ xs, ms, zs, by simp, by rw [List.length_append, RV.len d pp h1, h3]; omega, h4, by unfold RVs; exact ⟨pp, xs ++ ys ++ zs, by simp, h1, h5⟩⟩
end
theorem RV.one {d : D} {us : List Value} (h : RV w I d us) : ∀ v ∈ us, v.oneCell' = true := by
  have key : (∀ (d : D) (us : List Value), RV w I d us → ∀ v ∈ us, v.oneCell' = true) := by
    apply D.rec (motive_1 := fun d => ∀ (us : List Value), RV w I d us → ∀ v ∈ us, v.oneCell' = true) (motive_2 := fun ds => ∀ (us : List Value), RVs w I ds us → ∀ v ∈ us, v.oneCell' = true)
    · intro x us h v hv; unfold RV at h; obtain ⟨rfl, h⟩ := h; simp at hv; subst hv; exact h
    · intro d us h v hv; unfold RV at h; subst h; exact bC_one _ v hv
    · intro ds ih us h; unfold RV at h; exact ih us h
    · intro t es _ us h v hv; unfold RV at h; obtain ⟨a, n, c, rfl, _⟩ := h; simp at hv; subst hv; rfl
    · intro d _ us h v hv; unfold RV at h; obtain ⟨b, o, ys, rfl, _⟩ := h; simp at hv; subst hv; rfl
    · intro ds _ us h; unfold RV at h; exact h.elim
    · intro us h; unfold RV at h; exact h.elim
    · intro us h v hv; unfold RVs at h; subst h; cases hv
    · intro d ds ih1 ih2 us h v hv
      unfold RVs at h
      obtain ⟨xs, ys, rfl, h1, h2⟩ := h
      rcases List.mem_append.1 hv with hv | hv
      · exact ih1 xs h1 v hv
      · exact ih2 ys h2 v hv
  exact key d us h
theorem REs.get {b : Nat} : ∀ (o : Nat) (es : List D) (z : Nat), (∀ e ∈ es, e.size = z) → REs w I b o es → ∀ (i : Nat) (e : D), es[i]? = some e → ∃ us, RV w I e us ∧ CellsAt w b (o + i * z) us
  | o, [], z, hz, h, i, e, hi => by simp at hi
  | o, d :: ds, z, hz, h, i, e, hi => by
    unfold REs at h
    obtain ⟨us, h1, h2, h3⟩ := h
    have hd : d.size = z := hz d List.mem_cons_self
    cases i with
    | zero => simp only [List.getElem?_cons_zero, Option.some.injEq] at hi; subst hi; exact ⟨us, h1, by simpa using h2⟩
    | succ i =>
      simp only [List.getElem?_cons_succ] at hi
      obtain ⟨ys, h4, h5⟩ := REs.get (o + d.size) ds z (fun e he => hz e (List.mem_cons_of_mem _ he)) h3 i e hi
      exact ⟨ys, h4, by rw [hd] at h5; rw [show o + (i + 1) * z = o + z + i * z by rw [Nat.add_mul]; omega]; exact h5⟩
theorem sizes_const : ∀ (es : List D) (z : Nat), (∀ e ∈ es, e.size = z) → D.sizes es = es.length * z
  | [], z, _ => by simp [D.sizes]
  | d :: ds, z, h => by
    unfold D.sizes
    rw [h d List.mem_cons_self, sizes_const ds z (fun e he => h e (List.mem_cons_of_mem _ he))]
    simp [Nat.add_mul, Nat.add_comm]
theorem REs.drop {b : Nat} : ∀ (k o : Nat) (es : List D) (z : Nat), (∀ e ∈ es, e.size = z) → k ≤ es.length → REs w I b o es → REs w I b (o + k * z) (es.drop k)
  | 0, o, es, z, hz, hk, h => by simpa using h
  | k + 1, o, [], z, hz, hk, h => by simp at hk
  | k + 1, o, d :: ds, z, hz, hk, h => by
    unfold REs at h
    obtain ⟨us, h1, h2, h3⟩ := h
    have hd : d.size = z := hz d List.mem_cons_self
    have := REs.drop k (o + d.size) ds z (fun e he => hz e (List.mem_cons_of_mem _ he)) (by simpa using hk) h3
    rw [hd] at this
    simpa [show o + (k + 1) * z = o + z + k * z by rw [Nat.add_mul]; omega] using this
theorem REs.take {b : Nat} : ∀ (k o : Nat) (es : List D), REs w I b o es → REs w I b o (es.take k)
  | 0, o, es, h => by simp [REs]
  | k + 1, o, [], h => by simp [REs]
  | k + 1, o, d :: ds, h => by
    unfold REs at h
    obtain ⟨us, h1, h2, h3⟩ := h
    simp only [List.take_succ_cons]
    unfold REs
    exact ⟨us, h1, h2, REs.take k _ ds h3⟩
end

end Go.Proofs.YtemicgccgcmmbaaGreat

/- Values without addresses: types, operands, and what an operation makes of a frame. -/
namespace Go.Proofs.YtemicgccgcmmbaaGreat
set_option linter.unusedVariables false
set_option linter.unusedSimpArgs false
open Go Go.RowKit

theorem RV.size1 {w : World} {I : Nat → Nat → Prop} {d : D} {us : List Value} (h : RV w I d us) (hg : d.isAgg = false) : d.size = 1 := by
  cases d with
  | v x => rfl
  | dg d => cases hg
  | agg ds => cases hg
  | sl t es => rfl
  | pt d => rfl
  | tup ds => unfold RV at h; exact h.elim
  | any => unfold RV at h; exact h.elim

/-- What must be known of a type. -/
inductive Ty where
  | int (k : IntKind)
  | bool
  | str
  | slice (e : TypeId)
  | struct (zs : List D)
  | dig
  | ptr
  | fn
  | iface
  | other

def Ty.zero : Ty → D
  | .int k => .v (.int k 0)
  | .bool => .v (.bool false)
  | .str => .v (.string ⟨#[]⟩)
  | .slice _ => .sl .nil []
  | .struct zs => .agg zs
  | .dig => .dg Dg.zero
  | .ptr => .v (.pointer Option.none)
  | .fn => .v .nilFunc
  | .iface => .v .nilIface
  | .other => .any
def Ty.agg : Ty → Bool
  | .struct _ => true
  | .dig => true
  | _ => false

def aggDesc : TypeDesc → Bool
  | .struct _ => true
  | .array _ _ => true
  | _ => false

/-- The model's own words for it. -/
def Ty.isDesc (P : Program) : Ty → TypeDesc → Prop
  | .int k, d => d = .int k
  | .bool, d => d = .bool
  | .str, d => d = .string
  | .slice e, d => d = .slice e
  | .struct zs, d => ∃ F, d = .struct F ∧ F.size = zs.length ∧ ∀ k f, F[k]? = some f → ∃ z j dd, zs[k]? = some z ∧ f.offset = D.sizes (zs.take k) ∧ P.info? f.type = some j ∧ j.size = z.size ∧ j.size ≠ 0 ∧ P.underlying f.type = some dd ∧ aggDesc dd = z.isAgg
  | .dig, d => ∃ e, d = .array 32 e ∧ P.underlying e = some (.int .u8) ∧ (P.info? e).map (·.size) = some 1
  | .ptr, d => ∃ e, d = .pointer e
  | .fn, d => ∃ a b c, d = .func a b c
  | .iface, d => ∃ m, d = .interface m
  | .other, _ => True

structure TyOk (P : Program) (t : TypeId) (ty : Ty) : Prop where
  info : ∃ i z, P.info? t = some i ∧ i.size = ty.zero.size ∧ i.zero = some z ∧ ∀ w I, RVal w I ty.zero z
  desc : ∃ d, P.underlying t = some d ∧ ty.isDesc P d

/-- All types that are known. -/
def TysOk (P : Program) (T : TypeId → Ty) : Prop := ∀ t, T t ≠ .other → TyOk P t (T t)

section
variable {P : Program} {T : TypeId → Ty} {t : TypeId} {w : World} {I : Nat → Nat → Prop}
theorem TyOk.size {ty : Ty} (h : TyOk P t ty) : (P.info? t).map (·.size) = some ty.zero.size := by
  obtain ⟨i, z, h1, h2, _⟩ := h.info
  rw [h1, Option.map_some, h2]
theorem TyOk.run_size {ty : Ty} (h : TyOk P t ty) (w : World) : (sizeOf t).run P w = .ok ty.zero.size w := by
  obtain ⟨i, z, h1, h2, _⟩ := h.info
  simp [sizeOf, typeInfo, h1, h2]
theorem run_isAgg {d : TypeDesc} (h : P.underlying t = some d) (w : World) : (isAgg t).run P w = .ok (aggDesc d) w := by
  unfold isAgg
  rw [Sem.run_bind, run_underlying h]
  cases d <;> rfl
theorem TyOk.run_agg {ty : Ty} (h : TyOk P t ty) (ho : ty ≠ .other) (w : World) : (isAgg t).run P w = .ok ty.agg w := by
  obtain ⟨d, h1, h2⟩ := h.desc
  rw [run_isAgg h1]
  cases ty <;> simp only [Ty.isDesc] at h2 <;> first | (obtain ⟨_, rfl, _⟩ := h2; rfl) | (obtain ⟨_, rfl⟩ := h2; rfl) | (obtain ⟨_, _, _, rfl⟩ := h2; rfl) | (subst h2; rfl) | exact absurd rfl ho
theorem TyOk.run_zero {ty : Ty} (h : TyOk P t ty) (w : World) : ∃ z, (zeroValue t).run P w = .ok z w ∧ ∀ w I, RVal w I ty.zero z := by
  obtain ⟨i, z, h1, h2, h3, h4⟩ := h.info
  exact ⟨z, by simp [zeroValue, typeInfo, h1, h3], h4⟩

theorem run_load_cells (b o : Nat) (us : List Value) (g : Bool) (hg : (isAgg t).run P w = .ok g w) (hs : (sizeOf t).run P w = .ok us.length w) (h1 : g = false → us.length = 1) (hc : CellsAt w b o us) :
    (loadVar t ⟨b, o, none⟩).run P w = .ok (ofCells g us) w := by
  have hadd : ∀ j, (⟨b, o, none⟩ : Addr).add j = ⟨b, o + j, none⟩ := fun j => by unfold Addr.add; split <;> simp_all
  unfold loadVar
  rw [Sem.run_bind, hg, Result.andThen_ok]
  cases g with
  | true =>
    have hl := run_loadCells_list (P := P) w ⟨b, o, none⟩ us (fun j v hv => by rw [hadd]; exact hc j v hv)
    simp only [if_true, Sem.run_bind, hs, Result.andThen_ok, hl]
    simp [ofCells]
  | false =>
    have h2 := h1 rfl
    match us, h2 with
    | [u], _ =>
      have := hc 0 u rfl
      simp only [Nat.add_zero] at this
      simp [ofCells, run_load, this]

theorem run_store_blk (b o : Nat) (tb : TypeId) (cs : Array Value) (x : Value) (hb : Blk w b tb cs) (hs : (sizeOf t).run P w = .ok x.cells.size w) (h1 : ∀ v ∈ x.cells.toList, v.oneCell' = true) (hle : o + x.cells.size ≤ cs.size) :
    (storeVar t ⟨b, o, none⟩ x).run P w = .ok () (w.setRow b (spl cs o x.cells)) := by
  have hst := run_storeCells_at P b o tb x.cells.toList 0 cs w hb (by simpa using hle) h1
  simp only [Nat.add_zero, Array.length_toList] at hst
  simp [storeVar, Sem.run_bind, hs, hst, spl]
end

/-- A constant. -/
def dOf : Value → D
  | .slice a n c => if a = Option.none ∧ n = 0 ∧ c = 0 then .sl .nil [] else .v (.slice a n c)
  | .agg _ => .any
  | .tuple vs => if vs.size = 0 then .tup [] else .any
  | x => .v x

def evalO (A : List D) : Operand → D
  | .tmp t => A.getD t .any
  | .const x => dOf x
  | .global g => .v (.pointer (some ⟨g, 0, Option.none⟩))
  | .func f => .v (.func (.func f) #[] #[])

structure ActAt (w : World) (I : Nat → Nat → Prop) (A : List D) (a : Act) : Prop where
  size : A.length ≤ a.tmps.size
  val : ∀ i d, A[i]? = some d → RVal w I d (a.tmps.getD i undef)

section
variable {P : Program} {T : TypeId → Ty} {w : World} {I : Nat → Nat → Prop} {A : List D} {a : Act}
theorem RVal.any {x : Value} : RVal w I .any x := by unfold RVal; trivial
theorem RVal.vv {x : Value} (h : x.oneCell' = true) : RVal w I (.v x) x := by unfold RVal; exact ⟨rfl, h⟩
theorem RVal.nil {x : Value} : RVal w I (.sl .nil []) (.slice Option.none 0 0) := by
  unfold RVal RV; exact ⟨Option.none, 0, 0, rfl, rfl, Nat.le_refl _, rfl, .inl ⟨rfl, rfl, rfl⟩⟩
theorem RVal.undef : RVal w I (.tup []) Go.undef := by unfold RVal; exact ⟨[], rfl, by unfold RVals; rfl⟩
theorem dOf_ok (x : Value) : RVal w I (dOf x) x := by
  cases x with
  | slice a n c =>
    show RVal w I (if a = Option.none ∧ n = 0 ∧ c = 0 then .sl .nil [] else .v (.slice a n c)) _
    split
    · rename_i h
      obtain ⟨rfl, rfl, rfl⟩ := h
      exact RVal.nil (x := default)
    · exact RVal.vv rfl
  | agg cs => exact RVal.any
  | tuple vs =>
    show RVal w I (if vs.size = 0 then .tup [] else .any) _
    split
    · rename_i h
      have : vs = #[] := Array.eq_empty_of_size_eq_zero h
      subst this
      exact RVal.undef
    · exact RVal.any
  | _ => exact RVal.vv rfl
theorem evalO_ok (h : ActAt w I A a) (x : Operand) : RVal w I (evalO A x) (a.eval x) := by
  cases x with
  | tmp t =>
    show RVal w I (A.getD t .any) (a.tmps.getD t undef)
    cases hA : A[t]? with
    | none => rw [List.getD_eq_getElem?_getD, hA]; simp only [Option.getD_none]; unfold RVal; trivial
    | some d => rw [List.getD_eq_getElem?_getD, hA]; exact h.val t d hA
  | const x => exact dOf_ok x
  | global g => show RVal w I (.v _) _; unfold RVal; exact ⟨rfl, rfl⟩
  | func f => show RVal w I (.v _) _; unfold RVal; exact ⟨rfl, rfl⟩
theorem ActAt.evo {w' : World} {I' : Nat → Nat → Prop} (h : ActAt w I A a) (e : Evo w I w' I') : ActAt w' I' A a := ⟨h.size, fun i d hi => (h.val i d hi).evo e _ _⟩

def putA (A : List D) (dst : Option Tmp) (d : D) : List D :=
  match dst with
  | some t => A.set t d
  | Option.none => A
theorem ActAt.put (h : ActAt w I A a) (dst : Option Tmp) {d : D} {x : Value} (hx : RVal w I d x) : ActAt w I (putA A dst d) (a.put dst x) := by
  cases dst with
  | none => exact h
  | some t =>
    refine ⟨by simp [putA, Act.put]; exact h.size, fun i e hi => ?_⟩
    simp only [putA] at hi
    simp only [Act.put]
    rw [List.getElem?_set] at hi
    split at hi
    · rename_i hti
      subst hti
      split at hi
      · rename_i hlt
        simp only [Option.some.injEq] at hi
        subst hi
        have : t < a.tmps.size := Nat.lt_of_lt_of_le hlt h.size
        simpa [Array.getD, this] using hx
      · cases hi
    · rename_i hne
      have := h.val i e hi
      simpa [Array.getD_eq_getD_getElem?, Array.getElem?_setIfInBounds, hne] using this
end

/-- Do the guards let it run? -/
def wantedA (ops : Array Oper) (A : List D) (o : Oper) : Option Bool :=
  match o.guard with
  | Option.none => some true
  | some (j, want) =>
    match (ops[j]?).bind (·.dst) with
    | Option.none => some false
    | some t => match A[t]? with
      | some (.v (.bool b)) => some (b == want)
      | some (.tup []) => some false
      | _ => Option.none
theorem wantedA_ok {w : World} {I : Nat → Nat → Prop} {A : List D} {a : Act} (h : ActAt w I A a) {ops : Array Oper} {o : Oper} {r : Bool} (hr : wantedA ops A o = some r) : Region.wanted o (yielded ops a.tmps) = r := by
  unfold wantedA at hr
  unfold Region.wanted
  split at hr
  · rename_i hg; rw [hg]; simpa using hr
  · rename_i j want hg
    rw [hg]
    unfold yielded
    dsimp only
    split at hr
    · rename_i hd
      rw [hd]
      simp at hr ⊢; exact hr
    · rename_i t hd
      rw [hd]
      have hv : ∀ d, A[t]? = some d → ∃ x, a.tmps[t]? = some x ∧ RVal w I d x := fun d hA => by
        have hlt : t < a.tmps.size := Nat.lt_of_lt_of_le (List.getElem?_eq_some_iff.1 hA).1 h.size
        have := h.val t d hA
        simp only [Array.getD, hlt, dite_true] at this
        exact ⟨_, Array.getElem?_eq_getElem hlt, this⟩
      split at hr
      · rename_i b hA
        obtain ⟨x, h1, h2⟩ := hv _ hA
        unfold RVal at h2
        obtain ⟨rfl, _⟩ := h2
        simp only [Option.some.injEq] at hr
        simp [h1, ← hr]
      · rename_i hA
        obtain ⟨x, h1, h2⟩ := hv _ hA
        unfold RVal RVals at h2
        obtain ⟨xs, rfl, rfl⟩ := h2
        simp only [Option.some.injEq] at hr
        simp [h1, ← hr]
      · cases hr

end Go.Proofs.YtemicgccgcmmbaaGreat
