/- A copied node's kid is written; what is known of sizes. -/
import Derived.Test.YtemicgccgcmmbaaGreatZ30
import Derived.Test.YtemicgccgcmmbaaGreatZ28
namespace Go.Proofs.YtemicgccgcmmbaaGreat
set_option linter.unusedVariables false
set_option linter.unusedSimpArgs false
open Go Go.RowKit

theorem Own.set {w : World} {e : TypeId} {size g n c : Nat} {xs : List Value} (h : Own w e size (some ⟨g, 0, none⟩) n c xs) (j : Nat) (v : Value) : Own (w.setCell ⟨g, j, none⟩ v) e size (some ⟨g, 0, none⟩) n c (xs.set j v) := by
  rcases h.block with ⟨h0, ⟨h1, _⟩ | ⟨g', cur, h1, hb, h2, h3, h4, h5⟩⟩
  · cases h1
  · cases h1
    refine ⟨by rw [List.length_set]; exact h0, .inr ⟨g, c, cur.setIfInBounds j v, rfl, Nat.zero_le _, Blk.set hb j v, h2, h3, by simpa using h4, ?_⟩⟩
    rw [Array.toList_setIfInBounds, List.take_set, h5]
theorem flat_set {T : Type} (cells : T → List Value) (size : Nat) (hsz : ∀ x, (cells x).length = size) : ∀ (l : List T) (k r : Nat) (x y : T) (v : Value), l[k]? = some x → r < size → (cells x).set r v = cells y → (l.flatMap cells).set (k * size + r) v = (l.set k y).flatMap cells
  | [], k, r, x, y, v, h, _, _ => by simp at h
  | z :: t, 0, r, x, y, v, h, hr, hc => by
    simp at h; subst h
    rw [List.flatMap_cons, Nat.zero_mul, Nat.zero_add, List.set_append_left _ _ (by rw [hsz]; exact hr), hc, List.set_cons_zero, List.flatMap_cons]
  | z :: t, k + 1, r, x, y, v, h, hr, hc => by
    have ih := flat_set cells size hsz t k r x y v (by simpa using h) hr hc
    rw [List.flatMap_cons, List.set_append_right _ _ (by rw [hsz, Nat.succ_mul]; omega), hsz, List.set_cons_succ, List.flatMap_cons, ← ih]
    congr 2
    rw [Nat.succ_mul]; omega
theorem own_page {w : World} {g c k : Nat} {ks : List Kd} {x : Kd} (h : Own w 59 33 (some ⟨g, 0, none⟩) ks.length c (ks.flatMap csK)) (hx : ks[k]? = some x) (pg : Nat) :
    Own (w.setCell ⟨g, k * 33, none⟩ (.int .u32 (pg : Int))) 59 33 (some ⟨g, 0, none⟩) (ks.set k ⟨pg, x.sum⟩).length c ((ks.set k ⟨pg, x.sum⟩).flatMap csK) := by
  have := h.set (k * 33) (.int .u32 (pg : Int))
  rw [← Nat.add_zero (k * 33), flat_set csK 33 (fun x => by simp) ks k 0 x ⟨pg, x.sum⟩ _ hx (by omega) (by simp [csK, Kd.c]), Nat.add_zero] at this
  rwa [List.length_set]

/-- A node copied, its pages being written. -/
structure SzI (w wr : World) (lo B8 : Nat) (fr nd : Array Value) (pb sb kb : Option Addr) (pd sd kd : Nat) (n : Nd) (ks : List Kd) : Prop where
  kp : Kp [] w wr
  b0 : Blk wr w.heap.size 23 fr
  b1 : Blk wr (w.heap.size + 1) 28 nd
  b8 : Blk wr B8 28 #[.slice pb n.pairs.length pd, .slice sb n.seps.length sd, .slice kb n.kids.length kd]
  own : Own3 wr lo pb sb kb pd sd kd ⟨n.pairs, n.seps, ks⟩
  lw : w.heap.size + 1 < lo
  hi : ∀ g ∈ ab pb ++ ab sb ++ ab kb, g < B8
  sm : ks.map (kdP false) = n.kids.map (kdP false)
  pg : ∀ k ∈ ks, k.page < 4294967296

theorem SzI.len {w wr : World} {lo B8 : Nat} {fr nd : Array Value} {pb sb kb : Option Addr} {pd sd kd : Nat} {n : Nd} {ks : List Kd} (h : SzI w wr lo B8 fr nd pb sb kb pd sd kd n ks) : ks.length = n.kids.length := by
  have := congrArg List.length h.sm; simpa using this
theorem SzI.put {w wr : World} {lo B8 : Nat} {fr nd : Array Value} {pb sb : Option Addr} {g : Nat} {pd sd kd : Nat} {n : Nd} {ks : List Kd} (h : SzI w wr lo B8 fr nd pb sb (some ⟨g, 0, none⟩) pd sd kd n ks) {k : Nat} {x : Kd} (hx : ks[k]? = some x) (pg : Nat) (hp : pg < 4294967296) :
    SzI w (wr.setCell ⟨g, k * 33, none⟩ (.int .u32 (pg : Int))) lo B8 fr nd pb sb (some ⟨g, 0, none⟩) pd sd kd n (ks.set k ⟨pg, x.sum⟩) := by
  have hg := h.own.lo g (by simp [ab])
  have hg2 := h.hi g (by simp [ab])
  have hlw := h.lw
  have k1 : Kp [g] wr (wr.setCell ⟨g, k * 33, none⟩ (.int .u32 (pg : Int))) := (Kp.refl [g] wr).setCell _ (.inr (by simp))
  refine ⟨h.kp.from k1 (fun y hy => by simp at hy; subst hy; exact .inl (by omega)), h.b0.kp k1 (by simp; omega), h.b1.kp k1 (by simp; omega), h.b8.kp k1 (by simp; omega), ?_, hlw, h.hi, ?_, ?_⟩
  · refine ⟨h.own.ps.kp k1 (fun y hy => by have := (h.own.d1 y hy).2; simpa [ab] using this), h.own.ss.kp k1 (fun y hy => by have := h.own.d2 y hy; simpa [ab] using this), own_page h.own.ks hx pg, h.own.lo, h.own.d1, h.own.d2⟩
  · rw [← h.sm, List.map_set]
    refine List.ext_getElem? fun i => ?_
    have hlt : k < ks.length := (List.getElem?_eq_some_iff.1 hx).1
    rw [List.getElem?_set]
    by_cases he : k = i
    · subst he
      rw [if_pos rfl, if_pos (by simpa using hlt), List.getElem?_map, hx]
      rfl
    · rw [if_neg he]
  · intro y hy
    rcases List.mem_or_eq_of_mem_set hy with h1 | rfl
    · exact h.pg y h1
    · exact hp

theorem SzI.next {w wr : World} {lo B8 : Nat} {fr nd : Array Value} {pb sb kb : Option Addr} {pd sd kd : Nat} {n : Nd} {ks : List Kd} (h : SzI w wr lo B8 fr nd pb sb kb pd sd kd n ks) {w' : World} (k : Kp [] wr w') : SzI w w' lo B8 fr nd pb sb kb pd sd kd n ks :=
  ⟨h.kp.trans k, h.b0.kp k (by simp), h.b1.kp k (by simp), h.b8.kp k (by simp), h.own.kp k (by simp), h.lw, h.hi, h.sm, h.pg⟩

theorem SzI.start {w w1 : World} {fr : Array Value} {nd : Array Value} {pb sb kb : Option Addr} {pd sd kd : Nat} {n : Nd} {W : World} (ho : NdOk n) (h0 : Blk W w.heap.size 23 fr) (h1 : Blk W (w.heap.size + 1) 28 nd) (k0 : Kp [] w W) (k : Kp [] W w1) (ow : Own3 w1 W.heap.size pb sb kb pd sd kd n) :
    SzI w (w1.alloc (.cells #[.slice pb n.pairs.length pd, .slice sb n.seps.length sd, .slice kb n.kids.length kd] 28)) W.heap.size w1.heap.size fr nd pb sb kb pd sd kd n n.kids := by
  have ka : Kp [] w1 (w1.alloc (.cells #[.slice pb n.pairs.length pd, .slice sb n.seps.length sd, .slice kb n.kids.length kd] 28)) := (Kp.refl [] w1).alloc _
  refine ⟨(k0.trans k).trans ka, (h0.kp k (by simp)).kp ka (by simp), (h1.kp k (by simp)).kp ka (by simp), Blk.new w1 _ _, Own3.kp ow ka (by simp), h1.lt, ?_, rfl, ho.pg⟩
  intro g hg
  simp only [List.mem_append] at hg
  rcases hg with (hg | hg) | hg
  · exact ow.ps.lt g hg
  · exact ow.ss.lt g hg
  · exact ow.ks.lt g hg

/-! Sizes. -/
theorem size_bare (p wd : Int) (n : Nd) : SizeE p wd n.bare = SizeE p wd n := by
  unfold SizeE; rw [checkE_bare, sizeN_bare]
theorem size_pages {p wd : Int} {n : Nd} {ks : List Kd} (h : ks.map (kdP false) = n.kids.map (kdP false)) : SizeE p wd ⟨n.pairs, n.seps, ks⟩ = SizeE p wd n := by
  rw [← size_bare p wd ⟨n.pairs, n.seps, ks⟩, ← size_bare p wd n]
  congr 1
  simp only [Nd.bare, Nd.mk.injEq, true_and]
  rw [kdP_false] at h; exact h

theorem cntN_two {n : Nat} (h : n ≤ 8192) : cntN n ≤ 2 := cntN_le 2 n (by omega) (by omega)
theorem size_bounds {P wd : Nat} {n : Nd} (h : checkE P wd n = 0) (ho : NdOk n) : 2 ≤ SizeE P wd n ∧ SizeE P wd n ≤ 11 + n.pairs.length * (P / 16 + P / 8 + 4) + n.kids.length * (P / 16 + 6 + wd) := by
  obtain ⟨hr, hs⟩ := checkE_ok h
  have hr' := rightB_iff.1 hr
  simp only [Int.toNat_natCast] at hs
  have e : SizeE (P : Int) wd n = sizeN wd n := by unfold SizeE; rw [if_pos h]; simp
  rw [e]
  have hnp := ho.np; have hnk := ho.nk
  unfold sizeN
  cases hl : leafB n
  · obtain ⟨e1, e2, e3, e4⟩ := branch_good hs hl
    have h1 := sum_le txN (2 + P / 16) n.seps (fun s hs => by have := e3 s hs; have := cntN_two (n := s.length) (by omega); unfold txN; omega)
    have h2 := cntN_le9 n.kids.length (by omega)
    have h3 := cntN_pos n.kids.length
    simp only [Bool.false_eq_true, if_false]
    have h4 : n.seps.length * (2 + P / 16) ≤ n.kids.length * (2 + P / 16) := Nat.mul_le_mul_right _ (by omega)
    have h5 : n.kids.length * (P / 16 + 6 + wd) = n.kids.length * (2 + P / 16) + n.kids.length * (4 + wd) := by rw [← Nat.mul_add]; congr 1; omega
    omega
  · have hlg := leaf_good hs hl
    have h1 := sum_le prN (P / 16 + P / 8 + 4) n.pairs (fun x hx => by
      have := hlg x hx
      have h1 := cntN_two (n := x.1.length) (by omega); have h2 := cntN_two (n := x.2.length) (by omega)
      unfold prN txN; omega)
    have h2 := cntN_le9 n.pairs.length (by omega)
    have h3 := cntN_pos n.pairs.length
    simp only [if_true]
    omega

theorem rises_take : ∀ (l : List Bs) (m k : Nat) (pv : Option Bs), risesFrom m pv l = true → risesFrom m pv (l.take k) = true
  | [], m, k, pv, h => by simp [risesFrom]
  | x :: t, m, 0, pv, h => rfl
  | x :: t, m, k + 1, pv, h => by
    simp only [List.take_succ_cons]
    unfold risesFrom at h ⊢
    simp only [Bool.and_eq_true] at h ⊢
    exact ⟨h.1, rises_take t m k _ h.2⟩

/-- One pair less. -/
theorem size_less {P wd : Nat} {n : Nd} {ks : List Kd} {x : Pr} (h : checkE P wd n = 0) (hk : ks.map (kdP false) = n.kids.map (kdP false)) (h1 : n.pairs[n.pairs.length - 1]? = some x) (h2 : 0 < n.pairs.length) (h3 : n.pairs.length < 128) :
    ∃ d, SizeE P wd n = SizeE P wd ⟨n.pairs.take (n.pairs.length - 1), n.seps, ks⟩ + d ∧ x.1.length + x.2.length + 2 ≤ d ∧ d ≤ x.1.length + x.2.length + 4 := by
  obtain ⟨hr, hs⟩ := checkE_ok h
  have hr' := rightB_iff.1 hr
  simp only [Int.toNat_natCast] at hs
  have hl : leafB n = true := by
    cases hl : leafB n
    · have := (branch_good hs hl).1; rw [this] at h2; simp at h2
    · rfl
  obtain ⟨e1, e2⟩ := leafB_iff.1 hl
  have hks : ks = [] := by rw [e2] at hk; simpa using hk
  subst hks
  have hlg := leaf_good hs hl
  have hx := hlg x (List.mem_of_getElem? h1)
  have hl2 : leafB ⟨n.pairs.take (n.pairs.length - 1), n.seps, []⟩ = true := by rw [e1]; rfl
  have hc2 : checkE P wd ⟨n.pairs.take (n.pairs.length - 1), n.seps, []⟩ = 0 := by
    unfold checkE shapedB
    rw [if_pos hr, if_pos hl2, Int.toNat_natCast]
    unfold shapedB at hs
    rw [if_pos hl] at hs
    simp only [Bool.and_eq_true, Bool.not_eq_true'] at hs
    rw [if_pos]
    simp only [Bool.and_eq_true, Bool.not_eq_true']
    refine ⟨?_, ?_⟩
    · rw [List.map_take]; exact rises_take _ _ _ _ hs.1
    · rw [List.any_eq_false]
      intro y hy
      exact List.any_eq_false.1 hs.2 y (List.mem_of_mem_take hy)
  have s1 : SizeE (P : Int) wd n = sizeN wd n := by unfold SizeE; rw [if_pos h]; simp
  have s2 : SizeE (P : Int) wd ⟨n.pairs.take (n.pairs.length - 1), n.seps, []⟩ = sizeN wd ⟨n.pairs.take (n.pairs.length - 1), n.seps, []⟩ := by unfold SizeE; rw [if_pos hc2]; simp
  rw [s1, s2]
  unfold sizeN
  rw [if_pos hl, if_pos hl2]
  have ht := sum_take prN n.pairs (n.pairs.length - 1) x h1
  rw [show n.pairs.length - 1 + 1 = n.pairs.length by omega, List.take_length] at ht
  have c1 := cntN_small h3
  have c2 : cntN (n.pairs.take (n.pairs.length - 1)).length = 1 := cntN_small (by simp; omega)
  have k1 := cntN_two (n := x.1.length) (by omega); have k2 := cntN_two (n := x.2.length) (by omega)
  have j1 := cntN_pos x.1.length; have j2 := cntN_pos x.2.length
  refine ⟨prN x, ?_, ?_, ?_⟩
  · simp only [c1, c2, ht]; omega
  · unfold prN txN; omega
  · unfold prN txN; omega

theorem PsAt.take {w : World} {a : Option Addr} {l : List Pr} (h : PsAt w a l) (k : Nat) : PsAt w a (l.take k) := fun i p hp => by
  rw [List.getElem?_take] at hp
  split at hp
  · exact h i p hp
  · cases hp

end Go.Proofs.YtemicgccgcmmbaaGreat
