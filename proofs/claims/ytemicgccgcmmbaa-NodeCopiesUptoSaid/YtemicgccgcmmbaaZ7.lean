/- A copied node's kid is written; what is known of sizes. -/
import Derived.Test.YtemicgccgcmmbaaZ4
import Derived.Test.YtemicgccgcmmbaaZ6
namespace Go.Proofs.Ytemicgccgcmmbaa
set_option linter.unusedVariables false
set_option linter.unusedSimpArgs false
open Go Go.RowKit

theorem Own.set {w : World} {e : TypeId} {size g n c : Nat} {xs : List Value} (h : Own w e size (some ⟨g, 0, none⟩) n c xs) (j : Nat) (v : Value) : Own (w.setCell ⟨g, j, none⟩ v) e size (some ⟨g, 0, none⟩) n c (xs.set j v) := by
  rcases h.block with ⟨h0, ⟨h1, _⟩ | ⟨g', cur, h1, hb, h2, h3, h4, h5⟩⟩
  · cases h1
  · cases h1
    refine ⟨by rw [List.length_set]; exact h0, .inr ⟨g, c, cur.setIfInBounds j v, rfl, Nat.zero_le _, Blk.set hb j v, h2, h3, by simpa using h4, ?_⟩⟩
    rw [Array.toList_setIfInBounds, List.take_set, h5]
theorem flat_set {T : Type} (cells : T → List Value) (size : Nat) (hsz : ∀ x, (cells x).length = size) : ∀ (l : List T) (k r : Nat) (x y : T) (v : Value), l[k]? = some x → r < size → (cells x).set r v = cells y → (l.flatMap cells).set (k * size + r) v = (l.set k y).flatMap cells
  | [], k, r, x, y, v, h, _, _ => by simp at h
  | z :: t, 0, r, x, y, v, h, hr, hc => by
    simp at h; subst h
    rw [List.flatMap_cons, Nat.zero_mul, Nat.zero_add, List.set_append_left _ _ (by rw [hsz]; exact hr), hc, List.set_cons_zero, List.flatMap_cons]
  | z :: t, k + 1, r, x, y, v, h, hr, hc => by
    have ih := flat_set cells size hsz t k r x y v (by simpa using h) hr hc
    rw [List.flatMap_cons, List.set_append_right _ _ (by rw [hsz, Nat.succ_mul]; omega), hsz, List.set_cons_succ, List.flatMap_cons, ← ih]
    congr 2
    rw [Nat.succ_mul]; omega
theorem own_page {w : World} {g c k : Nat} {ks : List Kd} {x : Kd} (h : Own w 42 33 (some ⟨g, 0, none⟩) ks.length c (ks.flatMap csK)) (hx : ks[k]? = some x) (pg : Nat) :
    Own (w.setCell ⟨g, k * 33, none⟩ (.int .u32 (pg : Int))) 42 33 (some ⟨g, 0, none⟩) (ks.set k ⟨pg, x.sum⟩).length c ((ks.set k ⟨pg, x.sum⟩).flatMap csK) := by
  have := h.set (k * 33) (.int .u32 (pg : Int))
  rw [← Nat.add_zero (k * 33), flat_set csK 33 (fun x => by simp) ks k 0 x ⟨pg, x.sum⟩ _ hx (by omega) (by simp [csK, Kd.c]), Nat.add_zero] at this
  rwa [List.length_set]

/-- A node copied, its pages being written. -/
structure SzI (w wr : World) (lo B8 : Nat) (fr nd : Array Value) (pb sb kb : Option Addr) (pd sd kd : Nat) (n : Nd) (ks : List Kd) : Prop where
  kp : Kp [] w wr
  b0 : Blk wr w.heap.size 23 fr
  b1 : Blk wr (w.heap.size + 1) 30 nd
  b8 : Blk wr B8 30 #[.slice pb n.pairs.length pd, .slice sb n.seps.length sd, .slice kb n.kids.length kd]
  own : Own3 wr lo pb sb kb pd sd kd ⟨n.pairs, n.seps, ks⟩
  lw : w.heap.size + 1 < lo
  hi : ∀ g ∈ ab pb ++ ab sb ++ ab kb, g < B8
  sm : ks.map (kdP false) = n.kids.map (kdP false)
  pg : ∀ k ∈ ks, k.page < 4294967296

theorem SzI.len {w wr : World} {lo B8 : Nat} {fr nd : Array Value} {pb sb kb : Option Addr} {pd sd kd : Nat} {n : Nd} {ks : List Kd} (h : SzI w wr lo B8 fr nd pb sb kb pd sd kd n ks) : ks.length = n.kids.length := by
  have := congrArg List.length h.sm; simpa using this
theorem SzI.put {w wr : World} {lo B8 : Nat} {fr nd : Array Value} {pb sb : Option Addr} {g : Nat} {pd sd kd : Nat} {n : Nd} {ks : List Kd} (h : SzI w wr lo B8 fr nd pb sb (some ⟨g, 0, none⟩) pd sd kd n ks) {k : Nat} {x : Kd} (hx : ks[k]? = some x) (pg : Nat) (hp : pg < 4294967296) :
    SzI w (wr.setCell ⟨g, k * 33, none⟩ (.int .u32 (pg : Int))) lo B8 fr nd pb sb (some ⟨g, 0, none⟩) pd sd kd n (ks.set k ⟨pg, x.sum⟩) := by
  have hg := h.own.lo g (by simp [ab])
  have hg2 := h.hi g (by simp [ab])
  have hlw := h.lw
  have k1 : Kp [g] wr (wr.setCell ⟨g, k * 33, none⟩ (.int .u32 (pg : Int))) := (Kp.refl [g] wr).setCell _ (.inr (by simp))
  refine ⟨h.kp.from k1 (fun y hy => by simp at hy; subst hy; exact .inl (by omega)), h.b0.kp k1 (by simp; omega), h.b1.kp k1 (by simp; omega), h.b8.kp k1 (by simp; omega), ?_, hlw, h.hi, ?_, ?_⟩
  · refine ⟨h.own.ps.kp k1 (fun y hy => by have := (h.own.d1 y hy).2; simpa [ab] using this), h.own.ss.kp k1 (fun y hy => by have := h.own.d2 y hy; simpa [ab] using this), own_page h.own.ks hx pg, h.own.lo, h.own.d1, h.own.d2⟩
  · rw [← h.sm, List.map_set]
    refine List.ext_getElem? fun i => ?_
    have hlt : k < ks.length := (List.getElem?_eq_some_iff.1 hx).1
    rw [List.getElem?_set]
    by_cases he : k = i
    · subst he
      rw [if_pos rfl, if_pos (by simpa using hlt), List.getElem?_map, hx]
      rfl
    · rw [if_neg he]
  · intro y hy
    rcases List.mem_or_eq_of_mem_set hy with h1 | rfl
    · exact h.pg y h1
    · exact hp

theorem SzI.next {w wr : World} {lo B8 : Nat} {fr nd : Array Value} {pb sb kb : Option Addr} {pd sd kd : Nat} {n : Nd} {ks : List Kd} (h : SzI w wr lo B8 fr nd pb sb kb pd sd kd n ks) {w' : World} (k : Kp [] wr w') : SzI w w' lo B8 fr nd pb sb kb pd sd kd n ks :=
  ⟨h.kp.trans k, h.b0.kp k (by simp), h.b1.kp k (by simp), h.b8.kp k (by simp), h.own.kp k (by simp), h.lw, h.hi, h.sm, h.pg⟩

theorem SzI.start {w w1 : World} {fr : Array Value} {nd : Array Value} {pb sb kb : Option Addr} {pd sd kd : Nat} {n : Nd} {W : World} (ho : NdOk n) (h0 : Blk W w.heap.size 23 fr) (h1 : Blk W (w.heap.size + 1) 30 nd) (k0 : Kp [] w W) (k : Kp [] W w1) (ow : Own3 w1 W.heap.size pb sb kb pd sd kd n) :
    SzI w (w1.alloc (.cells #[.slice pb n.pairs.length pd, .slice sb n.seps.length sd, .slice kb n.kids.length kd] 30)) W.heap.size w1.heap.size fr nd pb sb kb pd sd kd n n.kids := by
  have ka : Kp [] w1 (w1.alloc (.cells #[.slice pb n.pairs.length pd, .slice sb n.seps.length sd, .slice kb n.kids.length kd] 30)) := (Kp.refl [] w1).alloc _
  refine ⟨(k0.trans k).trans ka, (h0.kp k (by simp)).kp ka (by simp), (h1.kp k (by simp)).kp ka (by simp), Blk.new w1 _ _, Own3.kp ow ka (by simp), h1.lt, ?_, rfl, ho.pg⟩
  intro g hg
  simp only [List.mem_append] at hg
  rcases hg with (hg | hg) | hg
  · exact ow.ps.lt g hg
  · exact ow.ss.lt g hg
  · exact ow.ks.lt g hg

/-! Sizes. -/
theorem size_bare (p wd : Int) (n : Nd) : SizeE p wd n.bare = SizeE p wd n := by
  unfold SizeE; rw [checkE_bare, sizeN_bare]
theorem size_pages {p wd : Int} {n : Nd} {ks : List Kd} (h : ks.map (kdP false) = n.kids.map (kdP false)) : SizeE p wd ⟨n.pairs, n.seps, ks⟩ = SizeE p wd n := by
  rw [← size_bare p wd ⟨n.pairs, n.seps, ks⟩, ← size_bare p wd n]
  congr 1
  simp only [Nd.bare, Nd.mk.injEq, true_and]
  rw [kdP_false] at h; exact h

theorem cntN_two {n : Nat} (h : n ≤ 8192) : cntN n ≤ 2 := cntN_le 2 n (by omega) (by omega)
theorem size_bounds {P wd : Nat} {n : Nd} (h : checkE P wd n = 0) (ho : NdOk n) : 2 ≤ SizeE P wd n ∧ SizeE P wd n ≤ 11 + n.pairs.length * (P / 16 + P / 8 + 4) + n.kids.length * (P / 16 + 6 + wd) := by
  obtain ⟨hr, hs⟩ := checkE_ok h
  have hr' := rightB_iff.1 hr
  simp only [Int.toNat_natCast] at hs
  have e : SizeE (P : Int) wd n = sizeN wd n := by unfold SizeE; rw [if_pos h]; simp
  rw [e]
  have hnp := ho.np; have hnk := ho.nk
  unfold sizeN
  cases hl : leafB n
  · obtain ⟨e1, e2, e3, e4⟩ := branch_good hs hl
    have h1 := sum_le txN (2 + P / 16) n.seps (fun s hs => by have := e3 s hs; have := cntN_two (n := s.length) (by omega); unfold txN; omega)
    have h2 := cntN_le9 n.kids.length (by omega)
    have h3 := cntN_pos n.kids.length
    simp only [Bool.false_eq_true, if_false]
    have h4 : n.seps.length * (2 + P / 16) ≤ n.kids.length * (2 + P / 16) := Nat.mul_le_mul_right _ (by omega)
    have h5 : n.kids.length * (P / 16 + 6 + wd) = n.kids.length * (2 + P / 16) + n.kids.length * (4 + wd) := by rw [← Nat.mul_add]; congr 1; omega
    omega
  · have hlg := leaf_good hs hl
    have h1 := sum_le prN (P / 16 + P / 8 + 4) n.pairs (fun x hx => by
      have := hlg x hx
      have h1 := cntN_two (n := x.1.length) (by omega); have h2 := cntN_two (n := x.2.length) (by omega)
      unfold prN txN; omega)
    have h2 := cntN_le9 n.pairs.length (by omega)
    have h3 := cntN_pos n.pairs.length
    simp only [if_true]
    omega

theorem rises_take : ∀ (l : List Bs) (m k : Nat) (pv : Option Bs), risesFrom m pv l = true → risesFrom m pv (l.take k) = true
  | [], m, k, pv, h => by simp [risesFrom]
  | x :: t, m, 0, pv, h => rfl
  | x :: t, m, k + 1, pv, h => by
    simp only [List.take_succ_cons]
    unfold risesFrom at h ⊢
    simp only [Bool.and_eq_true] at h ⊢
    exact ⟨h.1, rises_take t m k _ h.2⟩

/-- One pair less. -/
theorem size_less {P wd : Nat} {n : Nd} {ks : List Kd} {x : Pr} (h : checkE P wd n = 0) (hk : ks.map (kdP false) = n.kids.map (kdP false)) (h1 : n.pairs[n.pairs.length - 1]? = some x) (h2 : 0 < n.pairs.length) (h3 : n.pairs.length < 128) :
    ∃ d, SizeE P wd n = SizeE P wd ⟨n.pairs.take (n.pairs.length - 1), n.seps, ks⟩ + d ∧ x.1.length + x.2.length + 2 ≤ d ∧ d ≤ x.1.length + x.2.length + 4 := by
  obtain ⟨hr, hs⟩ := checkE_ok h
  have hr' := rightB_iff.1 hr
  simp only [Int.toNat_natCast] at hs
  have hl : leafB n = true := by
    cases hl : leafB n
    · have := (branch_good hs hl).1; rw [this] at h2; simp at h2
    · rfl
  obtain ⟨e1, e2⟩ := leafB_iff.1 hl
  have hks : ks = [] := by rw [e2] at hk; simpa using hk
  subst hks
  have hlg := leaf_good hs hl
  have hx := hlg x (List.mem_of_getElem? h1)
  have hl2 : leafB ⟨n.pairs.take (n.pairs.length - 1), n.seps, []⟩ = true := by rw [e1]; rfl
  have hc2 : checkE P wd ⟨n.pairs.take (n.pairs.length - 1), n.seps, []⟩ = 0 := by
    unfold checkE shapedB
    rw [if_pos hr, if_pos hl2, Int.toNat_natCast]
    unfold shapedB at hs
    rw [if_pos hl] at hs
    simp only [Bool.and_eq_true, Bool.not_eq_true'] at hs
    rw [if_pos]
    simp only [Bool.and_eq_true, Bool.not_eq_true']
    refine ⟨?_, ?_⟩
    · rw [List.map_take]; exact rises_take _ _ _ _ hs.1
    · rw [List.any_eq_false]
      intro y hy
      exact List.any_eq_false.1 hs.2 y (List.mem_of_mem_take hy)
  have s1 : SizeE (P : Int) wd n = sizeN wd n := by unfold SizeE; rw [if_pos h]; simp
  have s2 : SizeE (P : Int) wd ⟨n.pairs.take (n.pairs.length - 1), n.seps, []⟩ = sizeN wd ⟨n.pairs.take (n.pairs.length - 1), n.seps, []⟩ := by unfold SizeE; rw [if_pos hc2]; simp
  rw [s1, s2]
  unfold sizeN
  rw [if_pos hl, if_pos hl2]
  have ht := sum_take prN n.pairs (n.pairs.length - 1) x h1
  rw [show n.pairs.length - 1 + 1 = n.pairs.length by omega, List.take_length] at ht
  have c1 := cntN_small h3
  have c2 : cntN (n.pairs.take (n.pairs.length - 1)).length = 1 := cntN_small (by simp; omega)
  have k1 := cntN_two (n := x.1.length) (by omega); have k2 := cntN_two (n := x.2.length) (by omega)
  have j1 := cntN_pos x.1.length; have j2 := cntN_pos x.2.length
  refine ⟨prN x, ?_, ?_, ?_⟩
  · simp only [c1, c2, ht]; omega
  · unfold prN txN; omega
  · unfold prN txN; omega

theorem PsAt.take {w : World} {a : Option Addr} {l : List Pr} (h : PsAt w a l) (k : Nat) : PsAt w a (l.take k) := fun i p hp => by
  rw [List.getElem?_take] at hp
  split at hp
  · exact h i p hp
  · cases hp

end Go.Proofs.Ytemicgccgcmmbaa

/- What spoil and grown do to lists of one's own. -/
namespace Go.Proofs.Ytemicgccgcmmbaa
set_option linter.unusedVariables false
set_option linter.unusedSimpArgs false
open Go Go.RowKit

def Nd.app (n t : Nd) : Nd := ⟨n.pairs ++ t.pairs, n.seps ++ t.seps, n.kids ++ t.kids⟩
def Nd.none : Nd := ⟨[], [], []⟩
theorem Nd.app_none (n : Nd) : n.app Nd.none = n := by simp [Nd.app, Nd.none]
def Nd.marks : Nd := ⟨[(mkB, [])], [mkB], [kMark]⟩
theorem Nd.mk1_app (n : Nd) : n.mk1 = n.app Nd.marks := rfl

structure SpI (w wr : World) (lo : Nat) (pa sa ka : Option Addr) (pc sc kc : Nat) (nd : Array Value) (m : Nd) : Prop where
  kp : Kp (ab pa ++ ab sa ++ ab ka) w wr
  bx : Blk wr w.heap.size 30 nd
  own : Own3 wr lo pa sa ka pc sc kc m
  hi : ∀ g ∈ ab pa ++ ab sa ++ ab ka, g < w.heap.size

theorem SpI.next {w wr : World} {lo : Nat} {pa sa ka : Option Addr} {pc sc kc : Nat} {nd : Array Value} {m : Nd} (h : SpI w wr lo pa sa ka pc sc kc nd m) {w' : World} (k : Kp [] wr w') : SpI w w' lo pa sa ka pc sc kc nd m :=
  ⟨h.kp.trans k.of_nil, h.bx.kp k (by simp), h.own.kp k (by simp), h.hi⟩
theorem SpI.start {w : World} {lo : Nat} {pa sa ka : Option Addr} {pc sc kc : Nat} {nd : Array Value} {m : Nd} (h : Own3 w lo pa sa ka pc sc kc m) : SpI w (w.alloc (.cells nd 30)) lo pa sa ka pc sc kc nd m :=
  ⟨(Kp.refl _ _).alloc _, Blk.new w _ _, h.kp ((Kp.refl [] w).alloc _) (by simp), fun g hg => by
    simp only [List.mem_append] at hg
    rcases hg with (hg | hg) | hg
    · exact h.ps.lt g hg
    · exact h.ss.lt g hg
    · exact h.ks.lt g hg⟩

theorem own_pair {w : World} {g c k : Nat} {ps : List Pr} {x : Pr} (h : Own w 48 2 (some ⟨g, 0, none⟩) ps.length c (ps.flatMap csP)) (hx : ps[k]? = some x) (y : Pr) :
    Own ((w.setCell ⟨g, k * 2, none⟩ (.string ⟨y.1.toArray⟩)).setCell ⟨g, k * 2 + 1, none⟩ (.string ⟨y.2.toArray⟩)) 48 2 (some ⟨g, 0, none⟩) (ps.set k y).length c ((ps.set k y).flatMap csP) := by
  have hk : k < ps.length := (List.getElem?_eq_some_iff.1 hx).1
  have h1 := (h.set (k * 2) (.string ⟨y.1.toArray⟩)).set (k * 2 + 1) (.string ⟨y.2.toArray⟩)
  rw [show (ps.flatMap csP).set (k * 2) (.string ⟨y.1.toArray⟩) = (ps.flatMap csP).set (k * 2 + 0) (.string ⟨y.1.toArray⟩) from rfl, flat_set csP 2 (fun _ => rfl) ps k 0 x (y.1, x.2) _ hx (by omega) rfl,
    flat_set csP 2 (fun _ => rfl) (ps.set k (y.1, x.2)) k 1 (y.1, x.2) y _ (by rw [List.getElem?_set_self hk]) (by omega) rfl, List.set_set] at h1
  rwa [List.length_set]
theorem own_text {w : World} {g c k : Nat} {ss : List Bs} {x : Bs} (h : Own w 9 1 (some ⟨g, 0, none⟩) ss.length c (ss.flatMap csS)) (hx : ss[k]? = some x) (y : Bs) :
    Own (w.setCell ⟨g, k, none⟩ (.string ⟨y.toArray⟩)) 9 1 (some ⟨g, 0, none⟩) (ss.set k y).length c ((ss.set k y).flatMap csS) := by
  have h1 := h.set k (.string ⟨y.toArray⟩)
  have h2 := flat_set csS 1 (fun _ => rfl) ss k 0 x y (.string ⟨y.toArray⟩) hx (by omega) rfl
  rw [Nat.mul_one, Nat.add_zero] at h2
  rw [h2] at h1
  rwa [List.length_set]
theorem flat_put {T : Type} (cells : T → List Value) (size : Nat) (hsz : ∀ x, (cells x).length = size) : ∀ (l : List T) (k : Nat) (y : T), k < l.length → (l.flatMap cells).take (k * size) ++ cells y ++ (l.flatMap cells).drop (k * size + size) = (l.set k y).flatMap cells
  | [], k, y, h => by simp at h
  | z :: t, 0, y, h => by
    have hd : List.drop size (cells z ++ t.flatMap cells) = t.flatMap cells := by
      rw [List.drop_append_of_le_length (by rw [hsz]; exact Nat.le_refl _), List.drop_of_length_le (by rw [hsz]; exact Nat.le_refl _)]; rfl
    simp only [List.flatMap_cons, Nat.zero_mul, List.take_zero, List.nil_append, Nat.zero_add, List.set_cons_zero, hd]
  | z :: t, k + 1, y, h => by
    have ih := flat_put cells size hsz t k y (by simpa using h)
    have e1 : List.take ((k + 1) * size) (cells z ++ t.flatMap cells) = cells z ++ List.take (k * size) (t.flatMap cells) := by
      rw [Nat.succ_mul, Nat.add_comm, show size + k * size = (cells z).length + k * size by rw [hsz], List.take_length_add_append]
    have e2 : List.drop ((k + 1) * size + size) (cells z ++ t.flatMap cells) = List.drop (k * size + size) (t.flatMap cells) := by
      rw [Nat.succ_mul, show k * size + size + size = (cells z).length + (k * size + size) by rw [hsz]; omega, List.drop_length_add_append]
    simp only [List.flatMap_cons, List.set_cons_succ, e1, e2, ← ih, List.append_assoc]
theorem take_put {α : Type} (l y : List α) (a s n : Nat) (hy : y.length = s) (h : a + s ≤ n) (hl : n ≤ l.length) : (l.take a ++ y ++ l.drop (a + s)).take n = (l.take n).take a ++ y ++ (l.take n).drop (a + s) := by
  have h1 : (l.take a).length = a := by simp; omega
  have h2 : (l.take a ++ y).length = a + s := by rw [List.length_append, h1, hy]
  have h3 : (l.take n).take a = l.take a := by rw [List.take_take, Nat.min_eq_left (by omega)]
  rw [List.take_append, List.take_append, List.drop_take, h2, h1, h3, List.take_of_length_le (l := l.take a) (by omega), List.take_of_length_le (l := y) (by omega)]
theorem own_kid {w : World} {g c k : Nat} {ks : List Kd} (h : Own w 42 33 (some ⟨g, 0, none⟩) ks.length c (ks.flatMap csK)) (hk : k < ks.length) (y : Kd) {cur : Array Value} (hc : own? w g = some cur) :
    Own (w.setRow g (spl cur (k * 33) y.c)) 42 33 (some ⟨g, 0, none⟩) (ks.set k y).length c ((ks.set k y).flatMap csK) ∧ k * 33 + 33 ≤ cur.size := by
  rcases h.block with ⟨h0, ⟨h1, _⟩ | ⟨g', cur', h1, hb, h2, h3, h4, h5⟩⟩
  · cases h1
  · cases h1
    rw [own?_blk hb] at hc
    cases hc
    have hlen : k * 33 + 33 ≤ ks.length * 33 := by omega
    have hcs : ks.length * 33 ≤ cur.size := by rw [h4]; exact Nat.mul_le_mul_right _ h2
    have hsp : (spl cur (k * 33) y.c).size = cur.size := spl_size _ _ _ (by simp; omega)
    refine ⟨⟨by rw [flat_len csK 33 (fun x => by simp)], .inr ⟨g, c, spl cur (k * 33) y.c, rfl, Nat.zero_le _, setRow_heap w g cur _ _ _ hb, by rw [List.length_set]; exact h2, h3, by rw [hsp]; exact h4, ?_⟩⟩, by omega⟩
    rw [List.length_set, ← flat_put csK 33 (fun x => by simp) ks k y hk, ← h5]
    have hy : y.c.toList.length = 33 := by simp
    simp only [spl, Kd.c_size]
    exact take_put cur.toList y.c.toList (k * 33) 33 (ks.length * 33) hy (by omega) (by simpa using hcs)

theorem SpI.pair {w wr : World} {lo : Nat} {g : Nat} {sa ka : Option Addr} {pc sc kc : Nat} {nd : Array Value} {m : Nd} (h : SpI w wr lo (some ⟨g, 0, none⟩) sa ka pc sc kc nd m) {k : Nat} {x : Pr} (hx : m.pairs[k]? = some x) (y : Pr) :
    SpI w ((wr.setCell ⟨g, k * 2, none⟩ (.string ⟨y.1.toArray⟩)).setCell ⟨g, k * 2 + 1, none⟩ (.string ⟨y.2.toArray⟩)) lo (some ⟨g, 0, none⟩) sa ka pc sc kc nd ⟨m.pairs.set k y, m.seps, m.kids⟩ := by
  have hg := h.hi g (by simp [ab])
  have k1 : Kp [g] wr ((wr.setCell ⟨g, k * 2, none⟩ (.string ⟨y.1.toArray⟩)).setCell ⟨g, k * 2 + 1, none⟩ (.string ⟨y.2.toArray⟩)) := ((Kp.refl [g] wr).setCell _ (.inr (by simp))).setCell _ (.inr (by simp))
  refine ⟨h.kp.trans (k1.mono (fun a _ ha => by simp at ha; simp [ab, ha])), h.bx.kp k1 (by simp; omega), ⟨own_pair h.own.ps hx y, h.own.ss.kp k1 (fun a ha => ?_), h.own.ks.kp k1 (fun a ha => ?_), h.own.lo, h.own.d1, h.own.d2⟩, h.hi⟩
  · simp; rintro rfl; exact (h.own.d1 a (by simp [ab])).1 ha
  · simp; rintro rfl; exact (h.own.d1 a (by simp [ab])).2 ha
theorem SpI.text {w wr : World} {lo : Nat} {g : Nat} {pa ka : Option Addr} {pc sc kc : Nat} {nd : Array Value} {m : Nd} (h : SpI w wr lo pa (some ⟨g, 0, none⟩) ka pc sc kc nd m) {k : Nat} {x : Bs} (hx : m.seps[k]? = some x) (y : Bs) :
    SpI w (wr.setCell ⟨g, k, none⟩ (.string ⟨y.toArray⟩)) lo pa (some ⟨g, 0, none⟩) ka pc sc kc nd ⟨m.pairs, m.seps.set k y, m.kids⟩ := by
  have hg := h.hi g (by simp [ab])
  have k1 : Kp [g] wr (wr.setCell ⟨g, k, none⟩ (.string ⟨y.toArray⟩)) := (Kp.refl [g] wr).setCell _ (.inr (by simp))
  refine ⟨h.kp.trans (k1.mono (fun a _ ha => by simp at ha; simp [ab, ha])), h.bx.kp k1 (by simp; omega), ⟨h.own.ps.kp k1 (fun a ha => ?_), own_text h.own.ss hx y, h.own.ks.kp k1 (fun a ha => ?_), h.own.lo, h.own.d1, h.own.d2⟩, h.hi⟩
  · simp; rintro rfl; exact (h.own.d1 a ha).1 (by simp [ab])
  · simp; rintro rfl; exact h.own.d2 a (by simp [ab]) ha
theorem SpI.kid {w wr : World} {lo : Nat} {g : Nat} {pa sa : Option Addr} {pc sc kc : Nat} {nd : Array Value} {m : Nd} (h : SpI w wr lo pa sa (some ⟨g, 0, none⟩) pc sc kc nd m) {k : Nat} (hk : k < m.kids.length) (y : Kd) {cur : Array Value} (hc : own? wr g = some cur) :
    SpI w (wr.setRow g (spl cur (k * 33) y.c)) lo pa sa (some ⟨g, 0, none⟩) pc sc kc nd ⟨m.pairs, m.seps, m.kids.set k y⟩ := by
  have hg := h.hi g (by simp [ab])
  have k1 : Kp [g] wr (wr.setRow g (spl cur (k * 33) y.c)) := (Kp.refl [g] wr).setRow _ _ (.inr (by simp))
  refine ⟨h.kp.trans (k1.mono (fun a _ ha => by simp at ha; simp [ab, ha])), h.bx.kp k1 (by simp; omega), ⟨h.own.ps.kp k1 (fun a ha => ?_), h.own.ss.kp k1 (fun a ha => ?_), (own_kid h.own.ks hk y hc).1, h.own.lo, h.own.d1, h.own.d2⟩, h.hi⟩
  · simp; rintro rfl; exact (h.own.d1 a ha).2 (by simp [ab])
  · simp; rintro rfl; exact h.own.d2 a ha (by simp [ab])

/-- A list whose first places are written over. -/
def over {α : Type} (k : Nat) (y : α) (l : List α) : List α := List.replicate k y ++ l.drop k
theorem over_zero {α : Type} (y : α) (l : List α) : over 0 y l = l := by simp [over]
theorem over_len {α : Type} {k : Nat} (y : α) {l : List α} (h : k ≤ l.length) : (over k y l).length = l.length := by simp [over]; omega
theorem over_get {α : Type} {k : Nat} (y : α) {l : List α} {x : α} (h : l[k]? = some x) : (over k y l)[k]? = some x := by
  unfold over
  rw [List.getElem?_append_right (by simp), List.length_replicate, Nat.sub_self, List.getElem?_drop, Nat.add_zero, h]
theorem over_set {α : Type} {k : Nat} (y : α) {l : List α} (h : k < l.length) : (over k y l).set k y = over (k + 1) y l := by
  unfold over
  rw [List.set_append_right _ _ (by simp), List.length_replicate, Nat.sub_self, List.drop_eq_getElem_cons h, List.set_cons_zero, List.replicate_succ', List.append_assoc]
  rfl
theorem over_all {α : Type} (y : α) (l t : List α) : over l.length y (l ++ t) = List.replicate l.length y ++ t := by simp [over]

def xB (mark : UInt8) : Bs := [120, mark]
def yB (mark : UInt8) : Bs := [121, mark]
/-- A node written over. -/
def Nd.spoilt (n : Nd) (mark : UInt8) : Nd := ⟨List.replicate n.pairs.length (xB mark, []), List.replicate n.seps.length (xB mark), List.replicate n.kids.length ⟨mark.toNat, Dg.zero⟩⟩

end Go.Proofs.Ytemicgccgcmmbaa

/- spoil: the walk. -/
namespace Go.Proofs.Ytemicgccgcmmbaa
set_option linter.unusedVariables false
set_option linter.unusedSimpArgs false
open Go Go.RowKit

@[go_sem] theorem conv_one (w : World) (mark : UInt8) (g : Nat) (hg : g = w.heap.size) : (convert 72 9 (.slice (some ⟨g, 0, none⟩) 1 1)).run Try.prog (w.alloc (.cells #[.int .u8 (mark.toNat : Int)] 5)) = .ok (.string ⟨#[mark]⟩) (w.alloc (.cells #[.int .u8 (mark.toNat : Int)] 5)) := by
  subst hg
  refine conv_cells (t := [mark]) _ _ ?_
  intro j u hj
  match j, hj with
  | 0, hj =>
    simp [bC] at hj
    subst hj
    have := (Blk.new w 5 #[.int .u8 (mark.toNat : Int)]).cell 0
    simp [Addr.add]
theorem str_x (mark : UInt8) : (⟨#[120]⟩ : ByteArray) ++ ⟨#[mark]⟩ = ⟨(xB mark).toArray⟩ := by
  apply ByteArray.ext
  simp [xB, ByteArray.data_append]
theorem SpI.pairAt {w wr : World} {lo : Nat} {pa sa ka : Option Addr} {pc sc kc : Nat} {nd : Array Value} {m : Nd} (h : SpI w wr lo pa sa ka pc sc kc nd m) {k : Nat} {x : Pr} (hx : m.pairs[k]? = some x) :
    ∃ g, pa = some ⟨g, 0, none⟩ ∧ g < wr.heap.size ∧ wr.cell? ⟨g, k * 2, none⟩ = some (.string ⟨x.1.toArray⟩) ∧ wr.cell? ⟨g, k * 2 + 1, none⟩ = some (.string ⟨x.2.toArray⟩) ∧ wr.frozen? ⟨g, k * 2, none⟩ = false ∧ wr.frozen? ⟨g, k * 2 + 1, none⟩ = false := by
  rcases h.own.ps.block.2 with ⟨_, h1, _⟩ | ⟨g, cur, h1, hb, _⟩
  · have := (List.getElem?_eq_some_iff.1 hx).1; omega
  · obtain ⟨b, o, e, _, c1, c2⟩ := h.own.at.ps k x hx
    rw [h1] at e; cases e
    exact ⟨g, h1, hb.lt, by simpa using c1, by simpa using c2, hb.frozen _, hb.frozen _⟩
theorem SpI.textAt {w wr : World} {lo : Nat} {pa sa ka : Option Addr} {pc sc kc : Nat} {nd : Array Value} {m : Nd} (h : SpI w wr lo pa sa ka pc sc kc nd m) {k : Nat} {x : Bs} (hx : m.seps[k]? = some x) :
    ∃ g, sa = some ⟨g, 0, none⟩ ∧ g < wr.heap.size ∧ wr.cell? ⟨g, k, none⟩ = some (.string ⟨x.toArray⟩) ∧ wr.frozen? ⟨g, k, none⟩ = false := by
  rcases h.own.ss.block.2 with ⟨_, h1, _⟩ | ⟨g, cur, h1, hb, _⟩
  · have := (List.getElem?_eq_some_iff.1 hx).1; omega
  · obtain ⟨b, o, e, _, c1⟩ := h.own.at.ss k x hx
    rw [h1] at e; cases e
    exact ⟨g, h1, hb.lt, by simpa using c1, hb.frozen _⟩
theorem SpI.kidAt {w wr : World} {lo : Nat} {pa sa ka : Option Addr} {pc sc kc : Nat} {nd : Array Value} {m : Nd} (h : SpI w wr lo pa sa ka pc sc kc nd m) {k : Nat} (hk : k < m.kids.length) :
    ∃ g cur, ka = some ⟨g, 0, none⟩ ∧ g < wr.heap.size ∧ own? wr g = some cur ∧ k * 33 + 33 ≤ cur.size := by
  rcases h.own.ks.block.2 with ⟨_, h1, _⟩ | ⟨g, cur, h1, hb, _⟩
  · omega
  · refine ⟨g, cur, h1, hb.lt, own?_blk hb, ?_⟩
    have h2 := h.own.ks
    rw [h1] at h2
    exact (own_kid h2 hk Kd.zero (own?_blk hb)).2

set_option maxHeartbeats 1000000 in set_option maxRecDepth 100000 in
theorem spoil_any (mark : UInt8) (lo : Nat) (pa sa ka : Option Addr) (pc sc kc : Nat) (n t : Nd) (w : World) (h : Own3 w lo pa sa ka pc sc kc (n.app t)) (hf : NdFew n) :
    Calls Try.prog 26 #[.agg #[.slice pa n.pairs.length pc, .slice sa n.seps.length sc, .slice ka n.kids.length kc], .int .u32 (mark.toNat : Int)] w fun e w' =>
      e = .returned (.tuple #[]) ∧ Own3 w' lo pa sa ka pc sc kc ((n.spoilt mark).app t) ∧ Kp (ab pa ++ ab sa ++ ab ka) w w' := by
  have S0 : Hid (SpI w (w.alloc (.cells #[.slice pa n.pairs.length pc, .slice sa n.seps.length sc, .slice ka n.kids.length kc] 30)) lo pa sa ka pc sc kc #[.slice pa n.pairs.length pc, .slice sa n.seps.length sc, .slice ka n.kids.length kc] ⟨over 0 (xB mark, []) (n.app t).pairs, (n.app t).seps, (n.app t).kids⟩) := Lib.hid (SpI.start h)
  have fp := hf.np; have fs := hf.ns; have fk := hf.nk
  have hm : mark.toNat < 256 := mark.toNat_lt
  have l1 : n.pairs.length ≤ (n.app t).pairs.length := by simp [Nd.app]
  have l2 : n.seps.length ≤ (n.app t).seps.length := by simp [Nd.app]
  have l3 : n.kids.length ≤ (n.app t).kids.length := by simp [Nd.app]
  clear h hf
  go_enter Try.func26, Try.ntmps26
  go_wp2_with fail
  go_loopw [4] (fun i wr => ∃ k, i = .int .i64 (k : Nat) ∧ k ≤ n.pairs.length ∧ Hid (SpI w wr lo pa sa ka pc sc kc #[.slice pa n.pairs.length pc, .slice sa n.seps.length sc, .slice ka n.kids.length kc] ⟨over k (xB mark, []) (n.app t).pairs, (n.app t).seps, (n.app t).kids⟩)) (fun i _ => n.pairs.length - (intOf i).toNat)
  case atStart => exact ⟨0, rfl, Nat.zero_le _, S0⟩
  case round =>
    clear S0
    obtain ⟨k, rfl, hk, SI⟩ := hrel
    have c5 := SI.out.bx.cell 0; have c6 := SI.out.bx.cell 1; have c7 := SI.out.bx.cell 2; have g8 := SI.out.bx.lt
    simp only [List.getElem?_toArray, List.getElem?_cons_zero, List.getElem?_cons_succ] at c5 c6 c7
    by_cases hlt : k < n.pairs.length
    · obtain ⟨x, hx⟩ : ∃ x, (n.app t).pairs[k]? = some x := ⟨_, List.getElem?_eq_getElem (by omega)⟩
      have hx2 := over_get (xB mark, []) hx
      obtain ⟨g, rfl, gl, d1, d2, d3, d4⟩ := SI.out.pairAt hx2
      have HX := Lib.hid hx2
      clear hx hx2
      go_wp2_with fail
      go_roundw
      case rel =>
        have h := (SI.out.pair HX.out (xB mark, [])).next ((Kp.refl [] _).alloc (.cells #[.int .u8 (mark.toNat : Int)] 5))
        rw [over_set _ (by omega)] at h
        exact ⟨k + 1, by go_num, by omega, by rw [str_x]; exact Lib.hid h⟩
      case measure => simp [intOf]; omega
    · have S0 : Hid (SpI w wr lo pa sa ka pc sc kc #[.slice pa n.pairs.length pc, .slice sa n.seps.length sc, .slice ka n.kids.length kc] ⟨List.replicate n.pairs.length (xB mark, []) ++ t.pairs, over 0 (xB mark) (n.app t).seps, (n.app t).kids⟩) := Lib.hid (by
        have h := SI.out
        rw [show k = n.pairs.length by omega] at h
        rw [over_zero, ← over_all]
        exact h)
      clear SI
      go_wp2_with fail
      go_loopw [5] (fun i wr => ∃ k, i = .int .i64 (k : Nat) ∧ k ≤ n.seps.length ∧ Hid (SpI w wr lo pa sa ka pc sc kc #[.slice pa n.pairs.length pc, .slice sa n.seps.length sc, .slice ka n.kids.length kc] ⟨List.replicate n.pairs.length (xB mark, []) ++ t.pairs, over k (xB mark) (n.app t).seps, (n.app t).kids⟩)) (fun i _ => n.seps.length - (intOf i).toNat)
      case atStart => exact ⟨0, rfl, Nat.zero_le _, S0⟩
      case round =>
        clear S0 c5 c6 c7 g8
        obtain ⟨k, rfl, hk, SI⟩ := hrel
        have c5 := SI.out.bx.cell 0; have c6 := SI.out.bx.cell 1; have c7 := SI.out.bx.cell 2; have g8 := SI.out.bx.lt
        simp only [List.getElem?_toArray, List.getElem?_cons_zero, List.getElem?_cons_succ] at c5 c6 c7
        by_cases hlt : k < n.seps.length
        · obtain ⟨x, hx⟩ : ∃ x, (n.app t).seps[k]? = some x := ⟨_, List.getElem?_eq_getElem (by omega)⟩
          have hx2 := over_get (xB mark) hx
          obtain ⟨g, rfl, gl, d1, d2⟩ := SI.out.textAt hx2
          have HX := Lib.hid hx2
          clear hx hx2
          go_wp2_with fail
          go_roundw
          case rel =>
            have h := (SI.out.text HX.out (xB mark)).next ((Kp.refl [] _).alloc (.cells #[.int .u8 (mark.toNat : Int)] 5))
            rw [over_set _ (by omega)] at h
            exact ⟨k + 1, by go_num, by omega, by rw [str_x]; exact Lib.hid h⟩
          case measure => simp [intOf]; omega
        · have S0 : Hid (SpI w wr lo pa sa ka pc sc kc #[.slice pa n.pairs.length pc, .slice sa n.seps.length sc, .slice ka n.kids.length kc] ⟨List.replicate n.pairs.length (xB mark, []) ++ t.pairs, List.replicate n.seps.length (xB mark) ++ t.seps, over 0 ⟨mark.toNat, Dg.zero⟩ (n.app t).kids⟩) := Lib.hid (by
            have h := SI.out
            rw [show k = n.seps.length by omega] at h
            rw [over_zero, ← over_all (xB mark)]
            exact h)
          clear SI
          go_wp2_with fail
          go_loopw [6] (fun i wr => ∃ k, i = .int .i64 (k : Nat) ∧ k ≤ n.kids.length ∧ Hid (SpI w wr lo pa sa ka pc sc kc #[.slice pa n.pairs.length pc, .slice sa n.seps.length sc, .slice ka n.kids.length kc] ⟨List.replicate n.pairs.length (xB mark, []) ++ t.pairs, List.replicate n.seps.length (xB mark) ++ t.seps, over k ⟨mark.toNat, Dg.zero⟩ (n.app t).kids⟩)) (fun i _ => n.kids.length - (intOf i).toNat)
          case atStart => exact ⟨0, rfl, Nat.zero_le _, S0⟩
          case round =>
            clear S0 c5 c6 c7 g8
            obtain ⟨k, rfl, hk, SI⟩ := hrel
            have c5 := SI.out.bx.cell 0; have c6 := SI.out.bx.cell 1; have c7 := SI.out.bx.cell 2; have g8 := SI.out.bx.lt
            simp only [List.getElem?_toArray, List.getElem?_cons_zero, List.getElem?_cons_succ] at c5 c6 c7
            by_cases hlt : k < n.kids.length
            · have hl4 := over_len (⟨mark.toNat, Dg.zero⟩ : Kd) (show k ≤ (n.app t).kids.length by omega)
              have hkl : k < (over k (⟨mark.toNat, Dg.zero⟩ : Kd) (n.app t).kids).length := by omega
              obtain ⟨g, cur, rfl, gl, d1, d2⟩ := SI.out.kidAt hkl
              have HX := Lib.hid hkl
              clear hl4 hkl
              go_wp2_with fail
              go_roundw
              case rel =>
                have h := SI.out.kid HX.out ⟨mark.toNat, Dg.zero⟩ d1
                rw [over_set _ (by omega)] at h
                exact ⟨k + 1, by go_num, by omega, Lib.hid h⟩
              case measure => simp [intOf]; omega
            · have SF := Lib.hid (show SpI w wr lo pa sa ka pc sc kc #[.slice pa n.pairs.length pc, .slice sa n.seps.length sc, .slice ka n.kids.length kc] ⟨List.replicate n.pairs.length (xB mark, []) ++ t.pairs, List.replicate n.seps.length (xB mark) ++ t.seps, List.replicate n.kids.length ⟨mark.toNat, Dg.zero⟩ ++ t.kids⟩ from by
                have h := SI.out
                rw [show k = n.kids.length by omega] at h
                rw [← over_all (⟨mark.toNat, Dg.zero⟩ : Kd)]
                exact h)
              go_wp2_with fail
              go_end0
              exact ⟨rfl, SF.out.own, SF.out.kp⟩

end Go.Proofs.Ytemicgccgcmmbaa

/- What grown does to a node's lists. -/
namespace Go.Proofs.Ytemicgccgcmmbaa
set_option linter.unusedVariables false
set_option linter.unusedSimpArgs false
open Go Go.RowKit

def isRowA (a : Option Addr) : Prop := a = none ∨ ∃ g, a = some ⟨g, 0, none⟩
theorem Own.rowA {w : World} {e : TypeId} {size : Nat} {a : Option Addr} {n c : Nat} {xs : List Value} (h : Own w e size a n c xs) : isRowA a := by
  rcases h.block.2 with ⟨h1, _⟩ | ⟨g, cur, h1, _⟩
  · exact .inl h1
  · exact .inr ⟨g, h1⟩
theorem isRowA.same {a b : Option Addr} (ha : isRowA a) (hb : isRowA b) : a = b ∨ ∀ g ∈ ab a, g ∉ ab b := by
  rcases ha with rfl | ⟨g, rfl⟩
  · exact .inr (by simp [ab])
  · rcases hb with rfl | ⟨g', rfl⟩
    · exact .inr (by simp [ab])
    · by_cases h : g = g'
      · subst h; exact .inl rfl
      · exact .inr (by simp [ab]; exact h)

/-- A node's lists grow; the old ones read as they did. -/
structure GrI (w wr : World) (lo : Nat) (pa sa ka : Option Addr) (n : Nd) (qa ta la : Option Addr) (qc tc lc : Nat) (m : Nd) : Prop where
  kp : Kp (ab pa ++ ab sa ++ ab ka) w wr
  bx : Blk wr w.heap.size 30 #[.slice qa m.pairs.length qc, .slice ta m.seps.length tc, .slice la m.kids.length lc]
  b1 : Blk wr (w.heap.size + 1) 30 #[.slice none 0 0, .slice none 0 0, .slice none 0 0]
  own : Own3 wr lo qa ta la qc tc lc m
  n1 : ∀ g ∈ ab qa, g ∈ ab pa ∨ w.heap.size + 2 ≤ g
  n2 : ∀ g ∈ ab ta, g ∈ ab sa ∨ w.heap.size + 2 ≤ g
  n3 : ∀ g ∈ ab la, g ∈ ab ka ∨ w.heap.size + 2 ≤ g
  tl : ∀ g ∈ ab pa ++ ab sa ++ ab ka, g < w.heap.size
  d1 : ∀ g ∈ ab pa, g ∉ ab sa ∧ g ∉ ab ka
  d2 : ∀ g ∈ ab sa, g ∉ ab ka
  r1 : isRowA pa
  r2 : isRowA sa
  r3 : isRowA ka
  o1 : PsAt wr pa n.pairs
  o2 : SsAt wr sa n.seps
  o3 : KsAt wr ka n.kids
  p1 : n.pairs <+: m.pairs
  p2 : n.seps <+: m.seps
  p3 : n.kids <+: m.kids
  ll : lo ≤ w.heap.size

theorem PsAt.fore {w : World} {a : Option Addr} {l m : List Pr} (h : PsAt w a m) (p : l <+: m) : PsAt w a l := by obtain ⟨r, rfl⟩ := p; exact h.pre
theorem SsAt.fore {w : World} {a : Option Addr} {l m : List Bs} (h : SsAt w a m) (p : l <+: m) : SsAt w a l := by obtain ⟨r, rfl⟩ := p; exact h.pre
theorem KsAt.fore {w : World} {a : Option Addr} {l m : List Kd} (h : KsAt w a m) (p : l <+: m) : KsAt w a l := by obtain ⟨r, rfl⟩ := p; exact h.pre
theorem Own.ss' {w : World} {a : Option Addr} {c : Nat} {l : List Bs} (h : Own w 9 1 a l.length c (l.flatMap csS)) : SsAt w a l := Own.ss (by rw [← csS_map]; exact h)

theorem GrI.lo2 {w wr : World} {lo : Nat} {pa sa ka : Option Addr} {n : Nd} {qa ta la : Option Addr} {qc tc lc : Nat} {m : Nd} (h : GrI w wr lo pa sa ka n qa ta la qc tc lc m) : w.heap.size + 2 ≤ wr.heap.size := by have := h.b1.lt; omega

theorem GrI.start {w : World} {lo : Nat} {pa sa ka : Option Addr} {pc sc kc : Nat} {n : Nd} (h : Own3 w lo pa sa ka pc sc kc n) (hl : lo ≤ w.heap.size) :
    GrI w ((w.alloc (.cells #[.slice pa n.pairs.length pc, .slice sa n.seps.length sc, .slice ka n.kids.length kc] 30)).alloc (.cells #[.slice none 0 0, .slice none 0 0, .slice none 0 0] 30)) lo pa sa ka n pa sa ka pc sc kc n := by
  have k : Kp [] w ((w.alloc (.cells #[.slice pa n.pairs.length pc, .slice sa n.seps.length sc, .slice ka n.kids.length kc] 30)).alloc (.cells #[.slice none 0 0, .slice none 0 0, .slice none 0 0] 30)) := ((Kp.refl [] w).alloc _).alloc _
  have o := h.kp k (by simp)
  refine ⟨k.of_nil, (Blk.new w _ _).alloc _, ?_, o, fun g hg => .inl hg, fun g hg => .inl hg, fun g hg => .inl hg, ?_, h.d1, h.d2, h.ps.rowA, h.ss.rowA, h.ks.rowA, o.at.ps, o.at.ss, o.at.ks, List.prefix_rfl, List.prefix_rfl, List.prefix_rfl, hl⟩
  · have hb := Blk.new (w.alloc (.cells #[.slice pa n.pairs.length pc, .slice sa n.seps.length sc, .slice ka n.kids.length kc] 30)) 30 #[.slice none 0 0, .slice none 0 0, .slice none 0 0]
    simpa using hb
  · intro g hg
    simp only [List.mem_append] at hg
    rcases hg with (hg | hg) | hg
    · exact h.ps.lt g hg
    · exact h.ss.lt g hg
    · exact h.ks.lt g hg

theorem GrI.pairs {w wr : World} {lo : Nat} {pa sa ka : Option Addr} {n : Nd} {qa ta la : Option Addr} {qc tc lc : Nat} {m : Nd} (h : GrI w wr lo pa sa ka n qa ta la qc tc lc m) {X w2 : World} (kX : Kp [] wr X) (k : Kp (ab qa) X w2) {a' : Option Addr} {c' : Nat} {x : Pr}
    (ow : Own w2 48 2 a' (m.pairs.length + 1) c' (m.pairs.flatMap csP ++ csP x)) (hn : ∀ g ∈ ab a', g ∈ ab qa ∨ X.heap.size ≤ g) (old : Own w2 48 2 qa m.pairs.length qc (m.pairs.flatMap csP)) :
    GrI w (w2.setCell ⟨w.heap.size, 0, none⟩ (.slice a' (m.pairs.length + 1) c')) lo pa sa ka n a' ta la c' tc lc ⟨m.pairs ++ [x], m.seps, m.kids⟩ := by
  have hz := kX.size
  have hlo := h.lo2
  have hB : ∀ g, g = w.heap.size ∨ g = w.heap.size + 1 → g ∉ ab qa := fun g hg e => by
    have ht := h.tl g
    rcases h.n1 g e with h1 | h1
    · have := ht (by simp [h1]); omega
    · omega
  have hbx := (h.bx.kp kX (by simp)).kp k (hB _ (.inl rfl))
  have kv : Kp [w.heap.size] w2 (w2.setCell ⟨w.heap.size, 0, none⟩ (.slice a' (m.pairs.length + 1) c')) := (Kp.refl [w.heap.size] w2).setCell _ (.inr (by simp))
  have hlow : ∀ g ∈ ab a', lo ≤ g := fun g hg => by
    rcases hn g hg with h1 | h1
    · exact h.own.lo g (by simp [h1])
    · have := h.ll; omega
  have hne : ∀ g ∈ ab a', g ≠ w.heap.size := fun g hg => by
    rcases hn g hg with h1 | h1
    · exact fun e => hB g (.inl e) h1
    · omega
  have hT : ∀ g ∈ ab pa ++ ab sa ++ ab ka, g ∉ [w.heap.size] := fun g hg => by have := h.tl g hg; simp; omega
  have c1 : ∀ g ∈ ab ta, g ∉ ab qa := fun g hg e => (h.own.d1 g e).1 hg
  have e1 : ∀ g ∈ ab sa, g ∉ ab qa := fun g hg e => by
      rcases h.n1 g e with h1 | h1
      · exact (h.d1 g h1).1 hg
      · have := h.tl g (by simp [hg]); omega
  have ww1 : Own w2 9 1 ta m.seps.length tc (m.seps.flatMap csS) := (h.own.ss.kp kX (by simp)).kp k c1
  have f1 : ∀ g ∈ ab ta, g ∉ ab a' := fun g hg e => by
    rcases hn g e with h1 | h1
    · exact c1 g hg h1
    · have := (h.own.ss.kp kX (by simp)).lt g hg; omega
  have c2 : ∀ g ∈ ab la, g ∉ ab qa := fun g hg e => (h.own.d1 g e).2 hg
  have e2 : ∀ g ∈ ab ka, g ∉ ab qa := fun g hg e => by
      rcases h.n1 g e with h1 | h1
      · exact (h.d1 g h1).2 hg
      · have := h.tl g (by simp [hg]); omega
  have ww2 : Own w2 42 33 la m.kids.length lc (m.kids.flatMap csK) := (h.own.ks.kp kX (by simp)).kp k c2
  have f2 : ∀ g ∈ ab la, g ∉ ab a' := fun g hg e => by
    rcases hn g e with h1 | h1
    · exact c2 g hg h1
    · have := (h.own.ks.kp kX (by simp)).lt g hg; omega
  have u : PsAt w2 pa n.pairs := by
    rcases h.r1.same old.rowA with e | e
    · rw [e]; exact (Own.ps old).fore h.p1
    · exact (h.o1.kp kX (by simp)).kp k e
  refine ⟨?_, ?_, ((h.b1.kp kX (by simp)).kp k (hB _ (.inr rfl))).kp kv (by simp), ?_, (fun g hg => by
    rcases hn g hg with h1 | h1
    · exact h.n1 g h1
    · exact .inr (by omega)), h.n2, h.n3, h.tl, h.d1, h.d2, h.r1, h.r2, h.r3, u.kp kv (fun g hg => hT g (by simp [hg])), ((h.o2.kp kX (by simp)).kp k e1).kp kv (fun g hg => hT g (by simp [hg])), ((h.o3.kp kX (by simp)).kp k e2).kp kv (fun g hg => hT g (by simp [hg])), h.p1.trans (List.prefix_append _ _), h.p2, h.p3, h.ll⟩
  · refine ((h.kp.trans kX.of_nil).from k (fun g hg => ?_)).from kv (fun g hg => ?_)
    · rcases h.n1 g hg with h1 | h1
      · exact .inr (by simp [h1])
      · exact .inl (by omega)
    · simp at hg; exact .inl (by omega)
  · have := hbx.set 0 (.slice a' (m.pairs.length + 1) c'); simpa using this
  · refine Own3.kp (S := [w.heap.size]) ⟨?_, ww1, ww2, ?_, fun g hg => ⟨fun e => f1 g e hg, fun e => f2 g e hg⟩, h.own.d2⟩ kv ?_
    · simpa [List.flatMap_append] using ow
    · intro g hg
      simp only [List.mem_append] at hg
      rcases hg with (hg | hg) | hg
      · exact hlow g hg
      · exact h.own.lo g (by simp [hg])
      · exact h.own.lo g (by simp [hg])
    · intro g hg
      simp only [List.mem_append] at hg
      rcases hg with (hg | hg) | hg
      · simp; exact hne g hg
      · simp; exact fun e => by
          have ht := h.tl g
          rcases h.n2 g hg with h1 | h1
          · have := ht (by simp [h1]); omega
          · omega
      · simp; exact fun e => by
          have ht := h.tl g
          rcases h.n3 g hg with h1 | h1
          · have := ht (by simp [h1]); omega
          · omega


theorem GrI.texts {w wr : World} {lo : Nat} {pa sa ka : Option Addr} {n : Nd} {qa ta la : Option Addr} {qc tc lc : Nat} {m : Nd} (h : GrI w wr lo pa sa ka n qa ta la qc tc lc m) {X w2 : World} (kX : Kp [] wr X) (k : Kp (ab ta) X w2) {a' : Option Addr} {c' : Nat} {x : Bs}
    (ow : Own w2 9 1 a' (m.seps.length + 1) c' (m.seps.flatMap csS ++ csS x)) (hn : ∀ g ∈ ab a', g ∈ ab ta ∨ X.heap.size ≤ g) (old : Own w2 9 1 ta m.seps.length tc (m.seps.flatMap csS)) :
    GrI w (w2.setCell ⟨w.heap.size, 1, none⟩ (.slice a' (m.seps.length + 1) c')) lo pa sa ka n qa a' la qc c' lc ⟨m.pairs, m.seps ++ [x], m.kids⟩ := by
  have hz := kX.size
  have hlo := h.lo2
  have hB : ∀ g, g = w.heap.size ∨ g = w.heap.size + 1 → g ∉ ab ta := fun g hg e => by
    have ht := h.tl g
    rcases h.n2 g e with h1 | h1
    · have := ht (by simp [h1]); omega
    · omega
  have hbx := (h.bx.kp kX (by simp)).kp k (hB _ (.inl rfl))
  have kv : Kp [w.heap.size] w2 (w2.setCell ⟨w.heap.size, 1, none⟩ (.slice a' (m.seps.length + 1) c')) := (Kp.refl [w.heap.size] w2).setCell _ (.inr (by simp))
  have hlow : ∀ g ∈ ab a', lo ≤ g := fun g hg => by
    rcases hn g hg with h1 | h1
    · exact h.own.lo g (by simp [h1])
    · have := h.ll; omega
  have hne : ∀ g ∈ ab a', g ≠ w.heap.size := fun g hg => by
    rcases hn g hg with h1 | h1
    · exact fun e => hB g (.inl e) h1
    · omega
  have hT : ∀ g ∈ ab pa ++ ab sa ++ ab ka, g ∉ [w.heap.size] := fun g hg => by have := h.tl g hg; simp; omega
  have c0 : ∀ g ∈ ab qa, g ∉ ab ta := fun g hg e => (h.own.d1 g hg).1 e
  have e0 : ∀ g ∈ ab pa, g ∉ ab ta := fun g hg e => by
      rcases h.n2 g e with h1 | h1
      · exact (h.d1 g hg).1 h1
      · have := h.tl g (by simp [hg]); omega
  have ww0 : Own w2 48 2 qa m.pairs.length qc (m.pairs.flatMap csP) := (h.own.ps.kp kX (by simp)).kp k c0
  have f0 : ∀ g ∈ ab qa, g ∉ ab a' := fun g hg e => by
    rcases hn g e with h1 | h1
    · exact c0 g hg h1
    · have := (h.own.ps.kp kX (by simp)).lt g hg; omega
  have c2 : ∀ g ∈ ab la, g ∉ ab ta := fun g hg e => h.own.d2 g e hg
  have e2 : ∀ g ∈ ab ka, g ∉ ab ta := fun g hg e => by
      rcases h.n2 g e with h1 | h1
      · exact h.d2 g h1 hg
      · have := h.tl g (by simp [hg]); omega
  have ww2 : Own w2 42 33 la m.kids.length lc (m.kids.flatMap csK) := (h.own.ks.kp kX (by simp)).kp k c2
  have f2 : ∀ g ∈ ab la, g ∉ ab a' := fun g hg e => by
    rcases hn g e with h1 | h1
    · exact c2 g hg h1
    · have := (h.own.ks.kp kX (by simp)).lt g hg; omega
  have u : SsAt w2 sa n.seps := by
    rcases h.r2.same old.rowA with e | e
    · rw [e]; exact (Own.ss' old).fore h.p2
    · exact (h.o2.kp kX (by simp)).kp k e
  refine ⟨?_, ?_, ((h.b1.kp kX (by simp)).kp k (hB _ (.inr rfl))).kp kv (by simp), ?_, h.n1, (fun g hg => by
    rcases hn g hg with h1 | h1
    · exact h.n2 g h1
    · exact .inr (by omega)), h.n3, h.tl, h.d1, h.d2, h.r1, h.r2, h.r3, ((h.o1.kp kX (by simp)).kp k e0).kp kv (fun g hg => hT g (by simp [hg])), u.kp kv (fun g hg => hT g (by simp [hg])), ((h.o3.kp kX (by simp)).kp k e2).kp kv (fun g hg => hT g (by simp [hg])), h.p1, h.p2.trans (List.prefix_append _ _), h.p3, h.ll⟩
  · refine ((h.kp.trans kX.of_nil).from k (fun g hg => ?_)).from kv (fun g hg => ?_)
    · rcases h.n2 g hg with h1 | h1
      · exact .inr (by simp [h1])
      · exact .inl (by omega)
    · simp at hg; exact .inl (by omega)
  · have := hbx.set 1 (.slice a' (m.seps.length + 1) c'); simpa using this
  · refine Own3.kp (S := [w.heap.size]) ⟨ww0, ?_, ww2, ?_, fun g hg => ⟨f0 g hg, (h.own.d1 g hg).2⟩, fun g hg e => f2 g e hg⟩ kv ?_
    · simpa [List.flatMap_append] using ow
    · intro g hg
      simp only [List.mem_append] at hg
      rcases hg with (hg | hg) | hg
      · exact h.own.lo g (by simp [hg])
      · exact hlow g hg
      · exact h.own.lo g (by simp [hg])
    · intro g hg
      simp only [List.mem_append] at hg
      rcases hg with (hg | hg) | hg
      · simp; exact fun e => by
          have ht := h.tl g
          rcases h.n1 g hg with h1 | h1
          · have := ht (by simp [h1]); omega
          · omega
      · simp; exact hne g hg
      · simp; exact fun e => by
          have ht := h.tl g
          rcases h.n3 g hg with h1 | h1
          · have := ht (by simp [h1]); omega
          · omega


theorem GrI.kids {w wr : World} {lo : Nat} {pa sa ka : Option Addr} {n : Nd} {qa ta la : Option Addr} {qc tc lc : Nat} {m : Nd} (h : GrI w wr lo pa sa ka n qa ta la qc tc lc m) {X w2 : World} (kX : Kp [] wr X) (k : Kp (ab la) X w2) {a' : Option Addr} {c' : Nat} {x : Kd}
    (ow : Own w2 42 33 a' (m.kids.length + 1) c' (m.kids.flatMap csK ++ csK x)) (hn : ∀ g ∈ ab a', g ∈ ab la ∨ X.heap.size ≤ g) (old : Own w2 42 33 la m.kids.length lc (m.kids.flatMap csK)) :
    GrI w (w2.setCell ⟨w.heap.size, 2, none⟩ (.slice a' (m.kids.length + 1) c')) lo pa sa ka n qa ta a' qc tc c' ⟨m.pairs, m.seps, m.kids ++ [x]⟩ := by
  have hz := kX.size
  have hlo := h.lo2
  have hB : ∀ g, g = w.heap.size ∨ g = w.heap.size + 1 → g ∉ ab la := fun g hg e => by
    have ht := h.tl g
    rcases h.n3 g e with h1 | h1
    · have := ht (by simp [h1]); omega
    · omega
  have hbx := (h.bx.kp kX (by simp)).kp k (hB _ (.inl rfl))
  have kv : Kp [w.heap.size] w2 (w2.setCell ⟨w.heap.size, 2, none⟩ (.slice a' (m.kids.length + 1) c')) := (Kp.refl [w.heap.size] w2).setCell _ (.inr (by simp))
  have hlow : ∀ g ∈ ab a', lo ≤ g := fun g hg => by
    rcases hn g hg with h1 | h1
    · exact h.own.lo g (by simp [h1])
    · have := h.ll; omega
  have hne : ∀ g ∈ ab a', g ≠ w.heap.size := fun g hg => by
    rcases hn g hg with h1 | h1
    · exact fun e => hB g (.inl e) h1
    · omega
  have hT : ∀ g ∈ ab pa ++ ab sa ++ ab ka, g ∉ [w.heap.size] := fun g hg => by have := h.tl g hg; simp; omega
  have c0 : ∀ g ∈ ab qa, g ∉ ab la := fun g hg e => (h.own.d1 g hg).2 e
  have e0 : ∀ g ∈ ab pa, g ∉ ab la := fun g hg e => by
      rcases h.n3 g e with h1 | h1
      · exact (h.d1 g hg).2 h1
      · have := h.tl g (by simp [hg]); omega
  have ww0 : Own w2 48 2 qa m.pairs.length qc (m.pairs.flatMap csP) := (h.own.ps.kp kX (by simp)).kp k c0
  have f0 : ∀ g ∈ ab qa, g ∉ ab a' := fun g hg e => by
    rcases hn g e with h1 | h1
    · exact c0 g hg h1
    · have := (h.own.ps.kp kX (by simp)).lt g hg; omega
  have c1 : ∀ g ∈ ab ta, g ∉ ab la := fun g hg e => h.own.d2 g hg e
  have e1 : ∀ g ∈ ab sa, g ∉ ab la := fun g hg e => by
      rcases h.n3 g e with h1 | h1
      · exact h.d2 g hg h1
      · have := h.tl g (by simp [hg]); omega
  have ww1 : Own w2 9 1 ta m.seps.length tc (m.seps.flatMap csS) := (h.own.ss.kp kX (by simp)).kp k c1
  have f1 : ∀ g ∈ ab ta, g ∉ ab a' := fun g hg e => by
    rcases hn g e with h1 | h1
    · exact c1 g hg h1
    · have := (h.own.ss.kp kX (by simp)).lt g hg; omega
  have u : KsAt w2 ka n.kids := by
    rcases h.r3.same old.rowA with e | e
    · rw [e]; exact (Own.ks old).fore h.p3
    · exact (h.o3.kp kX (by simp)).kp k e
  refine ⟨?_, ?_, ((h.b1.kp kX (by simp)).kp k (hB _ (.inr rfl))).kp kv (by simp), ?_, h.n1, h.n2, (fun g hg => by
    rcases hn g hg with h1 | h1
    · exact h.n3 g h1
    · exact .inr (by omega)), h.tl, h.d1, h.d2, h.r1, h.r2, h.r3, ((h.o1.kp kX (by simp)).kp k e0).kp kv (fun g hg => hT g (by simp [hg])), ((h.o2.kp kX (by simp)).kp k e1).kp kv (fun g hg => hT g (by simp [hg])), u.kp kv (fun g hg => hT g (by simp [hg])), h.p1, h.p2, h.p3.trans (List.prefix_append _ _), h.ll⟩
  · refine ((h.kp.trans kX.of_nil).from k (fun g hg => ?_)).from kv (fun g hg => ?_)
    · rcases h.n3 g hg with h1 | h1
      · exact .inr (by simp [h1])
      · exact .inl (by omega)
    · simp at hg; exact .inl (by omega)
  · have := hbx.set 2 (.slice a' (m.kids.length + 1) c'); simpa using this
  · refine Own3.kp (S := [w.heap.size]) ⟨ww0, ww1, ?_, ?_, fun g hg => ⟨(h.own.d1 g hg).1, f0 g hg⟩, f1⟩ kv ?_
    · simpa [List.flatMap_append] using ow
    · intro g hg
      simp only [List.mem_append] at hg
      rcases hg with (hg | hg) | hg
      · exact h.own.lo g (by simp [hg])
      · exact h.own.lo g (by simp [hg])
      · exact hlow g hg
    · intro g hg
      simp only [List.mem_append] at hg
      rcases hg with (hg | hg) | hg
      · simp; exact fun e => by
          have ht := h.tl g
          rcases h.n1 g hg with h1 | h1
          · have := ht (by simp [h1]); omega
          · omega
      · simp; exact fun e => by
          have ht := h.tl g
          rcases h.n2 g hg with h1 | h1
          · have := ht (by simp [h1]); omega
          · omega
      · simp; exact hne g hg


end Go.Proofs.Ytemicgccgcmmbaa

/- grown: the walk. -/
namespace Go.Proofs.Ytemicgccgcmmbaa
set_option linter.unusedVariables false
set_option linter.unusedSimpArgs false
open Go Go.RowKit

@[go_sem] theorem str_y (mark : UInt8) : (⟨#[121]⟩ : ByteArray) ++ ⟨#[mark]⟩ = ⟨(yB mark).toArray⟩ := by
  apply ByteArray.ext
  simp [yB, ByteArray.data_append]

def Nd.ys (mark : UInt8) (k : Nat) : Nd := ⟨List.replicate k (yB mark, []), List.replicate k (yB mark), List.replicate k ⟨mark.toNat + 100, Dg.zero⟩⟩

theorem GrI.mid {w wr : World} {lo : Nat} {pa sa ka : Option Addr} {n : Nd} {qa ta la : Option Addr} {qc tc lc : Nat} {m : Nd} (h : GrI w wr lo pa sa ka n qa ta la qc tc lc m) {X w2 : World} (kX : Kp [] wr X) {S : List Nat} (k : Kp S X w2) (hS : ∀ g ∈ S, g ∈ ab qa ++ ab ta ++ ab la) :
    Blk w2 w.heap.size 30 #[.slice qa m.pairs.length qc, .slice ta m.seps.length tc, .slice la m.kids.length lc] := by
  refine (h.bx.kp kX (by simp)).kp k (fun e => ?_)
  have ht := h.tl w.heap.size
  have := hS _ e
  simp only [List.mem_append] at this ht
  rcases this with (h1 | h1) | h1
  · rcases h.n1 _ h1 with h2 | h2
    · have := ht (.inl (.inl h2)); omega
    · omega
  · rcases h.n2 _ h1 with h2 | h2
    · have := ht (.inl (.inr h2)); omega
    · omega
  · rcases h.n3 _ h1 with h2 | h2
    · have := ht (.inr h2); omega
    · omega

def GrownPost (mark : UInt8) (n : Nd) (lo : Nat) (pa sa ka : Option Addr) (w : World) (e : Ending) (w' : World) : Prop :=
  ∃ qa ta la qc tc lc, e = .returned (.agg #[.slice qa (n.pairs.length + 40) qc, .slice ta (n.seps.length + 40) tc, .slice la (n.kids.length + 40) lc]) ∧ Own3 w' lo qa ta la qc tc lc (n.app (Nd.ys mark 40)) ∧ NdAt w' pa sa ka n ∧ Kp (ab pa ++ ab sa ++ ab ka) w w' ∧
    (∀ g ∈ ab qa, g ∈ ab pa ∨ w.heap.size ≤ g) ∧ (∀ g ∈ ab ta, g ∈ ab sa ∨ w.heap.size ≤ g) ∧ (∀ g ∈ ab la, g ∈ ab ka ∨ w.heap.size ≤ g)

theorem ys_step (mark : UInt8) (n : Nd) (k : Nat) : (⟨(n.app (Nd.ys mark k)).pairs ++ [(yB mark, [])], (n.app (Nd.ys mark k)).seps ++ [yB mark], (n.app (Nd.ys mark k)).kids ++ [⟨mark.toNat + 100, Dg.zero⟩]⟩ : Nd) = n.app (Nd.ys mark (k + 1)) := by
  simp [Nd.app, Nd.ys, List.replicate_succ']

set_option maxHeartbeats 4000000 in
set_option maxRecDepth 100000 in
theorem grown_any (mark : UInt8) (lo : Nat) (pa sa ka : Option Addr) (pc sc kc : Nat) (n : Nd) (w : World) (h : Own3 w lo pa sa ka pc sc kc n) (hl : lo ≤ w.heap.size) (hf : NdFew n) :
    Calls Try.prog 50 #[.agg #[.slice pa n.pairs.length pc, .slice sa n.seps.length sc, .slice ka n.kids.length kc], .int .u32 (mark.toNat : Int)] w (GrownPost mark n lo pa sa ka w) := by
  have G0 := Lib.hid (GrI.start h hl)
  have fp := hf.np; have fs := hf.ns; have fk := hf.nk
  have hm : mark.toNat < 256 := mark.toNat_lt
  obtain ⟨mk, hmk, hmk2⟩ : ∃ mk : Nat, (mark.toNat : Int) + 100 = (mk : Int) ∧ Hid (mk = mark.toNat + 100) := ⟨mark.toNat + 100, by simp, rfl⟩
  clear h hl hf
  go_enter Try.func50, Try.ntmps50
  go_wp2_with fail
  go_loopw [5] (fun i wr => ∃ k qa ta la qc tc lc m, i = .int .i64 (k : Nat) ∧ k ≤ 40 ∧ Hid (GrI w wr lo pa sa ka n qa ta la qc tc lc m) ∧ Hid (m = n.app (Nd.ys mark k))) (fun i _ => 40 - (intOf i).toNat)
  case atStart => exact ⟨0, pa, sa, ka, pc, sc, kc, n, rfl, by omega, G0, by show _ = _; simp [Nd.app, Nd.ys]⟩
  case round =>
    clear G0
    obtain ⟨k, qa, ta, la, qc, tc, lc, m, rfl, hk, G, HM⟩ := hrel
    obtain ⟨c5, c6, c7, c8, c9, c10, g8⟩ := LtI.facts G.out.bx
    have m1 : m.pairs.length ≤ 1048616 := by rw [HM.out]; simp [Nd.app, Nd.ys]; omega
    have m2 : m.seps.length ≤ 1048616 := by rw [HM.out]; simp [Nd.app, Nd.ys]; omega
    have m3 : m.kids.length ≤ 1048616 := by rw [HM.out]; simp [Nd.app, Nd.ys]; omega
    by_cases hlt : k < 40
    · have hlt' : (k : Int) < 40 := by omega
      go_wp2_with (first
        | (at_builtin; refine wpList_app2_pair (s := .tmp 11) (x := .tmp 18) rfl rfl rfl (G.out.own.ps.kp (((Kp.refl [] _).alloc _).alloc _) (by simp)) 1 _ (src_row Try.underlying26 _ _ _ _ (by simp) rfl (by simp [Value.oneCell'])) (by omega) ?_; intro pb2 pd2 w2 o2 k2 n2 old2; have G2 := Lib.hid (G.out.pairs (x := (yB mark, [])) (((Kp.refl [] _).alloc _).alloc _) k2 o2 n2 old2); clear c5 c6 c7 c8 c9 c10 g8; obtain ⟨c5, c6, c7, c8, c9, c10, g8⟩ := LtI.facts (G.out.mid (((Kp.refl [] _).alloc _).alloc _) k2 (fun g hg => by simp [hg])); clear o2 k2 n2 old2)
        | (at_builtin; refine wpList_app2_str (s := .tmp 22) (x := .tmp 28) rfl rfl rfl (G2.out.own.ss.kp (((Kp.refl [] _).alloc _).alloc _) (by simp)) 1 _ (src_row Try.underlying27 _ _ _ _ (by simp) rfl (by simp [Value.oneCell'])) (by omega) ?_; intro sb2 sd2 w3 o3 k3 n3 old3; have G3 := Lib.hid (G2.out.texts (x := yB mark) (((Kp.refl [] _).alloc _).alloc _) k3 o3 n3 old3); clear c5 c6 c7 c8 c9 c10 g8; obtain ⟨c5, c6, c7, c8, c9, c10, g8⟩ := LtI.facts (G2.out.mid (((Kp.refl [] _).alloc _).alloc _) k3 (fun g hg => by simp [hg])); clear o3 k3 n3 old3)
        | (at_builtin; refine wpList_app2_kid (s := .tmp 32) (x := .tmp 36) rfl rfl rfl (G3.out.own.ks.kp ((Kp.refl [] _).alloc _) (by simp)) 1 _ (src_row Try.underlying28 _ _ _ _ (by simp) (Kd.c_size (Kd.mk mk Dg.zero)) (Kd.c_one (Kd.mk mk Dg.zero))) (by omega) ?_; intro kb2 kd2 w4 o4 k4 n4 old4; have G4 := Lib.hid (G3.out.kids (x := Kd.mk mk Dg.zero) ((Kp.refl [] _).alloc _) k4 o4 n4 old4); clear c5 c6 c7 c8 c9 c10 g8; obtain ⟨c5, c6, c7, c8, c9, c10, g8⟩ := LtI.facts (G3.out.mid ((Kp.refl [] _).alloc _) k4 (fun g hg => by simp [hg])); clear o4 k4 n4 old4))
      go_roundw
      case rel => exact ⟨k + 1, pb2, sb2, kb2, pd2, sd2, kd2, _, by go_num, by omega, G4, by show _ = _; rw [← ys_step, ← HM.out, ← hmk2.out]⟩
      case measure => simp [intOf]; omega
    · have hlt' : ¬ (k : Int) < 40 := by omega
      obtain ⟨y0, y1, y2, y3, y4, y5, y6⟩ := LtI.facts G.out.b1
      go_wp2_with fail
      have hk40 : k = 40 := by omega
      subst hk40
      have kG : Kp [w.heap.size + 1] wr (((wr.setCell ⟨w.heap.size + 1, 0, none⟩ (.slice qa m.pairs.length qc)).setCell ⟨w.heap.size + 1, 1, none⟩ (.slice ta m.seps.length tc)).setCell ⟨w.heap.size + 1, 2, none⟩ (.slice la m.kids.length lc)) := (((Kp.refl [w.heap.size + 1] wr).setCell _ (.inr (by simp))).setCell _ (.inr (by simp))).setCell _ (.inr (by simp))
      have hb : Blk (((wr.setCell ⟨w.heap.size + 1, 0, none⟩ (.slice qa m.pairs.length qc)).setCell ⟨w.heap.size + 1, 1, none⟩ (.slice ta m.seps.length tc)).setCell ⟨w.heap.size + 1, 2, none⟩ (.slice la m.kids.length lc)) (w.heap.size + 1) 30 #[.slice qa m.pairs.length qc, .slice ta m.seps.length tc, .slice la m.kids.length lc] := by
        have h := ((G.out.b1.set 0 (.slice qa m.pairs.length qc)).set 1 (.slice ta m.seps.length tc)).set 2 (.slice la m.kids.length lc)
        simpa using h
      have e1 : m.pairs.length = n.pairs.length + 40 := by rw [HM.out]; simp [Nd.app, Nd.ys]
      have e2 : m.seps.length = n.seps.length + 40 := by rw [HM.out]; simp [Nd.app, Nd.ys]
      have e3 : m.kids.length = n.kids.length + 40 := by rw [HM.out]; simp [Nd.app, Nd.ys]
      have hne : ∀ g ∈ ab qa ++ ab ta ++ ab la, g ∉ [w.heap.size + 1] := fun g hg e => by
        have ht := G.out.tl g
        simp only [List.mem_append, List.mem_singleton] at hg e ht
        subst e
        rcases hg with (h1 | h1) | h1
        · rcases G.out.n1 _ h1 with h2 | h2
          · have := ht (.inl (.inl h2)); omega
          · omega
        · rcases G.out.n2 _ h1 with h2 | h2
          · have := ht (.inl (.inr h2)); omega
          · omega
        · rcases G.out.n3 _ h1 with h2 | h2
          · have := ht (.inr h2); omega
          · omega
      have ho0 := G.out.own
      have hmm : m = n.app (Nd.ys mark 40) := HM.out
      have ho := (show Own3 wr lo qa ta la qc tc lc (n.app (Nd.ys mark 40)) from hmm ▸ ho0).kp kG hne
      have hT : ∀ g ∈ ab pa ++ ab sa ++ ab ka, g ∉ [w.heap.size + 1] := fun g hg => by have := G.out.tl g hg; simp; omega
      refine nd_ret1 (w.heap.size + 1) rfl rfl hb rfl ⟨qa, ta, la, qc, tc, lc, by rw [e1, e2, e3], ho, ⟨G.out.o1.kp kG (fun g hg => hT g (by simp [hg])), G.out.o2.kp kG (fun g hg => hT g (by simp [hg])), G.out.o3.kp kG (fun g hg => hT g (by simp [hg]))⟩, G.out.kp.from kG (fun g hg => by simp at hg; subst hg; exact .inl (by omega)), ?_, ?_, ?_⟩
      · intro g hg
        rcases G.out.n1 g hg with h1 | h1
        · exact .inl h1
        · exact .inr (by omega)
      · intro g hg
        rcases G.out.n2 g hg with h1 | h1
        · exact .inl h1
        · exact .inr (by omega)
      · intro g hg
        rcases G.out.n3 g hg with h1 | h1
        · exact .inl h1
        · exact .inr (by omega)

end Go.Proofs.Ytemicgccgcmmbaa
