/- A node's form, as a text. -/
import Derived.Test.YtemicgccgcmmbaaForm3
namespace Go.Proofs.Ytemicgccgcmmbaa
set_option linter.unusedVariables false
set_option linter.unusedSimpArgs false
open Go Go.RowKit

def formB (pages : Bool) (wd : Nat) (n : Nd) : Bs :=
  if leafB n = true then 1 :: (freeB n.pairs.length ++ pairsB n.pairs) else 2 :: (freeB n.kids.length ++ kidsB pages wd n n.kids.length)

/-- The writer's doings leave alone what was there before it was made. -/
theorem WK.old {w0 w w' : World} {wb : Nat} {a a' : Option Addr} (k0 : Kp [] w0 w) (k : WK wb a w a' w') (h1 : w0.heap.size ≤ wb) (h2 : ∀ g ∈ ab a, w0.heap.size ≤ g) : Kp [] w0 w' :=
  k0.from k.kp (fun x hx => by
    rcases List.mem_cons.1 hx with rfl | hx
    · exact .inl h1
    · exact .inl (h2 x hx))
theorem WK.newer {w0 w w' : World} {wb : Nat} {a a' : Option Addr} (k0 : Kp [] w0 w) (k : WK wb a w a' w') (h2 : ∀ g ∈ ab a, w0.heap.size ≤ g) : ∀ g ∈ ab a', w0.heap.size ≤ g := fun g hg => by
  rcases k.new g hg with h | h
  · exact h2 g h
  · exact Nat.le_trans k0.size h
theorem WKc.old {w0 w w' : World} {cb wb : Nat} {a a' : Option Addr} (k0 : Kp [] w0 w) (k : WKc cb wb a w a' w') (h0 : w0.heap.size ≤ cb) (h1 : w0.heap.size ≤ wb) (h2 : ∀ g ∈ ab a, w0.heap.size ≤ g) : Kp [] w0 w' :=
  k0.from k.kp (fun x hx => by
    rcases List.mem_cons.1 hx with rfl | hx
    · exact .inl h0
    rcases List.mem_cons.1 hx with rfl | hx
    · exact .inl h1
    · exact .inl (h2 x hx))

theorem PsAt.kp0 {w w' : World} {a : Option Addr} {ps : List Pr} (h : PsAt w a ps) (k : Kp [] w w') : PsAt w' a ps := h.kp k (by simp)
theorem SsAt.kp0 {w w' : World} {a : Option Addr} {ps : List Bs} (h : SsAt w a ps) (k : Kp [] w w') : SsAt w' a ps := h.kp k (by simp)
theorem KsAt.kp0 {w w' : World} {a : Option Addr} {ps : List Kd} (h : KsAt w a ps) (k : Kp [] w w') : KsAt w' a ps := h.kp k (by simp)

def StrRets (s : Bs) (w : World) (e : Ending) (w' : World) : Prop := e = .returned (.string ⟨s.toArray⟩) ∧ Kp [] w w'

set_option maxHeartbeats 1000000 in set_option maxRecDepth 100000 in
theorem form_leaf (P wd : Nat) (pa sa ka : Option Addr) (pc sc kc : Nat) (pages : Bool) (n : Nd) (w : World) (hl : leafB n = true) (h : NdAt w pa sa ka n) (hnp : n.pairs.length ≤ 4398046511104) (hsz : sizeN wd n ≤ 100000) :
    Calls Try.prog 30 #[.agg #[.int .i64 P, .int .i64 wd], .agg #[.slice pa n.pairs.length pc, .slice sa n.seps.length sc, .slice ka n.kids.length kc], .bool pages] w (StrRets (formB pages wd n) w) := by
  have hl' : (decide (n.seps.length = 0 ∧ n.kids.length = 0)) = true := hl
  have hs : sizeN wd n = 1 + cntN n.pairs.length + (n.pairs.map prN).sum := by unfold sizeN; rw [if_pos hl]
  have hf : formB pages wd n = [1] ++ freeB n.pairs.length ++ pairsB n.pairs := by unfold formB; rw [if_pos hl]; simp
  have HS := Lib.hid hs; have HL := Lib.hid hl'; have HF := Lib.hid hf; clear hs hl hl' hf
  have hpa := h.ps.lts
  have H := Lib.hid h; have HPA := Lib.hid hpa; clear h hpa
  go_enter Try.func30, Try.ntmps30
  go_wp2_with fail
  refine (wr_new _).mono ?_
  rintro e w1 ⟨rfl, rfl⟩
  have hW := wr_made (((w.alloc (.cells #[.int .i64 P, .int .i64 wd] 23)).alloc (.cells #[.slice pa n.pairs.length pc, .slice sa n.seps.length sc, .slice ka n.kids.length kc] 30)).alloc (.cells #[.bool pages] 4))
  simp only [World.size_alloc] at hW
  have HW := Lib.hid hW; clear hW
  go_wp2_with fail
  refine (isLeaf_any _ _ _ _ _ _ _ _ _ _).mono ?_
  rintro e w' ⟨rfl, bs1, m1, rfl⟩
  rw [HL.out]
  go_wp2_with fail
  refine (wr_put_uint8 _ 1 _ none [] _ (HW.out.kp0 ((Kp.refl [] _).ext bs1 m1)) (by omega) (by simp)).mono ?_
  rintro e w2 ⟨rfl, a2, c2, h2, k2⟩
  have k2o := k2.old (w0 := w) (((((((Kp.refl [] _).alloc _).alloc _).alloc _).alloc _).ext _ _)) (by omega) (by simp [ab])
  have k2n := k2.newer (w0 := w) (((((((Kp.refl [] _).alloc _).alloc _).alloc _).alloc _).ext _ _)) (by simp [ab])
  have hnb := k2.cell (b := w.heap.size + 1) (o := 0) (v := .slice pa n.pairs.length pc) (by simp [go_sem]) ⟨by omega, by simp [ab]⟩
  have HW2 := Lib.hid h2; have K2 := Lib.hid k2; have K2O := Lib.hid k2o; have K2N := Lib.hid k2n; clear h2 k2 k2o k2n
  go_wp2_with fail
  refine (each_pair _ c2 a2 pa pc _ n.pairs _ HW2.out (H.out.ps.kp0 K2O.out) (HPA.out.imp id (fun hh b hb => ⟨by have := hh b hb; omega, fun e => by have := hh b hb; have := K2N.out b e; omega⟩)) (by have := HS.out; simp [fixB_len]; omega) hnp).mono ?_
  rintro e w3 ⟨rfl, a3, c3, h3, k3⟩
  have HW3 := Lib.hid h3; have K3 := Lib.hid k3; clear h3 k3
  go_wp2_with fail
  refine (wr_string _ _ _ _ _ HW3.out).mono ?_
  rintro e w4 ⟨rfl, rfl⟩
  go_wp2_with fail
  go_ret
  rw [HF.out]
  exact ⟨rfl, K3.out.old K2O.out (by omega) K2N.out⟩

theorem kidB_len (pages : Bool) (wd : Nat) (n : Nd) (i : Nat) (k : Kd) (hwd : wd ≤ 32) : (kidB pages wd n i k).length ≤ (if 0 < i then txN (n.seps.getD (i - 1) []) else 0) + (4 + wd) := by
  unfold kidB
  simp only [List.length_append, List.length_take, k.sum.h]
  have h1 : (if 0 < i then textB (n.seps.getD (i - 1) []) else []).length = (if 0 < i then txN (n.seps.getD (i - 1) []) else 0) := by split <;> simp [textB_length]
  have h2 : (if pages = true then fixB 4 k.page else []).length ≤ 4 := by split <;> simp [fixB_len]
  omega
theorem kidsB_len (pages : Bool) (wd : Nat) (n : Nd) (hwd : wd ≤ 32) : ∀ k, k ≤ n.seps.length + 1 → (kidsB pages wd n k).length ≤ k * (4 + wd) + ((n.seps.take (k - 1)).map txN).sum
  | 0, _ => by simp [kidsB]
  | k + 1, h => by
    have ih := kidsB_len pages wd n hwd k (by omega)
    have h1 := kidB_len pages wd n k (n.kids.getD k Kd.zero) hwd
    have h2 : (kidsB pages wd n (k + 1)).length = (kidsB pages wd n k).length + (kidB pages wd n k (n.kids.getD k Kd.zero)).length := by simp [kidsB, List.range_succ]
    rw [h2, Nat.succ_mul, Nat.add_sub_cancel]
    by_cases hk : 0 < k
    · rw [if_pos hk] at h1
      obtain ⟨j, rfl⟩ : ∃ j, k = j + 1 := ⟨k - 1, by omega⟩
      have hj : j < n.seps.length := by omega
      have h3 := sum_take txN n.seps j n.seps[j] (List.getElem?_eq_getElem hj)
      have h4 : n.seps.getD (j + 1 - 1) [] = n.seps[j] := by simp [List.getD, hj]
      rw [h4] at h1
      rw [Nat.add_sub_cancel] at ih
      omega
    · have : k = 0 := by omega
      subst this
      rw [if_neg hk] at h1
      have h5 : (kidsB pages wd n 0).length = 0 := rfl
      rw [h5, Nat.zero_mul, List.take_zero]
      simp only [List.map_nil, List.sum_nil]
      omega

set_option maxHeartbeats 1000000 in set_option maxRecDepth 100000 in
theorem form_branch (P wd : Nat) (pa sa ka : Option Addr) (pc sc kc : Nat) (pages : Bool) (n : Nd) (w : World) (hwd : wd ≤ 32) (hl : leafB n = false) (h : NdAt w pa sa ka n) (ho : NdOk n) (hks : n.seps.length + 1 = n.kids.length) (hsz : sizeN wd n ≤ 100000) :
    Calls Try.prog 30 #[.agg #[.int .i64 P, .int .i64 wd], .agg #[.slice pa n.pairs.length pc, .slice sa n.seps.length sc, .slice ka n.kids.length kc], .bool pages] w (StrRets (formB pages wd n) w) := by
  have hl' : (decide (n.seps.length = 0 ∧ n.kids.length = 0)) = false := hl
  have hs : sizeN wd n = 1 + cntN n.kids.length + n.kids.length * (4 + wd) + (n.seps.map txN).sum := by unfold sizeN; rw [if_neg (by rw [hl]; decide)]
  have hf : formB pages wd n = [2] ++ freeB n.kids.length ++ kidsB pages wd n n.kids.length := by unfold formB; rw [if_neg (by rw [hl]; decide)]; simp
  have hkl := kidsB_len pages wd n hwd n.kids.length (by omega)
  have hsm := sum_take_le txN n.seps (n.kids.length - 1)
  have hbd : 1 + cntN n.kids.length + (kidsB pages wd n n.kids.length).length ≤ 100000 := by omega
  clear hkl hsm hs
  have HBD := Lib.hid hbd; have HL := Lib.hid hl'; have HF := Lib.hid hf; have HKS := Lib.hid hks; clear hbd hl hl' hf hsz
  have hns := ho.ns
  have hsa := h.ss.lts
  have hka := h.ks.lts
  have H := Lib.hid h; have HO := Lib.hid ho; have HSA := Lib.hid hsa; have HKA := Lib.hid hka; clear h ho hsa hka hks
  go_enter Try.func30, Try.ntmps30
  go_wp2_with fail
  refine (wr_new _).mono ?_
  rintro e w1 ⟨rfl, rfl⟩
  have hW := wr_made (((w.alloc (.cells #[.int .i64 P, .int .i64 wd] 23)).alloc (.cells #[.slice pa n.pairs.length pc, .slice sa n.seps.length sc, .slice ka n.kids.length kc] 30)).alloc (.cells #[.bool pages] 4))
  simp only [World.size_alloc] at hW
  have HW := Lib.hid hW; clear hW
  go_wp2_with fail
  refine (isLeaf_any _ _ _ _ _ _ _ _ _ _).mono ?_
  rintro e w' ⟨rfl, bs1, m1, rfl⟩
  rw [HL.out]
  go_wp2_with fail
  refine (wr_put_uint8 _ 2 _ none [] _ (HW.out.kp0 ((Kp.refl [] _).ext bs1 m1)) (by omega) (by simp)).mono ?_
  rintro e w2 ⟨rfl, a2, c2, h2, k2⟩
  have k2o := k2.old (w0 := w) (((((((Kp.refl [] _).alloc _).alloc _).alloc _).alloc _).ext _ _)) (by omega) (by simp [ab])
  have k2n := k2.newer (w0 := w) (((((((Kp.refl [] _).alloc _).alloc _).alloc _).alloc _).ext _ _)) (by simp [ab])
  have F0 : ∀ b, b < w.heap.size + 1 + 1 + 1 → Foreign b (w.heap.size + 1 + 1 + 1) none := fun b hb => ⟨by omega, by simp [ab]⟩
  have hn1 := k2.cell (b := w.heap.size + 1) (o := 1) (v := .slice sa n.seps.length sc) (by simp [go_sem]) (F0 _ (by omega))
  have hn2 := k2.cell (b := w.heap.size + 1) (o := 2) (v := .slice ka n.kids.length kc) (by simp [go_sem]) (F0 _ (by omega))
  have hpb := k2.cell (b := w.heap.size + 1 + 1) (o := 0) (v := .bool pages) (by simp [go_sem]) (F0 _ (by omega))
  have hfb := k2.cell (b := w.heap.size) (o := 1) (v := .int .i64 wd) (by simp [go_sem]) (F0 _ (by omega))
  have z2 := k2.kp.size
  simp only [ext_size, World.size_alloc] at z2
  have FN : ∀ b, b < w.heap.size + 1 + 1 + 1 → Foreign b (w.heap.size + 1 + 1 + 1) a2 := fun b hb => (F0 b hb).next k2 (by simp; omega)
  have HW2 := Lib.hid h2; have K2 := Lib.hid k2; have K2O := Lib.hid k2o; have K2N := Lib.hid k2n; have HFN := Lib.hid FN; clear h2 k2 k2o k2n F0 FN
  go_wp2_with fail
  refine (each_kid _ c2 w2.heap.size (w.heap.size + 1) (w.heap.size + 1 + 1) w.heap.size P wd pa sa ka a2 pc sc kc pages _ n _ (HW2.out.kp0 ((Kp.refl [] _).alloc _)) (Blk.new w2 _ _) (Foreign.new HW2.out (Nat.le_refl _))
    (by rw [World.cell?_alloc_lt _ _ _ (by show w.heap.size + 1 < _; omega)]; exact hn1) (HFN.out _ (by omega)) (by omega)
    (by rw [World.cell?_alloc_lt _ _ _ (by show w.heap.size + 1 + 1 < _; omega)]; exact hpb) (HFN.out _ (by omega)) (by omega)
    (by rw [World.cell?_alloc_lt _ _ _ (by show w.heap.size < _; omega)]; exact hfb) (HFN.out _ (by omega)) (by omega)
    (H.out.ss.kp0 (K2O.out.alloc _)) (HSA.out.imp id (fun hh b hb => by have := hh b hb; exact ⟨HFN.out b (by omega), by omega⟩))
    (H.out.ks.kp0 (K2O.out.alloc _)) (HKA.out.imp id (fun hh b hb => by have := hh b hb; exact ⟨HFN.out b (by omega), by omega⟩))
    hns (by have := HKS.out; omega) HO.out.pg hwd (by have := HBD.out; simp [fixB_len]; omega)).mono ?_
  rintro e w3 ⟨rfl, a3, c3, h3, k3⟩
  have HW3 := Lib.hid h3; have K3 := Lib.hid k3; clear h3 k3
  go_wp2_with fail
  refine (wr_string _ _ _ _ _ HW3.out).mono ?_
  rintro e w4 ⟨rfl, rfl⟩
  go_wp2_with fail
  go_ret
  rw [HF.out]
  exact ⟨rfl, K3.out.old (K2O.out.alloc _) (by omega) (by omega) K2N.out⟩

end Go.Proofs.Ytemicgccgcmmbaa
