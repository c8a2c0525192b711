/- The document's Pack. Printed by genrpack.py. -/
import Derived.Test.YtemicgccgcmmbaaGreatZ11
import Derived.Test.YtemicgccgcmmbaaGreatZ10
import Derived.Test.YtemicgccgcmmbaaGreatZ2
import Derived.Test.YtemicgccgcmmbaaGreatZ6
namespace Go.Proofs.YtemicgccgcmmbaaGreat
set_option linter.unusedVariables false
set_option linter.unusedSimpArgs false
open Go Go.RowKit

set_option maxHeartbeats 2000000 in
set_option maxRecDepth 100000 in
theorem rpack_leaf_big (P d : Nat) (pa sa ka : Option Addr) (pc sc kc : Nat) (n : Nd) (w : World) (hc : checkE P d n = 0) (hl : leafB n = true) (hp : n.pairs.length ≠ 0) (hbig : P - 32 < sizeN d n) (h : NdAt w pa sa ka n) (ho : NdOk n) :
    Calls Tryz.prog 23 #[.agg #[.int .i64 P, .int .i64 d], .agg #[.slice pa n.pairs.length pc, .slice sa n.seps.length sc, .slice ka n.kids.length kc]] w (Rets2 (packS P d n) (packE P d n) w) := by
  have hl' : (decide (n.seps.length = 0 ∧ n.kids.length = 0)) = true := hl
  have hne : ¬ (checkE P d n = 0 ∧ leafB n = true ∧ n.pairs.length = 0) := by rintro ⟨_, _, h⟩; exact hp h
  have HNE := Lib.hid hne
  have HL := Lib.hid hl'
  clear hne hl'
  have hr := rightB_iff.1 (checkE_ok hc).1
  have hP0 : 1024 ≤ P := by omega
  have hP : P ≤ 8192 := by omega
  have hss : SizeE P d n = sizeN d n := by unfold SizeE; rw [if_pos hc]; rfl
  have hm : mayE P d n = if P - 32 < sizeN d n then 71 else 0 := by unfold mayE; rw [if_pos hc]; rfl
  have hnk := ho.nk
  have HM := Lib.hid hm; have HSZ := Lib.hid hss
  have HC := Lib.hid hc
  have H := Lib.hid h; have HO := Lib.hid ho
  clear h ho hc hr hm hss
  obtain ⟨W0, hW0⟩ : ∃ W0, W0 = (w.alloc (.cells #[.int .i64 P, .int .i64 d] 23)).alloc (.cells #[.slice pa n.pairs.length pc, .slice sa n.seps.length sc, .slice ka n.kids.length kc] 28) := ⟨_, rfl⟩
  have kw : Kp [] w W0 := by rw [hW0]; exact ((Kp.refl [] w).alloc _).alloc _
  have b0 : Blk W0 w.heap.size 23 #[.int .i64 P, .int .i64 d] := by rw [hW0]; exact (Blk.new w _ _).alloc _
  have b1 : Blk W0 (w.heap.size + 1) 28 #[.slice pa n.pairs.length pc, .slice sa n.seps.length sc, .slice ka n.kids.length kc] := by
    rw [hW0]
    have h := Blk.new (w.alloc (.cells #[.int .i64 P, .int .i64 d] 23)) 28 #[.slice pa n.pairs.length pc, .slice sa n.seps.length sc, .slice ka n.kids.length kc]
    simpa using h
  have hz0 : W0.heap.size = w.heap.size + 2 := by rw [hW0]; simp
  have SK : Hid (∀ W : World, Kp [] W0 W → (W.cell? ⟨w.heap.size, 0, none⟩ = some (.int .i64 P) ∧ W.cell? ⟨w.heap.size, 1, none⟩ = some (.int .i64 d) ∧ W.cell? ⟨w.heap.size + 1, 0, none⟩ = some (.slice pa n.pairs.length pc) ∧ W.cell? ⟨w.heap.size + 1, 1, none⟩ = some (.slice sa n.seps.length sc) ∧ W.cell? ⟨w.heap.size + 1, 2, none⟩ = some (.slice ka n.kids.length kc)) ∧ w.heap.size + 1 < W.heap.size) := Lib.hid (fun W k =>
    ⟨⟨(b0.kp k (by simp)).cell 0, (b0.kp k (by simp)).cell 1, (b1.kp k (by simp)).cell 0, (b1.kp k (by simp)).cell 1, (b1.kp k (by simp)).cell 2⟩, by have := k.size; omega⟩)
  have HK := Lib.hid (H.out.kp0 kw)
  have KW := Lib.hid kw
  have HW0 := Lib.hid hW0
  have hz1 : w.heap.size + 1 < W0.heap.size := by omega
  clear kw b0 b1 hW0 hz0
  have hp0 : ((n.pairs.length : Int) == 0) = false := by rw [beq_eq_false_iff_ne]; omega
  obtain ⟨z, hz⟩ : ∃ z, sizeN d n = z := ⟨_, rfl⟩
  obtain ⟨y, hy⟩ : ∃ y, P - 32 = y := ⟨_, rfl⟩
  have dn : y < z := by rw [← hz, ← hy]; exact hbig
  have dd : decide ((y : Int) < (z : Int)) = true := decide_eq_true (by omega)
  have RS : Hid (∀ W, Kp [] W0 W → Calls Tryz.prog 33 #[.agg #[.int .i64 P, .int .i64 d], .agg #[.slice pa n.pairs.length pc, .slice sa n.seps.length sc, .slice ka n.kids.length kc]] W (Rets (.int .i64 (z : Nat)) W)) := Lib.hid (fun W k => by have h := rsize_any P d pa sa ka pc sc kc n W (HK.out.kp0 k) HO.out; rw [HSZ.out, hz] at h; exact h)
  have RM : Hid (∀ W, Calls Tryz.prog 36 #[.agg #[.int .i64 P, .int .i64 d]] W (Rets (.int .i64 (y : Nat)) W)) := Lib.hid (fun W => by have h := rmost_any P d W hP hP0; rw [hy] at h; exact h)
  have hpe : packE P d n = 71 := by unfold packE; rw [if_neg HNE.out, HM.out, if_pos hbig]; rfl
  have hps : packS P d n = [] := by unfold packS; rw [hpe]; rfl
  rw [hpe, hps]
  clear hpe hps hz hy hbig
  go_enter Tryz.func23, Tryz.ntmps23
  go_wp2_with fail
  rw [← HW0.out]
  refine (rcheck_any P d pa sa ka pc sc kc n _ HK.out HO.out).mono ?_
  rintro e w1 ⟨rfl, hx1⟩
  have K1 : Hid (Kp [] W0 w1) := Lib.hid (by obtain ⟨bx, nx, rfl⟩ := hx1; exact (Kp.refl [] _).ext _ _)
  obtain ⟨⟨f0, f1, n0, n1, n2⟩, z0⟩ := SK.out _ K1.out
  clear hx1
  rw [HC.out]
  go_wp2_with fail
  refine (rleaf_any _ _ _ _ _ _ _ _ _ _).mono ?_
  rintro e w2 ⟨rfl, hx2⟩
  have K2 : Hid (Kp [] W0 w2) := Lib.hid (by obtain ⟨bx, nx, rfl⟩ := hx2; exact K1.out.ext _ _)
  clear hx2 f0 f1 n0 n1 n2 z0
  obtain ⟨⟨f0, f1, n0, n1, n2⟩, z0⟩ := SK.out _ K2.out
  rw [HL.out]
  go_wp2_with fail
  refine wp_region_ext (by kernel_rfl) (by kernel_rfl) ?_
  repeat (go_big_quiet_step (first | (go_at_call 33; exact Calls.quiet_ext (RS.out _ (K2.out.ext _ _))) | (go_at_call 36; exact Calls.quiet_ext (RM.out _))))
  (refine wpQuiet_nil ?_; intro _ hw'; obtain ⟨⟨bsq, nq⟩, hw''⟩ := hw'; subst hw'')
  go_wp2_with fail
  go_ret2
  exact ⟨rfl, Kp.to_ext ((KW.out.trans K2.out).ext _ _)⟩

set_option maxHeartbeats 2000000 in
set_option maxRecDepth 100000 in
theorem rpack_leaf_fit (P d : Nat) (pa sa ka : Option Addr) (pc sc kc : Nat) (n : Nd) (w : World) (hc : checkE P d n = 0) (hl : leafB n = true) (hp : n.pairs.length ≠ 0) (hbig : ¬ P - 32 < sizeN d n) (h : NdAt w pa sa ka n) (ho : NdOk n) :
    Calls Tryz.prog 23 #[.agg #[.int .i64 P, .int .i64 d], .agg #[.slice pa n.pairs.length pc, .slice sa n.seps.length sc, .slice ka n.kids.length kc]] w (Rets2 (packS P d n) (packE P d n) w) := by
  have hl' : (decide (n.seps.length = 0 ∧ n.kids.length = 0)) = true := hl
  have hne : ¬ (checkE P d n = 0 ∧ leafB n = true ∧ n.pairs.length = 0) := by rintro ⟨_, _, h⟩; exact hp h
  have HNE := Lib.hid hne
  have HL := Lib.hid hl'
  clear hne hl'
  have hr := rightB_iff.1 (checkE_ok hc).1
  have hP0 : 1024 ≤ P := by omega
  have hP : P ≤ 8192 := by omega
  have hss : SizeE P d n = sizeN d n := by unfold SizeE; rw [if_pos hc]; rfl
  have hm : mayE P d n = if P - 32 < sizeN d n then 71 else 0 := by unfold mayE; rw [if_pos hc]; rfl
  have hnk := ho.nk
  have HM := Lib.hid hm; have HSZ := Lib.hid hss
  have HC := Lib.hid hc
  have H := Lib.hid h; have HO := Lib.hid ho
  clear h ho hc hr hm hss
  obtain ⟨W0, hW0⟩ : ∃ W0, W0 = (w.alloc (.cells #[.int .i64 P, .int .i64 d] 23)).alloc (.cells #[.slice pa n.pairs.length pc, .slice sa n.seps.length sc, .slice ka n.kids.length kc] 28) := ⟨_, rfl⟩
  have kw : Kp [] w W0 := by rw [hW0]; exact ((Kp.refl [] w).alloc _).alloc _
  have b0 : Blk W0 w.heap.size 23 #[.int .i64 P, .int .i64 d] := by rw [hW0]; exact (Blk.new w _ _).alloc _
  have b1 : Blk W0 (w.heap.size + 1) 28 #[.slice pa n.pairs.length pc, .slice sa n.seps.length sc, .slice ka n.kids.length kc] := by
    rw [hW0]
    have h := Blk.new (w.alloc (.cells #[.int .i64 P, .int .i64 d] 23)) 28 #[.slice pa n.pairs.length pc, .slice sa n.seps.length sc, .slice ka n.kids.length kc]
    simpa using h
  have hz0 : W0.heap.size = w.heap.size + 2 := by rw [hW0]; simp
  have SK : Hid (∀ W : World, Kp [] W0 W → (W.cell? ⟨w.heap.size, 0, none⟩ = some (.int .i64 P) ∧ W.cell? ⟨w.heap.size, 1, none⟩ = some (.int .i64 d) ∧ W.cell? ⟨w.heap.size + 1, 0, none⟩ = some (.slice pa n.pairs.length pc) ∧ W.cell? ⟨w.heap.size + 1, 1, none⟩ = some (.slice sa n.seps.length sc) ∧ W.cell? ⟨w.heap.size + 1, 2, none⟩ = some (.slice ka n.kids.length kc)) ∧ w.heap.size + 1 < W.heap.size) := Lib.hid (fun W k =>
    ⟨⟨(b0.kp k (by simp)).cell 0, (b0.kp k (by simp)).cell 1, (b1.kp k (by simp)).cell 0, (b1.kp k (by simp)).cell 1, (b1.kp k (by simp)).cell 2⟩, by have := k.size; omega⟩)
  have HK := Lib.hid (H.out.kp0 kw)
  have KW := Lib.hid kw
  have HW0 := Lib.hid hW0
  have hz1 : w.heap.size + 1 < W0.heap.size := by omega
  clear kw b0 b1 hW0 hz0
  have hp0 : ((n.pairs.length : Int) == 0) = false := by rw [beq_eq_false_iff_ne]; omega
  obtain ⟨z, hz⟩ : ∃ z, sizeN d n = z := ⟨_, rfl⟩
  obtain ⟨y, hy⟩ : ∃ y, P - 32 = y := ⟨_, rfl⟩
  have dn : ¬ y < z := by rw [← hz, ← hy]; exact hbig
  have dd : decide ((y : Int) < (z : Int)) = false := decide_eq_false (by omega)
  have RS : Hid (∀ W, Kp [] W0 W → Calls Tryz.prog 33 #[.agg #[.int .i64 P, .int .i64 d], .agg #[.slice pa n.pairs.length pc, .slice sa n.seps.length sc, .slice ka n.kids.length kc]] W (Rets (.int .i64 (z : Nat)) W)) := Lib.hid (fun W k => by have h := rsize_any P d pa sa ka pc sc kc n W (HK.out.kp0 k) HO.out; rw [HSZ.out, hz] at h; exact h)
  have RM : Hid (∀ W, Calls Tryz.prog 36 #[.agg #[.int .i64 P, .int .i64 d]] W (Rets (.int .i64 (y : Nat)) W)) := Lib.hid (fun W => by have h := rmost_any P d W hP hP0; rw [hy] at h; exact h)
  have hpe : packE P d n = if n.kids.any badPg = true then 72 else 0 := by unfold packE; rw [if_neg HNE.out, HM.out, if_neg hbig]; rfl
  have HPE := Lib.hid hpe
  clear hpe hz hy hbig
  go_enter Tryz.func23, Tryz.ntmps23
  go_wp2_with fail
  rw [← HW0.out]
  refine (rcheck_any P d pa sa ka pc sc kc n _ HK.out HO.out).mono ?_
  rintro e w1 ⟨rfl, hx1⟩
  have K1 : Hid (Kp [] W0 w1) := Lib.hid (by obtain ⟨bx, nx, rfl⟩ := hx1; exact (Kp.refl [] _).ext _ _)
  obtain ⟨⟨f0, f1, n0, n1, n2⟩, z0⟩ := SK.out _ K1.out
  clear hx1
  rw [HC.out]
  go_wp2_with fail
  refine (rleaf_any _ _ _ _ _ _ _ _ _ _).mono ?_
  rintro e w2 ⟨rfl, hx2⟩
  have K2 : Hid (Kp [] W0 w2) := Lib.hid (by obtain ⟨bx, nx, rfl⟩ := hx2; exact K1.out.ext _ _)
  clear hx2 f0 f1 n0 n1 n2 z0
  obtain ⟨⟨f0, f1, n0, n1, n2⟩, z0⟩ := SK.out _ K2.out
  rw [HL.out]
  go_wp2_with fail
  refine wp_region_ext (by kernel_rfl) (by kernel_rfl) ?_
  repeat (go_big_quiet_step (first | (go_at_call 33; exact Calls.quiet_ext (RS.out _ (K2.out.ext _ _))) | (go_at_call 36; exact Calls.quiet_ext (RM.out _))))
  (refine wpQuiet_nil ?_; intro _ hw'; obtain ⟨⟨bsq, nq⟩, hw''⟩ := hw'; subst hw'')
  clear f0 f1 n0 n1 n2 z0
  go_wp2_with fail
  go_loopw [7] (fun i wr => ∃ (k : Nat), i = .int .i64 (k : Nat) ∧ k ≤ n.kids.length ∧ Hid (∀ x ∈ n.kids.take k, badPg x = false) ∧ Hid (Kp [] W0 wr)) (fun i _ => n.kids.length - (intOf i).toNat)
  case atStart => exact ⟨0, rfl, by omega, Lib.hid (fun x hx => by simp at hx), Lib.hid (K2.out.ext _ _)⟩
  case round =>
    obtain ⟨k, rfl, hk, GP, KI⟩ := hrel
    obtain ⟨⟨f0, f1, n0, n1, n2⟩, z0⟩ := SK.out _ KI.out
    by_cases hlt : k < n.kids.length
    · obtain ⟨x, hx⟩ : ∃ x, n.kids[k]? = some x := ⟨_, List.getElem?_eq_getElem hlt⟩
      obtain ⟨b, o, rfl, hb, r1⟩ := HK.out.ks.kp KI.out (by simp) k x hx
      have r3 := row_page r1
      have hpg := HO.out.pg x (List.mem_of_getElem? hx)
      have HX := Lib.hid hx
      clear hx r1
      obtain ⟨g, hg⟩ : ∃ g, x.page = g := ⟨_, rfl⟩
      rw [hg] at r3 hpg
      have bad : g < 2 ∨ 2147483648 ≤ g → packE P d n = 72 ∧ packS P d n = [] := fun hb => by
        have h1 : n.kids.any badPg = true := List.any_eq_true.2 ⟨x, List.mem_of_getElem? HX.out, by unfold badPg; rw [hg]; rcases hb with h | h <;> simp [h]⟩
        have h2 : packE P d n = 72 := by rw [HPE.out, if_pos h1]
        exact ⟨h2, by unfold packS; rw [h2]; rfl⟩
      have BAD := Lib.hid bad
      clear bad
      by_cases g1 : g < 2
      · obtain ⟨e1, e2⟩ := BAD.out (.inl g1)
        have E1 := Lib.hid e1; have E2 := Lib.hid e2
        have t1 : decide ((g : Int) < 2) = true := decide_eq_true (by omega)
        clear e1 e2
        go_wp2_with fail
        go_ret2
        rw [E1.out, E2.out]
        exact ⟨rfl, Kp.to_ext (KW.out.trans KI.out)⟩
      have t1 : decide ((g : Int) < 2) = false := decide_eq_false (by omega)
      by_cases g2 : 2147483648 ≤ g
      · obtain ⟨e1, e2⟩ := BAD.out (.inr g2)
        have E1 := Lib.hid e1; have E2 := Lib.hid e2
        have t2 : decide ((2147483648 : Int) ≤ (g : Int)) = true := decide_eq_true (by omega)
        clear e1 e2
        go_wp2_with fail
        go_ret2
        rw [E1.out, E2.out]
        exact ⟨rfl, Kp.to_ext (KW.out.trans KI.out)⟩
      have t2 : decide ((2147483648 : Int) ≤ (g : Int)) = false := decide_eq_false (by omega)
      have GN : Hid (∀ y ∈ n.kids.take (k + 1), badPg y = false) := Lib.hid (fun y hy => by
        rw [List.take_add_one, HX.out, List.mem_append] at hy
        rcases hy with hy | hy
        · exact GP.out y hy
        · simp at hy; subst hy; unfold badPg; rw [hg]; simp; omega)
      go_wp2_with fail
      go_roundw
      case rel => exact ⟨k + 1, by go_num, by omega, GN, Lib.hid (by first | exact KI.out | exact KI.out.ext _ _)⟩
      case measure => simp [intOf]; omega
    · obtain rfl : k = n.kids.length := by omega
      have hb : n.kids.any badPg = false := by
        rw [List.any_eq_false]
        intro x hx
        have h := GP.out x (by rw [List.take_length]; exact hx)
        simp [h]
      have e1 : packE P d n = 0 := by rw [HPE.out, hb]; rfl
      have e2 : packS P d n = formB true d n := by unfold packS; rw [e1]; rfl
      have E1 := Lib.hid e1; have E2 := Lib.hid e2
      clear e1 e2 hb
      go_wp2_with fail
      refine (rform_any P d true pa sa ka pc sc kc n _ HC.out (HK.out.kp0 KI.out) HO.out).mono ?_
      rintro e w2 ⟨rfl, bs2, m2, rfl⟩
      go_wp2_with fail
      go_ret2
      rw [E1.out, E2.out]
      exact ⟨rfl, Kp.to_ext ((KW.out.trans KI.out).ext _ _)⟩

set_option maxHeartbeats 2000000 in
set_option maxRecDepth 100000 in
theorem rpack_br_big (P d : Nat) (pa sa ka : Option Addr) (pc sc kc : Nat) (n : Nd) (w : World) (hc : checkE P d n = 0) (hl : leafB n = false) (hbig : P - 32 < sizeN d n) (h : NdAt w pa sa ka n) (ho : NdOk n) :
    Calls Tryz.prog 23 #[.agg #[.int .i64 P, .int .i64 d], .agg #[.slice pa n.pairs.length pc, .slice sa n.seps.length sc, .slice ka n.kids.length kc]] w (Rets2 (packS P d n) (packE P d n) w) := by
  have hl' : (decide (n.seps.length = 0 ∧ n.kids.length = 0)) = false := hl
  have hne : ¬ (checkE P d n = 0 ∧ leafB n = true ∧ n.pairs.length = 0) := by rw [hl]; simp
  have HNE := Lib.hid hne
  have HL := Lib.hid hl'
  clear hne hl'
  have hr := rightB_iff.1 (checkE_ok hc).1
  have hP0 : 1024 ≤ P := by omega
  have hP : P ≤ 8192 := by omega
  have hss : SizeE P d n = sizeN d n := by unfold SizeE; rw [if_pos hc]; rfl
  have hm : mayE P d n = if P - 32 < sizeN d n then 71 else 0 := by unfold mayE; rw [if_pos hc]; rfl
  have hnk := ho.nk
  have HM := Lib.hid hm; have HSZ := Lib.hid hss
  have HC := Lib.hid hc
  have H := Lib.hid h; have HO := Lib.hid ho
  clear h ho hc hr hm hss
  obtain ⟨W0, hW0⟩ : ∃ W0, W0 = (w.alloc (.cells #[.int .i64 P, .int .i64 d] 23)).alloc (.cells #[.slice pa n.pairs.length pc, .slice sa n.seps.length sc, .slice ka n.kids.length kc] 28) := ⟨_, rfl⟩
  have kw : Kp [] w W0 := by rw [hW0]; exact ((Kp.refl [] w).alloc _).alloc _
  have b0 : Blk W0 w.heap.size 23 #[.int .i64 P, .int .i64 d] := by rw [hW0]; exact (Blk.new w _ _).alloc _
  have b1 : Blk W0 (w.heap.size + 1) 28 #[.slice pa n.pairs.length pc, .slice sa n.seps.length sc, .slice ka n.kids.length kc] := by
    rw [hW0]
    have h := Blk.new (w.alloc (.cells #[.int .i64 P, .int .i64 d] 23)) 28 #[.slice pa n.pairs.length pc, .slice sa n.seps.length sc, .slice ka n.kids.length kc]
    simpa using h
  have hz0 : W0.heap.size = w.heap.size + 2 := by rw [hW0]; simp
  have SK : Hid (∀ W : World, Kp [] W0 W → (W.cell? ⟨w.heap.size, 0, none⟩ = some (.int .i64 P) ∧ W.cell? ⟨w.heap.size, 1, none⟩ = some (.int .i64 d) ∧ W.cell? ⟨w.heap.size + 1, 0, none⟩ = some (.slice pa n.pairs.length pc) ∧ W.cell? ⟨w.heap.size + 1, 1, none⟩ = some (.slice sa n.seps.length sc) ∧ W.cell? ⟨w.heap.size + 1, 2, none⟩ = some (.slice ka n.kids.length kc)) ∧ w.heap.size + 1 < W.heap.size) := Lib.hid (fun W k =>
    ⟨⟨(b0.kp k (by simp)).cell 0, (b0.kp k (by simp)).cell 1, (b1.kp k (by simp)).cell 0, (b1.kp k (by simp)).cell 1, (b1.kp k (by simp)).cell 2⟩, by have := k.size; omega⟩)
  have HK := Lib.hid (H.out.kp0 kw)
  have KW := Lib.hid kw
  have HW0 := Lib.hid hW0
  have hz1 : w.heap.size + 1 < W0.heap.size := by omega
  clear kw b0 b1 hW0 hz0
  obtain ⟨z, hz⟩ : ∃ z, sizeN d n = z := ⟨_, rfl⟩
  obtain ⟨y, hy⟩ : ∃ y, P - 32 = y := ⟨_, rfl⟩
  have dn : y < z := by rw [← hz, ← hy]; exact hbig
  have dd : decide ((y : Int) < (z : Int)) = true := decide_eq_true (by omega)
  have RS : Hid (∀ W, Kp [] W0 W → Calls Tryz.prog 33 #[.agg #[.int .i64 P, .int .i64 d], .agg #[.slice pa n.pairs.length pc, .slice sa n.seps.length sc, .slice ka n.kids.length kc]] W (Rets (.int .i64 (z : Nat)) W)) := Lib.hid (fun W k => by have h := rsize_any P d pa sa ka pc sc kc n W (HK.out.kp0 k) HO.out; rw [HSZ.out, hz] at h; exact h)
  have RM : Hid (∀ W, Calls Tryz.prog 36 #[.agg #[.int .i64 P, .int .i64 d]] W (Rets (.int .i64 (y : Nat)) W)) := Lib.hid (fun W => by have h := rmost_any P d W hP hP0; rw [hy] at h; exact h)
  have hpe : packE P d n = 71 := by unfold packE; rw [if_neg HNE.out, HM.out, if_pos hbig]; rfl
  have hps : packS P d n = [] := by unfold packS; rw [hpe]; rfl
  rw [hpe, hps]
  clear hpe hps hz hy hbig
  go_enter Tryz.func23, Tryz.ntmps23
  go_wp2_with fail
  rw [← HW0.out]
  refine (rcheck_any P d pa sa ka pc sc kc n _ HK.out HO.out).mono ?_
  rintro e w1 ⟨rfl, hx1⟩
  have K1 : Hid (Kp [] W0 w1) := Lib.hid (by obtain ⟨bx, nx, rfl⟩ := hx1; exact (Kp.refl [] _).ext _ _)
  obtain ⟨⟨f0, f1, n0, n1, n2⟩, z0⟩ := SK.out _ K1.out
  clear hx1
  rw [HC.out]
  go_wp2_with fail
  refine (rleaf_any _ _ _ _ _ _ _ _ _ _).mono ?_
  rintro e w2 ⟨rfl, hx2⟩
  have K2 : Hid (Kp [] W0 w2) := Lib.hid (by obtain ⟨bx, nx, rfl⟩ := hx2; exact K1.out.ext _ _)
  clear hx2 f0 f1 n0 n1 n2 z0
  obtain ⟨⟨f0, f1, n0, n1, n2⟩, z0⟩ := SK.out _ K2.out
  rw [HL.out]
  go_wp2_with fail
  refine wp_region_ext (by kernel_rfl) (by kernel_rfl) ?_
  repeat (go_big_quiet_step (first | (go_at_call 33; exact Calls.quiet_ext (RS.out _ (K2.out.ext _ _))) | (go_at_call 36; exact Calls.quiet_ext (RM.out _))))
  (refine wpQuiet_nil ?_; intro _ hw'; obtain ⟨⟨bsq, nq⟩, hw''⟩ := hw'; subst hw'')
  go_wp2_with fail
  go_ret2
  exact ⟨rfl, Kp.to_ext ((KW.out.trans K2.out).ext _ _)⟩

set_option maxHeartbeats 2000000 in
set_option maxRecDepth 100000 in
theorem rpack_br_fit (P d : Nat) (pa sa ka : Option Addr) (pc sc kc : Nat) (n : Nd) (w : World) (hc : checkE P d n = 0) (hl : leafB n = false) (hbig : ¬ P - 32 < sizeN d n) (h : NdAt w pa sa ka n) (ho : NdOk n) :
    Calls Tryz.prog 23 #[.agg #[.int .i64 P, .int .i64 d], .agg #[.slice pa n.pairs.length pc, .slice sa n.seps.length sc, .slice ka n.kids.length kc]] w (Rets2 (packS P d n) (packE P d n) w) := by
  have hl' : (decide (n.seps.length = 0 ∧ n.kids.length = 0)) = false := hl
  have hne : ¬ (checkE P d n = 0 ∧ leafB n = true ∧ n.pairs.length = 0) := by rw [hl]; simp
  have HNE := Lib.hid hne
  have HL := Lib.hid hl'
  clear hne hl'
  have hr := rightB_iff.1 (checkE_ok hc).1
  have hP0 : 1024 ≤ P := by omega
  have hP : P ≤ 8192 := by omega
  have hss : SizeE P d n = sizeN d n := by unfold SizeE; rw [if_pos hc]; rfl
  have hm : mayE P d n = if P - 32 < sizeN d n then 71 else 0 := by unfold mayE; rw [if_pos hc]; rfl
  have hnk := ho.nk
  have HM := Lib.hid hm; have HSZ := Lib.hid hss
  have HC := Lib.hid hc
  have H := Lib.hid h; have HO := Lib.hid ho
  clear h ho hc hr hm hss
  obtain ⟨W0, hW0⟩ : ∃ W0, W0 = (w.alloc (.cells #[.int .i64 P, .int .i64 d] 23)).alloc (.cells #[.slice pa n.pairs.length pc, .slice sa n.seps.length sc, .slice ka n.kids.length kc] 28) := ⟨_, rfl⟩
  have kw : Kp [] w W0 := by rw [hW0]; exact ((Kp.refl [] w).alloc _).alloc _
  have b0 : Blk W0 w.heap.size 23 #[.int .i64 P, .int .i64 d] := by rw [hW0]; exact (Blk.new w _ _).alloc _
  have b1 : Blk W0 (w.heap.size + 1) 28 #[.slice pa n.pairs.length pc, .slice sa n.seps.length sc, .slice ka n.kids.length kc] := by
    rw [hW0]
    have h := Blk.new (w.alloc (.cells #[.int .i64 P, .int .i64 d] 23)) 28 #[.slice pa n.pairs.length pc, .slice sa n.seps.length sc, .slice ka n.kids.length kc]
    simpa using h
  have hz0 : W0.heap.size = w.heap.size + 2 := by rw [hW0]; simp
  have SK : Hid (∀ W : World, Kp [] W0 W → (W.cell? ⟨w.heap.size, 0, none⟩ = some (.int .i64 P) ∧ W.cell? ⟨w.heap.size, 1, none⟩ = some (.int .i64 d) ∧ W.cell? ⟨w.heap.size + 1, 0, none⟩ = some (.slice pa n.pairs.length pc) ∧ W.cell? ⟨w.heap.size + 1, 1, none⟩ = some (.slice sa n.seps.length sc) ∧ W.cell? ⟨w.heap.size + 1, 2, none⟩ = some (.slice ka n.kids.length kc)) ∧ w.heap.size + 1 < W.heap.size) := Lib.hid (fun W k =>
    ⟨⟨(b0.kp k (by simp)).cell 0, (b0.kp k (by simp)).cell 1, (b1.kp k (by simp)).cell 0, (b1.kp k (by simp)).cell 1, (b1.kp k (by simp)).cell 2⟩, by have := k.size; omega⟩)
  have HK := Lib.hid (H.out.kp0 kw)
  have KW := Lib.hid kw
  have HW0 := Lib.hid hW0
  have hz1 : w.heap.size + 1 < W0.heap.size := by omega
  clear kw b0 b1 hW0 hz0
  obtain ⟨z, hz⟩ : ∃ z, sizeN d n = z := ⟨_, rfl⟩
  obtain ⟨y, hy⟩ : ∃ y, P - 32 = y := ⟨_, rfl⟩
  have dn : ¬ y < z := by rw [← hz, ← hy]; exact hbig
  have dd : decide ((y : Int) < (z : Int)) = false := decide_eq_false (by omega)
  have RS : Hid (∀ W, Kp [] W0 W → Calls Tryz.prog 33 #[.agg #[.int .i64 P, .int .i64 d], .agg #[.slice pa n.pairs.length pc, .slice sa n.seps.length sc, .slice ka n.kids.length kc]] W (Rets (.int .i64 (z : Nat)) W)) := Lib.hid (fun W k => by have h := rsize_any P d pa sa ka pc sc kc n W (HK.out.kp0 k) HO.out; rw [HSZ.out, hz] at h; exact h)
  have RM : Hid (∀ W, Calls Tryz.prog 36 #[.agg #[.int .i64 P, .int .i64 d]] W (Rets (.int .i64 (y : Nat)) W)) := Lib.hid (fun W => by have h := rmost_any P d W hP hP0; rw [hy] at h; exact h)
  have hpe : packE P d n = if n.kids.any badPg = true then 72 else 0 := by unfold packE; rw [if_neg HNE.out, HM.out, if_neg hbig]; rfl
  have HPE := Lib.hid hpe
  clear hpe hz hy hbig
  go_enter Tryz.func23, Tryz.ntmps23
  go_wp2_with fail
  rw [← HW0.out]
  refine (rcheck_any P d pa sa ka pc sc kc n _ HK.out HO.out).mono ?_
  rintro e w1 ⟨rfl, hx1⟩
  have K1 : Hid (Kp [] W0 w1) := Lib.hid (by obtain ⟨bx, nx, rfl⟩ := hx1; exact (Kp.refl [] _).ext _ _)
  obtain ⟨⟨f0, f1, n0, n1, n2⟩, z0⟩ := SK.out _ K1.out
  clear hx1
  rw [HC.out]
  go_wp2_with fail
  refine (rleaf_any _ _ _ _ _ _ _ _ _ _).mono ?_
  rintro e w2 ⟨rfl, hx2⟩
  have K2 : Hid (Kp [] W0 w2) := Lib.hid (by obtain ⟨bx, nx, rfl⟩ := hx2; exact K1.out.ext _ _)
  clear hx2 f0 f1 n0 n1 n2 z0
  obtain ⟨⟨f0, f1, n0, n1, n2⟩, z0⟩ := SK.out _ K2.out
  rw [HL.out]
  go_wp2_with fail
  refine wp_region_ext (by kernel_rfl) (by kernel_rfl) ?_
  repeat (go_big_quiet_step (first | (go_at_call 33; exact Calls.quiet_ext (RS.out _ (K2.out.ext _ _))) | (go_at_call 36; exact Calls.quiet_ext (RM.out _))))
  (refine wpQuiet_nil ?_; intro _ hw'; obtain ⟨⟨bsq, nq⟩, hw''⟩ := hw'; subst hw'')
  clear f0 f1 n0 n1 n2 z0
  go_wp2_with fail
  go_loopw [7] (fun i wr => ∃ (k : Nat), i = .int .i64 (k : Nat) ∧ k ≤ n.kids.length ∧ Hid (∀ x ∈ n.kids.take k, badPg x = false) ∧ Hid (Kp [] W0 wr)) (fun i _ => n.kids.length - (intOf i).toNat)
  case atStart => exact ⟨0, rfl, by omega, Lib.hid (fun x hx => by simp at hx), Lib.hid (K2.out.ext _ _)⟩
  case round =>
    obtain ⟨k, rfl, hk, GP, KI⟩ := hrel
    obtain ⟨⟨f0, f1, n0, n1, n2⟩, z0⟩ := SK.out _ KI.out
    by_cases hlt : k < n.kids.length
    · obtain ⟨x, hx⟩ : ∃ x, n.kids[k]? = some x := ⟨_, List.getElem?_eq_getElem hlt⟩
      obtain ⟨b, o, rfl, hb, r1⟩ := HK.out.ks.kp KI.out (by simp) k x hx
      have r3 := row_page r1
      have hpg := HO.out.pg x (List.mem_of_getElem? hx)
      have HX := Lib.hid hx
      clear hx r1
      obtain ⟨g, hg⟩ : ∃ g, x.page = g := ⟨_, rfl⟩
      rw [hg] at r3 hpg
      have bad : g < 2 ∨ 2147483648 ≤ g → packE P d n = 72 ∧ packS P d n = [] := fun hb => by
        have h1 : n.kids.any badPg = true := List.any_eq_true.2 ⟨x, List.mem_of_getElem? HX.out, by unfold badPg; rw [hg]; rcases hb with h | h <;> simp [h]⟩
        have h2 : packE P d n = 72 := by rw [HPE.out, if_pos h1]
        exact ⟨h2, by unfold packS; rw [h2]; rfl⟩
      have BAD := Lib.hid bad
      clear bad
      by_cases g1 : g < 2
      · obtain ⟨e1, e2⟩ := BAD.out (.inl g1)
        have E1 := Lib.hid e1; have E2 := Lib.hid e2
        have t1 : decide ((g : Int) < 2) = true := decide_eq_true (by omega)
        clear e1 e2
        go_wp2_with fail
        go_ret2
        rw [E1.out, E2.out]
        exact ⟨rfl, Kp.to_ext (KW.out.trans KI.out)⟩
      have t1 : decide ((g : Int) < 2) = false := decide_eq_false (by omega)
      by_cases g2 : 2147483648 ≤ g
      · obtain ⟨e1, e2⟩ := BAD.out (.inr g2)
        have E1 := Lib.hid e1; have E2 := Lib.hid e2
        have t2 : decide ((2147483648 : Int) ≤ (g : Int)) = true := decide_eq_true (by omega)
        clear e1 e2
        go_wp2_with fail
        go_ret2
        rw [E1.out, E2.out]
        exact ⟨rfl, Kp.to_ext (KW.out.trans KI.out)⟩
      have t2 : decide ((2147483648 : Int) ≤ (g : Int)) = false := decide_eq_false (by omega)
      have GN : Hid (∀ y ∈ n.kids.take (k + 1), badPg y = false) := Lib.hid (fun y hy => by
        rw [List.take_add_one, HX.out, List.mem_append] at hy
        rcases hy with hy | hy
        · exact GP.out y hy
        · simp at hy; subst hy; unfold badPg; rw [hg]; simp; omega)
      go_wp2_with fail
      go_roundw
      case rel => exact ⟨k + 1, by go_num, by omega, GN, Lib.hid (by first | exact KI.out | exact KI.out.ext _ _)⟩
      case measure => simp [intOf]; omega
    · obtain rfl : k = n.kids.length := by omega
      have hb : n.kids.any badPg = false := by
        rw [List.any_eq_false]
        intro x hx
        have h := GP.out x (by rw [List.take_length]; exact hx)
        simp [h]
      have e1 : packE P d n = 0 := by rw [HPE.out, hb]; rfl
      have e2 : packS P d n = formB true d n := by unfold packS; rw [e1]; rfl
      have E1 := Lib.hid e1; have E2 := Lib.hid e2
      clear e1 e2 hb
      go_wp2_with fail
      refine (rform_any P d true pa sa ka pc sc kc n _ HC.out (HK.out.kp0 KI.out) HO.out).mono ?_
      rintro e w2 ⟨rfl, bs2, m2, rfl⟩
      go_wp2_with fail
      go_ret2
      rw [E1.out, E2.out]
      exact ⟨rfl, Kp.to_ext ((KW.out.trans KI.out).ext _ _)⟩

set_option maxHeartbeats 1000000 in set_option maxRecDepth 100000 in
theorem rpack_none (P d : Nat) (pa sa ka : Option Addr) (pc sc kc : Nat) (n : Nd) (w : World) (hc : checkE P d n = 0) (hl : leafB n = true) (hp : n.pairs.length = 0) (h : NdAt w pa sa ka n) (ho : NdOk n) :
    Calls Tryz.prog 23 #[.agg #[.int .i64 P, .int .i64 d], .agg #[.slice pa n.pairs.length pc, .slice sa n.seps.length sc, .slice ka n.kids.length kc]] w (Rets2 (packS P d n) (packE P d n) w) := by
  have hl' : (decide (n.seps.length = 0 ∧ n.kids.length = 0)) = true := hl
  have hpe : packE P d n = 70 := by unfold packE; rw [if_pos ⟨hc, hl, hp⟩]
  have hps : packS P d n = [] := by unfold packS; rw [hpe]; rfl
  rw [hpe, hps]
  have HL := Lib.hid hl'
  clear hl' hpe hps hl
  have hr := rightB_iff.1 (checkE_ok hc).1
  have hP0 : 1024 ≤ P := by omega
  have hP : P ≤ 8192 := by omega
  have hss : SizeE P d n = sizeN d n := by unfold SizeE; rw [if_pos hc]; rfl
  have hm : mayE P d n = if P - 32 < sizeN d n then 71 else 0 := by unfold mayE; rw [if_pos hc]; rfl
  have hnk := ho.nk
  have HM := Lib.hid hm; have HSZ := Lib.hid hss
  have HC := Lib.hid hc
  have H := Lib.hid h; have HO := Lib.hid ho
  clear h ho hc hr hm hss
  obtain ⟨W0, hW0⟩ : ∃ W0, W0 = (w.alloc (.cells #[.int .i64 P, .int .i64 d] 23)).alloc (.cells #[.slice pa n.pairs.length pc, .slice sa n.seps.length sc, .slice ka n.kids.length kc] 28) := ⟨_, rfl⟩
  have kw : Kp [] w W0 := by rw [hW0]; exact ((Kp.refl [] w).alloc _).alloc _
  have b0 : Blk W0 w.heap.size 23 #[.int .i64 P, .int .i64 d] := by rw [hW0]; exact (Blk.new w _ _).alloc _
  have b1 : Blk W0 (w.heap.size + 1) 28 #[.slice pa n.pairs.length pc, .slice sa n.seps.length sc, .slice ka n.kids.length kc] := by
    rw [hW0]
    have h := Blk.new (w.alloc (.cells #[.int .i64 P, .int .i64 d] 23)) 28 #[.slice pa n.pairs.length pc, .slice sa n.seps.length sc, .slice ka n.kids.length kc]
    simpa using h
  have hz0 : W0.heap.size = w.heap.size + 2 := by rw [hW0]; simp
  have SK : Hid (∀ W : World, Kp [] W0 W → (W.cell? ⟨w.heap.size, 0, none⟩ = some (.int .i64 P) ∧ W.cell? ⟨w.heap.size, 1, none⟩ = some (.int .i64 d) ∧ W.cell? ⟨w.heap.size + 1, 0, none⟩ = some (.slice pa n.pairs.length pc) ∧ W.cell? ⟨w.heap.size + 1, 1, none⟩ = some (.slice sa n.seps.length sc) ∧ W.cell? ⟨w.heap.size + 1, 2, none⟩ = some (.slice ka n.kids.length kc)) ∧ w.heap.size + 1 < W.heap.size) := Lib.hid (fun W k =>
    ⟨⟨(b0.kp k (by simp)).cell 0, (b0.kp k (by simp)).cell 1, (b1.kp k (by simp)).cell 0, (b1.kp k (by simp)).cell 1, (b1.kp k (by simp)).cell 2⟩, by have := k.size; omega⟩)
  have HK := Lib.hid (H.out.kp0 kw)
  have KW := Lib.hid kw
  have HW0 := Lib.hid hW0
  have hz1 : w.heap.size + 1 < W0.heap.size := by omega
  clear kw b0 b1 hW0 hz0
  have hp0 : ((n.pairs.length : Int) == 0) = true := by rw [beq_iff_eq]; omega
  clear hp
  go_enter Tryz.func23, Tryz.ntmps23
  go_wp2_with fail
  rw [← HW0.out]
  refine (rcheck_any P d pa sa ka pc sc kc n _ HK.out HO.out).mono ?_
  rintro e w1 ⟨rfl, hx1⟩
  have K1 : Hid (Kp [] W0 w1) := Lib.hid (by obtain ⟨bx, nx, rfl⟩ := hx1; exact (Kp.refl [] _).ext _ _)
  obtain ⟨⟨f0, f1, n0, n1, n2⟩, z0⟩ := SK.out _ K1.out
  clear hx1
  rw [HC.out]
  go_wp2_with fail
  refine (rleaf_any _ _ _ _ _ _ _ _ _ _).mono ?_
  rintro e w2 ⟨rfl, hx2⟩
  have K2 : Hid (Kp [] W0 w2) := Lib.hid (by obtain ⟨bx, nx, rfl⟩ := hx2; exact K1.out.ext _ _)
  clear hx2 f0 f1 n0 n1 n2 z0
  obtain ⟨⟨f0, f1, n0, n1, n2⟩, z0⟩ := SK.out _ K2.out
  rw [HL.out]
  go_wp2_with fail
  go_ret2
  exact ⟨rfl, Kp.to_ext (KW.out.trans K2.out)⟩

set_option maxHeartbeats 1000000 in set_option maxRecDepth 100000 in
theorem rpack_any (p wd : Int) (pa sa ka : Option Addr) (pc sc kc : Nat) (n : Nd) (w : World) (h : NdAt w pa sa ka n) (ho : NdOk n) :
    Calls Tryz.prog 23 #[.agg #[.int .i64 p, .int .i64 wd], .agg #[.slice pa n.pairs.length pc, .slice sa n.seps.length sc, .slice ka n.kids.length kc]] w (Rets2 (packS p wd n) (packE p wd n) w) := by
  by_cases hc : checkE p wd n = 0
  · have hr := rightB_iff.1 (checkE_ok hc).1
    obtain ⟨P, rfl⟩ := Int.eq_ofNat_of_zero_le (show 0 ≤ p by omega)
    obtain ⟨d, rfl⟩ := Int.eq_ofNat_of_zero_le (show 0 ≤ wd by omega)
    cases hl : leafB n
    · by_cases hb : P - 32 < sizeN d n
      · exact rpack_br_big P d pa sa ka pc sc kc n w hc hl hb h ho
      · exact rpack_br_fit P d pa sa ka pc sc kc n w hc hl hb h ho
    · by_cases hp : n.pairs.length = 0
      · exact rpack_none P d pa sa ka pc sc kc n w hc hl hp h ho
      · by_cases hb : P - 32 < sizeN d n
        · exact rpack_leaf_big P d pa sa ka pc sc kc n w hc hl hp hb h ho
        · exact rpack_leaf_fit P d pa sa ka pc sc kc n w hc hl hp hb h ho
  · obtain ⟨c, hcc⟩ : ∃ c, checkE p wd n = c := ⟨_, rfl⟩
    have hm : mayE p wd n = c := by unfold mayE; rw [if_neg hc, hcc]
    rw [hcc] at hc
    have hpe : packE p wd n = c := by unfold packE; rw [if_neg (by rw [hcc]; exact fun h => hc h.1), hm, if_neg hc]
    have hps : packS p wd n = [] := by unfold packS; rw [hpe, if_neg hc]
    rw [hpe, hps]
    have hb : (c != 0) = true := by simpa using hc
    have HC := Lib.hid hcc; have H := Lib.hid h; have HO := Lib.hid ho
    clear hm hps hpe hc hcc h ho
    go_enter Tryz.func23, Tryz.ntmps23
    go_wp2_with fail
    refine (rcheck_any p wd pa sa ka pc sc kc n _ (H.out.kp0 (((Kp.refl [] _).alloc _).alloc _)) HO.out).mono ?_
    rintro e w' ⟨rfl, bs0, m0, rfl⟩
    rw [HC.out]
    go_wp2_with fail
    go_ret2
    exact ⟨rfl, by (try simp only [alloc_ext, drew_ext, drewN_ext, ext_ext]); exact ⟨_, _, rfl⟩⟩

end Go.Proofs.YtemicgccgcmmbaaGreat

/- The document's Sum; both Emptys. -/
namespace Go.Proofs.YtemicgccgcmmbaaGreat
set_option linter.unusedVariables false
set_option linter.unusedSimpArgs false
open Go Go.RowKit

theorem ss1_drew (w : World) (s : Bs) : SsAt ((w.alloc (.cells #[.string ⟨s.toArray⟩] 9)).drew) (some ⟨w.heap.size, 0, none⟩) [s] := (SsAt1 w s _ rfl).kp0 ((Kp.refl [] _).drew)

set_option maxHeartbeats 2000000 in
set_option maxRecDepth 100000 in
theorem rsum07_any (p wd : Int) (pa sa ka : Option Addr) (pc sc kc : Nat) (n : Nd) (w : World) (h : NdAt w pa sa ka n) (ho : NdOk n) :
    Calls Tryz.prog 26 #[.agg #[.int .i64 p, .int .i64 wd], .agg #[.slice pa n.pairs.length pc, .slice sa n.seps.length sc, .slice ka n.kids.length kc]] w (Rets (.tuple #[.agg (sumN p wd n).1.c, .int .i64 (sumN p wd n).2]) w) := by
  obtain ⟨c, hc⟩ : ∃ c, mayE p wd n = c := ⟨_, rfl⟩
  by_cases h0 : c = 0
  · subst h0
    have hs : (plainS p wd n).length ≤ 8192 := plainS_le hc
    obtain ⟨ht1, ht2⟩ := tagN_ok n
    have hT : (textT (tagN n) [plainS p wd n]).length ≤ 140737488355000 := by rw [textT1]; omega
    obtain ⟨⟨d, e⟩, hd⟩ : ∃ x, sumN p wd n = x := ⟨_, rfl⟩
    have hdg : digS wd (tagN n) [plainS p wd n] = (d, e) := by rw [← hd]; unfold sumN; rw [if_pos hc]
    rw [hd]
    obtain ⟨S, hS⟩ : ∃ S, plainS p wd n = S := ⟨_, rfl⟩
    rw [hS] at hT hdg
    obtain ⟨W0, hW0⟩ : ∃ W0, W0 = ((w.alloc (.cells #[.int .i64 p, .int .i64 wd] 23)).alloc (.cells #[.slice pa n.pairs.length pc, .slice sa n.seps.length sc, .slice ka n.kids.length kc] 28)).alloc (.cells Dg.zero.c 36) := ⟨_, rfl⟩
    have kw : Kp [] w W0 := by rw [hW0]; exact (((Kp.refl [] w).alloc _).alloc _).alloc _
    have b0 : Blk W0 w.heap.size 23 #[.int .i64 p, .int .i64 wd] := by rw [hW0]; exact ((Blk.new w _ _).alloc _).alloc _
    have b1 : Blk W0 (w.heap.size + 1) 28 #[.slice pa n.pairs.length pc, .slice sa n.seps.length sc, .slice ka n.kids.length kc] := by
      rw [hW0]
      have h := (Blk.new (w.alloc (.cells #[.int .i64 p, .int .i64 wd] 23)) 28 #[.slice pa n.pairs.length pc, .slice sa n.seps.length sc, .slice ka n.kids.length kc]).alloc (.cells Dg.zero.c 36)
      simpa using h
    have b2 : Blk W0 (w.heap.size + 2) 36 Dg.zero.c := by
      rw [hW0]
      have h := Blk.new ((w.alloc (.cells #[.int .i64 p, .int .i64 wd] 23)).alloc (.cells #[.slice pa n.pairs.length pc, .slice sa n.seps.length sc, .slice ka n.kids.length kc] 28)) 36 Dg.zero.c
      simpa using h
    have SK : Hid (∀ W : World, Kp [w.heap.size + 2] W0 W → ((W.cell? ⟨w.heap.size, 0, none⟩ = some (.int .i64 p) ∧ W.cell? ⟨w.heap.size, 1, none⟩ = some (.int .i64 wd)) ∧ (W.cell? ⟨w.heap.size + 1, 0, none⟩ = some (.slice pa n.pairs.length pc) ∧ W.cell? ⟨w.heap.size + 1, 1, none⟩ = some (.slice sa n.seps.length sc) ∧ W.cell? ⟨w.heap.size + 1, 2, none⟩ = some (.slice ka n.kids.length kc)))) := Lib.hid (fun W k =>
      have c0 := b0.kp k (by simp); have c1 := b1.kp k (by simp)
      ⟨⟨c0.cell 0, c0.cell 1⟩, ⟨c1.cell 0, c1.cell 1, c1.cell 2⟩⟩)
    have hz0 : W0.heap.size = w.heap.size + 3 := by rw [hW0]; simp
    have ZK : Hid (∀ W : World, Kp [] W0 W → w.heap.size + 2 < W.heap.size) := Lib.hid (fun W k => by have := k.size; omega)
    have H := Lib.hid (h.kp0 kw); have HO := Lib.hid ho; have KW := Lib.hid kw; have B2 := Lib.hid b2; have HW0 := Lib.hid hW0; have HZ := Lib.hid hz0
    have HC := Lib.hid hc; have HT := Lib.hid hT; have HD := Lib.hid hdg; have HSS := Lib.hid hS
    have q1 := bC_one d.l; have q2 := dg_info d
    have hz1 : w.heap.size + 2 < W0.heap.size := by omega
    clear h ho kw b0 b1 b2 hW0 hc hT hdg hS hs ht1 ht2 hd hz0
    go_enter Tryz.func26, Tryz.ntmps26
    go_wp2_with fail
    rw [← HW0.out]
    refine (rplain_any p wd pa sa ka pc sc kc n _ H.out HO.out).mono ?_
    rintro e1 w1 ⟨rfl, hx1⟩
    have KC : Hid (Kp [] W0 w1) := Lib.hid (by obtain ⟨bx, nx, rfl⟩ := hx1; exact (Kp.refl [] _).ext _ _)
    clear hx1
    have zc := ZK.out _ KC.out
    rw [HC.out, HSS.out]
    go_wp2_with fail
    go_region_held3 (fun W => ((W.cell? ⟨w.heap.size, 0, none⟩ = some (.int .i64 p) ∧ W.cell? ⟨w.heap.size, 1, none⟩ = some (.int .i64 wd)) ∧ (W.cell? ⟨w.heap.size + 1, 0, none⟩ = some (.slice pa n.pairs.length pc) ∧ W.cell? ⟨w.heap.size + 1, 1, none⟩ = some (.slice sa n.seps.length sc) ∧ W.cell? ⟨w.heap.size + 1, 2, none⟩ = some (.slice ka n.kids.length kc))))
      (exact SK.out _ (by repeat first | with_reducible exact KT6.out.of_nil | with_reducible exact KT5.out.of_nil | with_reducible exact KC.out.of_nil | with_reducible refine Kp.drew ?_ | with_reducible refine Kp.alloc ?_ _ | with_reducible refine Kp.setCells _ (.inr (by simp)) _ _ ?_))
      (first
        | ((with_reducible (go_at_call 48)); refine (rdig_any wd (tagN n) [S] _ _ _ (by first | exact s5 | exact ss1_drew _ _ | exact SsAt1 _ _ _ rfl) HT.out (by simp)).mono ?_; rw [HD.out]; rintro e6 w6 ⟨rfl, hx⟩; have KT6 : Hid (Kp [] W0 w6) := Lib.hid (by obtain ⟨bx, nx, rfl⟩ := hx; exact Kp.ext (by repeat first | with_reducible exact KT5.out | with_reducible refine Kp.drew ?_ | with_reducible refine Kp.alloc ?_ _) _ _); have b6 := B2.out.kp KT6.out (by simp); have t6 := there_blk b6 rfl d; clear hx)
        | ((with_reducible (go_at_call 19)); refine (rtag_any pa sa ka pc sc kc n _).mono ?_; rintro e5 w5 ⟨rfl, hx⟩; have k5 : Kp [] _ w5 := (by obtain ⟨bx, nx, rfl⟩ := hx; exact (Kp.refl [] _).ext _ _); have KT5 : Hid (Kp [] W0 w5) := Lib.hid (Kp.trans (by repeat first | with_reducible exact KC.out | with_reducible refine Kp.drew ?_ | with_reducible refine Kp.alloc ?_ _) k5); (try (with_reducible have s5 := SsAt.kp0 (ss1_drew w1 S) k5)); have sz5 := KT5.out.size; clear hx k5))
    all_goals go_wp2_with fail
    all_goals
      refine dg_ret2' (g := w.heap.size + 2) rfl rfl rfl (d := d) (b6.setDg rfl d) rfl ?_
      exact ⟨rfl, Kp.to_ext (Kp.setCells _ (.inl (by omega)) _ _ (KW.out.trans KT6.out))⟩
  · rw [show sumN p wd n = (Dg.zero, c) by unfold sumN; rw [hc, if_neg h0]]
    have hb : (c != 0) = true := by simpa using h0
    have H := Lib.hid h; have HO := Lib.hid ho
    have HC := Lib.hid hc
    clear h ho hc h0
    go_enter Tryz.func26, Tryz.ntmps26
    go_wp2_with fail
    refine (rplain_any p wd _ _ _ _ _ _ n _ (H.out.kp0 ((((Kp.refl [] _).alloc _).alloc _).alloc _)) HO.out).mono ?_
    rintro e w1 ⟨rfl, bs, m, rfl⟩
    rw [HC.out]
    go_wp2_with fail
    refine dg_ret2 rfl rfl rfl (d := Dg.zero) ?_ rfl ?_
    · simp [go_sem]
    · exact ⟨rfl, by (try simp only [alloc_ext, drew_ext, drewN_ext, ext_ext]); exact ⟨_, _, rfl⟩⟩

end Go.Proofs.YtemicgccgcmmbaaGreat

/- Both Emptys. -/
namespace Go.Proofs.YtemicgccgcmmbaaGreat
set_option linter.unusedVariables false
set_option linter.unusedSimpArgs false
open Go Go.RowKit

def noN : Nd := ⟨[], [], []⟩
theorem noN_at (w : World) : NdAt w none none none noN := ⟨PsAt.nil _ _, SsAt.nil _ _, KsAt.nil _ _⟩
theorem noN_ok : NdOk noN := ⟨by decide, by decide, by decide, by simp [noN], by simp [noN], by simp [noN]⟩

set_option maxHeartbeats 1000000 in set_option maxRecDepth 100000 in
theorem nempty_any (p wd : Int) (w : World) : Calls Tryz.prog 27 #[.agg #[.int .i64 p, .int .i64 wd]] w (Rets (.tuple #[.agg (sumN p wd noN).1.c, .int .i64 (sumN p wd noN).2]) w) := by
  obtain ⟨⟨d, e⟩, hd⟩ : ∃ x, sumN p wd noN = x := ⟨_, rfl⟩
  rw [hd]
  have HD := Lib.hid hd
  clear hd
  go_enter Tryz.func27, Tryz.ntmps27
  go_wp2_with fail
  refine (nsum_any p wd none none none 0 0 0 noN _ (noN_at _) noN_ok).mono ?_
  rintro e1 w1 ⟨rfl, bs, m, rfl⟩
  rw [HD.out]
  go_wp2_with fail
  refine dg_ret2 rfl rfl rfl (d := d) ?_ rfl ?_
  · simp [go_sem]
  · exact ⟨rfl, by (try simp only [alloc_ext, drew_ext, drewN_ext, ext_ext]); exact ⟨_, _, rfl⟩⟩

set_option maxHeartbeats 1000000 in set_option maxRecDepth 100000 in
theorem rempty_any (p wd : Int) (w : World) : Calls Tryz.prog 28 #[.agg #[.int .i64 p, .int .i64 wd]] w (Rets (.tuple #[.agg (sumN p wd noN).1.c, .int .i64 (sumN p wd noN).2]) w) := by
  obtain ⟨⟨d, e⟩, hd⟩ : ∃ x, sumN p wd noN = x := ⟨_, rfl⟩
  rw [hd]
  have HD := Lib.hid hd
  clear hd
  go_enter Tryz.func28, Tryz.ntmps28
  go_wp2_with fail
  refine (rsum07_any p wd none none none 0 0 0 noN _ (noN_at _) noN_ok).mono ?_
  rintro e1 w1 ⟨rfl, bs, m, rfl⟩
  rw [HD.out]
  go_wp2_with fail
  refine dg_ret2 rfl rfl rfl (d := d) ?_ rfl ?_
  · simp [go_sem]
  · exact ⟨rfl, by (try simp only [alloc_ext, drew_ext, drewN_ext, ext_ext]); exact ⟨_, _, rfl⟩⟩

end Go.Proofs.YtemicgccgcmmbaaGreat

/- append onto an owned slice, and what becomes of the old one: it reads as before. -/
namespace Go.Proofs.YtemicgccgcmmbaaGreat
set_option linter.unusedVariables false
set_option linter.unusedSimpArgs false
open Go Go.RowKit

section
variable {P : Program} (w : World)

theorem run_app2 (t tx ty e : TypeId) (i : TypeInfo) (z : Value) (size bytes : Nat) (ht : P.underlying t = some (.slice e)) (hi : P.info? e = some i) (hz : i.zero = some z)
    (hsize : i.size = size) (hby : i.bytes = bytes) (hzs : z.cells.size = size)
    (a : Option Addr) (n c : Nat) (xs : List Value) (hown : Own w e size a n c xs) (x : Value) (m : Nat) (news : List Value) (hs : Src P size tx x m news w)
    (hbytes : (n + m) * bytes ≤ 140737488355328) (h63 : n + m ≤ maxLen) :
    ∃ a' c' w', (Builtin.append_ #[t, tx] ty #[.slice a n c, x]).run P w = .ok (.slice a' (n + m) c') w' ∧ Own w' e size a' (n + m) c' (xs ++ news) ∧ Kp (ab a) w w' ∧ (∀ g ∈ ab a', g ∈ ab a ∨ w.heap.size ≤ g) ∧ Own w' e size a n c xs := by
  subst hsize
  subst hby
  have hlen : (xs ++ news).length = (n + m) * i.size := by rw [List.length_append, hown.1, hs.newsLen, Nat.add_mul]
  have grown : ∀ (old : Nat) (a0 : Option Addr), c = old → old < n + m → (Builtin.firstCells i.size n (.slice a0 n old)).run P w.drew = .ok xs.toArray w.drew →
      a0 = a → ∃ a' c' w', (Builtin.append_ #[t, tx] ty #[.slice a n c, x]).run P w = .ok (.slice a' (n + m) c') w' ∧ Own w' e i.size a' (n + m) c' (xs ++ news) ∧ Kp (ab a) w w' ∧ (∀ g ∈ ab a', g ∈ ab a ∨ w.heap.size ≤ g) ∧ Own w' e i.size a n c xs := by
    intro old a0 hc ho hf ha
    subst hc ha
    have hr := run_append_grow_src w t tx ty e i z ht hi hz a0 n c xs hf x m news hs ho (by simp only [maxLen] at h63; omega) (growslice_fits (by omega) hbytes)
    have hge := grownCap_ge w (n + m) c e
    have hcm : grownCap w (n + m) c e ≤ maxLen := grownCap_le_maxLen w (n + m) c e h63
    refine ⟨_, _, _, hr, ⟨hlen, .inr ⟨w.heap.size, _, _, rfl, Nat.zero_le _, heap_alloc_new w.drew _, hge, hcm, ?_, ?_⟩⟩, ((Kp.refl _ _).drew).alloc _, fun g hg => .inr (by simp [ab] at hg; omega), hown.kp (((Kp.refl [] _).drew).alloc _) (by simp)⟩
    · simp only [Array.size_append, List.size_toArray, size_zeroCells, hzs, hlen, ← Nat.add_mul]
      congr 1
      omega
    · simp only [Array.toList_append]
      rw [← hlen]
      exact List.take_left
  rcases hown.block.2 with ⟨rfl, rfl, rfl⟩ | ⟨g, cur, rfl, hb, hnc, hcm, hcs, htake⟩
  · have hx : xs = [] := List.eq_nil_of_length_eq_zero (by simpa using hown.1)
    subst hx
    by_cases hm : m = 0
    · subst hm
      have hn : news = [] := List.eq_nil_of_length_eq_zero (by simpa using hs.newsLen)
      subst hn
      refine ⟨none, 0, w, ?_, Own.nil w e i.size, Kp.refl _ _, by simp [ab], hown⟩
      rcases hs.kind with ⟨e', hk⟩ | hk <;> simp [Builtin.append_, run_underlying ht, run_underlying hk, sizeOf, typeInfo, hi, hs.len, hs.cells]
    · exact grown 0 none rfl (by omega) (by simp [Builtin.firstCells]) rfl
  · by_cases hroom : n + m ≤ c
    · have hfit : n * i.size + news.length ≤ cur.size := by rw [hs.newsLen, hcs, ← Nat.add_mul]; exact Nat.mul_le_mul_right _ hroom
      have hst := run_storeCells_at P g (n * i.size) e news 0 cur w hb (by simpa using hfit) hs.one
      simp only [Nat.add_zero] at hst
      refine ⟨some ⟨g, 0, none⟩, c, w.setRow g (cur.toList.take (n * i.size) ++ news ++ cur.toList.drop (n * i.size + news.length)).toArray, ?_, ⟨hlen, .inr ⟨g, c, (cur.toList.take (n * i.size) ++ news ++ cur.toList.drop (n * i.size + news.length)).toArray, rfl, Nat.zero_le _, setRow_heap w g cur _ e _ hb, hroom, hcm, ?_, ?_⟩⟩, (Kp.refl _ _).setRow _ _ (.inr (by simp [ab])), fun g' hg' => .inl hg', ?_⟩
      · rcases hs.kind with ⟨e', hk⟩ | hk <;> simp [Builtin.append_, run_underlying ht, run_underlying hk, sizeOf, typeInfo, hi, hs.len, hroom, hs.cells, Addr.add_lit, hst]
      · simp only [List.size_toArray, List.length_append, List.length_take, List.length_drop, Array.length_toList]
        omega
      · rw [htake, ← hlen]
        exact List.take_left
      · refine ⟨hown.1, .inr ⟨g, c, (cur.toList.take (n * i.size) ++ news ++ cur.toList.drop (n * i.size + news.length)).toArray, rfl, Nat.zero_le _, setRow_heap w g cur _ e _ hb, hnc, hcm, ?_, ?_⟩⟩
        · simp only [List.size_toArray, List.length_append, List.length_take, List.length_drop, Array.length_toList]
          omega
        · rw [htake, ← hown.1, List.append_assoc]
          exact List.take_left
    · have holds : ∀ j u, xs[j]? = some u → w.drew.cell? ((⟨g, 0, none⟩ : Addr).add j) = some u := hown.cells rfl
      exact grown c (some ⟨g, 0, none⟩) rfl (by omega) (run_firstCells_some w.drew i.size n ⟨g, 0, none⟩ n c xs hown.1 holds) rfl

theorem wp_app2 {o : Oper} {A : Act} {K : Act → World → Prop} {Q : Exit → Act → World → Prop} (s x : Operand) (t tx : TypeId)
    (ho : o.op = .call { callee := .builtin .append, args := #[s, x], argTypes := #[t, tx] })
    (e : TypeId) (i : TypeInfo) (z : Value) (size bytes : Nat) (ht : P.underlying t = some (.slice e)) (hi : P.info? e = some i) (hz : i.zero = some z)
    (hsize : i.size = size) (hby : i.bytes = bytes) (hzs : z.cells.size = size)
    (a : Option Addr) (n c : Nat) (xs : List Value) (hs : A.eval s = .slice a n c) (hown : Own w e size a n c xs) (m : Nat) (news : List Value) (hsrc : Src P size tx (A.eval x) m news w)
    (hbytes : (n + m) * bytes ≤ 140737488355328) (h63 : n + m ≤ maxLen)
    (h : ∀ a' c' w', Own w' e size a' (n + m) c' (xs ++ news) → Kp (ab a) w w' → (∀ g ∈ ab a', g ∈ ab a ∨ w.heap.size ≤ g) → Own w' e size a n c xs → K (A.put o.dst (.slice a' (n + m) c')) w') : o.wp P A w K Q := by
  obtain ⟨a', c', w', hr, h2, h3, h4, h5⟩ := run_app2 (P := P) w t tx o.type e i z size bytes ht hi hz hsize hby hzs a n c xs hown _ m news hsrc hbytes h63
  unfold Oper.wp execOp
  simp only [ho, resolve, invoke, builtin, Sem.run_bind, Sem.run_pure, Result.andThen_ok, List.map_toArray, List.map_cons, List.map_nil, hs, hr]
  exact h a' c' w' h2 h3 h4 h5

theorem wpList_app2 {ops : Array Oper} {rest : List Oper} {o : Oper} {A : Act} {Q : Exit → Act → World → Prop} (hgd : o.guard = none) (s x : Operand) (t tx : TypeId)
    (ho : o.op = .call { callee := .builtin .append, args := #[s, x], argTypes := #[t, tx] })
    (e : TypeId) (i : TypeInfo) (z : Value) (size bytes : Nat) (ht : P.underlying t = some (.slice e)) (hi : P.info? e = some i) (hz : i.zero = some z)
    (hsize : i.size = size) (hby : i.bytes = bytes) (hzs : z.cells.size = size)
    (a : Option Addr) (n c : Nat) (xs : List Value) (hs : A.eval s = .slice a n c) (hown : Own w e size a n c xs) (m : Nat) (news : List Value) (hsrc : Src P size tx (A.eval x) m news w)
    (hbytes : (n + m) * bytes ≤ 140737488355328) (h63 : n + m ≤ maxLen)
    (h : ∀ a' c' w', Own w' e size a' (n + m) c' (xs ++ news) → Kp (ab a) w w' → (∀ g ∈ ab a', g ∈ ab a ∨ w.heap.size ≤ g) → Own w' e size a n c xs → wpList P ops Q rest (A.put o.dst (.slice a' (n + m) c')) w') : wpList P ops Q (o :: rest) A w :=
  wpList_plain hgd fun _ hK => wp_app2 w s x t tx ho e i z size bytes ht hi hz hsize hby hzs a n c xs hs hown m news hsrc hbytes h63 fun a' c' w' h2 h3 h4 h5 => hK _ _ (h a' c' w' h2 h3 h4 h5)
end

theorem wpList_app2_pair {w : World} {ops : Array Oper} {rest : List Oper} {o : Oper} {A : Act} {Q : Exit → Act → World → Prop} (hgd : o.guard = none) {s x : Operand} {tx : TypeId}
    (ho : o.op = .call { callee := .builtin .append, args := #[s, x], argTypes := #[24, tx] })
    {a : Option Addr} {n c : Nat} {xs : List Value} (hs : A.eval s = .slice a n c) (hown : Own w 56 2 a n c xs) (m : Nat) (news : List Value) (hsrc : Src Tryz.prog 2 tx (A.eval x) m news w)
    (h63 : n + m ≤ 4398046511104)
    (h : ∀ a' c' w', Own w' 56 2 a' (n + m) c' (xs ++ news) → Kp (ab a) w w' → (∀ g ∈ ab a', g ∈ ab a ∨ w.heap.size ≤ g) → Own w' 56 2 a n c xs → wpList Tryz.prog ops Q rest (A.put o.dst (.slice a' (n + m) c')) w') : wpList Tryz.prog ops Q (o :: rest) A w := by
  obtain ⟨i0, hi, hz0, hz1, hz2⟩ := info_parts Tryz.infoPair
  exact wpList_app2 w hgd s x 24 tx ho 56 i0 (.agg #[.string ⟨#[]⟩, .string ⟨#[]⟩]) 2 32 Tryz.underlying24 hi hz0 hz1 hz2 rfl a n c xs hs hown m news hsrc (by omega) (by unfold maxLen; omega) h

theorem wpList_app2_kid {w : World} {ops : Array Oper} {rest : List Oper} {o : Oper} {A : Act} {Q : Exit → Act → World → Prop} (hgd : o.guard = none) {s x : Operand} {tx : TypeId}
    (ho : o.op = .call { callee := .builtin .append, args := #[s, x], argTypes := #[26, tx] })
    {a : Option Addr} {n c : Nat} {xs : List Value} (hs : A.eval s = .slice a n c) (hown : Own w 59 33 a n c xs) (m : Nat) (news : List Value) (hsrc : Src Tryz.prog 33 tx (A.eval x) m news w)
    (h63 : n + m ≤ 3909374676453)
    (h : ∀ a' c' w', Own w' 59 33 a' (n + m) c' (xs ++ news) → Kp (ab a) w w' → (∀ g ∈ ab a', g ∈ ab a ∨ w.heap.size ≤ g) → Own w' 59 33 a n c xs → wpList Tryz.prog ops Q rest (A.put o.dst (.slice a' (n + m) c')) w') : wpList Tryz.prog ops Q (o :: rest) A w := by
  obtain ⟨i0, hi, hz0, hz1, hz2⟩ := info_parts Tryz.infoKid
  exact wpList_app2 w hgd s x 26 tx ho 59 i0 (.agg Kd.zero.c) 33 36 Tryz.underlying26 hi hz0 hz1 hz2 (Kd.c_size Kd.zero) a n c xs hs hown m news hsrc (by omega) (by unfold maxLen; omega) h

theorem wpList_app2_str {w : World} {ops : Array Oper} {rest : List Oper} {o : Oper} {A : Act} {Q : Exit → Act → World → Prop} (hgd : o.guard = none) {s x : Operand} {tx : TypeId}
    (ho : o.op = .call { callee := .builtin .append, args := #[s, x], argTypes := #[25, tx] })
    {a : Option Addr} {n c : Nat} {xs : List Value} (hs : A.eval s = .slice a n c) (hown : Own w 9 1 a n c xs) (m : Nat) (news : List Value) (hsrc : Src Tryz.prog 1 tx (A.eval x) m news w)
    (h63 : n + m ≤ 8796093022208)
    (h : ∀ a' c' w', Own w' 9 1 a' (n + m) c' (xs ++ news) → Kp (ab a) w w' → (∀ g ∈ ab a', g ∈ ab a ∨ w.heap.size ≤ g) → Own w' 9 1 a n c xs → wpList Tryz.prog ops Q rest (A.put o.dst (.slice a' (n + m) c')) w') : wpList Tryz.prog ops Q (o :: rest) A w := by
  obtain ⟨i0, hi, hz0, hz1, hz2⟩ := info_parts Tryz.infoStr
  exact wpList_app2 w hgd s x 25 tx ho 9 i0 (.string ⟨#[]⟩) 1 16 Tryz.underlying25 hi hz0 hz1 hz2 rfl a n c xs hs hown m news hsrc (by omega) (by unfold maxLen; omega) h

end Go.Proofs.YtemicgccgcmmbaaGreat

/- lent: a node in lists of its own, with marks behind them. -/
namespace Go.Proofs.YtemicgccgcmmbaaGreat
set_option linter.unusedVariables false
set_option linter.unusedSimpArgs false
open Go Go.RowKit

def mkB : Bs := [109, 97, 114, 107]
def kMark : Kd := ⟨77, Dg.zero⟩
def Nd.mk1 (n : Nd) : Nd := ⟨n.pairs ++ [(mkB, [])], n.seps ++ [mkB], n.kids ++ [kMark]⟩

/-- What a law that holds up to a bulk asks of a node. -/
structure NdFew (n : Nd) : Prop where
  np : n.pairs.length ≤ 1048576
  ns : n.seps.length ≤ 1048576
  nk : n.kids.length ≤ 1048576

/-- A node in lists of its own, its three slices in a block. -/
structure LtI (w wr : World) (lo B3 : Nat) (nd : Array Value) (pb sb kb : Option Addr) (pd sd kd : Nat) (m : Nd) : Prop where
  kp : Kp [] w wr
  b0 : Blk wr w.heap.size 28 nd
  b1 : Blk wr (w.heap.size + 1) 28 #[.slice none 0 0, .slice none 0 0, .slice none 0 0]
  b3 : Blk wr B3 28 #[.slice pb m.pairs.length pd, .slice sb m.seps.length sd, .slice kb m.kids.length kd]
  own : Own3 wr lo pb sb kb pd sd kd m
  lw : w.heap.size + 1 < lo
  b3l : lo ≤ B3
  hi : ∀ g ∈ ab pb ++ ab sb ++ ab kb, g ≠ B3

theorem LtI.mid {w wr : World} {lo B3 : Nat} {nd : Array Value} {pb sb kb : Option Addr} {pd sd kd : Nat} {m : Nd} (h : LtI w wr lo B3 nd pb sb kb pd sd kd m) {S : List Nat} {o : Obj} {w2 : World} (k : Kp S (wr.alloc o) w2) (hs : ∀ g ∈ S, g ∈ ab pb ++ ab sb ++ ab kb) :
    Blk w2 B3 28 #[.slice pb m.pairs.length pd, .slice sb m.seps.length sd, .slice kb m.kids.length kd] :=
  (h.b3.alloc o).kp k (fun e => h.hi B3 (hs _ e) rfl)
theorem LtI.facts {w2 : World} {B3 : Nat} {x y z : Value} (h : Blk w2 B3 28 #[x, y, z]) :
    w2.cell? ⟨B3, 0, none⟩ = some x ∧ w2.cell? ⟨B3, 1, none⟩ = some y ∧ w2.cell? ⟨B3, 2, none⟩ = some z ∧ w2.frozen? ⟨B3, 0, none⟩ = false ∧ w2.frozen? ⟨B3, 1, none⟩ = false ∧ w2.frozen? ⟨B3, 2, none⟩ = false ∧ B3 < w2.heap.size :=
  ⟨h.cell 0, h.cell 1, h.cell 2, h.frozen 0, h.frozen 1, h.frozen 2, h.lt⟩

/-- A list has grown (or lies elsewhere now), and is written into the node. -/
theorem LtI.step {w wr : World} {lo B3 : Nat} {nd : Array Value} {pb sb kb : Option Addr} {pd sd kd : Nat} {m : Nd} (h : LtI w wr lo B3 nd pb sb kb pd sd kd m) {S : List Nat} {o : Obj} {w2 : World} (k : Kp S (wr.alloc o) w2) (hs : ∀ g ∈ S, g ∈ ab pb ++ ab sb ++ ab kb)
    {pb' sb' kb' : Option Addr} {pd' sd' kd' : Nat} {m' : Nd} {f : Nat} {v : Value}
    (hb : Blk (w2.setCell ⟨B3, f, none⟩ v) B3 28 #[.slice pb' m'.pairs.length pd', .slice sb' m'.seps.length sd', .slice kb' m'.kids.length kd'])
    (o1 : Own w2 56 2 pb' m'.pairs.length pd' (m'.pairs.flatMap csP)) (o2 : Own w2 9 1 sb' m'.seps.length sd' (m'.seps.flatMap csS)) (o3 : Own w2 59 33 kb' m'.kids.length kd' (m'.kids.flatMap csK))
    (hn : ∀ g ∈ ab pb' ++ ab sb' ++ ab kb', g ∈ ab pb ++ ab sb ++ ab kb ∨ (wr.alloc o).heap.size ≤ g) (d1 : ∀ g ∈ ab pb', g ∉ ab sb' ∧ g ∉ ab kb') (d2 : ∀ g ∈ ab sb', g ∉ ab kb') :
    LtI w (w2.setCell ⟨B3, f, none⟩ v) lo B3 nd pb' sb' kb' pd' sd' kd' m' := by
  have hlo : ∀ g ∈ ab pb' ++ ab sb' ++ ab kb', lo ≤ g ∧ g ≠ B3 := by
    intro g hg
    have hz := h.b3.lt
    have hb3 := h.b3l
    have hsz : (wr.alloc o).heap.size = wr.heap.size + 1 := by simp
    rcases hn g hg with h1 | h1
    · exact ⟨h.own.lo g h1, h.hi g h1⟩
    · exact ⟨by omega, by omega⟩
  have kv : Kp [B3] w2 (w2.setCell ⟨B3, f, none⟩ v) := (Kp.refl [B3] w2).setCell _ (.inr (by simp))
  have hlw := h.lw
  have hb3 := h.b3l
  have hS : ∀ x, x < lo → x ∉ S := fun x hx e => by have := h.own.lo x (hs x e); omega
  refine ⟨?_, ((h.b0.alloc o).kp k (hS _ (by omega))).kp kv (by simp; omega), ((h.b1.alloc o).kp k (hS _ (by omega))).kp kv (by simp; omega), hb, ?_, h.lw, h.b3l, fun g hg => (hlo g hg).2⟩
  · refine ((h.kp.alloc o).from k (fun g hg => .inl ?_)).from kv (fun g hg => .inl ?_)
    · have := h.own.lo g (hs g hg); omega
    · simp at hg; omega
  · exact Own3.kp ⟨o1, o2, o3, fun g hg => (hlo g hg).1, d1, d2⟩ kv (fun g hg => by have := (hlo g hg).2; simpa using this)

theorem LtI.start {w W w1 : World} {nd : Array Value} {pb sb kb : Option Addr} {pd sd kd : Nat} {n : Nd} (h0 : Blk W w.heap.size 28 nd) (h1 : Blk W (w.heap.size + 1) 28 #[.slice none 0 0, .slice none 0 0, .slice none 0 0]) (k0 : Kp [] w W) (k : Kp [] W w1) (ow : Own3 w1 W.heap.size pb sb kb pd sd kd n) :
    LtI w (w1.alloc (.cells #[.slice pb n.pairs.length pd, .slice sb n.seps.length sd, .slice kb n.kids.length kd] 28)) W.heap.size w1.heap.size nd pb sb kb pd sd kd n := by
  have ka : Kp [] w1 (w1.alloc (.cells #[.slice pb n.pairs.length pd, .slice sb n.seps.length sd, .slice kb n.kids.length kd] 28)) := (Kp.refl [] w1).alloc _
  refine ⟨(k0.trans k).trans ka, (h0.kp k (by simp)).kp ka (by simp), (h1.kp k (by simp)).kp ka (by simp), Blk.new w1 _ _, Own3.kp ow ka (by simp), h1.lt, k.size, ?_⟩
  intro g hg
  simp only [List.mem_append] at hg
  rcases hg with (hg | hg) | hg
  · have := ow.ps.lt g hg; omega
  · have := ow.ss.lt g hg; omega
  · have := ow.ks.lt g hg; omega

def LentPost (n : Nd) (w : World) (e : Ending) (w' : World) : Prop :=
  ∃ gp gs gk pc sc kc, e = .returned (.agg #[.slice (some ⟨gp, 0, none⟩) n.pairs.length pc, .slice (some ⟨gs, 0, none⟩) n.seps.length sc, .slice (some ⟨gk, 0, none⟩) n.kids.length kc]) ∧ Own3 w' w.heap.size (some ⟨gp, 0, none⟩) (some ⟨gs, 0, none⟩) (some ⟨gk, 0, none⟩) pc sc kc n.mk1 ∧ Kp [] w w'

theorem LtI.pairs {w wr : World} {lo B3 : Nat} {nd : Array Value} {pb sb kb : Option Addr} {pd sd kd : Nat} {m : Nd} (h : LtI w wr lo B3 nd pb sb kb pd sd kd m) {o : Obj} {w2 : World} (k : Kp (ab pb) (wr.alloc o) w2) {pb' : Option Addr} {pd' : Nat} {x : Pr}
    (ow : Own w2 56 2 pb' (m.pairs.length + 1) pd' (m.pairs.flatMap csP ++ csP x)) (hn : ∀ g ∈ ab pb', g ∈ ab pb ∨ (wr.alloc o).heap.size ≤ g) :
    LtI w (w2.setCell ⟨B3, 0, none⟩ (.slice pb' (m.pairs.length + 1) pd')) lo B3 nd pb' sb kb pd' sd kd ⟨m.pairs ++ [x], m.seps, m.kids⟩ := by
  have hm := h.mid k (fun g hg => by simp [hg])
  have hz : (wr.alloc o).heap.size = wr.heap.size + 1 := by simp
  have k0 : Kp [] wr (wr.alloc o) := (Kp.refl [] wr).alloc o
  refine h.step k (fun g hg => by simp [hg]) ?_ ?_ ((h.own.ss.kp k0 (by simp)).kp k (fun g hg h' => (h.own.d1 g h').1 hg)) ((h.own.ks.kp k0 (by simp)).kp k (fun g hg h' => (h.own.d1 g h').2 hg)) ?_ ?_ h.own.d2
  · have := hm.set 0 (.slice pb' (m.pairs.length + 1) pd'); simpa using this
  · simpa [List.flatMap_append] using ow
  · intro g hg
    simp only [List.mem_append] at hg ⊢
    rcases hg with (hg | hg) | hg
    · rcases hn g hg with h1 | h1
      · exact .inl (.inl (.inl h1))
      · exact .inr h1
    · exact .inl (.inl (.inr hg))
    · exact .inl (.inr hg)
  · intro g hg
    rcases hn g hg with h1 | h1
    · exact h.own.d1 g h1
    · exact ⟨fun e => by have := h.own.ss.lt g e; omega, fun e => by have := h.own.ks.lt g e; omega⟩
theorem LtI.texts {w wr : World} {lo B3 : Nat} {nd : Array Value} {pb sb kb : Option Addr} {pd sd kd : Nat} {m : Nd} (h : LtI w wr lo B3 nd pb sb kb pd sd kd m) {o : Obj} {w2 : World} (k : Kp (ab sb) (wr.alloc o) w2) {sb' : Option Addr} {sd' : Nat} {x : Bs}
    (ow : Own w2 9 1 sb' (m.seps.length + 1) sd' (m.seps.flatMap csS ++ csS x)) (hn : ∀ g ∈ ab sb', g ∈ ab sb ∨ (wr.alloc o).heap.size ≤ g) :
    LtI w (w2.setCell ⟨B3, 1, none⟩ (.slice sb' (m.seps.length + 1) sd')) lo B3 nd pb sb' kb pd sd' kd ⟨m.pairs, m.seps ++ [x], m.kids⟩ := by
  have hm := h.mid k (fun g hg => by simp [hg])
  have hz : (wr.alloc o).heap.size = wr.heap.size + 1 := by simp
  have k0 : Kp [] wr (wr.alloc o) := (Kp.refl [] wr).alloc o
  refine h.step k (fun g hg => by simp [hg]) ?_ ((h.own.ps.kp k0 (by simp)).kp k (fun g hg h' => (h.own.d1 g hg).1 h')) ?_ ((h.own.ks.kp k0 (by simp)).kp k (fun g hg h' => h.own.d2 g h' hg)) ?_ ?_ ?_
  · have := hm.set 1 (.slice sb' (m.seps.length + 1) sd'); simpa using this
  · simpa [List.flatMap_append] using ow
  · intro g hg
    simp only [List.mem_append] at hg ⊢
    rcases hg with (hg | hg) | hg
    · exact .inl (.inl (.inl hg))
    · rcases hn g hg with h1 | h1
      · exact .inl (.inl (.inr h1))
      · exact .inr h1
    · exact .inl (.inr hg)
  · intro g hg
    refine ⟨fun e => ?_, (h.own.d1 g hg).2⟩
    rcases hn g e with h1 | h1
    · exact (h.own.d1 g hg).1 h1
    · have := h.own.ps.lt g hg; omega
  · intro g hg
    rcases hn g hg with h1 | h1
    · exact h.own.d2 g h1
    · exact fun e => by have := h.own.ks.lt g e; omega
theorem LtI.kids {w wr : World} {lo B3 : Nat} {nd : Array Value} {pb sb kb : Option Addr} {pd sd kd : Nat} {m : Nd} (h : LtI w wr lo B3 nd pb sb kb pd sd kd m) {o : Obj} {w2 : World} (k : Kp (ab kb) (wr.alloc o) w2) {kb' : Option Addr} {kd' : Nat} {x : Kd}
    (ow : Own w2 59 33 kb' (m.kids.length + 1) kd' (m.kids.flatMap csK ++ csK x)) (hn : ∀ g ∈ ab kb', g ∈ ab kb ∨ (wr.alloc o).heap.size ≤ g) :
    LtI w (w2.setCell ⟨B3, 2, none⟩ (.slice kb' (m.kids.length + 1) kd')) lo B3 nd pb sb kb' pd sd kd' ⟨m.pairs, m.seps, m.kids ++ [x]⟩ := by
  have hm := h.mid k (fun g hg => by simp [hg])
  have hz : (wr.alloc o).heap.size = wr.heap.size + 1 := by simp
  have k0 : Kp [] wr (wr.alloc o) := (Kp.refl [] wr).alloc o
  refine h.step k (fun g hg => by simp [hg]) ?_ ((h.own.ps.kp k0 (by simp)).kp k (fun g hg h' => (h.own.d1 g hg).2 h')) ((h.own.ss.kp k0 (by simp)).kp k (fun g hg h' => h.own.d2 g hg h')) ?_ ?_ ?_ ?_
  · have := hm.set 2 (.slice kb' (m.kids.length + 1) kd'); simpa using this
  · simpa [List.flatMap_append] using ow
  · intro g hg
    simp only [List.mem_append] at hg ⊢
    rcases hg with (hg | hg) | hg
    · exact .inl (.inl (.inl hg))
    · exact .inl (.inl (.inr hg))
    · rcases hn g hg with h1 | h1
      · exact .inl (.inr h1)
      · exact .inr h1
  · intro g hg
    refine ⟨(h.own.d1 g hg).1, fun e => ?_⟩
    rcases hn g e with h1 | h1
    · exact (h.own.d1 g hg).2 h1
    · have := h.own.ps.lt g hg; omega
  · intro g hg e
    rcases hn g e with h1 | h1
    · exact h.own.d2 g hg h1
    · have := h.own.ss.lt g hg; omega

end Go.Proofs.YtemicgccgcmmbaaGreat

/- lent: the walk. -/
namespace Go.Proofs.YtemicgccgcmmbaaGreat
set_option linter.unusedVariables false
set_option linter.unusedSimpArgs false
open Go Go.RowKit

theorem own_some {w : World} {e : TypeId} {size : Nat} {a : Option Addr} {n c : Nat} {xs : List Value} (h : Own w e size a n c xs) (h0 : 0 < n) : ∃ g, a = some ⟨g, 0, none⟩ ∧ n ≤ c ∧ c ≤ maxLen := by
  rcases h.block.2 with ⟨_, h1, _⟩ | ⟨g, cur, h1, hb, h2, h3, _⟩
  · omega
  · exact ⟨g, h1, h2, h3⟩
theorem mark_str : (⟨#[109, 97, 114, 107]⟩ : ByteArray) = ⟨mkB.toArray⟩ := rfl
set_option maxHeartbeats 4000000 in
set_option maxRecDepth 100000 in
theorem lent_any (pa sa ka : Option Addr) (pc sc kc : Nat) (n : Nd) (w : World) (h : NdAt w pa sa ka n) (ho : NdOk n) (hf : NdFew n) :
    Calls Tryz.prog 21 #[.agg #[.slice pa n.pairs.length pc, .slice sa n.seps.length sc, .slice ka n.kids.length kc]] w (LentPost n w) := by
  have fp := hf.np; have fs := hf.ns; have fk := hf.nk
  obtain ⟨W0, hW0⟩ : ∃ W0, W0 = (w.alloc (.cells #[.slice pa n.pairs.length pc, .slice sa n.seps.length sc, .slice ka n.kids.length kc] 28)).alloc (.cells #[.slice none 0 0, .slice none 0 0, .slice none 0 0] 28) := ⟨_, rfl⟩
  have kw : Kp [] w W0 := by rw [hW0]; exact ((Kp.refl [] w).alloc _).alloc _
  have b0 : Blk W0 w.heap.size 28 #[.slice pa n.pairs.length pc, .slice sa n.seps.length sc, .slice ka n.kids.length kc] := by rw [hW0]; exact (Blk.new w _ _).alloc _
  have b1 : Blk W0 (w.heap.size + 1) 28 #[.slice none 0 0, .slice none 0 0, .slice none 0 0] := by
    rw [hW0]
    have h := Blk.new (w.alloc (.cells #[.slice pa n.pairs.length pc, .slice sa n.seps.length sc, .slice ka n.kids.length kc] 28)) 28 #[.slice none 0 0, .slice none 0 0, .slice none 0 0]
    simpa using h
  have KW := Lib.hid kw; have B0 := Lib.hid b0; have B1 := Lib.hid b1; have H := Lib.hid (h.kp0 kw); have HO := Lib.hid ho
  have HW0 := Lib.hid hW0
  clear h kw b0 b1 ho hf hW0
  go_enter Tryz.func21, Tryz.ntmps21
  go_wp2_with fail
  rw [← HW0.out]
  refine (refCopy_any _ _ _ _ _ _ n _ H.out HO.out).mono ?_
  rintro e w1 ⟨pb, sb, kb, pd, sd, kd, rfl, ow, k1⟩
  have L1 := Lib.hid (LtI.start B0.out B1.out KW.out k1 ow)
  have z1 := ow.ps.block.1
  clear ow k1
  go_wp2_with (first
    | (at_builtin; refine wpList_app2_pair rfl rfl rfl (L1.out.own.ps.kp ((Kp.refl [] _).alloc _) (by simp)) 1 _ (src_row Tryz.underlying24 _ _ _ _ (by simp) rfl (by simp [Value.oneCell'])) (by omega) ?_; intro pb2 pd2 w2 o2 k2 n2 _o; have L2 := Lib.hid (LtI.pairs (x := (mkB, [])) L1.out k2 o2 n2); obtain ⟨y0, y1, y2, y3, y4, y5, y6⟩ := LtI.facts (L1.out.mid k2 (fun g hg => by simp [hg])); clear o2 k2 n2)
    | (at_builtin; refine wpList_app2_str rfl rfl rfl (L2.out.own.ss.kp ((Kp.refl [] _).alloc _) (by simp)) 1 _ (src_row Tryz.underlying25 _ _ _ _ (by simp) rfl (by simp [Value.oneCell'])) (by omega) ?_; intro sb2 sd2 w3 o3 k3 n3 _o; have L3 := Lib.hid (LtI.texts (x := mkB) L2.out k3 o3 n3); obtain ⟨y0, y1, y2, y3, y4, y5, y6⟩ := LtI.facts (L2.out.mid k3 (fun g hg => by simp [hg])); clear o3 k3 n3)
    | (at_builtin; refine wpList_app2_kid rfl rfl rfl (L3.out.own.ks.kp ((Kp.refl [] _).alloc _) (by simp)) 1 _ (src_row Tryz.underlying26 _ _ _ _ (by simp) (Kd.c_size kMark) (Kd.c_one kMark)) (by omega) ?_; intro kb2 kd2 w4 o4 k4 n4 _o; have L4 := Lib.hid (LtI.kids (x := kMark) L3.out k4 o4 n4); obtain ⟨y0, y1, y2, y3, y4, y5, y6⟩ := LtI.facts (L3.out.mid k4 (fun g hg => by simp [hg])); clear o4 k4 n4))
  clear y0 y1 y2 y3 y4 y5 y6
  obtain ⟨gp, rfl, hc1, hm1⟩ := own_some L4.out.own.ps (by simp)
  obtain ⟨gs, rfl, hc2, hm2⟩ := own_some L4.out.own.ss (by simp)
  obtain ⟨gk, rfl, hc3, hm3⟩ := own_some L4.out.own.ks (by simp)
  simp only [List.length_append, List.length_cons, List.length_nil, Nat.zero_add] at hc1 hc2 hc3
  obtain ⟨W5, hW5⟩ : ∃ W, W = w4.setCell ⟨w1.heap.size, 2, none⟩ (.slice (some ⟨gk, 0, none⟩) (n.kids.length + 1) kd2) := ⟨_, rfl⟩
  have L6 : Hid (LtI w W5 W0.heap.size w1.heap.size #[.slice pa n.pairs.length pc, .slice sa n.seps.length sc, .slice ka n.kids.length kc] (some ⟨gp, 0, none⟩) (some ⟨gs, 0, none⟩) (some ⟨gk, 0, none⟩) pd2 sd2 kd2 n.mk1) := by rw [hW5]; exact L4
  rw [← hW5]
  clear L1 L2 L3 L4 hW5
  have ln1 : n.mk1.pairs.length = n.pairs.length + 1 := by simp [Nd.mk1]
  have ln2 : n.mk1.seps.length = n.seps.length + 1 := by simp [Nd.mk1]
  have ln3 : n.mk1.kids.length = n.kids.length + 1 := by simp [Nd.mk1]
  have hne : w1.heap.size ≠ w.heap.size + 1 := by have := L6.out.lw; have := L6.out.b3l; omega
  have SK : Hid (∀ W : World, Kp [w.heap.size + 1] W5 W → (W.cell? ⟨w.heap.size, 0, none⟩ = some (.slice pa n.pairs.length pc) ∧ W.cell? ⟨w.heap.size, 1, none⟩ = some (.slice sa n.seps.length sc) ∧ W.cell? ⟨w.heap.size, 2, none⟩ = some (.slice ka n.kids.length kc) ∧ W.cell? ⟨w1.heap.size, 0, none⟩ = some (.slice (some ⟨gp, 0, none⟩) (n.pairs.length + 1) pd2) ∧ W.cell? ⟨w1.heap.size, 1, none⟩ = some (.slice (some ⟨gs, 0, none⟩) (n.seps.length + 1) sd2) ∧ W.cell? ⟨w1.heap.size, 2, none⟩ = some (.slice (some ⟨gk, 0, none⟩) (n.kids.length + 1) kd2))) := Lib.hid (fun W k => by
    have c0 := L6.out.b0.kp k (by simp)
    have c3 := L6.out.b3.kp k (by simpa using hne)
    rw [ln1, ln2, ln3] at c3
    exact ⟨c0.cell 0, c0.cell 1, c0.cell 2, c3.cell 0, c3.cell 1, c3.cell 2⟩)
  obtain ⟨y0, y1, y2, y3, y4, y5, y6⟩ := LtI.facts L6.out.b1
  clear ln1 ln2 ln3
  have i1 : (n.pairs.length : Int) ≤ (pd2 : Int) := by omega
  have i2 : (n.seps.length : Int) ≤ (sd2 : Int) := by omega
  have i3 : (n.kids.length : Int) ≤ (kd2 : Int) := by omega
  have j1 : (0 : Int) ≤ (n.pairs.length : Int) := by omega
  have j2 : (0 : Int) ≤ (n.seps.length : Int) := by omega
  have j3 : (0 : Int) ≤ (n.kids.length : Int) := by omega
  have l1 : n.pairs.length ≤ pd2 := by omega
  have l2 : n.seps.length ≤ sd2 := by omega
  have l3 : n.kids.length ≤ kd2 := by omega
  go_region_held3 (fun W => W.cell? ⟨w.heap.size, 0, none⟩ = some (.slice pa n.pairs.length pc) ∧ W.cell? ⟨w.heap.size, 1, none⟩ = some (.slice sa n.seps.length sc) ∧ W.cell? ⟨w.heap.size, 2, none⟩ = some (.slice ka n.kids.length kc) ∧ W.cell? ⟨w1.heap.size, 0, none⟩ = some (.slice (some ⟨gp, 0, none⟩) (n.pairs.length + 1) pd2) ∧ W.cell? ⟨w1.heap.size, 1, none⟩ = some (.slice (some ⟨gs, 0, none⟩) (n.seps.length + 1) sd2) ∧ W.cell? ⟨w1.heap.size, 2, none⟩ = some (.slice (some ⟨gk, 0, none⟩) (n.kids.length + 1) kd2))
    (first | exact SK.out _ ((((Kp.refl [w.heap.size + 1] W5).drew.setCell _ (.inr (by simp))).setCell _ (.inr (by simp))).setCell _ (.inr (by simp))) | exact SK.out _ ((Kp.refl _ _).drew))
    (fail)
  all_goals go_wp2_with fail
  all_goals
    have kG : Kp [w.heap.size + 1] W5 (((W5.setCell ⟨w.heap.size + 1, 0, none⟩ (.slice (some ⟨gp, 0, none⟩) n.pairs.length pd2)).setCell ⟨w.heap.size + 1, 1, none⟩ (.slice (some ⟨gs, 0, none⟩) n.seps.length sd2)).setCell ⟨w.heap.size + 1, 2, none⟩ (.slice (some ⟨gk, 0, none⟩) n.kids.length kd2)).drew := ((((Kp.refl [w.heap.size + 1] W5).setCell _ (.inr (by simp))).setCell _ (.inr (by simp))).setCell _ (.inr (by simp))).drew
    have hb : Blk (((W5.setCell ⟨w.heap.size + 1, 0, none⟩ (.slice (some ⟨gp, 0, none⟩) n.pairs.length pd2)).setCell ⟨w.heap.size + 1, 1, none⟩ (.slice (some ⟨gs, 0, none⟩) n.seps.length sd2)).setCell ⟨w.heap.size + 1, 2, none⟩ (.slice (some ⟨gk, 0, none⟩) n.kids.length kd2)).drew (w.heap.size + 1) 28 #[.slice (some ⟨gp, 0, none⟩) n.pairs.length pd2, .slice (some ⟨gs, 0, none⟩) n.seps.length sd2, .slice (some ⟨gk, 0, none⟩) n.kids.length kd2] := by
      have h := (((L6.out.b1.set 0 (.slice (some ⟨gp, 0, none⟩) n.pairs.length pd2)).set 1 (.slice (some ⟨gs, 0, none⟩) n.seps.length sd2)).set 2 (.slice (some ⟨gk, 0, none⟩) n.kids.length kd2)).drew
      simpa using h
    have hlw := L6.out.lw
    refine nd_ret1 (w.heap.size + 1) rfl rfl hb rfl ⟨gp, gs, gk, pd2, sd2, kd2, rfl, Own3.le (L6.out.own.kp kG (fun g hg => by have := L6.out.own.lo g hg; simp; omega)) (by omega), L6.out.kp.from kG (fun g hg => by simp at hg; subst hg; exact .inl (by omega))⟩

end Go.Proofs.YtemicgccgcmmbaaGreat

/- kept: a lent node is as it was, its marks too. -/
namespace Go.Proofs.YtemicgccgcmmbaaGreat
set_option linter.unusedVariables false
set_option linter.unusedSimpArgs false
open Go Go.RowKit

theorem SsAt.take {w : World} {a : Option Addr} {l : List Bs} (h : SsAt w a l) (k : Nat) : SsAt w a (l.take k) := fun i p hp => by
  rw [List.getElem?_take] at hp
  split at hp
  · exact h i p hp
  · cases hp
theorem KsAt.take {w : World} {a : Option Addr} {l : List Kd} (h : KsAt w a l) (k : Nat) : KsAt w a (l.take k) := fun i p hp => by
  rw [List.getElem?_take] at hp
  split at hp
  · exact h i p hp
  · cases hp
theorem PsAt.pre {w : World} {a : Option Addr} {l m : List Pr} (h : PsAt w a (l ++ m)) : PsAt w a l := fun i p hp => h i p (by rw [List.getElem?_append_left (List.getElem?_eq_some_iff.1 hp).1]; exact hp)
theorem SsAt.pre {w : World} {a : Option Addr} {l m : List Bs} (h : SsAt w a (l ++ m)) : SsAt w a l := fun i p hp => h i p (by rw [List.getElem?_append_left (List.getElem?_eq_some_iff.1 hp).1]; exact hp)
theorem KsAt.pre {w : World} {a : Option Addr} {l m : List Kd} (h : KsAt w a (l ++ m)) : KsAt w a l := fun i p hp => h i p (by rw [List.getElem?_append_left (List.getElem?_eq_some_iff.1 hp).1]; exact hp)

/-- A lent node, and its marks. -/
theorem Own3.lent {w : World} {lo gp gs gk pc sc kc : Nat} {n : Nd} (h : Own3 w lo (some ⟨gp, 0, none⟩) (some ⟨gs, 0, none⟩) (some ⟨gk, 0, none⟩) pc sc kc n.mk1) :
    NdAt w (some ⟨gp, 0, none⟩) (some ⟨gs, 0, none⟩) (some ⟨gk, 0, none⟩) n ∧ w.cell? ⟨gp, n.pairs.length * 2, none⟩ = some (.string ⟨#[109, 97, 114, 107]⟩) ∧ w.cell? ⟨gs, n.seps.length, none⟩ = some (.string ⟨#[109, 97, 114, 107]⟩) ∧ w.cell? ⟨gk, n.kids.length * 33, none⟩ = some (.int .u32 77) ∧
      (gp < w.heap.size ∧ gs < w.heap.size ∧ gk < w.heap.size) ∧ n.pairs.length + 1 ≤ pc ∧ n.seps.length + 1 ≤ sc ∧ n.kids.length + 1 ≤ kc := by
  have ha := h.at
  have l1 : n.mk1.pairs.length = n.pairs.length + 1 := by simp [Nd.mk1]
  have l2 : n.mk1.seps.length = n.seps.length + 1 := by simp [Nd.mk1]
  have l3 : n.mk1.kids.length = n.kids.length + 1 := by simp [Nd.mk1]
  obtain ⟨b, o, e, hb1, c1, _⟩ := ha.ps n.pairs.length (mkB, []) (by simp [Nd.mk1])
  cases e
  obtain ⟨b, o, e, hb2, c2⟩ := ha.ss n.seps.length mkB (by simp [Nd.mk1])
  cases e
  obtain ⟨b, o, e, hb3, r3⟩ := ha.ks n.kids.length kMark (by simp [Nd.mk1])
  cases e
  have cp := (rowAt?_cell r3).2 0 _ (Kd.get0 kMark)
  refine ⟨⟨ha.ps.pre, ha.ss.pre, ha.ks.pre⟩, by simpa [mkB] using c1, by simpa [mkB] using c2, by simpa [Addr.add_lit, kMark] using cp, ⟨hb1, hb2, hb3⟩, ?_, ?_, ?_⟩
  · obtain ⟨g, _, h1, _⟩ := own_some h.ps (by omega); omega
  · obtain ⟨g, _, h1, _⟩ := own_some h.ss (by omega); omega
  · obtain ⟨g, _, h1, _⟩ := own_some h.ks (by omega); omega

theorem refSame_true (pa sa ka qa ta la : Option Addr) (pc sc kc qc tc lc : Nat) (x y : Nd) (w : World) (hx : NdAt w pa sa ka x) (hy : NdAt w qa ta la y) (ox : NdOk x) (oy : NdOk y) (h : x = y) :
    Calls Tryz.prog 10 #[.agg #[.slice pa x.pairs.length pc, .slice sa x.seps.length sc, .slice ka x.kids.length kc], .agg #[.slice qa y.pairs.length qc, .slice ta y.seps.length tc, .slice la y.kids.length lc]] w (Rets (.bool true) w) := by
  have := refSame_any pa sa ka qa ta la pc sc kc qc tc lc x y w hx hy ox oy
  rwa [decide_eq_true h] at this

set_option maxHeartbeats 1000000 in set_option maxRecDepth 100000 in
theorem kept_any (gp gs gk pc sc kc : Nat) (lo : Nat) (qa ta la : Option Addr) (qc tc lc : Nat) (n : Nd) (w : World) (hx : Own3 w lo (some ⟨gp, 0, none⟩) (some ⟨gs, 0, none⟩) (some ⟨gk, 0, none⟩) pc sc kc n.mk1) (hy : NdAt w qa ta la n) (ho : NdOk n) (hf : NdFew n) :
    Calls Tryz.prog 25 #[.agg #[.slice (some ⟨gp, 0, none⟩) n.pairs.length pc, .slice (some ⟨gs, 0, none⟩) n.seps.length sc, .slice (some ⟨gk, 0, none⟩) n.kids.length kc], .agg #[.slice qa n.pairs.length qc, .slice ta n.seps.length tc, .slice la n.kids.length lc]] w
      (Rets (.bool true) w) := by
  obtain ⟨hn, c1, c2, c3, ⟨g1, g2, g3⟩, k1, k2, k3⟩ := hx.lent
  have fp := hf.np; have fs := hf.ns; have fk := hf.nk
  have HN := Lib.hid hn; have HY := Lib.hid hy; have HO := Lib.hid ho
  clear hn hy ho hf hx
  have e1 : IntKind.i64.wrap ((n.pairs.length : Int) + 1) = n.pairs.length + 1 := IntWalk.i64_in _ (by omega)
  have e2 : IntKind.i64.wrap ((n.seps.length : Int) + 1) = n.seps.length + 1 := IntWalk.i64_in _ (by omega)
  have e3 : IntKind.i64.wrap ((n.kids.length : Int) + 1) = n.kids.length + 1 := IntWalk.i64_in _ (by omega)
  have i1 : (n.pairs.length : Int) + 1 ≤ (pc : Int) := by omega
  have i2 : (n.seps.length : Int) + 1 ≤ (sc : Int) := by omega
  have i3 : (n.kids.length : Int) + 1 ≤ (kc : Int) := by omega
  have j1 : (0 : Int) ≤ (n.pairs.length : Int) + 1 := by omega
  have j2 : (0 : Int) ≤ (n.seps.length : Int) + 1 := by omega
  have j3 : (0 : Int) ≤ (n.kids.length : Int) + 1 := by omega
  go_enter Tryz.func25, Tryz.ntmps25
  go_wp2_with fail
  refine wp_region_ext (by kernel_rfl) (by kernel_rfl) ?_
  repeat (go_big_quiet_step (fail))
  (refine wpQuiet_nil ?_; intro _ hw'; obtain ⟨⟨bsq, nq⟩, hw''⟩ := hw'; subst hw'')
  clear e1 e2 e3 i1 i2 i3 j1 j2 j3
  go_wp2_with fail
  refine (refSame_true _ _ _ _ _ _ _ _ _ _ _ _ n n _ (HN.out.kp0 ((Kp.refl [] _).alloc _ |>.alloc _ |>.ext _ _)) (HY.out.kp0 ((Kp.refl [] _).alloc _ |>.alloc _ |>.ext _ _)) HO.out HO.out rfl).mono ?_
  rintro e w' ⟨rfl, bs, m, rfl⟩
  go_wp2_with fail
  go_ret
  exact ⟨rfl, by (try simp only [alloc_ext, drew_ext, drewN_ext, ext_ext]); exact ⟨_, _, rfl⟩⟩

end Go.Proofs.YtemicgccgcmmbaaGreat
