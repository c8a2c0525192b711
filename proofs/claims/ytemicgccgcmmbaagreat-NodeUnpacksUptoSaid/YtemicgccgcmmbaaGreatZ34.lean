/- The document's Plain, Pack, Sum, Empty; the program's Empty. -/
import Derived.Test.YtemicgccgcmmbaaGreatZ33
import Derived.Test.YtemicgccgcmmbaaGreatZ25
import Derived.Deep.RegionHeld3
namespace Go.Proofs.YtemicgccgcmmbaaGreat
set_option linter.unusedVariables false
set_option linter.unusedSimpArgs false
open Go Go.RowKit

set_option maxHeartbeats 1000000 in set_option maxRecDepth 100000 in
theorem rplain_any (p wd : Int) (pa sa ka : Option Addr) (pc sc kc : Nat) (n : Nd) (w : World) (h : NdAt w pa sa ka n) (ho : NdOk n) :
    Calls Tryz.prog 24 #[.agg #[.int .i64 p, .int .i64 wd], .agg #[.slice pa n.pairs.length pc, .slice sa n.seps.length sc, .slice ka n.kids.length kc]] w (Rets (.tuple #[.string ⟨(plainS p wd n).toArray⟩, .int .i64 (mayE p wd n)]) w) := by
  by_cases hc : checkE p wd n = 0
  · have hr := rightB_iff.1 (checkE_ok hc).1
    obtain ⟨P, rfl⟩ := Int.eq_ofNat_of_zero_le (show 0 ≤ p by omega)
    obtain ⟨d, rfl⟩ := Int.eq_ofNat_of_zero_le (show 0 ≤ wd by omega)
    have hs : SizeE P d n = sizeN d n := by unfold SizeE; rw [if_pos hc]; rfl
    have hP0 : 1024 ≤ P := by omega
    have hP : P ≤ 8192 := by omega
    have hm : mayE P d n = if P - 32 < sizeN d n then 71 else 0 := by unfold mayE; rw [if_pos hc]; rfl
    have K0 : Kp [] w ((w.alloc (.cells #[.int .i64 P, .int .i64 d] 23)).alloc (.cells #[.slice pa n.pairs.length pc, .slice sa n.seps.length sc, .slice ka n.kids.length kc] 28)) := ((Kp.refl [] w).alloc _).alloc _
    obtain ⟨W0, hW0⟩ : ∃ W0, W0 = (w.alloc (.cells #[.int .i64 P, .int .i64 d] 23)).alloc (.cells #[.slice pa n.pairs.length pc, .slice sa n.seps.length sc, .slice ka n.kids.length kc] 28) := ⟨_, rfl⟩
    rw [← hW0] at K0
    have b0 : Blk W0 w.heap.size 23 #[.int .i64 P, .int .i64 d] := by rw [hW0]; exact (Blk.new w _ _).alloc _
    have b1 : Blk W0 (w.heap.size + 1) 28 #[.slice pa n.pairs.length pc, .slice sa n.seps.length sc, .slice ka n.kids.length kc] := by
      rw [hW0]
      have h := Blk.new (w.alloc (.cells #[.int .i64 P, .int .i64 d] 23)) 28 #[.slice pa n.pairs.length pc, .slice sa n.seps.length sc, .slice ka n.kids.length kc]
      simpa using h
    have SK : Hid (∀ W : World, Kp [] W0 W → (W.cell? ⟨w.heap.size, 0, none⟩ = some (.int .i64 P) ∧ W.cell? ⟨w.heap.size, 1, none⟩ = some (.int .i64 d) ∧ W.cell? ⟨w.heap.size + 1, 0, none⟩ = some (.slice pa n.pairs.length pc) ∧ W.cell? ⟨w.heap.size + 1, 1, none⟩ = some (.slice sa n.seps.length sc) ∧ W.cell? ⟨w.heap.size + 1, 2, none⟩ = some (.slice ka n.kids.length kc)) ∧ w.heap.size + 1 < W.heap.size) := Lib.hid (fun W k =>
      ⟨⟨(b0.kp k (by simp)).cell 0, (b0.kp k (by simp)).cell 1, (b1.kp k (by simp)).cell 0, (b1.kp k (by simp)).cell 1, (b1.kp k (by simp)).cell 2⟩, (b1.kp k (by simp)).lt⟩)
    have HK := Lib.hid (h.kp0 K0); have KW := Lib.hid K0; have HO := Lib.hid ho; have HC := Lib.hid hc; have HM := Lib.hid hm; have HW0 := Lib.hid hW0; have HS := Lib.hid hs
    have hz1 := b1.lt
    clear h ho K0 b0 b1 hm hW0 hs hr hc
    by_cases hbig : P - 32 < sizeN d n
    · have hmm : mayE P d n = 71 := by rw [HM.out, if_pos hbig]
      have hps : plainS P d n = [] := by unfold plainS; rw [hmm]; rfl
      have dd : decide (((P - 32 : Nat) : Int) < ((sizeN d n : Nat) : Int)) = true := decide_eq_true (by omega)
      rw [hmm, hps]
      clear hmm hps
      obtain ⟨z, hz⟩ : ∃ z, sizeN d n = z := ⟨_, rfl⟩
      obtain ⟨y, hy⟩ : ∃ y, P - 32 = y := ⟨_, rfl⟩
      rw [hz, hy] at dd
      have dn : y < z := by rw [← hz, ← hy]; exact hbig
      have RS : Hid (∀ W, Kp [] W0 W → Calls Tryz.prog 33 #[.agg #[.int .i64 P, .int .i64 d], .agg #[.slice pa n.pairs.length pc, .slice sa n.seps.length sc, .slice ka n.kids.length kc]] W (Rets (.int .i64 (z : Nat)) W)) := Lib.hid (fun W k => by have h := rsize_any P d pa sa ka pc sc kc n W (HK.out.kp0 k) HO.out; rw [HS.out, hz] at h; exact h)
      have RM : Hid (∀ W, Calls Tryz.prog 36 #[.agg #[.int .i64 P, .int .i64 d]] W (Rets (.int .i64 (y : Nat)) W)) := Lib.hid (fun W => by have h := rmost_any P d W hP hP0; rw [hy] at h; exact h)
      clear hz hy hbig
      go_enter Tryz.func24, Tryz.ntmps24
      go_wp2_with fail
      rw [← HW0.out]
      refine (rcheck_any P d pa sa ka pc sc kc n _ HK.out HO.out).mono ?_
      rintro e w1 ⟨rfl, hx1⟩
      have K1 : Hid (Kp [] W0 w1) := Lib.hid (by obtain ⟨bx, nx, rfl⟩ := hx1; exact (Kp.refl [] _).ext _ _)
      clear hx1
      obtain ⟨⟨f0, f1, n0, n1, n2⟩, z0⟩ := SK.out _ K1.out
      rw [HC.out]
      go_wp2_with fail
      refine wp_region_ext (by kernel_rfl) (by kernel_rfl) ?_
      repeat (go_big_quiet_step (first | (go_at_call 33; exact Calls.quiet_ext (RS.out _ (K1.out.ext _ _))) | (go_at_call 36; exact Calls.quiet_ext (RM.out _))))
      (refine wpQuiet_nil ?_; intro _ hw'; obtain ⟨⟨bsq, nq⟩, hw''⟩ := hw'; subst hw'')
      go_wp2_with fail
      go_ret2
      exact ⟨rfl, Kp.to_ext ((KW.out.trans K1.out).ext _ _)⟩
    · have hmm : mayE P d n = 0 := by rw [HM.out, if_neg hbig]
      have hps : plainS P d n = formB false d n := by unfold plainS; rw [hmm]; rfl
      have dd : decide (((P - 32 : Nat) : Int) < ((sizeN d n : Nat) : Int)) = false := decide_eq_false (by omega)
      rw [hmm, hps]
      clear hmm hps
      obtain ⟨z, hz⟩ : ∃ z, sizeN d n = z := ⟨_, rfl⟩
      obtain ⟨y, hy⟩ : ∃ y, P - 32 = y := ⟨_, rfl⟩
      rw [hz, hy] at dd
      have dn : ¬ y < z := by rw [← hz, ← hy]; exact hbig
      have RS : Hid (∀ W, Kp [] W0 W → Calls Tryz.prog 33 #[.agg #[.int .i64 P, .int .i64 d], .agg #[.slice pa n.pairs.length pc, .slice sa n.seps.length sc, .slice ka n.kids.length kc]] W (Rets (.int .i64 (z : Nat)) W)) := Lib.hid (fun W k => by have h := rsize_any P d pa sa ka pc sc kc n W (HK.out.kp0 k) HO.out; rw [HS.out, hz] at h; exact h)
      have RM : Hid (∀ W, Calls Tryz.prog 36 #[.agg #[.int .i64 P, .int .i64 d]] W (Rets (.int .i64 (y : Nat)) W)) := Lib.hid (fun W => by have h := rmost_any P d W hP hP0; rw [hy] at h; exact h)
      clear hz hy hbig
      go_enter Tryz.func24, Tryz.ntmps24
      go_wp2_with fail
      rw [← HW0.out]
      refine (rcheck_any P d pa sa ka pc sc kc n _ HK.out HO.out).mono ?_
      rintro e w1 ⟨rfl, hx1⟩
      have K1 : Hid (Kp [] W0 w1) := Lib.hid (by obtain ⟨bx, nx, rfl⟩ := hx1; exact (Kp.refl [] _).ext _ _)
      clear hx1
      obtain ⟨⟨f0, f1, n0, n1, n2⟩, z0⟩ := SK.out _ K1.out
      rw [HC.out]
      go_wp2_with fail
      refine wp_region_ext (by kernel_rfl) (by kernel_rfl) ?_
      repeat (go_big_quiet_step (first | (go_at_call 33; exact Calls.quiet_ext (RS.out _ (K1.out.ext _ _))) | (go_at_call 36; exact Calls.quiet_ext (RM.out _))))
      (refine wpQuiet_nil ?_; intro _ hw'; obtain ⟨⟨bsq, nq⟩, hw''⟩ := hw'; subst hw'')
      go_wp2_with fail
      refine (rform_any P d false pa sa ka pc sc kc n _ HC.out (HK.out.kp0 (K1.out.ext _ _)) HO.out).mono ?_
      rintro e w2 ⟨rfl, bs2, m2, rfl⟩
      go_wp2_with fail
      go_ret2
      exact ⟨rfl, Kp.to_ext ((KW.out.trans K1.out).ext _ _)⟩
  · obtain ⟨c, hcc⟩ : ∃ c, checkE p wd n = c := ⟨_, rfl⟩
    have hm : mayE p wd n = c := by unfold mayE; rw [if_neg hc, hcc]
    have hps : plainS p wd n = [] := by unfold plainS; rw [hm, if_neg (by rw [← hcc]; exact hc)]
    rw [hm, hps]
    rw [hcc] at hc
    have hb : (c != 0) = true := by simpa using hc
    have HC := Lib.hid hcc; have H := Lib.hid h; have HO := Lib.hid ho
    clear hm hps hc hcc h ho
    go_enter Tryz.func24, Tryz.ntmps24
    go_wp2_with fail
    refine (rcheck_any p wd pa sa ka pc sc kc n _ (H.out.kp0 (((Kp.refl [] _).alloc _).alloc _)) HO.out).mono ?_
    rintro e w' ⟨rfl, bs0, m0, rfl⟩
    rw [HC.out]
    go_wp2_with fail
    go_ret2
    exact ⟨rfl, by (try simp only [alloc_ext, drew_ext, drewN_ext, ext_ext]); exact ⟨_, _, rfl⟩⟩

end Go.Proofs.YtemicgccgcmmbaaGreat

/- The document's Pack. Printed by genrpack.py. -/
namespace Go.Proofs.YtemicgccgcmmbaaGreat
set_option linter.unusedVariables false
set_option linter.unusedSimpArgs false
open Go Go.RowKit

set_option maxHeartbeats 2000000 in
set_option maxRecDepth 100000 in
theorem rpack_leaf_big (P d : Nat) (pa sa ka : Option Addr) (pc sc kc : Nat) (n : Nd) (w : World) (hc : checkE P d n = 0) (hl : leafB n = true) (hp : n.pairs.length ≠ 0) (hbig : P - 32 < sizeN d n) (h : NdAt w pa sa ka n) (ho : NdOk n) :
    Calls Tryz.prog 23 #[.agg #[.int .i64 P, .int .i64 d], .agg #[.slice pa n.pairs.length pc, .slice sa n.seps.length sc, .slice ka n.kids.length kc]] w (Rets2 (packS P d n) (packE P d n) w) := by
  have hl' : (decide (n.seps.length = 0 ∧ n.kids.length = 0)) = true := hl
  have hne : ¬ (checkE P d n = 0 ∧ leafB n = true ∧ n.pairs.length = 0) := by rintro ⟨_, _, h⟩; exact hp h
  have HNE := Lib.hid hne
  have HL := Lib.hid hl'
  clear hne hl'
  have hr := rightB_iff.1 (checkE_ok hc).1
  have hP0 : 1024 ≤ P := by omega
  have hP : P ≤ 8192 := by omega
  have hss : SizeE P d n = sizeN d n := by unfold SizeE; rw [if_pos hc]; rfl
  have hm : mayE P d n = if P - 32 < sizeN d n then 71 else 0 := by unfold mayE; rw [if_pos hc]; rfl
  have hnk := ho.nk
  have HM := Lib.hid hm; have HSZ := Lib.hid hss
  have HC := Lib.hid hc
  have H := Lib.hid h; have HO := Lib.hid ho
  clear h ho hc hr hm hss
  obtain ⟨W0, hW0⟩ : ∃ W0, W0 = (w.alloc (.cells #[.int .i64 P, .int .i64 d] 23)).alloc (.cells #[.slice pa n.pairs.length pc, .slice sa n.seps.length sc, .slice ka n.kids.length kc] 28) := ⟨_, rfl⟩
  have kw : Kp [] w W0 := by rw [hW0]; exact ((Kp.refl [] w).alloc _).alloc _
  have b0 : Blk W0 w.heap.size 23 #[.int .i64 P, .int .i64 d] := by rw [hW0]; exact (Blk.new w _ _).alloc _
  have b1 : Blk W0 (w.heap.size + 1) 28 #[.slice pa n.pairs.length pc, .slice sa n.seps.length sc, .slice ka n.kids.length kc] := by
    rw [hW0]
    have h := Blk.new (w.alloc (.cells #[.int .i64 P, .int .i64 d] 23)) 28 #[.slice pa n.pairs.length pc, .slice sa n.seps.length sc, .slice ka n.kids.length kc]
    simpa using h
  have hz0 : W0.heap.size = w.heap.size + 2 := by rw [hW0]; simp
  have SK : Hid (∀ W : World, Kp [] W0 W → (W.cell? ⟨w.heap.size, 0, none⟩ = some (.int .i64 P) ∧ W.cell? ⟨w.heap.size, 1, none⟩ = some (.int .i64 d) ∧ W.cell? ⟨w.heap.size + 1, 0, none⟩ = some (.slice pa n.pairs.length pc) ∧ W.cell? ⟨w.heap.size + 1, 1, none⟩ = some (.slice sa n.seps.length sc) ∧ W.cell? ⟨w.heap.size + 1, 2, none⟩ = some (.slice ka n.kids.length kc)) ∧ w.heap.size + 1 < W.heap.size) := Lib.hid (fun W k =>
    ⟨⟨(b0.kp k (by simp)).cell 0, (b0.kp k (by simp)).cell 1, (b1.kp k (by simp)).cell 0, (b1.kp k (by simp)).cell 1, (b1.kp k (by simp)).cell 2⟩, by have := k.size; omega⟩)
  have HK := Lib.hid (H.out.kp0 kw)
  have KW := Lib.hid kw
  have HW0 := Lib.hid hW0
  have hz1 : w.heap.size + 1 < W0.heap.size := by omega
  clear kw b0 b1 hW0 hz0
  have hp0 : ((n.pairs.length : Int) == 0) = false := by rw [beq_eq_false_iff_ne]; omega
  obtain ⟨z, hz⟩ : ∃ z, sizeN d n = z := ⟨_, rfl⟩
  obtain ⟨y, hy⟩ : ∃ y, P - 32 = y := ⟨_, rfl⟩
  have dn : y < z := by rw [← hz, ← hy]; exact hbig
  have dd : decide ((y : Int) < (z : Int)) = true := decide_eq_true (by omega)
  have RS : Hid (∀ W, Kp [] W0 W → Calls Tryz.prog 33 #[.agg #[.int .i64 P, .int .i64 d], .agg #[.slice pa n.pairs.length pc, .slice sa n.seps.length sc, .slice ka n.kids.length kc]] W (Rets (.int .i64 (z : Nat)) W)) := Lib.hid (fun W k => by have h := rsize_any P d pa sa ka pc sc kc n W (HK.out.kp0 k) HO.out; rw [HSZ.out, hz] at h; exact h)
  have RM : Hid (∀ W, Calls Tryz.prog 36 #[.agg #[.int .i64 P, .int .i64 d]] W (Rets (.int .i64 (y : Nat)) W)) := Lib.hid (fun W => by have h := rmost_any P d W hP hP0; rw [hy] at h; exact h)
  have hpe : packE P d n = 71 := by unfold packE; rw [if_neg HNE.out, HM.out, if_pos hbig]; rfl
  have hps : packS P d n = [] := by unfold packS; rw [hpe]; rfl
  rw [hpe, hps]
  clear hpe hps hz hy hbig
  go_enter Tryz.func23, Tryz.ntmps23
  go_wp2_with fail
  rw [← HW0.out]
  refine (rcheck_any P d pa sa ka pc sc kc n _ HK.out HO.out).mono ?_
  rintro e w1 ⟨rfl, hx1⟩
  have K1 : Hid (Kp [] W0 w1) := Lib.hid (by obtain ⟨bx, nx, rfl⟩ := hx1; exact (Kp.refl [] _).ext _ _)
  obtain ⟨⟨f0, f1, n0, n1, n2⟩, z0⟩ := SK.out _ K1.out
  clear hx1
  rw [HC.out]
  go_wp2_with fail
  refine (rleaf_any _ _ _ _ _ _ _ _ _ _).mono ?_
  rintro e w2 ⟨rfl, hx2⟩
  have K2 : Hid (Kp [] W0 w2) := Lib.hid (by obtain ⟨bx, nx, rfl⟩ := hx2; exact K1.out.ext _ _)
  clear hx2 f0 f1 n0 n1 n2 z0
  obtain ⟨⟨f0, f1, n0, n1, n2⟩, z0⟩ := SK.out _ K2.out
  rw [HL.out]
  go_wp2_with fail
  refine wp_region_ext (by kernel_rfl) (by kernel_rfl) ?_
  repeat (go_big_quiet_step (first | (go_at_call 33; exact Calls.quiet_ext (RS.out _ (K2.out.ext _ _))) | (go_at_call 36; exact Calls.quiet_ext (RM.out _))))
  (refine wpQuiet_nil ?_; intro _ hw'; obtain ⟨⟨bsq, nq⟩, hw''⟩ := hw'; subst hw'')
  go_wp2_with fail
  go_ret2
  exact ⟨rfl, Kp.to_ext ((KW.out.trans K2.out).ext _ _)⟩

set_option maxHeartbeats 2000000 in
set_option maxRecDepth 100000 in
theorem rpack_leaf_fit (P d : Nat) (pa sa ka : Option Addr) (pc sc kc : Nat) (n : Nd) (w : World) (hc : checkE P d n = 0) (hl : leafB n = true) (hp : n.pairs.length ≠ 0) (hbig : ¬ P - 32 < sizeN d n) (h : NdAt w pa sa ka n) (ho : NdOk n) :
    Calls Tryz.prog 23 #[.agg #[.int .i64 P, .int .i64 d], .agg #[.slice pa n.pairs.length pc, .slice sa n.seps.length sc, .slice ka n.kids.length kc]] w (Rets2 (packS P d n) (packE P d n) w) := by
  have hl' : (decide (n.seps.length = 0 ∧ n.kids.length = 0)) = true := hl
  have hne : ¬ (checkE P d n = 0 ∧ leafB n = true ∧ n.pairs.length = 0) := by rintro ⟨_, _, h⟩; exact hp h
  have HNE := Lib.hid hne
  have HL := Lib.hid hl'
  clear hne hl'
  have hr := rightB_iff.1 (checkE_ok hc).1
  have hP0 : 1024 ≤ P := by omega
  have hP : P ≤ 8192 := by omega
  have hss : SizeE P d n = sizeN d n := by unfold SizeE; rw [if_pos hc]; rfl
  have hm : mayE P d n = if P - 32 < sizeN d n then 71 else 0 := by unfold mayE; rw [if_pos hc]; rfl
  have hnk := ho.nk
  have HM := Lib.hid hm; have HSZ := Lib.hid hss
  have HC := Lib.hid hc
  have H := Lib.hid h; have HO := Lib.hid ho
  clear h ho hc hr hm hss
  obtain ⟨W0, hW0⟩ : ∃ W0, W0 = (w.alloc (.cells #[.int .i64 P, .int .i64 d] 23)).alloc (.cells #[.slice pa n.pairs.length pc, .slice sa n.seps.length sc, .slice ka n.kids.length kc] 28) := ⟨_, rfl⟩
  have kw : Kp [] w W0 := by rw [hW0]; exact ((Kp.refl [] w).alloc _).alloc _
  have b0 : Blk W0 w.heap.size 23 #[.int .i64 P, .int .i64 d] := by rw [hW0]; exact (Blk.new w _ _).alloc _
  have b1 : Blk W0 (w.heap.size + 1) 28 #[.slice pa n.pairs.length pc, .slice sa n.seps.length sc, .slice ka n.kids.length kc] := by
    rw [hW0]
    have h := Blk.new (w.alloc (.cells #[.int .i64 P, .int .i64 d] 23)) 28 #[.slice pa n.pairs.length pc, .slice sa n.seps.length sc, .slice ka n.kids.length kc]
    simpa using h
  have hz0 : W0.heap.size = w.heap.size + 2 := by rw [hW0]; simp
  have SK : Hid (∀ W : World, Kp [] W0 W → (W.cell? ⟨w.heap.size, 0, none⟩ = some (.int .i64 P) ∧ W.cell? ⟨w.heap.size, 1, none⟩ = some (.int .i64 d) ∧ W.cell? ⟨w.heap.size + 1, 0, none⟩ = some (.slice pa n.pairs.length pc) ∧ W.cell? ⟨w.heap.size + 1, 1, none⟩ = some (.slice sa n.seps.length sc) ∧ W.cell? ⟨w.heap.size + 1, 2, none⟩ = some (.slice ka n.kids.length kc)) ∧ w.heap.size + 1 < W.heap.size) := Lib.hid (fun W k =>
    ⟨⟨(b0.kp k (by simp)).cell 0, (b0.kp k (by simp)).cell 1, (b1.kp k (by simp)).cell 0, (b1.kp k (by simp)).cell 1, (b1.kp k (by simp)).cell 2⟩, by have := k.size; omega⟩)
  have HK := Lib.hid (H.out.kp0 kw)
  have KW := Lib.hid kw
  have HW0 := Lib.hid hW0
  have hz1 : w.heap.size + 1 < W0.heap.size := by omega
  clear kw b0 b1 hW0 hz0
  have hp0 : ((n.pairs.length : Int) == 0) = false := by rw [beq_eq_false_iff_ne]; omega
  obtain ⟨z, hz⟩ : ∃ z, sizeN d n = z := ⟨_, rfl⟩
  obtain ⟨y, hy⟩ : ∃ y, P - 32 = y := ⟨_, rfl⟩
  have dn : ¬ y < z := by rw [← hz, ← hy]; exact hbig
  have dd : decide ((y : Int) < (z : Int)) = false := decide_eq_false (by omega)
  have RS : Hid (∀ W, Kp [] W0 W → Calls Tryz.prog 33 #[.agg #[.int .i64 P, .int .i64 d], .agg #[.slice pa n.pairs.length pc, .slice sa n.seps.length sc, .slice ka n.kids.length kc]] W (Rets (.int .i64 (z : Nat)) W)) := Lib.hid (fun W k => by have h := rsize_any P d pa sa ka pc sc kc n W (HK.out.kp0 k) HO.out; rw [HSZ.out, hz] at h; exact h)
  have RM : Hid (∀ W, Calls Tryz.prog 36 #[.agg #[.int .i64 P, .int .i64 d]] W (Rets (.int .i64 (y : Nat)) W)) := Lib.hid (fun W => by have h := rmost_any P d W hP hP0; rw [hy] at h; exact h)
  have hpe : packE P d n = if n.kids.any badPg = true then 72 else 0 := by unfold packE; rw [if_neg HNE.out, HM.out, if_neg hbig]; rfl
  have HPE := Lib.hid hpe
  clear hpe hz hy hbig
  go_enter Tryz.func23, Tryz.ntmps23
  go_wp2_with fail
  rw [← HW0.out]
  refine (rcheck_any P d pa sa ka pc sc kc n _ HK.out HO.out).mono ?_
  rintro e w1 ⟨rfl, hx1⟩
  have K1 : Hid (Kp [] W0 w1) := Lib.hid (by obtain ⟨bx, nx, rfl⟩ := hx1; exact (Kp.refl [] _).ext _ _)
  obtain ⟨⟨f0, f1, n0, n1, n2⟩, z0⟩ := SK.out _ K1.out
  clear hx1
  rw [HC.out]
  go_wp2_with fail
  refine (rleaf_any _ _ _ _ _ _ _ _ _ _).mono ?_
  rintro e w2 ⟨rfl, hx2⟩
  have K2 : Hid (Kp [] W0 w2) := Lib.hid (by obtain ⟨bx, nx, rfl⟩ := hx2; exact K1.out.ext _ _)
  clear hx2 f0 f1 n0 n1 n2 z0
  obtain ⟨⟨f0, f1, n0, n1, n2⟩, z0⟩ := SK.out _ K2.out
  rw [HL.out]
  go_wp2_with fail
  refine wp_region_ext (by kernel_rfl) (by kernel_rfl) ?_
  repeat (go_big_quiet_step (first | (go_at_call 33; exact Calls.quiet_ext (RS.out _ (K2.out.ext _ _))) | (go_at_call 36; exact Calls.quiet_ext (RM.out _))))
  (refine wpQuiet_nil ?_; intro _ hw'; obtain ⟨⟨bsq, nq⟩, hw''⟩ := hw'; subst hw'')
  clear f0 f1 n0 n1 n2 z0
  go_wp2_with fail
  go_loopw [7] (fun i wr => ∃ (k : Nat), i = .int .i64 (k : Nat) ∧ k ≤ n.kids.length ∧ Hid (∀ x ∈ n.kids.take k, badPg x = false) ∧ Hid (Kp [] W0 wr)) (fun i _ => n.kids.length - (intOf i).toNat)
  case atStart => exact ⟨0, rfl, by omega, Lib.hid (fun x hx => by simp at hx), Lib.hid (K2.out.ext _ _)⟩
  case round =>
    obtain ⟨k, rfl, hk, GP, KI⟩ := hrel
    obtain ⟨⟨f0, f1, n0, n1, n2⟩, z0⟩ := SK.out _ KI.out
    by_cases hlt : k < n.kids.length
    · obtain ⟨x, hx⟩ : ∃ x, n.kids[k]? = some x := ⟨_, List.getElem?_eq_getElem hlt⟩
      obtain ⟨b, o, rfl, hb, r1⟩ := HK.out.ks.kp KI.out (by simp) k x hx
      have r3 := row_page r1
      have hpg := HO.out.pg x (List.mem_of_getElem? hx)
      have HX := Lib.hid hx
      clear hx r1
      obtain ⟨g, hg⟩ : ∃ g, x.page = g := ⟨_, rfl⟩
      rw [hg] at r3 hpg
      have bad : g < 2 ∨ 2147483648 ≤ g → packE P d n = 72 ∧ packS P d n = [] := fun hb => by
        have h1 : n.kids.any badPg = true := List.any_eq_true.2 ⟨x, List.mem_of_getElem? HX.out, by unfold badPg; rw [hg]; rcases hb with h | h <;> simp [h]⟩
        have h2 : packE P d n = 72 := by rw [HPE.out, if_pos h1]
        exact ⟨h2, by unfold packS; rw [h2]; rfl⟩
      have BAD := Lib.hid bad
      clear bad
      by_cases g1 : g < 2
      · obtain ⟨e1, e2⟩ := BAD.out (.inl g1)
        have E1 := Lib.hid e1; have E2 := Lib.hid e2
        have t1 : decide ((g : Int) < 2) = true := decide_eq_true (by omega)
        clear e1 e2
        go_wp2_with fail
        go_ret2
        rw [E1.out, E2.out]
        exact ⟨rfl, Kp.to_ext (KW.out.trans KI.out)⟩
      have t1 : decide ((g : Int) < 2) = false := decide_eq_false (by omega)
      by_cases g2 : 2147483648 ≤ g
      · obtain ⟨e1, e2⟩ := BAD.out (.inr g2)
        have E1 := Lib.hid e1; have E2 := Lib.hid e2
        have t2 : decide ((2147483648 : Int) ≤ (g : Int)) = true := decide_eq_true (by omega)
        clear e1 e2
        go_wp2_with fail
        go_ret2
        rw [E1.out, E2.out]
        exact ⟨rfl, Kp.to_ext (KW.out.trans KI.out)⟩
      have t2 : decide ((2147483648 : Int) ≤ (g : Int)) = false := decide_eq_false (by omega)
      have GN : Hid (∀ y ∈ n.kids.take (k + 1), badPg y = false) := Lib.hid (fun y hy => by
        rw [List.take_add_one, HX.out, List.mem_append] at hy
        rcases hy with hy | hy
        · exact GP.out y hy
        · simp at hy; subst hy; unfold badPg; rw [hg]; simp; omega)
      go_wp2_with fail
      go_roundw
      case rel => exact ⟨k + 1, by go_num, by omega, GN, Lib.hid (by first | exact KI.out | exact KI.out.ext _ _)⟩
      case measure => simp [intOf]; omega
    · obtain rfl : k = n.kids.length := by omega
      have hb : n.kids.any badPg = false := by
        rw [List.any_eq_false]
        intro x hx
        have h := GP.out x (by rw [List.take_length]; exact hx)
        simp [h]
      have e1 : packE P d n = 0 := by rw [HPE.out, hb]; rfl
      have e2 : packS P d n = formB true d n := by unfold packS; rw [e1]; rfl
      have E1 := Lib.hid e1; have E2 := Lib.hid e2
      clear e1 e2 hb
      go_wp2_with fail
      refine (rform_any P d true pa sa ka pc sc kc n _ HC.out (HK.out.kp0 KI.out) HO.out).mono ?_
      rintro e w2 ⟨rfl, bs2, m2, rfl⟩
      go_wp2_with fail
      go_ret2
      rw [E1.out, E2.out]
      exact ⟨rfl, Kp.to_ext ((KW.out.trans KI.out).ext _ _)⟩

set_option maxHeartbeats 2000000 in
set_option maxRecDepth 100000 in
theorem rpack_br_big (P d : Nat) (pa sa ka : Option Addr) (pc sc kc : Nat) (n : Nd) (w : World) (hc : checkE P d n = 0) (hl : leafB n = false) (hbig : P - 32 < sizeN d n) (h : NdAt w pa sa ka n) (ho : NdOk n) :
    Calls Tryz.prog 23 #[.agg #[.int .i64 P, .int .i64 d], .agg #[.slice pa n.pairs.length pc, .slice sa n.seps.length sc, .slice ka n.kids.length kc]] w (Rets2 (packS P d n) (packE P d n) w) := by
  have hl' : (decide (n.seps.length = 0 ∧ n.kids.length = 0)) = false := hl
  have hne : ¬ (checkE P d n = 0 ∧ leafB n = true ∧ n.pairs.length = 0) := by rw [hl]; simp
  have HNE := Lib.hid hne
  have HL := Lib.hid hl'
  clear hne hl'
  have hr := rightB_iff.1 (checkE_ok hc).1
  have hP0 : 1024 ≤ P := by omega
  have hP : P ≤ 8192 := by omega
  have hss : SizeE P d n = sizeN d n := by unfold SizeE; rw [if_pos hc]; rfl
  have hm : mayE P d n = if P - 32 < sizeN d n then 71 else 0 := by unfold mayE; rw [if_pos hc]; rfl
  have hnk := ho.nk
  have HM := Lib.hid hm; have HSZ := Lib.hid hss
  have HC := Lib.hid hc
  have H := Lib.hid h; have HO := Lib.hid ho
  clear h ho hc hr hm hss
  obtain ⟨W0, hW0⟩ : ∃ W0, W0 = (w.alloc (.cells #[.int .i64 P, .int .i64 d] 23)).alloc (.cells #[.slice pa n.pairs.length pc, .slice sa n.seps.length sc, .slice ka n.kids.length kc] 28) := ⟨_, rfl⟩
  have kw : Kp [] w W0 := by rw [hW0]; exact ((Kp.refl [] w).alloc _).alloc _
  have b0 : Blk W0 w.heap.size 23 #[.int .i64 P, .int .i64 d] := by rw [hW0]; exact (Blk.new w _ _).alloc _
  have b1 : Blk W0 (w.heap.size + 1) 28 #[.slice pa n.pairs.length pc, .slice sa n.seps.length sc, .slice ka n.kids.length kc] := by
    rw [hW0]
    have h := Blk.new (w.alloc (.cells #[.int .i64 P, .int .i64 d] 23)) 28 #[.slice pa n.pairs.length pc, .slice sa n.seps.length sc, .slice ka n.kids.length kc]
    simpa using h
  have hz0 : W0.heap.size = w.heap.size + 2 := by rw [hW0]; simp
  have SK : Hid (∀ W : World, Kp [] W0 W → (W.cell? ⟨w.heap.size, 0, none⟩ = some (.int .i64 P) ∧ W.cell? ⟨w.heap.size, 1, none⟩ = some (.int .i64 d) ∧ W.cell? ⟨w.heap.size + 1, 0, none⟩ = some (.slice pa n.pairs.length pc) ∧ W.cell? ⟨w.heap.size + 1, 1, none⟩ = some (.slice sa n.seps.length sc) ∧ W.cell? ⟨w.heap.size + 1, 2, none⟩ = some (.slice ka n.kids.length kc)) ∧ w.heap.size + 1 < W.heap.size) := Lib.hid (fun W k =>
    ⟨⟨(b0.kp k (by simp)).cell 0, (b0.kp k (by simp)).cell 1, (b1.kp k (by simp)).cell 0, (b1.kp k (by simp)).cell 1, (b1.kp k (by simp)).cell 2⟩, by have := k.size; omega⟩)
  have HK := Lib.hid (H.out.kp0 kw)
  have KW := Lib.hid kw
  have HW0 := Lib.hid hW0
  have hz1 : w.heap.size + 1 < W0.heap.size := by omega
  clear kw b0 b1 hW0 hz0
  obtain ⟨z, hz⟩ : ∃ z, sizeN d n = z := ⟨_, rfl⟩
  obtain ⟨y, hy⟩ : ∃ y, P - 32 = y := ⟨_, rfl⟩
  have dn : y < z := by rw [← hz, ← hy]; exact hbig
  have dd : decide ((y : Int) < (z : Int)) = true := decide_eq_true (by omega)
  have RS : Hid (∀ W, Kp [] W0 W → Calls Tryz.prog 33 #[.agg #[.int .i64 P, .int .i64 d], .agg #[.slice pa n.pairs.length pc, .slice sa n.seps.length sc, .slice ka n.kids.length kc]] W (Rets (.int .i64 (z : Nat)) W)) := Lib.hid (fun W k => by have h := rsize_any P d pa sa ka pc sc kc n W (HK.out.kp0 k) HO.out; rw [HSZ.out, hz] at h; exact h)
  have RM : Hid (∀ W, Calls Tryz.prog 36 #[.agg #[.int .i64 P, .int .i64 d]] W (Rets (.int .i64 (y : Nat)) W)) := Lib.hid (fun W => by have h := rmost_any P d W hP hP0; rw [hy] at h; exact h)
  have hpe : packE P d n = 71 := by unfold packE; rw [if_neg HNE.out, HM.out, if_pos hbig]; rfl
  have hps : packS P d n = [] := by unfold packS; rw [hpe]; rfl
  rw [hpe, hps]
  clear hpe hps hz hy hbig
  go_enter Tryz.func23, Tryz.ntmps23
  go_wp2_with fail
  rw [← HW0.out]
  refine (rcheck_any P d pa sa ka pc sc kc n _ HK.out HO.out).mono ?_
  rintro e w1 ⟨rfl, hx1⟩
  have K1 : Hid (Kp [] W0 w1) := Lib.hid (by obtain ⟨bx, nx, rfl⟩ := hx1; exact (Kp.refl [] _).ext _ _)
  obtain ⟨⟨f0, f1, n0, n1, n2⟩, z0⟩ := SK.out _ K1.out
  clear hx1
  rw [HC.out]
  go_wp2_with fail
  refine (rleaf_any _ _ _ _ _ _ _ _ _ _).mono ?_
  rintro e w2 ⟨rfl, hx2⟩
  have K2 : Hid (Kp [] W0 w2) := Lib.hid (by obtain ⟨bx, nx, rfl⟩ := hx2; exact K1.out.ext _ _)
  clear hx2 f0 f1 n0 n1 n2 z0
  obtain ⟨⟨f0, f1, n0, n1, n2⟩, z0⟩ := SK.out _ K2.out
  rw [HL.out]
  go_wp2_with fail
  refine wp_region_ext (by kernel_rfl) (by kernel_rfl) ?_
  repeat (go_big_quiet_step (first | (go_at_call 33; exact Calls.quiet_ext (RS.out _ (K2.out.ext _ _))) | (go_at_call 36; exact Calls.quiet_ext (RM.out _))))
  (refine wpQuiet_nil ?_; intro _ hw'; obtain ⟨⟨bsq, nq⟩, hw''⟩ := hw'; subst hw'')
  go_wp2_with fail
  go_ret2
  exact ⟨rfl, Kp.to_ext ((KW.out.trans K2.out).ext _ _)⟩

set_option maxHeartbeats 2000000 in
set_option maxRecDepth 100000 in
theorem rpack_br_fit (P d : Nat) (pa sa ka : Option Addr) (pc sc kc : Nat) (n : Nd) (w : World) (hc : checkE P d n = 0) (hl : leafB n = false) (hbig : ¬ P - 32 < sizeN d n) (h : NdAt w pa sa ka n) (ho : NdOk n) :
    Calls Tryz.prog 23 #[.agg #[.int .i64 P, .int .i64 d], .agg #[.slice pa n.pairs.length pc, .slice sa n.seps.length sc, .slice ka n.kids.length kc]] w (Rets2 (packS P d n) (packE P d n) w) := by
  have hl' : (decide (n.seps.length = 0 ∧ n.kids.length = 0)) = false := hl
  have hne : ¬ (checkE P d n = 0 ∧ leafB n = true ∧ n.pairs.length = 0) := by rw [hl]; simp
  have HNE := Lib.hid hne
  have HL := Lib.hid hl'
  clear hne hl'
  have hr := rightB_iff.1 (checkE_ok hc).1
  have hP0 : 1024 ≤ P := by omega
  have hP : P ≤ 8192 := by omega
  have hss : SizeE P d n = sizeN d n := by unfold SizeE; rw [if_pos hc]; rfl
  have hm : mayE P d n = if P - 32 < sizeN d n then 71 else 0 := by unfold mayE; rw [if_pos hc]; rfl
  have hnk := ho.nk
  have HM := Lib.hid hm; have HSZ := Lib.hid hss
  have HC := Lib.hid hc
  have H := Lib.hid h; have HO := Lib.hid ho
  clear h ho hc hr hm hss
  obtain ⟨W0, hW0⟩ : ∃ W0, W0 = (w.alloc (.cells #[.int .i64 P, .int .i64 d] 23)).alloc (.cells #[.slice pa n.pairs.length pc, .slice sa n.seps.length sc, .slice ka n.kids.length kc] 28) := ⟨_, rfl⟩
  have kw : Kp [] w W0 := by rw [hW0]; exact ((Kp.refl [] w).alloc _).alloc _
  have b0 : Blk W0 w.heap.size 23 #[.int .i64 P, .int .i64 d] := by rw [hW0]; exact (Blk.new w _ _).alloc _
  have b1 : Blk W0 (w.heap.size + 1) 28 #[.slice pa n.pairs.length pc, .slice sa n.seps.length sc, .slice ka n.kids.length kc] := by
    rw [hW0]
    have h := Blk.new (w.alloc (.cells #[.int .i64 P, .int .i64 d] 23)) 28 #[.slice pa n.pairs.length pc, .slice sa n.seps.length sc, .slice ka n.kids.length kc]
    simpa using h
  have hz0 : W0.heap.size = w.heap.size + 2 := by rw [hW0]; simp
  have SK : Hid (∀ W : World, Kp [] W0 W → (W.cell? ⟨w.heap.size, 0, none⟩ = some (.int .i64 P) ∧ W.cell? ⟨w.heap.size, 1, none⟩ = some (.int .i64 d) ∧ W.cell? ⟨w.heap.size + 1, 0, none⟩ = some (.slice pa n.pairs.length pc) ∧ W.cell? ⟨w.heap.size + 1, 1, none⟩ = some (.slice sa n.seps.length sc) ∧ W.cell? ⟨w.heap.size + 1, 2, none⟩ = some (.slice ka n.kids.length kc)) ∧ w.heap.size + 1 < W.heap.size) := Lib.hid (fun W k =>
    ⟨⟨(b0.kp k (by simp)).cell 0, (b0.kp k (by simp)).cell 1, (b1.kp k (by simp)).cell 0, (b1.kp k (by simp)).cell 1, (b1.kp k (by simp)).cell 2⟩, by have := k.size; omega⟩)
  have HK := Lib.hid (H.out.kp0 kw)
  have KW := Lib.hid kw
  have HW0 := Lib.hid hW0
  have hz1 : w.heap.size + 1 < W0.heap.size := by omega
  clear kw b0 b1 hW0 hz0
  obtain ⟨z, hz⟩ : ∃ z, sizeN d n = z := ⟨_, rfl⟩
  obtain ⟨y, hy⟩ : ∃ y, P - 32 = y := ⟨_, rfl⟩
  have dn : ¬ y < z := by rw [← hz, ← hy]; exact hbig
  have dd : decide ((y : Int) < (z : Int)) = false := decide_eq_false (by omega)
  have RS : Hid (∀ W, Kp [] W0 W → Calls Tryz.prog 33 #[.agg #[.int .i64 P, .int .i64 d], .agg #[.slice pa n.pairs.length pc, .slice sa n.seps.length sc, .slice ka n.kids.length kc]] W (Rets (.int .i64 (z : Nat)) W)) := Lib.hid (fun W k => by have h := rsize_any P d pa sa ka pc sc kc n W (HK.out.kp0 k) HO.out; rw [HSZ.out, hz] at h; exact h)
  have RM : Hid (∀ W, Calls Tryz.prog 36 #[.agg #[.int .i64 P, .int .i64 d]] W (Rets (.int .i64 (y : Nat)) W)) := Lib.hid (fun W => by have h := rmost_any P d W hP hP0; rw [hy] at h; exact h)
  have hpe : packE P d n = if n.kids.any badPg = true then 72 else 0 := by unfold packE; rw [if_neg HNE.out, HM.out, if_neg hbig]; rfl
  have HPE := Lib.hid hpe
  clear hpe hz hy hbig
  go_enter Tryz.func23, Tryz.ntmps23
  go_wp2_with fail
  rw [← HW0.out]
  refine (rcheck_any P d pa sa ka pc sc kc n _ HK.out HO.out).mono ?_
  rintro e w1 ⟨rfl, hx1⟩
  have K1 : Hid (Kp [] W0 w1) := Lib.hid (by obtain ⟨bx, nx, rfl⟩ := hx1; exact (Kp.refl [] _).ext _ _)
  obtain ⟨⟨f0, f1, n0, n1, n2⟩, z0⟩ := SK.out _ K1.out
  clear hx1
  rw [HC.out]
  go_wp2_with fail
  refine (rleaf_any _ _ _ _ _ _ _ _ _ _).mono ?_
  rintro e w2 ⟨rfl, hx2⟩
  have K2 : Hid (Kp [] W0 w2) := Lib.hid (by obtain ⟨bx, nx, rfl⟩ := hx2; exact K1.out.ext _ _)
  clear hx2 f0 f1 n0 n1 n2 z0
  obtain ⟨⟨f0, f1, n0, n1, n2⟩, z0⟩ := SK.out _ K2.out
  rw [HL.out]
  go_wp2_with fail
  refine wp_region_ext (by kernel_rfl) (by kernel_rfl) ?_
  repeat (go_big_quiet_step (first | (go_at_call 33; exact Calls.quiet_ext (RS.out _ (K2.out.ext _ _))) | (go_at_call 36; exact Calls.quiet_ext (RM.out _))))
  (refine wpQuiet_nil ?_; intro _ hw'; obtain ⟨⟨bsq, nq⟩, hw''⟩ := hw'; subst hw'')
  clear f0 f1 n0 n1 n2 z0
  go_wp2_with fail
  go_loopw [7] (fun i wr => ∃ (k : Nat), i = .int .i64 (k : Nat) ∧ k ≤ n.kids.length ∧ Hid (∀ x ∈ n.kids.take k, badPg x = false) ∧ Hid (Kp [] W0 wr)) (fun i _ => n.kids.length - (intOf i).toNat)
  case atStart => exact ⟨0, rfl, by omega, Lib.hid (fun x hx => by simp at hx), Lib.hid (K2.out.ext _ _)⟩
  case round =>
    obtain ⟨k, rfl, hk, GP, KI⟩ := hrel
    obtain ⟨⟨f0, f1, n0, n1, n2⟩, z0⟩ := SK.out _ KI.out
    by_cases hlt : k < n.kids.length
    · obtain ⟨x, hx⟩ : ∃ x, n.kids[k]? = some x := ⟨_, List.getElem?_eq_getElem hlt⟩
      obtain ⟨b, o, rfl, hb, r1⟩ := HK.out.ks.kp KI.out (by simp) k x hx
      have r3 := row_page r1
      have hpg := HO.out.pg x (List.mem_of_getElem? hx)
      have HX := Lib.hid hx
      clear hx r1
      obtain ⟨g, hg⟩ : ∃ g, x.page = g := ⟨_, rfl⟩
      rw [hg] at r3 hpg
      have bad : g < 2 ∨ 2147483648 ≤ g → packE P d n = 72 ∧ packS P d n = [] := fun hb => by
        have h1 : n.kids.any badPg = true := List.any_eq_true.2 ⟨x, List.mem_of_getElem? HX.out, by unfold badPg; rw [hg]; rcases hb with h | h <;> simp [h]⟩
        have h2 : packE P d n = 72 := by rw [HPE.out, if_pos h1]
        exact ⟨h2, by unfold packS; rw [h2]; rfl⟩
      have BAD := Lib.hid bad
      clear bad
      by_cases g1 : g < 2
      · obtain ⟨e1, e2⟩ := BAD.out (.inl g1)
        have E1 := Lib.hid e1; have E2 := Lib.hid e2
        have t1 : decide ((g : Int) < 2) = true := decide_eq_true (by omega)
        clear e1 e2
        go_wp2_with fail
        go_ret2
        rw [E1.out, E2.out]
        exact ⟨rfl, Kp.to_ext (KW.out.trans KI.out)⟩
      have t1 : decide ((g : Int) < 2) = false := decide_eq_false (by omega)
      by_cases g2 : 2147483648 ≤ g
      · obtain ⟨e1, e2⟩ := BAD.out (.inr g2)
        have E1 := Lib.hid e1; have E2 := Lib.hid e2
        have t2 : decide ((2147483648 : Int) ≤ (g : Int)) = true := decide_eq_true (by omega)
        clear e1 e2
        go_wp2_with fail
        go_ret2
        rw [E1.out, E2.out]
        exact ⟨rfl, Kp.to_ext (KW.out.trans KI.out)⟩
      have t2 : decide ((2147483648 : Int) ≤ (g : Int)) = false := decide_eq_false (by omega)
      have GN : Hid (∀ y ∈ n.kids.take (k + 1), badPg y = false) := Lib.hid (fun y hy => by
        rw [List.take_add_one, HX.out, List.mem_append] at hy
        rcases hy with hy | hy
        · exact GP.out y hy
        · simp at hy; subst hy; unfold badPg; rw [hg]; simp; omega)
      go_wp2_with fail
      go_roundw
      case rel => exact ⟨k + 1, by go_num, by omega, GN, Lib.hid (by first | exact KI.out | exact KI.out.ext _ _)⟩
      case measure => simp [intOf]; omega
    · obtain rfl : k = n.kids.length := by omega
      have hb : n.kids.any badPg = false := by
        rw [List.any_eq_false]
        intro x hx
        have h := GP.out x (by rw [List.take_length]; exact hx)
        simp [h]
      have e1 : packE P d n = 0 := by rw [HPE.out, hb]; rfl
      have e2 : packS P d n = formB true d n := by unfold packS; rw [e1]; rfl
      have E1 := Lib.hid e1; have E2 := Lib.hid e2
      clear e1 e2 hb
      go_wp2_with fail
      refine (rform_any P d true pa sa ka pc sc kc n _ HC.out (HK.out.kp0 KI.out) HO.out).mono ?_
      rintro e w2 ⟨rfl, bs2, m2, rfl⟩
      go_wp2_with fail
      go_ret2
      rw [E1.out, E2.out]
      exact ⟨rfl, Kp.to_ext ((KW.out.trans KI.out).ext _ _)⟩

set_option maxHeartbeats 1000000 in set_option maxRecDepth 100000 in
theorem rpack_none (P d : Nat) (pa sa ka : Option Addr) (pc sc kc : Nat) (n : Nd) (w : World) (hc : checkE P d n = 0) (hl : leafB n = true) (hp : n.pairs.length = 0) (h : NdAt w pa sa ka n) (ho : NdOk n) :
    Calls Tryz.prog 23 #[.agg #[.int .i64 P, .int .i64 d], .agg #[.slice pa n.pairs.length pc, .slice sa n.seps.length sc, .slice ka n.kids.length kc]] w (Rets2 (packS P d n) (packE P d n) w) := by
  have hl' : (decide (n.seps.length = 0 ∧ n.kids.length = 0)) = true := hl
  have hpe : packE P d n = 70 := by unfold packE; rw [if_pos ⟨hc, hl, hp⟩]
  have hps : packS P d n = [] := by unfold packS; rw [hpe]; rfl
  rw [hpe, hps]
  have HL := Lib.hid hl'
  clear hl' hpe hps hl
  have hr := rightB_iff.1 (checkE_ok hc).1
  have hP0 : 1024 ≤ P := by omega
  have hP : P ≤ 8192 := by omega
  have hss : SizeE P d n = sizeN d n := by unfold SizeE; rw [if_pos hc]; rfl
  have hm : mayE P d n = if P - 32 < sizeN d n then 71 else 0 := by unfold mayE; rw [if_pos hc]; rfl
  have hnk := ho.nk
  have HM := Lib.hid hm; have HSZ := Lib.hid hss
  have HC := Lib.hid hc
  have H := Lib.hid h; have HO := Lib.hid ho
  clear h ho hc hr hm hss
  obtain ⟨W0, hW0⟩ : ∃ W0, W0 = (w.alloc (.cells #[.int .i64 P, .int .i64 d] 23)).alloc (.cells #[.slice pa n.pairs.length pc, .slice sa n.seps.length sc, .slice ka n.kids.length kc] 28) := ⟨_, rfl⟩
  have kw : Kp [] w W0 := by rw [hW0]; exact ((Kp.refl [] w).alloc _).alloc _
  have b0 : Blk W0 w.heap.size 23 #[.int .i64 P, .int .i64 d] := by rw [hW0]; exact (Blk.new w _ _).alloc _
  have b1 : Blk W0 (w.heap.size + 1) 28 #[.slice pa n.pairs.length pc, .slice sa n.seps.length sc, .slice ka n.kids.length kc] := by
    rw [hW0]
    have h := Blk.new (w.alloc (.cells #[.int .i64 P, .int .i64 d] 23)) 28 #[.slice pa n.pairs.length pc, .slice sa n.seps.length sc, .slice ka n.kids.length kc]
    simpa using h
  have hz0 : W0.heap.size = w.heap.size + 2 := by rw [hW0]; simp
  have SK : Hid (∀ W : World, Kp [] W0 W → (W.cell? ⟨w.heap.size, 0, none⟩ = some (.int .i64 P) ∧ W.cell? ⟨w.heap.size, 1, none⟩ = some (.int .i64 d) ∧ W.cell? ⟨w.heap.size + 1, 0, none⟩ = some (.slice pa n.pairs.length pc) ∧ W.cell? ⟨w.heap.size + 1, 1, none⟩ = some (.slice sa n.seps.length sc) ∧ W.cell? ⟨w.heap.size + 1, 2, none⟩ = some (.slice ka n.kids.length kc)) ∧ w.heap.size + 1 < W.heap.size) := Lib.hid (fun W k =>
    ⟨⟨(b0.kp k (by simp)).cell 0, (b0.kp k (by simp)).cell 1, (b1.kp k (by simp)).cell 0, (b1.kp k (by simp)).cell 1, (b1.kp k (by simp)).cell 2⟩, by have := k.size; omega⟩)
  have HK := Lib.hid (H.out.kp0 kw)
  have KW := Lib.hid kw
  have HW0 := Lib.hid hW0
  have hz1 : w.heap.size + 1 < W0.heap.size := by omega
  clear kw b0 b1 hW0 hz0
  have hp0 : ((n.pairs.length : Int) == 0) = true := by rw [beq_iff_eq]; omega
  clear hp
  go_enter Tryz.func23, Tryz.ntmps23
  go_wp2_with fail
  rw [← HW0.out]
  refine (rcheck_any P d pa sa ka pc sc kc n _ HK.out HO.out).mono ?_
  rintro e w1 ⟨rfl, hx1⟩
  have K1 : Hid (Kp [] W0 w1) := Lib.hid (by obtain ⟨bx, nx, rfl⟩ := hx1; exact (Kp.refl [] _).ext _ _)
  obtain ⟨⟨f0, f1, n0, n1, n2⟩, z0⟩ := SK.out _ K1.out
  clear hx1
  rw [HC.out]
  go_wp2_with fail
  refine (rleaf_any _ _ _ _ _ _ _ _ _ _).mono ?_
  rintro e w2 ⟨rfl, hx2⟩
  have K2 : Hid (Kp [] W0 w2) := Lib.hid (by obtain ⟨bx, nx, rfl⟩ := hx2; exact K1.out.ext _ _)
  clear hx2 f0 f1 n0 n1 n2 z0
  obtain ⟨⟨f0, f1, n0, n1, n2⟩, z0⟩ := SK.out _ K2.out
  rw [HL.out]
  go_wp2_with fail
  go_ret2
  exact ⟨rfl, Kp.to_ext (KW.out.trans K2.out)⟩

set_option maxHeartbeats 1000000 in set_option maxRecDepth 100000 in
theorem rpack_any (p wd : Int) (pa sa ka : Option Addr) (pc sc kc : Nat) (n : Nd) (w : World) (h : NdAt w pa sa ka n) (ho : NdOk n) :
    Calls Tryz.prog 23 #[.agg #[.int .i64 p, .int .i64 wd], .agg #[.slice pa n.pairs.length pc, .slice sa n.seps.length sc, .slice ka n.kids.length kc]] w (Rets2 (packS p wd n) (packE p wd n) w) := by
  by_cases hc : checkE p wd n = 0
  · have hr := rightB_iff.1 (checkE_ok hc).1
    obtain ⟨P, rfl⟩ := Int.eq_ofNat_of_zero_le (show 0 ≤ p by omega)
    obtain ⟨d, rfl⟩ := Int.eq_ofNat_of_zero_le (show 0 ≤ wd by omega)
    cases hl : leafB n
    · by_cases hb : P - 32 < sizeN d n
      · exact rpack_br_big P d pa sa ka pc sc kc n w hc hl hb h ho
      · exact rpack_br_fit P d pa sa ka pc sc kc n w hc hl hb h ho
    · by_cases hp : n.pairs.length = 0
      · exact rpack_none P d pa sa ka pc sc kc n w hc hl hp h ho
      · by_cases hb : P - 32 < sizeN d n
        · exact rpack_leaf_big P d pa sa ka pc sc kc n w hc hl hp hb h ho
        · exact rpack_leaf_fit P d pa sa ka pc sc kc n w hc hl hp hb h ho
  · obtain ⟨c, hcc⟩ : ∃ c, checkE p wd n = c := ⟨_, rfl⟩
    have hm : mayE p wd n = c := by unfold mayE; rw [if_neg hc, hcc]
    rw [hcc] at hc
    have hpe : packE p wd n = c := by unfold packE; rw [if_neg (by rw [hcc]; exact fun h => hc h.1), hm, if_neg hc]
    have hps : packS p wd n = [] := by unfold packS; rw [hpe, if_neg hc]
    rw [hpe, hps]
    have hb : (c != 0) = true := by simpa using hc
    have HC := Lib.hid hcc; have H := Lib.hid h; have HO := Lib.hid ho
    clear hm hps hpe hc hcc h ho
    go_enter Tryz.func23, Tryz.ntmps23
    go_wp2_with fail
    refine (rcheck_any p wd pa sa ka pc sc kc n _ (H.out.kp0 (((Kp.refl [] _).alloc _).alloc _)) HO.out).mono ?_
    rintro e w' ⟨rfl, bs0, m0, rfl⟩
    rw [HC.out]
    go_wp2_with fail
    go_ret2
    exact ⟨rfl, by (try simp only [alloc_ext, drew_ext, drewN_ext, ext_ext]); exact ⟨_, _, rfl⟩⟩

end Go.Proofs.YtemicgccgcmmbaaGreat
