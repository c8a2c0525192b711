/- NodeChecks answers true of any frame and any node of few parts. Printed by genchecks.py. -/
import Derived.Test.YtemicgccgcmmbaaGreatZ12
import Derived.Test.YtemicgccgcmmbaaGreatZ5
import Derived.Test.YtemicgccgcmmbaaGreatZ10
import Derived.Test.YtemicgccgcmmbaaGreatRows
namespace Go.Proofs.YtemicgccgcmmbaaGreat
set_option linter.unusedVariables false
set_option linter.unusedSimpArgs false
open Go Go.RowKit

set_option maxHeartbeats 8000000 in
set_option maxRecDepth 100000 in
theorem checks_law (p wd : Int) (pa sa ka : Option Addr) (pc sc kc : Nat) (n : Nd) (w : World) (h : NdAt w pa sa ka n) (ho : NdOk n) (hf : NdFew n) :
    Calls Tryz.prog 5 #[.agg #[.int .i64 p, .int .i64 wd], .agg #[.slice pa n.pairs.length pc, .slice sa n.seps.length sc, .slice ka n.kids.length kc]] w fun e w' => e = .returned (.bool true) ∧ Kp [] w w' := by
  obtain ⟨W0, hW0⟩ : ∃ W0, W0 = (w.alloc (.cells #[.int .i64 p, .int .i64 wd] 23)).alloc (.cells #[.slice pa n.pairs.length pc, .slice sa n.seps.length sc, .slice ka n.kids.length kc] 28) := ⟨_, rfl⟩
  have kw : Kp [] w W0 := by rw [hW0]; exact ((Kp.refl [] w).alloc _).alloc _
  have b0 : Blk W0 w.heap.size 23 #[.int .i64 p, .int .i64 wd] := by rw [hW0]; exact (Blk.new w _ _).alloc _
  have b1 : Blk W0 (w.heap.size + 1) 28 #[.slice pa n.pairs.length pc, .slice sa n.seps.length sc, .slice ka n.kids.length kc] := by
    rw [hW0]
    have h := Blk.new (w.alloc (.cells #[.int .i64 p, .int .i64 wd] 23)) 28 #[.slice pa n.pairs.length pc, .slice sa n.seps.length sc, .slice ka n.kids.length kc]
    simpa using h
  have B0 := Lib.hid b0; have B1 := Lib.hid b1; have HW0 := Lib.hid hW0; have KW := Lib.hid kw
  have H := Lib.hid (h.kp0 kw); have HO := Lib.hid ho; have HF := Lib.hid hf
  have hz1 := b1.lt
  have c0 := b1.cell 0; have c1 := b1.cell 1; have c2 := b1.cell 2
  simp at c0 c1 c2
  obtain ⟨S1, hS1⟩ : ∃ S1, packS p wd n = S1 := ⟨_, rfl⟩
  obtain ⟨E1, hE1⟩ : ∃ E1, packE p wd n = E1 := ⟨_, rfl⟩
  obtain ⟨S2, hS2⟩ : ∃ S2, plainS p wd n = S2 := ⟨_, rfl⟩
  obtain ⟨E2, hE2⟩ : ∃ E2, mayE p wd n = E2 := ⟨_, rfl⟩
  obtain ⟨⟨d, e3⟩, hd⟩ : ∃ x, sumN p wd n = x := ⟨_, rfl⟩
  obtain ⟨⟨g, e4⟩, hg⟩ : ∃ x, sumN p wd noN = x := ⟨_, rfl⟩
  obtain ⟨r, hr⟩ : ∃ r, rightB p wd = r := ⟨_, rfl⟩
  obtain ⟨c, hc⟩ : ∃ c, checkE p wd n = c := ⟨_, rfl⟩
  obtain ⟨z, hz⟩ : ∃ z, SizeE p wd n = z := ⟨_, rfl⟩
  have HS1 := Lib.hid hS1; have HE1 := Lib.hid hE1; have HS2 := Lib.hid hS2; have HE2 := Lib.hid hE2; have HD := Lib.hid hd; have HG := Lib.hid hg; have HR := Lib.hid hr; have HC := Lib.hid hc; have HZ := Lib.hid hz
  clear h ho hf b0 b1 hW0 kw hS1 hE1 hS2 hE2 hd hg hr hc hz
  go_enter Tryz.func5, Tryz.ntmps5
  go_wp2_with fail
  rw [← HW0.out]
  refine (lent_any pa sa ka pc sc kc n _ H.out HO.out HF.out).mono ?_
  rintro e w1 ⟨gp, gs, gk, pc1, sc1, kc1, rfl, ox, k1⟩
  have OX1 := Lib.hid ox; have K1 := Lib.hid k1
  clear ox k1 c0 c1 c2
  have m0 := B0.out.kp K1.out (by simp); have m1 := B1.out.kp K1.out (by simp)
  have g0 := m0.cell 0; have g1 := m0.cell 1; have g2 := m1.cell 0; have g3 := m1.cell 1; have g4 := m1.cell 2; have g5 := m1.lt
  simp at g0 g1 g2 g3 g4
  clear m0 m1
  go_wp2_with fail
  clear g0 g1 g2 g3 g4 g5
  obtain ⟨X, hX⟩ : ∃ X, X = w1.alloc (.cells #[.slice (some ⟨gp, 0, none⟩) n.pairs.length pc1, .slice (some ⟨gs, 0, none⟩) n.seps.length sc1, .slice (some ⟨gk, 0, none⟩) n.kids.length kc1] 28) := ⟨_, rfl⟩
  rw [← hX]
  have kx : Kp [] W0 X := by rw [hX]; exact K1.out.alloc _
  have b5 : Blk X w1.heap.size 28 #[.slice (some ⟨gp, 0, none⟩) n.pairs.length pc1, .slice (some ⟨gs, 0, none⟩) n.seps.length sc1, .slice (some ⟨gk, 0, none⟩) n.kids.length kc1] := by rw [hX]; exact Blk.new _ _ _
  have OX : Hid (Own3 X W0.heap.size (some ⟨gp, 0, none⟩) (some ⟨gs, 0, none⟩) (some ⟨gk, 0, none⟩) pc1 sc1 kc1 n.mk1) := Lib.hid (by rw [hX]; exact OX1.out.kp ((Kp.refl [] _).alloc _) (by simp))
  have KX := Lib.hid kx
  obtain ⟨B5, hB5⟩ : ∃ B5, w1.heap.size = B5 := ⟨_, rfl⟩
  rw [hB5] at b5 ⊢
  have SK : Hid (∀ W : World, Kp [] X W → ((W.cell? ⟨w.heap.size, 0, none⟩ = some (.int .i64 p) ∧ W.cell? ⟨w.heap.size, 1, none⟩ = some (.int .i64 wd)) ∧ (W.cell? ⟨w.heap.size + 1, 0, none⟩ = some (.slice pa n.pairs.length pc) ∧ W.cell? ⟨w.heap.size + 1, 1, none⟩ = some (.slice sa n.seps.length sc) ∧ W.cell? ⟨w.heap.size + 1, 2, none⟩ = some (.slice ka n.kids.length kc)) ∧ (W.cell? ⟨B5, 0, none⟩ = some (.slice (some ⟨gp, 0, none⟩) n.pairs.length pc1) ∧ W.cell? ⟨B5, 1, none⟩ = some (.slice (some ⟨gs, 0, none⟩) n.seps.length sc1) ∧ W.cell? ⟨B5, 2, none⟩ = some (.slice (some ⟨gk, 0, none⟩) n.kids.length kc1))) ∧ w.heap.size + 1 < W.heap.size ∧ B5 < W.heap.size) := Lib.hid (fun W k =>
    have a0 := (B0.out.kp kx (by simp)).kp k (by simp); have a1 := (B1.out.kp kx (by simp)).kp k (by simp); have a2 := b5.kp k (by simp)
    ⟨⟨⟨a0.cell 0, a0.cell 1⟩, ⟨a1.cell 0, a1.cell 1, a1.cell 2⟩, ⟨a2.cell 0, a2.cell 1, a2.cell 2⟩⟩, a1.lt, a2.lt⟩)
  have NK : Hid (∀ W : World, Kp [] X W → NdAt W pa sa ka n) := Lib.hid (fun W k => H.out.kp0 (kx.trans k))
  have LK : Hid (∀ W : World, Kp [] X W → Own3 W W0.heap.size (some ⟨gp, 0, none⟩) (some ⟨gs, 0, none⟩) (some ⟨gk, 0, none⟩) pc1 sc1 kc1 n.mk1) := Lib.hid (fun W k => OX.out.kp k (by simp))
  clear kx b5 hX hB5 hz1
  have KC : Hid (Kp [] X X) := Lib.hid (Kp.refl [] X)
  refine (Pack_any p wd (some ⟨gp, 0, none⟩) (some ⟨gs, 0, none⟩) (some ⟨gk, 0, none⟩) pc1 sc1 kc1 n _ (LK.out _ KC.out).lent.1 HO.out).mono ?_
  rw [HS1.out, HE1.out]
  rintro e v2 ⟨rfl, hx⟩
  have KN : Hid (Kp [] X v2) := Lib.hid (by obtain ⟨bx, nx, rfl⟩ := hx; exact KC.out.ext _ _)
  have kn : Kp [] X v2 := by obtain ⟨bx, nx, rfl⟩ := hx; exact (Kp.refl [] _).ext _ _
  clear hx kn KC
  have KC := KN
  clear KN
  obtain ⟨⟨⟨f0, f1⟩, ⟨a0, a1, a2⟩, ⟨l0, l1, l2⟩⟩, y0, y1⟩ := SK.out _ KC.out
  go_wp2_with fail
  refine (rpack_any p wd pa sa ka pc sc kc n _ (NK.out _ KC.out) HO.out).mono ?_
  rw [HS1.out, HE1.out]
  rintro e v3 ⟨rfl, hx⟩
  have KN : Hid (Kp [] X v3) := Lib.hid (by obtain ⟨bx, nx, rfl⟩ := hx; exact KC.out.ext _ _)
  have kn : Kp [] v2 v3 := by obtain ⟨bx, nx, rfl⟩ := hx; exact (Kp.refl [] _).ext _ _
  clear hx kn KC f0 f1 a0 a1 a2 l0 l1 l2 y0 y1
  have KC := KN
  clear KN
  obtain ⟨⟨⟨f0, f1⟩, ⟨a0, a1, a2⟩, ⟨l0, l1, l2⟩⟩, y0, y1⟩ := SK.out _ KC.out
  go_wp2_with fail
  refine (Plain_any p wd (some ⟨gp, 0, none⟩) (some ⟨gs, 0, none⟩) (some ⟨gk, 0, none⟩) pc1 sc1 kc1 n _ (LK.out _ KC.out).lent.1 HO.out).mono ?_
  rw [HS2.out, HE2.out]
  rintro e v4 ⟨rfl, hx⟩
  have KN : Hid (Kp [] X v4) := Lib.hid (by obtain ⟨bx, nx, rfl⟩ := hx; exact KC.out.ext _ _)
  have kn : Kp [] v3 v4 := by obtain ⟨bx, nx, rfl⟩ := hx; exact (Kp.refl [] _).ext _ _
  clear hx kn KC f0 f1 a0 a1 a2 l0 l1 l2 y0 y1
  have KC := KN
  clear KN
  obtain ⟨⟨⟨f0, f1⟩, ⟨a0, a1, a2⟩, ⟨l0, l1, l2⟩⟩, y0, y1⟩ := SK.out _ KC.out
  go_wp2_with fail
  refine (rplain_any p wd pa sa ka pc sc kc n _ (NK.out _ KC.out) HO.out).mono ?_
  rw [HS2.out, HE2.out]
  rintro e v5 ⟨rfl, hx⟩
  have KN : Hid (Kp [] X v5) := Lib.hid (by obtain ⟨bx, nx, rfl⟩ := hx; exact KC.out.ext _ _)
  have kn : Kp [] v4 v5 := by obtain ⟨bx, nx, rfl⟩ := hx; exact (Kp.refl [] _).ext _ _
  clear hx kn KC f0 f1 a0 a1 a2 l0 l1 l2 y0 y1
  have KC := KN
  clear KN
  obtain ⟨⟨⟨f0, f1⟩, ⟨a0, a1, a2⟩, ⟨l0, l1, l2⟩⟩, y0, y1⟩ := SK.out _ KC.out
  go_wp2_with fail
  refine (kept_any gp gs gk pc1 sc1 kc1 W0.heap.size pa sa ka pc sc kc n _ (LK.out _ KC.out) (NK.out _ KC.out) HO.out HF.out).mono ?_
  rintro e v6 ⟨rfl, hx⟩
  have KN : Hid (Kp [] X v6) := Lib.hid (by obtain ⟨bx, nx, rfl⟩ := hx; exact KC.out.ext _ _)
  have kn : Kp [] v5 v6 := by obtain ⟨bx, nx, rfl⟩ := hx; exact (Kp.refl [] _).ext _ _
  clear hx kn KC f0 f1 a0 a1 a2 l0 l1 l2 y0 y1
  have KC := KN
  clear KN
  obtain ⟨⟨⟨f0, f1⟩, ⟨a0, a1, a2⟩, ⟨l0, l1, l2⟩⟩, y0, y1⟩ := SK.out _ KC.out
  go_wp2_with fail
  refine (nsum_any p wd (some ⟨gp, 0, none⟩) (some ⟨gs, 0, none⟩) (some ⟨gk, 0, none⟩) pc1 sc1 kc1 n _ (LK.out _ KC.out).lent.1 HO.out).mono ?_
  rw [HD.out]
  rintro e v7 ⟨rfl, hx⟩
  have KN : Hid (Kp [] X v7) := Lib.hid (by obtain ⟨bx, nx, rfl⟩ := hx; exact KC.out.ext _ _)
  have kn : Kp [] v6 v7 := by obtain ⟨bx, nx, rfl⟩ := hx; exact (Kp.refl [] _).ext _ _
  clear hx kn KC f0 f1 a0 a1 a2 l0 l1 l2 y0 y1
  have KC := KN
  clear KN
  obtain ⟨⟨⟨f0, f1⟩, ⟨a0, a1, a2⟩, ⟨l0, l1, l2⟩⟩, y0, y1⟩ := SK.out _ KC.out
  go_wp2_with fail
  obtain ⟨Y7, hY⟩ : ∃ Y, Y = v7.alloc (.cells d.c 36) := ⟨_, rfl⟩
  rw [← hY]
  have KN : Hid (Kp [] X Y7) := Lib.hid (by rw [hY]; exact KC.out.alloc _)
  have DA : Hid (Blk Y7 v7.heap.size 36 d.c) := Lib.hid (by rw [hY]; exact Blk.new _ _ _)
  obtain ⟨qDA, hq⟩ : ∃ q, v7.heap.size = q := ⟨_, rfl⟩
  rw [hq] at DA ⊢
  clear KC hY hq f0 f1 a0 a1 a2 l0 l1 l2 y0 y1
  have KC := KN
  clear KN
  obtain ⟨⟨⟨f0, f1⟩, ⟨a0, a1, a2⟩, ⟨l0, l1, l2⟩⟩, y0, y1⟩ := SK.out _ KC.out
  refine (rsum07_any p wd pa sa ka pc sc kc n _ (NK.out _ KC.out) HO.out).mono ?_
  rw [HD.out]
  rintro e v8 ⟨rfl, hx⟩
  have KN : Hid (Kp [] X v8) := Lib.hid (by obtain ⟨bx, nx, rfl⟩ := hx; exact KC.out.ext _ _)
  have kn : Kp [] Y7 v8 := by obtain ⟨bx, nx, rfl⟩ := hx; exact (Kp.refl [] _).ext _ _
  have DAn := Lib.hid (DA.out.kp kn (by simp)); clear DA; have DA := DAn; clear DAn
  clear hx kn KC f0 f1 a0 a1 a2 l0 l1 l2 y0 y1
  have KC := KN
  clear KN
  obtain ⟨⟨⟨f0, f1⟩, ⟨a0, a1, a2⟩, ⟨l0, l1, l2⟩⟩, y0, y1⟩ := SK.out _ KC.out
  go_wp2_with fail
  obtain ⟨Y8, hY⟩ : ∃ Y, Y = v8.alloc (.cells d.c 36) := ⟨_, rfl⟩
  rw [← hY]
  have KN : Hid (Kp [] X Y8) := Lib.hid (by rw [hY]; exact KC.out.alloc _)
  have DB : Hid (Blk Y8 v8.heap.size 36 d.c) := Lib.hid (by rw [hY]; exact Blk.new _ _ _)
  have DAn := Lib.hid (DA.out.alloc (.cells d.c 36)); rw [← hY] at DAn; clear DA; have DA := DAn; clear DAn
  obtain ⟨qDB, hq⟩ : ∃ q, v8.heap.size = q := ⟨_, rfl⟩
  rw [hq] at DB ⊢
  clear KC hY hq f0 f1 a0 a1 a2 l0 l1 l2 y0 y1
  have KC := KN
  clear KN
  obtain ⟨⟨⟨f0, f1⟩, ⟨a0, a1, a2⟩, ⟨l0, l1, l2⟩⟩, y0, y1⟩ := SK.out _ KC.out
  refine (nempty_any p wd _).mono ?_
  rw [HG.out]
  rintro e v9 ⟨rfl, hx⟩
  have KN : Hid (Kp [] X v9) := Lib.hid (by obtain ⟨bx, nx, rfl⟩ := hx; exact KC.out.ext _ _)
  have kn : Kp [] Y8 v9 := by obtain ⟨bx, nx, rfl⟩ := hx; exact (Kp.refl [] _).ext _ _
  have DAn := Lib.hid (DA.out.kp kn (by simp)); clear DA; have DA := DAn; clear DAn
  have DBn := Lib.hid (DB.out.kp kn (by simp)); clear DB; have DB := DBn; clear DBn
  clear hx kn KC f0 f1 a0 a1 a2 l0 l1 l2 y0 y1
  have KC := KN
  clear KN
  obtain ⟨⟨⟨f0, f1⟩, ⟨a0, a1, a2⟩, ⟨l0, l1, l2⟩⟩, y0, y1⟩ := SK.out _ KC.out
  go_wp2_with fail
  obtain ⟨Y9, hY⟩ : ∃ Y, Y = v9.alloc (.cells g.c 36) := ⟨_, rfl⟩
  rw [← hY]
  have KN : Hid (Kp [] X Y9) := Lib.hid (by rw [hY]; exact KC.out.alloc _)
  have DC : Hid (Blk Y9 v9.heap.size 36 g.c) := Lib.hid (by rw [hY]; exact Blk.new _ _ _)
  have DAn := Lib.hid (DA.out.alloc (.cells g.c 36)); rw [← hY] at DAn; clear DA; have DA := DAn; clear DAn
  have DBn := Lib.hid (DB.out.alloc (.cells g.c 36)); rw [← hY] at DBn; clear DB; have DB := DBn; clear DBn
  obtain ⟨qDC, hq⟩ : ∃ q, v9.heap.size = q := ⟨_, rfl⟩
  rw [hq] at DC ⊢
  clear KC hY hq f0 f1 a0 a1 a2 l0 l1 l2 y0 y1
  have KC := KN
  clear KN
  obtain ⟨⟨⟨f0, f1⟩, ⟨a0, a1, a2⟩, ⟨l0, l1, l2⟩⟩, y0, y1⟩ := SK.out _ KC.out
  refine (rempty_any p wd _).mono ?_
  rw [HG.out]
  rintro e v10 ⟨rfl, hx⟩
  have KN : Hid (Kp [] X v10) := Lib.hid (by obtain ⟨bx, nx, rfl⟩ := hx; exact KC.out.ext _ _)
  have kn : Kp [] Y9 v10 := by obtain ⟨bx, nx, rfl⟩ := hx; exact (Kp.refl [] _).ext _ _
  have DAn := Lib.hid (DA.out.kp kn (by simp)); clear DA; have DA := DAn; clear DAn
  have DBn := Lib.hid (DB.out.kp kn (by simp)); clear DB; have DB := DBn; clear DBn
  have DCn := Lib.hid (DC.out.kp kn (by simp)); clear DC; have DC := DCn; clear DCn
  clear hx kn KC f0 f1 a0 a1 a2 l0 l1 l2 y0 y1
  have KC := KN
  clear KN
  obtain ⟨⟨⟨f0, f1⟩, ⟨a0, a1, a2⟩, ⟨l0, l1, l2⟩⟩, y0, y1⟩ := SK.out _ KC.out
  have rDA : rowAt? v10 ⟨qDA, 0, none⟩ 32 = some d.c := by have h := rowAt?_blk DA.out; rwa [Dg.c_size] at h
  have lDA := DA.out.lt
  have rDB : rowAt? v10 ⟨qDB, 0, none⟩ 32 = some d.c := by have h := rowAt?_blk DB.out; rwa [Dg.c_size] at h
  have lDB := DB.out.lt
  have rDC : rowAt? v10 ⟨qDC, 0, none⟩ 32 = some g.c := by have h := rowAt?_blk DC.out; rwa [Dg.c_size] at h
  have lDC := DC.out.lt
  go_wp2_with fail
  refine (kept_any gp gs gk pc1 sc1 kc1 W0.heap.size pa sa ka pc sc kc n _ (LK.out _ (KC.out.alloc _)) (NK.out _ (KC.out.alloc _)) HO.out HF.out).mono ?_
  rintro e v99 ⟨rfl, hx⟩
  have KN : Hid (Kp [] X v99) := Lib.hid (by obtain ⟨bx, nx, rfl⟩ := hx; exact (KC.out.alloc _).ext _ _)
  clear hx KC f0 f1 a0 a1 a2 l0 l1 l2 y0 y1 rDA rDB rDC lDA lDB lDC DA DB DC
  have KC := KN
  clear KN
  obtain ⟨⟨⟨f0, f1⟩, ⟨a0, a1, a2⟩, ⟨l0, l1, l2⟩⟩, y0, y1⟩ := SK.out _ KC.out
  have RR : Hid (∀ W, Calls Tryz.prog 29 #[.agg #[.int .i64 p, .int .i64 wd]] W (Rets (.bool r) W)) := Lib.hid (fun W => by have h := right_any p wd W; rwa [HR.out] at h)
  have RS : Hid (∀ W, Calls Tryz.prog 30 #[.agg #[.int .i64 p, .int .i64 wd]] W (Rets (.bool r) W)) := Lib.hid (fun W => by have h := rright_any p wd W; rwa [HR.out] at h)
  have RC : Hid (∀ W, Kp [] X W → Calls Tryz.prog 31 #[.agg #[.int .i64 p, .int .i64 wd], .agg #[.slice (some ⟨gp, 0, none⟩) n.pairs.length pc1, .slice (some ⟨gs, 0, none⟩) n.seps.length sc1, .slice (some ⟨gk, 0, none⟩) n.kids.length kc1]] W (Rets (.int .i64 c) W)) := Lib.hid (fun W k => by have h := check_any p wd (some ⟨gp, 0, none⟩) (some ⟨gs, 0, none⟩) (some ⟨gk, 0, none⟩) pc1 sc1 kc1 n W (LK.out W k).lent.1 HO.out; rwa [HC.out] at h)
  have RD : Hid (∀ W, Kp [] X W → Calls Tryz.prog 15 #[.agg #[.int .i64 p, .int .i64 wd], .agg #[.slice pa n.pairs.length pc, .slice sa n.seps.length sc, .slice ka n.kids.length kc]] W (Rets (.int .i64 c) W)) := Lib.hid (fun W k => by have h := rcheck_any p wd pa sa ka pc sc kc n W (NK.out W k) HO.out; rwa [HC.out] at h)
  have RY : Hid (∀ W, Kp [] X W → Calls Tryz.prog 32 #[.agg #[.int .i64 p, .int .i64 wd], .agg #[.slice (some ⟨gp, 0, none⟩) n.pairs.length pc1, .slice (some ⟨gs, 0, none⟩) n.seps.length sc1, .slice (some ⟨gk, 0, none⟩) n.kids.length kc1]] W (Rets (.int .i64 (z : Nat)) W)) := Lib.hid (fun W k => by have h := Size_any p wd (some ⟨gp, 0, none⟩) (some ⟨gs, 0, none⟩) (some ⟨gk, 0, none⟩) pc1 sc1 kc1 n W (LK.out W k).lent.1 HO.out; rwa [HZ.out] at h)
  have RZ : Hid (∀ W, Kp [] X W → Calls Tryz.prog 33 #[.agg #[.int .i64 p, .int .i64 wd], .agg #[.slice pa n.pairs.length pc, .slice sa n.seps.length sc, .slice ka n.kids.length kc]] W (Rets (.int .i64 (z : Nat)) W)) := Lib.hid (fun W k => by have h := rsize_any p wd pa sa ka pc sc kc n W (NK.out W k) HO.out; rwa [HZ.out] at h)
  have RK : Hid (∀ W, Kp [] X W → Calls Tryz.prog 25 #[.agg #[.slice (some ⟨gp, 0, none⟩) n.pairs.length pc1, .slice (some ⟨gs, 0, none⟩) n.seps.length sc1, .slice (some ⟨gk, 0, none⟩) n.kids.length kc1], .agg #[.slice pa n.pairs.length pc, .slice sa n.seps.length sc, .slice ka n.kids.length kc]] W (Rets (.bool true) W)) := Lib.hid (fun W k => kept_any gp gs gk pc1 sc1 kc1 W0.heap.size pa sa ka pc sc kc n W (LK.out W k) (NK.out W k) HO.out HF.out)
  go_wp2_with fail
  refine wp_region_ext (by kernel_rfl) (by kernel_rfl) ?_
  repeat (go_big_quiet_step (first
    | (go_at_call 29; exact Calls.quiet_ext (RR.out _))
    | (go_at_call 30; exact Calls.quiet_ext (RS.out _))
    | (go_at_call 31; exact Calls.quiet_ext (RC.out _ (KC.out.ext _ _)))
    | (go_at_call 15; exact Calls.quiet_ext (RD.out _ (KC.out.ext _ _)))
    | (go_at_call 32; exact Calls.quiet_ext (RY.out _ (KC.out.ext _ _)))
    | (go_at_call 33; exact Calls.quiet_ext (RZ.out _ (KC.out.ext _ _)))
    | (go_at_call 25; exact Calls.quiet_ext (RK.out _ (KC.out.ext _ _)))
    | (go_at_call 12; exact Calls.quiet_ext (lives_any _))))
  (refine wpQuiet_nil ?_; intro _ hw'; obtain ⟨⟨bsq, nq⟩, hw''⟩ := hw'; subst hw'')
  go_wp2_with fail
  go_ret
  exact ⟨rfl, (KW.out.trans (KX.out.trans KC.out)).ext _ _⟩

end Go.Proofs.YtemicgccgcmmbaaGreat

/- What a bound on the bulk gives of a node that comes in: its lists are short. -/
namespace Go.Proofs.YtemicgccgcmmbaaGreat
set_option linter.unusedVariables false
set_option linter.unusedSimpArgs false
open Go Go.RowKit Go.ChangeShapes Go.WideShapes Go.Deep Go.Joins

/-- A datum that stands for a slice of so many. -/
def SlLen {H : Type} (d : DataW H) (n : Nat) : Prop := (∃ es sp, d = .slice es sp ∧ es.length = n) ∨ n = 0

section
variable {H : Type} {enc : TypeId × Value → H} {w : World} {base : Nat} {spare : Nat → Bool} {held : Bool}

theorem sl_len {P : Program} {t e : TypeId} {fuel : Nat} {cs : List Value} {x : DataW H × List MemPlace} (ht : P.underlying t = some (.slice e)) (h : DataW.trod enc P w base spare held fuel t cs = some x) :
    ∃ (a : Option Addr) (len cap : Nat), cs = [.slice a len cap] ∧ SlLen x.1 len := by
  rcases DataW.trod_slice ht h with ⟨rfl, rfl⟩ | ⟨a, len, cap, elems, rest, n, _, rfl, rfl, hb, hl, hm, hlen, hel, _, _⟩
  · exact ⟨none, 0, 0, rfl, .inr rfl⟩
  · exact ⟨some a, len, cap, rfl, .inl ⟨_, _, rfl, by simp; omega⟩⟩

theorem node_len {v : Value} {d : DataW H} {p : List MemPlace} (h : DataW.Trod enc Tryz.prog w base spare held 28 v d p) {pa sa ka : Option Addr} {l0 l1 l2 pc sc kc : Nat} (hv : v = .agg #[.slice pa l0 pc, .slice sa l1 sc, .slice ka l2 kc]) :
    ∃ s0 s1 s2 : DataW H, d = .agg [s0, s1, s2] ∧ SlLen s0 l0 ∧ SlLen s1 l1 ∧ SlLen s2 l2 := by
  obtain ⟨fuel, hf⟩ := h
  obtain ⟨f0, f1, f2, hu, e0, e1, e2, o0, o1, o2⟩ := node_struct
  obtain ⟨y0, y1, y2, n, hx, hl, h0, h1, h2⟩ := trod_struct3 hu hf
  have i0 : Tryz.prog.cellsOf 24 = 1 := by kernel_rfl
  have i1 : Tryz.prog.cellsOf 25 = 1 := by kernel_rfl
  have i2 : Tryz.prog.cellsOf 26 = 1 := by kernel_rfl
  rw [e0, o0, i0] at h0
  rw [e1, o1, i1] at h1
  rw [e2, o2, i2] at h2
  subst hv
  obtain ⟨a0, n0, c0, q0, r0⟩ := sl_len Tryz.underlying24 h0
  obtain ⟨a1, n1, c1, q1, r1⟩ := sl_len Tryz.underlying25 h1
  obtain ⟨a2, n2, c2, q2, r2⟩ := sl_len Tryz.underlying26 h2
  simp [Value.cells] at q0 q1 q2
  obtain ⟨-, rfl, -⟩ := q0
  obtain ⟨-, rfl, -⟩ := q1
  obtain ⟨-, rfl, -⟩ := q2
  simp only [Prod.mk.injEq] at hx
  exact ⟨y0.1, y1.1, y2.1, hx.1, r0, r1, r2⟩

theorem bulk_pos : ∀ d : DataW H, 1 ≤ Rows.uptoBulk d
  | .lit l => by cases l <;> simp [Rows.uptoBulk]
  | .nil => by simp [Rows.uptoBulk]
  | .ptr d => by simp [Rows.uptoBulk]
  | .slice _ _ => by simp [Rows.uptoBulk]
  | .agg _ => by simp [Rows.uptoBulk]
  | .iface _ _ => by simp [Rows.uptoBulk]
  | .map _ => by simp [Rows.uptoBulk]
  | .held _ => by simp [Rows.uptoBulk]
theorem bulk_len : ∀ es : List (DataW H), es.length ≤ Rows.uptoBulkAll es
  | [] => by simp
  | d :: r => by have := bulk_pos d; have := bulk_len r; simp only [List.length_cons, Rows.uptoBulkAll]; omega
theorem SlLen.le {d : DataW H} {n : Nat} (h : SlLen d n) : n ≤ Rows.uptoBulk d := by
  rcases h with ⟨es, sp, rfl, rfl⟩ | rfl
  · have := bulk_len es; simp only [Rows.uptoBulk]; omega
  · omega

theorem few_node {v : Value} {d : DataW H} {p : List MemPlace} (h : DataW.Trod enc Tryz.prog w base spare held 28 v d p) {pa sa ka : Option Addr} {pc sc kc : Nat} {n : Nd} (hv : v = .agg #[.slice pa n.pairs.length pc, .slice sa n.seps.length sc, .slice ka n.kids.length kc])
    (hb : Rows.uptoBulk d ≤ 1048576) : NdFew n := by
  obtain ⟨s0, s1, s2, rfl, r0, r1, r2⟩ := node_len h hv
  have := r0.le; have := r1.le; have := r2.le
  simp only [Rows.uptoBulk, Rows.uptoBulkAll] at hb
  exact ⟨by omega, by omega, by omega⟩
end

end Go.Proofs.YtemicgccgcmmbaaGreat
