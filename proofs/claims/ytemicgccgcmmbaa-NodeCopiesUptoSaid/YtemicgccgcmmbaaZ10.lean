/- apart: two answers share nothing. -/
import Derived.Test.YtemicgccgcmmbaaZ9
import Derived.Test.YtemicgccgcmmbaaZ7
import Derived.Deep.Cut
import Derived.Deep.RegionHeld3
import Derived.Test.YtemicgccgcmmbaaZ1
import Derived.Deep.Slices
import Derived.ChangeArms
import Derived.ShutString
import Derived.ChangeOld
import Derived.SizedLaws
import Derived.Lib.SmallJoins
import Derived.Below
import Derived.Test.YtemicgccgcmmbaaRows
import Derived.Test.YtemicgccgcmmbaaZ5
namespace Go.Proofs.Ytemicgccgcmmbaa
set_option linter.unusedVariables false
set_option linter.unusedSimpArgs false
open Go Go.RowKit

def blks (pa sa ka : Option Addr) : List Nat := ab pa ++ ab sa ++ ab ka

theorem spoil_at (mark : UInt8) (v : Int) (hv : (mark.toNat : Int) = v) {lo : Nat} {pa sa ka : Option Addr} {pc sc kc lp ls lk : Nat} {n : Nd} {w : World} (h : Own3 w lo pa sa ka pc sc kc n) (hf : NdFew n) (e1 : n.pairs.length = lp) (e2 : n.seps.length = ls) (e3 : n.kids.length = lk) :
    Calls Try.prog 26 #[.agg #[.slice pa lp pc, .slice sa ls sc, .slice ka lk kc], .int .u32 v] w fun e w' =>
      e = .returned (.tuple #[]) ∧ Own3 w' lo pa sa ka pc sc kc (n.spoilt mark) ∧ Kp (blks pa sa ka) w w' := by
  subst hv e1 e2 e3
  have := spoil_any mark lo pa sa ka pc sc kc n Nd.none w (by rw [Nd.app_none]; exact h) hf
  refine this.mono ?_
  rintro e w' ⟨h1, h2, h3⟩
  rw [Nd.app_none] at h2
  exact ⟨h1, h2, h3⟩

theorem grown_at (mark : UInt8) (v : Int) (hv : (mark.toNat : Int) = v) {lo : Nat} {pa sa ka : Option Addr} {pc sc kc lp ls lk : Nat} {n : Nd} {w : World} (h : Own3 w lo pa sa ka pc sc kc n) (hl : lo ≤ w.heap.size) (hf : NdFew n) (e1 : n.pairs.length = lp) (e2 : n.seps.length = ls) (e3 : n.kids.length = lk) :
    Calls Try.prog 50 #[.agg #[.slice pa lp pc, .slice sa ls sc, .slice ka lk kc], .int .u32 v] w fun e w' =>
      ∃ qa ta la qc tc lc, e = .returned (.agg #[.slice qa (lp + 40) qc, .slice ta (ls + 40) tc, .slice la (lk + 40) lc]) ∧ Own3 w' lo qa ta la qc tc lc (n.app (Nd.ys mark 40)) ∧ NdAt w' pa sa ka n ∧ Kp (blks pa sa ka) w w' ∧
        ∀ g ∈ blks qa ta la, g ∈ blks pa sa ka ∨ w.heap.size ≤ g := by
  subst hv e1 e2 e3
  refine (grown_any mark lo pa sa ka pc sc kc n w h hl hf).mono ?_
  rintro e w' ⟨qa, ta, la, qc, tc, lc, he, ho, hn, hk, h1, h2, h3⟩
  refine ⟨qa, ta, la, qc, tc, lc, he, ho, hn, hk, fun g hg => ?_⟩
  simp only [blks, List.mem_append] at hg ⊢
  rcases hg with (hg | hg) | hg
  · rcases h1 g hg with h | h
    · exact .inl (.inl (.inl h))
    · exact .inr h
  · rcases h2 g hg with h | h
    · exact .inl (.inl (.inr h))
    · exact .inr h
  · rcases h3 g hg with h | h
    · exact .inl (.inr h)
    · exact .inr h

theorem marked_at (mark : UInt8) (v : Int) (hv : (mark.toNat : Int) = v) {pa sa ka : Option Addr} {pc sc kc lp ls lk p s q : Nat} {m : Nd} {w : World} (h : NdAt w pa sa ka m) (hm : MkN mark m p s q) (b1 : m.pairs.length ≤ 2000000) (b2 : m.seps.length ≤ 2000000) (b3 : m.kids.length ≤ 2000000) (b4 : p ≤ 2000000) (b5 : s ≤ 2000000) (b6 : q ≤ 2000000)
    (e1 : m.pairs.length = lp) (e2 : m.seps.length = ls) (e3 : m.kids.length = lk) :
    Calls Try.prog 51 #[.agg #[.slice pa lp pc, .slice sa ls sc, .slice ka lk kc], .int .i64 p, .int .i64 s, .int .i64 q, .int .u32 v] w (Rets (.bool true) w) := by
  subst hv e1 e2 e3
  exact marked_any mark pa sa ka pc sc kc p s q m w h hm b1 b2 b3 b4 b5 b6

theorem Own3.blt {w : World} {lo : Nat} {pa sa ka : Option Addr} {pc sc kc : Nat} {n : Nd} (h : Own3 w lo pa sa ka pc sc kc n) : ∀ g ∈ blks pa sa ka, g < w.heap.size := fun g hg => by
  simp only [blks, List.mem_append] at hg
  rcases hg with (hg | hg) | hg
  · exact h.ps.lt g hg
  · exact h.ss.lt g hg
  · exact h.ks.lt g hg

set_option maxHeartbeats 4000000 in
set_option maxRecDepth 100000 in
theorem apart_any (lo1 lo2 : Nat) (pa sa ka qa ta la : Option Addr) (pc sc kc qc tc lc : Nat) (n m : Nd) (w : World) (h : Own3 w lo1 pa sa ka pc sc kc n) (k : Own3 w lo2 qa ta la qc tc lc m) (hd : ∀ g ∈ blks pa sa ka, g ∉ blks qa ta la) (hl1 : lo1 ≤ w.heap.size) (hl2 : lo2 ≤ w.heap.size) (hf : NdFew n) (kf : NdFew m) :
    Calls Try.prog 27 #[.agg #[.slice pa n.pairs.length pc, .slice sa n.seps.length sc, .slice ka n.kids.length kc], .agg #[.slice qa m.pairs.length qc, .slice ta m.seps.length tc, .slice la m.kids.length lc]] w fun e w' =>
      e = .returned (.bool true) ∧ Kp (blks pa sa ka ++ blks qa ta la) w w' := by
  have fp := hf.np; have fs := hf.ns; have fk := hf.nk
  have gp := kf.np; have gs := kf.ns; have gk := kf.nk
  have hA := h.blt; have hB := k.blt
  obtain ⟨W0, hW0⟩ : ∃ W0, W0 = (w.alloc (.cells #[.slice pa n.pairs.length pc, .slice sa n.seps.length sc, .slice ka n.kids.length kc] 30)).alloc (.cells #[.slice qa m.pairs.length qc, .slice ta m.seps.length tc, .slice la m.kids.length lc] 30) := ⟨_, rfl⟩
  have kw : Kp [] w W0 := by rw [hW0]; exact ((Kp.refl [] w).alloc _).alloc _
  have b0 : Blk W0 w.heap.size 30 #[.slice pa n.pairs.length pc, .slice sa n.seps.length sc, .slice ka n.kids.length kc] := by rw [hW0]; exact (Blk.new w _ _).alloc _
  have b1 : Blk W0 (w.heap.size + 1) 30 #[.slice qa m.pairs.length qc, .slice ta m.seps.length tc, .slice la m.kids.length lc] := by
    rw [hW0]
    have h := Blk.new (w.alloc (.cells #[.slice pa n.pairs.length pc, .slice sa n.seps.length sc, .slice ka n.kids.length kc] 30)) 30 #[.slice qa m.pairs.length qc, .slice ta m.seps.length tc, .slice la m.kids.length lc]
    simpa using h
  have nA0 : w.heap.size ∉ blks pa sa ka := fun e => by have := hA _ e; omega
  have nA1 : w.heap.size + 1 ∉ blks pa sa ka := fun e => by have := hA _ e; omega
  have nB0 : w.heap.size ∉ blks qa ta la := fun e => by have := hB _ e; omega
  have nB1 : w.heap.size + 1 ∉ blks qa ta la := fun e => by have := hB _ e; omega
  have hz0 : w.heap.size + 1 < W0.heap.size := b1.lt
  have KW := Lib.hid kw; have B0 := Lib.hid b0; have B1 := Lib.hid b1; have HD := Lib.hid hd; have HA := Lib.hid hA; have HB := Lib.hid hB
  have OA := Lib.hid (h.kp kw (by simp)); have OB := Lib.hid (k.kp kw (by simp))
  have NA0 := Lib.hid nA0; have NA1 := Lib.hid nA1; have NB0 := Lib.hid nB0; have NB1 := Lib.hid nB1
  have HF := Lib.hid hf; have KF := Lib.hid kf
  have HW0 := Lib.hid hW0
  clear h k hd kw b0 b1 hA hB nA0 nA1 nB0 nB1 hf kf hW0
  go_enter Try.func27, Try.ntmps27
  go_wp2_with fail
  rw [← HW0.out]
  refine (spoil_at 1 1 rfl OA.out HF.out rfl rfl rfl).mono ?_
  rintro e w1 ⟨rfl, oA, k1⟩
  have K1 := Lib.hid k1; have OA1 := Lib.hid oA
  have OB1 := Lib.hid (OB.out.kp k1 (fun g hg e => HD.out g e hg))
  have B01 := Lib.hid (B0.out.kp k1 NA0.out); have B11 := Lib.hid (B1.out.kp k1 NA1.out)
  obtain ⟨c1, c2, c3, -, -, -, g1⟩ := LtI.facts B01.out
  obtain ⟨d1, d2, d3, -, -, -, g2⟩ := LtI.facts B11.out
  have z1 := k1.size
  clear oA k1
  go_wp2_with fail
  refine (spoil_at 2 2 rfl OB1.out KF.out rfl rfl rfl).mono ?_
  rintro e w2 ⟨rfl, oB, k2⟩
  have K2 := Lib.hid k2; have OB2 := Lib.hid oB
  have OA2 := Lib.hid (OA1.out.kp k2 HD.out)
  have B02 := Lib.hid (B01.out.kp k2 NB0.out); have B12 := Lib.hid (B11.out.kp k2 NB1.out)
  clear c1 c2 c3 d1 d2 d3 g1 g2
  obtain ⟨c1, c2, c3, -, -, -, g1⟩ := LtI.facts B02.out
  obtain ⟨d1, d2, d3, -, -, -, g2⟩ := LtI.facts B12.out
  have z2 := k2.size
  have FA : Hid (NdFew (n.spoilt 1)) := Lib.hid ⟨by simpa [Nd.spoilt] using fp, by simpa [Nd.spoilt] using fs, by simpa [Nd.spoilt] using fk⟩
  have FB : Hid (NdFew (m.spoilt 2)) := Lib.hid ⟨by simpa [Nd.spoilt] using gp, by simpa [Nd.spoilt] using gs, by simpa [Nd.spoilt] using gk⟩
  clear oB k2
  go_wp2_with fail
  refine (grown_at 1 1 rfl OA2.out (by omega) FA.out (by simp [Nd.spoilt]) (by simp [Nd.spoilt]) (by simp [Nd.spoilt])).mono ?_
  rintro e w3 ⟨xa, xb, xc, ya, yb, yc, rfl, oX, nA, k3, hX⟩
  have K3 := Lib.hid k3
  have OX := Lib.hid (oX.kp ((Kp.refl [] w3).alloc (.cells #[.slice xa (n.pairs.length + 40) ya, .slice xb (n.seps.length + 40) yb, .slice xc (n.kids.length + 40) yc] 30)) (by simp))
  have NA3 := Lib.hid (nA.kp0 ((Kp.refl [] w3).alloc (.cells #[.slice xa (n.pairs.length + 40) ya, .slice xb (n.seps.length + 40) yb, .slice xc (n.kids.length + 40) yc] 30)))
  have OB3 := Lib.hid ((OB2.out.kp k3 (fun g hg e => HD.out g e hg)).kp ((Kp.refl [] w3).alloc (.cells #[.slice xa (n.pairs.length + 40) ya, .slice xb (n.seps.length + 40) yb, .slice xc (n.kids.length + 40) yc] 30)) (by simp))
  have B03 := Lib.hid (B02.out.kp k3 NA0.out); have B13 := Lib.hid (B12.out.kp k3 NA1.out)
  have HX := Lib.hid hX
  clear c1 c2 c3 d1 d2 d3 g1 g2
  obtain ⟨c1, c2, c3, -, -, -, g1⟩ := LtI.facts B03.out
  obtain ⟨d1, d2, d3, -, -, -, g2⟩ := LtI.facts B13.out
  have z3 := k3.size
  clear oX nA k3 hX
  go_wp2_with fail
  refine (grown_at 2 2 rfl OB3.out (by simp; omega) FB.out (by simp [Nd.spoilt]) (by simp [Nd.spoilt]) (by simp [Nd.spoilt])).mono ?_
  rintro e w4 ⟨ua, ub, uc, va, vb, vc, rfl, oY, nB, k4, hY⟩
  have K4 := Lib.hid k4
  have z4 := k4.size
  have z3' : (w3.alloc (.cells #[.slice xa (n.pairs.length + 40) ya, .slice xb (n.seps.length + 40) yb, .slice xc (n.kids.length + 40) yc] 30)).heap.size = w3.heap.size + 1 := by simp
  have nx : ∀ g ∈ blks xa xb xc, g ∉ blks qa ta la := fun g hg e => by
    rcases HX.out g hg with h1 | h1
    · exact HD.out g h1 e
    · have := HB.out g e; have := K1.out.size; omega
  have nX5 : w3.heap.size ∉ blks qa ta la := fun e => by have := HB.out _ e; have := K1.out.size; omega
  have OX4 := Lib.hid ((OX.out.kp k4 nx).kp ((Kp.refl [] w4).alloc (.cells #[.slice ua (m.pairs.length + 40) va, .slice ub (m.seps.length + 40) vb, .slice uc (m.kids.length + 40) vc] 30)) (by simp))
  have OY4 := Lib.hid (oY.kp ((Kp.refl [] w4).alloc (.cells #[.slice ua (m.pairs.length + 40) va, .slice ub (m.seps.length + 40) vb, .slice uc (m.kids.length + 40) vc] 30)) (by simp))
  have hdA : ∀ a, a = pa ∨ a = sa ∨ a = ka → ∀ g ∈ ab a, g ∉ blks qa ta la := fun a ha g hg => HD.out g (by simp only [blks, List.mem_append]; rcases ha with rfl | rfl | rfl <;> simp [hg])
  have NA4 := Lib.hid ((NA3.out.kp k4 (hdA pa (.inl rfl)) (hdA sa (.inr (.inl rfl))) (hdA ka (.inr (.inr rfl)))).kp0 ((Kp.refl [] w4).alloc (.cells #[.slice ua (m.pairs.length + 40) va, .slice ub (m.seps.length + 40) vb, .slice uc (m.kids.length + 40) vc] 30)))
  have NB4 := Lib.hid (nB.kp0 ((Kp.refl [] w4).alloc (.cells #[.slice ua (m.pairs.length + 40) va, .slice ub (m.seps.length + 40) vb, .slice uc (m.kids.length + 40) vc] 30)))
  have B04 := Lib.hid ((B03.out.alloc (.cells #[.slice xa (n.pairs.length + 40) ya, .slice xb (n.seps.length + 40) yb, .slice xc (n.kids.length + 40) yc] 30)).kp k4 NB0.out); have B14 := Lib.hid ((B13.out.alloc (.cells #[.slice xa (n.pairs.length + 40) ya, .slice xb (n.seps.length + 40) yb, .slice xc (n.kids.length + 40) yc] 30)).kp k4 NB1.out)
  have B54 := Lib.hid ((Blk.new w3 30 #[.slice xa (n.pairs.length + 40) ya, .slice xb (n.seps.length + 40) yb, .slice xc (n.kids.length + 40) yc]).kp k4 nX5)
  clear c1 c2 c3 d1 d2 d3 g1 g2
  obtain ⟨c1, c2, c3, -, -, -, g1⟩ := LtI.facts B04.out
  obtain ⟨d1, d2, d3, -, -, -, g2⟩ := LtI.facts B14.out
  obtain ⟨f1, f2, f3, -, -, -, g3⟩ := LtI.facts B54.out
  have M1 := Lib.hid (MkN.of 1 n 40); have M2 := Lib.hid (MkN.of 2 m 40)
  have ys0 : ∀ (mark : UInt8) (x : Nd), x.app (Nd.ys mark 0) = x := fun mark x => by simp [Nd.app, Nd.ys]
  have M3 := Lib.hid (show MkN 1 (n.spoilt 1) n.pairs.length n.seps.length n.kids.length by have := MkN.of 1 n 0; rwa [ys0] at this)
  have M4 := Lib.hid (show MkN 2 (m.spoilt 2) m.pairs.length m.seps.length m.kids.length by have := MkN.of 2 m 0; rwa [ys0] at this)
  clear oY nB k4 nx nX5 hdA ys0 hY
  go_wp2_with fail
  refine (marked_at 1 1 rfl OX4.out.at M1.out (by simp [Nd.app, Nd.ys, Nd.spoilt]; omega) (by simp [Nd.app, Nd.ys, Nd.spoilt]; omega) (by simp [Nd.app, Nd.ys, Nd.spoilt]; omega) (by omega) (by omega) (by omega) (by simp [Nd.app, Nd.ys, Nd.spoilt]) (by simp [Nd.app, Nd.ys, Nd.spoilt]) (by simp [Nd.app, Nd.ys, Nd.spoilt])).mono ?_
  rintro e w' ⟨rfl, bs1, m1, rfl⟩
  go_wp2_with fail
  refine (marked_at 2 2 rfl (OY4.out.at.kp0 ((Kp.refl [] _).ext _ _)) M2.out (by simp [Nd.app, Nd.ys, Nd.spoilt]; omega) (by simp [Nd.app, Nd.ys, Nd.spoilt]; omega) (by simp [Nd.app, Nd.ys, Nd.spoilt]; omega) (by omega) (by omega) (by omega) (by simp [Nd.app, Nd.ys, Nd.spoilt]) (by simp [Nd.app, Nd.ys, Nd.spoilt]) (by simp [Nd.app, Nd.ys, Nd.spoilt])).mono ?_
  rintro e w' ⟨rfl, bs2, m2, rfl⟩
  go_wp2_with fail
  refine (marked_at 1 1 rfl (NA4.out.kp0 ((Kp.refl [] _).ext _ _)) M3.out (by simp [Nd.spoilt]; omega) (by simp [Nd.spoilt]; omega) (by simp [Nd.spoilt]; omega) (by omega) (by omega) (by omega) (by simp [Nd.spoilt]) (by simp [Nd.spoilt]) (by simp [Nd.spoilt])).mono ?_
  rintro e w' ⟨rfl, bs3, m3, rfl⟩
  go_wp2_with fail
  refine (marked_at 2 2 rfl (NB4.out.kp0 ((Kp.refl [] _).ext _ _)) M4.out (by simp [Nd.spoilt]; omega) (by simp [Nd.spoilt]; omega) (by simp [Nd.spoilt]; omega) (by omega) (by omega) (by omega) (by simp [Nd.spoilt]) (by simp [Nd.spoilt]) (by simp [Nd.spoilt])).mono ?_
  rintro e w' ⟨rfl, bs4, m4, rfl⟩
  go_wp2_with fail
  go_ret
  refine ⟨rfl, ?_⟩
  have kk : Kp (blks pa sa ka ++ blks qa ta la) w w4 := ((((KW.out.of_nil).trans (K1.out.mono (fun _ _ h => by simp [h]))).trans (K2.out.mono (fun _ _ h => by simp [h]))).trans (K3.out.mono (fun _ _ h => by simp [h]))).trans (((Kp.refl _ w3).alloc _).trans (K4.out.mono (fun _ _ h => by simp [h])))
  exact (kk.alloc _).ext _ _

end Go.Proofs.Ytemicgccgcmmbaa

/- NodeCopies answers true of any two nodes of few parts. -/
namespace Go.Proofs.Ytemicgccgcmmbaa
set_option linter.unusedVariables false
set_option linter.unusedSimpArgs false
open Go Go.RowKit

/-- Four nodes in blocks of their own; two of them lent. -/
structure CpI (w wr : World) (A B : Nd) (va vb : Array Value) (B5 B6 gp gs gk pc sc kc hp hs hk qc tc lc : Nat) : Prop where
  kp : Kp [] w wr
  c0 : wr.cell? ⟨w.heap.size, 0, none⟩ = va[0]? ∧ wr.cell? ⟨w.heap.size, 1, none⟩ = va[1]? ∧ wr.cell? ⟨w.heap.size, 2, none⟩ = va[2]?
  c1 : wr.cell? ⟨w.heap.size + 1, 0, none⟩ = vb[0]? ∧ wr.cell? ⟨w.heap.size + 1, 1, none⟩ = vb[1]? ∧ wr.cell? ⟨w.heap.size + 1, 2, none⟩ = vb[2]?
  c5 : wr.cell? ⟨B5, 0, none⟩ = some (.slice (some ⟨gp, 0, none⟩) A.pairs.length pc) ∧ wr.cell? ⟨B5, 1, none⟩ = some (.slice (some ⟨gs, 0, none⟩) A.seps.length sc) ∧ wr.cell? ⟨B5, 2, none⟩ = some (.slice (some ⟨gk, 0, none⟩) A.kids.length kc)
  c6 : wr.cell? ⟨B6, 0, none⟩ = some (.slice (some ⟨hp, 0, none⟩) B.pairs.length qc) ∧ wr.cell? ⟨B6, 1, none⟩ = some (.slice (some ⟨hs, 0, none⟩) B.seps.length tc) ∧ wr.cell? ⟨B6, 2, none⟩ = some (.slice (some ⟨hk, 0, none⟩) B.kids.length lc)
  oa : Own3 wr w.heap.size (some ⟨gp, 0, none⟩) (some ⟨gs, 0, none⟩) (some ⟨gk, 0, none⟩) pc sc kc A.mk1
  ob : Own3 wr w.heap.size (some ⟨hp, 0, none⟩) (some ⟨hs, 0, none⟩) (some ⟨hk, 0, none⟩) qc tc lc B.mk1
  dj : ∀ g ∈ blks (some ⟨gp, 0, none⟩) (some ⟨gs, 0, none⟩) (some ⟨gk, 0, none⟩), g ∉ blks (some ⟨hp, 0, none⟩) (some ⟨hs, 0, none⟩) (some ⟨hk, 0, none⟩)
  nb : ∀ g ∈ blks (some ⟨gp, 0, none⟩) (some ⟨gs, 0, none⟩) (some ⟨gk, 0, none⟩) ++ blks (some ⟨hp, 0, none⟩) (some ⟨hs, 0, none⟩) (some ⟨hk, 0, none⟩), g ≠ w.heap.size ∧ g ≠ w.heap.size + 1 ∧ g ≠ B5 ∧ g ≠ B6
  lt : w.heap.size + 1 < wr.heap.size ∧ B5 < wr.heap.size ∧ B6 < wr.heap.size

theorem CpI.of {w W0 w1 w2 wr : World} {A B : Nd} {va vb : Array Value} {B5 B6 gp gs gk pc sc kc hp hs hk qc tc lc lo1 lo2 : Nat} (kw : Kp [] w W0) (kq : Kp [] W0 wr) (k12 : Kp [] w1 w2) (kf : Kp [B5, B6] w2 wr) (hz : W0.heap.size = w.heap.size + 2) (hw1 : W0.heap.size ≤ w1.heap.size)
    (sk : ((wr.cell? ⟨w.heap.size, 0, none⟩ = va[0]? ∧ wr.cell? ⟨w.heap.size, 1, none⟩ = va[1]? ∧ wr.cell? ⟨w.heap.size, 2, none⟩ = va[2]?) ∧ (wr.cell? ⟨w.heap.size + 1, 0, none⟩ = vb[0]? ∧ wr.cell? ⟨w.heap.size + 1, 1, none⟩ = vb[1]? ∧ wr.cell? ⟨w.heap.size + 1, 2, none⟩ = vb[2]?)))
    (oa : Own3 w1 lo1 (some ⟨gp, 0, none⟩) (some ⟨gs, 0, none⟩) (some ⟨gk, 0, none⟩) pc sc kc A.mk1) (ob : Own3 w2 lo2 (some ⟨hp, 0, none⟩) (some ⟨hs, 0, none⟩) (some ⟨hk, 0, none⟩) qc tc lc B.mk1)
    (h1 : W0.heap.size ≤ lo1) (h2 : w1.heap.size ≤ lo2) (n5 : B5 < lo1 ∨ w1.heap.size ≤ B5) (n6 : B6 < lo1 ∨ w1.heap.size ≤ B6) (m5 : B5 < lo2 ∨ w2.heap.size ≤ B5) (m6 : B6 < lo2 ∨ w2.heap.size ≤ B6)
    (c5 : wr.cell? ⟨B5, 0, none⟩ = some (.slice (some ⟨gp, 0, none⟩) A.pairs.length pc) ∧ wr.cell? ⟨B5, 1, none⟩ = some (.slice (some ⟨gs, 0, none⟩) A.seps.length sc) ∧ wr.cell? ⟨B5, 2, none⟩ = some (.slice (some ⟨gk, 0, none⟩) A.kids.length kc))
    (c6 : wr.cell? ⟨B6, 0, none⟩ = some (.slice (some ⟨hp, 0, none⟩) B.pairs.length qc) ∧ wr.cell? ⟨B6, 1, none⟩ = some (.slice (some ⟨hs, 0, none⟩) B.seps.length tc) ∧ wr.cell? ⟨B6, 2, none⟩ = some (.slice (some ⟨hk, 0, none⟩) B.kids.length lc)) :
    CpI w wr A B va vb B5 B6 gp gs gk pc sc kc hp hs hk qc tc lc := by
  have la : ∀ g ∈ blks (some ⟨gp, 0, none⟩) (some ⟨gs, 0, none⟩) (some ⟨gk, 0, none⟩), lo1 ≤ g ∧ g < w1.heap.size := fun g hg => ⟨oa.lo g hg, oa.blt g hg⟩
  have lb : ∀ g ∈ blks (some ⟨hp, 0, none⟩) (some ⟨hs, 0, none⟩) (some ⟨hk, 0, none⟩), lo2 ≤ g ∧ g < w2.heap.size := fun g hg => ⟨ob.lo g hg, ob.blt g hg⟩
  have z12 := k12.size
  have zf := kf.size
  have zq := kq.size
  refine ⟨kw.trans kq, sk.1, sk.2, c5, c6, ?_, ?_, ?_, ?_, ?_, World.block_lt_of_cell? wr ⟨B5, 0, none⟩ c5.1, World.block_lt_of_cell? wr ⟨B6, 0, none⟩ c6.1⟩
  · refine Own3.le ((oa.kp k12 (by simp)).kp kf ?_) (by omega)
    intro g hg
    have := la g hg
    simp only [List.mem_cons, List.not_mem_nil, or_false, not_or]
    omega
  · refine Own3.le (ob.kp kf ?_) (by omega)
    intro g hg
    have := lb g hg
    simp only [List.mem_cons, List.not_mem_nil, or_false, not_or]
    omega
  · intro g hg e
    have := la g hg; have := lb g e; omega
  · intro g hg
    rcases List.mem_append.1 hg with hg | hg
    · have := la g hg; omega
    · have := lb g hg; omega
  · omega

theorem CpI.next {w wr w' : World} {A B : Nd} {va vb : Array Value} {B5 B6 gp gs gk pc sc kc hp hs hk qc tc lc : Nat} (h : CpI w wr A B va vb B5 B6 gp gs gk pc sc kc hp hs hk qc tc lc) (k : Kp [] wr w') :
    CpI w w' A B va vb B5 B6 gp gs gk pc sc kc hp hs hk qc tc lc := by
  obtain ⟨l0, l5, l6⟩ := h.lt
  have hz := k.size
  have key : ∀ b o, b < wr.heap.size → w'.cell? ⟨b, o, none⟩ = wr.cell? ⟨b, o, none⟩ := fun b o hb => World.cell?_of_block (w := wr) (k.block b hb (by simp))
  refine ⟨h.kp.trans k, ?_, ?_, ?_, ?_, h.oa.kp k (by simp), h.ob.kp k (by simp), h.dj, h.nb, by omega, by omega, by omega⟩
  · rw [key _ _ (by omega), key _ _ (by omega), key _ _ (by omega)]; exact h.c0
  · rw [key _ _ l0, key _ _ l0, key _ _ l0]; exact h.c1
  · rw [key _ _ l5, key _ _ l5, key _ _ l5]; exact h.c5
  · rw [key _ _ l6, key _ _ l6, key _ _ l6]; exact h.c6

theorem spoil_mk {lo gp gs gk pc sc kc : Nat} {n : Nd} {w : World} (h : Own3 w lo (some ⟨gp, 0, none⟩) (some ⟨gs, 0, none⟩) (some ⟨gk, 0, none⟩) pc sc kc n.mk1) (hf : NdFew n) :
    Calls Try.prog 26 #[.agg #[.slice (some ⟨gp, 0, none⟩) n.pairs.length pc, .slice (some ⟨gs, 0, none⟩) n.seps.length sc, .slice (some ⟨gk, 0, none⟩) n.kids.length kc], .int .u32 3] w fun e w' =>
      e = .returned (.tuple #[]) ∧ Kp (blks (some ⟨gp, 0, none⟩) (some ⟨gs, 0, none⟩) (some ⟨gk, 0, none⟩)) w w' :=
  (spoil_any 3 lo _ _ _ pc sc kc n Nd.marks w h hf).mono fun _ _ h => ⟨h.1, h.2.2⟩

theorem nodeSame_d (pa sa ka qa ta la : Option Addr) (pc sc kc qc tc lc : Nat) (x y : Nd) (w : World) (hx : NdAt w pa sa ka x) (hy : NdAt w qa ta la y) (ox : NdOk x) (oy : NdOk y) {d : Bool} (h : decide (x = y) = d) :
    Calls Try.prog 23 #[.agg #[.slice pa x.pairs.length pc, .slice sa x.seps.length sc, .slice ka x.kids.length kc], .agg #[.slice qa y.pairs.length qc, .slice ta y.seps.length tc, .slice la y.kids.length lc]] w (Rets (.bool d) w) := by
  subst h; exact nodeSame_any pa sa ka qa ta la pc sc kc qc tc lc x y w hx hy ox oy
theorem nodeSame_self (pa sa ka : Option Addr) (pc sc kc : Nat) (x : Nd) (w : World) (hx : NdAt w pa sa ka x) (ox : NdOk x) :
    Calls Try.prog 23 #[.agg #[.slice pa x.pairs.length pc, .slice sa x.seps.length sc, .slice ka x.kids.length kc], .agg #[.slice pa x.pairs.length pc, .slice sa x.seps.length sc, .slice ka x.kids.length kc]] w (Rets (.bool true) w) :=
  nodeSame_d pa sa ka pa sa ka pc sc kc pc sc kc x x w hx hx ox ox (decide_eq_true rfl)
theorem refSame_d (pa sa ka qa ta la : Option Addr) (pc sc kc qc tc lc : Nat) (x y : Nd) (w : World) (hx : NdAt w pa sa ka x) (hy : NdAt w qa ta la y) (ox : NdOk x) (oy : NdOk y) {d : Bool} (h : decide (x = y) = d) :
    Calls Try.prog 24 #[.agg #[.slice pa x.pairs.length pc, .slice sa x.seps.length sc, .slice ka x.kids.length kc], .agg #[.slice qa y.pairs.length qc, .slice ta y.seps.length tc, .slice la y.kids.length lc]] w (Rets (.bool d) w) := by
  subst h; exact refSame_any pa sa ka qa ta la pc sc kc qc tc lc x y w hx hy ox oy

abbrev zN : Array Value := #[.slice none 0 0, .slice none 0 0, .slice none 0 0]
theorem zb_a (W : World) : Blk (W.alloc (.cells zN 30)) W.heap.size 30 zN := Blk.new W _ _
theorem zb_b (W : World) : Blk ((W.alloc (.cells zN 30)).alloc (.cells zN 30)) W.heap.size 30 zN := (Blk.new W _ _).alloc _
theorem zb_c (W : World) : Blk ((W.alloc (.cells zN 30)).alloc (.cells zN 30)) (W.heap.size + 1) 30 zN := by
  have h := Blk.new (W.alloc (.cells zN 30)) 30 zN
  simpa using h

set_option maxHeartbeats 8000000 in
set_option maxRecDepth 100000 in
theorem copies_any (pa sa ka qa ta la : Option Addr) (pc sc kc qc tc lc : Nat) (a b : Nd) (w : World) (ha : NdAt w pa sa ka a) (hb : NdAt w qa ta la b) (oa : NdOk a) (ob : NdOk b) (fa : NdFew a) (fb : NdFew b) :
    Calls Try.prog 7 #[.agg #[.slice pa a.pairs.length pc, .slice sa a.seps.length sc, .slice ka a.kids.length kc], .agg #[.slice qa b.pairs.length qc, .slice ta b.seps.length tc, .slice la b.kids.length lc]] w (Rets (.bool true) w) := by
  obtain ⟨W0, hW0⟩ : ∃ W0, W0 = (w.alloc (.cells #[.slice pa a.pairs.length pc, .slice sa a.seps.length sc, .slice ka a.kids.length kc] 30)).alloc (.cells #[.slice qa b.pairs.length qc, .slice ta b.seps.length tc, .slice la b.kids.length lc] 30) := ⟨_, rfl⟩
  have kw : Kp [] w W0 := by rw [hW0]; exact ((Kp.refl [] w).alloc _).alloc _
  have b0 : Blk W0 w.heap.size 30 #[.slice pa a.pairs.length pc, .slice sa a.seps.length sc, .slice ka a.kids.length kc] := by rw [hW0]; exact (Blk.new w _ _).alloc _
  have b1 : Blk W0 (w.heap.size + 1) 30 #[.slice qa b.pairs.length qc, .slice ta b.seps.length tc, .slice la b.kids.length lc] := by
    rw [hW0]
    have h := Blk.new (w.alloc (.cells #[.slice pa a.pairs.length pc, .slice sa a.seps.length sc, .slice ka a.kids.length kc] 30)) 30 #[.slice qa b.pairs.length qc, .slice ta b.seps.length tc, .slice la b.kids.length lc]
    simpa using h
  have hz0 : W0.heap.size = w.heap.size + 2 := by rw [hW0]; simp
  have SK : Hid (∀ W : World, Kp [] W0 W → ((W.cell? ⟨w.heap.size, 0, none⟩ = some (.slice pa a.pairs.length pc) ∧ W.cell? ⟨w.heap.size, 1, none⟩ = some (.slice sa a.seps.length sc) ∧ W.cell? ⟨w.heap.size, 2, none⟩ = some (.slice ka a.kids.length kc)) ∧
      (W.cell? ⟨w.heap.size + 1, 0, none⟩ = some (.slice qa b.pairs.length qc) ∧ W.cell? ⟨w.heap.size + 1, 1, none⟩ = some (.slice ta b.seps.length tc) ∧ W.cell? ⟨w.heap.size + 1, 2, none⟩ = some (.slice la b.kids.length lc)))) := Lib.hid (fun W k =>
    have c0 := b0.kp k (by simp); have c1 := b1.kp k (by simp)
    ⟨⟨c0.cell 0, c0.cell 1, c0.cell 2⟩, ⟨c1.cell 0, c1.cell 1, c1.cell 2⟩⟩)
  have KW := Lib.hid kw; have HA := Lib.hid (ha.kp0 kw); have HB := Lib.hid (hb.kp0 kw); have OA := Lib.hid oa; have OB := Lib.hid ob; have FA := Lib.hid fa; have FB := Lib.hid fb
  have HZ0 := Lib.hid hz0
  have hz1 : w.heap.size + 1 < W0.heap.size := by omega
  have HW0 := Lib.hid hW0
  have HA0 := Lib.hid ha; have HB0 := Lib.hid hb
  clear ha hb oa ob fa fb kw b0 b1 hW0 hz0
  go_enter Try.func7, Try.ntmps7
  go_wp2_with fail
  rw [← HW0.out]
  go_cut [5, 6] from 9 (fun v5 v6 wr => ∃ B5 B6 gp gs gk pc' sc' kc' hp hs hk qc' tc' lc', v5 = .pointer (some ⟨B5, 0, none⟩) ∧ v6 = .pointer (some ⟨B6, 0, none⟩) ∧
    Hid (CpI w wr a b #[.slice pa a.pairs.length pc, .slice sa a.seps.length sc, .slice ka a.kids.length kc] #[.slice qa b.pairs.length qc, .slice ta b.seps.length tc, .slice la b.kids.length lc] B5 B6 gp gs gk pc' sc' kc' hp hs hk qc' tc' lc'))
  case first =>
    go_region_held3 (fun W => ((W.cell? ⟨w.heap.size, 0, none⟩ = some (.slice pa a.pairs.length pc) ∧ W.cell? ⟨w.heap.size, 1, none⟩ = some (.slice sa a.seps.length sc) ∧ W.cell? ⟨w.heap.size, 2, none⟩ = some (.slice ka a.kids.length kc)) ∧
      (W.cell? ⟨w.heap.size + 1, 0, none⟩ = some (.slice qa b.pairs.length qc) ∧ W.cell? ⟨w.heap.size + 1, 1, none⟩ = some (.slice ta b.seps.length tc) ∧ W.cell? ⟨w.heap.size + 1, 2, none⟩ = some (.slice la b.kids.length lc))))
      (exact SK.out _ (by repeat first | with_reducible exact KT2.out | with_reducible exact KT1.out | with_reducible exact Kp.refl _ _ | with_reducible refine Kp.drew ?_ | with_reducible refine Kp.alloc ?_ _ | with_reducible refine Kp.setCell ?_ _ (.inl (by first | exact Nat.le_refl _ | (simp; done) | (simp; omega) | omega))))
      (first
        | (have _hk := KT1.out; clear _hk; go_at_call 22; refine (lent_any qa ta la qc tc lc b _ (HB.out.kp0 (by repeat first | with_reducible exact KT1.out | with_reducible refine Kp.drew ?_ | with_reducible refine Kp.alloc ?_ _)) OB.out FB.out).mono ?_; rintro e w2 ⟨hp, hs, hk, qc1, tc1, lc1, rfl, ob1, k2⟩; have KT2 : Hid (Kp [] W0 w2) := Lib.hid (Kp.trans (by repeat first | with_reducible exact KT1.out | with_reducible refine Kp.drew ?_ | with_reducible refine Kp.alloc ?_ _) k2); have OB1 := Lib.hid ob1; have K2 := Lib.hid k2; have K12 : Hid (Kp [] w1 w2) := Lib.hid (Kp.trans (by repeat first | with_reducible exact Kp.refl _ _ | with_reducible refine Kp.alloc ?_ _) k2); have zz2 := K12.out.size; (try (with_reducible have zb2 := Blk.kp zb K12.out (by simp); obtain ⟨y0, y1, y2, y3, y4, y5, y6⟩ := LtI.facts zb2)); (try (with_reducible have zc2 := Blk.kp zc K12.out (by simp); obtain ⟨x0, x1, x2, x3, x4, x5, x6⟩ := LtI.facts zc2)); (try (with_reducible have zd2 := Blk.kp (zb_a w1) k2 (by simp); obtain ⟨v0, v1, v2, v3, v4, v5, v6⟩ := LtI.facts zd2)); (try (with_reducible have zd2 := Blk.kp (zb_b w1) k2 (by simp); with_reducible have ze2 := Blk.kp (zb_c w1) k2 (by simp); obtain ⟨v0, v1, v2, v3, v4, v5, v6⟩ := LtI.facts zd2; obtain ⟨s0, s1, s2, s3, s4, s5, s6⟩ := LtI.facts ze2)); clear ob1 k2)
        | (go_at_call 22; refine (lent_any pa sa ka pc sc kc a _ (HA.out.kp0 (by repeat first | with_reducible exact Kp.refl _ _ | with_reducible refine Kp.drew ?_ | with_reducible refine Kp.alloc ?_ _)) OA.out FA.out).mono ?_; rintro e w1 ⟨gp, gs, gk, pc1, sc1, kc1, rfl, oa1, k1⟩; have KT1 : Hid (Kp [] W0 w1) := Lib.hid (Kp.trans (by repeat first | with_reducible exact Kp.refl _ _ | with_reducible refine Kp.drew ?_ | with_reducible refine Kp.alloc ?_ _) k1); have OA1 := Lib.hid oa1; have K1 := Lib.hid k1; have zz1 := KT1.out.size; (try (with_reducible have zb := Blk.kp ((zb_a W0).drew) k1 (by simp); have zlt := zb.lt)); (try (with_reducible have zb := Blk.kp ((zb_b W0).drew) k1 (by simp); with_reducible have zc := Blk.kp ((zb_c W0).drew) k1 (by simp); have zlt := zb.lt; have zlt2 := zc.lt)); clear oa1 k1))
    all_goals go_wp2_with fail
    all_goals go_meet
    all_goals
      refine ⟨_, _, gp, gs, gk, pc1, sc1, kc1, hp, hs, hk, qc1, tc1, lc1, rfl, rfl, Lib.hid (CpI.of (W0 := W0) (w1 := w1) (w2 := w2) KW.out
        (by repeat first | with_reducible exact KT2.out | with_reducible refine Kp.drew ?_ | with_reducible refine Kp.alloc ?_ _ | with_reducible refine Kp.setCell ?_ _ (.inl (by first | exact Nat.le_refl _ | (simp; done) | (simp; omega) | omega)))
        K12.out
        (by repeat first | with_reducible exact Kp.refl _ _ | with_reducible refine Kp.drew ?_ | with_reducible refine Kp.alloc ?_ _ | with_reducible refine Kp.setCell ?_ _ (.inr (by simp)))
        HZ0.out zz1 (SK.out _ ?kq) OA1.out OB1.out ?h1 ?h2 ?n5 ?n6 ?m5 ?m6 ?c5 ?c6)⟩
      case kq => repeat first | with_reducible exact KT2.out | with_reducible refine Kp.drew ?_ | with_reducible refine Kp.alloc ?_ _ | with_reducible refine Kp.setCell ?_ _ (.inl (by first | exact Nat.le_refl _ | (simp; done) | (simp; omega) | omega))
      case h1 => first | exact Nat.le_refl _ | omega | (simp; done) | (simp; omega)
      case h2 => first | exact Nat.le_refl _ | omega | (simp; done) | (simp; omega)
      case n5 => first | omega | (simp; done) | (simp; omega)
      case n6 => first | omega | (simp; done) | (simp; omega)
      case m5 => first | omega | (simp; done) | (simp; omega)
      case m6 => first | omega | (simp; done) | (simp; omega)
      case c5 => (refine ⟨?_, ?_, ?_⟩ <;> first | go_simp | assumption)
      case c6 => (refine ⟨?_, ?_, ?_⟩ <;> first | go_simp | assumption)
  case rest =>
    obtain ⟨B5, B6, gp, gs, gk, pc', sc', kc', hp, hs, hk, qc', tc', lc', rfl, rfl, C⟩ := hcut
    clear SK HA HB HZ0 hz1 HW0 KW
    obtain ⟨p0, p1, p2⟩ := C.out.c0; obtain ⟨p3, p4, p5⟩ := C.out.c1; obtain ⟨p6, p7, p8⟩ := C.out.c5; obtain ⟨p9, p10, p11⟩ := C.out.c6
    obtain ⟨z0, z5, z6⟩ := C.out.lt
    simp only [List.getElem?_toArray, List.getElem?_cons_zero, List.getElem?_cons_succ] at p0 p1 p2 p3 p4 p5
    have XA := Lib.hid C.out.oa.lent.1; have YB := Lib.hid C.out.ob.lent.1
    have HA := Lib.hid (HA0.out.kp0 C.out.kp); have HB := Lib.hid (HB0.out.kp0 C.out.kp)
    obtain ⟨d, hd⟩ : ∃ d, decide (a = b) = d := ⟨_, rfl⟩
    have HD := Lib.hid hd; clear hd
    have NN : Hid (∀ g ∈ ab (some ⟨gp, 0, none⟩) ++ ab (some ⟨gs, 0, none⟩) ++ ab (some ⟨gk, 0, none⟩), g ∉ ([] : List Nat)) := Lib.hid (fun _ _ => by simp)
    have NM : Hid (∀ g ∈ ab (some ⟨hp, 0, none⟩) ++ ab (some ⟨hs, 0, none⟩) ++ ab (some ⟨hk, 0, none⟩), g ∉ ([] : List Nat)) := Lib.hid (fun _ _ => by simp)
    go_wp2_with fail
    refine wp_region_ext (by kernel_rfl) (by kernel_rfl) ?_
    repeat (go_big_quiet_step (first
      | ((with_reducible (go_at_call 23)); with_reducible exact Calls.quiet_ext (nodeSame_d (some ⟨gp, 0, none⟩) (some ⟨gs, 0, none⟩) (some ⟨gk, 0, none⟩) (some ⟨hp, 0, none⟩) (some ⟨hs, 0, none⟩) (some ⟨hk, 0, none⟩) pc' sc' kc' qc' tc' lc' a b _ (XA.out.kp0 ((Kp.refl [] _).ext _ _)) (YB.out.kp0 ((Kp.refl [] _).ext _ _)) OA.out OB.out HD.out))
      | ((with_reducible (go_at_call 23)); with_reducible exact Calls.quiet_ext (nodeSame_self (some ⟨gp, 0, none⟩) (some ⟨gs, 0, none⟩) (some ⟨gk, 0, none⟩) pc' sc' kc' a _ (XA.out.kp0 ((Kp.refl [] _).ext _ _)) OA.out))
      | ((with_reducible (go_at_call 24)); with_reducible exact Calls.quiet_ext (refSame_d pa sa ka qa ta la pc sc kc qc tc lc a b _ (HA.out.kp0 ((Kp.refl [] _).ext _ _)) (HB.out.kp0 ((Kp.refl [] _).ext _ _)) OA.out OB.out HD.out))
      | ((with_reducible (go_at_call 25)); with_reducible exact Calls.quiet_ext (kept_any gp gs gk pc' sc' kc' w.heap.size pa sa ka pc sc kc a _ (Own3.kp C.out.oa ((Kp.refl [] _).ext _ _) NN.out) (HA.out.kp0 ((Kp.refl [] _).ext _ _)) OA.out FA.out))
      | ((with_reducible (go_at_call 25)); with_reducible exact Calls.quiet_ext (kept_any hp hs hk qc' tc' lc' w.heap.size qa ta la qc tc lc b _ (Own3.kp C.out.ob ((Kp.refl [] _).ext _ _) NM.out) (HB.out.kp0 ((Kp.refl [] _).ext _ _)) OB.out FB.out))))
    (refine wpQuiet_nil ?_; intro _ hw'; obtain ⟨⟨bsq, nq⟩, hw''⟩ := hw'; subst hw'')
    go_wp2_with fail
    refine (copy_any _ _ _ _ _ _ a _ (XA.out.kp0 ((Kp.refl [] _).ext _ _)) OA.out).mono ?_
    rintro e w1 ⟨ca, cb, cc, cp1, cp2, cp3, rfl, oc, k1⟩
    have e1 : Kp [] wc w1 := ((Kp.refl [] wc).ext bsq nq).trans k1
    have C1 := Lib.hid (C.out.next e1)
    have hz1 : wc.heap.size ≤ (ext wc bsq nq).heap.size := by simp
    have OC := Lib.hid (Own3.le oc hz1)
    have zw := e1.size
    clear p0 p1 p2 p3 p4 p5 p6 p7 p8 p9 p10 p11 z0 z5 z6 oc k1 e1 XA YB HA HB hz1
    obtain ⟨p0, p1, p2⟩ := C1.out.c0; obtain ⟨p3, p4, p5⟩ := C1.out.c1; obtain ⟨p6, p7, p8⟩ := C1.out.c5; obtain ⟨p9, p10, p11⟩ := C1.out.c6
    obtain ⟨z0, z5, z6⟩ := C1.out.lt
    simp only [List.getElem?_toArray, List.getElem?_cons_zero, List.getElem?_cons_succ] at p0 p1 p2 p3 p4 p5
    have XA := Lib.hid C1.out.oa.lent.1
    go_wp2_with fail
    refine (copy_any _ _ _ _ _ _ a _ (XA.out.kp0 ((Kp.refl [] _).alloc _)) OA.out).mono ?_
    rintro e w2 ⟨da, db, dc, dp1, dp2, dp3, rfl, od, k2⟩
    have b7 := Lib.hid ((Blk.new w1 30 #[.slice ca a.pairs.length cp1, .slice cb a.seps.length cp2, .slice cc a.kids.length cp3]).kp k2 (by simp))
    have e2 : Kp [] w1 w2 := ((Kp.refl [] w1).alloc _).trans k2
    have C2 := Lib.hid (C1.out.next e2)
    have OC2 := Lib.hid (OC.out.kp e2 (by simp))
    have OD2 : Hid (Own3 w2 (w1.heap.size + 1) da db dc dp1 dp2 dp3 a) := Lib.hid (Own3.le od (by simp))
    have LC : Hid (∀ g ∈ blks ca cb cc, g < w1.heap.size) := Lib.hid OC.out.blt
    have zw2 := e2.size
    clear p0 p1 p2 p3 p4 p5 p6 p7 p8 p9 p10 p11 z0 z5 z6 od k2 e2 XA OC
    obtain ⟨p0, p1, p2⟩ := C2.out.c0; obtain ⟨p3, p4, p5⟩ := C2.out.c1; obtain ⟨p6, p7, p8⟩ := C2.out.c5; obtain ⟨p9, p10, p11⟩ := C2.out.c6
    obtain ⟨z0, z5, z6⟩ := C2.out.lt
    simp only [List.getElem?_toArray, List.getElem?_cons_zero, List.getElem?_cons_succ] at p0 p1 p2 p3 p4 p5
    obtain ⟨q0, q1, q2, -, -, -, z7⟩ := LtI.facts b7.out
    have HA := Lib.hid (HA0.out.kp0 C2.out.kp); have HB := Lib.hid (HB0.out.kp0 C2.out.kp)
    go_wp2_with fail
    refine (refSame_true ca cb cc pa sa ka cp1 cp2 cp3 pc sc kc a a _ (OC2.out.at.kp0 ((Kp.refl [] _).alloc _)) (HA.out.kp0 ((Kp.refl [] _).alloc _)) OA.out OA.out rfl).mono ?_
    rintro e w' ⟨rfl, bs1, m1, rfl⟩
    go_wp2_with fail
    refine (refSame_true da db dc pa sa ka dp1 dp2 dp3 pc sc kc a a _ (OD2.out.at.kp0 (((Kp.refl [] _).alloc _).ext _ _)) (HA.out.kp0 (((Kp.refl [] _).alloc _).ext _ _)) OA.out OA.out rfl).mono ?_
    rintro e w' ⟨rfl, bs2, m2, rfl⟩
    go_wp2_with fail
    refine (kept_any gp gs gk pc' sc' kc' w.heap.size pa sa ka pc sc kc a _ (Own3.kp C2.out.oa (((Kp.refl [] _).alloc _).ext _ _) NN.out) (HA.out.kp0 (((Kp.refl [] _).alloc _).ext _ _)) OA.out FA.out).mono ?_
    rintro e w' ⟨rfl, bs3, m3, rfl⟩
    go_wp2_with fail
    refine (spoil_mk (lo := w.heap.size) (n := a) (Own3.kp C2.out.oa (((Kp.refl [] _).alloc _).ext _ _) NN.out) FA.out).mono ?_
    rintro e w3 ⟨rfl, k3⟩
    obtain ⟨y0, y5, y6⟩ := C.out.lt
    have LX : ∀ g ∈ blks (some ⟨gp, 0, none⟩) (some ⟨gs, 0, none⟩) (some ⟨gk, 0, none⟩), w.heap.size ≤ g ∧ g < wc.heap.size := fun g hg => ⟨C.out.oa.lo g hg, C.out.oa.blt g hg⟩
    have LY : ∀ g ∈ blks (some ⟨hp, 0, none⟩) (some ⟨hs, 0, none⟩) (some ⟨hk, 0, none⟩), w.heap.size ≤ g ∧ g < wc.heap.size := fun g hg => ⟨C.out.ob.lo g hg, C.out.ob.blt g hg⟩
    have LC' : ∀ g ∈ blks ca cb cc, wc.heap.size ≤ g ∧ g < w1.heap.size := fun g hg => ⟨OC2.out.lo g hg, LC.out g hg⟩
    have LD : ∀ g ∈ blks da db dc, w1.heap.size + 1 ≤ g ∧ g < w2.heap.size := fun g hg => ⟨OD2.out.lo g hg, OD2.out.blt g hg⟩
    have NB := C.out.nb
    have kx : Kp [] w2 (ext (w2.alloc (.cells #[.slice da a.pairs.length dp1, .slice db a.seps.length dp2, .slice dc a.kids.length dp3] 30)) (bs1 ++ (bs2 ++ bs3)) (m1 + m2 + m3)) := ((Kp.refl [] w2).alloc _).ext _ _
    have k3' : Kp (blks (some ⟨gp, 0, none⟩) (some ⟨gs, 0, none⟩) (some ⟨gk, 0, none⟩)) w2 w3 := kx.of_nil.trans k3
    have kw3 : Kp [] w w3 := C2.out.kp.from k3' (fun g hg => .inl (LX g hg).1)
    have oc3 := OC2.out.kp k3' (fun g hg e => by have := LC' g hg; have := LX g e; omega)
    have od3 := OD2.out.kp k3' (fun g hg e => by have := LD g hg; have := LX g e; omega)
    have oy3 := C2.out.ob.kp k3' (fun g hg e => C.out.dj g e hg)
    have b73 := b7.out.kp k3' (fun e => by have := LX _ e; omega)
    have b83 : Blk w3 w2.heap.size 30 #[.slice da a.pairs.length dp1, .slice db a.seps.length dp2, .slice dc a.kids.length dp3] := Blk.kp ((Blk.new w2 30 #[.slice da a.pairs.length dp1, .slice db a.seps.length dp2, .slice dc a.kids.length dp3]).kp ((Kp.refl [] _).ext (bs1 ++ (bs2 ++ bs3)) (m1 + m2 + m3)) (by simp)) k3 (fun e => by have := LX _ e; omega)
    have ck : ∀ W : World, Kp (blks ca cb cc ++ blks da db dc) w3 W →
        ((W.cell? ⟨w1.heap.size, 0, none⟩ = some (.slice ca a.pairs.length cp1) ∧ W.cell? ⟨w1.heap.size, 1, none⟩ = some (.slice cb a.seps.length cp2) ∧ W.cell? ⟨w1.heap.size, 2, none⟩ = some (.slice cc a.kids.length cp3)) ∧
         (W.cell? ⟨w2.heap.size, 0, none⟩ = some (.slice da a.pairs.length dp1) ∧ W.cell? ⟨w2.heap.size, 1, none⟩ = some (.slice db a.seps.length dp2) ∧ W.cell? ⟨w2.heap.size, 2, none⟩ = some (.slice dc a.kids.length dp3)) ∧
         (W.cell? ⟨B6, 0, none⟩ = some (.slice (some ⟨hp, 0, none⟩) b.pairs.length qc') ∧ W.cell? ⟨B6, 1, none⟩ = some (.slice (some ⟨hs, 0, none⟩) b.seps.length tc') ∧ W.cell? ⟨B6, 2, none⟩ = some (.slice (some ⟨hk, 0, none⟩) b.kids.length lc')) ∧
         (W.cell? ⟨w.heap.size, 0, none⟩ = some (.slice pa a.pairs.length pc) ∧ W.cell? ⟨w.heap.size, 1, none⟩ = some (.slice sa a.seps.length sc) ∧ W.cell? ⟨w.heap.size, 2, none⟩ = some (.slice ka a.kids.length kc)) ∧
         (W.cell? ⟨w.heap.size + 1, 0, none⟩ = some (.slice qa b.pairs.length qc) ∧ W.cell? ⟨w.heap.size + 1, 1, none⟩ = some (.slice ta b.seps.length tc) ∧ W.cell? ⟨w.heap.size + 1, 2, none⟩ = some (.slice la b.kids.length lc))) := by
      intro W k
      have far : ∀ g, (g < wc.heap.size ∨ g = w1.heap.size ∨ g = w2.heap.size) → g ∉ blks ca cb cc ++ blks da db dc := by
        intro g hg e
        rcases List.mem_append.1 e with e | e
        · have := LC' g e; omega
        · have := LD g e; omega
      have nx : ∀ g, g = w.heap.size ∨ g = w.heap.size + 1 ∨ g = B6 → g ∉ blks (some ⟨gp, 0, none⟩) (some ⟨gs, 0, none⟩) (some ⟨gk, 0, none⟩) := fun g hg e => by
        have h1 := NB g (List.mem_append.2 (.inl e))
        rcases hg with h | h | h
        · exact h1.1 h
        · exact h1.2.1 h
        · exact h1.2.2.2 h
      have c7 := b73.kp k (far _ (.inr (.inl rfl))); have c8 := b83.kp k (far _ (.inr (.inr rfl)))
      exact ⟨⟨c7.cell 0, c7.cell 1, c7.cell 2⟩, ⟨c8.cell 0, c8.cell 1, c8.cell 2⟩,
        ⟨k.cell (k3'.cell p9 (nx _ (.inr (.inr rfl)))) (far _ (.inl y6)), k.cell (k3'.cell p10 (nx _ (.inr (.inr rfl)))) (far _ (.inl y6)), k.cell (k3'.cell p11 (nx _ (.inr (.inr rfl)))) (far _ (.inl y6))⟩,
        ⟨k.cell (k3'.cell p0 (nx _ (.inl rfl))) (far _ (.inl (by simp; omega))), k.cell (k3'.cell p1 (nx _ (.inl rfl))) (far _ (.inl (by simp; omega))), k.cell (k3'.cell p2 (nx _ (.inl rfl))) (far _ (.inl (by simp; omega)))⟩,
        ⟨k.cell (k3'.cell p3 (nx _ (.inr (.inl rfl)))) (far _ (.inl y0)), k.cell (k3'.cell p4 (nx _ (.inr (.inl rfl)))) (far _ (.inl y0)), k.cell (k3'.cell p5 (nx _ (.inr (.inl rfl)))) (far _ (.inl y0))⟩⟩
    have SK := Lib.hid ck; have OC3 := Lib.hid oc3; have OD3 := Lib.hid od3; have OY3 := Lib.hid oy3; have KW3 := Lib.hid kw3
    have FD : Hid (∀ g ∈ blks ca cb cc, g ∉ blks da db dc) := Lib.hid (fun g hg e => by have := LC' g hg; have := LD g e; omega)
    have FY : Hid (∀ g ∈ blks (some ⟨hp, 0, none⟩) (some ⟨hs, 0, none⟩) (some ⟨hk, 0, none⟩), g ∉ blks ca cb cc ++ blks da db dc) := Lib.hid (fun g hg e => by
      have := LY g hg
      rcases List.mem_append.1 e with e | e
      · have := LC' g e; omega
      · have := LD g e; omega)
    have FW : Hid (∀ g, g ∈ blks ca cb cc ++ blks da db dc → w.heap.size ≤ g ∨ g ∈ ([] : List Nat)) := Lib.hid (fun g e => by
      rcases List.mem_append.1 e with e | e
      · have := LC' g e; omega
      · have := LD g e; omega)
    have zl : wc.heap.size ≤ w3.heap.size ∧ w1.heap.size + 1 ≤ w3.heap.size := by have := k3'.size; have := b73.lt; omega
    obtain ⟨zl1, zl2⟩ := zl
    clear ck oc3 od3 oy3 kw3 LX LY LC' LD NB kx k3' b73 b83 p0 p1 p2 p3 p4 p5 p6 p7 p8 p9 p10 p11 q0 q1 q2 z0 z5 z6 z7 HA HB k3
    go_wp2_with fail
    go_region_held3 (fun W => ((W.cell? ⟨w1.heap.size, 0, none⟩ = some (.slice ca a.pairs.length cp1) ∧ W.cell? ⟨w1.heap.size, 1, none⟩ = some (.slice cb a.seps.length cp2) ∧ W.cell? ⟨w1.heap.size, 2, none⟩ = some (.slice cc a.kids.length cp3)) ∧
         (W.cell? ⟨w2.heap.size, 0, none⟩ = some (.slice da a.pairs.length dp1) ∧ W.cell? ⟨w2.heap.size, 1, none⟩ = some (.slice db a.seps.length dp2) ∧ W.cell? ⟨w2.heap.size, 2, none⟩ = some (.slice dc a.kids.length dp3)) ∧
         (W.cell? ⟨B6, 0, none⟩ = some (.slice (some ⟨hp, 0, none⟩) b.pairs.length qc') ∧ W.cell? ⟨B6, 1, none⟩ = some (.slice (some ⟨hs, 0, none⟩) b.seps.length tc') ∧ W.cell? ⟨B6, 2, none⟩ = some (.slice (some ⟨hk, 0, none⟩) b.kids.length lc')) ∧
         (W.cell? ⟨w.heap.size, 0, none⟩ = some (.slice pa a.pairs.length pc) ∧ W.cell? ⟨w.heap.size, 1, none⟩ = some (.slice sa a.seps.length sc) ∧ W.cell? ⟨w.heap.size, 2, none⟩ = some (.slice ka a.kids.length kc)) ∧
         (W.cell? ⟨w.heap.size + 1, 0, none⟩ = some (.slice qa b.pairs.length qc) ∧ W.cell? ⟨w.heap.size + 1, 1, none⟩ = some (.slice ta b.seps.length tc) ∧ W.cell? ⟨w.heap.size + 1, 2, none⟩ = some (.slice la b.kids.length lc))))
      (first | exact SK.out _ KS9.out | exact SK.out _ KS8.out | exact SK.out _ KS7.out | exact SK.out _ KS6.out | exact SK.out _ KS5.out | exact SK.out _ KS4.out | exact SK.out _ ((Kp.refl _ _).drew) | exact SK.out _ (Kp.refl _ _))
      (first
        | ((with_reducible (go_at_call 24)); refine (refSame_true ya yb yc qa ta la yp1 yp2 yp3 qc tc lc b b _ OY6.out.at (HB0.out.kp0 (KW3.out.from KS6.out FW.out)) OB.out OB.out rfl).mono ?_; rintro e w7 ⟨rfl, hx7⟩; have KS7 : Hid (Kp (blks ca cb cc ++ blks da db dc) w3 w7) := Lib.hid (by obtain ⟨bx, nx, rfl⟩ := hx7; exact KS6.out.ext _ _); clear hx7)
        | ((with_reducible (go_at_call 24)); refine (refSame_true ca cb cc pa sa ka cp1 cp2 cp3 pc sc kc a a _ (OC3.out.at.kp0 (by first | exact (Kp.refl [] _).drew | exact Kp.refl [] _)) (HA0.out.kp0 (KW3.out.trans (by first | exact (Kp.refl [] _).drew | exact Kp.refl [] _))) OA.out OA.out rfl).mono ?_; rintro e w4 ⟨rfl, hx4⟩; have KT4 : Hid (Kp [] w3 w4) := Lib.hid (by obtain ⟨bx, nx, rfl⟩ := hx4; first | exact ((Kp.refl [] _).drew).ext _ _ | exact (Kp.refl [] _).ext _ _); have KS4 : Hid (Kp (blks ca cb cc ++ blks da db dc) w3 w4) := Lib.hid KT4.out.of_nil; clear hx4)
        | ((with_reducible (go_at_call 27)); refine (apart_any wc.heap.size (w1.heap.size + 1) ca cb cc da db dc cp1 cp2 cp3 dp1 dp2 dp3 a a _ (OC3.out.kp KT4.out (by simp)) (OD3.out.kp KT4.out (by simp)) FD.out (Nat.le_trans zl1 KT4.out.size) (Nat.le_trans zl2 KT4.out.size) FA.out FA.out).mono ?_; rintro e w5 ⟨rfl, k5⟩; have KS5 : Hid (Kp (blks ca cb cc ++ blks da db dc) w3 w5) := Lib.hid (KS4.out.trans k5); clear k5)
        | ((with_reducible (go_at_call 21)); refine (copy_any (some ⟨hp, 0, none⟩) (some ⟨hs, 0, none⟩) (some ⟨hk, 0, none⟩) qc' tc' lc' b _ (Own3.lent (OY3.out.kp KS5.out FY.out)).1 OB.out).mono ?_; rintro e w6 ⟨ya, yb, yc, yp1, yp2, yp3, rfl, oy, k6⟩; have KS6 : Hid (Kp (blks ca cb cc ++ blks da db dc) w3 w6) := Lib.hid (KS5.out.trans k6.of_nil); have OY6 := Lib.hid oy; clear k6 oy)
        | ((with_reducible (go_at_call 25)); refine (kept_any hp hs hk qc' tc' lc' w.heap.size qa ta la qc tc lc b _ (OY3.out.kp KS7.out FY.out) (HB0.out.kp0 (KW3.out.from KS7.out FW.out)) OB.out FB.out).mono ?_; rintro e w8 ⟨rfl, hx8⟩; have KS8 : Hid (Kp (blks ca cb cc ++ blks da db dc) w3 w8) := Lib.hid (by obtain ⟨bx, nx, rfl⟩ := hx8; exact KS7.out.ext _ _); clear hx8)
        | ((with_reducible (go_at_call 13)); refine (lives_any _).mono ?_; rintro e w9 ⟨rfl, hx9⟩; have KS9 : Hid (Kp (blks ca cb cc ++ blks da db dc) w3 w9) := Lib.hid (by obtain ⟨bx, nx, rfl⟩ := hx9; exact KS8.out.ext _ _); clear hx9))
    all_goals go_wp2_with fail
    all_goals go_ret
    all_goals exact ⟨rfl, (KW3.out.from KS9.out FW.out).to_ext⟩

end Go.Proofs.Ytemicgccgcmmbaa

/- A law's arguments opened: a frame, a node, a text. -/
namespace Go.Proofs.Ytemicgccgcmmbaa
set_option linter.unusedVariables false
set_option linter.unusedSimpArgs false
open Go Go.RowKit Go.ChangeShapes Go.WideShapes Go.Deep

section
variable {H : Type} {enc : TypeId × Value → H} {P : Program} {w : World} {base : Nat} {spare : Nat → Bool} {held : Bool}

theorem spot_none {w : World} {a : Addr} {v : Value} (h : w.cell? a = some v) : a = ⟨a.block, a.off, none⟩ ∧ a.block < w.heap.size := by
  refine ⟨?_, World.block_lt_of_cell? w a h⟩
  obtain ⟨b, o, sp⟩ := a
  unfold World.cell? at h
  split at h
  · cases sp with
    | none => rfl
    | some x => simp at h
  · cases h

theorem row_of_cells {w : World} {b o n : Nat} {cs : List Value} (hn : 0 < n) (hl : cs.length = n) (h : ∀ i, i < n → w.cell? ⟨b, o + i, none⟩ = cs[i]?) : rowAt? w ⟨b, o, none⟩ n = some cs.toArray := by
  have h0 := h (n - 1) (by omega)
  rw [List.getElem?_eq_getElem (by omega)] at h0
  unfold rowAt?
  unfold World.cell? at h0
  split at h0
  · rename_i c e f hb
    simp only at hb
    have hsz : o + (n - 1) < c.size := by
      rcases Nat.lt_or_ge (o + (n - 1)) c.size with h1 | h1
      · exact h1
      · simp [Array.getElem?_eq_none h1] at h0
    simp only [hb, Option.isSome_none, Bool.false_eq_true, if_false]
    rw [if_pos (by omega)]
    congr 1
    apply Array.ext_getElem?
    intro i
    simp only [Array.getElem?_extract, List.getElem?_toArray]
    by_cases hi : i < n
    · have h1 := h i hi
      simp only [World.cell?, hb, Option.isSome_none, Bool.false_eq_true, if_false] at h1
      rw [if_pos (by omega), h1]
    · rw [if_neg (by omega), List.getElem?_eq_none (by omega)]
  · cases h0

theorem weightsAll_mem {e : TypeId} : ∀ {ds : List (DataW H)} {d : DataW H}, d ∈ ds → ∀ n ∈ d.weights P e, n ∈ DataW.weightsAll P e ds
  | x :: r, d, hd, n, hn => by
    simp only [DataW.weightsAll, List.mem_append]
    rcases List.mem_cons.1 hd with rfl | h
    · exact .inl hn
    · exact .inr (weightsAll_mem h n hn)

/-- A slice: its length, and each element that is read, with its weights. -/
theorem open_sl {t e : TypeId} {fuel : Nat} {cs : List Value} {x : DataW H × List MemPlace} (ht : P.underlying t = some (.slice e)) (h : DataW.trod enc P w base spare held fuel t cs = some x)
    (hz : ∀ n ∈ x.1.weights P t, n ≤ reachBytes) :
    ∃ (a : Option Addr) (len cap : Nat), cs = [.slice a len cap] ∧ len * P.bytesOf e ≤ reachBytes ∧
      ∀ i, i < len → ∃ (ad : Addr) (n : Nat) (cs' : List Value) (y : DataW H × List MemPlace), a = some ad ∧ w.cells? base (ad.add (i * P.cellsOf e)) (P.cellsOf e) = some cs' ∧ DataW.trod enc P w base spare held n e cs' = some y ∧ ∀ m ∈ y.1.weights P e, m ≤ reachBytes := by
  rcases DataW.trod_slice ht h with ⟨rfl, rfl⟩ | ⟨a, len, cap, elems, rest, n, _, rfl, rfl, hb, hl, hm, hlen, hel, _, _⟩
  · exact ⟨none, 0, 0, rfl, by simp, fun i hi => absurd hi (Nat.not_lt_zero _)⟩
  · refine ⟨some a, len, cap, rfl, ?_, fun i hi => ?_⟩
    · have := hz ((elems.length + rest.length) * P.bytesOf e) (by simp [DataW.weights, ht])
      exact Nat.le_trans (Nat.mul_le_mul_right _ (by omega)) this
    · have hy : elems[i]? = some (elems[i]'(by omega)) := List.getElem?_eq_getElem (by omega)
      have h1 := hel i hi
      rw [hy] at h1
      obtain ⟨cs', hc, hd⟩ := Option.bind_eq_some_iff.1 h1
      refine ⟨a, n, cs', _, rfl, hc, hd, fun m hm => hz m ?_⟩
      have hmem : (elems[i]'(by omega)).1 ∈ elems.map (·.1) := List.mem_map.2 ⟨_, List.getElem_mem _, rfl⟩
      simp only [DataW.weights, ht, List.mem_cons, List.mem_append]
      exact .inr (.inl (weightsAll_mem hmem m hm))


/-- One text. -/
theorem elem_str {t : TypeId} (ht : P.underlying t = some .string) {n : Nat} {cs : List Value} {y : DataW H × List MemPlace} (h : DataW.trod enc P w base spare held n t cs = some y) (hz : ∀ m ∈ y.1.weights P t, m ≤ reachBytes) :
    ∃ l : Bs, cs = [.string ⟨l.toArray⟩] ∧ l.length ≤ 140737488351232 := by
  obtain ⟨s, rfl, rfl, _⟩ := DataW.trod_string ht h
  refine ⟨s.data.toList, by simp, ?_⟩
  have := hz s.data.toList.length (by simp [DataW.weights])
  exact this

theorem cells1 {w : World} {base : Nat} {a : Addr} {v : Value} (h : w.cells? base a 1 = some [v]) : w.cell? a = some v := by
  have := (World.cells?_some h).2.2 0 (by omega)
  simpa [Addr.add] using this

/-- A slice of texts. -/
theorem open_texts {t e : TypeId} {fuel : Nat} {cs : List Value} {x : DataW H × List MemPlace} (ht : P.underlying t = some (.slice e)) (he : P.underlying e = some .string) (hc : P.cellsOf e = 1) (h16 : P.bytesOf e = 16) (h : DataW.trod enc P w base spare held fuel t cs = some x)
    (hz : ∀ n ∈ x.1.weights P t, n ≤ reachBytes) :
    ∃ (a : Option Addr) (cap : Nat) (ss : List Bs), cs = [.slice a ss.length cap] ∧ SsAt w a ss ∧ ss.length ≤ 8796093022208 ∧ ∀ p ∈ ss, p.length ≤ 140737488351232 := by
  obtain ⟨a, len, cap, rfl, hl, hel⟩ := open_sl ht h hz
  have each : ∀ i, i < len → ∃ l : Bs, (∃ ad : Addr, a = some ad ∧ w.cell? (ad.add i) = some (.string ⟨l.toArray⟩)) ∧ l.length ≤ 140737488351232 ∧ ∃ ad : Addr, a = some ad ∧ (i = 0 → True) := by
    intro i hi
    obtain ⟨ad, n, cs', y, ha, hcs, hd, hw⟩ := hel i hi
    obtain ⟨l, rfl, hlen⟩ := elem_str he hd hw
    rw [hc] at hcs
    refine ⟨l, ⟨ad, ha, ?_⟩, hlen, ad, ha, fun _ => trivial⟩
    have := cells1 hcs
    simpa using this
  obtain ⟨f, hf⟩ := choose_lt each
  refine ⟨a, cap, (List.range len).map f, by simp, ?_, by simp; rw [h16] at hl; unfold reachBytes at hl; omega, ?_⟩
  · intro i p hp
    have hi : i < len := by
      rcases Nat.lt_or_ge i len with h1 | h1
      · exact h1
      · simp [List.getElem?_eq_none (show (List.range len).length ≤ i by simpa using h1)] at hp
    simp only [List.getElem?_map, List.getElem?_range hi, Option.map_some, Option.some.injEq] at hp
    subst hp
    obtain ⟨ad, rfl, hcell⟩ := (hf i hi).1
    obtain ⟨ad0, h0, hcell0⟩ := (hf 0 (by omega)).1
    cases h0
    have hsp := spot_none (by simpa [Addr.add] using hcell0)
    refine ⟨ad.block, ad.off, by rw [← hsp.1], hsp.2, ?_⟩
    rw [hsp.1, Addr.add_lit] at hcell
    exact hcell
  · intro p hp
    obtain ⟨i, hi, rfl⟩ := List.mem_map.1 hp
    exact (hf i (List.mem_range.1 hi)).2.1


/-- One pair. -/
theorem elem_pair {t t0 : TypeId} {f0 f1 : Field} (ht : P.underlying t = some (.struct #[f0, f1])) (e0 : f0.type = t0) (e1 : f1.type = t0) (o0 : f0.offset = 0) (o1 : f1.offset = 1) (hs : P.underlying t0 = some .string) (hc0 : P.cellsOf t0 = 1)
    {n : Nat} {cs : List Value} {y : DataW H × List MemPlace} (h : DataW.trod enc P w base spare held n t cs = some y) (hl2 : cs.length = 2) (hz : ∀ m ∈ y.1.weights P t, m ≤ reachBytes) :
    ∃ p : Pr, cs = [.string ⟨p.1.toArray⟩, .string ⟨p.2.toArray⟩] ∧ p.1.length ≤ 140737488351232 ∧ p.2.length ≤ 140737488351232 := by
  subst e0
  obtain ⟨y0, y1, m, rfl, _, h0, h1⟩ := trod_struct2 ht h
  rw [e1] at h1
  simp only [DataW.weights, ht, List.map_cons, List.map_nil, DataW.weightsEach, List.append_nil, List.mem_append] at hz
  rw [e1] at hz
  obtain ⟨p0, q0, b0⟩ := elem_str hs h0 (fun m hm => hz m (.inl hm))
  obtain ⟨p1, q1, b1⟩ := elem_str hs h1 (fun m hm => hz m (.inr hm))
  match cs, hl2 with
  | [c0, c1], _ =>
    rw [hc0, o0] at q0
    rw [hc0, o1] at q1
    simp at q0 q1
    exact ⟨⟨p0, p1⟩, by simp [q0, q1], b0, b1⟩

theorem cells_at {w : World} {base : Nat} {a : Addr} {k : Nat} {cs : List Value} (h : w.cells? base a k = some cs) (hk : 0 < k) : a = ⟨a.block, a.off, none⟩ ∧ a.block < w.heap.size ∧ cs.length = k ∧ ∀ i, i < k → w.cell? ⟨a.block, a.off + i, none⟩ = cs[i]? := by
  obtain ⟨_, hl, hc⟩ := World.cells?_some h
  have h0 := hc 0 hk
  rw [List.getElem?_eq_getElem (by omega)] at h0
  have ha : a.add 0 = a := by simp [Addr.add]
  rw [ha] at h0
  obtain ⟨h1, h2⟩ := spot_none h0
  refine ⟨h1, h2, hl, fun i hi => ?_⟩
  rw [← hc i hi]
  rw [h1, Addr.add_lit]

/-- A slice of pairs. -/
theorem open_pairs {t e t0 : TypeId} {f0 f1 : Field} {fuel : Nat} {cs : List Value} {x : DataW H × List MemPlace} (ht : P.underlying t = some (.slice e)) (he : P.underlying e = some (.struct #[f0, f1])) (e0 : f0.type = t0) (e1 : f1.type = t0) (o0 : f0.offset = 0) (o1 : f1.offset = 1) (hs : P.underlying t0 = some .string) (hc0 : P.cellsOf t0 = 1)
    (hc : P.cellsOf e = 2) (h32 : P.bytesOf e = 32) (h : DataW.trod enc P w base spare held fuel t cs = some x)
    (hz : ∀ n ∈ x.1.weights P t, n ≤ reachBytes) :
    ∃ (a : Option Addr) (cap : Nat) (ps : List Pr), cs = [.slice a ps.length cap] ∧ PsAt w a ps ∧ ps.length ≤ 4398046511104 ∧ ∀ p ∈ ps, p.1.length ≤ 140737488351232 ∧ p.2.length ≤ 140737488351232 := by
  obtain ⟨a, len, cap, rfl, hl, hel⟩ := open_sl ht h hz
  have hn : 0 < len → ∃ b o, a = some ⟨b, o, none⟩ := by
    intro h0
    obtain ⟨ad, n, cs', y, ha, hcs, hd, hw⟩ := hel 0 h0
    rw [hc, Nat.zero_mul, show ad.add 0 = ad by simp [Addr.add]] at hcs
    exact ⟨ad.block, ad.off, by rw [ha, ← (cells_at hcs (by omega)).1]⟩
  have each : ∀ i, i < len → ∃ p : Pr, (∃ b o, a = some ⟨b, o, none⟩ ∧ b < w.heap.size ∧ w.cell? ⟨b, o + i * 2, none⟩ = some (.string ⟨p.1.toArray⟩) ∧ w.cell? ⟨b, o + i * 2 + 1, none⟩ = some (.string ⟨p.2.toArray⟩)) ∧ p.1.length ≤ 140737488351232 ∧ p.2.length ≤ 140737488351232 := by
    intro i hi
    obtain ⟨ad, n, cs', y, ha, hcs, hd, hw⟩ := hel i hi
    obtain ⟨b, o, rfl⟩ := hn (by omega)
    cases ha
    rw [hc, Addr.add_lit] at hcs
    obtain ⟨h1, h2, h3, h4⟩ := cells_at hcs (by omega)
    obtain ⟨p, hp, b0, b1⟩ := elem_pair he e0 e1 o0 o1 hs hc0 hd h3 hw
    subst hp
    have k0 := h4 0 (by omega)
    have k1 := h4 1 (by omega)
    exact ⟨p, ⟨b, o, rfl, h2, k0, k1⟩, b0, b1⟩
  obtain ⟨f, hf⟩ := choose_lt each
  refine ⟨a, cap, (List.range len).map f, by simp, ?_, by simp; rw [h32] at hl; unfold reachBytes at hl; omega, ?_⟩
  · intro i p hp
    have hi : i < len := by
      rcases Nat.lt_or_ge i len with h1 | h1
      · exact h1
      · simp [List.getElem?_eq_none (show (List.range len).length ≤ i by simpa using h1)] at hp
    simp only [List.getElem?_map, List.getElem?_range hi, Option.map_some, Option.some.injEq] at hp
    subst hp
    exact (hf i hi).1
  · intro p hp
    obtain ⟨i, hi, rfl⟩ := List.mem_map.1 hp
    exact (hf i (List.mem_range.1 hi)).2

/-- An array of 32 bytes. -/
theorem elem_bytes {t e : TypeId} {k : Nat} (ht : P.underlying t = some (.array k e)) (he : P.underlying e = some (.int .u8)) (hc : P.cellsOf e = 1) (hck : P.cellsOf t = k)
    {n : Nat} {cs : List Value} {y : DataW H × List MemPlace} (h : DataW.trod enc P w base spare held n t cs = some y) :
    ∃ l : Bs, l.length = k ∧ cs = bC l := by
  obtain ⟨xs, m, _, _, hl, hlx, hel⟩ := DataW.trod_array ht h
  rw [hck] at hl
  have each : ∀ i, i < k → ∃ b : UInt8, cs[i]? = some (.int .u8 (b.toNat : Int)) := by
    intro i hi
    have h1 := hel i hi
    rw [List.getElem?_eq_getElem (by omega)] at h1
    obtain ⟨z, hz, _, hwf⟩ := DataW.trod_int he h1
    rw [hc] at hz
    have h2 : ((cs.drop (i * 1)).take 1)[0]? = some (.int .u8 z) := by rw [hz]; rfl
    simp at h2
    have hr : 0 ≤ z ∧ z < 256 := by
      simp [Lit.wf, IntKind.min, IntKind.max, IntKind.bits, IntKind.signed] at hwf
      omega
    refine ⟨UInt8.ofNat z.toNat, ?_⟩
    rw [h2]
    congr 2
    rw [UInt8.toNat_ofNat_of_lt' (by simp [UInt8.size]; omega)]
    omega
  obtain ⟨f, hf⟩ := choose_lt each
  refine ⟨(List.range k).map f, by simp, ?_⟩
  apply List.ext_getElem?
  intro i
  by_cases hi : i < k
  · rw [hf i hi]
    simp [bC, hi]
  · rw [List.getElem?_eq_none (by omega), List.getElem?_eq_none (by simp [bC]; omega)]

/-- One kid. -/
theorem elem_kid {t t0 t1 e : TypeId} {f0 f1 : Field} (ht : P.underlying t = some (.struct #[f0, f1])) (e0 : f0.type = t0) (e1 : f1.type = t1) (o0 : f0.offset = 0) (o1 : f1.offset = 1) (hs : P.underlying t0 = some (.int .u32)) (hc0 : P.cellsOf t0 = 1)
    (h1 : P.underlying t1 = some (.array 32 e)) (he : P.underlying e = some (.int .u8)) (hce : P.cellsOf e = 1) (hc1 : P.cellsOf t1 = 32)
    {n : Nat} {cs : List Value} {y : DataW H × List MemPlace} (h : DataW.trod enc P w base spare held n t cs = some y) (hl2 : cs.length = 33) :
    ∃ k : Kd, cs.toArray = k.c ∧ k.page < 4294967296 := by
  obtain ⟨y0, y1, m, rfl, _, h0, h1'⟩ := trod_struct2 ht h
  rw [e0, o0, hc0] at h0
  rw [e1, o1, hc1] at h1'
  obtain ⟨z, hz, _, hwf⟩ := DataW.trod_int hs h0
  obtain ⟨l, hl, hcs⟩ := elem_bytes h1 he hce hc1 h1'
  have hr : 0 ≤ z ∧ z < 4294967296 := by
    simp [Lit.wf, IntKind.min, IntKind.max, IntKind.bits, IntKind.signed] at hwf
    omega
  refine ⟨⟨z.toNat, ⟨l, hl⟩⟩, ?_, by simp; omega⟩
  match cs, hl2 with
  | c :: r, hr2 =>
    simp at hz hcs
    have h32 : r.length = 32 := by simpa using hr2
    rw [List.take_of_length_le (by omega)] at hcs
    subst hz hcs
    simp only [Kd.c]
    congr 2
    congr 1
    omega

instance : Inhabited Kd := ⟨Kd.zero⟩

/-- A slice of kids. -/
theorem open_kids {t e t0 t1 e8 : TypeId} {f0 f1 : Field} {fuel : Nat} {cs : List Value} {x : DataW H × List MemPlace} (ht : P.underlying t = some (.slice e)) (he : P.underlying e = some (.struct #[f0, f1])) (e0 : f0.type = t0) (e1 : f1.type = t1) (o0 : f0.offset = 0) (o1 : f1.offset = 1) (hs : P.underlying t0 = some (.int .u32)) (hc0 : P.cellsOf t0 = 1)
    (h1 : P.underlying t1 = some (.array 32 e8)) (he8 : P.underlying e8 = some (.int .u8)) (hce : P.cellsOf e8 = 1) (hc1 : P.cellsOf t1 = 32)
    (hc : P.cellsOf e = 33) (h36 : P.bytesOf e = 36) (h : DataW.trod enc P w base spare held fuel t cs = some x)
    (hz : ∀ n ∈ x.1.weights P t, n ≤ reachBytes) :
    ∃ (a : Option Addr) (cap : Nat) (ks : List Kd), cs = [.slice a ks.length cap] ∧ KsAt w a ks ∧ ks.length ≤ 3909374676453 ∧ ∀ k ∈ ks, k.page < 4294967296 := by
  obtain ⟨a, len, cap, rfl, hl, hel⟩ := open_sl ht h hz
  have hn : 0 < len → ∃ b o, a = some ⟨b, o, none⟩ := by
    intro h0
    obtain ⟨ad, n, cs', y, ha, hcs, hd, hw⟩ := hel 0 h0
    rw [hc, Nat.zero_mul, show ad.add 0 = ad by simp [Addr.add]] at hcs
    exact ⟨ad.block, ad.off, by rw [ha, ← (cells_at hcs (by omega)).1]⟩
  have each : ∀ i, i < len → ∃ k : Kd, (∃ b o, a = some ⟨b, o, none⟩ ∧ b < w.heap.size ∧ rowAt? w ⟨b, o + i * 33, none⟩ 33 = some k.c) ∧ k.page < 4294967296 := by
    intro i hi
    obtain ⟨ad, n, cs', y, ha, hcs, hd, hw⟩ := hel i hi
    obtain ⟨b, o, rfl⟩ := hn (by omega)
    cases ha
    rw [hc, Addr.add_lit] at hcs
    obtain ⟨h1', h2, h3, h4⟩ := cells_at hcs (by omega)
    obtain ⟨k, hk, hp⟩ := elem_kid he e0 e1 o0 o1 hs hc0 h1 he8 hce hc1 hd h3
    refine ⟨k, ⟨b, o, rfl, h2, ?_⟩, hp⟩
    rw [← hk]
    exact row_of_cells (by omega) h3 (fun j hj => h4 j hj)
  obtain ⟨f, hf⟩ := choose_lt each
  refine ⟨a, cap, (List.range len).map f, by simp, ?_, by simp; rw [h36] at hl; unfold reachBytes at hl; omega, ?_⟩
  · intro i k hk
    have hi : i < len := by
      rcases Nat.lt_or_ge i len with h1 | h1
      · exact h1
      · simp [List.getElem?_eq_none (show (List.range len).length ≤ i by simpa using h1)] at hk
    simp only [List.getElem?_map, List.getElem?_range hi, Option.map_some, Option.some.injEq] at hk
    subst hk
    exact (hf i hi).1
  · intro k hk
    obtain ⟨i, hi, rfl⟩ := List.mem_map.1 hk
    exact (hf i (List.mem_range.1 hi)).2

theorem cells_agg {v : Value} {k : Nat} (h : v.cells.size = k) (h2 : 1 < k) : ∃ cs, v = .agg cs ∧ cs.size = k := by
  cases v <;> simp [Value.cells] at h <;> first | exact ⟨_, rfl, h⟩ | omega


end

end Go.Proofs.Ytemicgccgcmmbaa

/- This program's frame and node, opened where they come in. -/
namespace Go.Proofs.Ytemicgccgcmmbaa
set_option linter.unusedVariables false
set_option linter.unusedSimpArgs false
open Go Go.RowKit Go.ChangeShapes Go.WideShapes Go.Deep Go.Joins

theorem pair_struct : ∃ f0 f1, Try.prog.underlying 48 = some (.struct #[f0, f1]) ∧ f0.type = 9 ∧ f1.type = 9 ∧ f0.offset = 0 ∧ f1.offset = 1 := ⟨_, _, Try.underlying48, rfl, rfl, rfl, rfl⟩
theorem kid_struct : ∃ f0 f1, Try.prog.underlying 42 = some (.struct #[f0, f1]) ∧ f0.type = 38 ∧ f1.type = 40 ∧ f0.offset = 0 ∧ f1.offset = 1 := ⟨_, _, Try.underlying42, rfl, rfl, rfl, rfl⟩
theorem node_struct : ∃ f0 f1 f2, Try.prog.underlying 30 = some (.struct #[f0, f1, f2]) ∧ f0.type = 26 ∧ f1.type = 27 ∧ f2.type = 28 ∧ f0.offset = 0 ∧ f1.offset = 1 ∧ f2.offset = 2 := ⟨_, _, _, Try.underlying30, rfl, rfl, rfl, rfl, rfl, rfl⟩
theorem frame_struct : ∃ f0 f1, Try.prog.underlying 23 = some (.struct #[f0, f1]) ∧ f0.type = 3 ∧ f1.type = 3 ∧ f0.offset = 0 ∧ f1.offset = 1 := ⟨_, _, Try.underlying23, rfl, rfl, rfl, rfl⟩

section
variable {H : Type} {enc : TypeId × Value → H} {w : World} {base : Nat} {spare : Nat → Bool} {held : Bool}

theorem agg_two {v : Value} {a b : Value} (h : v.cells.toList = [a, b]) : v = .agg #[a, b] := by
  cases v <;> simp [Value.cells] at h
  rename_i cs
  obtain ⟨l⟩ := cs
  simp at h; simp [h]
theorem agg_three {v : Value} {a b c : Value} (h : v.cells.toList = [a, b, c]) : v = .agg #[a, b, c] := by
  cases v <;> simp [Value.cells] at h
  rename_i cs
  obtain ⟨l⟩ := cs
  simp at h; simp [h]

/-- A frame that comes in. -/
theorem open_frame {v : Value} {d : DataW H} {p : List MemPlace} (h : DataW.Trod enc Try.prog w base spare held 23 v d p) : ∃ pg wd : Int, v = .agg #[.int .i64 pg, .int .i64 wd] ∧ p = [] := by
  obtain ⟨fuel, hf⟩ := h
  obtain ⟨f0, f1, hu, e0, e1, o0, o1⟩ := frame_struct
  obtain ⟨y0, y1, n, hx, hl, h0, h1⟩ := trod_struct2 hu hf
  have hc : Try.prog.cellsOf 23 = 2 := by kernel_rfl
  have hi : Try.prog.cellsOf 3 = 1 := by kernel_rfl
  rw [hc] at hl
  rw [e0, o0, hi] at h0
  rw [e1, o1, hi] at h1
  obtain ⟨z0, q0, r0, _⟩ := DataW.trod_int Try.underlying3 h0
  obtain ⟨z1, q1, r1, _⟩ := DataW.trod_int Try.underlying3 h1
  simp only [Prod.mk.injEq] at hx
  refine ⟨z0, z1, agg_two ?_, by rw [hx.2, r0, r1]; rfl⟩
  generalize v.cells.toList = cs at *
  match cs, hl with
  | [a, b], _ => simp at q0 q1; rw [q0, q1]

/-- A node that comes in. -/
theorem open_node {v : Value} {d : DataW H} {p : List MemPlace} (h : DataW.Trod enc Try.prog w base spare held 30 v d p) (hz : ∀ m ∈ d.weights Try.prog 30, m ≤ reachBytes) :
    ∃ (pa sa ka : Option Addr) (pc sc kc : Nat) (n : Nd), v = .agg #[.slice pa n.pairs.length pc, .slice sa n.seps.length sc, .slice ka n.kids.length kc] ∧ NdAt w pa sa ka n ∧ NdOk n := by
  obtain ⟨fuel, hf⟩ := h
  obtain ⟨f0, f1, f2, hu, e0, e1, e2, o0, o1, o2⟩ := node_struct
  obtain ⟨y0, y1, y2, n, hx, hl, h0, h1, h2⟩ := trod_struct3 hu hf
  have hc : Try.prog.cellsOf 30 = 3 := by kernel_rfl
  have i0 : Try.prog.cellsOf 26 = 1 := by kernel_rfl
  have i1 : Try.prog.cellsOf 27 = 1 := by kernel_rfl
  have i2 : Try.prog.cellsOf 28 = 1 := by kernel_rfl
  rw [hc] at hl
  rw [e0, o0, i0] at h0
  rw [e1, o1, i1] at h1
  rw [e2, o2, i2] at h2
  simp only [Prod.mk.injEq] at hx
  rw [hx.1] at hz
  simp only [DataW.weights, hu, List.map_cons, List.map_nil, DataW.weightsEach, List.append_nil, List.mem_append, e0, e1, e2] at hz
  obtain ⟨f0, f1, hp, e0, e1, o0, o1⟩ := pair_struct
  obtain ⟨pa, pc, ps, q0, a0, b0, c0⟩ := open_pairs (w := w) Try.underlying26 hp e0 e1 o0 o1 Try.underlying9 (by kernel_rfl) (by kernel_rfl) (by kernel_rfl) h0 (fun m hm => hz m (.inl hm))
  obtain ⟨sa, sc, ss, q1, a1, b1, c1⟩ := open_texts (w := w) Try.underlying27 Try.underlying9 (by kernel_rfl) (by kernel_rfl) h1 (fun m hm => hz m (.inr (.inl hm)))
  obtain ⟨f0, f1, hk, e0, e1, o0, o1⟩ := kid_struct
  obtain ⟨ka, kc, ks, q2, a2, b2, c2⟩ := open_kids (w := w) Try.underlying28 hk e0 e1 o0 o1 Try.underlying38 (by kernel_rfl) Try.underlying40 Try.underlying5 (by kernel_rfl) (by kernel_rfl) (by kernel_rfl) (by kernel_rfl) h2 (fun m hm => hz m (.inr (.inr hm)))
  refine ⟨pa, sa, ka, pc, sc, kc, ⟨ps, ss, ks⟩, agg_three ?_, ⟨a0, a1, a2⟩, ⟨b0, b1, b2, c0, c1, c2⟩⟩
  generalize v.cells.toList = cs at *
  match cs, hl with
  | [a, b, c], _ => simp at q0 q1 q2; simp [q0, q1, q2]

theorem weights_at {P : Program} {ts : List TypeId} {ds : List (DataW H)} (h : (DataW.weightsEach P ts ds).all (· ≤ reachBytes) = true) {j : Nat} {t : TypeId} {d : DataW H} (ht : ts[j]? = some t) (hd : ds[j]? = some d) : ∀ n ∈ d.weights P t, n ≤ reachBytes := fun n hn => by
  have := List.all_eq_true.1 h _ (DataW.weights_mem_each ht hd n hn)
  simpa using this
end

theorem laidOut : laidOutB Try.prog = true := by kernel_rfl

end Go.Proofs.Ytemicgccgcmmbaa

/- What a bound on the bulk gives of a node that comes in: its lists are short. -/
namespace Go.Proofs.Ytemicgccgcmmbaa
set_option linter.unusedVariables false
set_option linter.unusedSimpArgs false
open Go Go.RowKit Go.ChangeShapes Go.WideShapes Go.Deep Go.Joins

/-- A datum that stands for a slice of so many. -/
def SlLen {H : Type} (d : DataW H) (n : Nat) : Prop := (∃ es sp, d = .slice es sp ∧ es.length = n) ∨ n = 0

section
variable {H : Type} {enc : TypeId × Value → H} {w : World} {base : Nat} {spare : Nat → Bool} {held : Bool}

theorem sl_len {P : Program} {t e : TypeId} {fuel : Nat} {cs : List Value} {x : DataW H × List MemPlace} (ht : P.underlying t = some (.slice e)) (h : DataW.trod enc P w base spare held fuel t cs = some x) :
    ∃ (a : Option Addr) (len cap : Nat), cs = [.slice a len cap] ∧ SlLen x.1 len := by
  rcases DataW.trod_slice ht h with ⟨rfl, rfl⟩ | ⟨a, len, cap, elems, rest, n, _, rfl, rfl, hb, hl, hm, hlen, hel, _, _⟩
  · exact ⟨none, 0, 0, rfl, .inr rfl⟩
  · exact ⟨some a, len, cap, rfl, .inl ⟨_, _, rfl, by simp; omega⟩⟩

theorem node_len {v : Value} {d : DataW H} {p : List MemPlace} (h : DataW.Trod enc Try.prog w base spare held 30 v d p) {pa sa ka : Option Addr} {l0 l1 l2 pc sc kc : Nat} (hv : v = .agg #[.slice pa l0 pc, .slice sa l1 sc, .slice ka l2 kc]) :
    ∃ s0 s1 s2 : DataW H, d = .agg [s0, s1, s2] ∧ SlLen s0 l0 ∧ SlLen s1 l1 ∧ SlLen s2 l2 := by
  obtain ⟨fuel, hf⟩ := h
  obtain ⟨f0, f1, f2, hu, e0, e1, e2, o0, o1, o2⟩ := node_struct
  obtain ⟨y0, y1, y2, n, hx, hl, h0, h1, h2⟩ := trod_struct3 hu hf
  have i0 : Try.prog.cellsOf 26 = 1 := by kernel_rfl
  have i1 : Try.prog.cellsOf 27 = 1 := by kernel_rfl
  have i2 : Try.prog.cellsOf 28 = 1 := by kernel_rfl
  rw [e0, o0, i0] at h0
  rw [e1, o1, i1] at h1
  rw [e2, o2, i2] at h2
  subst hv
  obtain ⟨a0, n0, c0, q0, r0⟩ := sl_len Try.underlying26 h0
  obtain ⟨a1, n1, c1, q1, r1⟩ := sl_len Try.underlying27 h1
  obtain ⟨a2, n2, c2, q2, r2⟩ := sl_len Try.underlying28 h2
  simp [Value.cells] at q0 q1 q2
  obtain ⟨-, rfl, -⟩ := q0
  obtain ⟨-, rfl, -⟩ := q1
  obtain ⟨-, rfl, -⟩ := q2
  simp only [Prod.mk.injEq] at hx
  exact ⟨y0.1, y1.1, y2.1, hx.1, r0, r1, r2⟩

theorem bulk_pos : ∀ d : DataW H, 1 ≤ Rows.uptoBulk d
  | .lit l => by cases l <;> simp [Rows.uptoBulk]
  | .nil => by simp [Rows.uptoBulk]
  | .ptr d => by simp [Rows.uptoBulk]
  | .slice _ _ => by simp [Rows.uptoBulk]
  | .agg _ => by simp [Rows.uptoBulk]
  | .iface _ _ => by simp [Rows.uptoBulk]
  | .map _ => by simp [Rows.uptoBulk]
  | .held _ => by simp [Rows.uptoBulk]
theorem bulk_len : ∀ es : List (DataW H), es.length ≤ Rows.uptoBulkAll es
  | [] => by simp
  | d :: r => by have := bulk_pos d; have := bulk_len r; simp only [List.length_cons, Rows.uptoBulkAll]; omega
theorem SlLen.le {d : DataW H} {n : Nat} (h : SlLen d n) : n ≤ Rows.uptoBulk d := by
  rcases h with ⟨es, sp, rfl, rfl⟩ | rfl
  · have := bulk_len es; simp only [Rows.uptoBulk]; omega
  · omega

theorem few_node {v : Value} {d : DataW H} {p : List MemPlace} (h : DataW.Trod enc Try.prog w base spare held 30 v d p) {pa sa ka : Option Addr} {pc sc kc : Nat} {n : Nd} (hv : v = .agg #[.slice pa n.pairs.length pc, .slice sa n.seps.length sc, .slice ka n.kids.length kc])
    (hb : Rows.uptoBulk d ≤ 1048576) : NdFew n := by
  obtain ⟨s0, s1, s2, rfl, r0, r1, r2⟩ := node_len h hv
  have := r0.le; have := r1.le; have := r2.le
  simp only [Rows.uptoBulk, Rows.uptoBulkAll] at hb
  exact ⟨by omega, by omega, by omega⟩
end

end Go.Proofs.Ytemicgccgcmmbaa
