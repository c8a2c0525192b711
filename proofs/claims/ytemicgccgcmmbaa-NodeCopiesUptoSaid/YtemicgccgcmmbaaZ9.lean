/- apart: two answers share nothing. -/
import Derived.Test.YtemicgccgcmmbaaZ8
import Derived.Test.YtemicgccgcmmbaaZ6
import Derived.Test.YtemicgccgcmmbaaZ2
import Derived.Test.YtemicgccgcmmbaaZ4
import Derived.Deep.Cut
import Derived.Deep.RegionHeld3
namespace Go.Proofs.Ytemicgccgcmmbaa
set_option linter.unusedVariables false
set_option linter.unusedSimpArgs false
open Go Go.RowKit

def blks (pa sa ka : Option Addr) : List Nat := ab pa ++ ab sa ++ ab ka

theorem spoil_at (mark : UInt8) (v : Int) (hv : (mark.toNat : Int) = v) {lo : Nat} {pa sa ka : Option Addr} {pc sc kc lp ls lk : Nat} {n : Nd} {w : World} (h : Own3 w lo pa sa ka pc sc kc n) (hf : NdFew n) (e1 : n.pairs.length = lp) (e2 : n.seps.length = ls) (e3 : n.kids.length = lk) :
    Calls Try.prog 26 #[.agg #[.slice pa lp pc, .slice sa ls sc, .slice ka lk kc], .int .u32 v] w fun e w' =>
      e = .returned (.tuple #[]) ∧ Own3 w' lo pa sa ka pc sc kc (n.spoilt mark) ∧ Kp (blks pa sa ka) w w' := by
  subst hv e1 e2 e3
  have := spoil_any mark lo pa sa ka pc sc kc n Nd.none w (by rw [Nd.app_none]; exact h) hf
  refine this.mono ?_
  rintro e w' ⟨h1, h2, h3⟩
  rw [Nd.app_none] at h2
  exact ⟨h1, h2, h3⟩

theorem grown_at (mark : UInt8) (v : Int) (hv : (mark.toNat : Int) = v) {lo : Nat} {pa sa ka : Option Addr} {pc sc kc lp ls lk : Nat} {n : Nd} {w : World} (h : Own3 w lo pa sa ka pc sc kc n) (hl : lo ≤ w.heap.size) (hf : NdFew n) (e1 : n.pairs.length = lp) (e2 : n.seps.length = ls) (e3 : n.kids.length = lk) :
    Calls Try.prog 50 #[.agg #[.slice pa lp pc, .slice sa ls sc, .slice ka lk kc], .int .u32 v] w fun e w' =>
      ∃ qa ta la qc tc lc, e = .returned (.agg #[.slice qa (lp + 40) qc, .slice ta (ls + 40) tc, .slice la (lk + 40) lc]) ∧ Own3 w' lo qa ta la qc tc lc (n.app (Nd.ys mark 40)) ∧ NdAt w' pa sa ka n ∧ Kp (blks pa sa ka) w w' ∧
        ∀ g ∈ blks qa ta la, g ∈ blks pa sa ka ∨ w.heap.size ≤ g := by
  subst hv e1 e2 e3
  refine (grown_any mark lo pa sa ka pc sc kc n w h hl hf).mono ?_
  rintro e w' ⟨qa, ta, la, qc, tc, lc, he, ho, hn, hk, h1, h2, h3⟩
  refine ⟨qa, ta, la, qc, tc, lc, he, ho, hn, hk, fun g hg => ?_⟩
  simp only [blks, List.mem_append] at hg ⊢
  rcases hg with (hg | hg) | hg
  · rcases h1 g hg with h | h
    · exact .inl (.inl (.inl h))
    · exact .inr h
  · rcases h2 g hg with h | h
    · exact .inl (.inl (.inr h))
    · exact .inr h
  · rcases h3 g hg with h | h
    · exact .inl (.inr h)
    · exact .inr h

theorem marked_at (mark : UInt8) (v : Int) (hv : (mark.toNat : Int) = v) {pa sa ka : Option Addr} {pc sc kc lp ls lk p s q : Nat} {m : Nd} {w : World} (h : NdAt w pa sa ka m) (hm : MkN mark m p s q) (b1 : m.pairs.length ≤ 2000000) (b2 : m.seps.length ≤ 2000000) (b3 : m.kids.length ≤ 2000000) (b4 : p ≤ 2000000) (b5 : s ≤ 2000000) (b6 : q ≤ 2000000)
    (e1 : m.pairs.length = lp) (e2 : m.seps.length = ls) (e3 : m.kids.length = lk) :
    Calls Try.prog 51 #[.agg #[.slice pa lp pc, .slice sa ls sc, .slice ka lk kc], .int .i64 p, .int .i64 s, .int .i64 q, .int .u32 v] w (Rets (.bool true) w) := by
  subst hv e1 e2 e3
  exact marked_any mark pa sa ka pc sc kc p s q m w h hm b1 b2 b3 b4 b5 b6

theorem Own3.blt {w : World} {lo : Nat} {pa sa ka : Option Addr} {pc sc kc : Nat} {n : Nd} (h : Own3 w lo pa sa ka pc sc kc n) : ∀ g ∈ blks pa sa ka, g < w.heap.size := fun g hg => by
  simp only [blks, List.mem_append] at hg
  rcases hg with (hg | hg) | hg
  · exact h.ps.lt g hg
  · exact h.ss.lt g hg
  · exact h.ks.lt g hg

set_option maxHeartbeats 4000000 in
set_option maxRecDepth 100000 in
theorem apart_any (lo1 lo2 : Nat) (pa sa ka qa ta la : Option Addr) (pc sc kc qc tc lc : Nat) (n m : Nd) (w : World) (h : Own3 w lo1 pa sa ka pc sc kc n) (k : Own3 w lo2 qa ta la qc tc lc m) (hd : ∀ g ∈ blks pa sa ka, g ∉ blks qa ta la) (hl1 : lo1 ≤ w.heap.size) (hl2 : lo2 ≤ w.heap.size) (hf : NdFew n) (kf : NdFew m) :
    Calls Try.prog 27 #[.agg #[.slice pa n.pairs.length pc, .slice sa n.seps.length sc, .slice ka n.kids.length kc], .agg #[.slice qa m.pairs.length qc, .slice ta m.seps.length tc, .slice la m.kids.length lc]] w fun e w' =>
      e = .returned (.bool true) ∧ Kp (blks pa sa ka ++ blks qa ta la) w w' := by
  have fp := hf.np; have fs := hf.ns; have fk := hf.nk
  have gp := kf.np; have gs := kf.ns; have gk := kf.nk
  have hA := h.blt; have hB := k.blt
  obtain ⟨W0, hW0⟩ : ∃ W0, W0 = (w.alloc (.cells #[.slice pa n.pairs.length pc, .slice sa n.seps.length sc, .slice ka n.kids.length kc] 30)).alloc (.cells #[.slice qa m.pairs.length qc, .slice ta m.seps.length tc, .slice la m.kids.length lc] 30) := ⟨_, rfl⟩
  have kw : Kp [] w W0 := by rw [hW0]; exact ((Kp.refl [] w).alloc _).alloc _
  have b0 : Blk W0 w.heap.size 30 #[.slice pa n.pairs.length pc, .slice sa n.seps.length sc, .slice ka n.kids.length kc] := by rw [hW0]; exact (Blk.new w _ _).alloc _
  have b1 : Blk W0 (w.heap.size + 1) 30 #[.slice qa m.pairs.length qc, .slice ta m.seps.length tc, .slice la m.kids.length lc] := by
    rw [hW0]
    have h := Blk.new (w.alloc (.cells #[.slice pa n.pairs.length pc, .slice sa n.seps.length sc, .slice ka n.kids.length kc] 30)) 30 #[.slice qa m.pairs.length qc, .slice ta m.seps.length tc, .slice la m.kids.length lc]
    simpa using h
  have nA0 : w.heap.size ∉ blks pa sa ka := fun e => by have := hA _ e; omega
  have nA1 : w.heap.size + 1 ∉ blks pa sa ka := fun e => by have := hA _ e; omega
  have nB0 : w.heap.size ∉ blks qa ta la := fun e => by have := hB _ e; omega
  have nB1 : w.heap.size + 1 ∉ blks qa ta la := fun e => by have := hB _ e; omega
  have hz0 : w.heap.size + 1 < W0.heap.size := b1.lt
  have KW := Lib.hid kw; have B0 := Lib.hid b0; have B1 := Lib.hid b1; have HD := Lib.hid hd; have HA := Lib.hid hA; have HB := Lib.hid hB
  have OA := Lib.hid (h.kp kw (by simp)); have OB := Lib.hid (k.kp kw (by simp))
  have NA0 := Lib.hid nA0; have NA1 := Lib.hid nA1; have NB0 := Lib.hid nB0; have NB1 := Lib.hid nB1
  have HF := Lib.hid hf; have KF := Lib.hid kf
  have HW0 := Lib.hid hW0
  clear h k hd kw b0 b1 hA hB nA0 nA1 nB0 nB1 hf kf hW0
  go_enter Try.func27, Try.ntmps27
  go_wp2_with fail
  rw [← HW0.out]
  refine (spoil_at 1 1 rfl OA.out HF.out rfl rfl rfl).mono ?_
  rintro e w1 ⟨rfl, oA, k1⟩
  have K1 := Lib.hid k1; have OA1 := Lib.hid oA
  have OB1 := Lib.hid (OB.out.kp k1 (fun g hg e => HD.out g e hg))
  have B01 := Lib.hid (B0.out.kp k1 NA0.out); have B11 := Lib.hid (B1.out.kp k1 NA1.out)
  obtain ⟨c1, c2, c3, -, -, -, g1⟩ := LtI.facts B01.out
  obtain ⟨d1, d2, d3, -, -, -, g2⟩ := LtI.facts B11.out
  have z1 := k1.size
  clear oA k1
  go_wp2_with fail
  refine (spoil_at 2 2 rfl OB1.out KF.out rfl rfl rfl).mono ?_
  rintro e w2 ⟨rfl, oB, k2⟩
  have K2 := Lib.hid k2; have OB2 := Lib.hid oB
  have OA2 := Lib.hid (OA1.out.kp k2 HD.out)
  have B02 := Lib.hid (B01.out.kp k2 NB0.out); have B12 := Lib.hid (B11.out.kp k2 NB1.out)
  clear c1 c2 c3 d1 d2 d3 g1 g2
  obtain ⟨c1, c2, c3, -, -, -, g1⟩ := LtI.facts B02.out
  obtain ⟨d1, d2, d3, -, -, -, g2⟩ := LtI.facts B12.out
  have z2 := k2.size
  have FA : Hid (NdFew (n.spoilt 1)) := Lib.hid ⟨by simpa [Nd.spoilt] using fp, by simpa [Nd.spoilt] using fs, by simpa [Nd.spoilt] using fk⟩
  have FB : Hid (NdFew (m.spoilt 2)) := Lib.hid ⟨by simpa [Nd.spoilt] using gp, by simpa [Nd.spoilt] using gs, by simpa [Nd.spoilt] using gk⟩
  clear oB k2
  go_wp2_with fail
  refine (grown_at 1 1 rfl OA2.out (by omega) FA.out (by simp [Nd.spoilt]) (by simp [Nd.spoilt]) (by simp [Nd.spoilt])).mono ?_
  rintro e w3 ⟨xa, xb, xc, ya, yb, yc, rfl, oX, nA, k3, hX⟩
  have K3 := Lib.hid k3
  have OX := Lib.hid (oX.kp ((Kp.refl [] w3).alloc (.cells #[.slice xa (n.pairs.length + 40) ya, .slice xb (n.seps.length + 40) yb, .slice xc (n.kids.length + 40) yc] 30)) (by simp))
  have NA3 := Lib.hid (nA.kp0 ((Kp.refl [] w3).alloc (.cells #[.slice xa (n.pairs.length + 40) ya, .slice xb (n.seps.length + 40) yb, .slice xc (n.kids.length + 40) yc] 30)))
  have OB3 := Lib.hid ((OB2.out.kp k3 (fun g hg e => HD.out g e hg)).kp ((Kp.refl [] w3).alloc (.cells #[.slice xa (n.pairs.length + 40) ya, .slice xb (n.seps.length + 40) yb, .slice xc (n.kids.length + 40) yc] 30)) (by simp))
  have B03 := Lib.hid (B02.out.kp k3 NA0.out); have B13 := Lib.hid (B12.out.kp k3 NA1.out)
  have HX := Lib.hid hX
  clear c1 c2 c3 d1 d2 d3 g1 g2
  obtain ⟨c1, c2, c3, -, -, -, g1⟩ := LtI.facts B03.out
  obtain ⟨d1, d2, d3, -, -, -, g2⟩ := LtI.facts B13.out
  have z3 := k3.size
  clear oX nA k3 hX
  go_wp2_with fail
  refine (grown_at 2 2 rfl OB3.out (by simp; omega) FB.out (by simp [Nd.spoilt]) (by simp [Nd.spoilt]) (by simp [Nd.spoilt])).mono ?_
  rintro e w4 ⟨ua, ub, uc, va, vb, vc, rfl, oY, nB, k4, hY⟩
  have K4 := Lib.hid k4
  have z4 := k4.size
  have z3' : (w3.alloc (.cells #[.slice xa (n.pairs.length + 40) ya, .slice xb (n.seps.length + 40) yb, .slice xc (n.kids.length + 40) yc] 30)).heap.size = w3.heap.size + 1 := by simp
  have nx : ∀ g ∈ blks xa xb xc, g ∉ blks qa ta la := fun g hg e => by
    rcases HX.out g hg with h1 | h1
    · exact HD.out g h1 e
    · have := HB.out g e; have := K1.out.size; omega
  have nX5 : w3.heap.size ∉ blks qa ta la := fun e => by have := HB.out _ e; have := K1.out.size; omega
  have OX4 := Lib.hid ((OX.out.kp k4 nx).kp ((Kp.refl [] w4).alloc (.cells #[.slice ua (m.pairs.length + 40) va, .slice ub (m.seps.length + 40) vb, .slice uc (m.kids.length + 40) vc] 30)) (by simp))
  have OY4 := Lib.hid (oY.kp ((Kp.refl [] w4).alloc (.cells #[.slice ua (m.pairs.length + 40) va, .slice ub (m.seps.length + 40) vb, .slice uc (m.kids.length + 40) vc] 30)) (by simp))
  have hdA : ∀ a, a = pa ∨ a = sa ∨ a = ka → ∀ g ∈ ab a, g ∉ blks qa ta la := fun a ha g hg => HD.out g (by simp only [blks, List.mem_append]; rcases ha with rfl | rfl | rfl <;> simp [hg])
  have NA4 := Lib.hid ((NA3.out.kp k4 (hdA pa (.inl rfl)) (hdA sa (.inr (.inl rfl))) (hdA ka (.inr (.inr rfl)))).kp0 ((Kp.refl [] w4).alloc (.cells #[.slice ua (m.pairs.length + 40) va, .slice ub (m.seps.length + 40) vb, .slice uc (m.kids.length + 40) vc] 30)))
  have NB4 := Lib.hid (nB.kp0 ((Kp.refl [] w4).alloc (.cells #[.slice ua (m.pairs.length + 40) va, .slice ub (m.seps.length + 40) vb, .slice uc (m.kids.length + 40) vc] 30)))
  have B04 := Lib.hid ((B03.out.alloc (.cells #[.slice xa (n.pairs.length + 40) ya, .slice xb (n.seps.length + 40) yb, .slice xc (n.kids.length + 40) yc] 30)).kp k4 NB0.out); have B14 := Lib.hid ((B13.out.alloc (.cells #[.slice xa (n.pairs.length + 40) ya, .slice xb (n.seps.length + 40) yb, .slice xc (n.kids.length + 40) yc] 30)).kp k4 NB1.out)
  have B54 := Lib.hid ((Blk.new w3 30 #[.slice xa (n.pairs.length + 40) ya, .slice xb (n.seps.length + 40) yb, .slice xc (n.kids.length + 40) yc]).kp k4 nX5)
  clear c1 c2 c3 d1 d2 d3 g1 g2
  obtain ⟨c1, c2, c3, -, -, -, g1⟩ := LtI.facts B04.out
  obtain ⟨d1, d2, d3, -, -, -, g2⟩ := LtI.facts B14.out
  obtain ⟨f1, f2, f3, -, -, -, g3⟩ := LtI.facts B54.out
  have M1 := Lib.hid (MkN.of 1 n 40); have M2 := Lib.hid (MkN.of 2 m 40)
  have ys0 : ∀ (mark : UInt8) (x : Nd), x.app (Nd.ys mark 0) = x := fun mark x => by simp [Nd.app, Nd.ys]
  have M3 := Lib.hid (show MkN 1 (n.spoilt 1) n.pairs.length n.seps.length n.kids.length by have := MkN.of 1 n 0; rwa [ys0] at this)
  have M4 := Lib.hid (show MkN 2 (m.spoilt 2) m.pairs.length m.seps.length m.kids.length by have := MkN.of 2 m 0; rwa [ys0] at this)
  clear oY nB k4 nx nX5 hdA ys0 hY
  go_wp2_with fail
  refine (marked_at 1 1 rfl OX4.out.at M1.out (by simp [Nd.app, Nd.ys, Nd.spoilt]; omega) (by simp [Nd.app, Nd.ys, Nd.spoilt]; omega) (by simp [Nd.app, Nd.ys, Nd.spoilt]; omega) (by omega) (by omega) (by omega) (by simp [Nd.app, Nd.ys, Nd.spoilt]) (by simp [Nd.app, Nd.ys, Nd.spoilt]) (by simp [Nd.app, Nd.ys, Nd.spoilt])).mono ?_
  rintro e w' ⟨rfl, bs1, m1, rfl⟩
  go_wp2_with fail
  refine (marked_at 2 2 rfl (OY4.out.at.kp0 ((Kp.refl [] _).ext _ _)) M2.out (by simp [Nd.app, Nd.ys, Nd.spoilt]; omega) (by simp [Nd.app, Nd.ys, Nd.spoilt]; omega) (by simp [Nd.app, Nd.ys, Nd.spoilt]; omega) (by omega) (by omega) (by omega) (by simp [Nd.app, Nd.ys, Nd.spoilt]) (by simp [Nd.app, Nd.ys, Nd.spoilt]) (by simp [Nd.app, Nd.ys, Nd.spoilt])).mono ?_
  rintro e w' ⟨rfl, bs2, m2, rfl⟩
  go_wp2_with fail
  refine (marked_at 1 1 rfl (NA4.out.kp0 ((Kp.refl [] _).ext _ _)) M3.out (by simp [Nd.spoilt]; omega) (by simp [Nd.spoilt]; omega) (by simp [Nd.spoilt]; omega) (by omega) (by omega) (by omega) (by simp [Nd.spoilt]) (by simp [Nd.spoilt]) (by simp [Nd.spoilt])).mono ?_
  rintro e w' ⟨rfl, bs3, m3, rfl⟩
  go_wp2_with fail
  refine (marked_at 2 2 rfl (NB4.out.kp0 ((Kp.refl [] _).ext _ _)) M4.out (by simp [Nd.spoilt]; omega) (by simp [Nd.spoilt]; omega) (by simp [Nd.spoilt]; omega) (by omega) (by omega) (by omega) (by simp [Nd.spoilt]) (by simp [Nd.spoilt]) (by simp [Nd.spoilt])).mono ?_
  rintro e w' ⟨rfl, bs4, m4, rfl⟩
  go_wp2_with fail
  go_ret
  refine ⟨rfl, ?_⟩
  have kk : Kp (blks pa sa ka ++ blks qa ta la) w w4 := ((((KW.out.of_nil).trans (K1.out.mono (fun _ _ h => by simp [h]))).trans (K2.out.mono (fun _ _ h => by simp [h]))).trans (K3.out.mono (fun _ _ h => by simp [h]))).trans (((Kp.refl _ w3).alloc _).trans (K4.out.mono (fun _ _ h => by simp [h])))
  exact (kk.alloc _).ext _ _

end Go.Proofs.Ytemicgccgcmmbaa

/- slices.Equal of pairs, texts and kids; node.Same. -/
namespace Go.Proofs.Ytemicgccgcmmbaa
set_option linter.unusedVariables false
set_option linter.unusedSimpArgs false
open Go Go.RowKit

set_option maxHeartbeats 1000000 in set_option maxRecDepth 100000 in
theorem equal_pair (a b : Option Addr) (c d : Nat) (x y : List Pr) (w : World) (hx : PsAt w a x) (hy : PsAt w b y) (lx : x.length ≤ 8796093022208) (ly : y.length ≤ 8796093022208) :
    Calls Try.prog 47 #[.slice a x.length c, .slice b y.length d] w (Rets (.bool (decide (x = y))) w) := by
  have HX := Lib.hid hx; have HY := Lib.hid hy; clear hx hy
  by_cases h1 : x.length = y.length
  case neg =>
    have hb : ((x.length : Int) != (y.length : Int)) = true := by simp only [bne_iff_ne, ne_eq]; omega
    have HF : Hid (decide (x = y) = false) := decide_eq_false (fun h => h1 (by rw [h]))
    clear h1
    go_enter Try.func47, Try.ntmps47
    go_wp2_with fail
    go_ret
    rw [HF.out]
    exact ⟨rfl, [], 0, ext_zero _⟩
  have hb1 : ((x.length : Int) != (y.length : Int)) = false := by simp only [bne_eq_false_iff_eq]; omega
  have g1 : x.length ≤ y.length := by omega
  have g1' : y.length ≤ x.length := by omega
  clear h1
  go_enter Try.func47, Try.ntmps47
  go_wp2_with fail
  clear hb1
  go_loopw [4, 5, 13] (fun _ _ i wr => ∃ k bs n, i = .int .i64 (k : Nat) ∧ k ≤ x.length ∧ wr = ext w bs n ∧ Hid (x.take k = y.take k)) (fun _ _ i _ => x.length - (intOf i).toNat)
  case atStart => exact ⟨0, [], 0, rfl, Nat.zero_le _, ext_zero _, by simp [Hid]⟩
  case round =>
    obtain ⟨k, bs, n, rfl, hk, rfl, HE⟩ := hrel
    by_cases hlt : k < x.length
    · obtain ⟨p, hp⟩ : ∃ p, x[k]? = some p := ⟨_, List.getElem?_eq_getElem hlt⟩
      obtain ⟨q, hq⟩ : ∃ q, y[k]? = some q := ⟨_, List.getElem?_eq_getElem (by omega)⟩
      obtain ⟨b, o, rfl, hb, cf1, cf2⟩ := HX.out k p hp
      obtain ⟨b', o', rfl, hb', cg1, cg2⟩ := HY.out k q hq
      have HP := Lib.hid hp; have HQ := Lib.hid hq; clear hp hq
      rcases hd : prEq p.1 p.2 q.1 q.2 with _ | _
      · have HF : Hid (decide (x = y) = false) := decide_eq_false (ne_at HP.out HQ.out (fun e => by rw [prEq_iff.2 e] at hd; cases hd))
        go_wp2_with fail
        refine wp_region_ext (by kernel_rfl) (by kernel_rfl) ?_
        repeat (go_big_quiet_step (fail))
        (refine wpQuiet_nil ?_; intro _ hw'; obtain ⟨⟨bsq, nq⟩, hw''⟩ := hw'; subst hw'')
        go_wp2_with fail
        go_ret
        rw [HF.out]
        exact ⟨rfl, by (try simp only [alloc_ext, drew_ext, drewN_ext, ext_ext]); exact ⟨_, _, rfl⟩⟩
      · have HE' : Hid (x.take (k + 1) = y.take (k + 1)) := Lib.hid (take_eq_step HE.out HP.out HQ.out (prEq_iff.1 hd))
        go_wp2_with fail
        refine wp_region_ext (by kernel_rfl) (by kernel_rfl) ?_
        repeat (go_big_quiet_step (fail))
        (refine wpQuiet_nil ?_; intro _ hw'; obtain ⟨⟨bsq, nq⟩, hw''⟩ := hw'; subst hw'')
        go_wp2_with fail
        go_roundw
        case rel => exact ⟨k + 1, _, _, by go_num, by omega, by (try simp only [ext_alloc, ext_drew, ext_drewN, ext_ext]); rfl, HE'⟩
        case measure => simp [intOf]; omega
    · have HF : Hid (decide (x = y) = true) := Lib.hid (decide_eq_true (by have := HE.out; rwa [List.take_of_length_le (by omega), List.take_of_length_le (by omega)] at this))
      go_wp2_with fail
      go_ret
      rw [HF.out]
      exact ⟨rfl, by (try simp only [alloc_ext, drew_ext, drewN_ext, ext_ext]); exact ⟨_, _, rfl⟩⟩

set_option maxHeartbeats 1000000 in set_option maxRecDepth 100000 in
theorem equal_text (a b : Option Addr) (c d : Nat) (x y : List Bs) (w : World) (hx : SsAt w a x) (hy : SsAt w b y) (lx : x.length ≤ 8796093022208) (ly : y.length ≤ 8796093022208) :
    Calls Try.prog 48 #[.slice a x.length c, .slice b y.length d] w (Rets (.bool (decide (x = y))) w) := by
  have HX := Lib.hid hx; have HY := Lib.hid hy; clear hx hy
  by_cases h1 : x.length = y.length
  case neg =>
    have hb : ((x.length : Int) != (y.length : Int)) = true := by simp only [bne_iff_ne, ne_eq]; omega
    have HF : Hid (decide (x = y) = false) := decide_eq_false (fun h => h1 (by rw [h]))
    clear h1
    go_enter Try.func48, Try.ntmps48
    go_wp2_with fail
    go_ret
    rw [HF.out]
    exact ⟨rfl, [], 0, ext_zero _⟩
  have hb1 : ((x.length : Int) != (y.length : Int)) = false := by simp only [bne_eq_false_iff_eq]; omega
  have g1 : x.length ≤ y.length := by omega
  have g1' : y.length ≤ x.length := by omega
  clear h1
  go_enter Try.func48, Try.ntmps48
  go_wp2_with fail
  clear hb1
  go_loopw [4, 5, 13] (fun _ _ i wr => ∃ k bs n, i = .int .i64 (k : Nat) ∧ k ≤ x.length ∧ wr = ext w bs n ∧ Hid (x.take k = y.take k)) (fun _ _ i _ => x.length - (intOf i).toNat)
  case atStart => exact ⟨0, [], 0, rfl, Nat.zero_le _, ext_zero _, by simp [Hid]⟩
  case round =>
    obtain ⟨k, bs, n, rfl, hk, rfl, HE⟩ := hrel
    by_cases hlt : k < x.length
    · obtain ⟨p, hp⟩ : ∃ p, x[k]? = some p := ⟨_, List.getElem?_eq_getElem hlt⟩
      obtain ⟨q, hq⟩ : ∃ q, y[k]? = some q := ⟨_, List.getElem?_eq_getElem (by omega)⟩
      obtain ⟨b, o, rfl, hb, cf1⟩ := HX.out k p hp
      obtain ⟨b', o', rfl, hb', cg1⟩ := HY.out k q hq
      have HP := Lib.hid hp; have HQ := Lib.hid hq; clear hp hq
      rcases hd : (p == q) with _ | _
      · have HF : Hid (decide (x = y) = false) := decide_eq_false (ne_at HP.out HQ.out (by simpa using hd))
        go_wp2_with fail
        refine wp_region_ext (by kernel_rfl) (by kernel_rfl) ?_
        repeat (go_big_quiet_step (fail))
        (refine wpQuiet_nil ?_; intro _ hw'; obtain ⟨⟨bsq, nq⟩, hw''⟩ := hw'; subst hw'')
        go_wp2_with fail
        go_ret
        rw [HF.out]
        exact ⟨rfl, by (try simp only [alloc_ext, drew_ext, drewN_ext, ext_ext]); exact ⟨_, _, rfl⟩⟩
      · have HE' : Hid (x.take (k + 1) = y.take (k + 1)) := Lib.hid (take_eq_step HE.out HP.out HQ.out (by simpa using hd))
        go_wp2_with fail
        refine wp_region_ext (by kernel_rfl) (by kernel_rfl) ?_
        repeat (go_big_quiet_step (fail))
        (refine wpQuiet_nil ?_; intro _ hw'; obtain ⟨⟨bsq, nq⟩, hw''⟩ := hw'; subst hw'')
        go_wp2_with fail
        go_roundw
        case rel => exact ⟨k + 1, _, _, by go_num, by omega, by (try simp only [ext_alloc, ext_drew, ext_drewN, ext_ext]); rfl, HE'⟩
        case measure => simp [intOf]; omega
    · have HF : Hid (decide (x = y) = true) := Lib.hid (decide_eq_true (by have := HE.out; rwa [List.take_of_length_le (by omega), List.take_of_length_le (by omega)] at this))
      go_wp2_with fail
      go_ret
      rw [HF.out]
      exact ⟨rfl, by (try simp only [alloc_ext, drew_ext, drewN_ext, ext_ext]); exact ⟨_, _, rfl⟩⟩

set_option maxHeartbeats 1000000 in set_option maxRecDepth 100000 in
theorem equal_kid (a b : Option Addr) (c d : Nat) (x y : List Kd) (w : World) (hx : KsAt w a x) (hy : KsAt w b y) (lx : x.length ≤ 8796093022208) (ly : y.length ≤ 8796093022208) :
    Calls Try.prog 49 #[.slice a x.length c, .slice b y.length d] w (Rets (.bool (decide (x = y))) w) := by
  have HX := Lib.hid hx; have HY := Lib.hid hy; clear hx hy
  by_cases h1 : x.length = y.length
  case neg =>
    have hb : ((x.length : Int) != (y.length : Int)) = true := by simp only [bne_iff_ne, ne_eq]; omega
    have HF : Hid (decide (x = y) = false) := decide_eq_false (fun h => h1 (by rw [h]))
    clear h1
    go_enter Try.func49, Try.ntmps49
    go_wp2_with fail
    go_ret
    rw [HF.out]
    exact ⟨rfl, [], 0, ext_zero _⟩
  have hb1 : ((x.length : Int) != (y.length : Int)) = false := by simp only [bne_eq_false_iff_eq]; omega
  have g1 : x.length ≤ y.length := by omega
  have g1' : y.length ≤ x.length := by omega
  clear h1
  go_enter Try.func49, Try.ntmps49
  go_wp2_with fail
  clear hb1
  go_loopw [4, 5, 13] (fun _ _ i wr => ∃ k bs n, i = .int .i64 (k : Nat) ∧ k ≤ x.length ∧ wr = ext w bs n ∧ Hid (x.take k = y.take k)) (fun _ _ i _ => x.length - (intOf i).toNat)
  case atStart => exact ⟨0, [], 0, rfl, Nat.zero_le _, ext_zero _, by simp [Hid]⟩
  case round =>
    obtain ⟨k, bs, n, rfl, hk, rfl, HE⟩ := hrel
    by_cases hlt : k < x.length
    · obtain ⟨p, hp⟩ : ∃ p, x[k]? = some p := ⟨_, List.getElem?_eq_getElem hlt⟩
      obtain ⟨q, hq⟩ : ∃ q, y[k]? = some q := ⟨_, List.getElem?_eq_getElem (by omega)⟩
      obtain ⟨b, o, rfl, hb, r1⟩ := HX.out k p hp
      obtain ⟨b', o', rfl, hb', r2⟩ := HY.out k q hq
      have HP := Lib.hid hp; have HQ := Lib.hid hq; clear hp hq
      rcases hd : decide (p = q) with _ | _
      · have HF : Hid (decide (x = y) = false) := decide_eq_false (ne_at HP.out HQ.out (by simpa using hd))
        go_wp2_with fail
        refine wp_region_ext (by kernel_rfl) (by kernel_rfl) ?_
        repeat (go_big_quiet_step (fail))
        (refine wpQuiet_nil ?_; intro _ hw'; obtain ⟨⟨bsq, nq⟩, hw''⟩ := hw'; subst hw'')
        go_wp2_with fail
        go_ret
        rw [HF.out]
        exact ⟨rfl, by (try simp only [alloc_ext, drew_ext, drewN_ext, ext_ext]); exact ⟨_, _, rfl⟩⟩
      · have HE' : Hid (x.take (k + 1) = y.take (k + 1)) := Lib.hid (take_eq_step HE.out HP.out HQ.out (by simpa using hd))
        go_wp2_with fail
        refine wp_region_ext (by kernel_rfl) (by kernel_rfl) ?_
        repeat (go_big_quiet_step (fail))
        (refine wpQuiet_nil ?_; intro _ hw'; obtain ⟨⟨bsq, nq⟩, hw''⟩ := hw'; subst hw'')
        go_wp2_with fail
        go_roundw
        case rel => exact ⟨k + 1, _, _, by go_num, by omega, by (try simp only [ext_alloc, ext_drew, ext_drewN, ext_ext]); rfl, HE'⟩
        case measure => simp [intOf]; omega
    · have HF : Hid (decide (x = y) = true) := Lib.hid (decide_eq_true (by have := HE.out; rwa [List.take_of_length_le (by omega), List.take_of_length_le (by omega)] at this))
      go_wp2_with fail
      go_ret
      rw [HF.out]
      exact ⟨rfl, by (try simp only [alloc_ext, drew_ext, drewN_ext, ext_ext]); exact ⟨_, _, rfl⟩⟩

theorem nd_dec (x y : Nd) : decide (x = y) = (decide (x.pairs = y.pairs) && (decide (x.seps = y.seps) && decide (x.kids = y.kids))) := by
  obtain ⟨a, b, c⟩ := x; obtain ⟨a', b', c'⟩ := y
  rw [Bool.eq_iff_iff]; simp

set_option maxHeartbeats 1000000 in set_option maxRecDepth 100000 in
theorem nodeSame_any (pa sa ka qa ta la : Option Addr) (pc sc kc qc tc lc : Nat) (x y : Nd) (w : World) (hx : NdAt w pa sa ka x) (hy : NdAt w qa ta la y) (ox : NdOk x) (oy : NdOk y) :
    Calls Try.prog 23 #[.agg #[.slice pa x.pairs.length pc, .slice sa x.seps.length sc, .slice ka x.kids.length kc], .agg #[.slice qa y.pairs.length qc, .slice ta y.seps.length tc, .slice la y.kids.length lc]] w
      (Rets (.bool (decide (x = y))) w) := by
  have HX := Lib.hid hx; have HY := Lib.hid hy; clear hx hy
  have np := ox.np; have ns := ox.ns; have nk := ox.nk
  have mp := oy.np; have ms := oy.ns; have mk := oy.nk
  clear ox oy
  rcases h1 : decide (x.pairs = y.pairs) with _ | _
  · have HF : Hid (decide (x = y) = false) := Lib.hid (by rw [nd_dec, h1]; rfl)
    have H1 := Lib.hid h1; clear h1
    go_enter Try.func23, Try.ntmps23
    go_wp2_with fail
    refine (equal_pair _ _ _ _ x.pairs y.pairs _ (PsAt.kp HX.out.ps ((Kp.refl [] _).alloc _ |>.alloc _) (by simp)) (PsAt.kp HY.out.ps ((Kp.refl [] _).alloc _ |>.alloc _) (by simp)) (by omega) (by omega)).mono ?_
    rintro e w' ⟨rfl, bs, m, rfl⟩
    rw [H1.out]
    go_wp2_with fail
    go_ret
    rw [HF.out]
    exact ⟨rfl, by (try simp only [alloc_ext, drew_ext, drewN_ext, ext_ext]); exact ⟨_, _, rfl⟩⟩
  rcases h2 : decide (x.seps = y.seps) with _ | _
  · have HF : Hid (decide (x = y) = false) := Lib.hid (by rw [nd_dec, h1, h2]; rfl)
    have H1 := Lib.hid h1; have H2 := Lib.hid h2; clear h1 h2
    go_enter Try.func23, Try.ntmps23
    go_wp2_with fail
    refine (equal_pair _ _ _ _ x.pairs y.pairs _ (PsAt.kp HX.out.ps ((Kp.refl [] _).alloc _ |>.alloc _) (by simp)) (PsAt.kp HY.out.ps ((Kp.refl [] _).alloc _ |>.alloc _) (by simp)) (by omega) (by omega)).mono ?_
    rintro e w' ⟨rfl, bs, m, rfl⟩
    rw [H1.out]
    go_wp2_with fail
    refine (equal_text _ _ _ _ x.seps y.seps _ (SsAt.kp HX.out.ss ((Kp.refl [] _).alloc _ |>.alloc _ |>.ext _ _) (by simp)) (SsAt.kp HY.out.ss ((Kp.refl [] _).alloc _ |>.alloc _ |>.ext _ _) (by simp)) (by omega) (by omega)).mono ?_
    rintro e w' ⟨rfl, bs2, m2, rfl⟩
    rw [H2.out]
    go_wp2_with fail
    go_ret
    rw [HF.out]
    exact ⟨rfl, by (try simp only [alloc_ext, drew_ext, drewN_ext, ext_ext]); exact ⟨_, _, rfl⟩⟩
  have HF : Hid (decide (x = y) = decide (x.kids = y.kids)) := Lib.hid (by rw [nd_dec, h1, h2]; rfl)
  have H1 := Lib.hid h1; have H2 := Lib.hid h2; clear h1 h2
  go_enter Try.func23, Try.ntmps23
  go_wp2_with fail
  refine (equal_pair _ _ _ _ x.pairs y.pairs _ (PsAt.kp HX.out.ps ((Kp.refl [] _).alloc _ |>.alloc _) (by simp)) (PsAt.kp HY.out.ps ((Kp.refl [] _).alloc _ |>.alloc _) (by simp)) (by omega) (by omega)).mono ?_
  rintro e w' ⟨rfl, bs, m, rfl⟩
  rw [H1.out]
  go_wp2_with fail
  refine (equal_text _ _ _ _ x.seps y.seps _ (SsAt.kp HX.out.ss ((Kp.refl [] _).alloc _ |>.alloc _ |>.ext _ _) (by simp)) (SsAt.kp HY.out.ss ((Kp.refl [] _).alloc _ |>.alloc _ |>.ext _ _) (by simp)) (by omega) (by omega)).mono ?_
  rintro e w' ⟨rfl, bs2, m2, rfl⟩
  rw [H2.out]
  go_wp2_with fail
  refine (equal_kid _ _ _ _ x.kids y.kids _ (KsAt.kp HX.out.ks ((Kp.refl [] _).alloc _ |>.alloc _ |>.ext _ _) (by simp)) (KsAt.kp HY.out.ks ((Kp.refl [] _).alloc _ |>.alloc _ |>.ext _ _) (by simp)) (by omega) (by omega)).mono ?_
  rintro e w' ⟨rfl, bs3, m3, rfl⟩
  rw [← HF.out]
  go_wp2_with fail
  go_ret
  exact ⟨rfl, by (try simp only [alloc_ext, drew_ext, drewN_ext, ext_ext]); exact ⟨_, _, rfl⟩⟩

end Go.Proofs.Ytemicgccgcmmbaa

/- slices.Clone. -/
namespace Go.Proofs.Ytemicgccgcmmbaa
set_option linter.unusedVariables false
set_option linter.unusedSimpArgs false
open Go Go.RowKit

/-- A list of its own. -/
def ClonePost (e : TypeId) (size n : Nat) (xs : List Value) (w : World) (en : Ending) (w' : World) : Prop :=
  ∃ a c, en = .returned (.slice a n c) ∧ Own w' e size a n c xs ∧ Kp [] w w' ∧ ∀ g ∈ ab a, w.heap.size ≤ g

set_option maxHeartbeats 1000000 in set_option maxRecDepth 100000 in
theorem clone_pair (a : Option Addr) (c : Nat) (l : List Pr) (w : World) (h : PsAt w a l) (hl : l.length ≤ 4398046511104) :
    Calls Try.prog 43 #[.slice a l.length c] w (ClonePost 48 2 l.length (l.flatMap csP) w) := by
  cases a with
  | none =>
    have h0 : l = [] := by
      cases l with
      | nil => rfl
      | cons x t => obtain ⟨b, o, ha, _⟩ := h 0 x rfl; cases ha
    subst h0
    clear h hl
    go_enter Try.func43, Try.ntmps43
    go_wp2_with fail
    go_ret
    exact ⟨none, 0, rfl, Own.nil _ _ _, Kp.refl _ _, by simp [ab]⟩
  | some ad =>
    have hs := src_pairs (PsAt.kp h ((Kp.refl [] w).alloc (.cells #[] 48)) (by simp)) c
    have HS := Lib.hid hs
    have HO := Lib.hid (own_empty (w := w) (e := 48) (size := 2) rfl)
    clear h hs
    go_enter Try.func43, Try.ntmps43
    go_wp2_with (at_builtin; refine wpList_app_pair rfl rfl rfl HO.out l.length (l.flatMap csP) HS.out (by omega) ?_; intro a' c' w' o' k' n'; have O := Lib.hid o'; have K := Lib.hid k'; have N := Lib.hid n'; clear o' k' n')
    go_ret
    refine ⟨a', c', rfl, by have := O.out; simpa using this, ?_, ?_⟩
    · refine ((Kp.refl [] w).alloc _).from K.out (fun x hx => .inl ?_)
      simp [ab] at hx; omega
    · intro g hg
      rcases N.out g hg with h | h
      · simp [ab] at h; omega
      · simp at h; omega
set_option maxHeartbeats 1000000 in set_option maxRecDepth 100000 in
theorem clone_text (a : Option Addr) (c : Nat) (l : List Bs) (w : World) (h : SsAt w a l) (hl : l.length ≤ 8796093022208) :
    Calls Try.prog 44 #[.slice a l.length c] w (ClonePost 9 1 l.length (l.flatMap csS) w) := by
  cases a with
  | none =>
    have h0 : l = [] := by
      cases l with
      | nil => rfl
      | cons x t => obtain ⟨b, o, ha, _⟩ := h 0 x rfl; cases ha
    subst h0
    clear h hl
    go_enter Try.func44, Try.ntmps44
    go_wp2_with fail
    go_ret
    exact ⟨none, 0, rfl, Own.nil _ _ _, Kp.refl _ _, by simp [ab]⟩
  | some ad =>
    have hs := src_texts (SsAt.kp h ((Kp.refl [] w).alloc (.cells #[] 9)) (by simp)) c
    have HS := Lib.hid hs
    have HO := Lib.hid (own_empty (w := w) (e := 9) (size := 1) rfl)
    clear h hs
    go_enter Try.func44, Try.ntmps44
    go_wp2_with (at_builtin; refine wpList_app_str rfl rfl rfl HO.out l.length (l.flatMap csS) HS.out (by omega) ?_; intro a' c' w' o' k' n'; have O := Lib.hid o'; have K := Lib.hid k'; have N := Lib.hid n'; clear o' k' n')
    go_ret
    refine ⟨a', c', rfl, by have := O.out; simpa using this, ?_, ?_⟩
    · refine ((Kp.refl [] w).alloc _).from K.out (fun x hx => .inl ?_)
      simp [ab] at hx; omega
    · intro g hg
      rcases N.out g hg with h | h
      · simp [ab] at h; omega
      · simp at h; omega
set_option maxHeartbeats 1000000 in set_option maxRecDepth 100000 in
theorem clone_kid (a : Option Addr) (c : Nat) (l : List Kd) (w : World) (h : KsAt w a l) (hl : l.length ≤ 3909374676453) :
    Calls Try.prog 45 #[.slice a l.length c] w (ClonePost 42 33 l.length (l.flatMap csK) w) := by
  cases a with
  | none =>
    have h0 : l = [] := by
      cases l with
      | nil => rfl
      | cons x t => obtain ⟨b, o, ha, _⟩ := h 0 x rfl; cases ha
    subst h0
    clear h hl
    go_enter Try.func45, Try.ntmps45
    go_wp2_with fail
    go_ret
    exact ⟨none, 0, rfl, Own.nil _ _ _, Kp.refl _ _, by simp [ab]⟩
  | some ad =>
    have hs := src_kids (KsAt.kp h ((Kp.refl [] w).alloc (.cells #[] 42)) (by simp)) c
    have HS := Lib.hid hs
    have HO := Lib.hid (own_empty (w := w) (e := 42) (size := 33) rfl)
    clear h hs
    go_enter Try.func45, Try.ntmps45
    go_wp2_with (at_builtin; refine wpList_app_kid rfl rfl rfl HO.out l.length (l.flatMap csK) HS.out (by omega) ?_; intro a' c' w' o' k' n'; have O := Lib.hid o'; have K := Lib.hid k'; have N := Lib.hid n'; clear o' k' n')
    go_ret
    refine ⟨a', c', rfl, by have := O.out; simpa using this, ?_, ?_⟩
    · refine ((Kp.refl [] w).alloc _).from K.out (fun x hx => .inl ?_)
      simp [ab] at hx; omega
    · intro g hg
      rcases N.out g hg with h | h
      · simp [ab] at h; omega
      · simp at h; omega
end Go.Proofs.Ytemicgccgcmmbaa

/- node.Copy: a node in lists of its own. -/
namespace Go.Proofs.Ytemicgccgcmmbaa
set_option linter.unusedVariables false
set_option linter.unusedSimpArgs false
open Go Go.RowKit

set_option maxHeartbeats 4000000 in
set_option maxRecDepth 100000 in
theorem copy_any (pa sa ka : Option Addr) (pc sc kc : Nat) (n : Nd) (w : World) (h : NdAt w pa sa ka n) (ho : NdOk n) :
    Calls Try.prog 21 #[.agg #[.slice pa n.pairs.length pc, .slice sa n.seps.length sc, .slice ka n.kids.length kc]] w (CopyPost n w) := by
  have hnp := ho.np; have hns := ho.ns; have hnk := ho.nk
  clear ho
  obtain ⟨W0, hW0⟩ : ∃ W0, W0 = (w.alloc (.cells #[.slice pa n.pairs.length pc, .slice sa n.seps.length sc, .slice ka n.kids.length kc] 30)).alloc (.cells #[.slice none 0 0, .slice none 0 0, .slice none 0 0] 30) := ⟨_, rfl⟩
  have kw : Kp [] w W0 := by rw [hW0]; exact ((Kp.refl [] w).alloc _).alloc _
  have b0 : Blk W0 w.heap.size 30 #[.slice pa n.pairs.length pc, .slice sa n.seps.length sc, .slice ka n.kids.length kc] := by rw [hW0]; exact (Blk.new w _ _).alloc _
  have b1 : Blk W0 (w.heap.size + 1) 30 #[.slice none 0 0, .slice none 0 0, .slice none 0 0] := by
    rw [hW0]
    have h := Blk.new (w.alloc (.cells #[.slice pa n.pairs.length pc, .slice sa n.seps.length sc, .slice ka n.kids.length kc] 30)) 30 #[.slice none 0 0, .slice none 0 0, .slice none 0 0]
    simpa using h
  have KW := Lib.hid kw; have B1 := Lib.hid b1; have HP := Lib.hid (PsAt.kp h.ps kw (by simp)); have HS := Lib.hid (SsAt.kp h.ss kw (by simp)); have HK := Lib.hid (KsAt.kp h.ks kw (by simp))
  have SK : Hid (∀ W : World, Kp [w.heap.size + 1] W0 W → (W.cell? ⟨w.heap.size, 0, none⟩ = some (.slice pa n.pairs.length pc) ∧ W.cell? ⟨w.heap.size, 1, none⟩ = some (.slice sa n.seps.length sc) ∧ W.cell? ⟨w.heap.size, 2, none⟩ = some (.slice ka n.kids.length kc))) := Lib.hid (fun W k =>
    have c0 := b0.kp k (by simp)
    ⟨c0.cell 0, c0.cell 1, c0.cell 2⟩)
  have SB : Hid (∀ W : World, Kp [] W0 W → W.cell? ⟨w.heap.size + 1, 0, none⟩ = some (.slice none 0 0) ∧ W.cell? ⟨w.heap.size + 1, 1, none⟩ = some (.slice none 0 0) ∧ W.cell? ⟨w.heap.size + 1, 2, none⟩ = some (.slice none 0 0) ∧
      W.frozen? ⟨w.heap.size + 1, 0, none⟩ = false ∧ W.frozen? ⟨w.heap.size + 1, 1, none⟩ = false ∧ W.frozen? ⟨w.heap.size + 1, 2, none⟩ = false ∧ w.heap.size + 1 < W.heap.size) := Lib.hid (fun W k =>
    have c1 := b1.kp k (by simp)
    ⟨c1.cell 0, c1.cell 1, c1.cell 2, c1.frozen 0, c1.frozen 1, c1.frozen 2, c1.lt⟩)
  have HZ : Hid (w.heap.size + 1 < W0.heap.size) := Lib.hid b1.lt
  clear h kw b0 b1
  have HW0 := Lib.hid hW0
  clear hW0
  go_enter Try.func21, Try.ntmps21
  go_wp2_with fail
  rw [← HW0.out]
  go_region_held3 (fun W => (W.cell? ⟨w.heap.size, 0, none⟩ = some (.slice pa n.pairs.length pc) ∧ W.cell? ⟨w.heap.size, 1, none⟩ = some (.slice sa n.seps.length sc) ∧ W.cell? ⟨w.heap.size, 2, none⟩ = some (.slice ka n.kids.length kc)))
    (first | exact SK.out _ ((((KT.out.of_nil (T := [w.heap.size + 1])).setCell _ (.inr (by simp))).setCell _ (.inr (by simp))).setCell _ (.inr (by simp))) | exact SK.out _ KT.out.of_nil | exact SK.out _ ((Kp.refl _ _).drew))
    (first
      | (go_at_call 43; refine (clone_pair _ _ n.pairs _ (PsAt.kp HP.out (by first | exact KT.out | exact (Kp.refl [] _).drew) (by simp)) hnp).mono ?_; rintro e wP ⟨pb, pd, rfl, op, kp, np⟩; have OP := Lib.hid op; have KP := Lib.hid kp; have NP := Lib.hid np; have KT : Hid (Kp [] W0 wP) := Lib.hid (by first | exact KT.out.trans kp | exact ((Kp.refl [] _).drew).trans kp); have zP := kp.size; clear op kp np; obtain ⟨y0, y1, y2, y3, y4, y5, y6⟩ := SB.out _ KT.out)
      | (go_at_call 44; refine (clone_text _ _ n.seps _ (SsAt.kp HS.out (by first | exact KT.out | exact (Kp.refl [] _).drew) (by simp)) hns).mono ?_; rintro e wS ⟨sb, sd, rfl, op, kp, np⟩; have OS := Lib.hid op; have KS := Lib.hid kp; have NS := Lib.hid np; have KT : Hid (Kp [] W0 wS) := Lib.hid (by first | exact KT.out.trans kp | exact ((Kp.refl [] _).drew).trans kp); have zS := kp.size; clear op kp np; obtain ⟨y0, y1, y2, y3, y4, y5, y6⟩ := SB.out _ KT.out)
      | (go_at_call 45; refine (clone_kid _ _ n.kids _ (KsAt.kp HK.out (by first | exact KT.out | exact (Kp.refl [] _).drew) (by simp)) hnk).mono ?_; rintro e wK ⟨kb, kd, rfl, op, kp, np⟩; have OK := Lib.hid op; have KK := Lib.hid kp; have NK := Lib.hid np; have KT : Hid (Kp [] W0 wK) := Lib.hid (by first | exact KT.out.trans kp | exact ((Kp.refl [] _).drew).trans kp); have zK := kp.size; clear op kp np; obtain ⟨y0, y1, y2, y3, y4, y5, y6⟩ := SB.out _ KT.out))
  all_goals go_wp2_with fail
  all_goals
    have hd : W0.drew.heap.size = W0.heap.size := rfl
    have hf := copy_fin (w := w) (W := W0) (B := w.heap.size + 1) (n := n) (pa := pb) (sa := sb) (ka := kb) (pc := pd) (sc := sd) (kc := kd) KW.out (by omega) HZ.out (B1.out.kp KT.out (by simp)) KT.out
      (by first | exact OP.out | exact Own.kp OP.out KS.out (by simp) | exact Own.kp OP.out KK.out (by simp) | exact Own.kp OP.out (KS.out.trans KK.out) (by simp) | exact Own.kp OP.out (KK.out.trans KS.out) (by simp))
      (by first | exact OS.out | exact Own.kp OS.out KP.out (by simp) | exact Own.kp OS.out KK.out (by simp) | exact Own.kp OS.out (KP.out.trans KK.out) (by simp) | exact Own.kp OS.out (KK.out.trans KP.out) (by simp))
      (by first | exact OK.out | exact Own.kp OK.out KP.out (by simp) | exact Own.kp OK.out KS.out (by simp) | exact Own.kp OK.out (KP.out.trans KS.out) (by simp) | exact Own.kp OK.out (KS.out.trans KP.out) (by simp))
      (by
        intro g hg
        simp only [List.mem_append] at hg
        rcases hg with (h | h) | h
        · have := NP.out g h; omega
        · have := NS.out g h; omega
        · have := NK.out g h; omega)
      (by
        intro g h
        have h1 := NP.out g h; have h2 := OP.out.lt g h
        exact ⟨fun h' => by have h3 := NS.out g h'; have h4 := OS.out.lt g h'; omega, fun h' => by have h3 := NK.out g h'; have h4 := OK.out.lt g h'; omega⟩)
      (by
        intro g h h'
        have h1 := NS.out g h; have h2 := OS.out.lt g h; have h3 := NK.out g h'; have h4 := OK.out.lt g h'
        omega)
      (a := .slice pb n.pairs.length pd) (b := .slice sb n.seps.length sd) (c := .slice kb n.kids.length kd) rfl
    exact nd_ret1 (w.heap.size + 1) rfl rfl hf.1 rfl ⟨pb, sb, kb, pd, sd, kd, rfl, hf.2.1, hf.2.2⟩

end Go.Proofs.Ytemicgccgcmmbaa

/- The two nodes of 'lives', in plain words. -/
namespace Go.Proofs.Ytemicgccgcmmbaa
set_option linter.unusedVariables false
set_option linter.unusedSimpArgs false
open Go Go.RowKit

def lN : Nd := ⟨[([97], [120]), ([98], [])], [], []⟩
def bN : Nd := ⟨[], [[109]], [⟨5, Dg.pad [10, 11]⟩, ⟨9, Dg.pad [12, 13]⟩]⟩
def tS : Bs := [2, 2, 0, 0, 0, 5, 10, 11, 1, 109, 0, 0, 0, 9, 12, 13]

theorem l_size : SizeE 1024 2 lN = 9 := by decide +kernel
theorem l_pack : packE 1024 2 lN = 0 := by decide +kernel
theorem l_packS : packS 1024 2 lN = [1, 2, 1, 97, 1, 120, 1, 98, 0] := by decide +kernel
theorem b_pack : packE 1024 2 bN = 0 := by decide +kernel
theorem b_packS : packS 1024 2 bN = tS := by decide +kernel
theorem b_plain : mayE 1024 2 bN = 0 := by decide +kernel
theorem b_plainS : plainS 1024 2 bN = [2, 2, 10, 11, 1, 109, 12, 13] := by decide +kernel
theorem b_unpack : unpackP 1024 2 tS = some bN := by decide +kernel
theorem l_ok : NdOk lN := ⟨by decide, by decide, by decide, by decide, by decide, by decide⟩
theorem b_ok : NdOk bN := ⟨by decide, by decide, by decide, by decide, by decide, by decide⟩

end Go.Proofs.Ytemicgccgcmmbaa

/- 'lives' answers true. -/
namespace Go.Proofs.Ytemicgccgcmmbaa
set_option linter.unusedVariables false
set_option linter.unusedSimpArgs false
open Go Go.RowKit

def k5 : Kd := ⟨5, Dg.pad [10, 11]⟩
def k9 : Kd := ⟨9, Dg.pad [12, 13]⟩
def two : Array Value := k5.c ++ k9.c
def dA : Dg := Dg.pad [10, 11]
def dB : Dg := Dg.pad [12, 13]
def bd2 (t : TypeId) (x y : Value) : Sem Next := do pure (.value (← Instr.build t #[(0, x), (1, y)]))
def bs2 (t : TypeId) (x y : Value) : Sem Next := do pure (.value (← Instr.buildSlice t 2 #[(0, x), (1, y)]))
@[go_sem ↓] theorem exec_bd_dg (a : Act) (dst : Option Tmp) (x y : Operand) (ty : TypeId) (pos : String) (after : Array Edge) (guard : Option (Nat × Bool)) :
    execOp a.eval { dst, op := .build 40 #[(0, x), (1, y)], type := ty, pos, after, guard } = bd2 40 (a.eval x) (a.eval y) := by simp [execOp, bd2]
@[go_sem ↓] theorem exec_bd_kd (a : Act) (dst : Option Tmp) (x y : Operand) (ty : TypeId) (pos : String) (after : Array Edge) (guard : Option (Nat × Bool)) :
    execOp a.eval { dst, op := .build 42 #[(0, x), (1, y)], type := ty, pos, after, guard } = bd2 42 (a.eval x) (a.eval y) := by simp [execOp, bd2]
@[go_sem ↓] theorem exec_bs2_kd (a : Act) (dst : Option Tmp) (x y : Operand) (ty : TypeId) (pos : String) (after : Array Edge) (guard : Option (Nat × Bool)) :
    execOp a.eval { dst, op := .buildSlice 28 2 #[(0, x), (1, y)], type := ty, pos, after, guard } = bs2 28 (a.eval x) (a.eval y) := by simp [execOp, bs2]
@[go_sem] theorem build_dA (w : World) : (bd2 40 (.int .u8 10) (.int .u8 11)).run Try.prog w = .ok (.value (.agg dA.c)) w := by kernel_rfl
@[go_sem] theorem build_dB (w : World) : (bd2 40 (.int .u8 12) (.int .u8 13)).run Try.prog w = .ok (.value (.agg dB.c)) w := by kernel_rfl
@[go_sem] theorem build_k5 (w : World) : (bd2 42 (.int .u32 5) (.agg dA.c)).run Try.prog w = .ok (.value (.agg k5.c)) w := by kernel_rfl
@[go_sem] theorem build_k9 (w : World) : (bd2 42 (.int .u32 9) (.agg dB.c)).run Try.prog w = .ok (.value (.agg k9.c)) w := by kernel_rfl
@[go_sem] theorem build_two (w : World) : (bs2 28 (.agg k5.c) (.agg k9.c)).run Try.prog w = .ok (.value (.slice (some ⟨w.heap.size, 0, none⟩) 2 2)) (w.alloc (.cells two 42)) := by kernel_rfl

def lW (w : World) : World := (((((w.alloc (.cells #[.int .i64 1024, .int .i64 2] 23)).alloc (.cells #[.string ⟨#[97]⟩, .string ⟨#[120]⟩, .string ⟨#[98]⟩, .string ⟨#[]⟩] 48)).alloc (.cells #[.slice (some ⟨w.heap.size + 1, 0, none⟩) 2 2, .slice none 0 0, .slice none 0 0] 30)).alloc (.cells #[.string ⟨#[109]⟩] 9)).alloc (.cells two 42)).alloc (.cells #[.slice none 0 0, .slice (some ⟨w.heap.size + 1 + 1 + 1, 0, none⟩) 1 1, .slice (some ⟨w.heap.size + 1 + 1 + 1 + 1, 0, none⟩) 2 2] 30)

theorem lW_l (w : World) : NdAt (lW w) (some ⟨w.heap.size + 1, 0, none⟩) none none lN := by
  have hb : Blk (lW w) (w.heap.size + 1) 48 #[.string ⟨#[97]⟩, .string ⟨#[120]⟩, .string ⟨#[98]⟩, .string ⟨#[]⟩] := by
    have h := ((((Blk.new (w.alloc (.cells #[.int .i64 1024, .int .i64 2] 23)) 48 #[.string ⟨#[97]⟩, .string ⟨#[120]⟩, .string ⟨#[98]⟩, .string ⟨#[]⟩]).alloc (.cells #[.slice (some ⟨w.heap.size + 1, 0, none⟩) 2 2, .slice none 0 0, .slice none 0 0] 30)).alloc (.cells #[.string ⟨#[109]⟩] 9)).alloc (.cells two 42)).alloc (.cells #[.slice none 0 0, .slice (some ⟨w.heap.size + 1 + 1 + 1, 0, none⟩) 1 1, .slice (some ⟨w.heap.size + 1 + 1 + 1 + 1, 0, none⟩) 2 2] 30)
    simp only [World.size_alloc] at h
    exact h
  refine ⟨?_, SsAt.nil _ _, KsAt.nil _ _⟩
  intro i p hp
  match i, hp with
  | 0, hp => simp [lN] at hp; subst hp; exact ⟨_, _, rfl, hb.lt, hb.cell 0, hb.cell 1⟩
  | 1, hp => simp [lN] at hp; subst hp; exact ⟨_, _, rfl, hb.lt, hb.cell 2, hb.cell 3⟩
  | i + 2, hp => simp [lN] at hp
theorem lW_b (w : World) : NdAt (lW w) none (some ⟨w.heap.size + 1 + 1 + 1, 0, none⟩) (some ⟨w.heap.size + 1 + 1 + 1 + 1, 0, none⟩) bN := by
  have hb : Blk (lW w) (w.heap.size + 1 + 1 + 1) 9 #[.string ⟨#[109]⟩] := by
    have h := ((Blk.new (((w.alloc (.cells #[.int .i64 1024, .int .i64 2] 23)).alloc (.cells #[.string ⟨#[97]⟩, .string ⟨#[120]⟩, .string ⟨#[98]⟩, .string ⟨#[]⟩] 48)).alloc (.cells #[.slice (some ⟨w.heap.size + 1, 0, none⟩) 2 2, .slice none 0 0, .slice none 0 0] 30)) 9 #[.string ⟨#[109]⟩]).alloc (.cells two 42)).alloc (.cells #[.slice none 0 0, .slice (some ⟨w.heap.size + 1 + 1 + 1, 0, none⟩) 1 1, .slice (some ⟨w.heap.size + 1 + 1 + 1 + 1, 0, none⟩) 2 2] 30)
    simp only [World.size_alloc] at h
    exact h
  have hk : Blk (lW w) (w.heap.size + 1 + 1 + 1 + 1) 42 two := by
    have h := (Blk.new ((((w.alloc (.cells #[.int .i64 1024, .int .i64 2] 23)).alloc (.cells #[.string ⟨#[97]⟩, .string ⟨#[120]⟩, .string ⟨#[98]⟩, .string ⟨#[]⟩] 48)).alloc (.cells #[.slice (some ⟨w.heap.size + 1, 0, none⟩) 2 2, .slice none 0 0, .slice none 0 0] 30)).alloc (.cells #[.string ⟨#[109]⟩] 9)) 42 two).alloc (.cells #[.slice none 0 0, .slice (some ⟨w.heap.size + 1 + 1 + 1, 0, none⟩) 1 1, .slice (some ⟨w.heap.size + 1 + 1 + 1 + 1, 0, none⟩) 2 2] 30)
    simp only [World.size_alloc] at h
    exact h
  have hrow : ∀ o, rowAt? (lW w) ⟨w.heap.size + 1 + 1 + 1 + 1, o, none⟩ 33 = if o + 33 ≤ two.size then some (two.extract o (o + 33)) else none := by
    intro o; unfold Blk at hk; simp [rowAt?, hk]
  refine ⟨PsAt.nil _ _, ?_, ?_⟩
  · intro i p hp
    match i, hp with
    | 0, hp => simp [bN] at hp; subst hp; exact ⟨_, _, rfl, hb.lt, hb.cell 0⟩
    | i + 1, hp => simp [bN] at hp
  · intro i p hp
    match i, hp with
    | 0, hp =>
      simp [bN] at hp; subst hp
      exact ⟨_, _, rfl, hk.lt, by rw [hrow]; kernel_rfl⟩
    | 1, hp =>
      simp [bN] at hp; subst hp
      exact ⟨_, _, rfl, hk.lt, by rw [hrow]; kernel_rfl⟩
    | i + 2, hp => simp [bN] at hp

theorem lW_f (w : World) : Blk (lW w) w.heap.size 23 #[.int .i64 1024, .int .i64 2] := by
  have h := (((((Blk.new w 23 #[.int .i64 1024, .int .i64 2]).alloc (.cells #[.string ⟨#[97]⟩, .string ⟨#[120]⟩, .string ⟨#[98]⟩, .string ⟨#[]⟩] 48)).alloc (.cells #[.slice (some ⟨w.heap.size + 1, 0, none⟩) 2 2, .slice none 0 0, .slice none 0 0] 30)).alloc (.cells #[.string ⟨#[109]⟩] 9)).alloc (.cells two 42)).alloc (.cells #[.slice none 0 0, .slice (some ⟨w.heap.size + 1 + 1 + 1, 0, none⟩) 1 1, .slice (some ⟨w.heap.size + 1 + 1 + 1 + 1, 0, none⟩) 2 2] 30)
  exact h
theorem lW_ln (w : World) : Blk (lW w) (w.heap.size + 1 + 1) 30 #[.slice (some ⟨w.heap.size + 1, 0, none⟩) 2 2, .slice none 0 0, .slice none 0 0] := by
  have h := (((Blk.new ((w.alloc (.cells #[.int .i64 1024, .int .i64 2] 23)).alloc (.cells #[.string ⟨#[97]⟩, .string ⟨#[120]⟩, .string ⟨#[98]⟩, .string ⟨#[]⟩] 48)) 30 #[.slice (some ⟨w.heap.size + 1, 0, none⟩) 2 2, .slice none 0 0, .slice none 0 0]).alloc (.cells #[.string ⟨#[109]⟩] 9)).alloc (.cells two 42)).alloc (.cells #[.slice none 0 0, .slice (some ⟨w.heap.size + 1 + 1 + 1, 0, none⟩) 1 1, .slice (some ⟨w.heap.size + 1 + 1 + 1 + 1, 0, none⟩) 2 2] 30)
  simp only [World.size_alloc] at h
  exact h
theorem lW_bn (w : World) : Blk (lW w) (w.heap.size + 1 + 1 + 1 + 1 + 1) 30 #[.slice none 0 0, .slice (some ⟨w.heap.size + 1 + 1 + 1, 0, none⟩) 1 1, .slice (some ⟨w.heap.size + 1 + 1 + 1 + 1, 0, none⟩) 2 2] := by
  have h := Blk.new (((((w.alloc (.cells #[.int .i64 1024, .int .i64 2] 23)).alloc (.cells #[.string ⟨#[97]⟩, .string ⟨#[120]⟩, .string ⟨#[98]⟩, .string ⟨#[]⟩] 48)).alloc (.cells #[.slice (some ⟨w.heap.size + 1, 0, none⟩) 2 2, .slice none 0 0, .slice none 0 0] 30)).alloc (.cells #[.string ⟨#[109]⟩] 9)).alloc (.cells two 42)) 30 #[.slice none 0 0, .slice (some ⟨w.heap.size + 1 + 1 + 1, 0, none⟩) 1 1, .slice (some ⟨w.heap.size + 1 + 1 + 1 + 1, 0, none⟩) 2 2]
  simp only [World.size_alloc] at h
  exact h

set_option maxHeartbeats 1000000 in set_option maxRecDepth 100000 in
theorem lives_any (w : World) : Calls Try.prog 13 #[] w (Rets (.bool true) w) := by
  have LL := Lib.hid (lW_l w); have LB := Lib.hid (lW_b w)
  have hkw : Kp [] w (lW w) := ((((((Kp.refl [] w).alloc _).alloc _).alloc _).alloc _).alloc _).alloc _
  have HKW := Lib.hid hkw; clear hkw
  go_enter Try.func13, Try.ntmps13
  go_wp2_with fail
  have hl0 := (lW_f w).cell 0; have hl1 := (lW_f w).cell 1
  have ha0 := (lW_ln w).cell 0; have ha1 := (lW_ln w).cell 1; have ha2 := (lW_ln w).cell 2
  have hb0 := (lW_bn w).cell 0; have hb1 := (lW_bn w).cell 1; have hb2 := (lW_bn w).cell 2
  have hlt := (lW_bn w).lt
  simp only [List.getElem?_toArray, List.getElem?_cons_zero, List.getElem?_cons_succ] at hl0 hl1 ha0 ha1 ha2 hb0 hb1 hb2
  have hlt0 : w.heap.size < (lW w).heap.size := by omega
  have hlt2 : w.heap.size + 1 + 1 < (lW w).heap.size := by omega
  refine (Pack_any 1024 2 _ _ _ _ _ _ lN (lW w) LL.out l_ok).mono ?_
  rintro e w1 ⟨rfl, bs1, m1, rfl⟩
  rw [l_pack, l_packS]
  go_wp2_with fail
  refine (Pack_any 1024 2 _ _ _ _ _ _ bN _ (LB.out.kp0 ((Kp.refl [] _).ext _ _)) b_ok).mono ?_
  rintro e w1 ⟨rfl, bs2, m2, rfl⟩
  rw [b_pack, b_packS]
  go_wp2_with fail
  refine (Plain_any 1024 2 _ _ _ _ _ _ bN _ (LB.out.kp0 ((Kp.refl [] _).ext _ _)) b_ok).mono ?_
  rintro e w1 ⟨rfl, bs3, m3, rfl⟩
  rw [b_plain, b_plainS]
  go_wp2_with fail
  refine (Unpack_any 1024 2 tS _ (by decide)).mono ?_
  rintro e w1 h1
  rw [b_unpack] at h1
  obtain ⟨pa, sa, ka, pc, sc, kc, rfl, nd, k1, hnew⟩ := h1
  obtain ⟨b0, o0, hka, hb0', r0⟩ := nd.ks 0 k5 rfl
  obtain ⟨b1, o1, hka1, hb1', r1⟩ := nd.ks 1 k9 rfl
  rw [hka] at hka1
  cases hka1
  subst hka
  have cp := (rowAt?_cell r1).2 0 (.int .u32 9) (Kd.get0 k9)
  have rs := rowAt?_sub r0 1 32 (by omega)
  have hx : k5.c.extract 1 (1 + 32) = dA.c := Kd.extract1 k5
  rw [hx] at rs
  simp only [Addr.add_lit, Nat.zero_mul, Nat.one_mul, Nat.add_zero] at cp rs
  have LZ : Hid (NdAt w1 (some ⟨w.heap.size + 1, 0, none⟩) none none lN) := Lib.hid (LL.out.kp0 (((Kp.refl [] _).ext _ _).trans k1))
  have KW := Lib.hid ((HKW.out.ext _ _).trans k1)
  have zz := k1.size
  simp only [ext_size] at zz
  have n1 : w.heap.size < w1.heap.size := by omega
  have n2 : w.heap.size + 1 + 1 < w1.heap.size := by omega
  have e0 := ((Kp.refl [] (lW w)).ext _ _ |>.trans k1).cell hl0 (by simp); have e1 := ((Kp.refl [] (lW w)).ext _ _ |>.trans k1).cell hl1 (by simp)
  have e2 := ((Kp.refl [] (lW w)).ext _ _ |>.trans k1).cell ha0 (by simp); have e3 := ((Kp.refl [] (lW w)).ext _ _ |>.trans k1).cell ha1 (by simp); have e4 := ((Kp.refl [] (lW w)).ext _ _ |>.trans k1).cell ha2 (by simp)
  clear r0 r1 hx nd k1 hnew hl0 hl1 ha0 ha1 ha2 hb0 hb1 hb2 zz
  go_wp2_with fail
  refine (Size_any 1024 2 _ _ _ _ _ _ lN _ (LZ.out.kp0 ((Kp.refl [] _).alloc _)) l_ok).mono ?_
  rintro e w2 ⟨rfl, bs4, m4, rfl⟩
  rw [l_size]
  go_wp2_with fail
  go_ret
  exact ⟨rfl, ((KW.out.alloc _).ext _ _).to_ext⟩

end Go.Proofs.Ytemicgccgcmmbaa

/- NodeCopies answers true of any two nodes of few parts. -/
namespace Go.Proofs.Ytemicgccgcmmbaa
set_option linter.unusedVariables false
set_option linter.unusedSimpArgs false
open Go Go.RowKit

/-- Four nodes in blocks of their own; two of them lent. -/
structure CpI (w wr : World) (A B : Nd) (va vb : Array Value) (B5 B6 gp gs gk pc sc kc hp hs hk qc tc lc : Nat) : Prop where
  kp : Kp [] w wr
  c0 : wr.cell? ⟨w.heap.size, 0, none⟩ = va[0]? ∧ wr.cell? ⟨w.heap.size, 1, none⟩ = va[1]? ∧ wr.cell? ⟨w.heap.size, 2, none⟩ = va[2]?
  c1 : wr.cell? ⟨w.heap.size + 1, 0, none⟩ = vb[0]? ∧ wr.cell? ⟨w.heap.size + 1, 1, none⟩ = vb[1]? ∧ wr.cell? ⟨w.heap.size + 1, 2, none⟩ = vb[2]?
  c5 : wr.cell? ⟨B5, 0, none⟩ = some (.slice (some ⟨gp, 0, none⟩) A.pairs.length pc) ∧ wr.cell? ⟨B5, 1, none⟩ = some (.slice (some ⟨gs, 0, none⟩) A.seps.length sc) ∧ wr.cell? ⟨B5, 2, none⟩ = some (.slice (some ⟨gk, 0, none⟩) A.kids.length kc)
  c6 : wr.cell? ⟨B6, 0, none⟩ = some (.slice (some ⟨hp, 0, none⟩) B.pairs.length qc) ∧ wr.cell? ⟨B6, 1, none⟩ = some (.slice (some ⟨hs, 0, none⟩) B.seps.length tc) ∧ wr.cell? ⟨B6, 2, none⟩ = some (.slice (some ⟨hk, 0, none⟩) B.kids.length lc)
  oa : Own3 wr w.heap.size (some ⟨gp, 0, none⟩) (some ⟨gs, 0, none⟩) (some ⟨gk, 0, none⟩) pc sc kc A.mk1
  ob : Own3 wr w.heap.size (some ⟨hp, 0, none⟩) (some ⟨hs, 0, none⟩) (some ⟨hk, 0, none⟩) qc tc lc B.mk1
  dj : ∀ g ∈ blks (some ⟨gp, 0, none⟩) (some ⟨gs, 0, none⟩) (some ⟨gk, 0, none⟩), g ∉ blks (some ⟨hp, 0, none⟩) (some ⟨hs, 0, none⟩) (some ⟨hk, 0, none⟩)
  nb : ∀ g ∈ blks (some ⟨gp, 0, none⟩) (some ⟨gs, 0, none⟩) (some ⟨gk, 0, none⟩) ++ blks (some ⟨hp, 0, none⟩) (some ⟨hs, 0, none⟩) (some ⟨hk, 0, none⟩), g ≠ w.heap.size ∧ g ≠ w.heap.size + 1 ∧ g ≠ B5 ∧ g ≠ B6
  lt : w.heap.size + 1 < wr.heap.size ∧ B5 < wr.heap.size ∧ B6 < wr.heap.size

theorem CpI.of {w W0 w1 w2 wr : World} {A B : Nd} {va vb : Array Value} {B5 B6 gp gs gk pc sc kc hp hs hk qc tc lc lo1 lo2 : Nat} (kw : Kp [] w W0) (kq : Kp [] W0 wr) (k12 : Kp [] w1 w2) (kf : Kp [B5, B6] w2 wr) (hz : W0.heap.size = w.heap.size + 2) (hw1 : W0.heap.size ≤ w1.heap.size)
    (sk : ((wr.cell? ⟨w.heap.size, 0, none⟩ = va[0]? ∧ wr.cell? ⟨w.heap.size, 1, none⟩ = va[1]? ∧ wr.cell? ⟨w.heap.size, 2, none⟩ = va[2]?) ∧ (wr.cell? ⟨w.heap.size + 1, 0, none⟩ = vb[0]? ∧ wr.cell? ⟨w.heap.size + 1, 1, none⟩ = vb[1]? ∧ wr.cell? ⟨w.heap.size + 1, 2, none⟩ = vb[2]?)))
    (oa : Own3 w1 lo1 (some ⟨gp, 0, none⟩) (some ⟨gs, 0, none⟩) (some ⟨gk, 0, none⟩) pc sc kc A.mk1) (ob : Own3 w2 lo2 (some ⟨hp, 0, none⟩) (some ⟨hs, 0, none⟩) (some ⟨hk, 0, none⟩) qc tc lc B.mk1)
    (h1 : W0.heap.size ≤ lo1) (h2 : w1.heap.size ≤ lo2) (n5 : B5 < lo1 ∨ w1.heap.size ≤ B5) (n6 : B6 < lo1 ∨ w1.heap.size ≤ B6) (m5 : B5 < lo2 ∨ w2.heap.size ≤ B5) (m6 : B6 < lo2 ∨ w2.heap.size ≤ B6)
    (c5 : wr.cell? ⟨B5, 0, none⟩ = some (.slice (some ⟨gp, 0, none⟩) A.pairs.length pc) ∧ wr.cell? ⟨B5, 1, none⟩ = some (.slice (some ⟨gs, 0, none⟩) A.seps.length sc) ∧ wr.cell? ⟨B5, 2, none⟩ = some (.slice (some ⟨gk, 0, none⟩) A.kids.length kc))
    (c6 : wr.cell? ⟨B6, 0, none⟩ = some (.slice (some ⟨hp, 0, none⟩) B.pairs.length qc) ∧ wr.cell? ⟨B6, 1, none⟩ = some (.slice (some ⟨hs, 0, none⟩) B.seps.length tc) ∧ wr.cell? ⟨B6, 2, none⟩ = some (.slice (some ⟨hk, 0, none⟩) B.kids.length lc)) :
    CpI w wr A B va vb B5 B6 gp gs gk pc sc kc hp hs hk qc tc lc := by
  have la : ∀ g ∈ blks (some ⟨gp, 0, none⟩) (some ⟨gs, 0, none⟩) (some ⟨gk, 0, none⟩), lo1 ≤ g ∧ g < w1.heap.size := fun g hg => ⟨oa.lo g hg, oa.blt g hg⟩
  have lb : ∀ g ∈ blks (some ⟨hp, 0, none⟩) (some ⟨hs, 0, none⟩) (some ⟨hk, 0, none⟩), lo2 ≤ g ∧ g < w2.heap.size := fun g hg => ⟨ob.lo g hg, ob.blt g hg⟩
  have z12 := k12.size
  have zf := kf.size
  have zq := kq.size
  refine ⟨kw.trans kq, sk.1, sk.2, c5, c6, ?_, ?_, ?_, ?_, ?_, World.block_lt_of_cell? wr ⟨B5, 0, none⟩ c5.1, World.block_lt_of_cell? wr ⟨B6, 0, none⟩ c6.1⟩
  · refine Own3.le ((oa.kp k12 (by simp)).kp kf ?_) (by omega)
    intro g hg
    have := la g hg
    simp only [List.mem_cons, List.not_mem_nil, or_false, not_or]
    omega
  · refine Own3.le (ob.kp kf ?_) (by omega)
    intro g hg
    have := lb g hg
    simp only [List.mem_cons, List.not_mem_nil, or_false, not_or]
    omega
  · intro g hg e
    have := la g hg; have := lb g e; omega
  · intro g hg
    rcases List.mem_append.1 hg with hg | hg
    · have := la g hg; omega
    · have := lb g hg; omega
  · omega

theorem CpI.next {w wr w' : World} {A B : Nd} {va vb : Array Value} {B5 B6 gp gs gk pc sc kc hp hs hk qc tc lc : Nat} (h : CpI w wr A B va vb B5 B6 gp gs gk pc sc kc hp hs hk qc tc lc) (k : Kp [] wr w') :
    CpI w w' A B va vb B5 B6 gp gs gk pc sc kc hp hs hk qc tc lc := by
  obtain ⟨l0, l5, l6⟩ := h.lt
  have hz := k.size
  have key : ∀ b o, b < wr.heap.size → w'.cell? ⟨b, o, none⟩ = wr.cell? ⟨b, o, none⟩ := fun b o hb => World.cell?_of_block (w := wr) (k.block b hb (by simp))
  refine ⟨h.kp.trans k, ?_, ?_, ?_, ?_, h.oa.kp k (by simp), h.ob.kp k (by simp), h.dj, h.nb, by omega, by omega, by omega⟩
  · rw [key _ _ (by omega), key _ _ (by omega), key _ _ (by omega)]; exact h.c0
  · rw [key _ _ l0, key _ _ l0, key _ _ l0]; exact h.c1
  · rw [key _ _ l5, key _ _ l5, key _ _ l5]; exact h.c5
  · rw [key _ _ l6, key _ _ l6, key _ _ l6]; exact h.c6

theorem spoil_mk {lo gp gs gk pc sc kc : Nat} {n : Nd} {w : World} (h : Own3 w lo (some ⟨gp, 0, none⟩) (some ⟨gs, 0, none⟩) (some ⟨gk, 0, none⟩) pc sc kc n.mk1) (hf : NdFew n) :
    Calls Try.prog 26 #[.agg #[.slice (some ⟨gp, 0, none⟩) n.pairs.length pc, .slice (some ⟨gs, 0, none⟩) n.seps.length sc, .slice (some ⟨gk, 0, none⟩) n.kids.length kc], .int .u32 3] w fun e w' =>
      e = .returned (.tuple #[]) ∧ Kp (blks (some ⟨gp, 0, none⟩) (some ⟨gs, 0, none⟩) (some ⟨gk, 0, none⟩)) w w' :=
  (spoil_any 3 lo _ _ _ pc sc kc n Nd.marks w h hf).mono fun _ _ h => ⟨h.1, h.2.2⟩

theorem nodeSame_d (pa sa ka qa ta la : Option Addr) (pc sc kc qc tc lc : Nat) (x y : Nd) (w : World) (hx : NdAt w pa sa ka x) (hy : NdAt w qa ta la y) (ox : NdOk x) (oy : NdOk y) {d : Bool} (h : decide (x = y) = d) :
    Calls Try.prog 23 #[.agg #[.slice pa x.pairs.length pc, .slice sa x.seps.length sc, .slice ka x.kids.length kc], .agg #[.slice qa y.pairs.length qc, .slice ta y.seps.length tc, .slice la y.kids.length lc]] w (Rets (.bool d) w) := by
  subst h; exact nodeSame_any pa sa ka qa ta la pc sc kc qc tc lc x y w hx hy ox oy
theorem nodeSame_self (pa sa ka : Option Addr) (pc sc kc : Nat) (x : Nd) (w : World) (hx : NdAt w pa sa ka x) (ox : NdOk x) :
    Calls Try.prog 23 #[.agg #[.slice pa x.pairs.length pc, .slice sa x.seps.length sc, .slice ka x.kids.length kc], .agg #[.slice pa x.pairs.length pc, .slice sa x.seps.length sc, .slice ka x.kids.length kc]] w (Rets (.bool true) w) :=
  nodeSame_d pa sa ka pa sa ka pc sc kc pc sc kc x x w hx hx ox ox (decide_eq_true rfl)
theorem refSame_d (pa sa ka qa ta la : Option Addr) (pc sc kc qc tc lc : Nat) (x y : Nd) (w : World) (hx : NdAt w pa sa ka x) (hy : NdAt w qa ta la y) (ox : NdOk x) (oy : NdOk y) {d : Bool} (h : decide (x = y) = d) :
    Calls Try.prog 24 #[.agg #[.slice pa x.pairs.length pc, .slice sa x.seps.length sc, .slice ka x.kids.length kc], .agg #[.slice qa y.pairs.length qc, .slice ta y.seps.length tc, .slice la y.kids.length lc]] w (Rets (.bool d) w) := by
  subst h; exact refSame_any pa sa ka qa ta la pc sc kc qc tc lc x y w hx hy ox oy

abbrev zN : Array Value := #[.slice none 0 0, .slice none 0 0, .slice none 0 0]
theorem zb_a (W : World) : Blk (W.alloc (.cells zN 30)) W.heap.size 30 zN := Blk.new W _ _
theorem zb_b (W : World) : Blk ((W.alloc (.cells zN 30)).alloc (.cells zN 30)) W.heap.size 30 zN := (Blk.new W _ _).alloc _
theorem zb_c (W : World) : Blk ((W.alloc (.cells zN 30)).alloc (.cells zN 30)) (W.heap.size + 1) 30 zN := by
  have h := Blk.new (W.alloc (.cells zN 30)) 30 zN
  simpa using h

set_option maxHeartbeats 8000000 in
set_option maxRecDepth 100000 in
theorem copies_any (pa sa ka qa ta la : Option Addr) (pc sc kc qc tc lc : Nat) (a b : Nd) (w : World) (ha : NdAt w pa sa ka a) (hb : NdAt w qa ta la b) (oa : NdOk a) (ob : NdOk b) (fa : NdFew a) (fb : NdFew b) :
    Calls Try.prog 7 #[.agg #[.slice pa a.pairs.length pc, .slice sa a.seps.length sc, .slice ka a.kids.length kc], .agg #[.slice qa b.pairs.length qc, .slice ta b.seps.length tc, .slice la b.kids.length lc]] w (Rets (.bool true) w) := by
  obtain ⟨W0, hW0⟩ : ∃ W0, W0 = (w.alloc (.cells #[.slice pa a.pairs.length pc, .slice sa a.seps.length sc, .slice ka a.kids.length kc] 30)).alloc (.cells #[.slice qa b.pairs.length qc, .slice ta b.seps.length tc, .slice la b.kids.length lc] 30) := ⟨_, rfl⟩
  have kw : Kp [] w W0 := by rw [hW0]; exact ((Kp.refl [] w).alloc _).alloc _
  have b0 : Blk W0 w.heap.size 30 #[.slice pa a.pairs.length pc, .slice sa a.seps.length sc, .slice ka a.kids.length kc] := by rw [hW0]; exact (Blk.new w _ _).alloc _
  have b1 : Blk W0 (w.heap.size + 1) 30 #[.slice qa b.pairs.length qc, .slice ta b.seps.length tc, .slice la b.kids.length lc] := by
    rw [hW0]
    have h := Blk.new (w.alloc (.cells #[.slice pa a.pairs.length pc, .slice sa a.seps.length sc, .slice ka a.kids.length kc] 30)) 30 #[.slice qa b.pairs.length qc, .slice ta b.seps.length tc, .slice la b.kids.length lc]
    simpa using h
  have hz0 : W0.heap.size = w.heap.size + 2 := by rw [hW0]; simp
  have SK : Hid (∀ W : World, Kp [] W0 W → ((W.cell? ⟨w.heap.size, 0, none⟩ = some (.slice pa a.pairs.length pc) ∧ W.cell? ⟨w.heap.size, 1, none⟩ = some (.slice sa a.seps.length sc) ∧ W.cell? ⟨w.heap.size, 2, none⟩ = some (.slice ka a.kids.length kc)) ∧
      (W.cell? ⟨w.heap.size + 1, 0, none⟩ = some (.slice qa b.pairs.length qc) ∧ W.cell? ⟨w.heap.size + 1, 1, none⟩ = some (.slice ta b.seps.length tc) ∧ W.cell? ⟨w.heap.size + 1, 2, none⟩ = some (.slice la b.kids.length lc)))) := Lib.hid (fun W k =>
    have c0 := b0.kp k (by simp); have c1 := b1.kp k (by simp)
    ⟨⟨c0.cell 0, c0.cell 1, c0.cell 2⟩, ⟨c1.cell 0, c1.cell 1, c1.cell 2⟩⟩)
  have KW := Lib.hid kw; have HA := Lib.hid (ha.kp0 kw); have HB := Lib.hid (hb.kp0 kw); have OA := Lib.hid oa; have OB := Lib.hid ob; have FA := Lib.hid fa; have FB := Lib.hid fb
  have HZ0 := Lib.hid hz0
  have hz1 : w.heap.size + 1 < W0.heap.size := by omega
  have HW0 := Lib.hid hW0
  have HA0 := Lib.hid ha; have HB0 := Lib.hid hb
  clear ha hb oa ob fa fb kw b0 b1 hW0 hz0
  go_enter Try.func7, Try.ntmps7
  go_wp2_with fail
  rw [← HW0.out]
  go_cut [5, 6] from 9 (fun v5 v6 wr => ∃ B5 B6 gp gs gk pc' sc' kc' hp hs hk qc' tc' lc', v5 = .pointer (some ⟨B5, 0, none⟩) ∧ v6 = .pointer (some ⟨B6, 0, none⟩) ∧
    Hid (CpI w wr a b #[.slice pa a.pairs.length pc, .slice sa a.seps.length sc, .slice ka a.kids.length kc] #[.slice qa b.pairs.length qc, .slice ta b.seps.length tc, .slice la b.kids.length lc] B5 B6 gp gs gk pc' sc' kc' hp hs hk qc' tc' lc'))
  case first =>
    go_region_held3 (fun W => ((W.cell? ⟨w.heap.size, 0, none⟩ = some (.slice pa a.pairs.length pc) ∧ W.cell? ⟨w.heap.size, 1, none⟩ = some (.slice sa a.seps.length sc) ∧ W.cell? ⟨w.heap.size, 2, none⟩ = some (.slice ka a.kids.length kc)) ∧
      (W.cell? ⟨w.heap.size + 1, 0, none⟩ = some (.slice qa b.pairs.length qc) ∧ W.cell? ⟨w.heap.size + 1, 1, none⟩ = some (.slice ta b.seps.length tc) ∧ W.cell? ⟨w.heap.size + 1, 2, none⟩ = some (.slice la b.kids.length lc))))
      (exact SK.out _ (by repeat first | with_reducible exact KT2.out | with_reducible exact KT1.out | with_reducible exact Kp.refl _ _ | with_reducible refine Kp.drew ?_ | with_reducible refine Kp.alloc ?_ _ | with_reducible refine Kp.setCell ?_ _ (.inl (by first | exact Nat.le_refl _ | (simp; done) | (simp; omega) | omega))))
      (first
        | (have _hk := KT1.out; clear _hk; go_at_call 22; refine (lent_any qa ta la qc tc lc b _ (HB.out.kp0 (by repeat first | with_reducible exact KT1.out | with_reducible refine Kp.drew ?_ | with_reducible refine Kp.alloc ?_ _)) OB.out FB.out).mono ?_; rintro e w2 ⟨hp, hs, hk, qc1, tc1, lc1, rfl, ob1, k2⟩; have KT2 : Hid (Kp [] W0 w2) := Lib.hid (Kp.trans (by repeat first | with_reducible exact KT1.out | with_reducible refine Kp.drew ?_ | with_reducible refine Kp.alloc ?_ _) k2); have OB1 := Lib.hid ob1; have K2 := Lib.hid k2; have K12 : Hid (Kp [] w1 w2) := Lib.hid (Kp.trans (by repeat first | with_reducible exact Kp.refl _ _ | with_reducible refine Kp.alloc ?_ _) k2); have zz2 := K12.out.size; (try (with_reducible have zb2 := Blk.kp zb K12.out (by simp); obtain ⟨y0, y1, y2, y3, y4, y5, y6⟩ := LtI.facts zb2)); (try (with_reducible have zc2 := Blk.kp zc K12.out (by simp); obtain ⟨x0, x1, x2, x3, x4, x5, x6⟩ := LtI.facts zc2)); (try (with_reducible have zd2 := Blk.kp (zb_a w1) k2 (by simp); obtain ⟨v0, v1, v2, v3, v4, v5, v6⟩ := LtI.facts zd2)); (try (with_reducible have zd2 := Blk.kp (zb_b w1) k2 (by simp); with_reducible have ze2 := Blk.kp (zb_c w1) k2 (by simp); obtain ⟨v0, v1, v2, v3, v4, v5, v6⟩ := LtI.facts zd2; obtain ⟨s0, s1, s2, s3, s4, s5, s6⟩ := LtI.facts ze2)); clear ob1 k2)
        | (go_at_call 22; refine (lent_any pa sa ka pc sc kc a _ (HA.out.kp0 (by repeat first | with_reducible exact Kp.refl _ _ | with_reducible refine Kp.drew ?_ | with_reducible refine Kp.alloc ?_ _)) OA.out FA.out).mono ?_; rintro e w1 ⟨gp, gs, gk, pc1, sc1, kc1, rfl, oa1, k1⟩; have KT1 : Hid (Kp [] W0 w1) := Lib.hid (Kp.trans (by repeat first | with_reducible exact Kp.refl _ _ | with_reducible refine Kp.drew ?_ | with_reducible refine Kp.alloc ?_ _) k1); have OA1 := Lib.hid oa1; have K1 := Lib.hid k1; have zz1 := KT1.out.size; (try (with_reducible have zb := Blk.kp ((zb_a W0).drew) k1 (by simp); have zlt := zb.lt)); (try (with_reducible have zb := Blk.kp ((zb_b W0).drew) k1 (by simp); with_reducible have zc := Blk.kp ((zb_c W0).drew) k1 (by simp); have zlt := zb.lt; have zlt2 := zc.lt)); clear oa1 k1))
    all_goals go_wp2_with fail
    all_goals go_meet
    all_goals
      refine ⟨_, _, gp, gs, gk, pc1, sc1, kc1, hp, hs, hk, qc1, tc1, lc1, rfl, rfl, Lib.hid (CpI.of (W0 := W0) (w1 := w1) (w2 := w2) KW.out
        (by repeat first | with_reducible exact KT2.out | with_reducible refine Kp.drew ?_ | with_reducible refine Kp.alloc ?_ _ | with_reducible refine Kp.setCell ?_ _ (.inl (by first | exact Nat.le_refl _ | (simp; done) | (simp; omega) | omega)))
        K12.out
        (by repeat first | with_reducible exact Kp.refl _ _ | with_reducible refine Kp.drew ?_ | with_reducible refine Kp.alloc ?_ _ | with_reducible refine Kp.setCell ?_ _ (.inr (by simp)))
        HZ0.out zz1 (SK.out _ ?kq) OA1.out OB1.out ?h1 ?h2 ?n5 ?n6 ?m5 ?m6 ?c5 ?c6)⟩
      case kq => repeat first | with_reducible exact KT2.out | with_reducible refine Kp.drew ?_ | with_reducible refine Kp.alloc ?_ _ | with_reducible refine Kp.setCell ?_ _ (.inl (by first | exact Nat.le_refl _ | (simp; done) | (simp; omega) | omega))
      case h1 => first | exact Nat.le_refl _ | omega | (simp; done) | (simp; omega)
      case h2 => first | exact Nat.le_refl _ | omega | (simp; done) | (simp; omega)
      case n5 => first | omega | (simp; done) | (simp; omega)
      case n6 => first | omega | (simp; done) | (simp; omega)
      case m5 => first | omega | (simp; done) | (simp; omega)
      case m6 => first | omega | (simp; done) | (simp; omega)
      case c5 => (refine ⟨?_, ?_, ?_⟩ <;> first | go_simp | assumption)
      case c6 => (refine ⟨?_, ?_, ?_⟩ <;> first | go_simp | assumption)
  case rest =>
    obtain ⟨B5, B6, gp, gs, gk, pc', sc', kc', hp, hs, hk, qc', tc', lc', rfl, rfl, C⟩ := hcut
    clear SK HA HB HZ0 hz1 HW0 KW
    obtain ⟨p0, p1, p2⟩ := C.out.c0; obtain ⟨p3, p4, p5⟩ := C.out.c1; obtain ⟨p6, p7, p8⟩ := C.out.c5; obtain ⟨p9, p10, p11⟩ := C.out.c6
    obtain ⟨z0, z5, z6⟩ := C.out.lt
    simp only [List.getElem?_toArray, List.getElem?_cons_zero, List.getElem?_cons_succ] at p0 p1 p2 p3 p4 p5
    have XA := Lib.hid C.out.oa.lent.1; have YB := Lib.hid C.out.ob.lent.1
    have HA := Lib.hid (HA0.out.kp0 C.out.kp); have HB := Lib.hid (HB0.out.kp0 C.out.kp)
    obtain ⟨d, hd⟩ : ∃ d, decide (a = b) = d := ⟨_, rfl⟩
    have HD := Lib.hid hd; clear hd
    have NN : Hid (∀ g ∈ ab (some ⟨gp, 0, none⟩) ++ ab (some ⟨gs, 0, none⟩) ++ ab (some ⟨gk, 0, none⟩), g ∉ ([] : List Nat)) := Lib.hid (fun _ _ => by simp)
    have NM : Hid (∀ g ∈ ab (some ⟨hp, 0, none⟩) ++ ab (some ⟨hs, 0, none⟩) ++ ab (some ⟨hk, 0, none⟩), g ∉ ([] : List Nat)) := Lib.hid (fun _ _ => by simp)
    go_wp2_with fail
    refine wp_region_ext (by kernel_rfl) (by kernel_rfl) ?_
    repeat (go_big_quiet_step (first
      | ((with_reducible (go_at_call 23)); with_reducible exact Calls.quiet_ext (nodeSame_d (some ⟨gp, 0, none⟩) (some ⟨gs, 0, none⟩) (some ⟨gk, 0, none⟩) (some ⟨hp, 0, none⟩) (some ⟨hs, 0, none⟩) (some ⟨hk, 0, none⟩) pc' sc' kc' qc' tc' lc' a b _ (XA.out.kp0 ((Kp.refl [] _).ext _ _)) (YB.out.kp0 ((Kp.refl [] _).ext _ _)) OA.out OB.out HD.out))
      | ((with_reducible (go_at_call 23)); with_reducible exact Calls.quiet_ext (nodeSame_self (some ⟨gp, 0, none⟩) (some ⟨gs, 0, none⟩) (some ⟨gk, 0, none⟩) pc' sc' kc' a _ (XA.out.kp0 ((Kp.refl [] _).ext _ _)) OA.out))
      | ((with_reducible (go_at_call 24)); with_reducible exact Calls.quiet_ext (refSame_d pa sa ka qa ta la pc sc kc qc tc lc a b _ (HA.out.kp0 ((Kp.refl [] _).ext _ _)) (HB.out.kp0 ((Kp.refl [] _).ext _ _)) OA.out OB.out HD.out))
      | ((with_reducible (go_at_call 25)); with_reducible exact Calls.quiet_ext (kept_any gp gs gk pc' sc' kc' w.heap.size pa sa ka pc sc kc a _ (Own3.kp C.out.oa ((Kp.refl [] _).ext _ _) NN.out) (HA.out.kp0 ((Kp.refl [] _).ext _ _)) OA.out FA.out))
      | ((with_reducible (go_at_call 25)); with_reducible exact Calls.quiet_ext (kept_any hp hs hk qc' tc' lc' w.heap.size qa ta la qc tc lc b _ (Own3.kp C.out.ob ((Kp.refl [] _).ext _ _) NM.out) (HB.out.kp0 ((Kp.refl [] _).ext _ _)) OB.out FB.out))))
    (refine wpQuiet_nil ?_; intro _ hw'; obtain ⟨⟨bsq, nq⟩, hw''⟩ := hw'; subst hw'')
    go_wp2_with fail
    refine (copy_any _ _ _ _ _ _ a _ (XA.out.kp0 ((Kp.refl [] _).ext _ _)) OA.out).mono ?_
    rintro e w1 ⟨ca, cb, cc, cp1, cp2, cp3, rfl, oc, k1⟩
    have e1 : Kp [] wc w1 := ((Kp.refl [] wc).ext bsq nq).trans k1
    have C1 := Lib.hid (C.out.next e1)
    have hz1 : wc.heap.size ≤ (ext wc bsq nq).heap.size := by simp
    have OC := Lib.hid (Own3.le oc hz1)
    have zw := e1.size
    clear p0 p1 p2 p3 p4 p5 p6 p7 p8 p9 p10 p11 z0 z5 z6 oc k1 e1 XA YB HA HB hz1
    obtain ⟨p0, p1, p2⟩ := C1.out.c0; obtain ⟨p3, p4, p5⟩ := C1.out.c1; obtain ⟨p6, p7, p8⟩ := C1.out.c5; obtain ⟨p9, p10, p11⟩ := C1.out.c6
    obtain ⟨z0, z5, z6⟩ := C1.out.lt
    simp only [List.getElem?_toArray, List.getElem?_cons_zero, List.getElem?_cons_succ] at p0 p1 p2 p3 p4 p5
    have XA := Lib.hid C1.out.oa.lent.1
    go_wp2_with fail
    refine (copy_any _ _ _ _ _ _ a _ (XA.out.kp0 ((Kp.refl [] _).alloc _)) OA.out).mono ?_
    rintro e w2 ⟨da, db, dc, dp1, dp2, dp3, rfl, od, k2⟩
    have b7 := Lib.hid ((Blk.new w1 30 #[.slice ca a.pairs.length cp1, .slice cb a.seps.length cp2, .slice cc a.kids.length cp3]).kp k2 (by simp))
    have e2 : Kp [] w1 w2 := ((Kp.refl [] w1).alloc _).trans k2
    have C2 := Lib.hid (C1.out.next e2)
    have OC2 := Lib.hid (OC.out.kp e2 (by simp))
    have OD2 : Hid (Own3 w2 (w1.heap.size + 1) da db dc dp1 dp2 dp3 a) := Lib.hid (Own3.le od (by simp))
    have LC : Hid (∀ g ∈ blks ca cb cc, g < w1.heap.size) := Lib.hid OC.out.blt
    have zw2 := e2.size
    clear p0 p1 p2 p3 p4 p5 p6 p7 p8 p9 p10 p11 z0 z5 z6 od k2 e2 XA OC
    obtain ⟨p0, p1, p2⟩ := C2.out.c0; obtain ⟨p3, p4, p5⟩ := C2.out.c1; obtain ⟨p6, p7, p8⟩ := C2.out.c5; obtain ⟨p9, p10, p11⟩ := C2.out.c6
    obtain ⟨z0, z5, z6⟩ := C2.out.lt
    simp only [List.getElem?_toArray, List.getElem?_cons_zero, List.getElem?_cons_succ] at p0 p1 p2 p3 p4 p5
    obtain ⟨q0, q1, q2, -, -, -, z7⟩ := LtI.facts b7.out
    have HA := Lib.hid (HA0.out.kp0 C2.out.kp); have HB := Lib.hid (HB0.out.kp0 C2.out.kp)
    go_wp2_with fail
    refine (refSame_true ca cb cc pa sa ka cp1 cp2 cp3 pc sc kc a a _ (OC2.out.at.kp0 ((Kp.refl [] _).alloc _)) (HA.out.kp0 ((Kp.refl [] _).alloc _)) OA.out OA.out rfl).mono ?_
    rintro e w' ⟨rfl, bs1, m1, rfl⟩
    go_wp2_with fail
    refine (refSame_true da db dc pa sa ka dp1 dp2 dp3 pc sc kc a a _ (OD2.out.at.kp0 (((Kp.refl [] _).alloc _).ext _ _)) (HA.out.kp0 (((Kp.refl [] _).alloc _).ext _ _)) OA.out OA.out rfl).mono ?_
    rintro e w' ⟨rfl, bs2, m2, rfl⟩
    go_wp2_with fail
    refine (kept_any gp gs gk pc' sc' kc' w.heap.size pa sa ka pc sc kc a _ (Own3.kp C2.out.oa (((Kp.refl [] _).alloc _).ext _ _) NN.out) (HA.out.kp0 (((Kp.refl [] _).alloc _).ext _ _)) OA.out FA.out).mono ?_
    rintro e w' ⟨rfl, bs3, m3, rfl⟩
    go_wp2_with fail
    refine (spoil_mk (lo := w.heap.size) (n := a) (Own3.kp C2.out.oa (((Kp.refl [] _).alloc _).ext _ _) NN.out) FA.out).mono ?_
    rintro e w3 ⟨rfl, k3⟩
    obtain ⟨y0, y5, y6⟩ := C.out.lt
    have LX : ∀ g ∈ blks (some ⟨gp, 0, none⟩) (some ⟨gs, 0, none⟩) (some ⟨gk, 0, none⟩), w.heap.size ≤ g ∧ g < wc.heap.size := fun g hg => ⟨C.out.oa.lo g hg, C.out.oa.blt g hg⟩
    have LY : ∀ g ∈ blks (some ⟨hp, 0, none⟩) (some ⟨hs, 0, none⟩) (some ⟨hk, 0, none⟩), w.heap.size ≤ g ∧ g < wc.heap.size := fun g hg => ⟨C.out.ob.lo g hg, C.out.ob.blt g hg⟩
    have LC' : ∀ g ∈ blks ca cb cc, wc.heap.size ≤ g ∧ g < w1.heap.size := fun g hg => ⟨OC2.out.lo g hg, LC.out g hg⟩
    have LD : ∀ g ∈ blks da db dc, w1.heap.size + 1 ≤ g ∧ g < w2.heap.size := fun g hg => ⟨OD2.out.lo g hg, OD2.out.blt g hg⟩
    have NB := C.out.nb
    have kx : Kp [] w2 (ext (w2.alloc (.cells #[.slice da a.pairs.length dp1, .slice db a.seps.length dp2, .slice dc a.kids.length dp3] 30)) (bs1 ++ (bs2 ++ bs3)) (m1 + m2 + m3)) := ((Kp.refl [] w2).alloc _).ext _ _
    have k3' : Kp (blks (some ⟨gp, 0, none⟩) (some ⟨gs, 0, none⟩) (some ⟨gk, 0, none⟩)) w2 w3 := kx.of_nil.trans k3
    have kw3 : Kp [] w w3 := C2.out.kp.from k3' (fun g hg => .inl (LX g hg).1)
    have oc3 := OC2.out.kp k3' (fun g hg e => by have := LC' g hg; have := LX g e; omega)
    have od3 := OD2.out.kp k3' (fun g hg e => by have := LD g hg; have := LX g e; omega)
    have oy3 := C2.out.ob.kp k3' (fun g hg e => C.out.dj g e hg)
    have b73 := b7.out.kp k3' (fun e => by have := LX _ e; omega)
    have b83 : Blk w3 w2.heap.size 30 #[.slice da a.pairs.length dp1, .slice db a.seps.length dp2, .slice dc a.kids.length dp3] := Blk.kp ((Blk.new w2 30 #[.slice da a.pairs.length dp1, .slice db a.seps.length dp2, .slice dc a.kids.length dp3]).kp ((Kp.refl [] _).ext (bs1 ++ (bs2 ++ bs3)) (m1 + m2 + m3)) (by simp)) k3 (fun e => by have := LX _ e; omega)
    have ck : ∀ W : World, Kp (blks ca cb cc ++ blks da db dc) w3 W →
        ((W.cell? ⟨w1.heap.size, 0, none⟩ = some (.slice ca a.pairs.length cp1) ∧ W.cell? ⟨w1.heap.size, 1, none⟩ = some (.slice cb a.seps.length cp2) ∧ W.cell? ⟨w1.heap.size, 2, none⟩ = some (.slice cc a.kids.length cp3)) ∧
         (W.cell? ⟨w2.heap.size, 0, none⟩ = some (.slice da a.pairs.length dp1) ∧ W.cell? ⟨w2.heap.size, 1, none⟩ = some (.slice db a.seps.length dp2) ∧ W.cell? ⟨w2.heap.size, 2, none⟩ = some (.slice dc a.kids.length dp3)) ∧
         (W.cell? ⟨B6, 0, none⟩ = some (.slice (some ⟨hp, 0, none⟩) b.pairs.length qc') ∧ W.cell? ⟨B6, 1, none⟩ = some (.slice (some ⟨hs, 0, none⟩) b.seps.length tc') ∧ W.cell? ⟨B6, 2, none⟩ = some (.slice (some ⟨hk, 0, none⟩) b.kids.length lc')) ∧
         (W.cell? ⟨w.heap.size, 0, none⟩ = some (.slice pa a.pairs.length pc) ∧ W.cell? ⟨w.heap.size, 1, none⟩ = some (.slice sa a.seps.length sc) ∧ W.cell? ⟨w.heap.size, 2, none⟩ = some (.slice ka a.kids.length kc)) ∧
         (W.cell? ⟨w.heap.size + 1, 0, none⟩ = some (.slice qa b.pairs.length qc) ∧ W.cell? ⟨w.heap.size + 1, 1, none⟩ = some (.slice ta b.seps.length tc) ∧ W.cell? ⟨w.heap.size + 1, 2, none⟩ = some (.slice la b.kids.length lc))) := by
      intro W k
      have far : ∀ g, (g < wc.heap.size ∨ g = w1.heap.size ∨ g = w2.heap.size) → g ∉ blks ca cb cc ++ blks da db dc := by
        intro g hg e
        rcases List.mem_append.1 e with e | e
        · have := LC' g e; omega
        · have := LD g e; omega
      have nx : ∀ g, g = w.heap.size ∨ g = w.heap.size + 1 ∨ g = B6 → g ∉ blks (some ⟨gp, 0, none⟩) (some ⟨gs, 0, none⟩) (some ⟨gk, 0, none⟩) := fun g hg e => by
        have h1 := NB g (List.mem_append.2 (.inl e))
        rcases hg with h | h | h
        · exact h1.1 h
        · exact h1.2.1 h
        · exact h1.2.2.2 h
      have c7 := b73.kp k (far _ (.inr (.inl rfl))); have c8 := b83.kp k (far _ (.inr (.inr rfl)))
      exact ⟨⟨c7.cell 0, c7.cell 1, c7.cell 2⟩, ⟨c8.cell 0, c8.cell 1, c8.cell 2⟩,
        ⟨k.cell (k3'.cell p9 (nx _ (.inr (.inr rfl)))) (far _ (.inl y6)), k.cell (k3'.cell p10 (nx _ (.inr (.inr rfl)))) (far _ (.inl y6)), k.cell (k3'.cell p11 (nx _ (.inr (.inr rfl)))) (far _ (.inl y6))⟩,
        ⟨k.cell (k3'.cell p0 (nx _ (.inl rfl))) (far _ (.inl (by simp; omega))), k.cell (k3'.cell p1 (nx _ (.inl rfl))) (far _ (.inl (by simp; omega))), k.cell (k3'.cell p2 (nx _ (.inl rfl))) (far _ (.inl (by simp; omega)))⟩,
        ⟨k.cell (k3'.cell p3 (nx _ (.inr (.inl rfl)))) (far _ (.inl y0)), k.cell (k3'.cell p4 (nx _ (.inr (.inl rfl)))) (far _ (.inl y0)), k.cell (k3'.cell p5 (nx _ (.inr (.inl rfl)))) (far _ (.inl y0))⟩⟩
    have SK := Lib.hid ck; have OC3 := Lib.hid oc3; have OD3 := Lib.hid od3; have OY3 := Lib.hid oy3; have KW3 := Lib.hid kw3
    have FD : Hid (∀ g ∈ blks ca cb cc, g ∉ blks da db dc) := Lib.hid (fun g hg e => by have := LC' g hg; have := LD g e; omega)
    have FY : Hid (∀ g ∈ blks (some ⟨hp, 0, none⟩) (some ⟨hs, 0, none⟩) (some ⟨hk, 0, none⟩), g ∉ blks ca cb cc ++ blks da db dc) := Lib.hid (fun g hg e => by
      have := LY g hg
      rcases List.mem_append.1 e with e | e
      · have := LC' g e; omega
      · have := LD g e; omega)
    have FW : Hid (∀ g, g ∈ blks ca cb cc ++ blks da db dc → w.heap.size ≤ g ∨ g ∈ ([] : List Nat)) := Lib.hid (fun g e => by
      rcases List.mem_append.1 e with e | e
      · have := LC' g e; omega
      · have := LD g e; omega)
    have zl : wc.heap.size ≤ w3.heap.size ∧ w1.heap.size + 1 ≤ w3.heap.size := by have := k3'.size; have := b73.lt; omega
    obtain ⟨zl1, zl2⟩ := zl
    clear ck oc3 od3 oy3 kw3 LX LY LC' LD NB kx k3' b73 b83 p0 p1 p2 p3 p4 p5 p6 p7 p8 p9 p10 p11 q0 q1 q2 z0 z5 z6 z7 HA HB k3
    go_wp2_with fail
    go_region_held3 (fun W => ((W.cell? ⟨w1.heap.size, 0, none⟩ = some (.slice ca a.pairs.length cp1) ∧ W.cell? ⟨w1.heap.size, 1, none⟩ = some (.slice cb a.seps.length cp2) ∧ W.cell? ⟨w1.heap.size, 2, none⟩ = some (.slice cc a.kids.length cp3)) ∧
         (W.cell? ⟨w2.heap.size, 0, none⟩ = some (.slice da a.pairs.length dp1) ∧ W.cell? ⟨w2.heap.size, 1, none⟩ = some (.slice db a.seps.length dp2) ∧ W.cell? ⟨w2.heap.size, 2, none⟩ = some (.slice dc a.kids.length dp3)) ∧
         (W.cell? ⟨B6, 0, none⟩ = some (.slice (some ⟨hp, 0, none⟩) b.pairs.length qc') ∧ W.cell? ⟨B6, 1, none⟩ = some (.slice (some ⟨hs, 0, none⟩) b.seps.length tc') ∧ W.cell? ⟨B6, 2, none⟩ = some (.slice (some ⟨hk, 0, none⟩) b.kids.length lc')) ∧
         (W.cell? ⟨w.heap.size, 0, none⟩ = some (.slice pa a.pairs.length pc) ∧ W.cell? ⟨w.heap.size, 1, none⟩ = some (.slice sa a.seps.length sc) ∧ W.cell? ⟨w.heap.size, 2, none⟩ = some (.slice ka a.kids.length kc)) ∧
         (W.cell? ⟨w.heap.size + 1, 0, none⟩ = some (.slice qa b.pairs.length qc) ∧ W.cell? ⟨w.heap.size + 1, 1, none⟩ = some (.slice ta b.seps.length tc) ∧ W.cell? ⟨w.heap.size + 1, 2, none⟩ = some (.slice la b.kids.length lc))))
      (first | exact SK.out _ KS9.out | exact SK.out _ KS8.out | exact SK.out _ KS7.out | exact SK.out _ KS6.out | exact SK.out _ KS5.out | exact SK.out _ KS4.out | exact SK.out _ ((Kp.refl _ _).drew) | exact SK.out _ (Kp.refl _ _))
      (first
        | ((with_reducible (go_at_call 24)); refine (refSame_true ya yb yc qa ta la yp1 yp2 yp3 qc tc lc b b _ OY6.out.at (HB0.out.kp0 (KW3.out.from KS6.out FW.out)) OB.out OB.out rfl).mono ?_; rintro e w7 ⟨rfl, hx7⟩; have KS7 : Hid (Kp (blks ca cb cc ++ blks da db dc) w3 w7) := Lib.hid (by obtain ⟨bx, nx, rfl⟩ := hx7; exact KS6.out.ext _ _); clear hx7)
        | ((with_reducible (go_at_call 24)); refine (refSame_true ca cb cc pa sa ka cp1 cp2 cp3 pc sc kc a a _ (OC3.out.at.kp0 (by first | exact (Kp.refl [] _).drew | exact Kp.refl [] _)) (HA0.out.kp0 (KW3.out.trans (by first | exact (Kp.refl [] _).drew | exact Kp.refl [] _))) OA.out OA.out rfl).mono ?_; rintro e w4 ⟨rfl, hx4⟩; have KT4 : Hid (Kp [] w3 w4) := Lib.hid (by obtain ⟨bx, nx, rfl⟩ := hx4; first | exact ((Kp.refl [] _).drew).ext _ _ | exact (Kp.refl [] _).ext _ _); have KS4 : Hid (Kp (blks ca cb cc ++ blks da db dc) w3 w4) := Lib.hid KT4.out.of_nil; clear hx4)
        | ((with_reducible (go_at_call 27)); refine (apart_any wc.heap.size (w1.heap.size + 1) ca cb cc da db dc cp1 cp2 cp3 dp1 dp2 dp3 a a _ (OC3.out.kp KT4.out (by simp)) (OD3.out.kp KT4.out (by simp)) FD.out (Nat.le_trans zl1 KT4.out.size) (Nat.le_trans zl2 KT4.out.size) FA.out FA.out).mono ?_; rintro e w5 ⟨rfl, k5⟩; have KS5 : Hid (Kp (blks ca cb cc ++ blks da db dc) w3 w5) := Lib.hid (KS4.out.trans k5); clear k5)
        | ((with_reducible (go_at_call 21)); refine (copy_any (some ⟨hp, 0, none⟩) (some ⟨hs, 0, none⟩) (some ⟨hk, 0, none⟩) qc' tc' lc' b _ (Own3.lent (OY3.out.kp KS5.out FY.out)).1 OB.out).mono ?_; rintro e w6 ⟨ya, yb, yc, yp1, yp2, yp3, rfl, oy, k6⟩; have KS6 : Hid (Kp (blks ca cb cc ++ blks da db dc) w3 w6) := Lib.hid (KS5.out.trans k6.of_nil); have OY6 := Lib.hid oy; clear k6 oy)
        | ((with_reducible (go_at_call 25)); refine (kept_any hp hs hk qc' tc' lc' w.heap.size qa ta la qc tc lc b _ (OY3.out.kp KS7.out FY.out) (HB0.out.kp0 (KW3.out.from KS7.out FW.out)) OB.out FB.out).mono ?_; rintro e w8 ⟨rfl, hx8⟩; have KS8 : Hid (Kp (blks ca cb cc ++ blks da db dc) w3 w8) := Lib.hid (by obtain ⟨bx, nx, rfl⟩ := hx8; exact KS7.out.ext _ _); clear hx8)
        | ((with_reducible (go_at_call 13)); refine (lives_any _).mono ?_; rintro e w9 ⟨rfl, hx9⟩; have KS9 : Hid (Kp (blks ca cb cc ++ blks da db dc) w3 w9) := Lib.hid (by obtain ⟨bx, nx, rfl⟩ := hx9; exact KS8.out.ext _ _); clear hx9))
    all_goals go_wp2_with fail
    all_goals go_ret
    all_goals exact ⟨rfl, (KW3.out.from KS9.out FW.out).to_ext⟩

end Go.Proofs.Ytemicgccgcmmbaa
