/- apart: two answers share nothing. -/
import Derived.Test.YtemicgccgcmmbaaGreatZ16
import Derived.Test.YtemicgccgcmmbaaGreatZ8
import Derived.Test.YtemicgccgcmmbaaGreatZ7
import Derived.Test.YtemicgccgcmmbaaGreatZ13
import Derived.Test.YtemicgccgcmmbaaGreatZ14
namespace Go.Proofs.YtemicgccgcmmbaaGreat
set_option linter.unusedVariables false
set_option linter.unusedSimpArgs false
open Go Go.RowKit

def blks (pa sa ka : Option Addr) : List Nat := ab pa ++ ab sa ++ ab ka

theorem spoil_at (mark : UInt8) (v : Int) (hv : (mark.toNat : Int) = v) {lo : Nat} {pa sa ka : Option Addr} {pc sc kc lp ls lk : Nat} {n : Nd} {w : World} (h : Own3 w lo pa sa ka pc sc kc n) (hf : NdFew n) (e1 : n.pairs.length = lp) (e2 : n.seps.length = ls) (e3 : n.kids.length = lk) :
    Calls Tryz.prog 38 #[.agg #[.slice pa lp pc, .slice sa ls sc, .slice ka lk kc], .int .u32 v] w fun e w' =>
      e = .returned (.tuple #[]) ∧ Own3 w' lo pa sa ka pc sc kc (n.spoilt mark) ∧ Kp (blks pa sa ka) w w' := by
  subst hv e1 e2 e3
  have := spoil_any mark lo pa sa ka pc sc kc n Nd.none w (by rw [Nd.app_none]; exact h) hf
  refine this.mono ?_
  rintro e w' ⟨h1, h2, h3⟩
  rw [Nd.app_none] at h2
  exact ⟨h1, h2, h3⟩

theorem grown_at (mark : UInt8) (v : Int) (hv : (mark.toNat : Int) = v) {lo : Nat} {pa sa ka : Option Addr} {pc sc kc lp ls lk : Nat} {n : Nd} {w : World} (h : Own3 w lo pa sa ka pc sc kc n) (hl : lo ≤ w.heap.size) (hf : NdFew n) (e1 : n.pairs.length = lp) (e2 : n.seps.length = ls) (e3 : n.kids.length = lk) :
    Calls Tryz.prog 39 #[.agg #[.slice pa lp pc, .slice sa ls sc, .slice ka lk kc], .int .u32 v] w fun e w' =>
      ∃ qa ta la qc tc lc, e = .returned (.agg #[.slice qa (lp + 40) qc, .slice ta (ls + 40) tc, .slice la (lk + 40) lc]) ∧ Own3 w' lo qa ta la qc tc lc (n.app (Nd.ys mark 40)) ∧ NdAt w' pa sa ka n ∧ Kp (blks pa sa ka) w w' ∧
        ∀ g ∈ blks qa ta la, g ∈ blks pa sa ka ∨ w.heap.size ≤ g := by
  subst hv e1 e2 e3
  refine (grown_any mark lo pa sa ka pc sc kc n w h hl hf).mono ?_
  rintro e w' ⟨qa, ta, la, qc, tc, lc, he, ho, hn, hk, h1, h2, h3⟩
  refine ⟨qa, ta, la, qc, tc, lc, he, ho, hn, hk, fun g hg => ?_⟩
  simp only [blks, List.mem_append] at hg ⊢
  rcases hg with (hg | hg) | hg
  · rcases h1 g hg with h | h
    · exact .inl (.inl (.inl h))
    · exact .inr h
  · rcases h2 g hg with h | h
    · exact .inl (.inl (.inr h))
    · exact .inr h
  · rcases h3 g hg with h | h
    · exact .inl (.inr h)
    · exact .inr h

theorem marked_at (mark : UInt8) (v : Int) (hv : (mark.toNat : Int) = v) {pa sa ka : Option Addr} {pc sc kc lp ls lk p s q : Nat} {m : Nd} {w : World} (h : NdAt w pa sa ka m) (hm : MkN mark m p s q) (b1 : m.pairs.length ≤ 2000000) (b2 : m.seps.length ≤ 2000000) (b3 : m.kids.length ≤ 2000000) (b4 : p ≤ 2000000) (b5 : s ≤ 2000000) (b6 : q ≤ 2000000)
    (e1 : m.pairs.length = lp) (e2 : m.seps.length = ls) (e3 : m.kids.length = lk) :
    Calls Tryz.prog 40 #[.agg #[.slice pa lp pc, .slice sa ls sc, .slice ka lk kc], .int .i64 p, .int .i64 s, .int .i64 q, .int .u32 v] w (Rets (.bool true) w) := by
  subst hv e1 e2 e3
  exact marked_any mark pa sa ka pc sc kc p s q m w h hm b1 b2 b3 b4 b5 b6

theorem Own3.blt {w : World} {lo : Nat} {pa sa ka : Option Addr} {pc sc kc : Nat} {n : Nd} (h : Own3 w lo pa sa ka pc sc kc n) : ∀ g ∈ blks pa sa ka, g < w.heap.size := fun g hg => by
  simp only [blks, List.mem_append] at hg
  rcases hg with (hg | hg) | hg
  · exact h.ps.lt g hg
  · exact h.ss.lt g hg
  · exact h.ks.lt g hg

set_option maxHeartbeats 4000000 in
set_option maxRecDepth 100000 in
theorem apart_any (lo1 lo2 : Nat) (pa sa ka qa ta la : Option Addr) (pc sc kc qc tc lc : Nat) (n m : Nd) (w : World) (h : Own3 w lo1 pa sa ka pc sc kc n) (k : Own3 w lo2 qa ta la qc tc lc m) (hd : ∀ g ∈ blks pa sa ka, g ∉ blks qa ta la) (hl1 : lo1 ≤ w.heap.size) (hl2 : lo2 ≤ w.heap.size) (hf : NdFew n) (kf : NdFew m) :
    Calls Tryz.prog 11 #[.agg #[.slice pa n.pairs.length pc, .slice sa n.seps.length sc, .slice ka n.kids.length kc], .agg #[.slice qa m.pairs.length qc, .slice ta m.seps.length tc, .slice la m.kids.length lc]] w fun e w' =>
      e = .returned (.bool true) ∧ Kp (blks pa sa ka ++ blks qa ta la) w w' := by
  have fp := hf.np; have fs := hf.ns; have fk := hf.nk
  have gp := kf.np; have gs := kf.ns; have gk := kf.nk
  have hA := h.blt; have hB := k.blt
  obtain ⟨W0, hW0⟩ : ∃ W0, W0 = (w.alloc (.cells #[.slice pa n.pairs.length pc, .slice sa n.seps.length sc, .slice ka n.kids.length kc] 28)).alloc (.cells #[.slice qa m.pairs.length qc, .slice ta m.seps.length tc, .slice la m.kids.length lc] 28) := ⟨_, rfl⟩
  have kw : Kp [] w W0 := by rw [hW0]; exact ((Kp.refl [] w).alloc _).alloc _
  have b0 : Blk W0 w.heap.size 28 #[.slice pa n.pairs.length pc, .slice sa n.seps.length sc, .slice ka n.kids.length kc] := by rw [hW0]; exact (Blk.new w _ _).alloc _
  have b1 : Blk W0 (w.heap.size + 1) 28 #[.slice qa m.pairs.length qc, .slice ta m.seps.length tc, .slice la m.kids.length lc] := by
    rw [hW0]
    have h := Blk.new (w.alloc (.cells #[.slice pa n.pairs.length pc, .slice sa n.seps.length sc, .slice ka n.kids.length kc] 28)) 28 #[.slice qa m.pairs.length qc, .slice ta m.seps.length tc, .slice la m.kids.length lc]
    simpa using h
  have nA0 : w.heap.size ∉ blks pa sa ka := fun e => by have := hA _ e; omega
  have nA1 : w.heap.size + 1 ∉ blks pa sa ka := fun e => by have := hA _ e; omega
  have nB0 : w.heap.size ∉ blks qa ta la := fun e => by have := hB _ e; omega
  have nB1 : w.heap.size + 1 ∉ blks qa ta la := fun e => by have := hB _ e; omega
  have hz0 : w.heap.size + 1 < W0.heap.size := b1.lt
  have KW := Lib.hid kw; have B0 := Lib.hid b0; have B1 := Lib.hid b1; have HD := Lib.hid hd; have HA := Lib.hid hA; have HB := Lib.hid hB
  have OA := Lib.hid (h.kp kw (by simp)); have OB := Lib.hid (k.kp kw (by simp))
  have NA0 := Lib.hid nA0; have NA1 := Lib.hid nA1; have NB0 := Lib.hid nB0; have NB1 := Lib.hid nB1
  have HF := Lib.hid hf; have KF := Lib.hid kf
  have HW0 := Lib.hid hW0
  clear h k hd kw b0 b1 hA hB nA0 nA1 nB0 nB1 hf kf hW0
  go_enter Tryz.func11, Tryz.ntmps11
  go_wp2_with fail
  rw [← HW0.out]
  refine (spoil_at 1 1 rfl OA.out HF.out rfl rfl rfl).mono ?_
  rintro e w1 ⟨rfl, oA, k1⟩
  have K1 := Lib.hid k1; have OA1 := Lib.hid oA
  have OB1 := Lib.hid (OB.out.kp k1 (fun g hg e => HD.out g e hg))
  have B01 := Lib.hid (B0.out.kp k1 NA0.out); have B11 := Lib.hid (B1.out.kp k1 NA1.out)
  obtain ⟨c1, c2, c3, -, -, -, g1⟩ := LtI.facts B01.out
  obtain ⟨d1, d2, d3, -, -, -, g2⟩ := LtI.facts B11.out
  have z1 := k1.size
  clear oA k1
  go_wp2_with fail
  refine (spoil_at 2 2 rfl OB1.out KF.out rfl rfl rfl).mono ?_
  rintro e w2 ⟨rfl, oB, k2⟩
  have K2 := Lib.hid k2; have OB2 := Lib.hid oB
  have OA2 := Lib.hid (OA1.out.kp k2 HD.out)
  have B02 := Lib.hid (B01.out.kp k2 NB0.out); have B12 := Lib.hid (B11.out.kp k2 NB1.out)
  clear c1 c2 c3 d1 d2 d3 g1 g2
  obtain ⟨c1, c2, c3, -, -, -, g1⟩ := LtI.facts B02.out
  obtain ⟨d1, d2, d3, -, -, -, g2⟩ := LtI.facts B12.out
  have z2 := k2.size
  have FA : Hid (NdFew (n.spoilt 1)) := Lib.hid ⟨by simpa [Nd.spoilt] using fp, by simpa [Nd.spoilt] using fs, by simpa [Nd.spoilt] using fk⟩
  have FB : Hid (NdFew (m.spoilt 2)) := Lib.hid ⟨by simpa [Nd.spoilt] using gp, by simpa [Nd.spoilt] using gs, by simpa [Nd.spoilt] using gk⟩
  clear oB k2
  go_wp2_with fail
  refine (grown_at 1 1 rfl OA2.out (by omega) FA.out (by simp [Nd.spoilt]) (by simp [Nd.spoilt]) (by simp [Nd.spoilt])).mono ?_
  rintro e w3 ⟨xa, xb, xc, ya, yb, yc, rfl, oX, nA, k3, hX⟩
  have K3 := Lib.hid k3
  have OX := Lib.hid (oX.kp ((Kp.refl [] w3).alloc (.cells #[.slice xa (n.pairs.length + 40) ya, .slice xb (n.seps.length + 40) yb, .slice xc (n.kids.length + 40) yc] 28)) (by simp))
  have NA3 := Lib.hid (nA.kp0 ((Kp.refl [] w3).alloc (.cells #[.slice xa (n.pairs.length + 40) ya, .slice xb (n.seps.length + 40) yb, .slice xc (n.kids.length + 40) yc] 28)))
  have OB3 := Lib.hid ((OB2.out.kp k3 (fun g hg e => HD.out g e hg)).kp ((Kp.refl [] w3).alloc (.cells #[.slice xa (n.pairs.length + 40) ya, .slice xb (n.seps.length + 40) yb, .slice xc (n.kids.length + 40) yc] 28)) (by simp))
  have B03 := Lib.hid (B02.out.kp k3 NA0.out); have B13 := Lib.hid (B12.out.kp k3 NA1.out)
  have HX := Lib.hid hX
  clear c1 c2 c3 d1 d2 d3 g1 g2
  obtain ⟨c1, c2, c3, -, -, -, g1⟩ := LtI.facts B03.out
  obtain ⟨d1, d2, d3, -, -, -, g2⟩ := LtI.facts B13.out
  have z3 := k3.size
  clear oX nA k3 hX
  go_wp2_with fail
  refine (grown_at 2 2 rfl OB3.out (by simp; omega) FB.out (by simp [Nd.spoilt]) (by simp [Nd.spoilt]) (by simp [Nd.spoilt])).mono ?_
  rintro e w4 ⟨ua, ub, uc, va, vb, vc, rfl, oY, nB, k4, hY⟩
  have K4 := Lib.hid k4
  have z4 := k4.size
  have z3' : (w3.alloc (.cells #[.slice xa (n.pairs.length + 40) ya, .slice xb (n.seps.length + 40) yb, .slice xc (n.kids.length + 40) yc] 28)).heap.size = w3.heap.size + 1 := by simp
  have nx : ∀ g ∈ blks xa xb xc, g ∉ blks qa ta la := fun g hg e => by
    rcases HX.out g hg with h1 | h1
    · exact HD.out g h1 e
    · have := HB.out g e; have := K1.out.size; omega
  have nX5 : w3.heap.size ∉ blks qa ta la := fun e => by have := HB.out _ e; have := K1.out.size; omega
  have OX4 := Lib.hid ((OX.out.kp k4 nx).kp ((Kp.refl [] w4).alloc (.cells #[.slice ua (m.pairs.length + 40) va, .slice ub (m.seps.length + 40) vb, .slice uc (m.kids.length + 40) vc] 28)) (by simp))
  have OY4 := Lib.hid (oY.kp ((Kp.refl [] w4).alloc (.cells #[.slice ua (m.pairs.length + 40) va, .slice ub (m.seps.length + 40) vb, .slice uc (m.kids.length + 40) vc] 28)) (by simp))
  have hdA : ∀ a, a = pa ∨ a = sa ∨ a = ka → ∀ g ∈ ab a, g ∉ blks qa ta la := fun a ha g hg => HD.out g (by simp only [blks, List.mem_append]; rcases ha with rfl | rfl | rfl <;> simp [hg])
  have NA4 := Lib.hid ((NA3.out.kp k4 (hdA pa (.inl rfl)) (hdA sa (.inr (.inl rfl))) (hdA ka (.inr (.inr rfl)))).kp0 ((Kp.refl [] w4).alloc (.cells #[.slice ua (m.pairs.length + 40) va, .slice ub (m.seps.length + 40) vb, .slice uc (m.kids.length + 40) vc] 28)))
  have NB4 := Lib.hid (nB.kp0 ((Kp.refl [] w4).alloc (.cells #[.slice ua (m.pairs.length + 40) va, .slice ub (m.seps.length + 40) vb, .slice uc (m.kids.length + 40) vc] 28)))
  have B04 := Lib.hid ((B03.out.alloc (.cells #[.slice xa (n.pairs.length + 40) ya, .slice xb (n.seps.length + 40) yb, .slice xc (n.kids.length + 40) yc] 28)).kp k4 NB0.out); have B14 := Lib.hid ((B13.out.alloc (.cells #[.slice xa (n.pairs.length + 40) ya, .slice xb (n.seps.length + 40) yb, .slice xc (n.kids.length + 40) yc] 28)).kp k4 NB1.out)
  have B54 := Lib.hid ((Blk.new w3 28 #[.slice xa (n.pairs.length + 40) ya, .slice xb (n.seps.length + 40) yb, .slice xc (n.kids.length + 40) yc]).kp k4 nX5)
  clear c1 c2 c3 d1 d2 d3 g1 g2
  obtain ⟨c1, c2, c3, -, -, -, g1⟩ := LtI.facts B04.out
  obtain ⟨d1, d2, d3, -, -, -, g2⟩ := LtI.facts B14.out
  obtain ⟨f1, f2, f3, -, -, -, g3⟩ := LtI.facts B54.out
  have M1 := Lib.hid (MkN.of 1 n 40); have M2 := Lib.hid (MkN.of 2 m 40)
  have ys0 : ∀ (mark : UInt8) (x : Nd), x.app (Nd.ys mark 0) = x := fun mark x => by simp [Nd.app, Nd.ys]
  have M3 := Lib.hid (show MkN 1 (n.spoilt 1) n.pairs.length n.seps.length n.kids.length by have := MkN.of 1 n 0; rwa [ys0] at this)
  have M4 := Lib.hid (show MkN 2 (m.spoilt 2) m.pairs.length m.seps.length m.kids.length by have := MkN.of 2 m 0; rwa [ys0] at this)
  clear oY nB k4 nx nX5 hdA ys0 hY
  go_wp2_with fail
  refine (marked_at 1 1 rfl OX4.out.at M1.out (by simp [Nd.app, Nd.ys, Nd.spoilt]; omega) (by simp [Nd.app, Nd.ys, Nd.spoilt]; omega) (by simp [Nd.app, Nd.ys, Nd.spoilt]; omega) (by omega) (by omega) (by omega) (by simp [Nd.app, Nd.ys, Nd.spoilt]) (by simp [Nd.app, Nd.ys, Nd.spoilt]) (by simp [Nd.app, Nd.ys, Nd.spoilt])).mono ?_
  rintro e w' ⟨rfl, bs1, m1, rfl⟩
  go_wp2_with fail
  refine (marked_at 2 2 rfl (OY4.out.at.kp0 ((Kp.refl [] _).ext _ _)) M2.out (by simp [Nd.app, Nd.ys, Nd.spoilt]; omega) (by simp [Nd.app, Nd.ys, Nd.spoilt]; omega) (by simp [Nd.app, Nd.ys, Nd.spoilt]; omega) (by omega) (by omega) (by omega) (by simp [Nd.app, Nd.ys, Nd.spoilt]) (by simp [Nd.app, Nd.ys, Nd.spoilt]) (by simp [Nd.app, Nd.ys, Nd.spoilt])).mono ?_
  rintro e w' ⟨rfl, bs2, m2, rfl⟩
  go_wp2_with fail
  refine (marked_at 1 1 rfl (NA4.out.kp0 ((Kp.refl [] _).ext _ _)) M3.out (by simp [Nd.spoilt]; omega) (by simp [Nd.spoilt]; omega) (by simp [Nd.spoilt]; omega) (by omega) (by omega) (by omega) (by simp [Nd.spoilt]) (by simp [Nd.spoilt]) (by simp [Nd.spoilt])).mono ?_
  rintro e w' ⟨rfl, bs3, m3, rfl⟩
  go_wp2_with fail
  refine (marked_at 2 2 rfl (NB4.out.kp0 ((Kp.refl [] _).ext _ _)) M4.out (by simp [Nd.spoilt]; omega) (by simp [Nd.spoilt]; omega) (by simp [Nd.spoilt]; omega) (by omega) (by omega) (by omega) (by simp [Nd.spoilt]) (by simp [Nd.spoilt]) (by simp [Nd.spoilt])).mono ?_
  rintro e w' ⟨rfl, bs4, m4, rfl⟩
  go_wp2_with fail
  go_ret
  refine ⟨rfl, ?_⟩
  have kk : Kp (blks pa sa ka ++ blks qa ta la) w w4 := ((((KW.out.of_nil).trans (K1.out.mono (fun _ _ h => by simp [h]))).trans (K2.out.mono (fun _ _ h => by simp [h]))).trans (K3.out.mono (fun _ _ h => by simp [h]))).trans (((Kp.refl _ w3).alloc _).trans (K4.out.mono (fun _ _ h => by simp [h])))
  exact (kk.alloc _).ext _ _

end Go.Proofs.YtemicgccgcmmbaaGreat

/- The two nodes of 'lives', in plain words. -/
namespace Go.Proofs.YtemicgccgcmmbaaGreat
set_option linter.unusedVariables false
set_option linter.unusedSimpArgs false
open Go Go.RowKit

def lN : Nd := ⟨[([97], [120]), ([98], [])], [], []⟩
def bN : Nd := ⟨[], [[109]], [⟨5, Dg.pad [10, 11]⟩, ⟨9, Dg.pad [12, 13]⟩]⟩
def tS : Bs := [2, 2, 0, 0, 0, 5, 10, 11, 1, 109, 0, 0, 0, 9, 12, 13]

theorem l_size : SizeE 1024 2 lN = 9 := by decide +kernel
theorem l_pack : packE 1024 2 lN = 0 := by decide +kernel
theorem l_packS : packS 1024 2 lN = [1, 2, 1, 97, 1, 120, 1, 98, 0] := by decide +kernel
theorem b_pack : packE 1024 2 bN = 0 := by decide +kernel
theorem b_packS : packS 1024 2 bN = tS := by decide +kernel
theorem b_plain : mayE 1024 2 bN = 0 := by decide +kernel
theorem b_plainS : plainS 1024 2 bN = [2, 2, 10, 11, 1, 109, 12, 13] := by decide +kernel
theorem b_unpack : unpackP 1024 2 tS = some bN := by decide +kernel
theorem l_ok : NdOk lN := ⟨by decide, by decide, by decide, by decide, by decide, by decide⟩
theorem b_ok : NdOk bN := ⟨by decide, by decide, by decide, by decide, by decide, by decide⟩

end Go.Proofs.YtemicgccgcmmbaaGreat

/- 'lives' answers true. -/
namespace Go.Proofs.YtemicgccgcmmbaaGreat
set_option linter.unusedVariables false
set_option linter.unusedSimpArgs false
open Go Go.RowKit

def k5 : Kd := ⟨5, Dg.pad [10, 11]⟩
def k9 : Kd := ⟨9, Dg.pad [12, 13]⟩
def two : Array Value := k5.c ++ k9.c
def dA : Dg := Dg.pad [10, 11]
def dB : Dg := Dg.pad [12, 13]
def bd2 (t : TypeId) (x y : Value) : Sem Next := do pure (.value (← Instr.build t #[(0, x), (1, y)]))
def bs2 (t : TypeId) (x y : Value) : Sem Next := do pure (.value (← Instr.buildSlice t 2 #[(0, x), (1, y)]))
@[go_sem ↓] theorem exec_bd_dg (a : Act) (dst : Option Tmp) (x y : Operand) (ty : TypeId) (pos : String) (after : Array Edge) (guard : Option (Nat × Bool)) :
    execOp a.eval { dst, op := .build 36 #[(0, x), (1, y)], type := ty, pos, after, guard } = bd2 36 (a.eval x) (a.eval y) := by simp [execOp, bd2]
@[go_sem ↓] theorem exec_bd_kd (a : Act) (dst : Option Tmp) (x y : Operand) (ty : TypeId) (pos : String) (after : Array Edge) (guard : Option (Nat × Bool)) :
    execOp a.eval { dst, op := .build 59 #[(0, x), (1, y)], type := ty, pos, after, guard } = bd2 59 (a.eval x) (a.eval y) := by simp [execOp, bd2]
@[go_sem ↓] theorem exec_bs2_kd (a : Act) (dst : Option Tmp) (x y : Operand) (ty : TypeId) (pos : String) (after : Array Edge) (guard : Option (Nat × Bool)) :
    execOp a.eval { dst, op := .buildSlice 26 2 #[(0, x), (1, y)], type := ty, pos, after, guard } = bs2 26 (a.eval x) (a.eval y) := by simp [execOp, bs2]
@[go_sem] theorem build_dA (w : World) : (bd2 36 (.int .u8 10) (.int .u8 11)).run Tryz.prog w = .ok (.value (.agg dA.c)) w := by kernel_rfl
@[go_sem] theorem build_dB (w : World) : (bd2 36 (.int .u8 12) (.int .u8 13)).run Tryz.prog w = .ok (.value (.agg dB.c)) w := by kernel_rfl
@[go_sem] theorem build_k5 (w : World) : (bd2 59 (.int .u32 5) (.agg dA.c)).run Tryz.prog w = .ok (.value (.agg k5.c)) w := by kernel_rfl
@[go_sem] theorem build_k9 (w : World) : (bd2 59 (.int .u32 9) (.agg dB.c)).run Tryz.prog w = .ok (.value (.agg k9.c)) w := by kernel_rfl
@[go_sem] theorem build_two (w : World) : (bs2 26 (.agg k5.c) (.agg k9.c)).run Tryz.prog w = .ok (.value (.slice (some ⟨w.heap.size, 0, none⟩) 2 2)) (w.alloc (.cells two 59)) := by kernel_rfl

def lW (w : World) : World := (((((w.alloc (.cells #[.int .i64 1024, .int .i64 2] 23)).alloc (.cells #[.string ⟨#[97]⟩, .string ⟨#[120]⟩, .string ⟨#[98]⟩, .string ⟨#[]⟩] 56)).alloc (.cells #[.slice (some ⟨w.heap.size + 1, 0, none⟩) 2 2, .slice none 0 0, .slice none 0 0] 28)).alloc (.cells #[.string ⟨#[109]⟩] 9)).alloc (.cells two 59)).alloc (.cells #[.slice none 0 0, .slice (some ⟨w.heap.size + 1 + 1 + 1, 0, none⟩) 1 1, .slice (some ⟨w.heap.size + 1 + 1 + 1 + 1, 0, none⟩) 2 2] 28)

theorem lW_l (w : World) : NdAt (lW w) (some ⟨w.heap.size + 1, 0, none⟩) none none lN := by
  have hb : Blk (lW w) (w.heap.size + 1) 56 #[.string ⟨#[97]⟩, .string ⟨#[120]⟩, .string ⟨#[98]⟩, .string ⟨#[]⟩] := by
    have h := ((((Blk.new (w.alloc (.cells #[.int .i64 1024, .int .i64 2] 23)) 56 #[.string ⟨#[97]⟩, .string ⟨#[120]⟩, .string ⟨#[98]⟩, .string ⟨#[]⟩]).alloc (.cells #[.slice (some ⟨w.heap.size + 1, 0, none⟩) 2 2, .slice none 0 0, .slice none 0 0] 28)).alloc (.cells #[.string ⟨#[109]⟩] 9)).alloc (.cells two 59)).alloc (.cells #[.slice none 0 0, .slice (some ⟨w.heap.size + 1 + 1 + 1, 0, none⟩) 1 1, .slice (some ⟨w.heap.size + 1 + 1 + 1 + 1, 0, none⟩) 2 2] 28)
    simp only [World.size_alloc] at h
    exact h
  refine ⟨?_, SsAt.nil _ _, KsAt.nil _ _⟩
  intro i p hp
  match i, hp with
  | 0, hp => simp [lN] at hp; subst hp; exact ⟨_, _, rfl, hb.lt, hb.cell 0, hb.cell 1⟩
  | 1, hp => simp [lN] at hp; subst hp; exact ⟨_, _, rfl, hb.lt, hb.cell 2, hb.cell 3⟩
  | i + 2, hp => simp [lN] at hp
theorem lW_b (w : World) : NdAt (lW w) none (some ⟨w.heap.size + 1 + 1 + 1, 0, none⟩) (some ⟨w.heap.size + 1 + 1 + 1 + 1, 0, none⟩) bN := by
  have hb : Blk (lW w) (w.heap.size + 1 + 1 + 1) 9 #[.string ⟨#[109]⟩] := by
    have h := ((Blk.new (((w.alloc (.cells #[.int .i64 1024, .int .i64 2] 23)).alloc (.cells #[.string ⟨#[97]⟩, .string ⟨#[120]⟩, .string ⟨#[98]⟩, .string ⟨#[]⟩] 56)).alloc (.cells #[.slice (some ⟨w.heap.size + 1, 0, none⟩) 2 2, .slice none 0 0, .slice none 0 0] 28)) 9 #[.string ⟨#[109]⟩]).alloc (.cells two 59)).alloc (.cells #[.slice none 0 0, .slice (some ⟨w.heap.size + 1 + 1 + 1, 0, none⟩) 1 1, .slice (some ⟨w.heap.size + 1 + 1 + 1 + 1, 0, none⟩) 2 2] 28)
    simp only [World.size_alloc] at h
    exact h
  have hk : Blk (lW w) (w.heap.size + 1 + 1 + 1 + 1) 59 two := by
    have h := (Blk.new ((((w.alloc (.cells #[.int .i64 1024, .int .i64 2] 23)).alloc (.cells #[.string ⟨#[97]⟩, .string ⟨#[120]⟩, .string ⟨#[98]⟩, .string ⟨#[]⟩] 56)).alloc (.cells #[.slice (some ⟨w.heap.size + 1, 0, none⟩) 2 2, .slice none 0 0, .slice none 0 0] 28)).alloc (.cells #[.string ⟨#[109]⟩] 9)) 59 two).alloc (.cells #[.slice none 0 0, .slice (some ⟨w.heap.size + 1 + 1 + 1, 0, none⟩) 1 1, .slice (some ⟨w.heap.size + 1 + 1 + 1 + 1, 0, none⟩) 2 2] 28)
    simp only [World.size_alloc] at h
    exact h
  have hrow : ∀ o, rowAt? (lW w) ⟨w.heap.size + 1 + 1 + 1 + 1, o, none⟩ 33 = if o + 33 ≤ two.size then some (two.extract o (o + 33)) else none := by
    intro o; unfold Blk at hk; simp [rowAt?, hk]
  refine ⟨PsAt.nil _ _, ?_, ?_⟩
  · intro i p hp
    match i, hp with
    | 0, hp => simp [bN] at hp; subst hp; exact ⟨_, _, rfl, hb.lt, hb.cell 0⟩
    | i + 1, hp => simp [bN] at hp
  · intro i p hp
    match i, hp with
    | 0, hp =>
      simp [bN] at hp; subst hp
      exact ⟨_, _, rfl, hk.lt, by rw [hrow]; kernel_rfl⟩
    | 1, hp =>
      simp [bN] at hp; subst hp
      exact ⟨_, _, rfl, hk.lt, by rw [hrow]; kernel_rfl⟩
    | i + 2, hp => simp [bN] at hp

theorem lW_f (w : World) : Blk (lW w) w.heap.size 23 #[.int .i64 1024, .int .i64 2] := by
  have h := (((((Blk.new w 23 #[.int .i64 1024, .int .i64 2]).alloc (.cells #[.string ⟨#[97]⟩, .string ⟨#[120]⟩, .string ⟨#[98]⟩, .string ⟨#[]⟩] 56)).alloc (.cells #[.slice (some ⟨w.heap.size + 1, 0, none⟩) 2 2, .slice none 0 0, .slice none 0 0] 28)).alloc (.cells #[.string ⟨#[109]⟩] 9)).alloc (.cells two 59)).alloc (.cells #[.slice none 0 0, .slice (some ⟨w.heap.size + 1 + 1 + 1, 0, none⟩) 1 1, .slice (some ⟨w.heap.size + 1 + 1 + 1 + 1, 0, none⟩) 2 2] 28)
  exact h
theorem lW_ln (w : World) : Blk (lW w) (w.heap.size + 1 + 1) 28 #[.slice (some ⟨w.heap.size + 1, 0, none⟩) 2 2, .slice none 0 0, .slice none 0 0] := by
  have h := (((Blk.new ((w.alloc (.cells #[.int .i64 1024, .int .i64 2] 23)).alloc (.cells #[.string ⟨#[97]⟩, .string ⟨#[120]⟩, .string ⟨#[98]⟩, .string ⟨#[]⟩] 56)) 28 #[.slice (some ⟨w.heap.size + 1, 0, none⟩) 2 2, .slice none 0 0, .slice none 0 0]).alloc (.cells #[.string ⟨#[109]⟩] 9)).alloc (.cells two 59)).alloc (.cells #[.slice none 0 0, .slice (some ⟨w.heap.size + 1 + 1 + 1, 0, none⟩) 1 1, .slice (some ⟨w.heap.size + 1 + 1 + 1 + 1, 0, none⟩) 2 2] 28)
  simp only [World.size_alloc] at h
  exact h
theorem lW_bn (w : World) : Blk (lW w) (w.heap.size + 1 + 1 + 1 + 1 + 1) 28 #[.slice none 0 0, .slice (some ⟨w.heap.size + 1 + 1 + 1, 0, none⟩) 1 1, .slice (some ⟨w.heap.size + 1 + 1 + 1 + 1, 0, none⟩) 2 2] := by
  have h := Blk.new (((((w.alloc (.cells #[.int .i64 1024, .int .i64 2] 23)).alloc (.cells #[.string ⟨#[97]⟩, .string ⟨#[120]⟩, .string ⟨#[98]⟩, .string ⟨#[]⟩] 56)).alloc (.cells #[.slice (some ⟨w.heap.size + 1, 0, none⟩) 2 2, .slice none 0 0, .slice none 0 0] 28)).alloc (.cells #[.string ⟨#[109]⟩] 9)).alloc (.cells two 59)) 28 #[.slice none 0 0, .slice (some ⟨w.heap.size + 1 + 1 + 1, 0, none⟩) 1 1, .slice (some ⟨w.heap.size + 1 + 1 + 1 + 1, 0, none⟩) 2 2]
  simp only [World.size_alloc] at h
  exact h

set_option maxHeartbeats 1000000 in set_option maxRecDepth 100000 in
theorem lives_any (w : World) : Calls Tryz.prog 12 #[] w (Rets (.bool true) w) := by
  have LL := Lib.hid (lW_l w); have LB := Lib.hid (lW_b w)
  have hkw : Kp [] w (lW w) := ((((((Kp.refl [] w).alloc _).alloc _).alloc _).alloc _).alloc _).alloc _
  have HKW := Lib.hid hkw; clear hkw
  go_enter Tryz.func12, Tryz.ntmps12
  go_wp2_with fail
  have hl0 := (lW_f w).cell 0; have hl1 := (lW_f w).cell 1
  have ha0 := (lW_ln w).cell 0; have ha1 := (lW_ln w).cell 1; have ha2 := (lW_ln w).cell 2
  have hb0 := (lW_bn w).cell 0; have hb1 := (lW_bn w).cell 1; have hb2 := (lW_bn w).cell 2
  have hlt := (lW_bn w).lt
  simp only [List.getElem?_toArray, List.getElem?_cons_zero, List.getElem?_cons_succ] at hl0 hl1 ha0 ha1 ha2 hb0 hb1 hb2
  have hlt0 : w.heap.size < (lW w).heap.size := by omega
  have hlt2 : w.heap.size + 1 + 1 < (lW w).heap.size := by omega
  refine (Pack_any 1024 2 _ _ _ _ _ _ lN (lW w) LL.out l_ok).mono ?_
  rintro e w1 ⟨rfl, bs1, m1, rfl⟩
  rw [l_pack, l_packS]
  go_wp2_with fail
  refine (Pack_any 1024 2 _ _ _ _ _ _ bN _ (LB.out.kp0 ((Kp.refl [] _).ext _ _)) b_ok).mono ?_
  rintro e w1 ⟨rfl, bs2, m2, rfl⟩
  rw [b_pack, b_packS]
  go_wp2_with fail
  refine (Plain_any 1024 2 _ _ _ _ _ _ bN _ (LB.out.kp0 ((Kp.refl [] _).ext _ _)) b_ok).mono ?_
  rintro e w1 ⟨rfl, bs3, m3, rfl⟩
  rw [b_plain, b_plainS]
  go_wp2_with fail
  refine (Unpack_any 1024 2 tS _ (by decide)).mono ?_
  rintro e w1 h1
  rw [b_unpack] at h1
  obtain ⟨pa, sa, ka, pc, sc, kc, rfl, nd, k1, hnew⟩ := h1
  obtain ⟨b0, o0, hka, hb0', r0⟩ := nd.ks 0 k5 rfl
  obtain ⟨b1, o1, hka1, hb1', r1⟩ := nd.ks 1 k9 rfl
  rw [hka] at hka1
  cases hka1
  subst hka
  have cp := (rowAt?_cell r1).2 0 (.int .u32 9) (Kd.get0 k9)
  have rs := rowAt?_sub r0 1 32 (by omega)
  have hx : k5.c.extract 1 (1 + 32) = dA.c := Kd.extract1 k5
  rw [hx] at rs
  simp only [Addr.add_lit, Nat.zero_mul, Nat.one_mul, Nat.add_zero] at cp rs
  have LZ : Hid (NdAt w1 (some ⟨w.heap.size + 1, 0, none⟩) none none lN) := Lib.hid (LL.out.kp0 (((Kp.refl [] _).ext _ _).trans k1))
  have KW := Lib.hid ((HKW.out.ext _ _).trans k1)
  have zz := k1.size
  simp only [ext_size] at zz
  have n1 : w.heap.size < w1.heap.size := by omega
  have n2 : w.heap.size + 1 + 1 < w1.heap.size := by omega
  have e0 := ((Kp.refl [] (lW w)).ext _ _ |>.trans k1).cell hl0 (by simp); have e1 := ((Kp.refl [] (lW w)).ext _ _ |>.trans k1).cell hl1 (by simp)
  have e2 := ((Kp.refl [] (lW w)).ext _ _ |>.trans k1).cell ha0 (by simp); have e3 := ((Kp.refl [] (lW w)).ext _ _ |>.trans k1).cell ha1 (by simp); have e4 := ((Kp.refl [] (lW w)).ext _ _ |>.trans k1).cell ha2 (by simp)
  clear r0 r1 hx nd k1 hnew hl0 hl1 ha0 ha1 ha2 hb0 hb1 hb2 zz
  go_wp2_with fail
  refine (Size_any 1024 2 _ _ _ _ _ _ lN _ (LZ.out.kp0 ((Kp.refl [] _).alloc _)) l_ok).mono ?_
  rintro e w2 ⟨rfl, bs4, m4, rfl⟩
  rw [l_size]
  go_wp2_with fail
  go_ret
  exact ⟨rfl, ((KW.out.alloc _).ext _ _).to_ext⟩

end Go.Proofs.YtemicgccgcmmbaaGreat

/- Nodes in lists that may be written over (values without addresses). -/
namespace Go.Proofs.YtemicgccgcmmbaaGreat
set_option linter.unusedVariables false
set_option linter.unusedSimpArgs false
open Go Go.RowKit

section
variable {w : World} {I : Nat → Nat → Prop}
theorem rv_sd (s : Bs) (us : List Value) : RV w I (sD s) us ↔ us = csS s := by
  unfold RV; exact ⟨fun h => h.1, fun h => ⟨h, rfl⟩⟩
theorem rv_pr (p : Pr) (us : List Value) : RV w I (prD p) us ↔ us = csP p := by
  unfold prD
  constructor
  · intro h
    unfold RV at h
    obtain ⟨xs, ys, rfl, h1, h2⟩ := RVs.two h
    rw [(rv_sd _ _).1 h1, (rv_sd _ _).1 h2]; rfl
  · rintro rfl
    unfold RV
    exact RVs.mk2 ((rv_sd p.1 _).2 rfl) ((rv_sd p.2 _).2 rfl)
theorem rv_kd (k : Kd) (us : List Value) : RV w I (kdD k) us ↔ us = csK k := by
  unfold kdD
  constructor
  · intro h
    unfold RV at h
    obtain ⟨xs, ys, rfl, h1, h2⟩ := RVs.two h
    unfold RV at h1 h2
    rw [h1.1, h2]; simp [csK, Kd.c]
  · rintro rfl
    unfold RV
    have e : csK k = [Value.int .u32 (k.page : Nat)] ++ bC k.sum.l := by simp [csK, Kd.c]
    rw [e]
    exact RVs.mk2 (by unfold RV; exact ⟨rfl, rfl⟩) (by unfold RV; rfl)
theorem rvs_flat {α : Type} (f : α → D) (g : α → List Value) (h : ∀ x us, RV w I (f x) us ↔ us = g x) : ∀ (l : List α) (us : List Value), RVs w I (l.map f) us ↔ us = l.flatMap g
  | [], us => by unfold RVs; simp
  | x :: l, us => by
    have ih := rvs_flat f g h l
    rw [List.map_cons]
    unfold RVs
    constructor
    · rintro ⟨xs, ys, rfl, h1, h2⟩
      rw [(h x xs).1 h1, (ih ys).1 h2]; simp
    · rintro rfl
      exact ⟨_, _, by simp, (h x _).2 rfl, (ih _).2 rfl⟩
end
theorem flat_lenz {α : Type} (g : α → List Value) (z : Nat) (h : ∀ x, (g x).length = z) : ∀ l : List α, (l.flatMap g).length = l.length * z
  | [] => by simp
  | x :: l => by rw [List.flatMap_cons, List.length_append, h, flat_lenz g z h l, List.length_cons, Nat.add_mul]; omega

/-- What is known of a block's beginning, and so many cells behind it. -/
def restD (es : List D) (k : Nat) : D := .tup [.agg es, .v (.int .i64 k)]
theorem restD_front (es : List D) (k : Nat) : (restD es k).front = (.agg es, k) := by unfold restD D.front; simp
/-- A list in a block that may be written. -/
def LIn (bk : List (Nat × TypeId × D)) (t : TypeId) (z : Nat) (a : Option Addr) (c : Nat) (es : List D) : Prop :=
  (a = none ∧ es = [] ∧ c = 0) ∨ ∃ g, a = some ⟨g, 0, none⟩ ∧ (g, t, restD es ((c - es.length) * z)) ∈ bk ∧ es.length ≤ c ∧ c ≤ maxLen
theorem LIn.sub {bk bk' : List (Nat × TypeId × D)} {t : TypeId} {z : Nat} {a : Option Addr} {c : Nat} {es : List D} (h : LIn bk t z a c es) (hs : ∀ x ∈ bk, x ∈ bk') : LIn bk' t z a c es := by
  rcases h with h | ⟨g, h1, h2, h3⟩
  · exact .inl h
  · exact .inr ⟨g, h1, hs _ h2, h3⟩
theorem LIn.own {α : Type} {f : α → D} {g : α → List Value} {w : World} {S : Sto} {t : TypeId} {z : Nat} {a : Option Addr} {c : Nat} {l : List α} (h : LIn S.bk t z a c (l.map f)) (hS : StAt w S) (hf : ∀ x us, RV w S.I (f x) us ↔ us = g x) (hz : ∀ x, (g x).length = z) :
    Own w t z a l.length c (l.flatMap g) := by
  have hl := flat_lenz g z hz l
  refine ⟨hl, ?_⟩
  rcases h with ⟨rfl, h2, rfl⟩ | ⟨b, rfl, h2, h3, h4⟩
  · have : l = [] := by simpa using h2
    subst this
    exact .inl ⟨rfl, rfl⟩
  · obtain ⟨us, hb, xs, ys, rfl, h5, h6⟩ := hS.mutAt _ _ _ h2
    rw [restD_front] at h5 h6
    simp only [List.length_map] at h3 h6
    unfold RV at h5
    have h5 := (rvs_flat f g hf l xs).1 h5
    subst h5
    refine .inr ⟨b, c, _, rfl, Nat.zero_le _, hb, h3, h4, ?_, ?_⟩
    · simp only [List.size_toArray, List.length_append, hl, h6, ← Nat.add_mul]
      congr 1; omega
    · rw [← hl]; simp

structure NdIn (bk : List (Nat × TypeId × D)) (pa sa ka : Option Addr) (pc sc kc : Nat) (n : Nd) : Prop where
  p : LIn bk 56 2 pa pc (n.pairs.map prD)
  s : LIn bk 9 1 sa sc (n.seps.map sD)
  k : LIn bk 59 33 ka kc (n.kids.map kdD)
theorem NdIn.sub {bk bk' : List (Nat × TypeId × D)} {pa sa ka : Option Addr} {pc sc kc : Nat} {n : Nd} (h : NdIn bk pa sa ka pc sc kc n) (hs : ∀ x ∈ bk, x ∈ bk') : NdIn bk' pa sa ka pc sc kc n :=
  ⟨h.p.sub hs, h.s.sub hs, h.k.sub hs⟩
theorem bk_uniq : ∀ {bk : List (Nat × TypeId × D)} {b : Nat} {x y : TypeId × D}, (bk.map (·.1)).Nodup → (b, x) ∈ bk → (b, y) ∈ bk → x = y
  | (c, z) :: bk, b, x, y, hn, h1, h2 => by
    simp only [List.map_cons, List.nodup_cons] at hn
    rcases List.mem_cons.1 h1 with h1 | h1 <;> rcases List.mem_cons.1 h2 with h2 | h2
    · simp only [Prod.mk.injEq] at h1 h2; exact h1.2.trans h2.2.symm
    · simp only [Prod.mk.injEq] at h1; exact absurd (List.mem_map.2 ⟨_, h2, h1.1⟩) hn.1
    · simp only [Prod.mk.injEq] at h2; exact absurd (List.mem_map.2 ⟨_, h1, h2.1⟩) hn.1
    · exact bk_uniq hn.2 h1 h2
theorem LIn.apart {bk : List (Nat × TypeId × D)} {t t' : TypeId} {z z' : Nat} {a a' : Option Addr} {c c' : Nat} {es es' : List D} (h : LIn bk t z a c es) (h' : LIn bk t' z' a' c' es') (hn : (bk.map (·.1)).Nodup) (hne : t ≠ t') : ∀ g ∈ ab a, g ∉ ab a' := by
  intro g hg hg'
  rcases h with ⟨rfl, _⟩ | ⟨b, rfl, h1, _⟩
  · simp [ab] at hg
  rcases h' with ⟨rfl, _⟩ | ⟨b', rfl, h2, _⟩
  · simp [ab] at hg'
  simp only [ab, Option.map_some, Option.toList_some, List.mem_singleton] at hg hg'
  subst hg
  subst hg'
  have := bk_uniq hn h1 h2
  simp only [Prod.mk.injEq] at this
  exact hne this.1
theorem NdIn.own3 {w : World} {S : Sto} {pa sa ka : Option Addr} {pc sc kc : Nat} {n : Nd} (h : NdIn S.bk pa sa ka pc sc kc n) (hS : StAt w S) : Own3 w 0 pa sa ka pc sc kc n := by
  have hn := (List.nodup_append.1 hS.nd).1
  exact ⟨h.p.own hS (fun x us => rv_pr x us) (fun _ => rfl), h.s.own hS (fun x us => rv_sd x us) (fun _ => rfl), h.k.own hS (fun x us => rv_kd x us) (fun x => by simp [csK, Kd.c, bC_length, x.sum.h]),
    fun _ _ => Nat.zero_le _, fun g hg => ⟨h.p.apart h.s hn (by decide) g hg, h.p.apart h.k hn (by decide) g hg⟩, h.s.apart h.k hn (by decide)⟩

/-- New blocks that may be written, where nothing else was written. -/
theorem StAt.adds {w w' : World} {S : Sto} (hS : StAt w S) (k : Kp [] w w') (new : List (Nat × TypeId × D)) (hn : (new.map (·.1)).Nodup) (hlo : ∀ b ∈ new.map (·.1), w.heap.size ≤ b) (hv : ∀ b t d, (b, t, d) ∈ new → ∃ us : List Value, Blk w' b t us.toArray ∧ ∀ I, RVT w' I d us) :
    StAt w' ⟨S.bk ++ new, S.ow⟩ ∧ Evo w S.I w' (⟨S.bk ++ new, S.ow⟩ : Sto).I := by
  have hevo : Evo w S.I w' (⟨S.bk ++ new, S.ow⟩ : Sto).I := k.evo (fun _ _ _ _ => by simp) (fun b e hb hi => ⟨by
    simp only [List.map_append, List.mem_append, not_or]
    exact ⟨hi.1, fun hm => absurd (hlo b hm) (by omega)⟩, hi.2⟩)
  refine ⟨⟨?_, fun b t d hm => ?_, fun b L hm => ?_⟩, hevo⟩
  · have h0 := hS.nd
    simp only [List.map_append]
    rw [List.nodup_append] at h0
    rw [List.append_assoc, List.nodup_append]
    refine ⟨h0.1, ?_, ?_⟩
    · rw [List.nodup_append]
      refine ⟨hn, h0.2.1, fun a ha b hb e => ?_⟩
      have := hS.lt (.inr hb); have := hlo a ha; omega
    · intro a ha b hb e
      rcases List.mem_append.1 hb with hb | hb
      · have := hS.lt (.inl ha); have := hlo b hb; omega
      · exact h0.2.2 a ha b hb e
  · rcases List.mem_append.1 hm with hm | hm
    · obtain ⟨us, h1, h2⟩ := hS.mutAt b t d hm
      exact ⟨us, h1.kp k (by simp), h2.evo hevo _ _⟩
    · obtain ⟨us, h1, h2⟩ := hv b t d hm
      exact ⟨us, h1, h2 _⟩
  · obtain ⟨t, cur, h1, h2⟩ := hS.ownAt b L hm
    exact ⟨t, cur, k.blk h1 (by simp), h2⟩

def entL (t : TypeId) (z : Nat) (a : Option Addr) (c : Nat) (es : List D) : List (Nat × TypeId × D) :=
  match a with
  | some x => [(x.block, t, restD es ((c - es.length) * z))]
  | none => []
theorem entL_keys (t : TypeId) (z : Nat) (a : Option Addr) (c : Nat) (es : List D) : (entL t z a c es).map (·.1) = ab a := by cases a <;> rfl
theorem entL_in {α : Type} {f : α → D} {g : α → List Value} {w : World} {t : TypeId} {z : Nat} {a : Option Addr} {c : Nat} {l : List α} (h : Own w t z a l.length c (l.flatMap g)) : LIn (entL t z a c (l.map f)) t z a c (l.map f) := by
  rcases h.block.2 with ⟨rfl, h1, rfl⟩ | ⟨b, cur, rfl, h1, h2, h3, _⟩
  · exact .inl ⟨rfl, by have : l = [] := List.eq_nil_of_length_eq_zero h1; subst this; rfl, rfl⟩
  · exact .inr ⟨b, rfl, by simp [entL], by simpa using h2, h3⟩
theorem entL_ok {α : Type} {f : α → D} {g : α → List Value} {w : World} {t : TypeId} {z : Nat} {a : Option Addr} {c : Nat} {l : List α} (h : Own w t z a l.length c (l.flatMap g)) (hf : ∀ I x us, RV w I (f x) us ↔ us = g x) :
    ∀ b t' d, (b, t', d) ∈ entL t z a c (l.map f) → ∃ us : List Value, Blk w b t' us.toArray ∧ ∀ I, RVT w I d us := by
  intro b t' d hm
  rcases h.block.2 with ⟨rfl, _⟩ | ⟨b', cur, rfl, h1, h2, h3, h4, h5⟩
  · simp [entL] at hm
  · simp only [entL, List.mem_singleton, Prod.mk.injEq] at hm
    obtain ⟨rfl, rfl, rfl⟩ := hm
    refine ⟨cur.toList, by simpa using h1, fun I => ⟨l.flatMap g, cur.toList.drop (l.length * z), ?_, ?_, ?_⟩⟩
    · rw [← h5, List.take_append_drop]
    · rw [restD_front]; unfold RV; exact (rvs_flat f g (hf I) l _).2 rfl
    · rw [restD_front]
      simp only [List.length_drop, Array.length_toList, h4, List.length_map]
      rw [Nat.sub_mul]

def entN (pa sa ka : Option Addr) (pc sc kc : Nat) (n : Nd) : List (Nat × TypeId × D) :=
  entL 56 2 pa pc (n.pairs.map prD) ++ (entL 9 1 sa sc (n.seps.map sD) ++ entL 59 33 ka kc (n.kids.map kdD))
theorem entN_keys (pa sa ka : Option Addr) (pc sc kc : Nat) (n : Nd) : (entN pa sa ka pc sc kc n).map (·.1) = blks pa sa ka := by
  simp only [entN, List.map_append, entL_keys, blks, List.append_assoc]
theorem entN_in {w : World} {lo : Nat} {pa sa ka : Option Addr} {pc sc kc : Nat} {n : Nd} (h : Own3 w lo pa sa ka pc sc kc n) : NdIn (entN pa sa ka pc sc kc n) pa sa ka pc sc kc n :=
  ⟨(entL_in h.ps).sub (fun x hx => List.mem_append_left _ hx), (entL_in h.ss).sub (fun x hx => List.mem_append_right _ (List.mem_append_left _ hx)), (entL_in h.ks).sub (fun x hx => List.mem_append_right _ (List.mem_append_right _ hx))⟩
theorem ab_nodup (a : Option Addr) : (ab a).Nodup := by cases a <;> simp [ab]
theorem StAt.addN {w w' : World} {S : Sto} {pa sa ka : Option Addr} {pc sc kc : Nat} {n : Nd} (hS : StAt w S) (k : Kp [] w w') (o : Own3 w' w.heap.size pa sa ka pc sc kc n) :
    StAt w' ⟨S.bk ++ entN pa sa ka pc sc kc n, S.ow⟩ ∧ Evo w S.I w' (⟨S.bk ++ entN pa sa ka pc sc kc n, S.ow⟩ : Sto).I := by
  refine hS.adds k _ ?_ ?_ ?_
  · rw [entN_keys]
    unfold blks
    rw [List.nodup_append, List.nodup_append]
    refine ⟨⟨ab_nodup _, ab_nodup _, fun a ha b hb e => (o.d1 a ha).1 (e ▸ hb)⟩, ab_nodup _, fun a ha b hb e => ?_⟩
    rcases List.mem_append.1 ha with ha | ha
    · exact (o.d1 a ha).2 (e ▸ hb)
    · exact o.d2 a ha (e ▸ hb)
  · rw [entN_keys]; exact o.lo
  · intro b t d hm
    unfold entN at hm
    rcases List.mem_append.1 hm with hm | hm
    · exact entL_ok o.ps (fun I x us => rv_pr x us) b t d hm
    rcases List.mem_append.1 hm with hm | hm
    · exact entL_ok o.ss (fun I x us => rv_sd x us) b t d hm
    · exact entL_ok o.ks (fun I x us => rv_kd x us) b t d hm

/-- A node by its three slices. -/
@[go_sem] def ndV (pa sa ka : Option Addr) (pc sc kc : Nat) (n : Nd) : D := .agg [.v (.slice pa n.pairs.length pc), .v (.slice sa n.seps.length sc), .v (.slice ka n.kids.length kc)]
section
variable {w : World} {I : Nat → Nat → Prop}
theorem RVal.of_ndV (pa sa ka : Option Addr) (pc sc kc : Nat) (n : Nd) : RVal w I (ndV pa sa ka pc sc kc n) (.agg #[.slice pa n.pairs.length pc, .slice sa n.seps.length sc, .slice ka n.kids.length kc]) := by
  unfold ndV RVal
  exact ⟨[.slice pa n.pairs.length pc, .slice sa n.seps.length sc, .slice ka n.kids.length kc], rfl, RVs.mk3 (xs := [_]) (ys := [_]) (zs := [_]) (by unfold RV; exact ⟨rfl, rfl⟩) (by unfold RV; exact ⟨rfl, rfl⟩) (by unfold RV; exact ⟨rfl, rfl⟩)⟩
theorem RVal.ndV {pa sa ka : Option Addr} {pc sc kc : Nat} {n : Nd} {x : Value} (h : RVal w I (ndV pa sa ka pc sc kc n) x) : x = .agg #[.slice pa n.pairs.length pc, .slice sa n.seps.length sc, .slice ka n.kids.length kc] := by
  unfold Proofs.YtemicgccgcmmbaaGreat.ndV RVal at h
  obtain ⟨us, rfl, h⟩ := h
  obtain ⟨xs, ys, zs, rfl, h1, h2, h3⟩ := RVs.three h
  unfold RV at h1 h2 h3
  rw [h1.1, h2.1, h3.1]; rfl
end


def NewN (r : Option Nd) (code : Int) (S : Sto) (d : D) (S' : Sto) : Prop :=
  ∃ pa sa ka pc sc kc, d = .tup [Proofs.YtemicgccgcmmbaaGreat.ndV pa sa ka pc sc kc (r.getD noN), iD (okE r code)] ∧ S' = ⟨S.bk ++ entN pa sa ka pc sc kc (r.getD noN), S.ow⟩ ∧ NdIn (entN pa sa ka pc sc kc (r.getD noN)) pa sa ka pc sc kc (r.getD noN) ∧
    (∀ g ∈ blks pa sa ka, g ∉ S.bk.map (·.1))
end Go.Proofs.YtemicgccgcmmbaaGreat
