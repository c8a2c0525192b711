/- node.Copy: a node in lists of its own. -/
import Derived.Test.YtemicgccgcmmbaaClone
import Derived.Test.YtemicgccgcmmbaaParse4
namespace Go.Proofs.Ytemicgccgcmmbaa
set_option linter.unusedVariables false
set_option linter.unusedSimpArgs false
open Go Go.RowKit

/-- Three lists of its own. -/
structure Own3 (w : World) (lo : Nat) (pa sa ka : Option Addr) (pc sc kc : Nat) (n : Nd) : Prop where
  ps : Own w 48 2 pa n.pairs.length pc (n.pairs.flatMap csP)
  ss : Own w 9 1 sa n.seps.length sc (n.seps.flatMap csS)
  ks : Own w 42 33 ka n.kids.length kc (n.kids.flatMap csK)
  lo : ∀ g ∈ ab pa ++ ab sa ++ ab ka, lo ≤ g
  d1 : ∀ g ∈ ab pa, g ∉ ab sa ∧ g ∉ ab ka
  d2 : ∀ g ∈ ab sa, g ∉ ab ka

theorem Own3.at {w : World} {lo : Nat} {pa sa ka : Option Addr} {pc sc kc : Nat} {n : Nd} (h : Own3 w lo pa sa ka pc sc kc n) : NdAt w pa sa ka n :=
  ⟨Own.ps h.ps, Own.ss (by rw [← csS_map]; exact h.ss), Own.ks h.ks⟩
theorem Own3.kp {S : List Nat} {w w' : World} {lo : Nat} {pa sa ka : Option Addr} {pc sc kc : Nat} {n : Nd} (h : Own3 w lo pa sa ka pc sc kc n) (k : Kp S w w') (hs : ∀ g ∈ ab pa ++ ab sa ++ ab ka, g ∉ S) : Own3 w' lo pa sa ka pc sc kc n :=
  ⟨h.ps.kp k (fun g hg => hs g (by simp [hg])), h.ss.kp k (fun g hg => hs g (by simp [hg])), h.ks.kp k (fun g hg => hs g (by simp [hg])), h.lo, h.d1, h.d2⟩

def CopyPost (n : Nd) (w : World) (e : Ending) (w' : World) : Prop :=
  ∃ pa sa ka pc sc kc, e = .returned (.agg #[.slice pa n.pairs.length pc, .slice sa n.seps.length sc, .slice ka n.kids.length kc]) ∧ Own3 w' w.heap.size pa sa ka pc sc kc n ∧ Kp [] w w'

/-- A node is handed back. -/
theorem nd_ret1 {fn : Func} {R : Ending → World → Prop} {a : Act} {w : World} {p : Tmp} (g : Nat) {t : TypeId} {x y z : Value} (hr : fn.results = #[.cell p 30]) (hp : a.tmps.getD p undef = .pointer (some ⟨g, 0, none⟩)) (hg : Blk w g t #[x, y, z]) (hd : a.defers = []) (hR : R (.returned (.agg #[x, y, z])) w) :
    bodyPost Try.prog fn R .ret a w :=
  row_ret g hr Try.underlying30 rfl (by kernel_rfl) hp hg hd hR

/-- Behind the three lists the result is written. -/
theorem copy_fin {w W wF : World} {pa sa ka : Option Addr} {pc sc kc : Nat} {n : Nd} {B : Nat} {x y z : Value}
    (hW : Kp [] w W) (hB : w.heap.size ≤ B) (hBW : B < W.heap.size) (hb : Blk wF B 30 #[x, y, z]) (hk : Kp [] W wF)
    (h1 : Own wF 48 2 pa n.pairs.length pc (n.pairs.flatMap csP)) (h2 : Own wF 9 1 sa n.seps.length sc (n.seps.flatMap csS)) (h3 : Own wF 42 33 ka n.kids.length kc (n.kids.flatMap csK))
    (l1 : ∀ g ∈ ab pa ++ ab sa ++ ab ka, W.heap.size ≤ g) (d1 : ∀ g ∈ ab pa, g ∉ ab sa ∧ g ∉ ab ka) (d2 : ∀ g ∈ ab sa, g ∉ ab ka)
    {wG : World} {a b c : Value} (hG : wG = ((wF.setCell ⟨B, 0, none⟩ a).setCell ⟨B, 1, none⟩ b).setCell ⟨B, 2, none⟩ c) :
    Blk wG B 30 #[a, b, c] ∧ Own3 wG w.heap.size pa sa ka pc sc kc n ∧ Kp [] w wG := by
  subst hG
  have hz := hW.size
  have kG : Kp [B] wF (((wF.setCell ⟨B, 0, none⟩ a).setCell ⟨B, 1, none⟩ b).setCell ⟨B, 2, none⟩ c) := (((Kp.refl [B] wF).setCell (a := ⟨B, 0, none⟩) a (.inr (by simp))).setCell (a := ⟨B, 1, none⟩) b (.inr (by simp))).setCell (a := ⟨B, 2, none⟩) c (.inr (by simp))
  refine ⟨?_, ?_, ?_⟩
  · have h := ((hb.set 0 a).set 1 b).set 2 c
    simpa using h
  · exact Own3.kp ⟨h1, h2, h3, fun g hg => Nat.le_trans hz (l1 g hg), d1, d2⟩ kG (fun g hg => by have := l1 g hg; simp; omega)
  · exact (hW.trans hk).from kG (fun g hg => by simp at hg; subst hg; exact .inl hB)

set_option maxHeartbeats 4000000 in
set_option maxRecDepth 100000 in
theorem copy_any (pa sa ka : Option Addr) (pc sc kc : Nat) (n : Nd) (w : World) (h : NdAt w pa sa ka n) (ho : NdOk n) :
    Calls Try.prog 21 #[.agg #[.slice pa n.pairs.length pc, .slice sa n.seps.length sc, .slice ka n.kids.length kc]] w (CopyPost n w) := by
  have hnp := ho.np; have hns := ho.ns; have hnk := ho.nk
  clear ho
  obtain ⟨W0, hW0⟩ : ∃ W0, W0 = (w.alloc (.cells #[.slice pa n.pairs.length pc, .slice sa n.seps.length sc, .slice ka n.kids.length kc] 30)).alloc (.cells #[.slice none 0 0, .slice none 0 0, .slice none 0 0] 30) := ⟨_, rfl⟩
  have kw : Kp [] w W0 := by rw [hW0]; exact ((Kp.refl [] w).alloc _).alloc _
  have b0 : Blk W0 w.heap.size 30 #[.slice pa n.pairs.length pc, .slice sa n.seps.length sc, .slice ka n.kids.length kc] := by rw [hW0]; exact (Blk.new w _ _).alloc _
  have b1 : Blk W0 (w.heap.size + 1) 30 #[.slice none 0 0, .slice none 0 0, .slice none 0 0] := by
    rw [hW0]
    have h := Blk.new (w.alloc (.cells #[.slice pa n.pairs.length pc, .slice sa n.seps.length sc, .slice ka n.kids.length kc] 30)) 30 #[.slice none 0 0, .slice none 0 0, .slice none 0 0]
    simpa using h
  have KW := Lib.hid kw; have B1 := Lib.hid b1; have HP := Lib.hid (PsAt.kp h.ps kw (by simp)); have HS := Lib.hid (SsAt.kp h.ss kw (by simp)); have HK := Lib.hid (KsAt.kp h.ks kw (by simp))
  have SK : Hid (∀ W : World, Kp [w.heap.size + 1] W0 W → (W.cell? ⟨w.heap.size, 0, none⟩ = some (.slice pa n.pairs.length pc) ∧ W.cell? ⟨w.heap.size, 1, none⟩ = some (.slice sa n.seps.length sc) ∧ W.cell? ⟨w.heap.size, 2, none⟩ = some (.slice ka n.kids.length kc))) := Lib.hid (fun W k =>
    have c0 := b0.kp k (by simp)
    ⟨c0.cell 0, c0.cell 1, c0.cell 2⟩)
  have SB : Hid (∀ W : World, Kp [] W0 W → W.cell? ⟨w.heap.size + 1, 0, none⟩ = some (.slice none 0 0) ∧ W.cell? ⟨w.heap.size + 1, 1, none⟩ = some (.slice none 0 0) ∧ W.cell? ⟨w.heap.size + 1, 2, none⟩ = some (.slice none 0 0) ∧
      W.frozen? ⟨w.heap.size + 1, 0, none⟩ = false ∧ W.frozen? ⟨w.heap.size + 1, 1, none⟩ = false ∧ W.frozen? ⟨w.heap.size + 1, 2, none⟩ = false ∧ w.heap.size + 1 < W.heap.size) := Lib.hid (fun W k =>
    have c1 := b1.kp k (by simp)
    ⟨c1.cell 0, c1.cell 1, c1.cell 2, c1.frozen 0, c1.frozen 1, c1.frozen 2, c1.lt⟩)
  have HZ : Hid (w.heap.size + 1 < W0.heap.size) := Lib.hid b1.lt
  clear h kw b0 b1
  have HW0 := Lib.hid hW0
  clear hW0
  go_enter Try.func21, Try.ntmps21
  go_wp2_with fail
  rw [← HW0.out]
  go_region_held3 (fun W => (W.cell? ⟨w.heap.size, 0, none⟩ = some (.slice pa n.pairs.length pc) ∧ W.cell? ⟨w.heap.size, 1, none⟩ = some (.slice sa n.seps.length sc) ∧ W.cell? ⟨w.heap.size, 2, none⟩ = some (.slice ka n.kids.length kc)))
    (first | exact SK.out _ ((((KT.out.of_nil (T := [w.heap.size + 1])).setCell _ (.inr (by simp))).setCell _ (.inr (by simp))).setCell _ (.inr (by simp))) | exact SK.out _ KT.out.of_nil | exact SK.out _ ((Kp.refl _ _).drew))
    (first
      | (go_at_call 43; refine (clone_pair _ _ n.pairs _ (PsAt.kp HP.out (by first | exact KT.out | exact (Kp.refl [] _).drew) (by simp)) hnp).mono ?_; rintro e wP ⟨pb, pd, rfl, op, kp, np⟩; have OP := Lib.hid op; have KP := Lib.hid kp; have NP := Lib.hid np; have KT : Hid (Kp [] W0 wP) := Lib.hid (by first | exact KT.out.trans kp | exact ((Kp.refl [] _).drew).trans kp); have zP := kp.size; clear op kp np; obtain ⟨y0, y1, y2, y3, y4, y5, y6⟩ := SB.out _ KT.out)
      | (go_at_call 44; refine (clone_text _ _ n.seps _ (SsAt.kp HS.out (by first | exact KT.out | exact (Kp.refl [] _).drew) (by simp)) hns).mono ?_; rintro e wS ⟨sb, sd, rfl, op, kp, np⟩; have OS := Lib.hid op; have KS := Lib.hid kp; have NS := Lib.hid np; have KT : Hid (Kp [] W0 wS) := Lib.hid (by first | exact KT.out.trans kp | exact ((Kp.refl [] _).drew).trans kp); have zS := kp.size; clear op kp np; obtain ⟨y0, y1, y2, y3, y4, y5, y6⟩ := SB.out _ KT.out)
      | (go_at_call 45; refine (clone_kid _ _ n.kids _ (KsAt.kp HK.out (by first | exact KT.out | exact (Kp.refl [] _).drew) (by simp)) hnk).mono ?_; rintro e wK ⟨kb, kd, rfl, op, kp, np⟩; have OK := Lib.hid op; have KK := Lib.hid kp; have NK := Lib.hid np; have KT : Hid (Kp [] W0 wK) := Lib.hid (by first | exact KT.out.trans kp | exact ((Kp.refl [] _).drew).trans kp); have zK := kp.size; clear op kp np; obtain ⟨y0, y1, y2, y3, y4, y5, y6⟩ := SB.out _ KT.out))
  all_goals go_wp2_with fail
  all_goals
    have hd : W0.drew.heap.size = W0.heap.size := rfl
    have hf := copy_fin (w := w) (W := W0) (B := w.heap.size + 1) (n := n) (pa := pb) (sa := sb) (ka := kb) (pc := pd) (sc := sd) (kc := kd) KW.out (by omega) HZ.out (B1.out.kp KT.out (by simp)) KT.out
      (by first | exact OP.out | exact Own.kp OP.out KS.out (by simp) | exact Own.kp OP.out KK.out (by simp) | exact Own.kp OP.out (KS.out.trans KK.out) (by simp) | exact Own.kp OP.out (KK.out.trans KS.out) (by simp))
      (by first | exact OS.out | exact Own.kp OS.out KP.out (by simp) | exact Own.kp OS.out KK.out (by simp) | exact Own.kp OS.out (KP.out.trans KK.out) (by simp) | exact Own.kp OS.out (KK.out.trans KP.out) (by simp))
      (by first | exact OK.out | exact Own.kp OK.out KP.out (by simp) | exact Own.kp OK.out KS.out (by simp) | exact Own.kp OK.out (KP.out.trans KS.out) (by simp) | exact Own.kp OK.out (KS.out.trans KP.out) (by simp))
      (by
        intro g hg
        simp only [List.mem_append] at hg
        rcases hg with (h | h) | h
        · have := NP.out g h; omega
        · have := NS.out g h; omega
        · have := NK.out g h; omega)
      (by
        intro g h
        have h1 := NP.out g h; have h2 := OP.out.lt g h
        exact ⟨fun h' => by have h3 := NS.out g h'; have h4 := OS.out.lt g h'; omega, fun h' => by have h3 := NK.out g h'; have h4 := OK.out.lt g h'; omega⟩)
      (by
        intro g h h'
        have h1 := NS.out g h; have h2 := OS.out.lt g h; have h3 := NK.out g h'; have h4 := OK.out.lt g h'
        omega)
      (a := .slice pb n.pairs.length pd) (b := .slice sb n.seps.length sd) (c := .slice kb n.kids.length kd) rfl
    exact nd_ret1 (w.heap.size + 1) rfl rfl hf.1 rfl ⟨pb, sb, kb, pd, sd, kd, rfl, hf.2.1, hf.2.2⟩

end Go.Proofs.Ytemicgccgcmmbaa
