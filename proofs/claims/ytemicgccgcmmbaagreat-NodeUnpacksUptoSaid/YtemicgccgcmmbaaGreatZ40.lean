/- kept: a lent node is as it was, its marks too. -/
import Derived.Test.YtemicgccgcmmbaaGreatZ39
import Derived.Test.YtemicgccgcmmbaaGreatZ35
namespace Go.Proofs.YtemicgccgcmmbaaGreat
set_option linter.unusedVariables false
set_option linter.unusedSimpArgs false
open Go Go.RowKit

theorem SsAt.take {w : World} {a : Option Addr} {l : List Bs} (h : SsAt w a l) (k : Nat) : SsAt w a (l.take k) := fun i p hp => by
  rw [List.getElem?_take] at hp
  split at hp
  · exact h i p hp
  · cases hp
theorem KsAt.take {w : World} {a : Option Addr} {l : List Kd} (h : KsAt w a l) (k : Nat) : KsAt w a (l.take k) := fun i p hp => by
  rw [List.getElem?_take] at hp
  split at hp
  · exact h i p hp
  · cases hp
theorem PsAt.pre {w : World} {a : Option Addr} {l m : List Pr} (h : PsAt w a (l ++ m)) : PsAt w a l := fun i p hp => h i p (by rw [List.getElem?_append_left (List.getElem?_eq_some_iff.1 hp).1]; exact hp)
theorem SsAt.pre {w : World} {a : Option Addr} {l m : List Bs} (h : SsAt w a (l ++ m)) : SsAt w a l := fun i p hp => h i p (by rw [List.getElem?_append_left (List.getElem?_eq_some_iff.1 hp).1]; exact hp)
theorem KsAt.pre {w : World} {a : Option Addr} {l m : List Kd} (h : KsAt w a (l ++ m)) : KsAt w a l := fun i p hp => h i p (by rw [List.getElem?_append_left (List.getElem?_eq_some_iff.1 hp).1]; exact hp)

/-- A lent node, and its marks. -/
theorem Own3.lent {w : World} {lo gp gs gk pc sc kc : Nat} {n : Nd} (h : Own3 w lo (some ⟨gp, 0, none⟩) (some ⟨gs, 0, none⟩) (some ⟨gk, 0, none⟩) pc sc kc n.mk1) :
    NdAt w (some ⟨gp, 0, none⟩) (some ⟨gs, 0, none⟩) (some ⟨gk, 0, none⟩) n ∧ w.cell? ⟨gp, n.pairs.length * 2, none⟩ = some (.string ⟨#[109, 97, 114, 107]⟩) ∧ w.cell? ⟨gs, n.seps.length, none⟩ = some (.string ⟨#[109, 97, 114, 107]⟩) ∧ w.cell? ⟨gk, n.kids.length * 33, none⟩ = some (.int .u32 77) ∧
      (gp < w.heap.size ∧ gs < w.heap.size ∧ gk < w.heap.size) ∧ n.pairs.length + 1 ≤ pc ∧ n.seps.length + 1 ≤ sc ∧ n.kids.length + 1 ≤ kc := by
  have ha := h.at
  have l1 : n.mk1.pairs.length = n.pairs.length + 1 := by simp [Nd.mk1]
  have l2 : n.mk1.seps.length = n.seps.length + 1 := by simp [Nd.mk1]
  have l3 : n.mk1.kids.length = n.kids.length + 1 := by simp [Nd.mk1]
  obtain ⟨b, o, e, hb1, c1, _⟩ := ha.ps n.pairs.length (mkB, []) (by simp [Nd.mk1])
  cases e
  obtain ⟨b, o, e, hb2, c2⟩ := ha.ss n.seps.length mkB (by simp [Nd.mk1])
  cases e
  obtain ⟨b, o, e, hb3, r3⟩ := ha.ks n.kids.length kMark (by simp [Nd.mk1])
  cases e
  have cp := (rowAt?_cell r3).2 0 _ (Kd.get0 kMark)
  refine ⟨⟨ha.ps.pre, ha.ss.pre, ha.ks.pre⟩, by simpa [mkB] using c1, by simpa [mkB] using c2, by simpa [Addr.add_lit, kMark] using cp, ⟨hb1, hb2, hb3⟩, ?_, ?_, ?_⟩
  · obtain ⟨g, _, h1, _⟩ := own_some h.ps (by omega); omega
  · obtain ⟨g, _, h1, _⟩ := own_some h.ss (by omega); omega
  · obtain ⟨g, _, h1, _⟩ := own_some h.ks (by omega); omega

theorem refSame_true (pa sa ka qa ta la : Option Addr) (pc sc kc qc tc lc : Nat) (x y : Nd) (w : World) (hx : NdAt w pa sa ka x) (hy : NdAt w qa ta la y) (ox : NdOk x) (oy : NdOk y) (h : x = y) :
    Calls Tryz.prog 10 #[.agg #[.slice pa x.pairs.length pc, .slice sa x.seps.length sc, .slice ka x.kids.length kc], .agg #[.slice qa y.pairs.length qc, .slice ta y.seps.length tc, .slice la y.kids.length lc]] w (Rets (.bool true) w) := by
  have := refSame_any pa sa ka qa ta la pc sc kc qc tc lc x y w hx hy ox oy
  rwa [decide_eq_true h] at this

set_option maxHeartbeats 1000000 in set_option maxRecDepth 100000 in
theorem kept_any (gp gs gk pc sc kc : Nat) (lo : Nat) (qa ta la : Option Addr) (qc tc lc : Nat) (n : Nd) (w : World) (hx : Own3 w lo (some ⟨gp, 0, none⟩) (some ⟨gs, 0, none⟩) (some ⟨gk, 0, none⟩) pc sc kc n.mk1) (hy : NdAt w qa ta la n) (ho : NdOk n) (hf : NdFew n) :
    Calls Tryz.prog 25 #[.agg #[.slice (some ⟨gp, 0, none⟩) n.pairs.length pc, .slice (some ⟨gs, 0, none⟩) n.seps.length sc, .slice (some ⟨gk, 0, none⟩) n.kids.length kc], .agg #[.slice qa n.pairs.length qc, .slice ta n.seps.length tc, .slice la n.kids.length lc]] w
      (Rets (.bool true) w) := by
  obtain ⟨hn, c1, c2, c3, ⟨g1, g2, g3⟩, k1, k2, k3⟩ := hx.lent
  have fp := hf.np; have fs := hf.ns; have fk := hf.nk
  have HN := Lib.hid hn; have HY := Lib.hid hy; have HO := Lib.hid ho
  clear hn hy ho hf hx
  have e1 : IntKind.i64.wrap ((n.pairs.length : Int) + 1) = n.pairs.length + 1 := IntWalk.i64_in _ (by omega)
  have e2 : IntKind.i64.wrap ((n.seps.length : Int) + 1) = n.seps.length + 1 := IntWalk.i64_in _ (by omega)
  have e3 : IntKind.i64.wrap ((n.kids.length : Int) + 1) = n.kids.length + 1 := IntWalk.i64_in _ (by omega)
  have i1 : (n.pairs.length : Int) + 1 ≤ (pc : Int) := by omega
  have i2 : (n.seps.length : Int) + 1 ≤ (sc : Int) := by omega
  have i3 : (n.kids.length : Int) + 1 ≤ (kc : Int) := by omega
  have j1 : (0 : Int) ≤ (n.pairs.length : Int) + 1 := by omega
  have j2 : (0 : Int) ≤ (n.seps.length : Int) + 1 := by omega
  have j3 : (0 : Int) ≤ (n.kids.length : Int) + 1 := by omega
  go_enter Tryz.func25, Tryz.ntmps25
  go_wp2_with fail
  refine wp_region_ext (by kernel_rfl) (by kernel_rfl) ?_
  repeat (go_big_quiet_step (fail))
  (refine wpQuiet_nil ?_; intro _ hw'; obtain ⟨⟨bsq, nq⟩, hw''⟩ := hw'; subst hw'')
  clear e1 e2 e3 i1 i2 i3 j1 j2 j3
  go_wp2_with fail
  refine (refSame_true _ _ _ _ _ _ _ _ _ _ _ _ n n _ (HN.out.kp0 ((Kp.refl [] _).alloc _ |>.alloc _ |>.ext _ _)) (HY.out.kp0 ((Kp.refl [] _).alloc _ |>.alloc _ |>.ext _ _)) HO.out HO.out rfl).mono ?_
  rintro e w' ⟨rfl, bs, m, rfl⟩
  go_wp2_with fail
  go_ret
  exact ⟨rfl, by (try simp only [alloc_ext, drew_ext, drewN_ext, ext_ext]); exact ⟨_, _, rfl⟩⟩

end Go.Proofs.YtemicgccgcmmbaaGreat
