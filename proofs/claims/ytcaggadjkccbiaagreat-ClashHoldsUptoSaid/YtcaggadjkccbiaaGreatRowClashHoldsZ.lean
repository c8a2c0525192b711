/- The row of ClashHolds, where what comes in is of bulk at most 1048576: for every frame and every two texts the law answers true, and all read as they read before. -/
import Derived.Test.YtcaggadjkccbiaaGreatRows
import Derived.Test.YtcaggadjkccbiaaGreatZ35
import Derived.Test.YtcaggadjkccbiaaGreatZ53
import Derived.ProofKit
import Derived.OpenShut
import Derived.ShutString
import Derived.ChangeOld
import Derived.Below
import Derived.SizedLaws
import Derived.JoinedCond
namespace Go.Proofs.YtcaggadjkccbiaaGreat.ClashHolds
set_option linter.unusedVariables false
set_option linter.unusedSimpArgs false
open Go.ChangeMaps (open_string shut_string)
open Go Go.ChangeShapes Go.WideShapes Go.ChangeAt Go.RowKit Go.Proofs.YtcaggadjkccbiaaGreat

theorem own : ownKnob Tryz.prog.godebug = none := by kernel_rfl

theorem law (p wd : Int) (s t : Bs) (w : World) (hs : s.length ≤ 1048576) (ht : t.length ≤ 1048576) : Calls Tryz.prog 4 #[.agg #[.int .i64 p, .int .i64 wd], .string ⟨s.toArray⟩, .string ⟨t.toArray⟩] w fun e w' => e = .returned (.bool true) ∧ Kp [] w w' :=
  ((aClashHolds p wd s t noS (by omega) (by omega)).lowerq (xs := [.agg #[.int .i64 p, .int .i64 wd], .string ⟨s.toArray⟩, .string ⟨t.toArray⟩]) (RVals.mk (RVal.of_frame p wd) (RVals.mk RVal.of_str (RVals.mk1 RVal.of_str)))).mono fun e w' ⟨v, he, hk, hv⟩ => by
    obtain rfl := hv.bool
    exact ⟨he, hk⟩

/-- What the bound gives: the text's length. -/
theorem short {H : Type} {d : DataW H} {s t : ByteArray} (hk : Rows.uptoSmall H [d, .lit (.string s.data.toList), .lit (.string t.data.toList)] = true) : s.data.toList.length ≤ 1048576 ∧ t.data.toList.length ≤ 1048576 := by
  have h : Rows.uptoBulkAll [d, DataW.lit (H := H) (.string s.data.toList), DataW.lit (H := H) (.string t.data.toList)] ≤ 1048576 := of_decide_eq_true hk
  simp only [Rows.uptoBulkAll, Rows.uptoBulk] at h
  omega

set_option maxRecDepth 100000 in
theorem lifted (os : Os) (started : os.Started) (H : Type) (enc : TypeId × Value → H) (F : Stop.Interp) :
    ReturnsInHanded {} Tryz.checked os 4 .any ((Rows.OpenSpec.upto Rows.clashHoldsSpec).pre6 enc Tryz.prog Tryz.f4 Rows.clashHoldsUptoRow.domain false) (((Rows.OpenSpec.upto Rows.clashHoldsSpec).at F).post enc Tryz.prog Tryz.f4 false true false false) := by
  refine returnsInHanded_of_cond (C := Tryz.checked) (s := Rows.OpenSpec.upto Rows.clashHoldsSpec) (k := Rows.uptoSmall) rfl own started (by kernel_rfl) Tryz.func4
    (OpenSpec.witness (enc := enc) (C := Tryz.checked) (s := Rows.OpenSpec.upto Rows.clashHoldsSpec) (k := Rows.uptoSmall) rfl false ⟨#[], #[.agg #[.int .i64 0, .int .i64 0], .string .empty, .string .empty], []⟩ 8 (by kernel_rfl) (by kernel_rfl) (by kernel_rfl)
      (x := ([.agg [.lit (.int .i64 0), .lit (.int .i64 0)], .lit (.string []), .lit (.string [])], [], [])) (by kernel_rfl) rfl (by kernel_rfl)) ?_
  intro W base args ds gs before hval0 hW _ hk _
  have hW' := hW
  obtain ⟨p, q, hA0, hV, rfl, hfz, hnd⟩ := hW
  have hval : ∀ (j : Nat) t v, Tryz.f4.params[j]? = some t → args[j]? = some v → Value.okWide Tryz.prog W .any base t v := hval0
  have hA : DataW.TrodAll enc Tryz.prog W 0 (fun _ => true) true Tryz.f4.params.toList args.toList ds p := hA0
  rw [Tryz.params4] at hA hval
  obtain ⟨v0, vs0, d0, ds0, p0, q0, hargs, rfl, rfl, h0, r0⟩ := trodAll_cons hA
  obtain ⟨v1, vs1, d1, ds1, p1, q1, rfl, rfl, rfl, h1, r1⟩ := trodAll_cons r0
  obtain ⟨v2, vs2, d2, ds2, p2, q2, rfl, rfl, rfl, h2, r2⟩ := trodAll_cons r1
  obtain ⟨rfl, rfl, rfl⟩ := trodAll_nil r2
  obtain rfl : args = #[v0, v1, v2] := by cases args; simp_all
  obtain ⟨rfl, rfl⟩ := trodVars_none hV
  have k0 := h0
  have lt0 : ∀ x ∈ p0, x.block < W.heap.size := by obtain ⟨m, hm⟩ := k0; exact DataW.trod_lt m _ _ _ hm
  obtain ⟨pg, wd, rfl, _⟩ := open_frame h0
  obtain ⟨s, rfl, rfl, rfl, hmax⟩ := open_string Tryz.underlying9 (hval 1 9 v1 rfl rfl) h1
  obtain ⟨t, rfl, rfl, rfl, hmax2⟩ := open_string Tryz.underlying9 (hval 2 9 v2 rfl rfl) h2
  clear hA0 hval0
  simp only [List.append_nil] at hW' hk
  have hs : Value.string s = .string ⟨s.data.toList.toArray⟩ := by simp
  have ht : Value.string t = .string ⟨t.data.toList.toArray⟩ := by simp
  refine ((by rw [hs, ht]; exact law pg wd s.data.toList t.data.toList W (short hk).1 (short hk).2) : Calls Tryz.prog 4 #[.agg #[.int .i64 pg, .int .i64 wd], .string s, .string t] W (fun e w' => e = .returned (.bool true) ∧ Kp [] W w')).mono fun e W' ⟨he, hk'⟩ => ?_
  have bel : Below W.heap.size W W' := hk'.below
  subst he
  have b0 := Below.trod laidOut (by kernel_rfl) (of_decide_eq_true (by kernel_rfl)) k0 bel lt0
  exact ⟨_, rfl, _, _, _, [], _, [], hW', trodAll_mk1 (shut_bool Tryz.underlying4 _), trodAll_cons_mk b0 (trodAll_cons_mk (shut_string Tryz.underlying9 hmax) (trodAll_cons_mk (shut_string Tryz.underlying9 hmax2) trodAll_mk0)), rfl, bel.frame _, fun h => by cases h⟩

theorem over : Rows.ClashHoldsUptoSaid :=
  OpenClaim.holds_of_cond 4 Tryz.f4 rfl rfl rfl rfl rfl rfl rfl ⟨rfl, rfl, rfl, rfl, rfl⟩ rfl rfl rfl rfl rfl (by kernel_rfl) Tryz.func4 (by kernel_rfl)
    (of_decide_eq_true (by kernel_rfl)) (by unfold Func.isWrapper; first | (rw [if_pos (by decide +kernel)]; kernel_rfl) | (rw [if_neg (by decide +kernel)]; exact ⟨rfl, rfl⟩))
    (fun os started H enc _ F => lifted os started H enc F)
end Go.Proofs.YtcaggadjkccbiaaGreat.ClashHolds
namespace Go.Proofs.YtcaggadjkccbiaaGreat
/-- ClashHolds, of bulk at most 1048576. -/
theorem clashHolds_upto : Rows.ClashHoldsUptoSaid := ClashHolds.over
#print axioms clashHolds_upto
end Go.Proofs.YtcaggadjkccbiaaGreat
