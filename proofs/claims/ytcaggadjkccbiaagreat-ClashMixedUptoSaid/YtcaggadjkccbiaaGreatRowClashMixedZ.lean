/- The row of ClashMixed, where what comes in is of bulk at most 1048576: for every question the law answers true, and it reads as it read before. -/
import Derived.Test.YtcaggadjkccbiaaGreatRows
import Derived.Test.YtcaggadjkccbiaaGreatZ26
import Derived.Test.YtcaggadjkccbiaaGreatZ52
import Derived.Test.YtcaggadjkccbiaaGreatZ53
import Derived.ProofKit
import Derived.OpenShut
import Derived.ShutString
import Derived.ChangeOld
import Derived.Below
import Derived.SizedLaws
import Derived.JoinedCond
namespace Go.Proofs.YtcaggadjkccbiaaGreat.ClashMixed
set_option linter.unusedVariables false
set_option linter.unusedSimpArgs false
open Go.ChangeMaps (open_string shut_string)
open Go Go.ChangeShapes Go.WideShapes Go.ChangeAt Go.RowKit Go.Proofs.YtcaggadjkccbiaaGreat

theorem own:ownKnob Tryz.prog.godebug=none:=by kernel_rfl

theorem law (pg wd:Int) (rt:D) (rb key lo hi x y:Bs) (v:Value) (w:World) (hv:RVal w noS.I (askD pg wd rt key lo hi x y) v) (hrt:RtOk rt rb) (hr:rb.length≤1048576) (hx:x.length≤1048576) (hy:y.length≤1048576):Calls Tryz.prog 6 #[v] w fun e w'=>e=.returned (.bool true)∧Kp [] w w':=
 ((aClashMixed pg wd rt rb key lo hi x y noS hrt hr hx hy).lowerq (xs:=[v]) (RVals.mk1 hv)).mono fun e w' ⟨v,he,hk,hv⟩=>by
  obtain rfl:=hv.bool
  exact ⟨he,hk⟩

set_option maxRecDepth 100000 in
theorem lifted (os:Os) (started:os.Started) (H:Type) (enc:TypeId×Value→H) (F:Stop.Interp) :
  ReturnsInHanded {} Tryz.checked os 6 .any ((Rows.OpenSpec.upto Rows.clashMixedSpec).pre6 enc Tryz.prog Tryz.f6 Rows.clashMixedUptoRow.domain false) (((Rows.OpenSpec.upto Rows.clashMixedSpec).at F).post enc Tryz.prog Tryz.f6 false true false false):=by
 refine returnsInHanded_of_cond (C:=Tryz.checked) (s:=Rows.OpenSpec.upto Rows.clashMixedSpec) (k:=Rows.uptoSmall) rfl own started (by kernel_rfl) Tryz.func6
  (OpenSpec.witness (enc:=enc) (C:=Tryz.checked) (s:=Rows.OpenSpec.upto Rows.clashMixedSpec) (k:=Rows.uptoSmall) rfl false ⟨#[],#[.agg #[.int .i64 0,.int .i64 0,.slice none 0 0,.string .empty,.string .empty,.string .empty,.string .empty,.string .empty]],[]⟩ 8 (by kernel_rfl) (by kernel_rfl) (by kernel_rfl)
   (x:=([.agg [.agg [.lit (.int .i64 0),.lit (.int .i64 0)],.nil,.lit (.string []),.lit (.string []),.lit (.string []),.lit (.string []),.lit (.string [])]],[],[])) (by kernel_rfl) rfl (by kernel_rfl)) ?_
 intro W base args ds gs before hval0 hW _ hk _
 have hW':=hW
 obtain ⟨p,q,hA0,hV,rfl,hfz,hnd⟩:=hW
 have hval:∀ (j:Nat) t v,Tryz.f6.params[j]?=some t→args[j]?=some v→Value.okWide Tryz.prog W .any base t v:=hval0
 have hA:DataW.TrodAll enc Tryz.prog W 0 (fun _=>true) true Tryz.f6.params.toList args.toList ds p:=hA0
 rw [Tryz.params6] at hA hval
 obtain ⟨v0,vs0,d0,ds0,p0,q0,hargs,rfl,rfl,h0,r0⟩:=trodAll_cons hA
 obtain ⟨rfl,rfl,rfl⟩:=trodAll_nil r0
 obtain rfl:args=#[v0]:=by cases args;simp_all
 obtain ⟨rfl,rfl⟩:=trodVars_none hV
 have k0:=h0
 have lt0:∀ x∈p0,x.block<W.heap.size:=by obtain ⟨m,hm⟩:=k0;exact DataW.trod_lt m _ _ _ hm
 simp only [List.append_nil] at hW' hk
 have hb:Rows.uptoBulk d0≤1048576:=by
  have h:Rows.uptoBulkAll [d0]≤1048576:=of_decide_eq_true hk
  simp only [Rows.uptoBulkAll] at h
  omega
 obtain ⟨pg,wd,rt,rb,key,lo,hi,x,y,hv,hrt,g0,g1,g2,g3,g4,g5⟩:=open_ask h0 hb
 clear hA0 hval0
 refine (law pg wd rt rb key lo hi x y v0 W hv hrt g0 g4 g5).mono fun e W' ⟨he,hk'⟩=>?_
 have bel:Below W.heap.size W W':=hk'.below
 subst he
 have b0:=Below.trod laidOut (by kernel_rfl) (of_decide_eq_true (by kernel_rfl)) k0 bel lt0
 exact ⟨_,rfl,_,_,_,[],_,[],hW',trodAll_mk1 (shut_bool Tryz.underlying4 _),trodAll_cons_mk b0 trodAll_mk0,rfl,bel.frame _,fun h=>by cases h⟩

theorem over:Rows.ClashMixedUptoSaid:=
 OpenClaim.holds_of_cond 6 Tryz.f6 rfl rfl rfl rfl rfl rfl rfl ⟨rfl,rfl,rfl,rfl,rfl⟩ rfl rfl rfl rfl rfl (by kernel_rfl) Tryz.func6 (by kernel_rfl)
  (of_decide_eq_true (by kernel_rfl)) (by unfold Func.isWrapper;first | (rw [if_pos (by decide +kernel)];kernel_rfl) | (rw [if_neg (by decide +kernel)];exact ⟨rfl,rfl⟩))
  (fun os started H enc _ F=>lifted os started H enc F)
end Go.Proofs.YtcaggadjkccbiaaGreat.ClashMixed
namespace Go.Proofs.YtcaggadjkccbiaaGreat
theorem clashMixed_upto:Rows.ClashMixedUptoSaid:=ClashMixed.over
#print axioms clashMixed_upto
end Go.Proofs.YtcaggadjkccbiaaGreat