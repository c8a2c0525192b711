/- The row of ClientForks: for every frame and every two heads the law answers true. -/
import Derived.Test.YtgjaaffheanobaaGreatRows
import Derived.Test.YtgjaaffheanobaaGreatZ50
import Derived.Test.YtgjaaffheanobaaGreatZ52
import Derived.Test.YtgjaaffheanobaaGreatZ53
import Derived.ProofKit
import Derived.OpenShut
import Derived.ShutString
import Derived.ChangeOld
import Derived.Below
import Derived.SizedLaws
namespace Go.Proofs.YtgjaaffheanobaaGreat.ClientForks
set_option linter.unusedVariables false
set_option linter.unusedSimpArgs false
open Go Go.ChangeShapes Go.WideShapes Go.ChangeAt Go.RowKit Go.Proofs.YtgjaaffheanobaaGreat

theorem own:ownKnob Tryz.prog.godebug=none:=by kernel_rfl

theorem law (pg wd:Int) (a b:Hd) (v0 v1:Value) (w:World) (h0:RVal w noS.I (frD pg wd) v0) (h1:RVal w noS.I (evD a b) v1):Calls Tryz.prog 3 #[v0,v1] w fun e w'=>e=.returned (.bool true)∧Kp [] w w':=
 ((aClientForks pg wd a b noS).lowerq (xs:=[v0,v1]) (RVals.mk h0 (RVals.mk1 h1))).mono fun e w' ⟨v,he,hk,hv⟩=>by
  obtain rfl:=hv.bool
  exact ⟨he,hk⟩

set_option maxRecDepth 100000 in
theorem lifted (os:Os) (started:os.Started) (H:Type) (enc:TypeId×Value→H) :
  ReturnsInHanded {} Tryz.checked os 3 .any (Rows.clientForksSpec.pre6 enc Tryz.prog Tryz.f3 Rows.clientForksRow.domain false) (Rows.clientForksSpec.post enc Tryz.prog Tryz.f3 false true false false):=by
 refine returnsInHanded_of_change_sized (C:=Tryz.checked) own started (by kernel_rfl) Tryz.func3
  (ChangeSpec.witness6 (enc:=enc) (C:=Tryz.checked) false ⟨#[],#[.agg #[.int .i64 0,.int .i64 0],.agg #[.int .u64 0,.int .u8 0,.int .u8 0,.int .u8 0,.int .u8 0,.int .u8 0,.int .u8 0,.int .u8 0,.int .u8 0,.int .u8 0,.int .u8 0,.int .u8 0,.int .u8 0,.int .u8 0,.int .u8 0,.int .u8 0,.int .u8 0,.int .u8 0,.int .u8 0,.int .u8 0,.int .u8 0,.int .u8 0,.int .u8 0,.int .u8 0,.int .u8 0,.int .u8 0,.int .u8 0,.int .u8 0,.int .u8 0,.int .u8 0,.int .u8 0,.int .u8 0,.int .u8 0,.int .u64 0,.int .u8 0,.int .u8 0,.int .u8 0,.int .u8 0,.int .u8 0,.int .u8 0,.int .u8 0,.int .u8 0,.int .u8 0,.int .u8 0,.int .u8 0,.int .u8 0,.int .u8 0,.int .u8 0,.int .u8 0,.int .u8 0,.int .u8 0,.int .u8 0,.int .u8 0,.int .u8 0,.int .u8 0,.int .u8 0,.int .u8 0,.int .u8 0,.int .u8 0,.int .u8 0,.int .u8 0,.int .u8 0,.int .u8 0,.int .u8 0,.int .u8 0,.int .u8 0]],[]⟩ 8 (by kernel_rfl) (by kernel_rfl) (by kernel_rfl) (by kernel_rfl)) ?_
 intro W base args ds gs before hval0 hW hcnd hsz0 _
 have hW':=hW
 obtain ⟨p,q,hA0,hV,rfl,hfz,hnd⟩:=hW
 have hsz:(DataW.weightsEach Tryz.prog (Tryz.f3.params.toList++Rows.clientForksSpec.plain.varTypes Tryz.prog) (ds++gs)).all (·≤reachBytes)=true:=hsz0
 have hA:DataW.TrodAll enc Tryz.prog W 0 (fun _=>true) true Tryz.f3.params.toList args.toList ds p:=hA0
 have hval:∀ (j:Nat) t v,Tryz.f3.params[j]?=some t→args[j]?=some v→Value.okWide Tryz.prog W .any base t v:=hval0
 rw [Tryz.params3] at hA hsz hval
 obtain ⟨v0,vs0,d0,ds0,p0,q0,hargs,rfl,rfl,h0,r0⟩:=trodAll_cons hA
 obtain ⟨v1,vs1,d1,ds1,p1,q1,rfl,rfl,rfl,h1,r1⟩:=trodAll_cons r0
 obtain ⟨rfl,rfl,rfl⟩:=trodAll_nil r1
 obtain rfl:args=#[v0,v1]:=by cases args;simp_all
 obtain ⟨rfl,rfl⟩:=trodVars_none hV
 have k0:=h0;have k1:=h1
 have lt0:∀ x∈p0,x.block<W.heap.size:=by obtain ⟨m,hm⟩:=k0;exact DataW.trod_lt m _ _ _ hm
 have lt1:∀ x∈p1,x.block<W.heap.size:=by obtain ⟨m,hm⟩:=k1;exact DataW.trod_lt m _ _ _ hm
 obtain ⟨x0,i0,g0⟩:=open_val (bd_weights H Tryz.prog) (s:=shFr) (by kernel_rfl) (hval 0 _ v0 rfl rfl) h0 (weights_at hsz (j:=0) (d:=d0) rfl rfl)
 obtain ⟨x1,i1,g1⟩:=open_val (bd_weights H Tryz.prog) (s:=shEv) (by kernel_rfl) (hval 1 _ v1 rfl rfl) h1 (weights_at hsz (j:=1) (d:=d1) rfl rfl)
 obtain ⟨pg,wd,rfl⟩:=i0.frame
 obtain ⟨a,b,rfl,_,_⟩:=i1.evid
 clear hA0 hval0 hsz0 hsz
 refine (law pg wd a b v0 v1 W g0 g1).mono fun e W' ⟨he,hk⟩=>?_
 have bel:Below W.heap.size W W':=hk.below
 subst he
 have b0:=Below.trod laidOut (by kernel_rfl) (of_decide_eq_true (by kernel_rfl)) k0 bel lt0
 have b1:=Below.trod laidOut (by kernel_rfl) (of_decide_eq_true (by kernel_rfl)) k1 bel lt1
 exact ⟨_,rfl,_,_,_,[],_,[],hW',trodAll_mk1 (shut_bool Tryz.underlying4 _),trodAll_cons_mk b0 (trodAll_cons_mk b1 trodAll_mk0),rfl,bel.frame _,fun h=>by cases h⟩

theorem over:Rows.clientForksRow.holds Tryz.pinned (OpenSpec.ofChange Rows.clientForksSpec):=
 OpenClaim.holds_of_wide 3 Tryz.f3 rfl rfl rfl rfl rfl rfl rfl ⟨rfl,rfl,rfl,rfl,rfl⟩ rfl rfl rfl rfl rfl (by kernel_rfl) Tryz.func3 (by kernel_rfl)
  (of_decide_eq_true (by kernel_rfl)) (by unfold Func.isWrapper;first | (rw [if_pos (by decide +kernel)];kernel_rfl) | (rw [if_neg (by decide +kernel)];exact ⟨rfl,rfl⟩))
  (fun os started H enc _=>lifted os started H enc)
end Go.Proofs.YtgjaaffheanobaaGreat.ClientForks
namespace Go.Proofs.YtgjaaffheanobaaGreat
theorem clientForks_holds:Rows.ClientForksSaid:=ClientForks.over
#print axioms clientForks_holds
end Go.Proofs.YtgjaaffheanobaaGreat