/- The row of ClientOnly: for every frame and every list of steps the law answers true. -/
import Derived.Test.YtgjaaffheanobaaGreatRows
import Derived.Test.YtgjaaffheanobaaGreatZ52
import Derived.Test.YtgjaaffheanobaaGreatZ50
import Derived.Test.YtgjaaffheanobaaGreatZ53
import Derived.ProofKit
import Derived.OpenShut
import Derived.ShutString
import Derived.ChangeOld
import Derived.Below
import Derived.SizedLaws
namespace Go.Proofs.YtgjaaffheanobaaGreat.ClientOnly
set_option linter.unusedVariables false
set_option linter.unusedSimpArgs false
open Go Go.ChangeShapes Go.WideShapes Go.ChangeAt Go.RowKit Go.Proofs.YtgjaaffheanobaaGreat

theorem own:ownKnob Tryz.prog.godebug=none:=by kernel_rfl

theorem fewer:reachBytes≤140737488355328:=of_decide_eq_true (by kernel_rfl)
theorem more {N M:Nat} {s:Stp} (h:s.Ok N) (hm:N≤M):s.Ok M:=⟨h.hh,h.he,h.hn,Nat.le_trans h.ht hm,Nat.le_trans h.hs hm,Nat.le_trans h.hk hm,Nat.le_trans h.ho hm,Nat.le_trans h.hp hm⟩
theorem law (pg wid:Int) (l:List Stp) (hl:l.length≤reachBytes) (hok:∀ s∈l,s.Ok reachBytes) (v0 v1:Value) (w:World) (h0:RVal w noS.I (frD pg wid) v0) (h1:RVal w noS.I (.sl .none (l.map stpD)) v1):Calls Tryz.prog 4 #[v0,v1] w fun e w'=>e=.returned (.bool true)∧Kp [] w w':=
 ((aClientOnly pg wid .none l noS (Nat.le_trans hl fewer) (fun s hs=>more (hok s hs) fewer)).lowerq (xs:=[v0,v1]) (RVals.mk h0 (RVals.mk1 h1))).mono fun e w' ⟨v,he,hk,hv⟩=>by
  obtain rfl:=hv.bool
  exact ⟨he,hk⟩

set_option maxRecDepth 100000 in
theorem lifted (os:Os) (started:os.Started) (H:Type) (enc:TypeId×Value→H) :
  ReturnsInHanded {} Tryz.checked os 4 .any (Rows.clientOnlySpec.pre6 enc Tryz.prog Tryz.f4 Rows.clientOnlyRow.domain false) (Rows.clientOnlySpec.post enc Tryz.prog Tryz.f4 false true false false):=by
 refine returnsInHanded_of_change_sized (C:=Tryz.checked) own started (by kernel_rfl) Tryz.func4
  (ChangeSpec.witness6 (enc:=enc) (C:=Tryz.checked) false ⟨#[],#[.agg #[.int .i64 0,.int .i64 0],.slice none 0 0],[]⟩ 8 (by kernel_rfl) (by kernel_rfl) (by kernel_rfl) (by kernel_rfl)) ?_
 intro W base args ds gs before hval0 hW hcnd hsz0 _
 have hW':=hW
 obtain ⟨p,q,hA0,hV,rfl,hfz,hnd⟩:=hW
 have hsz:(DataW.weightsEach Tryz.prog (Tryz.f4.params.toList++Rows.clientOnlySpec.plain.varTypes Tryz.prog) (ds++gs)).all (·≤reachBytes)=true:=hsz0
 have hA:DataW.TrodAll enc Tryz.prog W 0 (fun _=>true) true Tryz.f4.params.toList args.toList ds p:=hA0
 have hval:∀ (j:Nat) t v,Tryz.f4.params[j]?=some t→args[j]?=some v→Value.okWide Tryz.prog W .any base t v:=hval0
 rw [Tryz.params4] at hA hsz hval
 obtain ⟨v0,vs0,d0,ds0,p0,q0,hargs,rfl,rfl,h0,r0⟩:=trodAll_cons hA
 obtain ⟨v1,vs1,d1,ds1,p1,q1,rfl,rfl,rfl,h1,r1⟩:=trodAll_cons r0
 obtain ⟨rfl,rfl,rfl⟩:=trodAll_nil r1
 obtain rfl:args=#[v0,v1]:=by cases args;simp_all
 obtain ⟨rfl,rfl⟩:=trodVars_none hV
 have k0:=h0;have k1:=h1
 have lt0:∀ x∈p0,x.block<W.heap.size:=by obtain ⟨m,hm⟩:=k0;exact DataW.trod_lt m _ _ _ hm
 have lt1:∀ x∈p1,x.block<W.heap.size:=by obtain ⟨m,hm⟩:=k1;exact DataW.trod_lt m _ _ _ hm
 obtain ⟨x0,i0,g0⟩:=open_val (bd_weights H Tryz.prog) (s:=shFr) (by kernel_rfl) (hval 0 _ v0 rfl rfl) h0 (weights_at hsz (j:=0) (d:=d0) rfl rfl)
 obtain ⟨x1,i1,g1⟩:=open_val (bd_weights H Tryz.prog) (s:=.sl shSt) (by kernel_rfl) (hval 1 _ v1 rfl rfl) h1 (weights_at hsz (j:=1) (d:=d1) rfl rfl)
 obtain ⟨pg,wid,rfl⟩:=i0.frame
 obtain ⟨l,rfl,hl,hok⟩:=i1.steps fewer
 clear hA0 hval0 hsz0 hsz
 refine (law pg wid l hl hok v0 v1 W g0 g1).mono fun e W' ⟨he,hk⟩=>?_
 have bel:Below W.heap.size W W':=hk.below
 subst he
 have b0:=Below.trod laidOut (by kernel_rfl) (of_decide_eq_true (by kernel_rfl)) k0 bel lt0
 have b1:=Below.trod laidOut (by kernel_rfl) (of_decide_eq_true (by kernel_rfl)) k1 bel lt1
 exact ⟨_,rfl,_,_,_,[],_,[],hW',trodAll_mk1 (shut_bool Tryz.underlying4 _),trodAll_cons_mk b0 (trodAll_cons_mk b1 trodAll_mk0),rfl,bel.frame _,fun h=>by cases h⟩

theorem over:Rows.clientOnlyRow.holds Tryz.pinned (OpenSpec.ofChange Rows.clientOnlySpec):=
 OpenClaim.holds_of_wide 4 Tryz.f4 rfl rfl rfl rfl rfl rfl rfl ⟨rfl,rfl,rfl,rfl,rfl⟩ rfl rfl rfl rfl rfl (by kernel_rfl) Tryz.func4 (by kernel_rfl)
  (of_decide_eq_true (by kernel_rfl)) (by unfold Func.isWrapper;first | (rw [if_pos (by decide +kernel)];kernel_rfl) | (rw [if_neg (by decide +kernel)];exact ⟨rfl,rfl⟩))
  (fun os started H enc _=>lifted os started H enc)
end Go.Proofs.YtgjaaffheanobaaGreat.ClientOnly
namespace Go.Proofs.YtgjaaffheanobaaGreat
theorem clientOnly_holds:Rows.ClientOnlySaid:=ClientOnly.over
#print axioms clientOnly_holds
end Go.Proofs.YtgjaaffheanobaaGreat