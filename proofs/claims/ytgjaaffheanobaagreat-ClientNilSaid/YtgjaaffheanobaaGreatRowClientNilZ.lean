/- The row of ClientNil: the law answers true. -/
import Derived.Test.YtgjaaffheanobaaGreatRows
import Derived.Test.YtgjaaffheanobaaGreatZ49
import Derived.ProofKit
import Derived.OpenShut
import Derived.ShutString
import Derived.ChangeOld
import Derived.Below
import Derived.SizedLaws
namespace Go.Proofs.YtgjaaffheanobaaGreat.ClientNil
set_option linter.unusedVariables false
set_option linter.unusedSimpArgs false
open Go Go.ChangeShapes Go.WideShapes Go.ChangeAt Go.RowKit Go.Proofs.YtgjaaffheanobaaGreat

theorem own:ownKnob Tryz.prog.godebug=none:=by kernel_rfl

theorem law (w:World):Calls Tryz.prog 9 #[] w fun e w'=>e=.returned (.bool true)∧Kp [] w w':=
 ((aClientNil noS).lowerq (xs:=[]) RVals.mk0).mono fun e w' ⟨v,he,hk,hv⟩=>by
  obtain rfl:=hv.bool
  exact ⟨he,hk⟩

set_option maxRecDepth 100000 in
theorem lifted (os:Os) (started:os.Started) (H:Type) (enc:TypeId×Value→H) :
  ReturnsInHanded {} Tryz.checked os 9 .any (Rows.clientNilSpec.pre6 enc Tryz.prog Tryz.f9 Rows.clientNilRow.domain false) (Rows.clientNilSpec.post enc Tryz.prog Tryz.f9 false true false false):=by
 refine returnsInHanded_of_change_sized (C:=Tryz.checked) own started (by kernel_rfl) Tryz.func9
  (ChangeSpec.witness6 (enc:=enc) (C:=Tryz.checked) false ⟨#[],#[],[]⟩ 8 (by kernel_rfl) (by kernel_rfl) (by kernel_rfl) (by kernel_rfl)) ?_
 intro W base args ds gs before hval0 hW hcnd hsz0 _
 have hW':=hW
 obtain ⟨p,q,hA0,hV,rfl,hfz,hnd⟩:=hW
 have hA:DataW.TrodAll enc Tryz.prog W 0 (fun _=>true) true Tryz.f9.params.toList args.toList ds p:=hA0
 rw [Tryz.params9] at hA
 obtain ⟨rfl,rfl,rfl⟩:=trodAll_none hA
 obtain ⟨rfl,rfl⟩:=trodVars_none hV
 clear hA0 hval0 hsz0
 refine (law W).mono fun e W' ⟨he,hk'⟩=>?_
 have bel:Below W.heap.size W W':=hk'.below
 subst he
 exact ⟨_,rfl,_,_,_,[],_,[],hW',trodAll_mk1 (shut_bool Tryz.underlying4 _),trodAll_mk0,rfl,bel.frame _,fun h=>by cases h⟩

theorem over:Rows.clientNilRow.holds Tryz.pinned (OpenSpec.ofChange Rows.clientNilSpec):=
 OpenClaim.holds_of_wide 9 Tryz.f9 rfl rfl rfl rfl rfl rfl rfl ⟨rfl,rfl,rfl,rfl,rfl⟩ rfl rfl rfl rfl rfl (by kernel_rfl) Tryz.func9 (by kernel_rfl)
  (of_decide_eq_true (by kernel_rfl)) (by unfold Func.isWrapper;first | (rw [if_pos (by decide +kernel)];kernel_rfl) | (rw [if_neg (by decide +kernel)];exact ⟨rfl,rfl⟩))
  (fun os started H enc _=>lifted os started H enc)
end Go.Proofs.YtgjaaffheanobaaGreat.ClientNil
namespace Go.Proofs.YtgjaaffheanobaaGreat
theorem clientNil_holds:Rows.ClientNilSaid:=ClientNil.over
#print axioms clientNil_holds
end Go.Proofs.YtgjaaffheanobaaGreat