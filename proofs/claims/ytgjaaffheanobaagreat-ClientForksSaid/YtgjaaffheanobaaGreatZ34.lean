/- The document's frames and digests that may be (values without addresses). -/
import Derived.Test.YtgjaaffheanobaaGreatZ22
import Derived.Test.YtgjaaffheanobaaGreatZ32
import Derived.Test.YtgjaaffheanobaaGreatZ33
namespace Go.Proofs.YtgjaaffheanobaaGreat
set_option maxHeartbeats 1000000
set_option maxRecDepth 100000
set_option linter.unusedVariables false
set_option linter.unusedSimpArgs false
open Go Go.RowKit

theorem aRight (p wd:Int) (S:Sto):ACalls Tryz.prog 35 [frD p wd] S (RetQ (bD (rightB p wd)) S):=
 ACalls.liftq (callable Tryz.func35 rfl (by kernel_rfl)) fun w xs hS hx=>by
  obtain ⟨x,ys,rfl,h1,h2⟩:=hx.cons
  obtain rfl:=h2.nil
  obtain rfl:=h1.frame
  exact (rright_any p wd w).mono fun e w' h=>⟨_,h.kp.1,h.kp.2,RVal.of_bool⟩
theorem aRFits (p:Int) (n:Nat) (d:Dg) (S:Sto) (h1:1≤n) (h2:n≤32):ACalls Tryz.prog 36 [frD p n,.dg d] S (RetQ (bD (fitB n d)) S):=by
 have hf:fitB n d=zeroFrom n d.l:=by
  unfold fitB
  rw [cut_zeros h2,decide_eq_true (by omega)]
  rfl
 rw [hf]
 have hdl:=d.h
 refine acalls_of prg Tryz.func36 rfl (by kernel_rfl) (congrArg Array.toList Tryz.results36) Tryz.ntmps36 (fun B hB=>fA ?_)
 refine Wk Y0 ?_
 refine AW.loopS 6 [5] (fun xs S'=>∃ i:Nat,xs=[iD i]∧S'=S∧n≤i∧i≤32∧zeroFrom n d.l=zeroFrom i d.l) (fun xs _=>32 - nI (xs.getD 0 .any)) [iD n] S ?_ (Sto.Sub.refl _) ⟨n,rfl,rfl,by omega,by omega,rfl⟩ ?_
 ·exact wK
 rintro xs S' ⟨i,rfl,rfl,hi1,hi2,hz⟩
 refine fR ?_
 by_cases hlt:i<32
 ·obtain ⟨b,hb⟩:∃ b,d.l[i]?=some b:=⟨_,List.getElem?_eq_getElem (by omega)⟩
  have d1:decide ((i:Int)<32)=true:=decide_eq_true (by omega)
  have c1:(0:Int)≤i:=by omega
  have f1:IntKind.i64.wrap ((i:Int)+1)=((i+1:Nat):Int):=IntWalk.i64_in _ (by omega)
  rw [zeroFrom_step hb] at hz
  by_cases hb0:b=0
  ·subst hb0
   have z0:(((0:UInt8).toNat:Int) != 0)=false:=rfl
   refine Wk (Yy d1 (Yy hb (Yy c1 (Yy Int.toNat_natCast (Yy z0 f1))))) ?_
   refine ⟨[iD (i+1:Nat)],S',?_,Sto.Sub.refl _,⟨i+1,rfl,rfl,by omega,by omega,by rw [hz];rfl⟩,?_⟩
   ·exact wK
   ·exact mE
  ·have z0:((b.toNat:Int) != 0)=true:=by
    simp only [bne_iff_ne,ne_eq]
    intro h
    exact hb0 (UInt8.toNat.inj (by simpa using h))
   have z1:(b == 0)=false:=beq_eq_false_iff_ne.2 hb0
   rw [z1,Bool.false_and] at hz
   rw [hz]
   refine Wk (Yy d1 (Yy hb (Yy c1 (Yy Int.toNat_natCast (Yy z0 f1))))) ?_
   exact rE
 ·obtain rfl:i=32:=by omega
  have d1:decide (((32:Nat):Int)<32)=false:=rfl
  rw [← hdl,zeroFrom_end] at hz
  rw [hz]
  refine Wk d1 ?_
  exact rE

end Go.Proofs.YtgjaaffheanobaaGreat