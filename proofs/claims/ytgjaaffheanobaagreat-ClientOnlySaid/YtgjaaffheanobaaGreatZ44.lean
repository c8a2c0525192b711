/- Digests of texts (values without addresses). -/
import Derived.Test.YtgjaaffheanobaaGreatZ42
import Derived.Test.YtgjaaffheanobaaGreatZ20
import Derived.Test.YtgjaaffheanobaaGreatZ43
namespace Go.Proofs.YtgjaaffheanobaaGreat
set_option maxHeartbeats 1000000
set_option maxRecDepth 100000
set_option linter.unusedVariables false
set_option linter.unusedSimpArgs false
open Go Go.RowKit

theorem aNRight (p wd:Int) (S:Sto):ACalls Tryz.prog 33 [frD p wd] S (RetQ (bD (rightB p wd)) S):=
 ACalls.liftq (callable Tryz.func33 rfl (by kernel_rfl)) fun w xs hS hx=>by
  obtain ⟨x,ys,rfl,h1,h2⟩:=hx.cons
  obtain rfl:=h2.nil
  obtain rfl:=h1.frame
  exact (right_any p wd w).mono fun e w' h=>⟨_,h.kp.1,h.kp.2,RVal.of_bool⟩
theorem aFits (wd:Int) (d:Dg) (S:Sto):ACalls Tryz.prog 34 [iD wd,.dg d] S (RetQ (bD (fitB wd d)) S):=
 ACalls.liftq (callable Tryz.func34 rfl (by kernel_rfl)) fun w xs hS hx=>by
  obtain ⟨x,ys,rfl,h1,h2⟩:=hx.cons
  obtain ⟨y,zs,rfl,h3,h4⟩:=h2.cons
  obtain rfl:=h4.nil
  obtain rfl:=h1.int
  obtain rfl:=h3.dig
  exact (fits_any wd d w).mono fun e w' h=>⟨_,h.kp.1,h.kp.2,RVal.of_bool⟩
theorem RVal.ss {w:World} {I:Nat→Nat→Prop} {t:Tag} {ss:List Bs} {x:Value} (h:RVal w I (.sl t (ss.map sD)) x):∃ a c,x=.slice a ss.length c∧SsAt w a ss:=by
 have hx:RV w I (.sl t (ss.map sD)) [x]:=by unfold RVal at h;exact h
 obtain ⟨a,c,he,_,_,hs⟩:=hx.list
 rw [List.length_map] at he
 simp only [List.cons.injEq,and_true] at he
 refine ⟨a,c,he,fun i p hi=>?_⟩
 obtain ⟨b,o,vs,ha,hb,hr,hc⟩:=hs i (sD p) (by simp [hi])
 unfold RV at hr
 obtain ⟨rfl,-⟩:=hr
 exact ⟨b,o,ha,hb,by simpa [D.size] using hc 0 _ rfl⟩
theorem aDigest1 (n:Int) (tag:Bs) (parts:List Bs) (t:Tag) (S:Sto) (hT:(textT tag parts).length≤140737488355000) (hn:parts.length≤1000000000) :
  ACalls Tryz.prog 57 [iD n,sD tag,.sl t (parts.map sD)] S (RetQ (.tup [.dg (digS n tag parts).1,iD (digS n tag parts).2]) S):=
 ACalls.liftq (callable Tryz.func57 rfl (by kernel_rfl)) fun w xs hS hx=>by
  obtain ⟨x,ys,rfl,h1,h2⟩:=hx.cons
  obtain ⟨y,zs,rfl,h3,h4⟩:=h2.cons
  obtain ⟨z,us,rfl,h5,h6⟩:=h4.cons
  obtain rfl:=h6.nil
  obtain rfl:=h1.int
  obtain rfl:=h3.str
  obtain ⟨a,c,rfl,hp⟩:=h5.ss
  exact (dig_any n tag parts a c w hp hT hn).mono fun e w' h=>⟨_,h.kp.1,h.kp.2,RVal.mk_tup (RVals.mk (by unfold RVal;rfl) (RVals.mk RVal.of_int RVals.mk0))⟩
end Go.Proofs.YtgjaaffheanobaaGreat