/- A kid is read, and the separator ahead of it. -/
import Derived.Test.YtgjaaffheanobaaGreatZ32
import Derived.Test.YtgjaaffheanobaaGreatZ33
import Derived.Deep.RegionLaw
namespace Go.Proofs.YtgjaaffheanobaaGreat
set_option linter.unusedVariables false
set_option linter.unusedSimpArgs false
open Go Go.RowKit

def JK (b fb pb fst nb P wd:Nat) (pages:Bool) (x:Bool×List Bs) (w:World) (fp:List Nat):Prop:=
 ∃ a c,fp=fst::nb::fb::pb::ab a∧Blk w fst 4 #[.bool x.1]∧Blk w nb 206 #[.slice none 0 0,.slice a x.2.length c,.slice none 0 0]∧Own w 9 1 a x.2.length c (x.2.map fun t=>.string ⟨t.toArray⟩)
  ∧ Blk w fb 23 #[.int .i64 P,.int .i64 wd]∧Blk w pb 4 #[.bool pages]∧fst ∉ ab a∧nb ∉ ab a∧fb ∉ ab a∧pb ∉ ab a∧b ∉ ab a

theorem JK.st {b fb pb fst nb P wd:Nat} {pages:Bool} (h1:fb≠b) (h2:pb≠b) (h3:fst≠b) (h4:nb≠b):St b (JK b fb pb fst nb P wd pages) where
 kp:=fun {x w w' fp S} ⟨a,c,e,b1,b2,o,b3,b4,n⟩ k hs=>by
  subst e
  simp only [List.mem_cons,forall_eq_or_imp] at hs
  exact ⟨a,c,rfl,b1.kp k hs.1,b2.kp k hs.2.1,o.kp k hs.2.2.2.2,b3.kp k hs.2.2.1,b4.kp k hs.2.2.2.1,n⟩
 lt:=fun {x w fp} ⟨a,c,e,b1,b2,o,b3,b4,_,_,_,_,n⟩ g hg=>by
  subst e
  simp only [List.mem_cons] at hg
  rcases hg with rfl | rfl | rfl | rfl | hg
  ·exact ⟨b1.lt,h3⟩
  ·exact ⟨b2.lt,h4⟩
  ·exact ⟨b3.lt,h1⟩
  ·exact ⟨b4.lt,h2⟩
  ·exact ⟨o.lt g hg,fun e=>n (e ▸ hg)⟩

@[go_sem] theorem Kd.set0 (k:Kd) (n:Nat):k.c.setIfInBounds 0 (.int .u32 (n:Int))=(Kd.mk n k.sum).c:=by simp [Kd.c]
@[go_sem] theorem Kd.spl1 (k:Kd) (d:Dg):spl k.c 1 d.c=(Kd.mk k.page d).c:=by
 apply Array.ext'
 have h1:(bC k.sum.l).length=32:=by simp [bC,k.sum.h]
 have h2:(bC d.l).length=32:=by simp [bC,d.h]
 simp [spl,Kd.c,Dg.c,h2]
 omega

end Go.Proofs.YtgjaaffheanobaaGreat