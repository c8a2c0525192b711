/- The law of forks (values without addresses). -/
import Derived.Test.YtgjaaffheanobaaGreatZ34
import Derived.Test.YtgjaaffheanobaaGreatZ49
namespace Go.Proofs.YtgjaaffheanobaaGreat
set_option maxHeartbeats 1000000
set_option maxRecDepth 100000
set_option linter.unusedVariables false
set_option linter.unusedSimpArgs false
open Go Go.RowKit

theorem aRFork (pg wd:Int) (a b:Hd) (S:Sto):ACalls Tryz.prog 11 [frD pg wd,evD a b] S (RetQ (bD (forkB pg wd a b)) S):=by
 obtain ⟨na,al⟩:=a
 obtain ⟨nb,bl⟩:=b
 have c1:=fun S=>aRight pg wd S
 unfold forkB
 simp only
 cases h1:rightB pg wd with
 | false=>
  rw [h1] at c1
  simp only [Bool.false_and]
  refine acalls_of prg Tryz.func11 rfl (by kernel_rfl) (congrArg Array.toList Tryz.results11) Tryz.ntmps11 (fun B hB=>fA ?_)
  refine Wk Y0 ?_
  refine cQ (c1 _) ?_
  refine Wk Y0 ?_
  exact rE
 | true=>
 rw [h1] at c1
 have hr:=rightB_iff.1 h1
 obtain ⟨k,rfl⟩:=Int.eq_ofNat_of_zero_le (show 0≤wd by omega)
 have c2:=fun S=>aRFits pg k al S (by omega) (by omega)
 have c3:=fun S=>aRFits pg k bl S (by omega) (by omega)
 cases h2:fitB k al with
 | false=>
  rw [h2] at c2
  simp only [Bool.false_and,Bool.and_false]
  refine acalls_of prg Tryz.func11 rfl (by kernel_rfl) (congrArg Array.toList Tryz.results11) Tryz.ntmps11 (fun B hB=>fA ?_)
  refine Wk Y0 ?_
  refine cQ (c1 _) ?_
  refine Wk Y0 ?_
  refine cQ (c2 _) ?_
  refine Wk Y0 ?_
  exact rE
 | true=>
 rw [h2] at c2
 cases h3:fitB k bl with
 | false=>
  rw [h3] at c3
  simp only [Bool.false_and,Bool.and_false]
  refine acalls_of prg Tryz.func11 rfl (by kernel_rfl) (congrArg Array.toList Tryz.results11) Tryz.ntmps11 (fun B hB=>fA ?_)
  refine Wk Y0 ?_
  refine cQ (c1 _) ?_
  refine Wk Y0 ?_
  refine cQ (c2 _) ?_
  refine Wk Y0 ?_
  refine cQ (c3 _) ?_
  refine Wk Y0 ?_
  exact rE
 | true=>
 rw [h3] at c3
 simp only [Bool.true_and]
 by_cases h4:na=nb
 case neg=>
  have z4:((na:Int) == nb)=false:=by rw [beq_eq_false_iff_ne];omega
  rw [decide_eq_false h4]
  simp only [Bool.false_and]
  refine acalls_of prg Tryz.func11 rfl (by kernel_rfl) (congrArg Array.toList Tryz.results11) Tryz.ntmps11 (fun B hB=>fA ?_)
  refine Wk Y0 ?_
  refine cQ (c1 _) ?_
  refine Wk Y0 ?_
  refine cQ (c2 _) ?_
  refine Wk Y0 ?_
  refine cQ (c3 _) ?_
  refine Wk z4 ?_
  exact rE
 have z4:((na:Int) == nb)=true:=by rw [beq_iff_eq];omega
 rw [decide_eq_true h4]
 simp only [Bool.true_and]
 by_cases h5:na=0
 ·have z5:((na:Int) != 0)=false:=by rw [bne_eq_false_iff_eq];omega
  rw [decide_eq_false (fun q=>q h5)]
  simp only [Bool.false_and]
  refine acalls_of prg Tryz.func11 rfl (by kernel_rfl) (congrArg Array.toList Tryz.results11) Tryz.ntmps11 (fun B hB=>fA ?_)
  refine Wk Y0 ?_
  refine cQ (c1 _) ?_
  refine Wk Y0 ?_
  refine cQ (c2 _) ?_
  refine Wk Y0 ?_
  refine cQ (c3 _) ?_
  refine Wk (Yy z4 z5) ?_
  exact rE
 have z5:((na:Int) != 0)=true:=by rw [bne_iff_ne];omega
 rw [decide_eq_true h5]
 simp only [Bool.true_and]
 have e6:decide (al≠bl)=!decide (al=bl):=by simp
 rw [e6]
 refine acalls_of prg Tryz.func11 rfl (by kernel_rfl) (congrArg Array.toList Tryz.results11) Tryz.ntmps11 (fun B hB=>fA ?_)
 refine Wk Y0 ?_
 refine cQ (c1 _) ?_
 refine Wk Y0 ?_
 refine cQ (c2 _) ?_
 refine Wk Y0 ?_
 refine cQ (c3 _) ?_
 refine Wk (Yy z4 z5) ?_
 exact rE
theorem aClientForks (pg wd:Int) (a b:Hd) (S:Sto):ACalls Tryz.prog 3 [frD pg wd,evD a b] S (RetQ (bD true) S):=by
 have c1:=fun S=>aFork pg wd a b S
 have c2:=fun S=>aRFork pg wd a b S
 have c3:=fun S=>aAwake21 S
 generalize forkB pg wd a b=r at c1 c2
 have z:(r == r)=true:=beq_self_eq_true r
 refine acalls_of prg Tryz.func3 rfl (by kernel_rfl) (congrArg Array.toList Tryz.results3) Tryz.ntmps3 (fun B hB=>fA ?_)
 refine Wk Y0 ?_
 refine cQ (c1 _) ?_
 refine Wk Y0 ?_
 refine cQ (c2 _) ?_
 refine Wk z ?_
 refine cQ (c3 _) ?_
 refine Wk Y0 ?_
 exact rE

end Go.Proofs.YtgjaaffheanobaaGreat