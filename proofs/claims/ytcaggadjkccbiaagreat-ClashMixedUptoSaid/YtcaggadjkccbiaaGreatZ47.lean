/- What may have of a range (values without addresses). -/
import Derived.Test.YtcaggadjkccbiaaGreatZ45
import Derived.Test.YtcaggadjkccbiaaGreatZ46
namespace Go.Proofs.YtcaggadjkccbiaaGreat
set_option maxHeartbeats 1000000
set_option maxRecDepth 100000
set_option linter.unusedVariables false
set_option linter.unusedSimpArgs false
open Go Go.RowKit

def mayK (lo hi:Bs) (n:Nd) (i:Nat):Bool:=
 (match n.seps[i]? with | some s=>Op.bytesLess lo s | none=>true) && ((i == 0) || (hi == []) || (match n.seps[i - 1]? with | some s=>Op.bytesLess s hi | none=>true))
def rngB (lo hi key:Bs):Bool:=!(Op.bytesLess key lo) && ((hi == []) || Op.bytesLess key hi)
theorem aHas (n:Nd) (i:Nat) (lo hi:Bs) (S:Sto) (hn:n.seps.length≤140737488351232) (hi1:i≤n.seps.length):ACalls Tryz.prog 93 [ndA n,iD i,sD lo,sD hi] S (RetQ (bD (mayK lo hi n i)) S):=by
 have g0:(0:Int)≤i:=by omega
 by_cases h1:i<n.seps.length
 ·obtain ⟨s,hs⟩:∃ s,n.seps[i]?=some s:=⟨_,List.getElem?_eq_getElem h1⟩
  have gs:(n.seps.map sD)[i]?=some (sD s):=by rw [List.getElem?_map,hs];rfl
  have d1:decide ((i:Int)<n.seps.length)=true:=decide_eq_true (by omega)
  cases hb:Op.bytesLess lo s with
  | false=>
   rw [show mayK lo hi n i=false from by unfold mayK;rw [hs];simp [hb]]
   refine acalls_of prg Tryz.func93 rfl (by kernel_rfl) (congrArg Array.toList Tryz.results93) Tryz.ntmps93 (fun B hB=>fA ?_)
   refine Wk (Yy d1 (Yy gs (Yy g0 (Yy hb Int.toNat_natCast)))) ?_
   exact rE
  | true=>
   refine acalls_of prg Tryz.func93 rfl (by kernel_rfl) (congrArg Array.toList Tryz.results93) Tryz.ntmps93 (fun B hB=>fA ?_)
   by_cases h0:i=0
   ·subst h0
    have z0:(((0:Nat):Int) == 0)=true:=rfl
    rw [show mayK lo hi n 0=true from (by unfold mayK;rw [hs];simp [hb])]
    refine Wk (Yy d1 (Yy gs (Yy g0 (Yy hb (Yy Int.toNat_natCast z0))))) ?_
    exact rE
   have z0:((i:Int) == 0)=false:=by rw [beq_eq_false_iff_ne];omega
   obtain ⟨t,ht⟩:∃ t,n.seps[i - 1]?=some t:=⟨_,List.getElem?_eq_getElem (by omega)⟩
   have f2:IntKind.i64.wrap ((i:Int) - 1)=((i - 1:Nat):Int):=by rw [IntWalk.i64_in _ (by omega)];omega
   have gt:(n.seps.map sD)[i - 1]?=some (sD t):=by rw [List.getElem?_map,ht];rfl
   have g1:(0:Int)≤((i - 1:Nat):Int):=by omega
   cases hz:(hi == []) with
   | true=>
    rw [show mayK lo hi n i=true from (by unfold mayK;rw [hs];simp [hz,hb])]
    refine Wk (Yy d1 (Yy gs (Yy g0 (Yy hb (Yy Int.toNat_natCast (Yy z0 hz)))))) ?_
    exact rE
   | false=>
    rw [show mayK lo hi n i=Op.bytesLess t hi from (by unfold mayK;rw [hs,ht,hz,beq_eq_false_iff_ne.2 h0];simp [hb])]
    refine Wk (Yy d1 (Yy gs (Yy g0 (Yy hb (Yy Int.toNat_natCast (Yy z0 (Yy hz (Yy f2 (Yy gt (Yy g1 Int.toNat_natCast)))))))))) ?_
    exact rE
 ·have hs:n.seps[i]?=none:=List.getElem?_eq_none (by omega)
  have d1:decide ((i:Int)<n.seps.length)=false:=decide_eq_false (by omega)
  refine acalls_of prg Tryz.func93 rfl (by kernel_rfl) (congrArg Array.toList Tryz.results93) Tryz.ntmps93 (fun B hB=>fA ?_)
  by_cases h0:i=0
  ·subst h0
   have z0:(((0:Nat):Int) == 0)=true:=rfl
   rw [show mayK lo hi n 0=true from (by unfold mayK;rw [hs];simp)]
   refine Wk (Yy d1 z0) ?_
   exact rE
  have z0:((i:Int) == 0)=false:=by rw [beq_eq_false_iff_ne];omega
  obtain ⟨t,ht⟩:∃ t,n.seps[i - 1]?=some t:=⟨_,List.getElem?_eq_getElem (by omega)⟩
  have f2:IntKind.i64.wrap ((i:Int) - 1)=((i - 1:Nat):Int):=by rw [IntWalk.i64_in _ (by omega)];omega
  have gt:(n.seps.map sD)[i - 1]?=some (sD t):=by rw [List.getElem?_map,ht];rfl
  have g1:(0:Int)≤((i - 1:Nat):Int):=by omega
  cases hz:(hi == []) with
  | true=>
   rw [show mayK lo hi n i=true from (by unfold mayK;rw [hs];simp [hz])]
   refine Wk (Yy d1 (Yy z0 hz)) ?_
   exact rE
  | false=>
   rw [show mayK lo hi n i=Op.bytesLess t hi from (by unfold mayK;rw [hs,ht,hz,beq_eq_false_iff_ne.2 h0];simp)]
   refine Wk (Yy d1 (Yy z0 (Yy hz (Yy f2 (Yy gt (Yy g1 Int.toNat_natCast)))))) ?_
   exact rE
theorem aCMay (n:Nd) (i:Nat) (lo hi:Bs) (S:Sto) (hn:n.seps.length≤140737488351232) (hi1:i≤n.seps.length):ACalls Tryz.prog 78 [ndA n,iD i,sD lo,sD hi] S (RetQ (bD (mayK lo hi n i)) S):=by
 have g0:(0:Int)≤i:=by omega
 by_cases h1:i<n.seps.length
 ·obtain ⟨s,hs⟩:∃ s,n.seps[i]?=some s:=⟨_,List.getElem?_eq_getElem h1⟩
  have gs:(n.seps.map sD)[i]?=some (sD s):=by rw [List.getElem?_map,hs];rfl
  have d1:((i:Int) == n.seps.length)=false:=by rw [beq_eq_false_iff_ne];omega
  cases hb:Op.bytesLess lo s with
  | false=>
   rw [show mayK lo hi n i=false from by unfold mayK;rw [hs];simp [hb]]
   refine acalls_of prg Tryz.func78 rfl (by kernel_rfl) (congrArg Array.toList Tryz.results78) Tryz.ntmps78 (fun B hB=>fA ?_)
   refine Wk (Yy d1 (Yy gs (Yy g0 (Yy hb Int.toNat_natCast)))) ?_
   exact rE
  | true=>
   refine acalls_of prg Tryz.func78 rfl (by kernel_rfl) (congrArg Array.toList Tryz.results78) Tryz.ntmps78 (fun B hB=>fA ?_)
   by_cases h0:i=0
   ·subst h0
    have z0:(((0:Nat):Int) == 0)=true:=rfl
    rw [show mayK lo hi n 0=true from (by unfold mayK;rw [hs];simp [hb])]
    refine Wk (Yy d1 (Yy gs (Yy g0 (Yy hb (Yy Int.toNat_natCast z0))))) ?_
    exact rE
   have z0:((i:Int) == 0)=false:=by rw [beq_eq_false_iff_ne];omega
   obtain ⟨t,ht⟩:∃ t,n.seps[i - 1]?=some t:=⟨_,List.getElem?_eq_getElem (by omega)⟩
   have f2:IntKind.i64.wrap ((i:Int) - 1)=((i - 1:Nat):Int):=by rw [IntWalk.i64_in _ (by omega)];omega
   have gt:(n.seps.map sD)[i - 1]?=some (sD t):=by rw [List.getElem?_map,ht];rfl
   have g1:(0:Int)≤((i - 1:Nat):Int):=by omega
   cases hz:(hi == []) with
   | true=>
    rw [show mayK lo hi n i=true from (by unfold mayK;rw [hs];simp [hz,hb])]
    refine Wk (Yy d1 (Yy gs (Yy g0 (Yy hb (Yy Int.toNat_natCast (Yy z0 hz)))))) ?_
    exact rE
   | false=>
    rw [show mayK lo hi n i=Op.bytesLess t hi from (by unfold mayK;rw [hs,ht,hz,beq_eq_false_iff_ne.2 h0];simp [hb])]
    refine Wk (Yy d1 (Yy gs (Yy g0 (Yy hb (Yy Int.toNat_natCast (Yy z0 (Yy hz (Yy f2 (Yy gt (Yy g1 Int.toNat_natCast)))))))))) ?_
    exact rE
 ·have hs:n.seps[i]?=none:=List.getElem?_eq_none (by omega)
  have d1:((i:Int) == n.seps.length)=true:=by rw [beq_iff_eq];omega
  refine acalls_of prg Tryz.func78 rfl (by kernel_rfl) (congrArg Array.toList Tryz.results78) Tryz.ntmps78 (fun B hB=>fA ?_)
  by_cases h0:i=0
  ·subst h0
   have z0:(((0:Nat):Int) == 0)=true:=rfl
   rw [show mayK lo hi n 0=true from (by unfold mayK;rw [hs];simp)]
   refine Wk (Yy d1 z0) ?_
   exact rE
  have z0:((i:Int) == 0)=false:=by rw [beq_eq_false_iff_ne];omega
  obtain ⟨t,ht⟩:∃ t,n.seps[i - 1]?=some t:=⟨_,List.getElem?_eq_getElem (by omega)⟩
  have f2:IntKind.i64.wrap ((i:Int) - 1)=((i - 1:Nat):Int):=by rw [IntWalk.i64_in _ (by omega)];omega
  have gt:(n.seps.map sD)[i - 1]?=some (sD t):=by rw [List.getElem?_map,ht];rfl
  have g1:(0:Int)≤((i - 1:Nat):Int):=by omega
  cases hz:(hi == []) with
  | true=>
   rw [show mayK lo hi n i=true from (by unfold mayK;rw [hs];simp [hz])]
   refine Wk (Yy d1 (Yy z0 hz)) ?_
   exact rE
  | false=>
   rw [show mayK lo hi n i=Op.bytesLess t hi from (by unfold mayK;rw [hs,ht,hz,beq_eq_false_iff_ne.2 h0];simp)]
   refine Wk (Yy d1 (Yy z0 (Yy hz (Yy f2 (Yy gt (Yy g1 Int.toNat_natCast)))))) ?_
   exact rE
theorem aRMay (n:Nd) (i:Nat) (lo hi:Bs) (S:Sto) (hn:n.seps.length≤140737488351232) (hi1:i≤n.seps.length):ACalls Tryz.prog 76 [ndA n,iD i,sD lo,sD hi] S (RetQ (bD (mayK lo hi n i)) S):=by
 have g0:(0:Int)≤i:=by omega
 by_cases h1:i<n.seps.length
 ·obtain ⟨s,hs⟩:∃ s,n.seps[i]?=some s:=⟨_,List.getElem?_eq_getElem h1⟩
  have gs:(n.seps.map sD)[i]?=some (sD s):=by rw [List.getElem?_map,hs];rfl
  have d1:((i:Int) == n.seps.length)=false:=by rw [beq_eq_false_iff_ne];omega
  cases hb:Op.bytesLess lo s with
  | false=>
   rw [show mayK lo hi n i=false from by unfold mayK;rw [hs];simp [hb]]
   refine acalls_of prg Tryz.func76 rfl (by kernel_rfl) (congrArg Array.toList Tryz.results76) Tryz.ntmps76 (fun B hB=>fA ?_)
   refine Wk (Yy d1 (Yy gs (Yy g0 (Yy hb Int.toNat_natCast)))) ?_
   exact rE
  | true=>
   refine acalls_of prg Tryz.func76 rfl (by kernel_rfl) (congrArg Array.toList Tryz.results76) Tryz.ntmps76 (fun B hB=>fA ?_)
   by_cases h0:i=0
   ·subst h0
    have z0:(((0:Nat):Int) == 0)=true:=rfl
    rw [show mayK lo hi n 0=true from (by unfold mayK;rw [hs];simp [hb])]
    refine Wk (Yy d1 (Yy gs (Yy g0 (Yy hb (Yy Int.toNat_natCast z0))))) ?_
    exact rE
   have z0:((i:Int) == 0)=false:=by rw [beq_eq_false_iff_ne];omega
   obtain ⟨t,ht⟩:∃ t,n.seps[i - 1]?=some t:=⟨_,List.getElem?_eq_getElem (by omega)⟩
   have f2:IntKind.i64.wrap ((i:Int) - 1)=((i - 1:Nat):Int):=by rw [IntWalk.i64_in _ (by omega)];omega
   have gt:(n.seps.map sD)[i - 1]?=some (sD t):=by rw [List.getElem?_map,ht];rfl
   have g1:(0:Int)≤((i - 1:Nat):Int):=by omega
   cases hz:(hi == []) with
   | true=>
    rw [show mayK lo hi n i=true from (by unfold mayK;rw [hs];simp [hz,hb])]
    refine Wk (Yy d1 (Yy gs (Yy g0 (Yy hb (Yy Int.toNat_natCast (Yy z0 hz)))))) ?_
    exact rE
   | false=>
    rw [show mayK lo hi n i=Op.bytesLess t hi from (by unfold mayK;rw [hs,ht,hz,beq_eq_false_iff_ne.2 h0];simp [hb])]
    refine Wk (Yy d1 (Yy gs (Yy g0 (Yy hb (Yy Int.toNat_natCast (Yy z0 (Yy hz (Yy f2 (Yy gt (Yy g1 Int.toNat_natCast)))))))))) ?_
    exact rE
 ·have hs:n.seps[i]?=none:=List.getElem?_eq_none (by omega)
  have d1:((i:Int) == n.seps.length)=true:=by rw [beq_iff_eq];omega
  refine acalls_of prg Tryz.func76 rfl (by kernel_rfl) (congrArg Array.toList Tryz.results76) Tryz.ntmps76 (fun B hB=>fA ?_)
  by_cases h0:i=0
  ·subst h0
   have z0:(((0:Nat):Int) == 0)=true:=rfl
   rw [show mayK lo hi n 0=true from (by unfold mayK;rw [hs];simp)]
   refine Wk (Yy d1 z0) ?_
   exact rE
  have z0:((i:Int) == 0)=false:=by rw [beq_eq_false_iff_ne];omega
  obtain ⟨t,ht⟩:∃ t,n.seps[i - 1]?=some t:=⟨_,List.getElem?_eq_getElem (by omega)⟩
  have f2:IntKind.i64.wrap ((i:Int) - 1)=((i - 1:Nat):Int):=by rw [IntWalk.i64_in _ (by omega)];omega
  have gt:(n.seps.map sD)[i - 1]?=some (sD t):=by rw [List.getElem?_map,ht];rfl
  have g1:(0:Int)≤((i - 1:Nat):Int):=by omega
  cases hz:(hi == []) with
  | true=>
   rw [show mayK lo hi n i=true from (by unfold mayK;rw [hs];simp [hz])]
   refine Wk (Yy d1 (Yy z0 hz)) ?_
   exact rE
  | false=>
   rw [show mayK lo hi n i=Op.bytesLess t hi from (by unfold mayK;rw [hs,ht,hz,beq_eq_false_iff_ne.2 h0];simp)]
   refine Wk (Yy d1 (Yy z0 (Yy hz (Yy f2 (Yy gt (Yy g1 Int.toNat_natCast)))))) ?_
   exact rE
theorem aIn (key lo hi:Bs) (S:Sto):ACalls Tryz.prog 92 [sD key,sD lo,sD hi] S (RetQ (bD (rngB lo hi key)) S):=by
 unfold rngB
 cases h1:Op.bytesLess key lo with
 | true=>
  refine acalls_of prg Tryz.func92 rfl (by kernel_rfl) (congrArg Array.toList Tryz.results92) Tryz.ntmps92 (fun B hB=>fA ?_)
  refine Wk h1 ?_
  exact rE
 | false=>
 cases h2:(hi == []) with
 | true=>
  refine acalls_of prg Tryz.func92 rfl (by kernel_rfl) (congrArg Array.toList Tryz.results92) Tryz.ntmps92 (fun B hB=>fA ?_)
  refine Wk (Yy h1 h2) ?_
  exact rE
 | false=>
  refine acalls_of prg Tryz.func92 rfl (by kernel_rfl) (congrArg Array.toList Tryz.results92) Tryz.ntmps92 (fun B hB=>fA ?_)
  refine Wk (Yy h1 h2) ?_
  exact rE
theorem aRIn (key lo hi:Bs) (S:Sto):ACalls Tryz.prog 38 [sD key,sD lo,sD hi] S (RetQ (bD (rngB lo hi key)) S):=by
 unfold rngB
 cases h1:Op.bytesLess key lo with
 | true=>
  refine acalls_of prg Tryz.func38 rfl (by kernel_rfl) (congrArg Array.toList Tryz.results38) Tryz.ntmps38 (fun B hB=>fA ?_)
  refine Wk h1 ?_
  exact rE
 | false=>
 cases h2:(hi == []) with
 | true=>
  refine acalls_of prg Tryz.func38 rfl (by kernel_rfl) (congrArg Array.toList Tryz.results38) Tryz.ntmps38 (fun B hB=>fA ?_)
  refine Wk (Yy h1 h2) ?_
  exact rE
 | false=>
  refine acalls_of prg Tryz.func38 rfl (by kernel_rfl) (congrArg Array.toList Tryz.results38) Tryz.ntmps38 (fun B hB=>fA ?_)
  refine Wk (Yy h1 h2) ?_
  exact rE


def lessQ (sharp:Bool) (s l:Bs):Bool:=if sharp=true then (Op.bytesLess s l || s == l) else Op.bytesLess s l
theorem in_low {l:Bs} {hi:Option Bs} {s:Bs} {sharp:Bool} (h:inB (some l) hi s sharp=true):lessQ sharp s l=false:=by
 cases sharp with
 | false=>
  have:=outK_in (some l) hi s
  rw [h] at this
  unfold outK at this
  simp only [Bool.not_true,Bool.or_eq_false_iff,Option.isSome_some,Bool.true_and,Option.getD_some] at this
  exact this.1
 | true=>
  have:=outS_in (some l) hi s
  rw [h] at this
  unfold outS at this
  simp only [Bool.not_true,Bool.or_eq_false_iff,Option.isSome_some,Bool.true_and,Option.getD_some] at this
  unfold lessQ
  rw [if_pos rfl,this.1.1,this.1.2]
  rfl
theorem in_high {lo:Option Bs} {h s:Bs} {sharp:Bool} (k:inB lo (some h) s sharp=true):Op.bytesLess s h=true:=by
 unfold inB highB at k
 simp only [Bool.and_eq_true] at k
 exact k.2
theorem in_not {lo hi:Option Bs} {s:Bs} {sharp:Bool} (h:inB lo hi s sharp=false):(∃ l,lo=some l∧lessQ sharp s l=true)∨((∀ l,lo=some l→lessQ sharp s l=false)∧∃ k,hi=some k∧Op.bytesLess s k=false):=by
 have key:((lo.isSome && lessQ sharp s (lo.getD [])) || (hi.isSome && !(Op.bytesLess s (hi.getD []))))=true:=by
  cases sharp with
  | false=>have:=outK_in lo hi s;rw [h] at this;exact this
  | true=>have:=outS_in lo hi s;rw [h] at this;exact this
 cases lo with
 | none=>
  right
  cases hi with
  | none=>cases key
  | some k=>exact ⟨fun l h=>(by cases h),k,rfl,by simpa using key⟩
 | some l=>
  cases ha:lessQ sharp s l with
  | true=>exact .inl ⟨l,rfl,ha⟩
  | false=>
   right
   cases hi with
   | none=>simp [ha] at key
   | some k=>exact ⟨fun l' h=>by simp only [Option.some.injEq] at h;subst h;exact ha,k,rfl,by simpa [ha] using key⟩
theorem aSWithin (lo hi:Option Bs) (n:Nd) (S:Sto) (ho:NdOk n):ACalls Tryz.prog 91 [ndA n,optP lo,optP hi] S (RetQ (bD (keptB lo hi n)) S):=by
 have hnp:=ho.np
 have hns:=ho.ns
 obtain ⟨G,hG⟩:∃ G,keptB lo hi n=G:=⟨_,rfl⟩
 rw [hG]
 unfold keptB at hG
 refine acalls_of prg Tryz.func91 rfl (by kernel_rfl) (congrArg Array.toList Tryz.results91) Tryz.ntmps91 (fun B hB=>fA ?_)
 refine Wk Y0 ?_
 refine AW.loopS 11 [8,12,13,14] (fun xs S'=>∃ i:Nat,xs=[.any,.sl .none (n.pairs.map prD),iD n.pairs.length,iD i]∧S'=S∧i≤n.pairs.length∧∀ q∈n.pairs.take i,inB lo hi q.1 false=true) (fun xs _=>n.pairs.length - nI (xs.getD 3 .any)) [.any,.sl .none (n.pairs.map prD),iD n.pairs.length,iD 0] _ ?_ (Sto.Sub.refl _) ⟨0,rfl,rfl,by omega,by simp⟩ ?_
 ·exact wK
 rintro xs S' ⟨i,rfl,rfl,hi1,hqf⟩
 refine fR ?_
 by_cases hlt:i<n.pairs.length
 ·obtain ⟨x,hx⟩:∃ x,n.pairs[i]?=some x:=⟨_,List.getElem?_eq_getElem hlt⟩
  have d1:decide ((i:Int)<n.pairs.length)=true:=decide_eq_true (by omega)
  have hgt:(n.pairs.map prD)[i]?=some (prD x):=by rw [List.getElem?_map,hx];rfl
  have g0:(0:Int)≤i:=by omega
  have f1:IntKind.i64.wrap ((i:Int)+1)=((i+1:Nat):Int):=IntWalk.i64_in _ (by omega)
  cases hin:inB lo hi x.1 false with
  | true=>
   have hall:∀ q∈n.pairs.take (i+1),inB lo hi q.1 false=true:=fun q hmem=>by
    rw [List.take_add_one,hx] at hmem
    rcases List.mem_append.1 hmem with h | h
    ·exact hqf q h
    ·simp only [Option.toList_some,List.mem_singleton] at h;subst h;exact hin
   clear hG
   cases lo with
   | none=>
    cases hi with
    | none=>
     refine Wk (Yy d1 (Yy hgt (Yy g0 Int.toNat_natCast))) ?_
     refine aL fun b8 k_b8 o_b8=>?_
     refine Wk f1 ?_
     refine ⟨[.any,.sl .none (n.pairs.map prD),iD n.pairs.length,iD (i+1:Nat)],S',?_,(Sto.Sub.refl _).cons,⟨i+1,rfl,rfl,by omega,hall⟩,?_⟩
     ·exact wK
     ·exact mE
    | some h=>
     have hc:Op.bytesLess x.1 h=true:=in_high hin
     refine Wk (Yy d1 (Yy hgt (Yy g0 Int.toNat_natCast))) ?_
     refine aL fun b8 k_b8 o_b8=>?_
     refine Wk (Yy f1 hc) ?_
     refine ⟨[.any,.sl .none (n.pairs.map prD),iD n.pairs.length,iD (i+1:Nat)],S',?_,(Sto.Sub.refl _).cons,⟨i+1,rfl,rfl,by omega,hall⟩,?_⟩
     ·exact wK
     ·exact mE
   | some l=>
    have ha:Op.bytesLess x.1 l=false:=in_low hin
    cases hi with
    | none=>
     refine Wk (Yy d1 (Yy hgt (Yy g0 Int.toNat_natCast))) ?_
     refine aL fun b8 k_b8 o_b8=>?_
     refine Wk (Yy f1 ha) ?_
     refine ⟨[.any,.sl .none (n.pairs.map prD),iD n.pairs.length,iD (i+1:Nat)],S',?_,(Sto.Sub.refl _).cons,⟨i+1,rfl,rfl,by omega,hall⟩,?_⟩
     ·exact wK
     ·exact mE
    | some h=>
     have hc:Op.bytesLess x.1 h=true:=in_high hin
     refine Wk (Yy d1 (Yy hgt (Yy g0 Int.toNat_natCast))) ?_
     refine aL fun b8 k_b8 o_b8=>?_
     refine Wk (Yy f1 (Yy ha hc)) ?_
     refine ⟨[.any,.sl .none (n.pairs.map prD),iD n.pairs.length,iD (i+1:Nat)],S',?_,(Sto.Sub.refl _).cons,⟨i+1,rfl,rfl,by omega,hall⟩,?_⟩
     ·exact wK
     ·exact mE
  | false=>
   have hf:G=false:=by
    rw [← hG,Bool.and_eq_false_iff]
    left
    rw [List.all_eq_false]
    exact ⟨x,List.mem_of_getElem? hx,by rw [hin];simp⟩
   subst hf
   rcases in_not hin with ⟨l,rfl,ha⟩ | ⟨hl,h,rfl,hc⟩
   ·have ha:Op.bytesLess x.1 l=true:=ha
    refine Wk (Yy d1 (Yy hgt (Yy g0 Int.toNat_natCast))) ?_
    refine aL fun b8 k_b8 o_b8=>?_
    refine Wk (Yy f1 ha) ?_
    refine endq (sR Y0) (by rfl) (Sto.Sub.refl _).cons
   ·cases lo with
    | none=>
     refine Wk (Yy d1 (Yy hgt (Yy g0 Int.toNat_natCast))) ?_
     refine aL fun b8 k_b8 o_b8=>?_
     refine Wk (Yy f1 hc) ?_
     refine endq (sR Y0) (by rfl) (Sto.Sub.refl _).cons
    | some l=>
     have ha:Op.bytesLess x.1 l=false:=hl l rfl
     refine Wk (Yy d1 (Yy hgt (Yy g0 Int.toNat_natCast))) ?_
     refine aL fun b8 k_b8 o_b8=>?_
     refine Wk (Yy f1 (Yy ha hc)) ?_
     refine endq (sR Y0) (by rfl) (Sto.Sub.refl _).cons
 obtain rfl:i=n.pairs.length:=by omega
 have d1:decide ((n.pairs.length:Int)<n.pairs.length)=false:=decide_eq_false (by omega)
 rw [List.take_length] at hqf
 refine Wk d1 ?_
 refine AW.loopS 11 [10,42,43,44] (fun xs S2=>∃ i:Nat,xs=[.any,.sl .none (n.seps.map sD),iD n.seps.length,iD i]∧S2=S'∧i≤n.seps.length∧∀ q∈n.seps.take i,inB lo hi q true=true) (fun xs _=>n.seps.length - nI (xs.getD 3 .any)) [.any,.sl .none (n.seps.map sD),iD n.seps.length,iD 0] _ ?_ (Sto.Sub.refl _) ⟨0,rfl,rfl,by omega,by simp⟩ ?_
 ·exact wK
 rintro xs S2 ⟨i,rfl,rfl,hi1,hqt⟩
 refine fR ?_
 by_cases hlt:i<n.seps.length
 ·obtain ⟨x,hx⟩:∃ x,n.seps[i]?=some x:=⟨_,List.getElem?_eq_getElem hlt⟩
  have d1:decide ((i:Int)<n.seps.length)=true:=decide_eq_true (by omega)
  have hgt:(n.seps.map sD)[i]?=some (sD x):=by rw [List.getElem?_map,hx];rfl
  have g0:(0:Int)≤i:=by omega
  have f1:IntKind.i64.wrap ((i:Int)+1)=((i+1:Nat):Int):=IntWalk.i64_in _ (by omega)
  cases hin:inB lo hi x true with
  | true=>
   have hall:∀ q∈n.seps.take (i+1),inB lo hi q true=true:=fun q hmem=>by
    rw [List.take_add_one,hx] at hmem
    rcases List.mem_append.1 hmem with h | h
    ·exact hqt q h
    ·simp only [Option.toList_some,List.mem_singleton] at h;subst h;exact hin
   clear hG
   cases lo with
   | none=>
    cases hi with
    | none=>
     refine Wk (Yy d1 (Yy hgt (Yy g0 (Yy Int.toNat_natCast f1)))) ?_
     refine ⟨[.any,.sl .none (n.seps.map sD),iD n.seps.length,iD (i+1:Nat)],S2,?_,Sto.Sub.refl _,⟨i+1,rfl,rfl,by omega,hall⟩,?_⟩
     ·exact wK
     ·exact mE
    | some h=>
     have hc:Op.bytesLess x h=true:=in_high hin
     refine Wk (Yy d1 (Yy hgt (Yy g0 (Yy Int.toNat_natCast (Yy f1 hc))))) ?_
     refine ⟨[.any,.sl .none (n.seps.map sD),iD n.seps.length,iD (i+1:Nat)],S2,?_,Sto.Sub.refl _,⟨i+1,rfl,rfl,by omega,hall⟩,?_⟩
     ·exact wK
     ·exact mE
   | some l=>
    have ha:(Op.bytesLess x l || x == l)=false:=in_low hin
    cases hi with
    | none=>
     refine Wk (Yy d1 (Yy hgt (Yy g0 (Yy Int.toNat_natCast (Yy f1 ha))))) ?_
     refine ⟨[.any,.sl .none (n.seps.map sD),iD n.seps.length,iD (i+1:Nat)],S2,?_,Sto.Sub.refl _,⟨i+1,rfl,rfl,by omega,hall⟩,?_⟩
     ·exact wK
     ·exact mE
    | some h=>
     have hc:Op.bytesLess x h=true:=in_high hin
     refine Wk (Yy d1 (Yy hgt (Yy g0 (Yy Int.toNat_natCast (Yy f1 (Yy ha hc)))))) ?_
     refine ⟨[.any,.sl .none (n.seps.map sD),iD n.seps.length,iD (i+1:Nat)],S2,?_,Sto.Sub.refl _,⟨i+1,rfl,rfl,by omega,hall⟩,?_⟩
     ·exact wK
     ·exact mE
  | false=>
   have hf:G=false:=by
    rw [← hG,Bool.and_eq_false_iff]
    right
    rw [List.all_eq_false]
    exact ⟨x,List.mem_of_getElem? hx,by rw [hin];simp⟩
   subst hf
   rcases in_not hin with ⟨l,rfl,ha⟩ | ⟨hl,h,rfl,hc⟩
   ·have ha:(Op.bytesLess x l || x == l)=true:=ha
    refine Wk (Yy d1 (Yy hgt (Yy g0 (Yy Int.toNat_natCast (Yy f1 ha))))) ?_
    exact rE
   ·cases lo with
    | none=>
     refine Wk (Yy d1 (Yy hgt (Yy g0 (Yy Int.toNat_natCast (Yy f1 hc))))) ?_
     exact rE
    | some l=>
     have ha:(Op.bytesLess x l || x == l)=false:=hl l rfl
     refine Wk (Yy d1 (Yy hgt (Yy g0 (Yy Int.toNat_natCast (Yy f1 (Yy ha hc)))))) ?_
     exact rE
 obtain rfl:i=n.seps.length:=by omega
 have d1:decide ((n.seps.length:Int)<n.seps.length)=false:=decide_eq_false (by omega)
 rw [List.take_length] at hqt
 have hK:G=true:=by
  rw [← hG,Bool.and_eq_true,List.all_eq_true,List.all_eq_true]
  exact ⟨hqf,hqt⟩
 subst hK
 refine Wk d1 ?_
 exact rE


def kidsF (f:Nat→List Bs→Option (List Bs×List Pr)):List Nat→List Bs→Option (List Bs×List Pr)
 | [],l=>some (l,[])
 | i::is,l=>match f i l with
  | none=>none
  | some (l',ps)=>(kidsF f is l').map fun r=>(r.1,ps++r.2)
def kidsL (lo hi:Bs) (n:Nd):List Nat:=(List.range n.kids.length).filter (mayK lo hi n)
def spanB (p wid:Int) (first:Bool) (sum:Dg) (low high:Option Bs) (n:Nd):Bool:=
 (sumN p wid n).2 == 0 && decide ((sumN p wid n).1=sum) && keptB low high n && (first || (decide (0<n.kids.length) || decide (0<n.pairs.length)))
def kidSum (n:Nd) (i:Nat):Dg:=((n.kids[i]?).map (·.sum)).getD Dg.zero
def nodeR (p wid:Int) (lo hi:Bs):Nat→Bool→Dg→Option Bs→Option Bs→List Bs→Option (List Bs×List Pr)
 | 0,_,_,_,_,_=>none
 | _+1,_,_,_,_,[]=>none
 | d+1,first,sum,low,high,x::l=>
  match readP p wid x with
  | none=>none
  | some n=>if spanB p wid first sum low high n=true then
    (kidsF (fun i l=>nodeR p wid lo hi d false (kidSum n i) (belowLo low n i) (belowHi high n i) l) (kidsL lo hi n) l).map fun r=>(r.1,n.pairs.filter (fun q=>rngB lo hi q.1)++r.2)
   else none
@[go_sem] def srD (p wid:Int) (forms:List Bs) (lo hi:Bs) (tp:Tag) (ps:List Pr):D:=.agg [frD p wid,.sl .none (forms.map sD),sD lo,sD hi,.sl tp (ps.map prD)]
abbrev badD:D:=.v (.iface 101 (.agg #[]))
theorem aSMustT (b:Nat) (S:Sto):ACalls Tryz.prog 52 [pD b,bD true] S (RetQ (.tup []) S):=by
 refine acalls_of prg Tryz.func52 rfl (by kernel_rfl) (congrArg Array.toList Tryz.results52) Tryz.ntmps52 (fun B hB=>fA ?_)
 refine Wk Y0 ?_
 exact rE
theorem aSMustF (b:Nat) (S:Sto):ACalls Tryz.prog 52 [pD b,bD false] S (PanQ badD S):=by
 refine acalls_of prg Tryz.func52 rfl (by kernel_rfl) (congrArg Array.toList Tryz.results52) Tryz.ntmps52 (fun B hB=>fA ?_)
 refine Wk Y0 ?_
 refine wpn ?_
 (try dsimp only [AX.then,AX.inBlock,AX.noGoto])
 exact endp (Sto.Sub.refl _) ⟨rfl,rfl⟩

end Go.Proofs.YtcaggadjkccbiaaGreat