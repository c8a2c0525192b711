/- Two proofs of a range: clash.Spans (values without addresses). -/
import Derived.Test.YtcaggadjkccbiaaGreatZ50
namespace Go.Proofs.YtcaggadjkccbiaaGreat
set_option maxHeartbeats 1000000
set_option maxRecDepth 100000
set_option linter.unusedVariables false
set_option linter.unusedSimpArgs false
open Go Go.RowKit

theorem aSpans1 (n : Nd) (lo hi : Bs) (S : Sto) (ho : NdOk n) (hk : n.kids.length ≤ n.seps.length + 1) (hk2 : n.kids.length ≤ 8192) : ACalls Tryz.prog 43 [ndA n,.pt (sD lo),.pt (sD hi)] S (RetQ (.sl .none ((kidsL lo hi n).map natD)) S):=by
 have c1:=fun S=>aKids n lo hi S ho hk (by omega)
 refine acalls_of prg Tryz.func43 rfl (by kernel_rfl) (congrArg Array.toList Tryz.results43) Tryz.ntmps43 (fun B hB=>fA ?_)
 refine Wk Y0 ?_
 refine cQ (c1 _) ?_
 refine Wk Y0 ?_
 exact rE
theorem kids_ok (lo hi : Bs) : ChOk (kidsL lo hi) (.fn 43 [.pt (sD lo),.pt (sD hi)]):=⟨_,_,rfl,fun n S ho h1 h2=>⟨aSpans1 n lo hi S ho h1 h2,Nat.le_trans (List.length_filter_le _ _) (by rw [List.length_range];omega),fun i hi9=>by
 have:=List.mem_range.1 (List.mem_filter.1 hi9).1
 omega⟩⟩
theorem pairs_few (p wid : Int) (root : Dg) (lo hi s : Bs) (hs : s.length ≤ 1048576) : (pairsS p wid root lo hi s).length ≤ 20000000000:=by
 by_cases h : errS p wid root lo hi s = 0
 ·obtain ⟨_,x,l,h1,h2⟩:=spanS_ok h
  have h3:=(nodeR_few 33 true root none none _ _ _ h2).2
  have h4:=splitP_len h1
  omega
 ·have : pairsS p wid root lo hi s = []:=by
   cases ha : argsS p wid root with
   | false=>exact (spanS_arg ha).2
   | true=>
    cases hp : spanP p wid root lo hi s with
    | none=>exact (spanS_no ha hp).2
    | some ps=>exact absurd (spanS_yes ha hp).1 h
  rw [this];simp

theorem aSpansC (p wid : Int) (root : Dg) (lo hi x y : Bs) (S : Sto) (hx : x.length ≤ 1048576) (hy : y.length ≤ 1048576) :
  ACalls Tryz.prog 17 [frD p wid,.dg root,sD lo,sD hi,sD x,sD y] S (RetQ (.tup [clD (spansP p wid root lo hi x y).1,iD (spansP p wid root lo hi x y).2]) S):=by
 have c1:=fun S=>aSRead p wid root lo hi x S hx
 have c2:=fun S=>aSRead p wid root lo hi y S hy
 have c3:=fun S=>aEqual (pairsS p wid root lo hi x) (pairsS p wid root lo hi y) S (pairs_few p wid root lo hi x hx) (pairs_few p wid root lo hi y hy)
 unfold spansP
 by_cases h2 : errS p wid root lo hi x = 2
 ·rw [if_pos h2]
  have z0 : (errS p wid root lo hi x == 2) = true:=beq_iff_eq.2 h2
  rw [h2] at c1 z0
  refine acalls_of prg Tryz.func17 rfl (by kernel_rfl) (congrArg Array.toList Tryz.results17) Tryz.ntmps17 (fun B hB=>fA ?_)
  refine Wk Y0 ?_
  refine aL fun b12 k_b12 o_b12=>?_
  refine Wk Y0 ?_
  refine cQ (c1 _) ?_
  refine Wk k_b12 ?_
  refine endq (S':=S) (sR Y0) (by rfl) (Sto.Sub.refl _).cons
 rw [if_neg h2]
 have z0 : (errS p wid root lo hi x == 2) = false:=beq_eq_false_iff_ne.2 h2
 by_cases hx0 : errS p wid root lo hi x = 0
 case neg=>
  rw [if_pos (.inl hx0)]
  have z1 : (errS p wid root lo hi x != 0) = true:=bne_iff_ne.2 hx0
  refine acalls_of prg Tryz.func17 rfl (by kernel_rfl) (congrArg Array.toList Tryz.results17) Tryz.ntmps17 (fun B hB=>fA ?_)
  refine Wk Y0 ?_
  refine aL fun b12 k_b12 o_b12=>?_
  refine Wk Y0 ?_
  refine cQ (c1 _) ?_
  refine Wk (Yy k_b12 z0) ?_
  refine cQ (c2 _) ?_
  refine Wk (Yy k_b12 z1) ?_
  refine endq (S':=S) (sR Y0) (by rfl) (Sto.Sub.refl _).cons
 have z1 : (errS p wid root lo hi x != 0) = false:=by rw [hx0];rfl
 by_cases hy0 : errS p wid root lo hi y = 0
 case neg=>
  rw [if_pos (.inr hy0)]
  have z2 : (errS p wid root lo hi y != 0) = true:=bne_iff_ne.2 hy0
  refine acalls_of prg Tryz.func17 rfl (by kernel_rfl) (congrArg Array.toList Tryz.results17) Tryz.ntmps17 (fun B hB=>fA ?_)
  refine Wk Y0 ?_
  refine aL fun b12 k_b12 o_b12=>?_
  refine Wk Y0 ?_
  refine cQ (c1 _) ?_
  refine Wk (Yy k_b12 z0) ?_
  refine cQ (c2 _) ?_
  refine Wk (Yy k_b12 (Yy z1 z2)) ?_
  refine endq (S':=S) (sR Y0) (by rfl) (Sto.Sub.refl _).cons
 have z2 : (errS p wid root lo hi y != 0) = false:=by rw [hy0];rfl
 rw [if_neg (fun h=>Or.elim h (fun h=>h hx0) (fun h=>h hy0))]
 by_cases ha : pairsS p wid root lo hi x = pairsS p wid root lo hi y
 ·rw [if_pos ha]
  rw [decide_eq_true ha] at c3
  refine acalls_of prg Tryz.func17 rfl (by kernel_rfl) (congrArg Array.toList Tryz.results17) Tryz.ntmps17 (fun B hB=>fA ?_)
  refine Wk Y0 ?_
  refine aL fun b12 k_b12 o_b12=>?_
  refine Wk Y0 ?_
  refine cQ (c1 _) ?_
  refine Wk (Yy k_b12 z0) ?_
  refine cQ (c2 _) ?_
  refine Wk (Yy k_b12 (Yy z1 z2)) ?_
  refine cQ (c3 _) ?_
  refine Wk k_b12 ?_
  refine endq (S':=S) (sR Y0) (by rfl) (Sto.Sub.refl _).cons
 rw [if_neg ha]
 rw [decide_eq_false ha] at c3
 obtain ⟨hr,u,l,s1,n1⟩:=spanS_ok hx0
 obtain ⟨_,v,m,s2,n2⟩:=spanS_ok hy0
 have e1 : formsS x = u :: l:=by unfold formsS;rw [s1];rfl
 have e2 : formsS y = v :: m:=by unfold formsS;rw [s2];rfl
 rw [e1,e2]
 have k1:=node_skip _ _ _ _ _ _ _ _ n1
 have k2:=node_skip _ _ _ _ _ _ _ _ n2
 obtain ⟨a1,q1,g1⟩:=skipR_all _ _ _ k1
 obtain ⟨a2,q2,g2⟩:=skipR_all _ _ _ k2
 have c4:=fun S=>aSForms p wid x (u :: l) S hx hr s1 (by simp) (by rw [q1,List.append_nil];exact g1)
 have c5:=fun S=>aSForms p wid y (v :: m) S hy hr s2 (by simp) (by rw [q2,List.append_nil];exact g2)
 have hs1:=splitP_shr s1
 have hs2:=splitP_shr s2
 have hn1:=splitP_len s1
 have hn2:=splitP_len s2
 have o1:=aSideOk p wid lo hi (u :: l) (by omega) (fun z hz=>Nat.le_trans (hs1 z hz) hx) 33 0 u [] rfl k1
 have o2:=aSideOk p wid lo hi (v :: m) (by omega) (fun z hz=>Nat.le_trans (hs2 z hz) hy) 33 0 v [] rfl k2
 have t1:=fun S=>aGSide p wid (u :: l) lo hi u 0 S rfl
 have t2:=fun S=>aGSide p wid (v :: m) lo hi v 0 S rfl
 have c8:=fun S=>aWalk p wid (kidsL lo hi) _ (kids_ok lo hi) (sideG p wid lo hi 33 (u :: l)) (sideG p wid lo hi 33 (v :: m)) _ _ S o1 o2 (side_ne k1) (side_ne k2)
 generalize walkS p wid (kidsL lo hi) (sideG p wid lo hi 33 (u :: l)) (sideG p wid lo hi 33 (v :: m)) = r at c8 ⊢
 obtain ⟨c,mt,e⟩:=r
 unfold wrD at c8
 have c9:=fun S=>aTold c mt e S
 generalize u :: l = fx at c4 t1 c8
 generalize v :: m = fy at c5 t2 c8
 generalize pairsS p wid root lo hi x = P1 at c1 c3
 generalize pairsS p wid root lo hi y = P2 at c2 c3
 refine acalls_of prg Tryz.func17 rfl (by kernel_rfl) (congrArg Array.toList Tryz.results17) Tryz.ntmps17 (fun B hB=>fA ?_)
 refine Wk Y0 ?_
 refine aL fun b12 k_b12 o_b12=>?_
 refine Wk Y0 ?_
 refine cQ (c1 _) ?_
 refine Wk (Yy k_b12 z0) ?_
 refine cQ (c2 _) ?_
 refine Wk (Yy k_b12 (Yy z1 z2)) ?_
 refine cQ (c3 _) ?_
 refine Wk Y0 ?_
 refine cQ (c4 _) ?_
 refine Wk Y0 ?_
 refine cQ (c5 _) ?_
 refine Wk Y0 ?_
 refine cQ (t1 _) ?_
 refine Wk Y0 ?_
 refine cQ (t2 _) ?_
 refine Wk Y0 ?_
 refine cQ (c8 _) ?_
 refine Wk Y0 ?_
 refine cQ (c9 _) ?_
 refine Wk k_b12 ?_
 refine endq (S':=S) (sR Y0) (by rfl) (Sto.Sub.refl _).cons

end Go.Proofs.YtcaggadjkccbiaaGreat