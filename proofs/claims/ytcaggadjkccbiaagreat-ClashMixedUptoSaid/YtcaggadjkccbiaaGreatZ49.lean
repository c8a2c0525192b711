/- The document's places (values without addresses). -/
import Derived.Test.YtcaggadjkccbiaaGreatZ47
namespace Go.Proofs.YtcaggadjkccbiaaGreat
set_option maxHeartbeats 1000000
set_option maxRecDepth 100000
set_option linter.unusedVariables false
set_option linter.unusedSimpArgs false
open Go Go.RowKit

@[go_sem] def plD (w:List Nat) (no:Int) (sum:Dg) (lo hi:Option Bs):D:=.agg [.sl .none (w.map natD),.v (.int .u32 no),.dg sum,sD (lo.getD []),sD (hi.getD []),bD lo.isSome,bD hi.isSome]
theorem aPWithin0 (w:List Nat) (no:Int) (sum:Dg) (a c:Bool) (l h:Bs) (n:Nd) (S:Sto) (ho:NdOk n):ACalls Tryz.prog 106 [.agg [.sl .none (w.map natD),.v (.int .u32 no),.dg sum,sD l,sD h,bD a,bD c],ndA n] S
  (RetQ (bD ((n.pairs.all fun q=>!((a && Op.bytesLess q.1 l) || (c && !Op.bytesLess q.1 h))) && (n.seps.all fun s=>!((a && (Op.bytesLess s l || s == l)) || (c && !Op.bytesLess s h))))) S):=by
 have hnp:=ho.np
 have hns:=ho.ns
 obtain ⟨G,hG⟩:∃ G,((n.pairs.all fun q=>!((a && Op.bytesLess q.1 l) || (c && !Op.bytesLess q.1 h))) && (n.seps.all fun s=>!((a && (Op.bytesLess s l || s == l)) || (c && !Op.bytesLess s h))))=G:=⟨_,rfl⟩
 rw [hG]
 refine acalls_of prg Tryz.func106 rfl (by kernel_rfl) (congrArg Array.toList Tryz.results106) Tryz.ntmps106 (fun B hB=>fA ?_)
 refine Wk Y0 ?_
 refine AW.loopS 8 [5,6] (fun xs S'=>∃ i:Nat,xs=[iD i,.any]∧S'=S∧i≤n.pairs.length∧∀ q∈n.pairs.take i,(!((a && Op.bytesLess q.1 l) || (c && !Op.bytesLess q.1 h)))=true) (fun xs _=>n.pairs.length - nI (xs.getD 0 .any)) [iD 0,.any] S ?_ (Sto.Sub.refl _) ⟨0,rfl,rfl,by omega,by simp⟩ ?_
 ·exact wK
 rintro xs S' ⟨i,rfl,rfl,hi1,hq⟩
 refine fR ?_
 by_cases hlt:i<n.pairs.length
 ·obtain ⟨x,hx⟩:∃ x,n.pairs[i]?=some x:=⟨_,List.getElem?_eq_getElem hlt⟩
  have d1:decide ((i:Int)<n.pairs.length)=true:=decide_eq_true (by omega)
  have hgt:(n.pairs.map prD)[i]?=some (prD x):=by rw [List.getElem?_map,hx];rfl
  have g0:(0:Int)≤i:=by omega
  have f1:IntKind.i64.wrap ((i:Int)+1)=((i+1:Nat):Int):=IntWalk.i64_in _ (by omega)
  by_cases hout:((a && Op.bytesLess x.1 l) || (c && !Op.bytesLess x.1 h))=true
  ·have hf:G=false:=by
    rw [← hG,Bool.and_eq_false_iff]
    left
    rw [List.all_eq_false]
    exact ⟨x,List.mem_of_getElem? hx,by rw [hout];simp⟩
   subst hf
   clear hG hq
   cases a <;> cases hb:Op.bytesLess x.1 l <;> cases c <;> cases hd:Op.bytesLess x.1 h <;> (first | exact absurd hout (by rw [hb,hd];decide) | skip)
   all_goals refine Wk (Yy d1 (Yy hgt (Yy g0 (Yy Int.toNat_natCast (Yy hb hd))))) ?_
   all_goals exact rE
  ·have hin:∀ q∈n.pairs.take (i+1),(!((a && Op.bytesLess q.1 l) || (c && !Op.bytesLess q.1 h)))=true:=fun q hmem=>by
    rw [List.take_add_one,hx] at hmem
    rcases List.mem_append.1 hmem with h1 | h1
    ·exact hq q h1
    ·simp only [Option.toList_some,List.mem_singleton] at h1;subst h1;rw [(Bool.not_eq_true _).mp hout];rfl
   clear hG hq
   have hout:((a && Op.bytesLess x.1 l) || (c && !Op.bytesLess x.1 h))=false:=(Bool.not_eq_true _).mp hout
   cases a <;> cases hb:Op.bytesLess x.1 l <;> cases c <;> cases hd:Op.bytesLess x.1 h <;> (first | exact absurd hout (by rw [hb,hd];decide) | skip)
   all_goals refine Wk (Yy d1 (Yy hgt (Yy g0 (Yy Int.toNat_natCast (Yy hb (Yy hd f1)))))) ?_
   all_goals refine ⟨[iD (i+1:Nat),.any],S',?_,Sto.Sub.refl _,⟨i+1,rfl,rfl,by omega,hin⟩,by exact mE⟩
   all_goals exact wK
 obtain rfl:i=n.pairs.length:=by omega
 have d1:decide ((n.pairs.length:Int)<n.pairs.length)=false:=decide_eq_false (by omega)
 rw [List.take_length] at hq
 rw [List.all_eq_true.2 hq,Bool.true_and] at hG
 refine Wk d1 ?_
 refine AW.loopS 8 [7] (fun xs S2=>∃ i:Nat,xs=[iD i]∧S2=S'∧i≤n.seps.length∧∀ s∈n.seps.take i,(!((a && (Op.bytesLess s l || s == l)) || (c && !Op.bytesLess s h)))=true) (fun xs _=>n.seps.length - nI (xs.getD 0 .any)) [iD 0] S' ?_ (Sto.Sub.refl _) ⟨0,rfl,rfl,by omega,by simp⟩ ?_
 ·exact wK
 rintro xs S2 ⟨i,rfl,rfl,hi1,hq2⟩
 refine fR ?_
 by_cases hlt:i<n.seps.length
 ·obtain ⟨x,hx⟩:∃ x,n.seps[i]?=some x:=⟨_,List.getElem?_eq_getElem hlt⟩
  have d1:decide ((i:Int)<n.seps.length)=true:=decide_eq_true (by omega)
  have hgt:(n.seps.map sD)[i]?=some (sD x):=by rw [List.getElem?_map,hx];rfl
  have g0:(0:Int)≤i:=by omega
  have f1:IntKind.i64.wrap ((i:Int)+1)=((i+1:Nat):Int):=IntWalk.i64_in _ (by omega)
  by_cases hout:((a && (Op.bytesLess x l || x == l)) || (c && !Op.bytesLess x h))=true
  ·have hf:G=false:=by
    rw [← hG,List.all_eq_false]
    exact ⟨x,List.mem_of_getElem? hx,by rw [hout];simp⟩
   subst hf
   clear hG hq hq2
   cases a <;> cases hb:(Op.bytesLess x l || x == l) <;> cases c <;> cases hd:Op.bytesLess x h <;> (first | exact absurd hout (by rw [hb,hd];decide) | skip)
   all_goals refine Wk (Yy d1 (Yy hgt (Yy g0 (Yy Int.toNat_natCast (Yy hb hd))))) ?_
   all_goals exact rE
  ·have hin:∀ s∈n.seps.take (i+1),(!((a && (Op.bytesLess s l || s == l)) || (c && !Op.bytesLess s h)))=true:=fun q hmem=>by
    rw [List.take_add_one,hx] at hmem
    rcases List.mem_append.1 hmem with h1 | h1
    ·exact hq2 q h1
    ·simp only [Option.toList_some,List.mem_singleton] at h1;subst h1;rw [(Bool.not_eq_true _).mp hout];rfl
   clear hG hq hq2
   have hout:((a && (Op.bytesLess x l || x == l)) || (c && !Op.bytesLess x h))=false:=(Bool.not_eq_true _).mp hout
   cases a <;> cases hb:(Op.bytesLess x l || x == l) <;> cases c <;> cases hd:Op.bytesLess x h <;> (first | exact absurd hout (by rw [hb,hd];decide) | skip)
   all_goals refine Wk (Yy d1 (Yy hgt (Yy g0 (Yy Int.toNat_natCast (Yy hb (Yy hd f1)))))) ?_
   all_goals refine ⟨[iD (i+1:Nat)],S2,?_,Sto.Sub.refl _,⟨i+1,rfl,rfl,by omega,hin⟩,by exact mE⟩
   all_goals exact wK
 obtain rfl:i=n.seps.length:=by omega
 have d1:decide ((n.seps.length:Int)<n.seps.length)=false:=decide_eq_false (by omega)
 rw [List.take_length] at hq2
 rw [List.all_eq_true.2 hq2] at hG
 subst hG
 refine Wk d1 ?_
 exact rE
theorem aPWithin (w:List Nat) (no:Int) (sum:Dg) (lo hi:Option Bs) (n:Nd) (S:Sto) (ho:NdOk n):ACalls Tryz.prog 106 [plD w no sum lo hi,ndA n] S (RetQ (bD (keptB lo hi n)) S):=by
 have:=aPWithin0 w no sum lo.isSome hi.isSome (lo.getD []) (hi.getD []) n S ho
 have e1:(fun q:Pr=>!((lo.isSome && Op.bytesLess q.1 (lo.getD [])) || (hi.isSome && !Op.bytesLess q.1 (hi.getD []))))=fun q=>inB lo hi q.1 false:=by
  funext q;have:=outK_in lo hi q.1;unfold outK at this;rw [this,Bool.not_not]
 have e2:(fun s:Bs=>!((lo.isSome && (Op.bytesLess s (lo.getD []) || s == lo.getD [])) || (hi.isSome && !Op.bytesLess s (hi.getD []))))=fun s=>inB lo hi s true:=by
  funext q;have:=outS_in lo hi q;unfold outS at this;rw [this,Bool.not_not]
 rw [e1,e2] at this
 exact this


theorem untag_pl (t:Tag) (w:List Nat) (i:Nat) (no:Int) (sum:Dg) (l h:Bs) (a c:Bool):untag (oneOf [.agg [.sl t (w.map natD++[iD i]),.v (.int .u32 no),.dg sum,sD l,sD h,bD a,bD c]])=.agg [.sl .none ((w++[i]).map natD),.v (.int .u32 no),.dg sum,sD l,sD h,bD a,bD c]:=by
 have:untags (w.map natD++[iD i])=(w++[i]).map natD:=by rw [← untags_nat (w++[i]),List.map_append];rfl
 simp only [oneOf,untag,untags,this]
 rw [List.map_append]
 rfl
theorem aPBelow (w:List Nat) (no:Int) (sum:Dg) (lo hi:Option Bs) (n:Nd) (i:Nat) (kd:Kd) (S:Sto) (ho:NdOk n) (hk:n.kids[i]?=some kd) (hi1:i≤n.seps.length) (hw:w.length≤1000) :
  ACalls Tryz.prog 107 [plD w no sum lo hi,ndA n,iD i] S (RetQ (plD (w++[i]) kd.page kd.sum (belowLo lo n i) (belowHi hi n i)) S):=by
 have hns:=ho.ns
 have e0:(0:Int)≤i:=by omega
 have gk:(n.kids.map kdD)[i]?=some (kdD kd):=by rw [List.getElem?_map,hk];rfl
 unfold plD
 refine acalls_of prg Tryz.func107 rfl (by kernel_rfl) (congrArg Array.toList Tryz.results107) Tryz.ntmps107 (fun B hB=>fA ?_)
 refine Wk Y0 ?_
 refine aL fun b6 k_b6 o_b6=>?_
 refine Wk Y0 ?_
 refine aL fun b7 k_b7 o_b7=>?_
 have n1:=nes k_b7.1
 refine gG (Yy k_b7 n1) ?_
 refine w6 ?_
 refine w3 ?_
 refine w4 ?_
 refine gG Y0 ?_
 refine w6 ?_
 refine AW.cutS 9 [8] (fun xs S'=>∃ (tg:Tag) (ow1:List (Nat×Nat)),xs=[.sl tg (w.map natD)]∧S'=⟨(b7,128,plD w no sum lo hi)::(b6,128,.agg [.sl .nil [],.v (.int .u32 0),.dg Dg.zero,sD [],sD [],bD false,bD false])::S.bk,ow1⟩∧G1 S.ow ow1 3 1 tg (w.map natD)) ?_ ?_
 ·by_cases hw0:w=[]
  ·subst hw0
   refine Wk Y0 ?_
   refine AOps.append0 prg (by rfl) (by rfl) (by rfl) (by rfl) (by rfl) (by rfl) ?_
   refine Wk Y0 ?_
   exact ⟨[_],_,wK,Sto.Sub.refl _,.nil,S.ow,rfl,rfl,G1.nil _ _ _⟩
  ·refine Wk Y0 ?_
   refine wap 3 1 8 ?_ ?_ ?_ (fun g _ hgo=>?_) (hn:=by simpa using hw0)
   ·exact sz_map (f:=natD) (l:=[]) (fun _=>rfl) (fun d hd=>by obtain ⟨_,_,rfl⟩:=List.mem_map.1 hd;rfl)
   ·exact (G1.nil S.ow 3 1).may
   ·simp only [List.length_nil,List.length_map];omega
   have hg:=(G1.nil S.ow 3 1).add (ns:=w.map natD) hgo
   rw [List.nil_append,List.length_map] at hg
   refine Wk Y0 ?_
   exact ⟨[_],_,wK,Sto.Sub.refl _,.own g 3 1,_,rfl,rfl,hg⟩
 rintro xs S' ⟨tg,ow1,rfl,rfl,hg⟩
 refine fR ?_
 refine Wk Y0 ?_
 refine wap 3 1 8 ?_ ?_ ?_ (fun g _ hgo=>?_)
 ·exact sz_map (f:=natD) (fun _=>rfl) (fun d hd=>by simp only [List.mem_singleton] at hd;subst hd;rfl)
 ·exact hg.may
 ·rw [List.length_map];simp only [List.length_singleton];omega
 have hg3:=hg.add (ns:=[iD i]) hgo
 by_cases h1:0<i
 ·obtain ⟨x,hx⟩:∃ x,n.seps[i - 1]?=some x:=⟨_,List.getElem?_eq_getElem (by omega)⟩
  have d1:decide ((i:Int) > 0)=true:=decide_eq_true (by omega)
  have f1:IntKind.i64.wrap ((i:Int) - 1)=((i - 1:Nat):Int):=by rw [IntWalk.i64_in _ (by omega)];omega
  have g1:(n.seps.map sD)[i - 1]?=some (sD x):=by rw [List.getElem?_map,hx];rfl
  have g0:(0:Int)≤((i - 1:Nat):Int):=by omega
  by_cases h2:i<n.seps.length
  ·obtain ⟨y,hy⟩:∃ y,n.seps[i]?=some y:=⟨_,List.getElem?_eq_getElem h2⟩
   have d2:decide ((i:Int)<n.seps.length)=true:=decide_eq_true (by omega)
   have g2:(n.seps.map sD)[i]?=some (sD y):=by rw [List.getElem?_map,hy];rfl
   rw [show belowLo lo n i=some x from by unfold belowLo;rw [if_pos h1,hx],show belowHi hi n i=some y from by unfold belowHi;rw [if_pos h2,hy]]
   refine Wk (Yy e0 (Yy Int.toNat_natCast (Yy gk (Yy k_b7 (Yy n1 (Yy d1 (Yy d2 (Yy f1 (Yy g1 (Yy g0 g2)))))))))) ?_
   refine enduq (S':=S) (sR (Yy k_b7 n1)) (untag_pl _ _ _ _ _ _ _ _ _) ⟨((List.Sublist.refl _).cons _).cons _,hg3.sub⟩
  ·have d2:decide ((i:Int)<n.seps.length)=false:=decide_eq_false (by omega)
   rw [show belowLo lo n i=some x from by unfold belowLo;rw [if_pos h1,hx],show belowHi hi n i=hi from by unfold belowHi;rw [if_neg h2]]
   refine Wk (Yy e0 (Yy Int.toNat_natCast (Yy gk (Yy k_b7 (Yy n1 (Yy d1 (Yy d2 (Yy f1 (Yy g1 g0))))))))) ?_
   refine enduq (S':=S) (sR (Yy k_b7 n1)) (untag_pl _ _ _ _ _ _ _ _ _) ⟨((List.Sublist.refl _).cons _).cons _,hg3.sub⟩
 ·have d1:decide ((i:Int) > 0)=false:=decide_eq_false (by omega)
  by_cases h2:i<n.seps.length
  ·obtain ⟨y,hy⟩:∃ y,n.seps[i]?=some y:=⟨_,List.getElem?_eq_getElem h2⟩
   have d2:decide ((i:Int)<n.seps.length)=true:=decide_eq_true (by omega)
   have g2:(n.seps.map sD)[i]?=some (sD y):=by rw [List.getElem?_map,hy];rfl
   rw [show belowLo lo n i=lo from by unfold belowLo;rw [if_neg h1],show belowHi hi n i=some y from by unfold belowHi;rw [if_pos h2,hy]]
   refine Wk (Yy e0 (Yy Int.toNat_natCast (Yy gk (Yy k_b7 (Yy n1 (Yy d1 (Yy d2 g2))))))) ?_
   refine enduq (S':=S) (sR (Yy k_b7 n1)) (untag_pl _ _ _ _ _ _ _ _ _) ⟨((List.Sublist.refl _).cons _).cons _,hg3.sub⟩
  ·have d2:decide ((i:Int)<n.seps.length)=false:=decide_eq_false (by omega)
   rw [show belowLo lo n i=lo from by unfold belowLo;rw [if_neg h1],show belowHi hi n i=hi from by unfold belowHi;rw [if_neg h2]]
   refine Wk (Yy e0 (Yy Int.toNat_natCast (Yy gk (Yy k_b7 (Yy n1 (Yy d1 d2)))))) ?_
   refine enduq (S':=S) (sR (Yy k_b7 n1)) (untag_pl _ _ _ _ _ _ _ _ _) ⟨((List.Sublist.refl _).cons _).cons _,hg3.sub⟩

end Go.Proofs.YtcaggadjkccbiaaGreat