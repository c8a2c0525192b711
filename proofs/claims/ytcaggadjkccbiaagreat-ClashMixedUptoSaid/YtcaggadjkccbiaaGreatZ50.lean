/- The document reads a node of a range's proof, and all that belongs to it (values without addresses). -/
import Derived.Test.YtcaggadjkccbiaaGreatZ48
import Derived.Test.YtcaggadjkccbiaaGreatZ49
namespace Go.Proofs.YtcaggadjkccbiaaGreat
set_option maxHeartbeats 1000000
set_option maxRecDepth 100000
set_option linter.unusedVariables false
set_option linter.unusedSimpArgs false
open Go Go.RowKit

def PNodeQ (b:Nat) (p wid:Int) (lo hi:Bs) (pairs:List Pr) (ow0:List (Nat×Nat)) (S:Sto) (o:Option (List Bs×List Pr)) (e:AEnd) (S':Sto):Prop:=
 match o with
 | some (l',ps)=>e=.ret (bD true)∧∃ tp',S'.bk=setM S.bk b (srD p wid l' lo hi tp' (pairs++ps))∧G1 ow0 S'.ow 73 2 tp' ((pairs++ps).map prD)
 | none=>e=.ret (bD false)∧∃ (l':List Bs) (ps':List Pr) (tp':Tag),S'.bk=setM S.bk b (srD p wid l' lo hi tp' ps')∧List.Sublist ow0 S'.ow
theorem aRNode (p wid:Int) (lo hi:Bs) (hr:rightB p wid=true):∀ (d b:Nat) (way:List Nat) (no:Int) (first:Bool) (sum:Dg) (low high:Option Bs) (forms:List Bs) (pairs:List Pr) (tp:Tag) (S:Sto) (ow0:List (Nat×Nat)),
  getM S.bk b=some (124,srD p wid forms lo hi tp pairs)→way.length+d=33→(way.length == 0)=first→(∀ x∈forms,x.length≤1048576)→pairs.length+8192*forms.length≤20000000000→G1 ow0 S.ow 73 2 tp (pairs.map prD) →
  ACalls Tryz.prog 70 [pD b,plD way no sum low high] S (PNodeQ b p wid lo hi pairs ow0 S (nodeR p wid lo hi d first sum low high forms)):=by
 intro d
 induction d with
 | zero=>
  intro b way no first sum low high forms pairs tp S ow0 hb hd hfi hfs hpl hg
  have hP:nodeR p wid lo hi 0 first sum low high forms=none:=rfl
  rw [hP]
  have z1:decide ((way.length:Int) ≥ 33)=true:=decide_eq_true (by omega)
  by_cases hl:0<forms.length
  ·have z0:((forms.length:Int) == 0)=false:=by rw [beq_eq_false_iff_ne];omega
   refine acalls_of prg Tryz.func70 rfl (by kernel_rfl) (congrArg Array.toList Tryz.results70) Tryz.ntmps70 (fun B hB=>fA ?_)
   refine Wk (Yy hb (Yy z0 z1)) ?_
   refine endr (sR Y0) (by rfl) (Sto.Sub.refl _) ⟨rfl,forms,pairs,tp,(setM_same hb).symm,hg.sub⟩
  ·have z0:((forms.length:Int) == 0)=true:=by rw [beq_iff_eq];omega
   refine acalls_of prg Tryz.func70 rfl (by kernel_rfl) (congrArg Array.toList Tryz.results70) Tryz.ntmps70 (fun B hB=>fA ?_)
   refine Wk (Yy hb z0) ?_
   refine endr (sR Y0) (by rfl) (Sto.Sub.refl _) ⟨rfl,forms,pairs,tp,(setM_same hb).symm,hg.sub⟩
 | succ d ih=>
 intro b way no first sum low high forms pairs tp S ow0 hb hd hfi hfs hpl hg
 by_cases hl0:0<forms.length
 case neg=>
  obtain rfl:forms=[]:=List.eq_nil_of_length_eq_zero (by omega)
  have hP:nodeR p wid lo hi (d+1) first sum low high []=none:=rfl
  rw [hP]
  have z0:((0:Int) == 0)=true:=rfl
  refine acalls_of prg Tryz.func70 rfl (by kernel_rfl) (congrArg Array.toList Tryz.results70) Tryz.ntmps70 (fun B hB=>fA ?_)
  refine Wk (Yy hb z0) ?_
  refine endr (sR Y0) (by rfl) (Sto.Sub.refl _) ⟨rfl,[],pairs,tp,(setM_same hb).symm,hg.sub⟩
 obtain ⟨x,l,hF⟩:∃ x l,forms=x::l:=by cases forms with | nil=>simp at hl0 | cons x l=>exact ⟨x,l,rfl⟩
 have hxl:=hfs x (by rw [hF];simp)
 have hls:∀ y∈l,y.length≤1048576:=fun y hy=>hfs y (by rw [hF];simp [hy])
 have z0:((forms.length:Int) == 0)=false:=by rw [beq_eq_false_iff_ne];omega
 have z1:decide ((way.length:Int) ≥ 33)=false:=decide_eq_false (by omega)
 have htk:((forms.map sD).drop 1).take (forms.length - 1)=l.map sD:=by rw [hF];exact List.take_of_length_le (by simp)
 have sz:∀ d∈forms.map sD,d.size=1:=fun d hd=>by obtain ⟨_,_,rfl⟩:=List.mem_map.1 hd;rfl
 have s1:1≤forms.length:=by omega
 have s2:(0:Int)≤1:=by omega
 have s3:Int.toNat 1=1:=rfl
 have hx0:(forms.map sD)[0]?=some (sD x):=by rw [hF];rfl
 have cR:=fun S=>aRead p wid x S (by omega)
 have ho:NdOk ((readP p wid x).getD noN):=nodeOf_ok (by omega)
 have hE:(okE (readP p wid x) (unpackE p wid)≠0∧readP p wid x=none)∨(okE (readP p wid x) (unpackE p wid)=0∧readP p wid x=some ((readP p wid x).getD noN)):=by
  cases hq:readP p wid x with
  | none=>exact .inl ⟨by simp [okE,unpackE,hr],rfl⟩
  | some n=>exact .inr ⟨rfl,rfl⟩
 generalize okE (readP p wid x) (unpackE p wid)=e at cR hE
 generalize (readP p wid x).getD noN=n at cR hE ho
 refine acalls_of prg Tryz.func70 rfl (by kernel_rfl) (congrArg Array.toList Tryz.results70) Tryz.ntmps70 (fun B hB=>fA ?_)
 refine Wk (Yy hb (Yy z0 z1)) ?_
 refine vx ?_
 refine Wu (Yy hb hx0) ?_
 refine cU (cR) ?_
 refine Wu Y0 ?_
 rintro b5 ⟨k_b5,o_b5⟩
 have m5:=getM_ne hb k_b5
 refine Wu (Yy k_b5 m5) ?_
 by_cases he:e=0
 case neg=>
  have z2:(e != 0)=true:=bne_iff_ne.2 he
  have hn:readP p wid x=none:=by
   rcases hE with ⟨_,h2⟩ | ⟨h1,_⟩
   ·exact h2
   ·exact absurd h1 he
  have hP:nodeR p wid lo hi (d+1) first sum low high forms=none:=by rw [hF,nodeR_succ,hn]
  rw [hP]
  refine Wk (Yy k_b5 (Yy m5 (Yy hb (Yy s1 (Yy s2 (Yy s3 (Yy (eq_true sz) (Yy htk (Yy (Nat.le_refl forms.length) z2))))))))) ?_
  refine endr (sR Y0) (by rfl) (Sto.Sub.refl _).cons ⟨rfl,l,pairs,tp,rfl,hg.sub⟩
 have z2:(e != 0)=false:=by rw [he];rfl
 have hn:readP p wid x=some n:=by
  rcases hE with ⟨h1,_⟩ | ⟨_,h2⟩
  ·exact absurd he h1
  ·exact h2
 have hfew:=read_few hn
 have cS:=fun S=>aRSum p wid n S ho
 obtain ⟨⟨dg,de⟩,hsum⟩:∃ z,sumN p wid n=z:=⟨_,rfl⟩
 rw [hsum] at cS
 have cW:=fun S=>aPWithin way no sum low high n S ho
 have cL:=fun S=>aLeaf n S
 rw [read_leaf hn] at cL
 have hnone:spanB p wid first sum low high n=false→nodeR p wid lo hi (d+1) first sum low high forms=none:=fun h=>by
  rw [hF,nodeR_succ,hn]
  exact if_neg (by rw [h];simp)
 refine Wk (Yy k_b5 (Yy m5 (Yy hb (Yy s1 (Yy s2 (Yy s3 (Yy (eq_true sz) (Yy htk (Yy (Nat.le_refl forms.length) z2))))))))) ?_
 refine vx ?_
 refine Wu (Yy hb (Yy m5 k_b5)) ?_
 refine cU (cS) ?_
 refine Wu Y0 ?_
 rintro b7 ⟨k_b7,o_b7⟩
 simp only [List.map_cons,List.mem_cons,not_or,setM_keys] at k_b7
 have m7:=getM_ne hb k_b7.2
 have n1:=nes k_b7.1
 refine Wu (Yy hb (Yy m5 (Yy m7 (Yy k_b5 (Yy k_b7 n1))))) ?_
 refine AW.cutS 10 [] (fun xs S'=>xs=[]∧spanB p wid first sum low high n=true∧S'=⟨(b7,36,.dg dg)::(b5,87,ndA n)::setM S.bk b (srD p wid l lo hi tp pairs),S.ow⟩) ?_ ?_
 ·by_cases c1:de=0
  case neg=>
   have z3:(de != 0)=true:=bne_iff_ne.2 c1
   have z4:(de == 0)=false:=beq_eq_false_iff_ne.2 c1
   rw [hnone (by unfold spanB;rw [hsum];show (de == 0 && _ && _ && _)=false;rw [z4];rfl)]
   refine Wk (Yy hb (Yy m5 (Yy m7 (Yy k_b5 (Yy k_b7 (Yy n1 z3)))))) ?_
   refine endr (sR Y0) (by rfl) (Sto.Sub.refl _).cons.cons ⟨rfl,l,pairs,tp,rfl,hg.sub⟩
  have z3:(de != 0)=false:=by rw [c1];rfl
  have z4:(de == 0)=true:=beq_iff_eq.2 c1
  by_cases c2:dg=sum
  case neg=>
   have z5:decide (dg=sum)=false:=decide_eq_false c2
   rw [hnone (by unfold spanB;rw [hsum];show (_ && decide (dg=sum) && _ && _)=false;rw [z5];simp)]
   refine Wk (Yy hb (Yy m5 (Yy m7 (Yy k_b5 (Yy k_b7 (Yy n1 (Yy z3 z5))))))) ?_
   refine endr (sR Y0) (by rfl) (Sto.Sub.refl _).cons.cons ⟨rfl,l,pairs,tp,rfl,hg.sub⟩
  have z5:decide (dg=sum)=true:=decide_eq_true c2
  cases hk:keptB low high n with
  | false=>
   rw [hk] at cW
   rw [hnone (by unfold spanB;rw [hk];simp)]
   refine Wk (Yy hb (Yy m5 (Yy m7 (Yy k_b5 (Yy k_b7 (Yy n1 (Yy z3 z5))))))) ?_
   refine cQ (cW _) ?_
   refine Wk (Yy hb (Yy m5 (Yy m7 (Yy k_b5 (Yy k_b7 n1))))) ?_
   refine endr (sR Y0) (by rfl) (Sto.Sub.refl _).cons.cons ⟨rfl,l,pairs,tp,rfl,hg.sub⟩
  | true=>
  rw [hk] at cW
  have hsp:spanB p wid first sum low high n=(first || (decide (0<n.kids.length) || decide (0<n.pairs.length))):=by unfold spanB;rw [hsum,hk];show (de == 0 && decide (dg=sum) && true && _)=_;rw [z4,z5];rfl
  cases hlf:(n.kids.length == 0) with
  | false=>
   rw [hlf] at cL
   have hkp:0<n.kids.length:=by rw [beq_eq_false_iff_ne] at hlf;omega
   refine Wk (Yy hb (Yy m5 (Yy m7 (Yy k_b5 (Yy k_b7 (Yy n1 (Yy z3 z5))))))) ?_
   refine cQ (cW _) ?_
   refine Wk (Yy hb (Yy m5 (Yy m7 (Yy k_b5 (Yy k_b7 n1))))) ?_
   refine cQ (cL _) ?_
   refine Wk (Yy hb (Yy m5 (Yy m7 (Yy k_b5 (Yy k_b7 n1))))) ?_
   exact ⟨[],_,wK,Sto.Sub.refl _,rfl,by rw [hsp,decide_eq_true hkp];simp,rfl⟩
  | true=>
   rw [hlf] at cL
   by_cases hp0:0<n.pairs.length
   ·have z6:((n.pairs.length:Int) == 0)=false:=by rw [beq_eq_false_iff_ne];omega
    refine Wk (Yy hb (Yy m5 (Yy m7 (Yy k_b5 (Yy k_b7 (Yy n1 (Yy z3 z5))))))) ?_
    refine cQ (cW _) ?_
    refine Wk (Yy hb (Yy m5 (Yy m7 (Yy k_b5 (Yy k_b7 n1))))) ?_
    refine cQ (cL _) ?_
    refine Wk (Yy hb (Yy m5 (Yy m7 (Yy k_b5 (Yy k_b7 (Yy n1 z6)))))) ?_
    exact ⟨[],_,wK,Sto.Sub.refl _,rfl,by rw [hsp,decide_eq_true hp0];simp,rfl⟩
   ·have z6:((n.pairs.length:Int) == 0)=true:=by rw [beq_iff_eq];omega
    cases first with
    | true=>
     have z7:decide ((way.length:Int) > 0)=false:=decide_eq_false (by rw [beq_iff_eq] at hfi;omega)
     refine Wk (Yy hb (Yy m5 (Yy m7 (Yy k_b5 (Yy k_b7 (Yy n1 (Yy z3 z5))))))) ?_
     refine cQ (cW _) ?_
     refine Wk (Yy hb (Yy m5 (Yy m7 (Yy k_b5 (Yy k_b7 n1))))) ?_
     refine cQ (cL _) ?_
     refine Wk (Yy hb (Yy m5 (Yy m7 (Yy k_b5 (Yy k_b7 (Yy n1 (Yy z6 z7))))))) ?_
     exact ⟨[],_,wK,Sto.Sub.refl _,rfl,by rw [hsp];rfl,rfl⟩
    | false=>
     have z7:decide ((way.length:Int) > 0)=true:=decide_eq_true (by rw [beq_eq_false_iff_ne] at hfi;omega)
     rw [beq_iff_eq] at hlf
     rw [hnone (by rw [hsp,decide_eq_false (by omega:¬ 0<n.kids.length),decide_eq_false hp0];rfl)]
     refine Wk (Yy hb (Yy m5 (Yy m7 (Yy k_b5 (Yy k_b7 (Yy n1 (Yy z3 z5))))))) ?_
     refine cQ (cW _) ?_
     refine Wk (Yy hb (Yy m5 (Yy m7 (Yy k_b5 (Yy k_b7 n1))))) ?_
     refine cQ (cL _) ?_
     refine Wk (Yy hb (Yy m5 (Yy m7 (Yy k_b5 (Yy k_b7 (Yy n1 (Yy z6 z7))))))) ?_
     refine endr (sR Y0) (by rfl) (Sto.Sub.refl _).cons.cons ⟨rfl,l,pairs,tp,rfl,hg.sub⟩
 rintro xs S' ⟨rfl,hspan,rfl⟩
 refine fR ?_
 have hyes:nodeR p wid lo hi (d+1) first sum low high forms=(kidsF (fun i l=>nodeR p wid lo hi d false (kidSum n i) (belowLo low n i) (belowHi high n i) l) (kidsL lo hi n) l).map fun r=>(r.1,n.pairs.filter (fun q=>rngB lo hi q.1)++r.2):=by
  rw [hF,nodeR_succ,hn]
  exact if_pos hspan
 rw [hyes]
 refine Wk (Yy hb (Yy m5 (Yy m7 (Yy k_b5 (Yy k_b7 n1))))) ?_
 refine AW.loopS 10 [8] (fun xs S'=>∃ (i:Nat) (tp2:Tag) (ow2:List (Nat×Nat)),xs=[iD i]∧S'=⟨(b7,36,.dg dg)::(b5,87,ndA n)::setM S.bk b (srD p wid l lo hi tp2 (pairs++(n.pairs.take i).filter fun q=>rngB lo hi q.1)),ow2⟩∧i≤n.pairs.length∧G1 ow0 ow2 73 2 tp2 ((pairs++(n.pairs.take i).filter fun q=>rngB lo hi q.1).map prD)) (fun xs _=>n.pairs.length - nI (xs.getD 0 .any)) [iD 0] _ ?_ (Sto.Sub.refl _) ⟨0,tp,S.ow,rfl,by rw [List.take_zero,List.filter_nil,List.append_nil];rfl,by omega,by simpa using hg⟩ ?_
 ·exact wK
 rintro xs S' ⟨i,tp2,ow2,rfl,rfl,hile,hg2⟩
 refine fR ?_
 by_cases hlt:i<n.pairs.length
 ·obtain ⟨q,hq⟩:∃ q,n.pairs[i]?=some q:=⟨_,List.getElem?_eq_getElem hlt⟩
  have d1:decide ((i:Int)<n.pairs.length)=true:=decide_eq_true (by omega)
  have hgt:(n.pairs.map prD)[i]?=some (prD q):=by rw [List.getElem?_map,hq];rfl
  have g0:(0:Int)≤i:=by omega
  have f1:IntKind.i64.wrap ((i:Int)+1)=((i+1:Nat):Int):=IntWalk.i64_in _ (by omega)
  have cI:=fun S=>aRIn q.1 lo hi S
  have htk:(n.pairs.take (i+1)).filter (fun q=>rngB lo hi q.1)=(n.pairs.take i).filter (fun q=>rngB lo hi q.1)++(if rngB lo hi q.1=true then [q] else []):=by
   rw [List.take_add_one,hq,List.filter_append]
   cases h:rngB lo hi q.1 <;> simp [h]
  have hlen:((n.pairs.take i).filter fun q=>rngB lo hi q.1).length≤8192:=Nat.le_trans (List.length_filter_le _ _) (by rw [List.length_take];omega)
  generalize hps:(n.pairs.take i).filter (fun q=>rngB lo hi q.1)=ps at hg2 htk hlen ⊢
  have hbi:getM (setM S.bk b (srD p wid l lo hi tp2 (pairs++ps))) b=some (124,srD p wid l lo hi tp2 (pairs++ps)):=by rw [getM_setM,hb];rfl
  cases hin:rngB lo hi q.1 with
  | false=>
   rw [hin] at cI htk
   rw [if_neg (by simp),List.append_nil] at htk
   refine Wk (Yy hb (Yy m5 (Yy m7 (Yy k_b5 (Yy k_b7 (Yy n1 (Yy d1 (Yy hgt (Yy g0 Int.toNat_natCast))))))))) ?_
   refine cQ (cI _) ?_
   refine Wk f1 ?_
   refine ⟨[iD (i+1:Nat)],⟨(b7,36,.dg dg)::(b5,87,ndA n)::setM S.bk b (srD p wid l lo hi tp2 (pairs++ps)),ow2⟩,?_,Sto.Sub.refl _,⟨i+1,tp2,ow2,rfl,by rw [htk],by omega,by rw [htk];exact hg2⟩,?_⟩
   ·exact wK
   ·exact mE
  | true=>
   rw [hin] at cI htk
   rw [if_pos rfl] at htk
   refine Wk (Yy hb (Yy m5 (Yy m7 (Yy k_b5 (Yy k_b7 (Yy n1 (Yy d1 (Yy hgt (Yy g0 Int.toNat_natCast))))))))) ?_
   refine cQ (cI _) ?_
   refine Wn Y0 ?_
   have F:=(Yy hb (Yy m5 (Yy m7 (Yy k_b5 (Yy k_b7 (Yy n1 (Yy hgt (Yy g0 Int.toNat_natCast))))))))
   refine yz ?_
   refine yp 0 ?_
   refine yp 1 ?_
   refine yp 2 ?_
   refine yp 3 ?_
   refine yq 4 ?_
   refine yp 5 ?_
   refine yq 6 ?_
   refine yp 7 ?_
   refine yq 8 ?_
   refine yq 9 ?_
   refine yq 10 ?_
   refine ya 11 73 2 32 ?_ ?_ ?_ (fun g _ hgo=>?_)
   ·exact sz_map (f:=prD) (fun _=>rfl) (fun d hd=>by simp only [List.mem_singleton] at hd;subst hd;rfl)
   ·exact hg2.may
   ·rw [List.length_map,List.length_append];simp only [List.length_singleton];omega
   have hg3:=hg2.add (ns:=[prD q]) hgo
   refine ys 12 ?_
   refine ys 13 ?_
   refine ys 14 ?_
   refine ye ?_
   refine Wk f1 ?_
   refine ⟨[iD (i+1:Nat)],⟨(b7,36,.dg dg)::(b5,87,ndA n)::setM S.bk b (srD p wid l lo hi (.own g 73 2) (pairs++(ps++[q]))),(g,((pairs++ps).map prD++[prD q]).length*2)::dropTok tp2 ow2⟩,?_,?_,⟨i+1,.own g 73 2,_,rfl,by rw [htk],by omega,?_⟩,?_⟩
   ·exact wK
   ·rw [← List.append_assoc]
    unfold srD
    rw [List.map_append]
    exact Sto.Sub.refl _
   ·rw [htk,← List.append_assoc,show List.map prD (pairs++ps++[q])=List.map prD (pairs++ps)++[prD q] from by rw [List.map_append];rfl];exact hg3
   ·exact mE
 obtain rfl:i=n.pairs.length:=by omega
 have d1:decide ((n.pairs.length:Int)<n.pairs.length)=false:=decide_eq_false (by omega)
 rw [List.take_length] at hg2 ⊢
 have hlen:(n.pairs.filter fun q=>rngB lo hi q.1).length≤8192:=Nat.le_trans (List.length_filter_le _ _) hfew.1
 generalize (n.pairs.filter fun q=>rngB lo hi q.1)=P1 at hg2 hlen ⊢
 refine Wk (Yy hb (Yy m5 (Yy m7 (Yy k_b5 (Yy k_b7 (Yy n1 d1)))))) ?_
 obtain ⟨f,hf⟩:∃ f,(fun i l=>nodeR p wid lo hi d false (kidSum n i) (belowLo low n i) (belowHi high n i) l)=f:=⟨_,rfl⟩
 rw [hf,show kidsF f (kidsL lo hi n) l=restK f lo hi n 0 l from rfl]
 refine AW.loopS 10 [9] (fun xs S'=>∃ (i:Nat) (l2:List Bs) (ps2:List Pr) (tp3:Tag) (ow3:List (Nat×Nat)),xs=[iD i]∧S'=⟨(b7,36,.dg dg)::(b5,87,ndA n)::setM S.bk b (srD p wid l2 lo hi tp3 (pairs++(P1++ps2))),ow3⟩∧i≤n.kids.length∧restK f lo hi n 0 l=(restK f lo hi n i l2).map (fun r=>(r.1,ps2++r.2))∧(∀ y∈l2,y.length≤1048576)∧(pairs++(P1++ps2)).length+8192*l2.length≤20000000000∧G1 ow0 ow3 73 2 tp3 ((pairs++(P1++ps2)).map prD)) (fun xs _=>n.kids.length - nI (xs.getD 0 .any)) [iD 0] _ ?_ (Sto.Sub.refl _) ⟨0,l,[],tp2,ow2,rfl,by rw [List.append_nil];rfl,by omega,by simp,hls,by rw [hF] at hpl;simp only [List.length_append,List.length_cons,List.append_nil] at hpl ⊢;omega,by rw [List.append_nil];exact hg2⟩ ?_
 ·exact wK
 rintro xs S' ⟨i,l2,ps2,tp3,ow3,rfl,rfl,hile,hrest,hls2,hpl2,hg3⟩
 refine fR ?_
 by_cases hlt:i<n.kids.length
 ·obtain ⟨kd,hkd⟩:∃ kd,n.kids[i]?=some kd:=⟨_,List.getElem?_eq_getElem hlt⟩
  have hkl:n.seps.length+1=n.kids.length:=by
   have hsh:=(checkE_ok (mayE_ok (readP_ok hn).2.1).1).2
   unfold shapedB at hsh
   rw [if_neg (by rw [read_leaf hn];simp;intro h;rw [h] at hlt;simp at hlt)] at hsh
   simp only [Bool.and_eq_true,decide_eq_true_eq] at hsh
   exact hsh.1.1.2
  have hns:=ho.ns
  have d2:decide ((i:Int)<n.kids.length)=true:=decide_eq_true (by omega)
  have f1:IntKind.i64.wrap ((i:Int)+1)=((i+1:Nat):Int):=IntWalk.i64_in _ (by omega)
  have cM:=fun S=>aRMay n i lo hi S (by omega) (by omega)
  have hb2:getM (setM S.bk b (srD p wid l2 lo hi tp3 (pairs++(P1++ps2)))) b=some (124,srD p wid l2 lo hi tp3 (pairs++(P1++ps2))):=by rw [getM_setM,hb];rfl
  have cB:=fun S=>aPBelow way no sum low high n i kd S ho hkd (by omega) (by omega)
  cases hm:mayK lo hi n i with
  | false=>
   rw [hm] at cM
   refine Wn (Yy hb (Yy m5 (Yy m7 (Yy k_b5 (Yy k_b7 (Yy n1 d2)))))) ?_
   refine vz 17 ?_
   refine Wk (Yy hb (Yy m5 (Yy m7 (Yy k_b5 (Yy k_b7 n1))))) ?_
   refine cQ (cM _) ?_
   refine Wk (Yy hb (Yy m5 (Yy m7 (Yy k_b5 (Yy k_b7 (Yy n1 f1)))))) ?_
   refine ⟨[iD (i+1:Nat)],⟨(b7,36,.dg dg)::(b5,87,ndA n)::setM S.bk b (srD p wid l2 lo hi tp3 (pairs++(P1++ps2))),ow3⟩,?_,Sto.Sub.refl _,⟨i+1,l2,ps2,tp3,ow3,rfl,rfl,by omega,by rw [hrest,restK_skip hlt hm],hls2,hpl2,hg3⟩,?_⟩
   ·exact wK
   ·exact mE
  | true=>
   rw [hm] at cM
   have hb3:getM ((b7,36,.dg dg)::(b5,87,ndA n)::setM S.bk b (srD p wid l2 lo hi tp3 (pairs++(P1++ps2)))) b=some (124,srD p wid l2 lo hi tp3 (pairs++(P1++ps2))):=by
    rw [getM_cons,if_neg m7,getM_cons,if_neg m5];exact hb2
   have cN:=ih b (way++[i]) kd.page false kd.sum (belowLo low n i) (belowHi high n i) l2 (pairs++(P1++ps2)) tp3 ⟨(b7,36,.dg dg)::(b5,87,ndA n)::setM S.bk b (srD p wid l2 lo hi tp3 (pairs++(P1++ps2))),ow3⟩ ow0 hb3 (by simp only [List.length_append,List.length_singleton];omega) (by simp) hls2 hpl2 hg3
   have hfi:nodeR p wid lo hi d false kd.sum (belowLo low n i) (belowHi high n i) l2=f i l2:=by rw [← hf];show _=nodeR p wid lo hi d false (kidSum n i) _ _ _;rw [show kidSum n i=kd.sum from by unfold kidSum;rw [hkd];rfl]
   rw [hfi] at cN
   have hset:∀ X,setM ((b7,36,.dg dg)::(b5,87,ndA n)::setM S.bk b (srD p wid l2 lo hi tp3 (pairs++(P1++ps2)))) b X=(b7,36,.dg dg)::(b5,87,ndA n)::setM S.bk b X:=fun X=>by
    rw [setM_cons,if_neg m7,setM_cons,if_neg m5,setM_setM]
   refine Wn (Yy hb (Yy m5 (Yy m7 (Yy k_b5 (Yy k_b7 (Yy n1 d2)))))) ?_
   refine vz 17 ?_
   refine Wk (Yy hb (Yy m5 (Yy m7 (Yy k_b5 (Yy k_b7 n1))))) ?_
   refine cQ (cM _) ?_
   refine Wk (Yy hb (Yy m5 (Yy m7 (Yy k_b5 (Yy k_b7 n1))))) ?_
   refine cQ (cB _) ?_
   refine Wk (Yy hb (Yy m5 (Yy m7 (Yy k_b5 (Yy k_b7 n1))))) ?_
   cases hfr:f i l2 with
   | none=>
    rw [hfr] at cN
    rw [hrest,restK_none hlt hm hfr]
    refine wpc (c:=by exact cN) (k:=fun d S' h=>?_) (p:=fun d S' h=>by obtain ⟨h1,_⟩:=h;cases h1)
    obtain ⟨h1,l',ps',tp',h2,h3⟩:=h
    simp only [AEnd.ret.injEq] at h1
    subst h1
    obtain ⟨bk',ow'⟩:=S'
    simp only [hset] at h2
    subst h2
    refine Wk Y0 ?_
    refine endr (S':=⟨setM S.bk b (srD p wid l' lo hi tp' ps'),ow'⟩) (sR Y0) (by rfl) (Sto.Sub.refl _).cons.cons ⟨rfl,l',ps',tp',rfl,h3⟩
   | some r=>
    obtain ⟨l3,ps3⟩:=r
    rw [hfr] at cN
    refine wpc (c:=by exact cN) (k:=fun d S' h=>?_) (p:=fun d S' h=>by obtain ⟨h1,_⟩:=h;cases h1)
    obtain ⟨h1,tp4,h2,h3⟩:=h
    simp only [AEnd.ret.injEq] at h1
    subst h1
    obtain ⟨bk',ow'⟩:=S'
    simp only [hset] at h2
    subst h2
    have hfew3:=nodeR_few d false kd.sum (belowLo low n i) (belowHi high n i) l2 l3 ps3 (hfi.trans hfr)
    obtain ⟨⟨c,hc⟩,hq3⟩:=hfew3
    have hass:pairs++(P1++(ps2++ps3))=pairs++(P1++ps2)++ps3:=by simp
    refine Wk f1 ?_
    refine ⟨[iD (i+1:Nat)],⟨(b7,36,.dg dg)::(b5,87,ndA n)::setM S.bk b (srD p wid l3 lo hi tp4 (pairs++(P1++(ps2++ps3)))),ow'⟩,?_,?_,⟨i+1,l3,ps2++ps3,tp4,ow',rfl,rfl,by omega,?_,fun y hy=>hls2 y (by rw [hc];simp [hy]),?_,?_⟩,?_⟩
    ·exact wK
    ·rw [hass];exact Sto.Sub.refl _
    ·rw [hrest,restK_some hlt hm hfr,Option.map_map]
     congr 1
     funext r
     simp
    ·rw [hass,List.length_append];omega
    ·rw [hass];exact h3
    ·exact mE
 obtain rfl:i=n.kids.length:=by omega
 have d2:decide ((n.kids.length:Int)<n.kids.length)=false:=decide_eq_false (by omega)
 rw [hrest,restK_end]
 refine Wk (Yy hb (Yy m5 (Yy m7 (Yy k_b5 (Yy k_b7 (Yy n1 d2)))))) ?_
 refine endr (S':=⟨setM S.bk b (srD p wid l2 lo hi tp3 (pairs++(P1++ps2))),ow3⟩) (sR Y0) (by rfl) (Sto.Sub.refl _).cons.cons ⟨rfl,tp3,?_,?_⟩
 ·show _=setM S.bk b (srD p wid l2 lo hi tp3 (pairs++(P1++(ps2++[]))))
  rw [List.append_nil]
 ·show G1 _ _ _ _ _ ((pairs++(P1++(ps2++[]))).map prD)
  rw [List.append_nil];exact hg3


theorem strsP_len {m:Nat}:∀ {n:Nat} {l:Bs} {ts:List Bs} {l':Bs},strsP m n l=some (ts,l')→ts.length=n
 | 0,l,ts,l',h=>by simp only [strsP,Option.some.injEq,Prod.mk.injEq] at h;obtain ⟨rfl,_⟩:=h;rfl
 | n+1,l,ts,l',h=>by
  unfold strsP at h
  split at h
  ·cases h
  ·obtain ⟨⟨t2,l2⟩,h1,h2⟩:=Option.map_eq_some_iff.1 h
   simp only [Prod.mk.injEq] at h2
   obtain ⟨rfl,_⟩:=h2
   rw [List.length_cons,strsP_len h1]
theorem splitP_len {s:Bs} {ts:List Bs} (h:splitP s=some ts):ts.length≤s.length:=by
 have hl:=splitP_some h
 unfold listS at hl
 split at hl
 ·cases hl
 ·rename_i n l' hc
  rw [strsP_len hl]
  unfold countP at hc
  split at hc
  ·cases hc
  ·rename_i a l2 hf
   have:=freeP_shr hf
   split at hc
   ·simp only [Option.some.injEq,Prod.mk.injEq] at hc;omega
   ·cases hc

def spanP (p wid:Int) (root:Dg) (lo hi s:Bs):Option (List Pr):=
 match splitP s with
 | none=>none
 | some fs=>match nodeR p wid lo hi 33 true root none none fs with
  | some ([],ps)=>some ps
  | _=>none
def argsS (p wid:Int) (root:Dg):Bool:=rightB p wid && fitB wid root
def errS (p wid:Int) (root:Dg) (lo hi s:Bs):Int:=if argsS p wid root=true then (match spanP p wid root lo hi s with | some _=>0 | none=>150) else 2
def pairsS (p wid:Int) (root:Dg) (lo hi s:Bs):List Pr:=if argsS p wid root=true then (match spanP p wid root lo hi s with | some ps=>ps | none=>[]) else []
theorem spanS_arg {p wid:Int} {root:Dg} {lo hi s:Bs} (h:argsS p wid root=false):errS p wid root lo hi s=2∧pairsS p wid root lo hi s=[]:=by unfold errS pairsS;rw [h];exact ⟨rfl,rfl⟩
theorem spanS_no {p wid:Int} {root:Dg} {lo hi s:Bs} (h:argsS p wid root=true) (hp:spanP p wid root lo hi s=none):errS p wid root lo hi s=150∧pairsS p wid root lo hi s=[]:=by unfold errS pairsS;rw [h,hp];exact ⟨rfl,rfl⟩
theorem spanS_yes {p wid:Int} {root:Dg} {lo hi s:Bs} {ps:List Pr} (h:argsS p wid root=true) (hp:spanP p wid root lo hi s=some ps):errS p wid root lo hi s=0∧pairsS p wid root lo hi s=ps:=by unfold errS pairsS;rw [h,hp];exact ⟨rfl,rfl⟩
theorem ACalls.untagged {P:Program} {f:FuncId} {ds es:List D} {S:Sto} {R:AEnd→Sto→Prop} (h:ACalls P f ds S R) (he:untags es=ds):ACalls P f es S R:=⟨h.1,fun w xs hS hx=>h.2 w xs hS (he ▸ RVals.untag es xs hx)⟩
theorem untags_pr:∀ l:List Pr,untags (l.map prD)=l.map prD
 | []=>rfl
 | s::l=>by show untag (prD s)::untags (l.map prD)=_;rw [untags_pr l];rfl
theorem untag_ps (t:Tag) (ps:List Pr) (n:Int):untag (oneOf [.sl t (ps.map prD),iD n])=.tup [.sl .none (ps.map prD),iD n]:=by
 show D.tup (untags [.sl t (ps.map prD),iD n])=_
 simp only [untags,untag,untags_pr]

theorem aRCut (n:Nat) (d:Dg) (S:Sto) (h1:1≤n) (h2:n≤32):ACalls Tryz.prog 95 [iD n,.dg d] S (RetQ (.tup [.dg (Dg.cut n d),iD 0]) S):=
 ACalls.liftq (callable Tryz.func95 rfl (by kernel_rfl)) fun w xs hS hx=>by
  obtain ⟨x,ys,rfl,h3,h4⟩:=hx.cons
  obtain ⟨y,zs,rfl,h5,h6⟩:=h4.cons
  obtain rfl:=h6.nil
  obtain rfl:=h3.int
  obtain rfl:=h5.dig
  exact (rcut_any n d w h1 h2).mono fun e w' h=>⟨_,h.kp.1,h.kp.2,RVal.mk_tup (RVals.mk (by unfold RVal;rfl) (RVals.mk RVal.of_int RVals.mk0))⟩
theorem aRFits2 (n:Nat) (d:Dg) (S:Sto) (h1:1≤n) (h2:n≤32):ACalls Tryz.prog 69 [iD n,.dg d] S (RetQ (bD (fitB n d)) S):=by
 have c1:=fun S=>aRCut n d S h1 h2
 rw [show fitB n d=decide (Dg.cut n d=d) from by unfold fitB;rw [decide_eq_true (by omega:1≤(n:Int)∧(n:Int)≤32)];rfl]
 have z0:((0:Int) == 0)=true:=rfl
 refine acalls_of prg Tryz.func69 rfl (by kernel_rfl) (congrArg Array.toList Tryz.results69) Tryz.ntmps69 (fun B hB=>fA ?_)
 refine Wk Y0 ?_
 refine cQ (c1 _) ?_
 refine Wk Y0 ?_
 refine aL fun b5 k_b5 o_b5=>?_
 refine Wk (Yy k_b5 z0) ?_
 refine endq (S':=S) (sR Y0) (by rfl) (Sto.Sub.refl _).cons

theorem aRRead16 (p wid:Int) (root:Dg) (lo hi s:Bs) (S:Sto) (hs:s.length≤1048576) :
  ACalls Tryz.prog 39 [frD p wid,.dg root,sD lo,sD hi,sD s] S (RetQ (.tup [.sl .none ((pairsS p wid root lo hi s).map prD),iD (errS p wid root lo hi s)]) S):=by
 have c1:=fun S=>aRight p wid S
 cases hr:rightB p wid with
 | false=>
  obtain ⟨h1,h2⟩:=spanS_arg (lo:=lo) (hi:=hi) (s:=s) (show argsS p wid root=false by unfold argsS;rw [hr];rfl)
  rw [h1,h2]
  rw [hr] at c1
  refine acalls_of prg Tryz.func39 rfl (by kernel_rfl) (congrArg Array.toList Tryz.results39) Tryz.ntmps39 (fun B hB=>fA ?_)
  refine Wk Y0 ?_
  refine cQ (c1 _) ?_
  refine Wk Y0 ?_
  refine enduq (S':=S) (sR Y0) (by rfl) (Sto.Sub.refl _)
 | true=>
 have hr':=rightB_iff.1 hr
 rw [hr] at c1
 obtain ⟨wn,rfl⟩:=Int.eq_ofNat_of_zero_le (show 0≤wid by omega)
 have c2:=fun S=>aRFits2 wn root S (by omega) (by omega)
 cases hf:fitB wn root with
 | false=>
  obtain ⟨h1,h2⟩:=spanS_arg (lo:=lo) (hi:=hi) (s:=s) (show argsS p wn root=false by unfold argsS;rw [hr,hf];rfl)
  rw [h1,h2]
  rw [hf] at c2
  refine acalls_of prg Tryz.func39 rfl (by kernel_rfl) (congrArg Array.toList Tryz.results39) Tryz.ntmps39 (fun B hB=>fA ?_)
  refine Wk Y0 ?_
  refine cQ (c1 _) ?_
  refine Wk Y0 ?_
  refine cQ (c2 _) ?_
  refine Wk Y0 ?_
  refine enduq (S':=S) (sR Y0) (by rfl) (Sto.Sub.refl _)
 | true=>
 rw [hf] at c2
 have ha:argsS p wn root=true:=by unfold argsS;rw [hr,hf];rfl
 cases hsp:splitP s with
 | none=>
  obtain ⟨h1,h2⟩:=spanS_no (lo:=lo) (hi:=hi) (s:=s) ha (by unfold spanP;rw [hsp])
  rw [h1,h2]
  refine acalls_of prg Tryz.func39 rfl (by kernel_rfl) (congrArg Array.toList Tryz.results39) Tryz.ntmps39 (fun B hB=>fA ?_)
  refine Wk Y0 ?_
  refine cQ (c1 _) ?_
  refine Wk Y0 ?_
  refine cQ (c2 _) ?_
  refine Wk Y0 ?_
  refine cX (aRSplit s _ (by omega)) ?_
  rintro d S1 ⟨hd,rfl⟩
  unfold splitR at hd
  rw [hsp] at hd
  obtain ⟨c,k,hc,rfl⟩:=hd
  have z0:(c != 0)=true:=bne_iff_ne.2 hc
  refine Wk z0 ?_
  refine enduq (sR Y0) (by rfl) (Sto.Sub.refl _)
 | some fs=>
 have hsz:=splitP_shr hsp
 have hln:=splitP_len hsp
 have z0:((0:Int) != 0)=false:=rfl
 refine acalls_of prg Tryz.func39 rfl (by kernel_rfl) (congrArg Array.toList Tryz.results39) Tryz.ntmps39 (fun B hB=>fA ?_)
 refine Wk Y0 ?_
 refine cQ (c1 _) ?_
 refine Wk Y0 ?_
 refine cQ (c2 _) ?_
 refine Wk Y0 ?_
 refine cX (aRSplit s _ (by omega)) ?_
 rintro d S1 ⟨hd,rfl⟩
 unfold splitR at hd
 rw [hsp] at hd
 subst hd
 refine gG z0 ?_
 refine w6 ?_
 refine w3 ?_
 refine w3 ?_
 refine w4 ?_
 refine gG z0 ?_
 refine w6 ?_
 refine w9 ?_
 refine wa ?_
 refine w3 ?_
 refine w4 ?_
 apply AOps.goN prg 5;case run=>(simp only [go_sem,Int.reduceEq,Int.reduceLT,Int.reduceBEq,Int.reduceBNe,Int.reduceNe,Nat.reduceLeDiff,Nat.reduceAdd,Nat.reduceSub,Nat.reduceLT,Nat.reduceEqDiff,Nat.reduceBEq,Int.reduceLE,Int.reduceToNat];rfl)
 refine aB fun b k_b o_b=>?_
 have hb:getM ((b,124,srD p wn fs lo hi .nil [])::S1.bk) b=some (124,srD p wn fs lo hi .nil []):=by rw [getM_cons,if_pos rfl]
 have cN:=aRNode p wn lo hi hr 33 b [] 0 true root none none fs [] .nil ⟨(b,124,srD p wn fs lo hi .nil [])::S1.bk,S1.ow⟩ S1.ow hb rfl rfl (fun x hx=>Nat.le_trans (hsz x hx) hs) (by simp only [List.length_nil];omega) (G1.nil _ _ _)
 have cN:=cN.untagged (es:=[pD b,.agg [.sl .nil [],.v (.int .u32 0),.dg root,sD [],sD [],bD false,bD false]]) rfl
 have hset:∀ X,setM ((b,124,srD p wn fs lo hi .nil [])::S1.bk) b X=(b,124,X)::S1.bk:=fun X=>by rw [setM_cons,if_pos rfl]
 refine Wk Y0 ?_
 cases hN:nodeR p wn lo hi 33 true root none none fs with
 | none=>
  obtain ⟨h1,h2⟩:=spanS_no (lo:=lo) (hi:=hi) (s:=s) ha (by unfold spanP;rw [hsp];simp only [hN])
  rw [h1,h2]
  rw [hN] at cN
  refine wpc (c:=by exact cN) (k:=fun d S' h=>?_) (p:=fun d S' h=>by obtain ⟨h1,_⟩:=h;cases h1)
  obtain ⟨h1,l',ps',tp',h2,h3⟩:=h
  simp only [AEnd.ret.injEq] at h1
  subst h1
  obtain ⟨bk',ow'⟩:=S'
  simp only [hset] at h2
  subst h2
  refine Wk Y0 ?_
  refine enduq (S':=S1) (sR Y0) (by rfl) ⟨(List.Sublist.refl _).cons _,h3⟩
 | some r=>
  obtain ⟨l',ps⟩:=r
  rw [hN] at cN
  refine wpc (c:=by exact cN) (k:=fun d S' h=>?_) (p:=fun d S' h=>by obtain ⟨h1,_⟩:=h;cases h1)
  obtain ⟨h1,tp',h2,h3⟩:=h
  simp only [AEnd.ret.injEq] at h1
  subst h1
  obtain ⟨bk',ow'⟩:=S'
  simp only [hset,List.nil_append] at h2 h3
  subst h2
  by_cases hl:0<l'.length
  ·obtain ⟨h1,h2⟩:=spanS_no (lo:=lo) (hi:=hi) (s:=s) ha (by unfold spanP;rw [hsp];simp only [hN];cases l' with | nil=>simp at hl | cons x l=>rfl)
   rw [h1,h2]
   have z1:decide ((l'.length:Int) > 0)=true:=decide_eq_true (by omega)
   refine Wk z1 ?_
   refine enduq (S':=S1) (sR Y0) (by rfl) ⟨(List.Sublist.refl _).cons _,h3.sub⟩
  ·obtain rfl:l'=[]:=List.eq_nil_of_length_eq_zero (by omega)
   obtain ⟨h1,h2⟩:=spanS_yes (lo:=lo) (hi:=hi) (s:=s) ha (show spanP p wn root lo hi s=some ps by unfold spanP;rw [hsp];simp only [hN])
   rw [h1,h2]
   have z1:decide ((0:Int) > 0)=false:=by decide
   refine Wk z1 ?_
   refine enduq (S':=S1) (sR Y0) (untag_ps _ _ _) ⟨(List.Sublist.refl _).cons _,h3.sub⟩


theorem aSRec0 (S:Sto) (b10 b11:Nat):ADefer Tryz.prog 50 [pD b10,pD b11] S .returning (fun u S'=>settle u=.returning∧S'=S):=by
 refine (adefer_rec prg Tryz.func50 rfl (by kernel_rfl) rfl rfl rfl rfl rfl rfl (congrArg Array.toList Tryz.results50) Tryz.ntmps50 (x:=.nilIface) (u':=.returning) (.inl ⟨rfl,rfl,rfl⟩) rfl (by decide) (R:=fun S'=>S'=S) (fun B hB=>?_)).mono (fun u S' h=>⟨by rw [h.1];rfl,h.2⟩)
 simp only [List.length_cons,List.length_nil,Nat.reduceAdd,Nat.reduceSub,List.replicate_succ,List.replicate_zero,List.cons_append,List.nil_append]
 refine Wk Y0 ?_
 refine rX ?_
 rfl
theorem aSRec1 (S:Sto) (b10 b11:Nat) (t:Tag) (es:List D) (e:Int) (h10:getM S.bk b10=some (46,.sl t es)) (h11:getM S.bk b11=some (32,iD e)) (n1:¬ b11=b10) :
  ADefer Tryz.prog 50 [pD b10,pD b11] S (.panicking [{ v:=.iface 101 (.agg #[]),recovered:=false }]) (fun u S'=>settle u=.returning∧S'=⟨setM (setM S.bk b10 (.sl .nil [])) b11 (iD 150),S.ow⟩):=by
 refine (adefer_rec prg Tryz.func50 rfl (by kernel_rfl) rfl rfl rfl rfl rfl rfl (congrArg Array.toList Tryz.results50) Tryz.ntmps50 (x:=.iface 101 (.agg #[])) (u':=.panicking [{ v:=.iface 101 (.agg #[]),recovered:=true }]) (.inr ⟨_,rfl,rfl,rfl⟩) rfl (by decide) (R:=fun S'=>S'=⟨setM (setM S.bk b10 (.sl .nil [])) b11 (iD 150),S.ow⟩) (fun B hB=>?_)).mono (fun u S' h=>⟨by rw [h.1];rfl,h.2⟩)
 simp only [List.length_cons,List.length_nil,Nat.reduceAdd,Nat.reduceSub,List.replicate_succ,List.replicate_zero,List.cons_append,List.nil_append]
 refine Wk Y0 ?_
 refine aL fun b3 k_b3 o_b3=>?_
 have m10:=getM_ne h10 k_b3
 have m11:=getM_ne h11 k_b3
 have q1:∀ bk x,getM (setM bk b10 x) b11=getM bk b11:=fun _ _=>getM_setM_ne n1
 refine Wk (Yy k_b3 (Yy m10 (Yy m11 (Yy h10 (Yy h11 q1))))) ?_
 (try dsimp only [AX.then,AX.inBlock,AX.noGoto])
 refine endnx (S':=⟨setM (setM S.bk b10 (.sl .nil [])) b11 (iD 150),S.ow⟩) (sR Y0) (by rfl) ?_ rfl
 exact (Sto.Sub.refl _).cons
theorem sread_pan {A:List D} {S:Sto} {ow:List (Nat×Nat)} {b10 b11 b14:Nat} {d14:D} (k1:¬ b11=b10) (k4:¬ b14=b11∧¬ b14=b10) (hsub:List.Sublist S.ow ow) (h10:A.getD 10 .any=pD b10) (h11:A.getD 11 .any=pD b11) :
  EndD Tryz.prog tys [.cell 10 46,.cell 11 32] 50 [.pointer (some ⟨b10,0,none⟩),.pointer (some ⟨b11,0,none⟩)] (RetQ (.tup [.sl .none [],iD 150]) S) (.panic badD) A ⟨(b14,105,d14)::(b11,32,iD 0)::(b10,46,.sl .nil [])::S.bk,ow⟩:=by
 have n1:=nes k1
 have n2:=nes k4.1
 have n3:=nes k4.2
 have e10:getM ((b14,105,d14)::(b11,32,iD 0)::(b10,46,D.sl .nil [])::S.bk) b10=some (46,.sl .nil []):=by rw [getM_cons,if_neg n3,getM_cons,if_neg n1,getM_cons,if_pos rfl]
 have e11:getM ((b14,105,d14)::(b11,32,iD 0)::(b10,46,D.sl .nil [])::S.bk) b11=some (32,iD 0):=by rw [getM_cons,if_neg n2,getM_cons,if_pos rfl]
 refine ⟨_,rfl,(aSRec1 ⟨(b14,105,d14)::(b11,32,iD 0)::(b10,46,.sl .nil [])::S.bk,ow⟩ b10 b11 .nil [] 0 e10 e11 k1).mono (fun u S' h=>⟨h.1,?_⟩)⟩
 obtain ⟨_,rfl⟩:=h
 refine ⟨[.sl .nil [],iD 150],_,S,?_,.inr rfl,?_,rfl,rfl⟩
 ·simp only [go_sem,Int.reduceEq,Int.reduceLT,Int.reduceBEq,Int.reduceBNe,Int.reduceNe,Nat.reduceLeDiff,Nat.reduceAdd,Nat.reduceSub,Nat.reduceLT,Nat.reduceEqDiff,Nat.reduceBEq,Int.reduceLE,Int.reduceToNat,h10,h11,n1,n2,n3,k1,k4]
 ·simp only [setM_cons,n1,n2,n3,k1,k4,if_true,if_false]
  exact ⟨((List.Sublist.refl _).cons _).cons _ |>.cons _,hsub⟩
theorem sread_ret {A:List D} {S:Sto} {ow:List (Nat×Nat)} {b10 b11 b14:Nat} {d14:D} {t:Tag} {ps:List Pr} (k1:¬ b11=b10) (k4:¬ b14=b11∧¬ b14=b10) (hsub:List.Sublist S.ow ow) (h10:A.getD 10 .any=pD b10) (h11:A.getD 11 .any=pD b11) :
  EndD Tryz.prog tys [.cell 10 46,.cell 11 32] 50 [.pointer (some ⟨b10,0,none⟩),.pointer (some ⟨b11,0,none⟩)] (RetQ (.tup [.sl .none (ps.map prD),iD 0]) S) .ret A ⟨(b14,105,d14)::(b11,32,iD 0)::(b10,46,.sl t (ps.map prD))::S.bk,ow⟩:=by
 have n1:=nes k1
 have n2:=nes k4.1
 have n3:=nes k4.2
 refine (aSRec0 _ b10 b11).mono (fun u S' h=>⟨h.1,?_⟩)
 obtain ⟨_,rfl⟩:=h
 refine ⟨[.sl t (ps.map prD),iD 0],_,S,?_,.inr (untag_ps t ps 0).symm,?_,rfl,rfl⟩
 ·simp only [go_sem,Int.reduceEq,Int.reduceLT,Int.reduceBEq,Int.reduceBNe,Int.reduceNe,Nat.reduceLeDiff,Nat.reduceAdd,Nat.reduceSub,Nat.reduceLT,Nat.reduceEqDiff,Nat.reduceBEq,Int.reduceLE,Int.reduceToNat,h10,h11,n1,n2,n3,k1,k4]
 ·exact ⟨((List.Sublist.refl _).cons _).cons _ |>.cons _,hsub⟩

theorem aSRead (p wid:Int) (root:Dg) (lo hi s:Bs) (S:Sto) (hs:s.length≤1048576) :
  ACalls Tryz.prog 21 [frD p wid,.dg root,sD lo,sD hi,sD s] S (RetQ (.tup [.sl .none ((pairsS p wid root lo hi s).map prD),iD (errS p wid root lo hi s)]) S):=by
 refine acalls_of_defer prg Tryz.func21 rfl (by kernel_rfl) (congrArg Array.toList Tryz.results21) Tryz.ntmps21 (fun B Z hB hQ hD=>?_)
 simp only [List.length_cons,List.length_nil,Nat.reduceAdd,Nat.reduceSub,List.replicate_succ,List.replicate_zero,List.cons_append,List.nil_append]
 refine AWD.seq hQ ?_
 refine w4 ?_
 refine gG Y0 ?_
 refine aL fun b10 k_b10 o_b10=>?_
 refine gG Y0 ?_
 refine aL fun b11 k_b11 o_b11=>?_
 refine gG Y0 ?_
 refine w6 ?_
 have n1:=nes k_b11.1
 have c1:=fun S=>aNRight p wid S
 have c2:=fun S=>aFits wid root S
 refine AWD.seq hQ ?_
 cases hr:rightB p wid with
 | false=>
  obtain ⟨h1,h2⟩:=spanS_arg (lo:=lo) (hi:=hi) (s:=s) (show argsS p wid root=false by unfold argsS;rw [hr];rfl)
  rw [h1,h2]
  rw [hr] at c1
  refine Wk Y0 ?_
  refine cQ (c1 _) ?_
  refine Wk (Yy k_b11 n1) ?_
  (try dsimp only [AX.then,AX.inBlock,AX.noGoto])
  refine enduq (S':=S) (sR (Yy k_b11 n1)) (by rfl) (Sto.Sub.refl _).cons.cons
 | true=>
 rw [hr] at c1
 cases hf:fitB wid root with
 | false=>
  obtain ⟨h1,h2⟩:=spanS_arg (lo:=lo) (hi:=hi) (s:=s) (show argsS p wid root=false by unfold argsS;rw [hr,hf];rfl)
  rw [h1,h2]
  rw [hf] at c2
  refine Wk Y0 ?_
  refine cQ (c1 _) ?_
  refine Wk Y0 ?_
  refine cQ (c2 _) ?_
  refine Wk (Yy k_b11 n1) ?_
  (try dsimp only [AX.then,AX.inBlock,AX.noGoto])
  refine enduq (S':=S) (sR (Yy k_b11 n1)) (by rfl) (Sto.Sub.refl _).cons.cons
 | true=>
 rw [hf] at c2
 have ha:argsS p wid root=true:=by unfold argsS;rw [hr,hf];rfl
 refine Wk Y0 ?_
 refine cQ (c1 _) ?_
 refine Wk Y0 ?_
 refine cQ (c2 _) ?_
 refine Wk Y0 ?_
 refine AWD.seq hQ ?_
 refine Wk Y0 ?_
 refine cX (aSplit s _ (by omega)) ?_
 rintro d S1 ⟨hd,rfl⟩
 unfold splitD at hd
 cases hsp:splitP s with
 | none=>
  obtain ⟨h1,h2⟩:=spanS_no (lo:=lo) (hi:=hi) (s:=s) ha (by unfold spanP;rw [hsp])
  rw [h1,h2]
  rw [hsp] at hd
  obtain ⟨x,y,rfl⟩:=hd
  refine Wk Y0 ?_
  refine AWD.seq hQ ?_
  refine Wk (Yy k_b11 n1) ?_
  (try dsimp only [AX.then,AX.inBlock,AX.noGoto])
  refine enduq (S':=S) (sR (Yy k_b11 n1)) (by rw [h1,h2];rfl) (Sto.Sub.refl _).cons.cons
 | some fs=>
 rw [hsp] at hd
 subst hd
 have hsz:=splitP_shr hsp
 have hln:=splitP_len hsp
 refine Wk Y0 ?_
 refine AWD.seq hQ ?_
 refine Wk Y0 ?_
 refine AWD.put_off prg (f:=50) (caps:=#[.pointer (some ⟨b10,0,none⟩),.pointer (some ⟨b11,0,none⟩)]) (by (simp only [go_sem,Int.reduceEq,Int.reduceLT,Int.reduceBEq,Int.reduceBNe,Int.reduceNe,Nat.reduceLeDiff,Nat.reduceAdd,Nat.reduceSub,Nat.reduceLT,Nat.reduceEqDiff,Nat.reduceBEq,Int.reduceLE,Int.reduceToNat];try rfl)) rfl rfl rfl (by (simp only [go_sem,Int.reduceEq,Int.reduceLT,Int.reduceBEq,Int.reduceBNe,Int.reduceNe,Nat.reduceLeDiff,Nat.reduceAdd,Nat.reduceSub,Nat.reduceLT,Nat.reduceEqDiff,Nat.reduceBEq,Int.reduceLE,Int.reduceToNat];try rfl)) ?_
 rw [hB]
 refine AWD.of (hD _ _ (by simp [Value.oneCell'])) ?_
 refine w3 ?_
 refine w4 ?_
 apply AOps.goN prg 5;case run=>(simp only [go_sem,Int.reduceEq,Int.reduceLT,Int.reduceBEq,Int.reduceBNe,Int.reduceNe,Nat.reduceLeDiff,Nat.reduceAdd,Nat.reduceSub,Nat.reduceLT,Nat.reduceEqDiff,Nat.reduceBEq,Int.reduceLE,Int.reduceToNat];rfl)
 refine aB fun b14 k_b14 o_b14=>?_
 have n2:=nes k_b14.1
 have n3:=nes k_b14.2.1
 have hb:getM ((b14,105,srD p wid fs lo hi .nil [])::(b11,32,iD 0)::(b10,46,D.sl .nil [])::S.bk) b14=some (105,srD p wid fs lo hi .nil []):=by rw [getM_cons,if_pos rfl]
 have cN:=aSNode p wid lo hi hr 33 b14 0 true root none none fs [] .nil ⟨(b14,105,srD p wid fs lo hi .nil [])::(b11,32,iD 0)::(b10,46,D.sl .nil [])::S.bk,S.ow⟩ S.ow hb rfl rfl (fun x hx=>Nat.le_trans (hsz x hx) hs) (by simp only [List.length_nil];omega) (G1.nil _ _ _)
 have hset:∀ X,setM ((b14,105,srD p wid fs lo hi .nil [])::(b11,32,iD 0)::(b10,46,D.sl .nil [])::S.bk) b14 X=(b14,105,X)::(b11,32,iD 0)::(b10,46,D.sl .nil [])::S.bk:=fun X=>by rw [setM_cons,if_pos rfl]
 refine Wk (Yy k_b14 (Yy k_b11 (Yy n1 (Yy n2 n3)))) ?_
 cases hN:nodeR p wid lo hi 33 true root none none fs with
 | none=>
  obtain ⟨h1,h2⟩:=spanS_no (lo:=lo) (hi:=hi) (s:=s) ha (by unfold spanP;rw [hsp];simp only [hN])
  rw [h1,h2]
  rw [hN] at cN
  refine wpc (c:=by exact cN) (k:=fun d S' h=>by obtain ⟨h1,_⟩:=h;cases h1) (p:=fun d S' h=>?_)
  obtain ⟨h1,l',ps',tp',h2,h3⟩:=h
  simp only [AEnd.pan.injEq] at h1
  subst h1
  obtain ⟨bk',ow'⟩:=S'
  simp only [hset] at h2
  subst h2
  (try dsimp only [AX.then,AX.inBlock,AX.noGoto])
  exact sread_pan k_b11.1 ⟨k_b14.1,k_b14.2.1⟩ h3 rfl rfl
 | some r=>
  obtain ⟨l',ps⟩:=r
  rw [hN] at cN
  refine wpc (c:=by exact cN) (k:=fun d S' h=>?_) (p:=fun d S' h=>by obtain ⟨h1,_⟩:=h;cases h1)
  obtain ⟨h1,tp',h2,h3⟩:=h
  simp only [AEnd.ret.injEq] at h1
  subst h1
  obtain ⟨bk',ow'⟩:=S'
  simp only [hset,List.nil_append] at h2 h3
  subst h2
  by_cases hl:0<l'.length
  ·obtain ⟨h1,h2⟩:=spanS_no (lo:=lo) (hi:=hi) (s:=s) ha (by unfold spanP;rw [hsp];simp only [hN];cases l' with | nil=>simp at hl | cons x l=>rfl)
   rw [h1,h2]
   have z1:((l'.length:Int) == 0)=false:=by rw [beq_eq_false_iff_ne];omega
   refine Wk (Yy k_b14 (Yy k_b11 (Yy n1 (Yy n2 (Yy n3 z1))))) ?_
   refine wpx (c:=by exact (aSMustF b14 _)) (k:=?_)
   (try dsimp only [AX.then,AX.inBlock,AX.noGoto])
   exact sread_pan k_b11.1 ⟨k_b14.1,k_b14.2.1⟩ h3.sub rfl rfl
  ·obtain rfl:l'=[]:=List.eq_nil_of_length_eq_zero (by omega)
   obtain ⟨h1,h2⟩:=spanS_yes (lo:=lo) (hi:=hi) (s:=s) ha (show spanP p wid root lo hi s=some ps by unfold spanP;rw [hsp];simp only [hN])
   rw [h1,h2]
   have z1:((0:Int) == 0)=true:=rfl
   refine Wk (Yy k_b14 (Yy k_b11 (Yy n1 (Yy n2 (Yy n3 z1))))) ?_
   refine cQ (aSMustT b14 _) ?_
   refine Wk (Yy k_b14 (Yy k_b11 (Yy n1 (Yy n2 n3)))) ?_
   (try dsimp only [AX.then,AX.inBlock,AX.noGoto])
   exact sread_ret k_b11.1 ⟨k_b14.1,k_b14.2.1⟩ h3.sub rfl rfl


theorem untag_ns (t:Tag) (l:List Nat):untag (oneOf [.sl t (l.map natD)])=.sl .none (l.map natD):=by
 show untag (.sl t (l.map natD))=_
 simp only [untag,untags_nat]
theorem aKids (n:Nd) (lo hi:Bs) (S:Sto) (ho:NdOk n) (hk:n.kids.length≤n.seps.length+1) (hk2:n.kids.length≤100000000):ACalls Tryz.prog 44 [ndA n,sD lo,sD hi] S (RetQ (.sl .none ((kidsL lo hi n).map natD)) S):=by
 have hns:=ho.ns
 refine acalls_of prg Tryz.func44 rfl (by kernel_rfl) (congrArg Array.toList Tryz.results44) Tryz.ntmps44 (fun B hB=>fA ?_)
 refine Wk Y0 ?_
 refine AW.loopS 9 [7,8,10,11,12] (fun xs S'=>∃ (i:Nat) (tg:Tag) (ow:List (Nat×Nat)),xs=[.sl tg ((((List.range n.kids.length).take i).filter (mayK lo hi n)).map natD),.any,.sl .none (n.kids.map kdD),iD n.kids.length,iD i]∧S'=⟨S.bk,ow⟩∧i≤n.kids.length∧G1 S.ow ow 3 1 tg ((((List.range n.kids.length).take i).filter (mayK lo hi n)).map natD)) (fun xs _=>n.kids.length - nI (xs.getD 4 .any)) [.sl .nil [],.any,.sl .none (n.kids.map kdD),iD n.kids.length,iD 0] _ ?_ (Sto.Sub.refl _) ⟨0,.nil,S.ow,rfl,rfl,by omega,G1.nil _ _ _⟩ ?_
 ·exact wK
 rintro xs S' ⟨i,tg,ow,rfl,rfl,hile,hg⟩
 refine fR ?_
 by_cases hlt:i<n.kids.length
 ·have d1:decide ((i:Int)<n.kids.length)=true:=decide_eq_true (by omega)
  have f1:IntKind.i64.wrap ((i:Int)+1)=((i+1:Nat):Int):=IntWalk.i64_in _ (by omega)
  have cM:=fun S=>aCMay n i lo hi S (by omega) (by omega)
  have htk:((List.range n.kids.length).take (i+1)).filter (mayK lo hi n)=((List.range n.kids.length).take i).filter (mayK lo hi n)++(if mayK lo hi n i=true then [i] else []):=by
   rw [List.take_add_one,List.getElem?_range hlt,List.filter_append]
   cases h:mayK lo hi n i <;> simp [h]
  have hlen:(((List.range n.kids.length).take i).filter (mayK lo hi n)).length≤100000000:=Nat.le_trans (List.length_filter_le _ _) (by rw [List.length_take];omega)
  generalize ((List.range n.kids.length).take i).filter (mayK lo hi n)=out at hg htk hlen ⊢
  cases hm:mayK lo hi n i with
  | false=>
   rw [hm] at cM htk
   rw [if_neg (by simp),List.append_nil] at htk
   refine Wk d1 ?_
   refine cQ (cM _) ?_
   refine Wk f1 ?_
   refine ⟨[.sl tg (out.map natD),.any,.sl .none (n.kids.map kdD),iD n.kids.length,iD (i+1:Nat)],⟨S.bk,ow⟩,?_,Sto.Sub.refl _,⟨i+1,tg,ow,by rw [htk],rfl,by omega,by rw [htk];exact hg⟩,?_⟩
   ·exact wK
   ·exact mE
  | true=>
   rw [hm] at cM htk
   rw [if_pos rfl] at htk
   refine Wk d1 ?_
   refine cQ (cM _) ?_
   refine Wk Y0 ?_
   refine wap 3 1 8 ?_ ?_ ?_ (fun g _ hgo=>?_)
   ·exact sz_map (f:=natD) (fun _=>rfl) (fun d hd=>by simp only [List.mem_singleton] at hd;subst hd;rfl)
   ·exact hg.may
   ·rw [List.length_map];simp only [List.length_singleton];omega
   have hg3:=hg.add (ns:=[iD i]) hgo
   refine Wk f1 ?_
   refine ⟨[.sl (.own g 3 1) (out.map natD++[iD i]),.any,.sl .none (n.kids.map kdD),iD n.kids.length,iD (i+1:Nat)],⟨S.bk,(g,(out.map natD++[iD i]).length*1)::dropTok tg ow⟩,?_,Sto.Sub.refl _,⟨i+1,.own g 3 1,_,by rw [htk,List.map_append];rfl,rfl,by omega,by rw [htk,List.map_append];exact hg3⟩,?_⟩
   ·exact wK
   ·exact mE
 obtain rfl:i=n.kids.length:=by omega
 have d1:decide ((n.kids.length:Int)<n.kids.length)=false:=decide_eq_false (by omega)
 have htl:(List.range n.kids.length).take n.kids.length=List.range n.kids.length:=List.take_of_length_le (by simp)
 rw [htl] at hg ⊢
 refine Wk d1 ?_
 refine enduq (S':=S) (sR Y0) (untag_ns _ _) ⟨List.Sublist.refl _,hg.sub⟩


theorem aSForms (p wid:Int) (s:Bs) (fs:List Bs) (S:Sto) (hs:s.length≤1048576) (hr:rightB p wid=true) (hsp:splitP s=some fs) (h0:0<fs.length) (hall:∀ x∈fs,∃ n,readP p wid x=some n) :
  ACalls Tryz.prog 36 [frD p wid,sD s] S (RetQ (.tup [.sl .none (fs.map sD),iD 0]) S):=by
 have c1:=fun S=>aNRight p wid S
 rw [hr] at c1
 have hsz:=splitP_shr hsp
 have hln:=splitP_len hsp
 have z0:((fs.length:Int) == 0)=false:=by rw [beq_eq_false_iff_ne];omega
 have z1:((0:Int) != 0)=false:=rfl
 refine acalls_of prg Tryz.func36 rfl (by kernel_rfl) (congrArg Array.toList Tryz.results36) Tryz.ntmps36 (fun B hB=>fA ?_)
 refine Wk Y0 ?_
 refine cQ (c1 _) ?_
 refine Wk Y0 ?_
 refine cX (aSplit s _ (by omega)) ?_
 rintro d S1 ⟨hd,rfl⟩
 unfold splitD at hd
 rw [hsp] at hd
 subst hd
 refine Wk z0 ?_
 refine AW.loopS 12 [9,10,11,27,28,29] (fun xs S'=>∃ i:Nat,xs=[.any,.any,.any,.sl .none (fs.map sD),iD fs.length,iD i]∧S'=S1∧i≤fs.length) (fun xs _=>fs.length - nI (xs.getD 5 .any)) [.any,.any,.any,.sl .none (fs.map sD),iD fs.length,iD 0] S1 ?_ (Sto.Sub.refl _) ⟨0,rfl,rfl,by omega⟩ ?_
 ·exact wK
 rintro xs S' ⟨i,rfl,rfl,hile⟩
 refine fR ?_
 by_cases hlt:i<fs.length
 ·obtain ⟨x,hx⟩:∃ x,fs[i]?=some x:=⟨_,List.getElem?_eq_getElem hlt⟩
  obtain ⟨n,hn⟩:=hall x (List.mem_of_getElem? hx)
  have hxs:=hsz x (List.mem_of_getElem? hx)
  have cR:∀ S,ACalls Tryz.prog 58 [frD p wid,sD x] S (RetQ (.tup [ndA n,iD 0]) S):=fun S=>by have:=aNRead p wid x S (by omega);rw [hn] at this;exact this
  have d1:decide ((i:Int)<fs.length)=true:=decide_eq_true (by omega)
  have gx:(fs.map sD)[i]?=some (sD x):=by rw [List.getElem?_map,hx];rfl
  have g0:(0:Int)≤i:=by omega
  have f1:IntKind.i64.wrap ((i:Int)+1)=((i+1:Nat):Int):=IntWalk.i64_in _ (by omega)
  refine Wk (Yy d1 (Yy gx (Yy g0 Int.toNat_natCast))) ?_
  refine cQ (cR _) ?_
  refine Wk Y0 ?_
  refine aL fun b10 k_b10 o_b10=>?_
  refine Wk (Yy k_b10 (Yy z1 f1)) ?_
  refine ⟨[.any,.any,.any,.sl .none (fs.map sD),iD fs.length,iD (i+1:Nat)],S',?_,(Sto.Sub.refl _).cons,⟨i+1,rfl,rfl,by omega⟩,?_⟩
  ·exact wK
  ·exact mE
 obtain rfl:i=fs.length:=by omega
 have d1:decide ((fs.length:Int)<fs.length)=false:=decide_eq_false (by omega)
 refine Wk d1 ?_
 exact rE

def skipK (f:List Bs→Option (List Bs)):List Nat→List Bs→Option (List Bs)
 | [],l=>some l
 | _::is,l=>match f l with
  | none=>none
  | some l'=>skipK f is l'
def skipR (p wid:Int) (lo hi:Bs):Nat→List Bs→Option (List Bs)
 | 0,_=>none
 | _+1,[]=>none
 | d+1,x::l=>match readP p wid x with
  | none=>none
  | some n=>skipK (skipR p wid lo hi d) (kidsL lo hi n) l
theorem skipR_succ {p wid:Int} {lo hi:Bs} {d:Nat} {x:Bs} {l:List Bs}:skipR p wid lo hi (d+1) (x::l)=match readP p wid x with
  | none=>none
  | some n=>skipK (skipR p wid lo hi d) (kidsL lo hi n) l:=rfl
theorem skipR_nil {p wid:Int} {lo hi:Bs} {d:Nat}:skipR p wid lo hi d []=none:=by cases d <;> rfl
theorem skipK_suf {f:List Bs→Option (List Bs)} (hf:∀ l l',f l=some l'→∃ c,l=c++l'):∀ (is:List Nat) (l l':List Bs),skipK f is l=some l'→∃ c,l=c++l'
 | [],l,l',h=>by simp only [skipK,Option.some.injEq] at h;exact ⟨[],by simp [h]⟩
 | i::is,l,l',h=>by
  unfold skipK at h
  cases h1:f l with
  | none=>rw [h1] at h;cases h
  | some l1=>
   rw [h1] at h
   obtain ⟨c1,rfl⟩:=hf _ _ h1
   obtain ⟨c2,rfl⟩:=skipK_suf hf is _ _ h
   exact ⟨c1++c2,by simp⟩
theorem skipR_suf {p wid:Int} {lo hi:Bs}:∀ (d:Nat) (l l':List Bs),skipR p wid lo hi d l=some l'→∃ c,l=c++l'
 | 0,_,_,h=>by cases h
 | _+1,[],_,h=>by cases h
 | d+1,x::l,l',h=>by
  rw [skipR_succ] at h
  cases hn:readP p wid x with
  | none=>rw [hn] at h;cases h
  | some n=>
   rw [hn] at h
   obtain ⟨c,rfl⟩:=skipK_suf (fun l l' h=>skipR_suf d l l' h) _ _ _ h
   exact ⟨x::c,rfl⟩
theorem kids_skip {f:Nat→List Bs→Option (List Bs×List Pr)} {g:List Bs→Option (List Bs)} (hf:∀ i l l' ps,f i l=some (l',ps)→g l=some l'):∀ (is:List Nat) (l l':List Bs) (ps:List Pr),kidsF f is l=some (l',ps)→skipK g is l=some l'
 | [],l,l',ps,h=>by simp only [kidsF,Option.some.injEq,Prod.mk.injEq] at h;simp [skipK,h.1]
 | i::is,l,l',ps,h=>by
  unfold kidsF at h
  unfold skipK
  cases h1:f i l with
  | none=>rw [h1] at h;cases h
  | some r=>
   obtain ⟨l1,p1⟩:=r
   rw [h1] at h
   obtain ⟨⟨l2,p2⟩,h2,h3⟩:=Option.map_eq_some_iff.1 h
   simp only [Prod.mk.injEq] at h3
   obtain ⟨rfl,rfl⟩:=h3
   rw [hf _ _ _ _ h1]
   exact kids_skip hf is _ _ _ h2
theorem node_skip {p wid:Int} {lo hi:Bs}:∀ (d:Nat) (first:Bool) (sum:Dg) (low high:Option Bs) (l l':List Bs) (ps:List Pr),nodeR p wid lo hi d first sum low high l=some (l',ps)→skipR p wid lo hi d l=some l'
 | 0,_,_,_,_,_,_,_,h=>by cases h
 | _+1,_,_,_,_,[],_,_,h=>by cases h
 | d+1,first,sum,low,high,x::l,l',ps,h=>by
  rw [nodeR_succ] at h
  rw [skipR_succ]
  cases hn:readP p wid x with
  | none=>rw [hn] at h;cases h
  | some n=>
   rw [hn] at h
   simp only [] at h ⊢
   split at h
   ·obtain ⟨⟨l1,p1⟩,h2,h3⟩:=Option.map_eq_some_iff.1 h
    simp only [Prod.mk.injEq] at h3
    obtain ⟨rfl,rfl⟩:=h3
    exact kids_skip (fun i l l' ps h=>node_skip d _ _ _ _ l l' ps h) _ _ _ _ h2
   ·cases h

theorem suf_drop {F c l:List Bs} {a:Nat} (h:F.drop a=c++l):F.drop (F.length - l.length)=l:=by
 have hlen:F.length - a=c.length+l.length:=by have:=congrArg List.length h;simpa using this
 by_cases hl:l=[]
 ·subst hl;simp
 have hl':0<l.length:=List.length_pos_iff.2 hl
 rw [show F.length - l.length=a+c.length by omega,← List.drop_drop,h,List.drop_left]
@[go_sem] def gvD (p wid:Int) (F:List Bs) (lo hi:Bs):D:=.agg [frD p wid,.sl .none (F.map sD),sD lo,sD hi]
theorem aPast (p wid:Int) (lo hi:Bs) (F:List Bs) (hF:F.length≤1000000000) (hsz:∀ x∈F,x.length≤1048576):∀ (d a:Nat) (l':List Bs) (S:Sto),skipR p wid lo hi d (F.drop a)=some l' →
  ACalls Tryz.prog 68 [.pt (gvD p wid F lo hi),iD a] S (RetQ (iD (F.length - l'.length:Nat)) S):=by
 intro d
 induction d with
 | zero=>intro a l' S h;cases h
 | succ d ih=>
 intro a l' S h
 have ha:a<F.length:=Classical.byContradiction fun q=>by rw [List.drop_eq_nil_of_le (by omega),skipR_nil] at h;cases h
 obtain ⟨x,hx⟩:∃ x,F[a]?=some x:=⟨_,List.getElem?_eq_getElem ha⟩
 have hdr:F.drop a=x::F.drop (a+1):=by
  rw [List.drop_eq_getElem_cons ha];congr 1;exact Option.some.inj ((List.getElem?_eq_getElem ha).symm.trans hx)
 rw [hdr,skipR_succ] at h
 cases hn:readP p wid x with
 | none=>rw [hn] at h;cases h
 | some n=>
 rw [hn] at h
 have h:skipK (skipR p wid lo hi d) (kidsL lo hi n) (F.drop (a+1))=some l':=h
 have hxs:=hsz x (List.mem_of_getElem? hx)
 have ho:NdOk n:=parseP_ok (by omega) (readP_ok hn).2.2
 have cR:∀ S,ACalls Tryz.prog 58 [frD p wid,sD x] S (RetQ (.tup [ndA n,iD 0]) S):=fun S=>by have:=aNRead p wid x S (by omega);rw [hn] at this;exact this
 have cK:=fun S=>aKids n lo hi S ho (read_kids hn) (by have:=(read_few hn).2;omega)
 have gx:(F.map sD)[a]?=some (sD x):=by rw [List.getElem?_map,hx];rfl
 have g0:(0:Int)≤a:=by omega
 have f1:IntKind.i64.wrap ((a:Int)+1)=((a+1:Nat):Int):=IntWalk.i64_in _ (by omega)
 obtain ⟨ks,hks⟩:∃ ks,kidsL lo hi n=ks:=⟨_,rfl⟩
 have hkl:ks.length≤8192:=by rw [← hks];unfold kidsL;exact Nat.le_trans (List.length_filter_le _ _) (by rw [List.length_range];exact (read_few hn).2)
 rw [hks] at cK h
 refine acalls_of prg Tryz.func68 rfl (by kernel_rfl) (congrArg Array.toList Tryz.results68) Tryz.ntmps68 (fun B hB=>fA ?_)
 refine Wk Y0 ?_
 refine vx ?_
 refine Wu (Yy gx (Yy g0 Int.toNat_natCast)) ?_
 refine cU (cR) ?_
 refine Wu Y0 ?_
 rintro b5 ⟨k_b5,o_b5⟩
 refine Wu k_b5 ?_
 refine Wk (Yy k_b5 f1) ?_
 refine cQ (cK _) ?_
 refine Wk k_b5 ?_
 refine AW.loopS 7 [1,34,35] (fun xs S'=>∃ (j a':Nat),xs=[iD a',iD ks.length,iD j]∧S'=⟨(b5,87,ndA n)::S.bk,S.ow⟩∧j≤ks.length∧a'≤F.length∧skipK (skipR p wid lo hi d) (ks.drop j) (F.drop a')=some l') (fun xs _=>ks.length - nI (xs.getD 2 .any)) [iD (a+1:Nat),iD ks.length,iD 0] _ ?_ (Sto.Sub.refl _) ⟨0,a+1,rfl,rfl,by omega,by omega,h⟩ ?_
 ·exact wK
 rintro xs S' ⟨j,a',rfl,rfl,hj,ha',hsk⟩
 refine fR ?_
 by_cases hlt:j<ks.length
 ·have d1:decide ((j:Int)<ks.length)=true:=decide_eq_true (by omega)
  have f2:IntKind.i64.wrap ((j:Int)+1)=((j+1:Nat):Int):=IntWalk.i64_in _ (by omega)
  rw [List.drop_eq_getElem_cons hlt,skipK] at hsk
  cases h1:skipR p wid lo hi d (F.drop a') with
  | none=>rw [h1] at hsk;cases hsk
  | some l1=>
   rw [h1] at hsk
   have hsk:skipK (skipR p wid lo hi d) (ks.drop (j+1)) l1=some l':=hsk
   have hlt2:a'<F.length:=Classical.byContradiction fun q=>by rw [List.drop_eq_nil_of_le (by omega),skipR_nil] at h1;cases h1
   obtain ⟨c,hc⟩:=skipR_suf d _ _ h1
   have hsd:=suf_drop hc
   have d2:decide ((a':Int)<F.length)=true:=decide_eq_true (by omega)
   have cP:=fun S=>ih a' l1 S h1
   refine Wk (Yy d1 d2) ?_
   refine cQ (cP _) ?_
   refine Wk f2 ?_
   refine ⟨[iD (F.length - l1.length:Nat),iD ks.length,iD (j+1:Nat)],_,?_,Sto.Sub.refl _,⟨j+1,F.length - l1.length,rfl,rfl,by omega,by omega,by rw [hsd];exact hsk⟩,?_⟩
   ·exact wK
   ·exact mE
 obtain rfl:j=ks.length:=by omega
 have d1:decide ((ks.length:Int)<ks.length)=false:=decide_eq_false (by omega)
 rw [List.drop_length,skipK,Option.some.injEq] at hsk
 have hend:F.length - l'.length=a':=by rw [← hsk,List.length_drop];omega
 rw [hend]
 refine Wk d1 ?_
 refine endq (S':=S) (sR Y0) (by rfl) (Sto.Sub.refl _).cons


def kidRest (f:List Bs→Option (List Bs)):List Nat→List Bs→Nat→Option (List Bs)
 | [],_,_=>none
 | j::is,l,i=>if j=i then some l else match f l with
  | none=>none
  | some l'=>kidRest f is l' i
def sideG (p wid:Int) (lo hi:Bs):Nat→List Bs→Sd
 | 0,_=>.nil
 | _+1,[]=>.nil
 | d+1,x::l=>.mk x (fun i=>if i∈kidsL lo hi (nodeOf p wid x) then 0 else 170) (fun i=>match kidRest (skipR p wid lo hi d) (kidsL lo hi (nodeOf p wid x)) l i with
  | some li=>sideG p wid lo hi d li
  | none=>.nil)
theorem sideG_succ {p wid:Int} {lo hi:Bs} {d:Nat} {x:Bs} {l:List Bs}:sideG p wid lo hi (d+1) (x::l)=.mk x (fun i=>if i∈kidsL lo hi (nodeOf p wid x) then 0 else 170) (fun i=>match kidRest (skipR p wid lo hi d) (kidsL lo hi (nodeOf p wid x)) l i with
  | some li=>sideG p wid lo hi d li
  | none=>.nil):=rfl
theorem kidRest_some {f:List Bs→Option (List Bs)} {i:Nat}:∀ {is:List Nat} {l l':List Bs},skipK f is l=some l'→i∈is→∃ li l2,kidRest f is l i=some li∧f li=some l2
 | [],_,_,_,h=>by cases h
 | j::is,l,l',h,hi=>by
  unfold skipK at h
  unfold kidRest
  cases h1:f l with
  | none=>rw [h1] at h;cases h
  | some l1=>
   rw [h1] at h
   by_cases hji:j=i
   ·rw [if_pos hji];exact ⟨l,l1,rfl,h1⟩
   ·rw [if_neg hji]
    have hi':i∈is:=by
     rcases List.mem_cons.1 hi with h2 | h2
     ·exact absurd h2.symm hji
     ·exact h2
    exact kidRest_some h hi'
theorem kidRest_none {f:List Bs→Option (List Bs)} {i:Nat}:∀ {is:List Nat} {l:List Bs},i ∉ is→kidRest f is l i=none
 | [],_,_=>rfl
 | j::is,l,hi=>by
  unfold kidRest
  rw [if_neg (fun h=>hi (by rw [h];simp))]
  cases h1:f l with
  | none=>rfl
  | some l1=>exact kidRest_none (fun h=>hi (List.mem_cons_of_mem _ h))
theorem side_ne {p wid:Int} {lo hi:Bs} {d:Nat} {l l2:List Bs} (h:skipR p wid lo hi d l=some l2):sideG p wid lo hi d l≠.nil:=by
 cases d with
 | zero=>cases h
 | succ d=>
  cases l with
  | nil=>cases h
  | cons x l=>rw [sideG_succ];intro h;cases h
abbrev sideV (p wid:Int) (F:List Bs) (lo hi x:Bs) (a:Nat):D:=.agg [sD x,.fn 67 [.pt (.pt (gvD p wid F lo hi)),.pt (iD a)]]
theorem aGSide (p wid:Int) (F:List Bs) (lo hi x:Bs) (a:Nat) (S:Sto) (hx:F[a]?=some x):ACalls Tryz.prog 37 [.pt (gvD p wid F lo hi),iD a] S (RetQ (sideV p wid F lo hi x a) S):=by
 have gx:(F.map sD)[a]?=some (sD x):=by rw [List.getElem?_map,hx];rfl
 have g0:(0:Int)≤a:=by omega
 refine acalls_of prg Tryz.func37 rfl (by kernel_rfl) (congrArg Array.toList Tryz.results37) Tryz.ntmps37 (fun B hB=>fA ?_)
 refine Wk Y0 ?_
 refine aL fun b4 k_b4 o_b4=>?_
 refine Wk (Yy gx (Yy g0 (Yy Int.toNat_natCast k_b4))) ?_
 refine endq (S':=S) (sR Y0) (by rfl) (Sto.Sub.refl _).cons

theorem aSideOk (p wid:Int) (lo hi:Bs) (F:List Bs) (hF:F.length≤1000000000) (hsz:∀ x∈F,x.length≤1048576):∀ (d a:Nat) (x:Bs) (l':List Bs),F[a]?=some x→skipR p wid lo hi d (F.drop a)=some l'→SideOk (sideG p wid lo hi d (F.drop a)) (sideV p wid F lo hi x a):=by
 intro d
 induction d with
 | zero=>intro a x l' hx h;cases h
 | succ d ih=>
 intro a x l' hx h
 have ha:a<F.length:=(List.getElem?_eq_some_iff.1 hx).1
 have hdr:F.drop a=x::F.drop (a+1):=by
  rw [List.drop_eq_getElem_cons ha];congr 1;exact Option.some.inj ((List.getElem?_eq_getElem ha).symm.trans hx)
 rw [hdr] at h ⊢
 rw [skipR_succ] at h
 rw [sideG_succ]
 cases hn:readP p wid x with
 | none=>rw [hn] at h;cases h
 | some n=>
 rw [hn] at h
 rw [nodeOf_some hn]
 have h:skipK (skipR p wid lo hi d) (kidsL lo hi n) (F.drop (a+1))=some l':=h
 have hxs:=hsz x (List.mem_of_getElem? hx)
 have ho:NdOk n:=parseP_ok (by omega) (readP_ok hn).2.2
 have cR:∀ S,ACalls Tryz.prog 58 [frD p wid,sD x] S (RetQ (.tup [ndA n,iD 0]) S):=fun S=>by have:=aNRead p wid x S (by omega);rw [hn] at this;exact this
 have cK:=fun S=>aKids n lo hi S ho (read_kids hn) (by have:=(read_few hn).2;omega)
 have gx:(F.map sD)[a]?=some (sD x):=by rw [List.getElem?_map,hx];rfl
 have g0:(0:Int)≤a:=by omega
 have f1:IntKind.i64.wrap ((a:Int)+1)=((a+1:Nat):Int):=IntWalk.i64_in _ (by omega)
 obtain ⟨ks,hks⟩:∃ ks,kidsL lo hi n=ks:=⟨_,rfl⟩
 have hkl:ks.length≤8192:=by rw [← hks];unfold kidsL;exact Nat.le_trans (List.length_filter_le _ _) (by rw [List.length_range];exact (read_few hn).2)
 rw [hks] at cK h ⊢
 refine ⟨hxs,fun i he=>?_,67,_,rfl,fun i S hi9=>?_⟩
 ·have hik:i∈ks:=Classical.byContradiction fun q=>by simp only [if_neg q] at he;cases he
  obtain ⟨li,l2,h1,h2⟩:=kidRest_some h hik
  simp only [h1]
  exact side_ne h2
 show ACalls Tryz.prog 67 [iD i,.pt (.pt (gvD p wid F lo hi)),.pt (iD a)] S _
 refine acalls_of prg Tryz.func67 rfl (by kernel_rfl) (congrArg Array.toList Tryz.results67) Tryz.ntmps67 (fun B hB=>fA ?_)
 refine Wk Y0 ?_
 refine aL fun b4 k_b4 o_b4=>?_
 refine Wk Y0 ?_
 refine vx ?_
 refine Wu (Yy gx (Yy g0 (Yy Int.toNat_natCast k_b4))) ?_
 refine cU (cR) ?_
 refine Wu Y0 ?_
 rintro b6 ⟨k_b6,o_b6⟩
 simp only [List.map_cons,List.mem_cons,not_or] at k_b6
 have n1:=nes k_b6.1
 refine Wu (Yy k_b4 (Yy k_b6 n1)) ?_
 refine Wk (Yy k_b4 (Yy k_b6 (Yy n1 f1))) ?_
 refine cQ (cK _) ?_
 refine Wk (Yy k_b4 (Yy k_b6 n1)) ?_
 refine AW.loopS 11 [8,10,37,38,39] (fun xs S'=>∃ (j a':Nat),xs=[iD a',.any,.sl .none (ks.map natD),iD ks.length,iD j]∧S'=⟨(b6,87,ndA n)::(b4,62,sdZ)::S.bk,S.ow⟩∧j≤ks.length∧a'≤F.length∧skipK (skipR p wid lo hi d) (ks.drop j) (F.drop a')=some l'∧i ∉ ks.take j∧kidRest (skipR p wid lo hi d) ks (F.drop (a+1)) i=kidRest (skipR p wid lo hi d) (ks.drop j) (F.drop a') i) (fun xs _=>ks.length - nI (xs.getD 4 .any)) [iD (a+1:Nat),.any,.sl .none (ks.map natD),iD ks.length,iD 0] _ ?_ (Sto.Sub.refl _) ⟨0,a+1,rfl,rfl,by omega,by omega,h,by simp,rfl⟩ ?_
 ·exact wK
 rintro xs S' ⟨j,a',rfl,rfl,hj,ha',hsk,hni,hkr⟩
 refine fR ?_
 by_cases hlt:j<ks.length
 ·have d1:decide ((j:Int)<ks.length)=true:=decide_eq_true (by omega)
  have f2:IntKind.i64.wrap ((j:Int)+1)=((j+1:Nat):Int):=IntWalk.i64_in _ (by omega)
  obtain ⟨q,hq⟩:∃ q,ks[j]?=some q:=⟨_,List.getElem?_eq_getElem hlt⟩
  have gq:(ks.map natD)[j]?=some (iD q):=by rw [List.getElem?_map,hq];rfl
  have g2:(0:Int)≤j:=by omega
  have hqe:ks[j]=q:=Option.some.inj ((List.getElem?_eq_getElem hlt).symm.trans hq)
  rw [List.drop_eq_getElem_cons hlt,hqe,skipK] at hsk
  rw [List.drop_eq_getElem_cons hlt,hqe,kidRest] at hkr
  cases h1:skipR p wid lo hi d (F.drop a') with
  | none=>rw [h1] at hsk;cases hsk
  | some l1=>
   rw [h1] at hsk hkr
   have hsk:skipK (skipR p wid lo hi d) (ks.drop (j+1)) l1=some l':=hsk
   have hlt2:a'<F.length:=Classical.byContradiction fun q=>by rw [List.drop_eq_nil_of_le (by omega),skipR_nil] at h1;cases h1
   obtain ⟨c,hc⟩:=skipR_suf d _ _ h1
   have hsd:=suf_drop hc
   have d2:decide ((a':Int) ≥ F.length)=false:=decide_eq_false (by omega)
   by_cases hqi:q=i
   ·subst hqi
    rw [if_pos rfl] at hkr
    have him:q∈ks:=List.mem_of_getElem? hq
    have z1:((q:Int) == q)=true:=by simp
    obtain ⟨y,hy⟩:∃ y,F[a']?=some y:=⟨_,List.getElem?_eq_getElem hlt2⟩
    have cS:=fun S=>aGSide p wid F lo hi y a' S hy
    have hok:=ih a' y l1 hy h1
    refine Wk (Yy d1 (Yy d2 (Yy gq (Yy g2 (Yy Int.toNat_natCast (Yy z1 (Yy k_b4 (Yy k_b6 n1)))))))) ?_
    refine cQ (cS _) ?_
    refine Wk (Yy k_b4 (Yy k_b6 n1)) ?_
    refine endx (S':=S) (sR (Yy k_b4 (Yy k_b6 n1))) (by rfl) (Sto.Sub.refl _).cons.cons ⟨rfl,sideV p wid F lo hi y a',?_,?_⟩
    ·rw [if_pos him];rfl
    ·simp only [hkr];exact hok
   ·rw [if_neg hqi] at hkr
    have hkr:kidRest (skipR p wid lo hi d) ks (F.drop (a+1)) i=kidRest (skipR p wid lo hi d) (ks.drop (j+1)) l1 i:=hkr
    have z1:((q:Int) == i)=false:=by rw [beq_eq_false_iff_ne];omega
    have cP:=fun S=>aPast p wid lo hi F hF hsz d a' l1 S h1
    refine Wk (Yy d1 (Yy d2 (Yy gq (Yy g2 (Yy Int.toNat_natCast (Yy z1 (Yy k_b4 (Yy k_b6 n1)))))))) ?_
    refine cQ (cP _) ?_
    refine Wk f2 ?_
    refine ⟨[iD (F.length - l1.length:Nat),.any,.sl .none (ks.map natD),iD ks.length,iD (j+1:Nat)],_,?_,Sto.Sub.refl _,⟨j+1,F.length - l1.length,rfl,rfl,by omega,by omega,by rw [hsd];exact hsk,?_,by rw [hsd];exact hkr⟩,?_⟩
    ·exact wK
    ·rw [List.take_add_one,hq]
     intro hm
     rcases List.mem_append.1 hm with h2 | h2
     ·exact hni h2
     ·simp at h2;exact hqi h2.symm
    ·exact mE
 obtain rfl:j=ks.length:=by omega
 have d1:decide ((ks.length:Int)<ks.length)=false:=decide_eq_false (by omega)
 rw [List.take_length] at hni
 refine Wk (Yy d1 (Yy k_b4 (Yy k_b6 n1))) ?_
 refine endx (S':=S) (sR (Yy k_b4 (Yy k_b6 n1))) (by rfl) (Sto.Sub.refl _).cons.cons ⟨rfl,sdZ,?_,?_⟩
 ·rw [if_neg hni];rfl
 ·rw [kidRest_none hni];rfl


theorem skipK_all {p wid:Int} {f:List Bs→Option (List Bs)} (hf:∀ l l',f l=some l'→∃ c,l=c++l'∧∀ x∈c,∃ n,readP p wid x=some n):∀ (is:List Nat) (l l':List Bs),skipK f is l=some l'→∃ c,l=c++l'∧∀ x∈c,∃ n,readP p wid x=some n
 | [],l,l',h=>by simp only [skipK,Option.some.injEq] at h;exact ⟨[],by simp [h],fun x hx=>(by cases hx)⟩
 | i::is,l,l',h=>by
  unfold skipK at h
  cases h1:f l with
  | none=>rw [h1] at h;cases h
  | some l1=>
   rw [h1] at h
   obtain ⟨c1,rfl,g1⟩:=hf _ _ h1
   obtain ⟨c2,rfl,g2⟩:=skipK_all hf is _ _ h
   exact ⟨c1++c2,by simp,fun x hx=>(List.mem_append.1 hx).elim (g1 x) (g2 x)⟩
theorem skipR_all {p wid:Int} {lo hi:Bs}:∀ (d:Nat) (l l':List Bs),skipR p wid lo hi d l=some l'→∃ c,l=c++l'∧∀ x∈c,∃ n,readP p wid x=some n
 | 0,_,_,h=>by cases h
 | _+1,[],_,h=>by cases h
 | d+1,x::l,l',h=>by
  rw [skipR_succ] at h
  cases hn:readP p wid x with
  | none=>rw [hn] at h;cases h
  | some n=>
   rw [hn] at h
   obtain ⟨c,rfl,g⟩:=skipK_all (fun l l' h=>skipR_all d l l' h) _ _ _ h
   exact ⟨x::c,rfl,fun y hy=>(List.mem_cons.1 hy).elim (fun e=>⟨n,by rw [e];exact hn⟩) (g y)⟩

theorem spanS_ok {p wid:Int} {root:Dg} {lo hi s:Bs} (h:errS p wid root lo hi s=0):rightB p wid=true∧∃ x l,splitP s=some (x::l)∧nodeR p wid lo hi 33 true root none none (x::l)=some ([],pairsS p wid root lo hi s):=by
 cases ha:argsS p wid root with
 | false=>rw [(spanS_arg ha).1] at h;cases h
 | true=>
  have hr:rightB p wid=true:=by unfold argsS at ha;rw [Bool.and_eq_true] at ha;exact ha.1
  cases hp:spanP p wid root lo hi s with
  | none=>rw [(spanS_no ha hp).1] at h;cases h
  | some ps=>
   rw [(spanS_yes ha hp).2]
   unfold spanP at hp
   split at hp
   ·cases hp
   ·rename_i fs hsp
    split at hp
    ·rename_i ps' hn
     simp only [Option.some.injEq] at hp
     subst hp
     cases fs with
     | nil=>cases hn
     | cons x l=>exact ⟨hr,x,l,hsp,hn⟩
    ·cases hp
def formsS (s:Bs):List Bs:=(splitP s).getD []
end Go.Proofs.YtcaggadjkccbiaaGreat