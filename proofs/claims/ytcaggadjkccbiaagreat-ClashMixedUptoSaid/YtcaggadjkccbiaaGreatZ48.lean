/- A node of a range's proof is read, and all that belongs to it (values without addresses). -/
import Derived.Test.YtcaggadjkccbiaaGreatZ47
namespace Go.Proofs.YtcaggadjkccbiaaGreat
set_option maxHeartbeats 1000000
set_option maxRecDepth 100000
set_option linter.unusedVariables false
set_option linter.unusedSimpArgs false
open Go Go.RowKit

theorem kidsF_few {f:Nat→List Bs→Option (List Bs×List Pr)} (hf:∀ i l l' ps,f i l=some (l',ps)→(∃ c,l=c++l')∧ps.length+8192*l'.length≤8192*l.length):∀ (is:List Nat) (l l':List Bs) (ps:List Pr),kidsF f is l=some (l',ps)→(∃ c,l=c++l')∧ps.length+8192*l'.length≤8192*l.length
 | [],l,l',ps,h=>by
  simp only [kidsF,Option.some.injEq,Prod.mk.injEq] at h
  obtain ⟨rfl,rfl⟩:=h
  exact ⟨⟨[],rfl⟩,by simp⟩
 | i::is,l,l',ps,h=>by
  unfold kidsF at h
  cases h1:f i l with
  | none=>rw [h1] at h;cases h
  | some r=>
   obtain ⟨l1,p1⟩:=r
   rw [h1] at h
   obtain ⟨⟨l2,p2⟩,h2,h3⟩:=Option.map_eq_some_iff.1 h
   simp only [Prod.mk.injEq] at h3
   obtain ⟨rfl,rfl⟩:=h3
   obtain ⟨⟨c1,rfl⟩,g1⟩:=hf _ _ _ _ h1
   obtain ⟨⟨c2,rfl⟩,g2⟩:=kidsF_few hf is _ _ _ h2
   refine ⟨⟨c1++c2,by simp⟩,?_⟩
   simp only [List.length_append] at g1 g2 ⊢
   omega
theorem nodeR_few {p wid:Int} {lo hi:Bs}:∀ (d:Nat) (first:Bool) (sum:Dg) (low high:Option Bs) (l l':List Bs) (ps:List Pr),nodeR p wid lo hi d first sum low high l=some (l',ps)→(∃ c,l=c++l')∧ps.length+8192*l'.length≤8192*l.length
 | 0,_,_,_,_,_,_,_,h=>by cases h
 | _+1,_,_,_,_,[],_,_,h=>by cases h
 | d+1,first,sum,low,high,x::l,l',ps,h=>by
  unfold nodeR at h
  cases hn:readP p wid x with
  | none=>rw [hn] at h;cases h
  | some n=>
   rw [hn] at h
   simp only [] at h
   split at h
   ·obtain ⟨⟨l1,p1⟩,h2,h3⟩:=Option.map_eq_some_iff.1 h
    simp only [Prod.mk.injEq] at h3
    obtain ⟨rfl,rfl⟩:=h3
    obtain ⟨⟨c,rfl⟩,g⟩:=kidsF_few (fun i l l' ps h=>nodeR_few d _ _ _ _ l l' ps h) _ _ _ _ h2
    refine ⟨⟨x::c,rfl⟩,?_⟩
    have h8:=(read_few hn).1
    have hfl:=List.length_filter_le (fun q:Pr=>rngB lo hi q.1) n.pairs
    simp only [List.length_append,List.length_cons] at g ⊢
    omega
   ·cases h

theorem nodeR_succ {p wid:Int} {lo hi:Bs} {d:Nat} {first:Bool} {sum:Dg} {low high:Option Bs} {x:Bs} {l:List Bs}:nodeR p wid lo hi (d+1) first sum low high (x::l) =
  match readP p wid x with
  | none=>none
  | some n=>if spanB p wid first sum low high n=true then
    (kidsF (fun i l=>nodeR p wid lo hi d false (kidSum n i) (belowLo low n i) (belowHi high n i) l) (kidsL lo hi n) l).map fun r=>(r.1,n.pairs.filter (fun q=>rngB lo hi q.1)++r.2)
   else none:=rfl
def SNodeQ (b:Nat) (p wid:Int) (lo hi:Bs) (pairs:List Pr) (ow0:List (Nat×Nat)) (S:Sto) (o:Option (List Bs×List Pr)) (e:AEnd) (S':Sto):Prop:=
 match o with
 | some (l',ps)=>e=.ret (.tup [])∧∃ tp',S'.bk=setM S.bk b (srD p wid l' lo hi tp' (pairs++ps))∧G1 ow0 S'.ow 73 2 tp' ((pairs++ps).map prD)
 | none=>e=.pan badD∧∃ (l':List Bs) (ps':List Pr) (tp':Tag),S'.bk=setM S.bk b (srD p wid l' lo hi tp' ps')∧List.Sublist ow0 S'.ow

def restK (f:Nat→List Bs→Option (List Bs×List Pr)) (lo hi:Bs) (n:Nd) (i:Nat) (l:List Bs):Option (List Bs×List Pr):=kidsF f (((List.range n.kids.length).drop i).filter (mayK lo hi n)) l
theorem range_drop {n i:Nat} (h:i<n):(List.range n).drop i=i::(List.range n).drop (i+1):=by
 rw [List.drop_eq_getElem_cons (by simpa using h)]
 simp
theorem restK_skip {f:Nat→List Bs→Option (List Bs×List Pr)} {lo hi:Bs} {n:Nd} {i:Nat} {l:List Bs} (h:i<n.kids.length) (hm:mayK lo hi n i=false):restK f lo hi n i l=restK f lo hi n (i+1) l:=by
 unfold restK
 rw [range_drop h,List.filter_cons_of_neg (by rw [hm];simp)]
theorem restK_none {f:Nat→List Bs→Option (List Bs×List Pr)} {lo hi:Bs} {n:Nd} {i:Nat} {l:List Bs} (h:i<n.kids.length) (hm:mayK lo hi n i=true) (hf:f i l=none):restK f lo hi n i l=none:=by
 unfold restK
 rw [range_drop h,List.filter_cons_of_pos hm,kidsF,hf]
theorem restK_some {f:Nat→List Bs→Option (List Bs×List Pr)} {lo hi:Bs} {n:Nd} {i:Nat} {l l':List Bs} {ps:List Pr} (h:i<n.kids.length) (hm:mayK lo hi n i=true) (hf:f i l=some (l',ps)):restK f lo hi n i l=(restK f lo hi n (i+1) l').map fun r=>(r.1,ps++r.2):=by
 unfold restK
 rw [range_drop h,List.filter_cons_of_pos hm,kidsF,hf]
theorem restK_end {f:Nat→List Bs→Option (List Bs×List Pr)} {lo hi:Bs} {n:Nd} {l:List Bs}:restK f lo hi n n.kids.length l=some (l,[]):=by
 unfold restK
 rw [List.drop_eq_nil_of_le (by simp)]
 rfl

theorem aSNode (p wid:Int) (lo hi:Bs) (hr:rightB p wid=true):∀ (d b depth:Nat) (first:Bool) (sum:Dg) (low high:Option Bs) (forms:List Bs) (pairs:List Pr) (tp:Tag) (S:Sto) (ow0:List (Nat×Nat)),
  getM S.bk b=some (105,srD p wid forms lo hi tp pairs)→depth+d=33→(depth == 0)=first→(∀ x∈forms,x.length≤1048576)→pairs.length+8192*forms.length≤20000000000→G1 ow0 S.ow 73 2 tp (pairs.map prD) →
  ACalls Tryz.prog 51 [pD b,iD depth,.dg sum,optP low,optP high] S (SNodeQ b p wid lo hi pairs ow0 S (nodeR p wid lo hi d first sum low high forms)):=by
 intro d
 induction d with
 | zero=>
  intro b depth first sum low high forms pairs tp S ow0 hb hd hfi hfs hpl hg
  obtain rfl:depth=33:=by omega
  have hP:nodeR p wid lo hi 0 first sum low high forms=none:=rfl
  rw [hP]
  have z1:decide (((33:Nat):Int)<33)=false:=by decide
  by_cases hl:0<forms.length
  ·have z0:decide ((forms.length:Int) > 0)=true:=decide_eq_true (by omega)
   refine acalls_of prg Tryz.func51 rfl (by kernel_rfl) (congrArg Array.toList Tryz.results51) Tryz.ntmps51 (fun B hB=>fA ?_)
   refine Wk (Yy hb (Yy z0 z1)) ?_
   refine wpx (c:=by exact (aSMustF b _)) (k:=?_)
   (try dsimp only [AX.then,AX.inBlock,AX.noGoto])
   exact endp (Sto.Sub.refl _) ⟨rfl,forms,pairs,tp,(setM_same hb).symm,hg.sub⟩
  ·have z0:decide ((forms.length:Int) > 0)=false:=decide_eq_false (by omega)
   refine acalls_of prg Tryz.func51 rfl (by kernel_rfl) (congrArg Array.toList Tryz.results51) Tryz.ntmps51 (fun B hB=>fA ?_)
   refine Wk (Yy hb z0) ?_
   refine wpx (c:=by exact (aSMustF b _)) (k:=?_)
   (try dsimp only [AX.then,AX.inBlock,AX.noGoto])
   exact endp (Sto.Sub.refl _) ⟨rfl,forms,pairs,tp,(setM_same hb).symm,hg.sub⟩
 | succ d ih=>
 intro b depth first sum low high forms pairs tp S ow0 hb hd hfi hfs hpl hg
 by_cases hl0:0<forms.length
 case neg=>
  obtain rfl:forms=[]:=List.eq_nil_of_length_eq_zero (by omega)
  have hP:nodeR p wid lo hi (d+1) first sum low high []=none:=rfl
  rw [hP]
  have z0:decide ((0:Int) > 0)=false:=by decide
  refine acalls_of prg Tryz.func51 rfl (by kernel_rfl) (congrArg Array.toList Tryz.results51) Tryz.ntmps51 (fun B hB=>fA ?_)
  refine Wk (Yy hb z0) ?_
  refine wpx (c:=by exact (aSMustF b _)) (k:=?_)
  (try dsimp only [AX.then,AX.inBlock,AX.noGoto])
  exact endp (Sto.Sub.refl _) ⟨rfl,[],pairs,tp,(setM_same hb).symm,hg.sub⟩
 obtain ⟨x,l,hF⟩:∃ x l,forms=x::l:=by cases forms with | nil=>simp at hl0 | cons x l=>exact ⟨x,l,rfl⟩
 have hxl:=hfs x (by rw [hF];simp)
 have hls:∀ y∈l,y.length≤1048576:=fun y hy=>hfs y (by rw [hF];simp [hy])
 have z0:decide ((forms.length:Int) > 0)=true:=decide_eq_true (by omega)
 have htk:((forms.map sD).drop 1).take (forms.length - 1)=l.map sD:=by rw [hF];exact List.take_of_length_le (by simp)
 have sz:∀ d∈forms.map sD,d.size=1:=fun d hd=>by obtain ⟨_,_,rfl⟩:=List.mem_map.1 hd;rfl
 have s1:1≤forms.length:=by omega
 have s2:(0:Int)≤1:=by omega
 have s3:Int.toNat 1=1:=rfl
 have z1:decide ((depth:Int)<33)=true:=decide_eq_true (by omega)
 have hx0:(forms.map sD)[0]?=some (sD x):=by rw [hF];rfl
 have e1:unpackE p wid=73:=by simp [unpackE,hr]
 have cR:=fun S=>aNRead p wid x S (by omega)
 rw [e1] at cR
 cases hn:readP p wid x with
 | none=>
  have hP:nodeR p wid lo hi (d+1) first sum low high forms=none:=by rw [hF];unfold nodeR;rw [hn]
  rw [hP]
  rw [hn] at cR
  refine acalls_of prg Tryz.func51 rfl (by kernel_rfl) (congrArg Array.toList Tryz.results51) Tryz.ntmps51 (fun B hB=>fA ?_)
  refine Wk (Yy hb (Yy z0 z1)) ?_
  refine cQ (aSMustT b _) ?_
  refine Wk Y0 ?_
  refine vx ?_
  refine Wu (Yy hb hx0) ?_
  refine cU (cR) ?_
  refine Wu Y0 ?_
  rintro b10 ⟨k_b10,o_b10⟩
  refine Wu k_b10 ?_
  refine Wk k_b10 ?_
  refine wpx (c:=by exact (aSMustF b _)) (k:=?_)
  (try dsimp only [AX.then,AX.inBlock,AX.noGoto])
  exact endp (Sto.Sub.refl _).cons ⟨rfl,forms,pairs,tp,(setM_same hb).symm,hg.sub⟩
 | some n=>
 have cR:∀ S,ACalls Tryz.prog 58 [frD p wid,sD x] S (RetQ (.tup [ndA n,iD 0]) S):=fun S=>by have:=cR S;rw [hn] at this;exact this
 have ho:NdOk n:=parseP_ok (by omega) (readP_ok hn).2.2
 have hfew:=read_few hn
 have cS:=fun S=>aNSum p wid n S ho
 obtain ⟨⟨dg,de⟩,hsum⟩:∃ z,sumN p wid n=z:=⟨_,rfl⟩
 have cS:∀ S,ACalls Tryz.prog 90 [frD p wid,ndA n] S (RetQ (.tup [.dg dg,iD de]) S):=fun S=>by have:=cS S;rw [hsum] at this;exact this
 have cW:=fun S=>aSWithin low high n S ho
 have hnone:spanB p wid first sum low high n=false→nodeR p wid lo hi (d+1) first sum low high forms=none:=fun h=>by
  rw [hF];unfold nodeR;rw [hn]
  show (if spanB p wid first sum low high n=true then _ else _)=_
  rw [h];rfl
 refine acalls_of prg Tryz.func51 rfl (by kernel_rfl) (congrArg Array.toList Tryz.results51) Tryz.ntmps51 (fun B hB=>fA ?_)
 refine Wk (Yy hb (Yy z0 z1)) ?_
 refine cQ (aSMustT b _) ?_
 refine Wk Y0 ?_
 refine vx ?_
 refine Wu (Yy hb hx0) ?_
 refine cU (cR) ?_
 refine Wu Y0 ?_
 rintro b10 ⟨k_b10,o_b10⟩
 have m10:=getM_ne hb k_b10
 refine Wu (Yy k_b10 m10) ?_
 refine Wk (Yy k_b10 m10) ?_
 refine cQ (aSMustT b _) ?_
 refine Wk (Yy k_b10 (Yy m10 (Yy hb (Yy s1 (Yy s2 (Yy s3 (Yy (eq_true sz) (Yy htk (Nat.le_refl forms.length))))))))) ?_
 refine vx ?_
 refine Wu (Yy hb (Yy m10 k_b10)) ?_
 refine cU (cS) ?_
 refine Wu Y0 ?_
 rintro b12 ⟨k_b12,o_b12⟩
 simp only [List.map_cons,List.mem_cons,not_or,setM_keys] at k_b12
 have m12:=getM_ne hb k_b12.2
 have n1:=nes k_b12.1
 refine Wu (Yy hb (Yy m10 (Yy m12 (Yy k_b10 (Yy k_b12 n1))))) ?_
 refine Wk (Yy hb (Yy m10 (Yy m12 (Yy k_b10 (Yy k_b12 n1))))) ?_
 by_cases c1:de=0
 case neg=>
  have z2:(de == 0)=false:=beq_eq_false_iff_ne.2 c1
  rw [hnone (by unfold spanB;rw [hsum];show (de == 0 && _ && _ && _)=false;rw [z2];rfl)]
  refine Wk (Yy hb (Yy m10 (Yy m12 (Yy k_b10 (Yy k_b12 (Yy n1 z2)))))) ?_
  refine wpx (c:=by exact (aSMustF b _)) (k:=?_);(try dsimp only [AX.then,AX.inBlock,AX.noGoto]);exact endp (Sto.Sub.refl _).cons.cons ⟨rfl,l,pairs,tp,rfl,hg.sub⟩
 by_cases c2:dg=sum
 case neg=>
  have z2:(de == 0)=true:=beq_iff_eq.2 c1
  have z3:decide (dg=sum)=false:=decide_eq_false c2
  rw [hnone (by unfold spanB;rw [hsum];show (_ && decide (dg=sum) && _ && _)=false;rw [z3];simp)]
  refine Wk (Yy hb (Yy m10 (Yy m12 (Yy k_b10 (Yy k_b12 (Yy n1 (Yy z2 z3))))))) ?_
  refine wpx (c:=by exact (aSMustF b _)) (k:=?_);(try dsimp only [AX.then,AX.inBlock,AX.noGoto]);exact endp (Sto.Sub.refl _).cons.cons ⟨rfl,l,pairs,tp,rfl,hg.sub⟩
 have z2:(de == 0)=true:=beq_iff_eq.2 c1
 have z3:decide (dg=sum)=true:=decide_eq_true c2
 cases hk:keptB low high n with
 | false=>
  rw [hk] at cW
  rw [hnone (by unfold spanB;rw [hk];simp)]
  refine Wk (Yy hb (Yy m10 (Yy m12 (Yy k_b10 (Yy k_b12 (Yy n1 (Yy z2 z3))))))) ?_
  refine cQ (cW _) ?_
  refine Wk Y0 ?_
  refine wpx (c:=by exact (aSMustF b _)) (k:=?_);(try dsimp only [AX.then,AX.inBlock,AX.noGoto]);exact endp (Sto.Sub.refl _).cons.cons ⟨rfl,l,pairs,tp,rfl,hg.sub⟩
 | true=>
 rw [hk] at cW
 have hsp:spanB p wid first sum low high n=(first || (decide (0<n.kids.length) || decide (0<n.pairs.length))):=by unfold spanB;rw [hsum,hk];show (de == 0 && decide (dg=sum) && true && _)=_;rw [z2,z3];rfl
 refine Wk (Yy hb (Yy m10 (Yy m12 (Yy k_b10 (Yy k_b12 (Yy n1 (Yy z2 z3))))))) ?_
 refine cQ (cW _) ?_
 refine Wk Y0 ?_
 refine cQ (aSMustT b _) ?_
 refine gG Y0 ?_
 refine w6 ?_
 by_cases c4:first=true∨0<n.kids.length∨0<n.pairs.length
 case neg=>
  have zf:((depth:Int) == 0)=false:=by
   rw [beq_eq_false_iff_ne];intro h
   exact c4 (.inl (by rw [← hfi,beq_iff_eq];omega))
  have zk:decide ((n.kids.length:Int) > 0)=false:=decide_eq_false (fun h=>c4 (.inr (.inl (by omega))))
  have zp:decide ((n.pairs.length:Int) > 0)=false:=decide_eq_false (fun h=>c4 (.inr (.inr (by omega))))
  rw [hnone (by
   rw [hsp,decide_eq_false (fun h=>c4 (.inr (.inl h))),decide_eq_false (fun h=>c4 (.inr (.inr h)))]
   cases first with
   | false=>rfl
   | true=>exact absurd (.inl rfl) c4)]
  refine Wk (Yy hb (Yy m10 (Yy m12 (Yy k_b10 (Yy k_b12 (Yy n1 (Yy zf (Yy zk zp)))))))) ?_
  refine wpx (c:=by exact (aSMustF b _)) (k:=?_);(try dsimp only [AX.then,AX.inBlock,AX.noGoto]);exact endp (Sto.Sub.refl _).cons.cons ⟨rfl,l,pairs,tp,rfl,hg.sub⟩
 have hyes:nodeR p wid lo hi (d+1) first sum low high forms=(kidsF (fun i l=>nodeR p wid lo hi d false (kidSum n i) (belowLo low n i) (belowHi high n i) l) (kidsL lo hi n) l).map fun r=>(r.1,n.pairs.filter (fun q=>rngB lo hi q.1)++r.2):=by
  rw [hF,nodeR_succ,hn]
  refine if_pos ?_
  rw [hsp]
  rcases c4 with h | h | h
  ·rw [h];rfl
  ·rw [decide_eq_true h];simp
  ·rw [decide_eq_true h];simp
 rw [hyes]
 refine AW.cutS 19 [] (fun xs S'=>xs=[]∧S'=⟨(b12,36,.dg dg)::(b10,87,ndA n)::setM S.bk b (srD p wid l lo hi tp pairs),S.ow⟩) ?_ ?_
 ·cases first with
  | true=>
   have zf:((depth:Int) == 0)=true:=by rw [beq_iff_eq] at hfi ⊢;omega
   refine Wk (Yy hb (Yy m10 (Yy m12 (Yy k_b10 (Yy k_b12 (Yy n1 zf)))))) ?_
   refine cQ (aSMustT b _) ?_
   refine Wk Y0 ?_
   exact ⟨[],_,wK,Sto.Sub.refl _,rfl,rfl⟩
  | false=>
   have zf:((depth:Int) == 0)=false:=by rw [beq_eq_false_iff_ne] at hfi ⊢;omega
   by_cases hk0:0<n.kids.length
   ·have zk:decide ((n.kids.length:Int) > 0)=true:=decide_eq_true (by omega)
    refine Wk (Yy hb (Yy m10 (Yy m12 (Yy k_b10 (Yy k_b12 (Yy n1 (Yy zf zk))))))) ?_
    refine cQ (aSMustT b _) ?_
    refine Wk Y0 ?_
    exact ⟨[],_,wK,Sto.Sub.refl _,rfl,rfl⟩
   ·have zk:decide ((n.kids.length:Int) > 0)=false:=decide_eq_false (by omega)
    have zp:decide ((n.pairs.length:Int) > 0)=true:=decide_eq_true (by
     rcases c4 with h | h | h
     ·cases h
     ·exact absurd h hk0
     ·omega)
    refine Wk (Yy hb (Yy m10 (Yy m12 (Yy k_b10 (Yy k_b12 (Yy n1 (Yy zf (Yy zk zp)))))))) ?_
    refine cQ (aSMustT b _) ?_
    refine Wk Y0 ?_
    exact ⟨[],_,wK,Sto.Sub.refl _,rfl,rfl⟩
 rintro xs S' ⟨rfl,rfl⟩
 refine fR ?_
 refine Wk (Yy hb (Yy m10 (Yy m12 (Yy k_b10 (Yy k_b12 n1))))) ?_
 refine AW.loopS 19 [14,98,99,100] (fun xs S'=>∃ (i:Nat) (tp2:Tag) (ow2:List (Nat×Nat)),xs=[.any,.sl .none (n.pairs.map prD),iD n.pairs.length,iD i]∧S'=⟨(b12,36,.dg dg)::(b10,87,ndA n)::setM S.bk b (srD p wid l lo hi tp2 (pairs++(n.pairs.take i).filter fun q=>rngB lo hi q.1)),ow2⟩∧i≤n.pairs.length∧G1 ow0 ow2 73 2 tp2 ((pairs++(n.pairs.take i).filter fun q=>rngB lo hi q.1).map prD)) (fun xs _=>n.pairs.length - nI (xs.getD 3 .any)) [.any,.sl .none (n.pairs.map prD),iD n.pairs.length,iD 0] _ ?_ (Sto.Sub.refl _) ⟨0,tp,S.ow,rfl,by rw [List.take_zero,List.filter_nil,List.append_nil];rfl,by omega,by simpa using hg⟩ ?_
 ·exact wK
 rintro xs S' ⟨i,tp2,ow2,rfl,rfl,hile,hg2⟩
 refine fR ?_
 by_cases hlt:i<n.pairs.length
 ·obtain ⟨q,hq⟩:∃ q,n.pairs[i]?=some q:=⟨_,List.getElem?_eq_getElem hlt⟩
  have d1:decide ((i:Int)<n.pairs.length)=true:=decide_eq_true (by omega)
  have hgt:(n.pairs.map prD)[i]?=some (prD q):=by rw [List.getElem?_map,hq];rfl
  have g0:(0:Int)≤i:=by omega
  have f1:IntKind.i64.wrap ((i:Int)+1)=((i+1:Nat):Int):=IntWalk.i64_in _ (by omega)
  have cI:=fun S=>aIn q.1 lo hi S
  have htk:(n.pairs.take (i+1)).filter (fun q=>rngB lo hi q.1)=(n.pairs.take i).filter (fun q=>rngB lo hi q.1)++(if rngB lo hi q.1=true then [q] else []):=by
   rw [List.take_add_one,hq,List.filter_append]
   cases h:rngB lo hi q.1 <;> simp [h]
  have hlen:((n.pairs.take i).filter fun q=>rngB lo hi q.1).length≤8192:=Nat.le_trans (List.length_filter_le _ _) (by rw [List.length_take];omega)
  generalize hps:(n.pairs.take i).filter (fun q=>rngB lo hi q.1)=ps at hg2 htk hlen ⊢
  have hbi:getM (setM S.bk b (srD p wid l lo hi tp2 (pairs++ps))) b=some (105,srD p wid l lo hi tp2 (pairs++ps)):=by rw [getM_setM,hb];rfl
  have hpl':pairs.length≤20000000000:=by omega
  cases hin:rngB lo hi q.1 with
  | false=>
   rw [hin] at cI htk
   rw [if_neg (by simp),List.append_nil] at htk
   refine Wk (Yy hb (Yy m10 (Yy m12 (Yy k_b10 (Yy k_b12 (Yy n1 (Yy d1 (Yy hgt (Yy g0 Int.toNat_natCast))))))))) ?_
   refine aL fun b14 k_b14 o_b14=>?_
   have m14:=getM_ne hbi k_b14.2.2
   have n2:=nes k_b14.1
   have n3:=nes k_b14.2.1
   refine Wk (Yy hb (Yy m10 (Yy m12 (Yy k_b10 (Yy k_b12 (Yy n1 (Yy k_b14 (Yy n2 (Yy n3 m14))))))))) ?_
   refine cQ (cI _) ?_
   refine Wk f1 ?_
   refine ⟨[.any,.sl .none (n.pairs.map prD),iD n.pairs.length,iD (i+1:Nat)],⟨(b12,36,.dg dg)::(b10,87,ndA n)::setM S.bk b (srD p wid l lo hi tp2 (pairs++ps)),ow2⟩,?_,(Sto.Sub.refl _).cons,⟨i+1,tp2,ow2,rfl,by rw [htk],by omega,by rw [htk];exact hg2⟩,?_⟩
   ·exact wK
   ·exact mE
  | true=>
   rw [hin] at cI htk
   rw [if_pos rfl] at htk
   refine Wk (Yy hb (Yy m10 (Yy m12 (Yy k_b10 (Yy k_b12 (Yy n1 (Yy d1 (Yy hgt (Yy g0 Int.toNat_natCast))))))))) ?_
   refine aL fun b14 k_b14 o_b14=>?_
   have m14:=getM_ne hbi k_b14.2.2
   have n2:=nes k_b14.1
   have n3:=nes k_b14.2.1
   refine Wk (Yy hb (Yy m10 (Yy m12 (Yy k_b10 (Yy k_b12 (Yy n1 (Yy k_b14 (Yy n2 (Yy n3 m14))))))))) ?_
   refine cQ (cI _) ?_
   refine Wn Y0 ?_
   have F:=(Yy hb (Yy m10 (Yy m12 (Yy k_b10 (Yy k_b12 (Yy n1 (Yy k_b14 (Yy n2 (Yy n3 m14)))))))))
   refine yz ?_
   refine yp 0 ?_
   refine yp 1 ?_
   refine yp 2 ?_
   refine yp 3 ?_
   refine yq 4 ?_
   refine yq 5 ?_
   refine yq 6 ?_
   refine ya 7 73 2 32 ?_ ?_ ?_ (fun g _ hgo=>?_)
   ·exact sz_map (f:=prD) (fun _=>rfl) (fun d hd=>by simp only [List.mem_singleton] at hd;subst hd;rfl)
   ·exact hg2.may
   ·rw [List.length_map,List.length_append];simp only [List.length_singleton];omega
   have hg3:=hg2.add (ns:=[prD q]) hgo
   refine ys 8 ?_
   refine ys 9 ?_
   refine ys 10 ?_
   refine ye ?_
   refine Wk f1 ?_
   refine ⟨[.any,.sl .none (n.pairs.map prD),iD n.pairs.length,iD (i+1:Nat)],⟨(b12,36,.dg dg)::(b10,87,ndA n)::setM S.bk b (srD p wid l lo hi (.own g 73 2) (pairs++(ps++[q]))),(g,((pairs++ps).map prD++[prD q]).length*2)::dropTok tp2 ow2⟩,?_,?_,⟨i+1,.own g 73 2,_,rfl,by rw [htk],by omega,?_⟩,?_⟩
   ·exact wK
   ·rw [← List.append_assoc]
    unfold srD
    rw [List.map_append]
    exact (Sto.Sub.refl _).cons
   ·rw [htk,← List.append_assoc,show List.map prD (pairs++ps++[q])=List.map prD (pairs++ps)++[prD q] from by rw [List.map_append];rfl];exact hg3
   ·exact mE
 obtain rfl:i=n.pairs.length:=by omega
 have d1:decide ((n.pairs.length:Int)<n.pairs.length)=false:=decide_eq_false (by omega)
 rw [List.take_length] at hg2 ⊢
 have hlen:(n.pairs.filter fun q=>rngB lo hi q.1).length≤8192:=Nat.le_trans (List.length_filter_le _ _) hfew.1
 generalize (n.pairs.filter fun q=>rngB lo hi q.1)=P1 at hg2 hlen ⊢
 refine Wk (Yy hb (Yy m10 (Yy m12 (Yy k_b10 (Yy k_b12 (Yy n1 d1)))))) ?_
 obtain ⟨f,hf⟩:∃ f,(fun i l=>nodeR p wid lo hi d false (kidSum n i) (belowLo low n i) (belowHi high n i) l)=f:=⟨_,rfl⟩
 rw [hf,show kidsF f (kidsL lo hi n) l=restK f lo hi n 0 l from rfl]
 refine AW.loopS 19 [15,16,17,18,127,128,129] (fun xs S'=>∃ (i:Nat) (l2:List Bs) (ps2:List Pr) (tp3:Tag) (ow3:List (Nat×Nat)),xs=[.any,.any,.any,.any,.sl .none (n.kids.map kdD),iD n.kids.length,iD i]∧S'=⟨(b12,36,.dg dg)::(b10,87,ndA n)::setM S.bk b (srD p wid l2 lo hi tp3 (pairs++(P1++ps2))),ow3⟩∧i≤n.kids.length∧restK f lo hi n 0 l=(restK f lo hi n i l2).map (fun r=>(r.1,ps2++r.2))∧(∀ y∈l2,y.length≤1048576)∧(pairs++(P1++ps2)).length+8192*l2.length≤20000000000∧G1 ow0 ow3 73 2 tp3 ((pairs++(P1++ps2)).map prD)) (fun xs _=>n.kids.length - nI (xs.getD 6 .any)) [.any,.any,.any,.any,.sl .none (n.kids.map kdD),iD n.kids.length,iD 0] _ ?_ (Sto.Sub.refl _) ⟨0,l,[],tp2,ow2,rfl,by rw [List.append_nil];rfl,by omega,by simp,hls,by rw [hF] at hpl;simp only [List.length_append,List.length_cons,List.append_nil] at hpl ⊢;omega,by rw [List.append_nil];exact hg2⟩ ?_
 ·exact wK
 rintro xs S' ⟨i,l2,ps2,tp3,ow3,rfl,rfl,hile,hrest,hls2,hpl2,hg3⟩
 refine fR ?_
 by_cases hlt:i<n.kids.length
 ·obtain ⟨kd,hkd⟩:∃ kd,n.kids[i]?=some kd:=⟨_,List.getElem?_eq_getElem hlt⟩
  have hkl:n.seps.length+1=n.kids.length:=by
   have hsh:=(checkE_ok (mayE_ok (readP_ok hn).2.1).1).2
   unfold shapedB at hsh
   rw [if_neg (by rw [read_leaf hn];simp;intro h;rw [h] at hlt;simp at hlt)] at hsh
   simp only [Bool.and_eq_true,decide_eq_true_eq] at hsh
   exact hsh.1.1.2
  have hns:=ho.ns
  have d2:decide ((i:Int)<n.kids.length)=true:=decide_eq_true (by omega)
  have hgk:(n.kids.map kdD)[i]?=some (kdD kd):=by rw [List.getElem?_map,hkd];rfl
  have g0:(0:Int)≤i:=by omega
  have f1:IntKind.i64.wrap ((i:Int)+1)=((i+1:Nat):Int):=IntWalk.i64_in _ (by omega)
  have f3:IntKind.i64.wrap ((depth:Int)+1)=((depth+1:Nat):Int):=IntWalk.i64_in _ (by omega)
  have cH:=fun S=>aHas n i lo hi S (by omega) (by omega)
  have hb2:getM (setM S.bk b (srD p wid l2 lo hi tp3 (pairs++(P1++ps2)))) b=some (105,srD p wid l2 lo hi tp3 (pairs++(P1++ps2))):=by rw [getM_setM,hb];rfl
  cases hm:mayK lo hi n i with
  | false=>
   rw [hm] at cH
   refine Wk (Yy hb (Yy m10 (Yy m12 (Yy k_b10 (Yy k_b12 (Yy n1 (Yy d2 (Yy hgk (Yy g0 Int.toNat_natCast))))))))) ?_
   refine aL fun b16 k_b16 o_b16=>?_
   have m16:=getM_ne hb2 k_b16.2.2
   have n4:=nes k_b16.1
   have n5:=nes k_b16.2.1
   refine Wk (Yy hb (Yy m10 (Yy m12 (Yy k_b10 (Yy k_b12 (Yy n1 (Yy k_b16 (Yy n4 (Yy n5 m16))))))))) ?_
   refine cQ (cH _) ?_
   refine Wk f1 ?_
   refine ⟨[.any,.any,.any,.any,.sl .none (n.kids.map kdD),iD n.kids.length,iD (i+1:Nat)],⟨(b12,36,.dg dg)::(b10,87,ndA n)::setM S.bk b (srD p wid l2 lo hi tp3 (pairs++(P1++ps2))),ow3⟩,?_,(Sto.Sub.refl _).cons,⟨i+1,l2,ps2,tp3,ow3,rfl,rfl,by omega,by rw [hrest,restK_skip hlt hm],hls2,hpl2,hg3⟩,?_⟩
   ·exact wK
   ·exact mE
  | true=>
   rw [hm] at cH
   refine Wk (Yy hb (Yy m10 (Yy m12 (Yy k_b10 (Yy k_b12 (Yy n1 (Yy d2 (Yy hgk (Yy g0 Int.toNat_natCast))))))))) ?_
   refine aL fun b16 k_b16 o_b16=>?_
   have m16:=getM_ne hb2 k_b16.2.2
   have n4:=nes k_b16.1
   have n5:=nes k_b16.2.1
   refine Wk (Yy hb (Yy m10 (Yy m12 (Yy k_b10 (Yy k_b12 (Yy n1 (Yy k_b16 (Yy n4 (Yy n5 m16))))))))) ?_
   refine cQ (cH _) ?_
   refine Wk Y0 ?_
   refine AW.cutK 19 [17,127,128,129] (fun xs S'=>xs=[optP (belowLo low n i),.sl .none (n.kids.map kdD),iD n.kids.length,iD i]∧S'=⟨(b16,150,kdD kd)::(b12,36,.dg dg)::(b10,87,ndA n)::setM S.bk b (srD p wid l2 lo hi tp3 (pairs++(P1++ps2))),ow3⟩) ?_ ?_
   ·by_cases h0:0<i
    ·obtain ⟨s,hs⟩:∃ s,n.seps[i - 1]?=some s:=⟨_,List.getElem?_eq_getElem (by omega)⟩
     have p0:decide ((i:Int) > 0)=true:=decide_eq_true (by omega)
     have f0:IntKind.i64.wrap ((i:Int) - 1)=((i - 1:Nat):Int):=by rw [IntWalk.i64_in _ (by omega)];omega
     have gs:(n.seps.map sD)[i - 1]?=some (sD s):=by rw [List.getElem?_map,hs];rfl
     have g1:(0:Int)≤((i - 1:Nat):Int):=by omega
     rw [show belowLo low n i=some s from by unfold belowLo;rw [if_pos h0,hs]]
     refine w8 ?_ (by simp only [go_sem,Int.reduceEq,Int.reduceLT,Int.reduceBEq,Int.reduceBNe,Int.reduceNe,Nat.reduceLeDiff,Nat.reduceAdd,Nat.reduceSub,Nat.reduceLT,Nat.reduceEqDiff,Nat.reduceBEq,Int.reduceLE,Int.reduceToNat,p0])
     refine Wk (Yy hb (Yy m10 (Yy m12 (Yy k_b10 (Yy k_b12 (Yy n1 (Yy k_b16 (Yy n4 (Yy n5 (Yy m16 (Yy f0 (Yy gs (Yy g1 Int.toNat_natCast))))))))))))) ?_
     exact ⟨[_,_,_,_],_,wK,Sto.Sub.refl _,rfl,rfl⟩
    ·have p0:decide ((i:Int) > 0)=false:=decide_eq_false (by omega)
     rw [show belowLo low n i=low from by unfold belowLo;rw [if_neg h0]]
     refine w9 ?_ (by simp only [go_sem,Int.reduceEq,Int.reduceLT,Int.reduceBEq,Int.reduceBNe,Int.reduceNe,Nat.reduceLeDiff,Nat.reduceAdd,Nat.reduceSub,Nat.reduceLT,Nat.reduceEqDiff,Nat.reduceBEq,Int.reduceLE,Int.reduceToNat,p0])
     refine Wk Y0 ?_
     exact ⟨[_,_,_,_],_,wK,Sto.Sub.refl _,rfl,rfl⟩
   rintro xs S' ⟨rfl,rfl⟩
   refine fR ?_
   refine Wk (Yy hb (Yy m10 (Yy m12 (Yy k_b10 (Yy k_b12 (Yy n1 (Yy k_b16 (Yy n4 (Yy n5 m16))))))))) ?_
   refine AW.cutK 19 [18,127,128,129] (fun xs S'=>xs=[optP (belowHi high n i),.sl .none (n.kids.map kdD),iD n.kids.length,iD i]∧S'=⟨(b16,150,kdD kd)::(b12,36,.dg dg)::(b10,87,ndA n)::setM S.bk b (srD p wid l2 lo hi tp3 (pairs++(P1++ps2))),ow3⟩) ?_ ?_
   ·by_cases h1:i<n.seps.length
    ·obtain ⟨s,hs⟩:∃ s,n.seps[i]?=some s:=⟨_,List.getElem?_eq_getElem h1⟩
     have p0:decide ((i:Int)<n.seps.length)=true:=decide_eq_true (by omega)
     have gs:(n.seps.map sD)[i]?=some (sD s):=by rw [List.getElem?_map,hs];rfl
     rw [show belowHi high n i=some s from by unfold belowHi;rw [if_pos h1,hs]]
     refine w8 ?_ (by simp only [go_sem,Int.reduceEq,Int.reduceLT,Int.reduceBEq,Int.reduceBNe,Int.reduceNe,Nat.reduceLeDiff,Nat.reduceAdd,Nat.reduceSub,Nat.reduceLT,Nat.reduceEqDiff,Nat.reduceBEq,Int.reduceLE,Int.reduceToNat,p0])
     refine Wk (Yy hb (Yy m10 (Yy m12 (Yy k_b10 (Yy k_b12 (Yy n1 (Yy k_b16 (Yy n4 (Yy n5 (Yy m16 (Yy gs (Yy g0 Int.toNat_natCast)))))))))))) ?_
     exact ⟨[_,_,_,_],_,wK,Sto.Sub.refl _,rfl,rfl⟩
    ·have p0:decide ((i:Int)<n.seps.length)=false:=decide_eq_false (by omega)
     rw [show belowHi high n i=high from by unfold belowHi;rw [if_neg h1]]
     refine w9 ?_ (by simp only [go_sem,Int.reduceEq,Int.reduceLT,Int.reduceBEq,Int.reduceBNe,Int.reduceNe,Nat.reduceLeDiff,Nat.reduceAdd,Nat.reduceSub,Nat.reduceLT,Nat.reduceEqDiff,Nat.reduceBEq,Int.reduceLE,Int.reduceToNat,p0])
     refine Wk Y0 ?_
     exact ⟨[_,_,_,_],_,wK,Sto.Sub.refl _,rfl,rfl⟩
   rintro xs S' ⟨rfl,rfl⟩
   refine fR ?_
   have hb3:getM ((b16,150,kdD kd)::(b12,36,.dg dg)::(b10,87,ndA n)::setM S.bk b (srD p wid l2 lo hi tp3 (pairs++(P1++ps2)))) b=some (105,srD p wid l2 lo hi tp3 (pairs++(P1++ps2))):=by
    rw [getM_cons,if_neg m16,getM_cons,if_neg m12,getM_cons,if_neg m10];exact hb2
   have cN:=ih b (depth+1) false kd.sum (belowLo low n i) (belowHi high n i) l2 (pairs++(P1++ps2)) tp3 ⟨(b16,150,kdD kd)::(b12,36,.dg dg)::(b10,87,ndA n)::setM S.bk b (srD p wid l2 lo hi tp3 (pairs++(P1++ps2))),ow3⟩ ow0 hb3 (by omega) (by simp) hls2 hpl2 hg3
   have hfi:nodeR p wid lo hi d false kd.sum (belowLo low n i) (belowHi high n i) l2=f i l2:=by rw [← hf];show _=nodeR p wid lo hi d false (kidSum n i) _ _ _;rw [show kidSum n i=kd.sum from by unfold kidSum;rw [hkd];rfl]
   rw [hfi] at cN
   have hset:∀ X,setM ((b16,150,kdD kd)::(b12,36,.dg dg)::(b10,87,ndA n)::setM S.bk b (srD p wid l2 lo hi tp3 (pairs++(P1++ps2)))) b X=(b16,150,kdD kd)::(b12,36,.dg dg)::(b10,87,ndA n)::setM S.bk b X:=fun X=>by
    rw [setM_cons,if_neg m16,setM_cons,if_neg m12,setM_cons,if_neg m10,setM_setM]
   refine Wk (Yy hb (Yy m10 (Yy m12 (Yy k_b10 (Yy k_b12 (Yy n1 (Yy k_b16 (Yy n4 (Yy n5 (Yy m16 f3)))))))))) ?_
   cases hfr:f i l2 with
   | none=>
    rw [hfr] at cN
    rw [hrest,restK_none hlt hm hfr]
    refine wpc (c:=by exact cN) (k:=fun d S' h=>by obtain ⟨h1,_⟩:=h;cases h1) (p:=fun d S' h=>?_)
    obtain ⟨h1,l',ps',tp',h2,h3⟩:=h
    simp only [AEnd.pan.injEq] at h1
    subst h1
    obtain ⟨bk',ow'⟩:=S'
    simp only [hset] at h2
    subst h2
    (try dsimp only [AX.then,AX.inBlock,AX.noGoto])
    exact endp (S':=⟨setM S.bk b (srD p wid l' lo hi tp' ps'),ow'⟩) (Sto.Sub.refl _).cons.cons.cons ⟨rfl,l',ps',tp',rfl,h3⟩
   | some r=>
    obtain ⟨l3,ps3⟩:=r
    rw [hfr] at cN
    refine wpc (c:=by exact cN) (k:=fun d S' h=>?_) (p:=fun d S' h=>by obtain ⟨h1,_⟩:=h;cases h1)
    obtain ⟨h1,tp4,h2,h3⟩:=h
    simp only [AEnd.ret.injEq] at h1
    subst h1
    obtain ⟨bk',ow'⟩:=S'
    simp only [hset] at h2
    subst h2
    have hfew3:=nodeR_few d false kd.sum (belowLo low n i) (belowHi high n i) l2 l3 ps3 (hfi.trans hfr)
    obtain ⟨⟨c,hc⟩,hq3⟩:=hfew3
    have hass:pairs++(P1++(ps2++ps3))=pairs++(P1++ps2)++ps3:=by simp
    refine Wk f1 ?_
    refine ⟨[.any,.any,.any,.any,.sl .none (n.kids.map kdD),iD n.kids.length,iD (i+1:Nat)],⟨(b12,36,.dg dg)::(b10,87,ndA n)::setM S.bk b (srD p wid l3 lo hi tp4 (pairs++(P1++(ps2++ps3)))),ow'⟩,?_,?_,⟨i+1,l3,ps2++ps3,tp4,ow',rfl,rfl,by omega,?_,fun y hy=>hls2 y (by rw [hc];simp [hy]),?_,?_⟩,?_⟩
    ·exact wK
    ·rw [hass];exact (Sto.Sub.refl _).cons
    ·rw [hrest,restK_some hlt hm hfr,Option.map_map]
     congr 1
     funext r
     simp
    ·rw [hass,List.length_append];omega
    ·rw [hass];exact h3
    ·exact mE
 obtain rfl:i=n.kids.length:=by omega
 have d2:decide ((n.kids.length:Int)<n.kids.length)=false:=decide_eq_false (by omega)
 rw [hrest,restK_end]
 refine Wk (Yy hb (Yy m10 (Yy m12 (Yy k_b10 (Yy k_b12 (Yy n1 d2)))))) ?_
 refine endrn (S':=⟨setM S.bk b (srD p wid l2 lo hi tp3 (pairs++(P1++ps2))),ow3⟩) (sR Y0) (by rfl) (Sto.Sub.refl _).cons.cons ⟨rfl,tp3,?_,?_⟩
 ·show _=setM S.bk b (srD p wid l2 lo hi tp3 (pairs++(P1++(ps2++[]))))
  rw [List.append_nil]
 ·show G1 _ _ _ _ _ ((pairs++(P1++(ps2++[]))).map prD)
  rw [List.append_nil];exact hg3

end Go.Proofs.YtcaggadjkccbiaaGreat