/- What two unlike proofs give is a clash (a plain law). -/
import Derived.Test.YtcaggadjkccbiaaGreatZ50
namespace Go.Proofs.YtcaggadjkccbiaaGreat
set_option linter.unusedVariables false
set_option linter.unusedSimpArgs false
open Go Go.RowKit

theorem textT_inj2 {t t' s s':Bs} (h1:t.length≤64) (h2:t'.length≤64) (h:textT t [s]=textT t' [s']):t=t'∧s=s':=by
 unfold textT at h
 simp only [List.cons_append,List.cons.injEq,List.flatMap_cons,List.flatMap_nil,List.append_nil] at h
 have h4:=h.2
 have h5:t.length=t'.length:=by
  have h3:=congrArg UInt8.toNat h.1
  rw [UInt8.toNat_ofNat',UInt8.toNat_ofNat'] at h3
  omega
 have h6:=List.append_inj h4 h5
 exact ⟨h6.1,(List.append_inj h6.2 (by simp [be4L])).2⟩
theorem sum_text {p wid:Int} {s:Bs} {n:Nd} (h:readP p wid s=some n):sumN p wid n=ofS wid (textR p wid s):=by
 obtain ⟨hm,hp,_,_⟩:=plain_read h
 have hr:=rightB_iff.1 (readP_ok h).1
 unfold sumN
 rw [if_pos hm,hp]
 unfold digS
 rw [if_pos (by omega:1≤wid∧wid≤32),if_pos (tagN_ok n).1]
 unfold textR
 rw [nodeOf_some h]
theorem clash_holds {p wid:Int} {u v:Bs} {n n':Nd} (hu:readP p wid u=some n) (hv:readP p wid v=some n') (hne:u≠v) (h0:(sumN p wid n).2=0) (h1:(sumN p wid n).1=(sumN p wid n').1) :
  clashB wid (textR p wid u) (textR p wid v)=true∧holdsB p wid (textR p wid u) (textR p wid v)=true:=by
 rw [sum_text hu] at h0 h1
 rw [sum_text hv] at h1
 have hc:clashB wid (textR p wid u) (textR p wid v)=true:=by
  unfold clashB
  refine decide_eq_true ⟨h0,fun h=>hne ?_,h1⟩
  unfold textR at h
  exact (textT_inj2 (by have:=(tagN_ok (nodeOf p wid u)).2;omega) (by have:=(tagN_ok (nodeOf p wid v)).2;omega) h).2
 refine ⟨hc,?_⟩
 unfold holdsB
 rw [hc,(readP_ok hu).1]
 rfl
def ClashW (p wid:Int) (c:Bs×Bs):Prop:=clashB wid c.1 c.2=true∧holdsB p wid c.1 c.2=true
theorem formP_good {p wid:Int} {key s:Bs} {first last:Bool} {r r':Rg} (h:formP p wid key s first last r=some r'):∃ n,readP p wid s=some n∧(sumN p wid n).2=0∧(sumN p wid n).1=r.want:=by
 unfold formP at h
 cases hn:readP p wid s with
 | none=>rw [hn] at h;cases h
 | some n=>
  rw [hn] at h
  simp only [] at h
  split at h
  ·rename_i hg
   refine ⟨n,rfl,?_⟩
   unfold goodB at hg
   simp only [Bool.and_eq_true,beq_iff_eq,decide_eq_true_eq] at hg
   exact ⟨hg.1.1.1.1,hg.1.1.1.2⟩
  ·cases h
set_option maxHeartbeats 1000000
set_option maxRecDepth 100000

def cntL (key:Bs) (l:List Bs):Nat:=(l.filter fun s=>leB s key).length
theorem aWay10 (n:Nd) (key:Bs) (S:Sto) (hn:n.seps.length≤140737488351232):ACalls Tryz.prog 75 [ndA n,sD key] S (RetQ (iD (cntL key n.seps:Nat)) S):=by
 refine acalls_of prg Tryz.func75 rfl (by kernel_rfl) (congrArg Array.toList Tryz.results75) Tryz.ntmps75 (fun B hB=>fA ?_)
 refine Wk Y0 ?_
 refine AW.loopS 7 [5,6] (fun xs S'=>∃ i:Nat,xs=[iD (cntL key (n.seps.take i):Nat),iD i]∧S'=S∧i≤n.seps.length) (fun xs _=>n.seps.length - nI (xs.getD 1 .any)) [iD 0,iD 0] S ?_ (Sto.Sub.refl _) ⟨0,rfl,rfl,by omega⟩ ?_
 ·exact wK
 rintro xs S' ⟨i,rfl,rfl,hi⟩
 refine fR ?_
 by_cases hlt:i<n.seps.length
 ·obtain ⟨x,hx⟩:∃ x,n.seps[i]?=some x:=⟨_,List.getElem?_eq_getElem hlt⟩
  have d1:decide ((i:Int)<n.seps.length)=true:=decide_eq_true (by omega)
  have gx:(n.seps.map sD)[i]?=some (sD x):=by rw [List.getElem?_map,hx];rfl
  have g0:(0:Int)≤i:=by omega
  have f1:IntKind.i64.wrap ((i:Int)+1)=((i+1:Nat):Int):=IntWalk.i64_in _ (by omega)
  have hcn:cntL key (n.seps.take i)≤i:=by unfold cntL;exact Nat.le_trans (List.length_filter_le _ _) (by rw [List.length_take];omega)
  have hst:cntL key (n.seps.take (i+1))=cntL key (n.seps.take i)+(if leB x key=true then 1 else 0):=by
   unfold cntL
   rw [List.take_add_one,hx,List.filter_append,List.length_append]
   cases h:leB x key <;> simp [h]
  generalize cntL key (n.seps.take i)=k at hcn hst ⊢
  have f2:IntKind.i64.wrap ((k:Int)+1)=((k+1:Nat):Int):=IntWalk.i64_in _ (by omega)
  cases hb:leB x key with
  | true=>
   have z0:(Op.bytesLess x key || x == key)=true:=hb
   rw [hb,if_pos rfl] at hst
   refine Wk (Yy d1 (Yy gx (Yy g0 (Yy Int.toNat_natCast (Yy z0 (Yy f1 f2)))))) ?_
   refine ⟨[iD (k+1:Nat),iD (i+1:Nat)],S',?_,Sto.Sub.refl _,⟨i+1,by rw [hst],rfl,by omega⟩,?_⟩
   ·exact wK
   ·exact mE
  | false=>
   have z0:(Op.bytesLess x key || x == key)=false:=hb
   rw [hb,if_neg (by simp)] at hst
   refine Wk (Yy d1 (Yy gx (Yy g0 (Yy Int.toNat_natCast (Yy z0 f1))))) ?_
   refine ⟨[iD k,iD (i+1:Nat)],S',?_,Sto.Sub.refl _,⟨i+1,by rw [hst];rfl,rfl,by omega⟩,?_⟩
   ·exact wK
   ·exact mE
 obtain rfl:i=n.seps.length:=by omega
 have d1:decide ((n.seps.length:Int)<n.seps.length)=false:=decide_eq_false (by omega)
 rw [List.take_length]
 refine Wk d1 ?_
 exact rE

def idxI (key:Bs) (l:List Pr):Int:=if (l.any fun q=>q.1 == key)=true then ((l.takeWhile fun q=>!(q.1 == key)).length:Nat) else -1
theorem tw_len {key:Bs}:∀ (l:List Pr) (i:Nat) (x:Pr),l[i]?=some x→(x.1 == key)=true→(∀ q∈l.take i,(q.1 == key)=false)→(l.takeWhile fun q=>!(q.1 == key)).length=i
 | [],i,x,h,_,_=>by simp at h
 | q::l,0,x,h,hx,_=>by
  simp only [List.getElem?_cons_zero,Option.some.injEq] at h
  subst h
  rw [List.takeWhile_cons_of_neg (by rw [hx];simp)]
  rfl
 | q::l,i+1,x,h,hx,ha=>by
  have hq:=ha q (by simp)
  rw [List.takeWhile_cons_of_pos (by rw [hq];rfl),List.length_cons,tw_len l i x (by simpa using h) hx (fun y hy=>ha y (by simp [hy]))]
theorem aMixed1 (q:Pr) (key:Bs) (S:Sto):ACalls Tryz.prog 35 [prD q,.pt (sD key)] S (RetQ (bD (q.1 == key)) S):=by
 refine acalls_of prg Tryz.func35 rfl (by kernel_rfl) (congrArg Array.toList Tryz.results35) Tryz.ntmps35 (fun B hB=>fA ?_)
 refine Wk Y0 ?_
 exact rE
theorem aIndexFunc (l:List Pr) (key:Bs) (S:Sto) (hl:l.length≤20000000000):ACalls Tryz.prog 34 [.sl .none (l.map prD),.fn 35 [.pt (sD key)]] S (RetQ (iD (idxI key l)) S):=by
 obtain ⟨G,hG⟩:∃ G,idxI key l=G:=⟨_,rfl⟩
 rw [hG]
 refine acalls_of prg Tryz.func34 rfl (by kernel_rfl) (congrArg Array.toList Tryz.results34) Tryz.ntmps34 (fun B hB=>fA ?_)
 refine Wk Y0 ?_
 refine AW.loopS 6 [5,7,8] (fun xs S'=>∃ i:Nat,xs=[.any,iD l.length,iD i]∧S'=S∧i≤l.length∧∀ q∈l.take i,(q.1 == key)=false) (fun xs _=>l.length - nI (xs.getD 2 .any)) [.any,iD l.length,iD 0] S ?_ (Sto.Sub.refl _) ⟨0,rfl,rfl,by omega,by simp⟩ ?_
 ·exact wK
 rintro xs S' ⟨i,rfl,rfl,hi,ha⟩
 refine fR ?_
 by_cases hlt:i<l.length
 ·obtain ⟨x,hx⟩:∃ x,l[i]?=some x:=⟨_,List.getElem?_eq_getElem hlt⟩
  have d1:decide ((i:Int)<l.length)=true:=decide_eq_true (by omega)
  have gx:(l.map prD)[i]?=some (prD x):=by rw [List.getElem?_map,hx];rfl
  have g0:(0:Int)≤i:=by omega
  have f1:IntKind.i64.wrap ((i:Int)+1)=((i+1:Nat):Int):=IntWalk.i64_in _ (by omega)
  have cM:=fun S=>aMixed1 x key S
  cases hb:(x.1 == key) with
  | true=>
   rw [hb] at cM
   have hf:G=(i:Nat):=by
    rw [← hG];unfold idxI
    rw [if_pos (List.any_eq_true.2 ⟨x,List.mem_of_getElem? hx,hb⟩),tw_len l i x hx hb ha]
   subst hf
   refine Wk (Yy d1 (Yy gx (Yy g0 Int.toNat_natCast))) ?_
   refine wi (c:=by exact (cM _)) (k:=?_)
   refine Wk Y0 ?_
   exact rE
  | false=>
   rw [hb] at cM
   refine Wk (Yy d1 (Yy gx (Yy g0 Int.toNat_natCast))) ?_
   refine wi (c:=by exact (cM _)) (k:=?_)
   refine Wk f1 ?_
   refine ⟨[.any,iD l.length,iD (i+1:Nat)],S',?_,Sto.Sub.refl _,⟨i+1,rfl,rfl,by omega,fun q hq=>?_⟩,?_⟩
   ·exact wK
   ·rw [List.take_add_one,hx] at hq
    rcases List.mem_append.1 hq with h | h
    ·exact ha q h
    ·simp only [Option.toList_some,List.mem_singleton] at h;subst h;exact hb
   ·exact mE
 obtain rfl:i=l.length:=by omega
 rw [List.take_length] at ha
 have hf:G = -1:=by
  rw [← hG];unfold idxI
  rw [if_neg (fun h=>by obtain ⟨q,hq,h1⟩:=List.any_eq_true.1 h;rw [ha q hq] at h1;cases h1)]
 subst hf
 have d1:decide ((l.length:Int)<l.length)=false:=decide_eq_false (by omega)
 refine Wk d1 ?_
 exact rE

def restS (f:List Bs→Option (List Bs)) (lo hi:Bs) (n:Nd) (i:Nat) (l:List Bs):Option (List Bs):=skipK f (((List.range n.kids.length).drop i).filter (mayK lo hi n)) l
theorem aBehind (p wid:Int) (lo hi:Bs) (F:List Bs) (hF:F.length≤1000000000) (hsz:∀ x∈F,x.length≤1048576):∀ (d a:Nat) (l':List Bs) (S:Sto),skipR p wid lo hi d (F.drop a)=some l' →
  ACalls Tryz.prog 77 [frD p wid,.sl .none (F.map sD),iD a,sD lo,sD hi] S (RetQ (iD (F.length - l'.length:Nat)) S):=by
 intro d
 induction d with
 | zero=>intro a l' S h;cases h
 | succ d ih=>
 intro a l' S h
 have ha:a<F.length:=Classical.byContradiction fun q=>by rw [List.drop_eq_nil_of_le (by omega),skipR_nil] at h;cases h
 obtain ⟨x,hx⟩:∃ x,F[a]?=some x:=⟨_,List.getElem?_eq_getElem ha⟩
 have hdr:F.drop a=x::F.drop (a+1):=by
  rw [List.drop_eq_getElem_cons ha];congr 1;exact Option.some.inj ((List.getElem?_eq_getElem ha).symm.trans hx)
 rw [hdr,skipR_succ] at h
 cases hn:readP p wid x with
 | none=>rw [hn] at h;cases h
 | some n=>
 rw [hn] at h
 have h:restS (skipR p wid lo hi d) lo hi n 0 (F.drop (a+1))=some l':=h
 have hxs:=hsz x (List.mem_of_getElem? hx)
 have ho:NdOk n:=parseP_ok (by omega) (readP_ok hn).2.2
 have hns:=ho.ns
 have hkk:=read_kids hn
 have hfew:=(read_few hn).2
 have cR:=fun S=>aRead p wid x S (by omega)
 rw [hn] at cR
 have cR:∀ S,ACalls Tryz.prog 74 [frD p wid,sD x] S (RetQ (.tup [ndA n,iD 0]) S):=cR
 have gx:(F.map sD)[a]?=some (sD x):=by rw [List.getElem?_map,hx];rfl
 have g0:(0:Int)≤a:=by omega
 have f1:IntKind.i64.wrap ((a:Int)+1)=((a+1:Nat):Int):=IntWalk.i64_in _ (by omega)
 refine acalls_of prg Tryz.func77 rfl (by kernel_rfl) (congrArg Array.toList Tryz.results77) Tryz.ntmps77 (fun B hB=>fA ?_)
 refine Wk Y0 ?_
 refine vx ?_
 refine Wu (Yy gx (Yy g0 Int.toNat_natCast)) ?_
 refine cU (cR) ?_
 refine Wu Y0 ?_
 rintro b11 ⟨k_b11,o_b11⟩
 refine Wu k_b11 ?_
 refine Wk (Yy k_b11 f1) ?_
 refine AW.loopS 14 [2,13] (fun xs S'=>∃ (j a':Nat),xs=[iD a',iD j]∧S'=⟨(b11,87,ndA n)::S.bk,S.ow⟩∧j≤n.kids.length∧a'≤F.length∧restS (skipR p wid lo hi d) lo hi n j (F.drop a')=some l') (fun xs _=>n.kids.length - nI (xs.getD 1 .any)) [iD (a+1:Nat),iD 0] _ ?_ (Sto.Sub.refl _) ⟨0,a+1,rfl,rfl,by omega,by omega,h⟩ ?_
 ·exact wK
 rintro xs S' ⟨j,a',rfl,rfl,hj,ha',hsk⟩
 refine fR ?_
 by_cases hlt:j<n.kids.length
 ·have d1:decide ((j:Int)<n.kids.length)=true:=decide_eq_true (by omega)
  have f2:IntKind.i64.wrap ((j:Int)+1)=((j+1:Nat):Int):=IntWalk.i64_in _ (by omega)
  have cM:=fun S=>aRMay n j lo hi S (by omega) (by omega)
  unfold restS at hsk
  rw [range_drop hlt] at hsk
  cases hm:mayK lo hi n j with
  | false=>
   rw [hm] at cM
   rw [List.filter_cons_of_neg (by rw [hm];simp)] at hsk
   refine Wk (Yy d1 k_b11) ?_
   refine cQ (cM _) ?_
   refine Wk f2 ?_
   refine ⟨[iD a',iD (j+1:Nat)],_,?_,Sto.Sub.refl _,⟨j+1,a',rfl,rfl,by omega,ha',hsk⟩,?_⟩
   ·exact wK
   ·exact mE
  | true=>
   rw [hm] at cM
   rw [List.filter_cons_of_pos hm,skipK] at hsk
   cases h1:skipR p wid lo hi d (F.drop a') with
   | none=>rw [h1] at hsk;cases hsk
   | some l1=>
    rw [h1] at hsk
    obtain ⟨c,hc⟩:=skipR_suf d _ _ h1
    have hsd:=suf_drop hc
    have cP:=fun S=>ih a' l1 S h1
    refine Wk (Yy d1 k_b11) ?_
    refine cQ (cM _) ?_
    refine Wk Y0 ?_
    refine cQ (cP _) ?_
    refine Wk f2 ?_
    refine ⟨[iD (F.length - l1.length:Nat),iD (j+1:Nat)],_,?_,Sto.Sub.refl _,⟨j+1,F.length - l1.length,rfl,rfl,by omega,by omega,by rw [hsd];exact hsk⟩,?_⟩
    ·exact wK
    ·exact mE
 obtain rfl:j=n.kids.length:=by omega
 have d1:decide ((n.kids.length:Int)<n.kids.length)=false:=decide_eq_false (by omega)
 unfold restS at hsk
 rw [List.drop_eq_nil_of_le (by simp)] at hsk
 simp only [List.filter_nil,skipK,Option.some.injEq] at hsk
 have hend:F.length - l'.length=a':=by rw [← hsk,List.length_drop];omega
 rw [hend]
 refine Wk d1 ?_
 refine endq (S':=S) (sR Y0) (by rfl) (Sto.Sub.refl _).cons


def keyF (key:Bs) (l:List Pr):List Pr:=l.filter fun q=>q.1 == key
theorem lastA_key (key:Bs):∀ (l:List Pr) (a:Option Bs),lastA key l a=lastA key (keyF key l) a
 | [],_=>rfl
 | q::l,a=>by
  unfold keyF
  by_cases h:q.1=key
  ·rw [List.filter_cons_of_pos (by simpa using h)]
   exact lastA_key key l _
  ·rw [List.filter_cons_of_neg (by simpa using h)]
   show lastA key l _=_
   rw [if_neg h]
   exact lastA_key key l a
theorem keyF_none {key:Bs} {l:List Pr} (h:∀ q∈l,q.1≠key):keyF key l=[]:=by
 unfold keyF
 exact List.filter_eq_nil_iff.2 fun q hq=>by simpa using h q hq
theorem keyF_rng {key lo hi:Bs} (hk:rngB lo hi key=true) (l:List Pr):keyF key (l.filter fun q=>rngB lo hi q.1)=keyF key l:=by
 unfold keyF
 rw [List.filter_filter]
 apply List.filter_congr
 intro q _
 cases h:(q.1 == key) with
 | false=>rfl
 | true=>rw [beq_iff_eq.1 h,hk];rfl
theorem rises_above {m:Nat}:∀ (l:List Bs) (s:Bs),risesFrom m (some s) l=true→∀ y∈l,Op.bytesLess s y=true
 | [],_,_,y,hy=>by cases hy
 | t::l,s,h,y,hy=>by
  simp only [risesFrom,Bool.and_eq_true] at h
  rcases List.mem_cons.1 hy with rfl | hy
  ·exact h.1.2
  ·exact less_trans h.1.2 (rises_above l t h.2 y hy)
theorem rises_at {m:Nat}:∀ (l:List Bs) (pv:Option Bs) (i j:Nat) (x y:Bs),risesFrom m pv l=true→i<j→l[i]?=some x→l[j]?=some y→Op.bytesLess x y=true
 | [],_,i,j,x,y,_,_,h,_=>by simp at h
 | s::l,pv,0,0,x,y,h,h0,h1,h2=>by omega
 | s::l,pv,i+1,0,x,y,h,h0,h1,h2=>by omega
 | s::l,pv,0,j+1,x,y,h,_,h1,h2=>by
  simp only [risesFrom,Bool.and_eq_true] at h
  simp only [List.getElem?_cons_zero,Option.some.injEq] at h1
  subst h1
  exact rises_above l s h.2 y (List.mem_of_getElem? (by simpa using h2))
 | s::l,pv,i+1,j+1,x,y,h,hij,h1,h2=>by
  simp only [risesFrom,Bool.and_eq_true] at h
  exact rises_at l (some s) i j x y h.2 (by omega) (by simpa using h1) (by simpa using h2)
theorem keyF_rises {key:Bs} {m:Nat}:∀ (l:List Pr) (pv:Option Bs),risesFrom m pv (l.map (·.1))=true→(keyF key l).length≤1
 | [],_,_=>Nat.zero_le _
 | q::l,pv,h=>by
  simp only [List.map_cons,risesFrom,Bool.and_eq_true] at h
  unfold keyF
  by_cases hq:q.1=key
  ·rw [List.filter_cons_of_pos (by simpa using hq)]
   have:l.filter (fun q=>q.1 == key)=[]:=keyF_none fun x hx e=>by
    have:=rises_above _ _ h.2 x.1 (List.mem_map.2 ⟨x,hx,rfl⟩)
    rw [hq,e,less_irrefl] at this;cases this
   rw [this];exact Nat.le_refl _
  ·rw [List.filter_cons_of_neg (by simpa using hq)]
   exact keyF_rises l _ h.2
theorem way_lt {key:Bs}:∀ (l:List Bs) (i:Nat) (x:Bs),i<wayL key l→l[i]?=some x→leB x key=true
 | [],i,x,h,_=>by simp [wayL] at h
 | s::l,i,x,h,hx=>by
  unfold wayL at h
  split at h
  ·rename_i hs
   cases i with
   | zero=>simp only [List.getElem?_cons_zero,Option.some.injEq] at hx;subst hx;exact hs
   | succ i=>exact way_lt l i x (by omega) (by simpa using hx)
  ·omega
theorem way_at {key:Bs}:∀ (l:List Bs) (x:Bs),l[wayL key l]?=some x→leB x key=false
 | [],x,h=>by simp at h
 | s::l,x,h=>by
  unfold wayL at h
  split at h
  ·exact way_at l x (by simpa using h)
  ·rename_i hs
   simp only [List.getElem?_cons_zero,Option.some.injEq] at h
   subst h
   simpa using hs
theorem leB_not {s key:Bs} (h:leB s key=false):Op.bytesLess key s=true:=by
 unfold leB at h
 rw [Bool.or_eq_false_iff] at h
 rcases less_total h.1 with h1 | h1
 ·rw [h1] at h;simp at h
 ·exact h1
theorem leB_iff {s key:Bs} (h:leB s key=true):Op.bytesLess key s=false:=by
 unfold leB at h
 rw [Bool.or_eq_true] at h
 cases hk:Op.bytesLess key s with
 | false=>rfl
 | true=>
  rcases h with h | h
  ·have:=less_trans h hk;rw [less_irrefl] at this;cases this
  ·rw [beq_iff_eq.1 h,less_irrefl] at hk;cases hk
theorem cnt_way {key:Bs} {m:Nat}:∀ (l:List Bs) (pv:Option Bs),risesFrom m pv l=true→cntL key l=wayL key l
 | [],_,_=>rfl
 | s::l,pv,h=>by
  simp only [risesFrom,Bool.and_eq_true] at h
  unfold cntL wayL
  cases hs:leB s key with
  | true=>
   rw [List.filter_cons_of_pos (p:=fun s=>leB s key) hs,if_pos rfl,List.length_cons]
   have:=cnt_way (key:=key) l _ h.2
   unfold cntL at this
   rw [this]
  | false=>
   rw [List.filter_cons_of_neg (p:=fun s=>leB s key) (by simp [hs]),if_neg (by simp)]
   rw [List.filter_eq_nil_iff.2 fun x hx hle=>?_]
   ·rfl
   ·have h1:=less_trans (leB_not hs) (rises_above _ _ h.2 x hx)
    rw [leB_iff hle] at h1;cases h1
def InB (lo hi:Option Bs) (k:Bs):Prop:=(∀ l,lo=some l→Op.bytesLess k l=false)∧(∀ h,hi=some h→Op.bytesLess k h=true)
theorem inB_iff {lo hi:Option Bs} {k:Bs} (h:inB lo hi k false=true):InB lo hi k:=by
 refine ⟨fun l hl=>?_,fun u hu=>?_⟩
 ·subst hl;exact in_low (sharp:=false) h
 ·subst hu;exact in_high h
theorem inB_sharp {lo hi:Option Bs} {s:Bs} (h:inB lo hi s true=true):(∀ l,lo=some l→Op.bytesLess l s=true)∧(∀ u,hi=some u→Op.bytesLess s u=true):=by
 refine ⟨fun l hl=>?_,fun u hu=>?_⟩
 ·subst hl
  have h1:=in_low (sharp:=true) h
  unfold lessQ at h1
  rw [if_pos rfl,Bool.or_eq_false_iff] at h1
  rcases less_total h1.1 with h2 | h2
  ·rw [h2] at h1;simp at h1
  ·exact h2
 ·subst hu;exact in_high h
theorem read_branch {p wid:Int} {s:Bs} {n:Nd} (h:readP p wid s=some n) (hk:n.kids.length≠0):n.pairs=[]∧n.seps.length+1=n.kids.length∧risesFrom (p.toNat / 16) none n.seps=true:=by
 have hl:leafB n=false:=by rw [read_leaf h];simpa using hk
 have hsh:=(checkE_ok (mayE_ok (readP_ok h).2.1).1).2
 unfold shapedB at hsh
 rw [if_neg (by rw [hl];simp)] at hsh
 simp only [Bool.and_eq_true,decide_eq_true_eq] at hsh
 exact ⟨List.length_eq_zero_iff.1 hsh.1.1.1.1,hsh.1.1.2,hsh.2⟩
theorem in_below {low high:Option Bs} {n:Nd} {i:Nat} {k:Bs} (hkp:keptB low high n=true) (hi:i≤n.seps.length) (h:InB (belowLo low n i) (belowHi high n i) k):InB low high k:=by
 unfold keptB at hkp
 rw [Bool.and_eq_true] at hkp
 have hs:=fun s hs=>inB_sharp (List.all_eq_true.1 hkp.2 s hs)
 refine ⟨fun l hl=>?_,fun u hu=>?_⟩
 ·have h1:=h.1
  unfold belowLo at h1
  split at h1
  ·obtain ⟨s,hs1⟩:∃ s,n.seps[i - 1]?=some s:=⟨_,List.getElem?_eq_getElem (by omega)⟩
   have h2:=h1 s hs1
   have h3:=(hs s (List.mem_of_getElem? hs1)).1 l hl
   cases h4:Op.bytesLess k l with
   | false=>rfl
   | true=>rw [less_trans h4 h3] at h2;cases h2
  ·exact h1 l hl
 ·have h1:=h.2
  unfold belowHi at h1
  split at h1
  ·rename_i hlt
   obtain ⟨s,hs1⟩:∃ s,n.seps[i]?=some s:=⟨_,List.getElem?_eq_getElem hlt⟩
   exact less_trans (h1 s hs1) ((hs s (List.mem_of_getElem? hs1)).2 u hu)
  ·exact h1 u hu
theorem in_other {low high:Option Bs} {n:Nd} {key k:Bs} {m i:Nat} (hr:risesFrom m none n.seps=true) (hi:i≤n.seps.length) (hne:i≠wayL key n.seps) (h:InB (belowLo low n i) (belowHi high n i) k):k≠key:=by
 intro e
 subst e
 rcases Nat.lt_or_gt_of_ne hne with hlt | hlt
 ·have hw:=wayL_le k n.seps
  obtain ⟨s,hs⟩:∃ s,n.seps[i]?=some s:=⟨_,List.getElem?_eq_getElem (by omega)⟩
  have h1:=h.2 s (by unfold belowHi;rw [if_pos (by omega)];exact hs)
  rw [leB_iff (way_lt _ _ s hlt hs)] at h1;cases h1
 ·obtain ⟨s,hs⟩:∃ s,n.seps[i - 1]?=some s:=⟨_,List.getElem?_eq_getElem (by omega)⟩
  have h1:=h.1 s (by unfold belowLo;rw [if_pos (by omega)];exact hs)
  obtain ⟨t,ht⟩:∃ t,n.seps[wayL k n.seps]?=some t:=⟨_,List.getElem?_eq_getElem (by omega)⟩
  have h2:=leB_not (way_at _ t ht)
  rcases Nat.lt_or_ge (wayL k n.seps) (i - 1) with h3 | h3
  ·rw [less_trans h2 (rises_at _ _ _ _ _ _ hr h3 ht hs)] at h1;cases h1
  ·rw [show i - 1=wayL k n.seps by omega,ht] at hs
   rw [Option.some.inj hs] at h2
   rw [h2] at h1;cases h1
theorem may_way {lo hi key:Bs} {n:Nd} (hk:rngB lo hi key=true) (hl:n.seps.length+1=n.kids.length):wayL key n.seps∈kidsL lo hi n:=by
 have hw:=wayL_le key n.seps
 unfold kidsL
 rw [List.mem_filter,List.mem_range]
 refine ⟨by omega,?_⟩
 unfold rngB at hk
 simp only [Bool.and_eq_true,Bool.not_eq_true',Bool.or_eq_true,beq_iff_eq] at hk
 unfold mayK
 rw [Bool.and_eq_true]
 constructor
 ·cases hs:n.seps[wayL key n.seps]? with
  | none=>rfl
  | some s=>
   have h1:=leB_not (way_at _ s hs)
   rcases less_total hk.1 with h2 | h2
   ·rw [← h2];exact h1
   ·exact less_trans h2 h1
 ·rcases Nat.eq_zero_or_pos (wayL key n.seps) with h0 | h0
  ·rw [h0];rfl
  ·obtain ⟨s,hs⟩:∃ s,n.seps[wayL key n.seps - 1]?=some s:=⟨_,List.getElem?_eq_getElem (by omega)⟩
   rw [hs]
   rcases hk.2 with h2 | h2
   ·rw [h2];simp
   ·have h3:Op.bytesLess s hi=true:=by
     have h4:=way_lt _ _ s (by omega:wayL key n.seps - 1<wayL key n.seps) hs
     unfold leB at h4
     rw [Bool.or_eq_true] at h4
     rcases h4 with h4 | h4
     ·exact less_trans h4 h2
     ·rw [beq_iff_eq.1 h4];exact h2
    simp [h3]

theorem kidsF_mem {f:Nat→List Bs→Option (List Bs×List Pr)} {q:Pr}:∀ {is:List Nat} {l l':List Bs} {ps:List Pr},kidsF f is l=some (l',ps)→q∈ps→∃ i∈is,∃ l0 l1 pi,f i l0=some (l1,pi)∧q∈pi
 | [],l,l',ps,h,hq=>by
  simp only [kidsF,Option.some.injEq,Prod.mk.injEq] at h
  rw [← h.2] at hq;cases hq
 | i::is,l,l',ps,h,hq=>by
  unfold kidsF at h
  cases h1:f i l with
  | none=>rw [h1] at h;cases h
  | some r=>
   obtain ⟨l1,p1⟩:=r
   rw [h1] at h
   obtain ⟨⟨l2,p2⟩,g1,g2⟩:=Option.map_eq_some_iff.1 h
   simp only [Prod.mk.injEq] at g2
   obtain ⟨rfl,rfl⟩:=g2
   rcases List.mem_append.1 hq with hq | hq
   ·exact ⟨i,by simp,l,l1,p1,h1,hq⟩
   ·obtain ⟨j,hj,x⟩:=kidsF_mem g1 hq
    exact ⟨j,List.mem_cons_of_mem _ hj,x⟩
theorem nodeR_open {p wid:Int} {lo hi:Bs} {d:Nat} {first:Bool} {sum:Dg} {low high:Option Bs} {x:Bs} {l l':List Bs} {ps:List Pr} (h:nodeR p wid lo hi (d+1) first sum low high (x::l)=some (l',ps)):∃ n ks,readP p wid x=some n∧spanB p wid first sum low high n=true ∧
  kidsF (fun i l=>nodeR p wid lo hi d false (kidSum n i) (belowLo low n i) (belowHi high n i) l) (kidsL lo hi n) l=some (l',ks)∧ps=n.pairs.filter (fun q=>rngB lo hi q.1)++ks:=by
 rw [nodeR_succ] at h
 cases hn:readP p wid x with
 | none=>rw [hn] at h;cases h
 | some n=>
  rw [hn] at h
  simp only [] at h
  split at h
  ·rename_i hg
   obtain ⟨⟨l2,p2⟩,g1,g2⟩:=Option.map_eq_some_iff.1 h
   simp only [Prod.mk.injEq] at g2
   obtain ⟨rfl,rfl⟩:=g2
   exact ⟨n,p2,rfl,hg,g1,rfl⟩
  ·cases h
theorem spanB_kept {p wid:Int} {first:Bool} {sum:Dg} {low high:Option Bs} {n:Nd} (h:spanB p wid first sum low high n=true):keptB low high n=true:=by
 unfold spanB at h
 simp only [Bool.and_eq_true] at h
 exact h.1.2
theorem nodeR_in {p wid:Int} {lo hi:Bs}:∀ (d:Nat) (first:Bool) (sum:Dg) (low high:Option Bs) (l l':List Bs) (ps:List Pr),nodeR p wid lo hi d first sum low high l=some (l',ps)→∀ q∈ps,InB low high q.1
 | 0,_,_,_,_,_,_,_,h=>by cases h
 | _+1,_,_,_,_,[],_,_,h=>by cases h
 | d+1,first,sum,low,high,x::l,l',ps,h=>by
  obtain ⟨n,ks,hn,hg,hk,rfl⟩:=nodeR_open h
  have hkp:=spanB_kept hg
  intro q hq
  rcases List.mem_append.1 hq with hq | hq
  ·unfold keptB at hkp
   rw [Bool.and_eq_true] at hkp
   exact inB_iff (List.all_eq_true.1 hkp.1 q (List.mem_filter.1 hq).1)
  ·obtain ⟨i,hi1,l0,l1,pi,hf,hq⟩:=kidsF_mem hk hq
   have h1:=nodeR_in d _ _ _ _ _ _ _ hf q hq
   have h2:=List.mem_range.1 (List.mem_filter.1 hi1).1
   have h3:=read_kids hn
   exact in_below hkp (by omega) h1
theorem kids_key {key:Bs} {f:Nat→List Bs→Option (List Bs×List Pr)} {g:List Bs→Option (List Bs)} (hs:∀ i l l' ps,f i l=some (l',ps)→g l=some l') {w:Nat}:∀ (is:List Nat) (l l':List Bs) (ps:List Pr),is.Nodup→kidsF f is l=some (l',ps)→(∀ j∈is,j≠w→∀ l l' ps,f j l=some (l',ps)→keyF key ps=[]) →
  (w ∉ is→keyF key ps=[])∧(w∈is→∃ li l2 pw,kidRest g is l w=some li∧f w li=some (l2,pw)∧keyF key ps=keyF key pw)
 | [],l,l',ps,_,h,_=>by
  simp only [kidsF,Option.some.injEq,Prod.mk.injEq] at h
  rw [← h.2]
  exact ⟨fun _=>rfl,fun h=>(by cases h)⟩
 | i::is,l,l',ps,hnd,h,ho=>by
  unfold kidsF at h
  cases h1:f i l with
  | none=>rw [h1] at h;cases h
  | some r=>
   obtain ⟨l1,p1⟩:=r
   rw [h1] at h
   obtain ⟨⟨l2,p2⟩,g1,g2⟩:=Option.map_eq_some_iff.1 h
   simp only [Prod.mk.injEq] at g2
   obtain ⟨rfl,rfl⟩:=g2
   obtain ⟨n1,n2⟩:=List.nodup_cons.1 hnd
   obtain ⟨a1,a2⟩:=kids_key hs is l1 l2 p2 n2 g1 (fun j hj=>ho j (List.mem_cons_of_mem _ hj))
   have happ:keyF key (p1++p2)=keyF key p1++keyF key p2:=List.filter_append _ _
   by_cases hiw:i=w
   ·subst hiw
    refine ⟨fun hq=>absurd (by simp) hq,fun _=>⟨l,l1,p1,by unfold kidRest;rw [if_pos rfl],h1,?_⟩⟩
    rw [happ,a1 n1,List.append_nil]
   ·have hp1:keyF key p1=[]:=ho i (by simp) hiw _ _ _ h1
    rw [happ,hp1,List.nil_append]
    refine ⟨fun hq=>a1 (fun hm=>hq (List.mem_cons_of_mem _ hm)),fun hm=>?_⟩
    have hm':w∈is:=by
     rcases List.mem_cons.1 hm with h2 | h2
     ·exact absurd h2.symm hiw
     ·exact h2
    obtain ⟨li,l3,pw,b1,b2,b3⟩:=a2 hm'
    refine ⟨li,l3,pw,?_,b2,b3⟩
    unfold kidRest
    rw [if_neg hiw,hs i _ _ _ h1]
    exact b1
theorem node_key {p wid:Int} {lo hi key:Bs} (hk:rngB lo hi key=true) {d:Nat} {low high:Option Bs} {x:Bs} {n:Nd} {l l':List Bs} {ks:List Pr} (hn:readP p wid x=some n) (h0:n.kids.length≠0)
  (hf:kidsF (fun i l=>nodeR p wid lo hi d false (kidSum n i) (belowLo low n i) (belowHi high n i) l) (kidsL lo hi n) l=some (l',ks)) :
  ∃ li l2 pw,kidRest (skipR p wid lo hi d) (kidsL lo hi n) l (wayL key n.seps)=some li∧nodeR p wid lo hi d false (kidSum n (wayL key n.seps)) (belowLo low n (wayL key n.seps)) (belowHi high n (wayL key n.seps)) li=some (l2,pw)∧keyF key (n.pairs.filter (fun q=>rngB lo hi q.1)++ks)=keyF key pw:=by
 obtain ⟨e1,e2,e3⟩:=read_branch hn h0
 have hnd:(kidsL lo hi n).Nodup:=List.Pairwise.filter _ List.nodup_range
 obtain ⟨li,l2,pw,h1,h2,h3⟩:=(kids_key (key:=key) (w:=wayL key n.seps) (fun i l l' ps h=>node_skip d _ _ _ _ l l' ps h) _ _ _ _ hnd hf (fun j hj hne l l' ps h=>keyF_none fun q hq=>by
  have h2:=List.mem_range.1 (List.mem_filter.1 hj).1
  exact in_other e3 (by omega) hne (nodeR_in d _ _ _ _ _ _ _ h q hq))).2 (may_way hk e2)
 refine ⟨li,l2,pw,h1,h2,?_⟩
 rw [e1]
 exact h3
theorem keyF_one {p wid:Int} {lo hi key:Bs} (hk:rngB lo hi key=true):∀ (d:Nat) (first:Bool) (sum:Dg) (low high:Option Bs) (l l':List Bs) (ps:List Pr),nodeR p wid lo hi d first sum low high l=some (l',ps)→(keyF key ps).length≤1
 | 0,_,_,_,_,_,_,_,h=>by cases h
 | _+1,_,_,_,_,[],_,_,h=>by cases h
 | d+1,first,sum,low,high,x::l,l',ps,h=>by
  obtain ⟨n,ks,hn,hg,hf,rfl⟩:=nodeR_open h
  by_cases h0:n.kids.length=0
  ·have hkl:kidsL lo hi n=[]:=by unfold kidsL;rw [h0];rfl
   rw [hkl] at hf
   simp only [kidsF,Option.some.injEq,Prod.mk.injEq] at hf
   rw [← hf.2,List.append_nil,keyF_rng hk]
   exact keyF_rises _ _ (read_rises hn (by rw [read_leaf hn];simpa using h0))
  ·obtain ⟨li,l2,pw,_,h2,h3⟩:=node_key hk hn h0 hf
   rw [h3]
   exact keyF_one hk d _ _ _ _ _ _ _ h2
def wayR (p wid:Int) (key lo hi:Bs):Nat→List Bs→List Bs
 | 0,_=>[]
 | _+1,[]=>[]
 | d+1,x::l=>x::(if (nodeOf p wid x).kids.length=0 then [] else match kidRest (skipR p wid lo hi d) (kidsL lo hi (nodeOf p wid x)) l (wayL key (nodeOf p wid x).seps) with
  | some li=>wayR p wid key lo hi d li
  | none=>[])
theorem wayR_succ {p wid:Int} {key lo hi:Bs} {d:Nat} {x:Bs} {l:List Bs}:wayR p wid key lo hi (d+1) (x::l)=x::(if (nodeOf p wid x).kids.length=0 then [] else match kidRest (skipR p wid lo hi d) (kidsL lo hi (nodeOf p wid x)) l (wayL key (nodeOf p wid x).seps) with
  | some li=>wayR p wid key lo hi d li
  | none=>[]):=rfl


theorem formP_sum {p wid:Int} {key s:Bs} {first last:Bool} {r r':Rg} (h:formP p wid key s first last r=some r'):∃ n,readP p wid s=some n∧((n.kids.length == 0)=last)∧r'=nextR key last r n∧(sumN p wid n).2=0∧(sumN p wid n).1=r.want:=by
 obtain ⟨n,h1,h2,h3⟩:=formP_some h
 obtain ⟨n',g1,g2,g3⟩:=formP_good h
 rw [h1] at g1
 obtain rfl:=Option.some.inj g1
 exact ⟨n,h1,h2,h3,g2,g3⟩
theorem mixed_walk {p wid:Int} {lo hi key:Bs} (hk:rngB lo hi key=true):∀ (l:List Bs) (i d:Nat) (first:Bool) (r r1:Rg) (m m':List Bs) (ps:List Pr),readF p wid key i l r=some r1→nodeR p wid lo hi d first r.want r.lo r.hi m=some (m',ps)→l≠[]→r1.ans≠lastA key ps r.ans →
  ∃ c,walkS p wid (oneC key) (sideL l) (sideG p wid lo hi d m)=(c,true,0)∧firstR p wid l (wayR p wid key lo hi d m)=(c,0)∧ClashW p wid c
 | [],_,_,_,_,_,_,_,_,_,_,h,_=>absurd rfl h
 | _::_,_,0,_,_,_,_,_,_,_,h,_,_=>by cases h
 | _::_,_,_+1,_,_,_,[],_,_,_,h,_,_=>by cases h
 | x::l,i,d+1,first,r,r1,y::m,m',ps,h1,h2,_,hne=>by
  obtain ⟨ra,f1,g1⟩:=readF_cons h1
  obtain ⟨n,hn,hln,ha,s1,s2⟩:=formP_sum f1
  obtain ⟨n',ks,hn',hg,hf,hps⟩:=nodeR_open h2
  rw [wayR_succ]
  have hfr:∀ t,firstR p wid (x::l) (y::t)=if x≠y then ((textR p wid x,textR p wid y),0) else firstR p wid l t:=fun _=>rfl
  rw [hfr]
  have hw0:sideL (x::l)=.mk x (fun _=>if l.length<1 then 170 else 0) (fun _=>sideL l):=rfl
  rw [hw0,sideG_succ,walkS_mk]
  by_cases hxy:x=y
  ·subst hxy
   rw [hn] at hn'
   obtain rfl:=Option.some.inj hn'
   have hxx:¬ (x≠x):=fun h=>h rfl
   simp only [if_neg hxx]
   rw [nodeOf_some hn]
   cases l with
   | nil=>
    have hk0:n.kids.length=0:=by simpa using hln
    have e1:ra=r1:=by simpa [readF] using g1
    have hkl:kidsL lo hi n=[]:=by unfold kidsL;rw [hk0];rfl
    rw [hkl] at hf
    simp only [kidsF,Option.some.injEq,Prod.mk.injEq] at hf
    refine absurd ?_ hne
    rw [hps,← hf.2,List.append_nil,lastA_key,keyF_rng hk,← lastA_key,findL_last _ none _ (read_rises hn (by rw [read_leaf hn];simpa using hk0)),← e1,ha]
    unfold nextR
    rw [if_pos (by rfl)]
    split <;> rfl
   | cons z l=>
    have hk0:n.kids.length≠0:=by simpa using hln
    obtain ⟨li,l2,pw,q1,q2,q3⟩:=node_key hk hn hk0 hf
    have e2:=(read_branch hn hk0).2.1
    have ho1:oneC key n=[wayL key n.seps]:=by unfold oneC;rw [if_neg hk0]
    rw [if_neg hk0,q1,ho1,List.foldr_cons,List.foldr_nil]
    have hr:ra=⟨kidSum n (wayL key n.seps),belowLo r.lo n (wayL key n.seps),belowHi r.hi n (wayL key n.seps),r.ans,r.ways++[wayL key n.seps]⟩:=by
     rw [ha];unfold nextR;rw [if_neg (by simp)];rfl
    have hq:=q2
    subst hr
    obtain ⟨c,c1,c2,c3⟩:=mixed_walk hk (z::l) (i+1) d false _ r1 li l2 pw g1 q2 (by simp) (by
     intro e
     apply hne
     rw [hps,lastA_key,q3,← lastA_key]
     exact e)
    refine ⟨c,?_,c2,c3⟩
    unfold stepW
    rw [if_neg (by simp),if_neg (by simp [may_way hk e2])]
    simp only [q1,c1]
    rfl
  ·simp only [if_pos hxy]
   have sg:(sumN p wid n').1=r.want:=by
    unfold spanB at hg
    simp only [Bool.and_eq_true,decide_eq_true_eq] at hg
    exact hg.1.1.2
   refine ⟨_,rfl,?_,?_⟩
   ·rw [text_same hn,text_same hn']
   ·rw [← text_same hn,← text_same hn']
    exact clash_holds hn hn' hxy s1 (s2.trans sg.symm)
def mixedP (p wid:Int) (root:Dg) (key x lo hi y:Bs):(Bs×Bs)×Int:=
 if errP p wid root key x=2∨rngB lo hi key=false then (([],[]),2) else if errP p wid root key x≠0∨errS p wid root lo hi y≠0 then (([],[]),170) else if ansP p wid root key x=lastA key (pairsS p wid root lo hi y) none then (([],[]),171) else
  firstR p wid (formsP p wid root key x) (wayR p wid key lo hi 33 (formsS y))
theorem mixed_long {p wid:Int} {root:Dg} {key x lo hi y:Bs} (hk:rngB lo hi key=true) (hx:errP p wid root key x=0) (hy:errS p wid root lo hi y=0) (ha:ansP p wid root key x≠lastA key (pairsS p wid root lo hi y) none) :
  ∃ c,walkS p wid (oneC key) (sideL (formsP p wid root key x)) (sideG p wid lo hi 33 (formsS y))=(c,true,0)∧mixedP p wid root key x lo hi y=(c,0)∧ClashW p wid c:=by
 obtain ⟨r1,g1,a1,n1⟩:=proof_some hx
 obtain ⟨_,v,m,s2,n2⟩:=spanS_ok hy
 have e2:formsS y=v::m:=by unfold formsS;rw [s2];rfl
 rw [e2]
 obtain ⟨c,c1,c2,c3⟩:=mixed_walk hk _ 0 33 true (rg0 root) r1 (v::m) _ _ g1 n2 n1 (by rw [a1];exact ha)
 refine ⟨c,c1,?_,c3⟩
 unfold mixedP
 rw [if_neg (fun h=>by rcases h with h | h <;> simp_all),if_neg (fun h=>by rcases h with h | h <;> simp_all),if_neg ha,e2]
 exact c2
theorem idx_last {key:Bs}:∀ (l:List Pr),(keyF key l).length≤1→(idxI key l = -1∧lastA key l none=none)∨∃ (i:Nat) (q:Pr),idxI key l=i∧l[i]?=some q∧lastA key l none=some q.2
 | [],_=>.inl ⟨rfl,rfl⟩
 | q::l,h=>by
  rw [lastA_key]
  unfold idxI
  unfold keyF at h ⊢
  by_cases hq:q.1=key
  ·rw [List.filter_cons_of_pos (by simpa using hq)] at h ⊢
   have h0:l.filter (fun q=>q.1 == key)=[]:=List.length_eq_zero_iff.1 (by simp only [List.length_cons] at h;omega)
   rw [h0]
   refine .inr ⟨0,q,?_,rfl,?_⟩
   ·rw [if_pos (by simp [hq]),List.takeWhile_cons_of_neg (by simp [hq])];rfl
   ·show lastA key [] (if q.1=key then some q.2 else none)=_
    rw [if_pos hq];rfl
  ·rw [List.filter_cons_of_neg (by simpa using hq)] at h ⊢
   have h1:=idx_last l h
   rw [lastA_key] at h1
   unfold idxI keyF at h1
   have hb:(q.1 == key)=false:=by simpa using hq
   rw [List.any_cons,hb,Bool.false_or,List.takeWhile_cons_of_pos (by rw [hb];rfl),List.length_cons]
   rcases h1 with ⟨h2,h3⟩ | ⟨i,u,h2,h3,h4⟩
   ·split at h2
    ·omega
    ·rename_i hc
     rw [if_neg hc]
     exact .inl ⟨rfl,h3⟩
   ·split at h2
    ·rename_i hc
     rw [if_pos hc]
     exact .inr ⟨i+1,u,by omega,by simpa using h3,h4⟩
    ·omega
theorem keys_one {p wid:Int} {root:Dg} {key lo hi y:Bs} (hk:rngB lo hi key=true):(keyF key (pairsS p wid root lo hi y)).length≤1:=by
 by_cases hy:errS p wid root lo hi y=0
 ·obtain ⟨_,v,m,s2,n2⟩:=spanS_ok hy
  exact keyF_one hk _ _ _ _ _ _ _ _ n2
 ·have:pairsS p wid root lo hi y=[]:=by
   cases ha:argsS p wid root with
   | false=>exact (spanS_arg ha).2
   | true=>
    cases hp:spanP p wid root lo hi y with
    | none=>exact (spanS_no ha hp).2
    | some ps=>exact absurd (spanS_yes ha hp).1 hy
  rw [this];exact Nat.zero_le _


theorem untag_ss (t:Tag) (l:List Bs):untag (oneOf [.sl t (l.map sD)])=.sl .none (l.map sD):=by
 show untag (.sl t (l.map sD))=_
 simp only [untag,untags_sD]
theorem aWay17 (p wid:Int) (key lo hi:Bs) (F:List Bs) (hF:F.length≤1000000000) (hsz:∀ x∈F,x.length≤1048576) (hk:rngB lo hi key=true) (d:Nat) (hd:d≤1000) (l':List Bs) (S:Sto) (h:skipR p wid lo hi d F=some l') :
  ACalls Tryz.prog 41 [frD p wid,.sl .none (F.map sD),sD key,sD lo,sD hi] S (RetQ (.sl .none ((wayR p wid key lo hi d F).map sD)) S):=by
 obtain ⟨W,hW⟩:∃ W,wayR p wid key lo hi d F=W:=⟨_,rfl⟩
 rw [hW]
 refine acalls_of prg Tryz.func41 rfl (by kernel_rfl) (congrArg Array.toList Tryz.results41) Tryz.ntmps41 (fun B hB=>fA ?_)
 refine Wk Y0 ?_
 refine AW.loopS 17 [11,12,13,14,15,16] (fun xs S'=>∃ (a d':Nat) (out l2:List Bs) (tg:Tag) (ow:List (Nat×Nat)),xs=[.sl tg (out.map sD),iD a,.any,.any,.any,.any]∧S'=⟨S.bk,ow⟩∧out.length+d'=d∧skipR p wid lo hi d' (F.drop a)=some l2∧out++wayR p wid key lo hi d' (F.drop a)=W∧G1 S.ow ow 9 1 tg (out.map sD)) (fun xs _=>F.length - nI (xs.getD 1 .any)) [.sl .nil [],iD 0,.any,.any,.any,.any] _ ?_ (Sto.Sub.refl _) ⟨0,d,[],l',.nil,S.ow,rfl,rfl,by simp,h,hW,G1.nil _ _ _⟩ ?_
 ·exact wK
 rintro xs S' ⟨a,d',out,l2,tg,ow,rfl,rfl,hod,hs,hw,hg⟩
 refine fR ?_
 cases d' with
 | zero=>cases hs
 | succ d'=>
 have ha:a<F.length:=Classical.byContradiction fun q=>by rw [List.drop_eq_nil_of_le (by omega),skipR_nil] at hs;cases hs
 obtain ⟨x,hx⟩:∃ x,F[a]?=some x:=⟨_,List.getElem?_eq_getElem ha⟩
 have hdr:F.drop a=x::F.drop (a+1):=by
  rw [List.drop_eq_getElem_cons ha];congr 1;exact Option.some.inj ((List.getElem?_eq_getElem ha).symm.trans hx)
 rw [hdr,skipR_succ] at hs
 rw [hdr,wayR_succ] at hw
 cases hn:readP p wid x with
 | none=>rw [hn] at hs;cases hs
 | some n=>
 rw [hn] at hs
 rw [nodeOf_some hn] at hw
 have hs:restS (skipR p wid lo hi d') lo hi n 0 (F.drop (a+1))=some l2:=hs
 have hxs:=hsz x (List.mem_of_getElem? hx)
 have ho:NdOk n:=parseP_ok (by omega) (readP_ok hn).2.2
 have hns:=ho.ns
 have hkk:=read_kids hn
 have hfew:=(read_few hn).2
 have cR:=fun S=>aRead p wid x S (by omega)
 rw [hn] at cR
 have cR:∀ S,ACalls Tryz.prog 74 [frD p wid,sD x] S (RetQ (.tup [ndA n,iD 0]) S):=cR
 have gx:(F.map sD)[a]?=some (sD x):=by rw [List.getElem?_map,hx];rfl
 have g0:(0:Int)≤a:=by omega
 have f1:IntKind.i64.wrap ((a:Int)+1)=((a+1:Nat):Int):=IntWalk.i64_in _ (by omega)
 refine Wk (Yy gx (Yy g0 Int.toNat_natCast)) ?_
 refine wap 9 1 16 ?_ ?_ ?_ (fun g _ hgo=>?_)
 ·exact sz_map (f:=sD) (fun _=>rfl) (fun d hd=>by simp only [List.mem_singleton] at hd;subst hd;rfl)
 ·exact hg.may
 ·rw [List.length_map];simp only [List.length_singleton];omega
 have hg3:=hg.add (ns:=[sD x]) hgo
 have hmp:out.map sD++[sD x]=(out++[x]).map sD:=by rw [List.map_append];rfl
 simp only [hmp] at hg3 ⊢
 generalize (g,((out++[x]).map sD).length*1)::dropTok tg ow=ow2 at hg3 ⊢
 refine Wk Y0 ?_
 refine vx ?_
 refine Wu (Yy gx (Yy g0 Int.toNat_natCast)) ?_
 refine cU (cR) ?_
 refine Wu Y0 ?_
 rintro b13 ⟨k_b13,o_b13⟩
 refine Wu k_b13 ?_
 by_cases h0:n.kids.length=0
 ·have z0:((n.kids.length:Int) == 0)=true:=by rw [beq_iff_eq];omega
  rw [if_pos h0] at hw
  subst hw
  refine Wk (Yy k_b13 z0) ?_
  refine enduq (S':=S) (sR Y0) (untag_ss _ _) ⟨(List.Sublist.refl _).cons _,hg3.sub⟩
 have z0:((n.kids.length:Int) == 0)=false:=by rw [beq_eq_false_iff_ne];omega
 obtain ⟨e1,e2,e3⟩:=read_branch hn h0
 have hwl:=wayL_le key n.seps
 have cW:=fun S=>aWay10 n key S (by omega)
 rw [cnt_way _ _ e3] at cW
 have hmw:=may_way hk e2
 obtain ⟨li,l3,hk1,hk2⟩:=kidRest_some hs hmw
 have hk1:kidRest (skipR p wid lo hi d') (kidsL lo hi n) (F.drop (a+1)) (wayL key n.seps)=some li:=hk1
 rw [if_neg h0,hk1] at hw
 have hmk:mayK lo hi n (wayL key n.seps)=true:=(List.mem_filter.1 hmw).2
 have hk1:kidRest (skipR p wid lo hi d') (((List.range n.kids.length).drop 0).filter (mayK lo hi n)) (F.drop (a+1)) (wayL key n.seps)=some li:=hk1
 generalize wayL key n.seps=w at cW hmk hk1 hwl
 refine Wk (Yy k_b13 z0) ?_
 refine cQ (cW _) ?_
 refine Wk f1 ?_
 refine AW.loopS 17 [12,16] (fun xs S'=>∃ (i a':Nat),xs=[iD a',iD i]∧S'=⟨(b13,87,ndA n)::S.bk,ow2⟩∧i≤w∧a<a'∧a'≤F.length∧restS (skipR p wid lo hi d') lo hi n i (F.drop a')=some l2∧kidRest (skipR p wid lo hi d') (((List.range n.kids.length).drop i).filter (mayK lo hi n)) (F.drop a') w=some li) (fun xs _=>w - nI (xs.getD 1 .any)) [iD (a+1:Nat),iD 0] _ ?_ (Sto.Sub.refl _) ⟨0,a+1,rfl,rfl,by omega,by omega,by omega,hs,hk1⟩ ?_
 ·exact wK
 rintro xs S' ⟨j,a',rfl,rfl,hj,haa,ha',hsk,hkr⟩
 refine fR ?_
 by_cases hlt:j<w
 ·have d1:decide ((j:Int)<w)=true:=decide_eq_true (by omega)
  have f2:IntKind.i64.wrap ((j:Int)+1)=((j+1:Nat):Int):=IntWalk.i64_in _ (by omega)
  have cM:=fun S=>aRMay n j lo hi S (by omega) (by omega)
  unfold restS at hsk
  rw [range_drop (by omega)] at hsk hkr
  cases hm:mayK lo hi n j with
  | false=>
   rw [hm] at cM
   rw [List.filter_cons_of_neg (by rw [hm];simp)] at hsk hkr
   refine Wk (Yy d1 k_b13) ?_
   refine cQ (cM _) ?_
   refine Wk f2 ?_
   refine ⟨[iD a',iD (j+1:Nat)],_,?_,Sto.Sub.refl _,⟨j+1,a',rfl,rfl,by omega,haa,ha',hsk,hkr⟩,?_⟩
   ·exact wK
   ·exact mE
  | true=>
   rw [hm] at cM
   rw [List.filter_cons_of_pos hm,skipK] at hsk
   rw [List.filter_cons_of_pos hm,kidRest,if_neg (by omega)] at hkr
   cases h1:skipR p wid lo hi d' (F.drop a') with
   | none=>rw [h1] at hsk;cases hsk
   | some l1=>
    rw [h1] at hsk hkr
    obtain ⟨c,hc⟩:=skipR_suf d' _ _ h1
    have hsd:=suf_drop hc
    have hlc:l1.length≤F.length - a':=by
     have:=congrArg List.length hc
     simp only [List.length_drop,List.length_append] at this;omega
    have cP:=fun S=>aBehind p wid lo hi F hF hsz d' a' l1 S h1
    refine Wk (Yy d1 k_b13) ?_
    refine cQ (cM _) ?_
    refine Wk Y0 ?_
    refine cQ (cP _) ?_
    refine Wk f2 ?_
    refine ⟨[iD (F.length - l1.length:Nat),iD (j+1:Nat)],_,?_,Sto.Sub.refl _,⟨j+1,F.length - l1.length,rfl,rfl,by omega,by omega,by omega,by rw [hsd];exact hsk,by rw [hsd];exact hkr⟩,?_⟩
    ·exact wK
    ·exact mE
 obtain rfl:j=w:=by omega
 have d1:decide ((j:Int)<j)=false:=decide_eq_false (by omega)
 rw [range_drop (by omega),List.filter_cons_of_pos hmk,kidRest,if_pos rfl] at hkr
 obtain rfl:=Option.some.inj hkr
 refine Wk d1 ?_
 refine ⟨[.sl (.own g 9 1) ((out++[x]).map sD),iD a',.any,.any,.any,.any],⟨S.bk,ow2⟩,?_,(Sto.Sub.refl _).cons,⟨a',d',out++[x],l3,.own g 9 1,_,rfl,rfl,by simp;omega,hk2,by rw [List.append_assoc];exact hw,hg3⟩,?_⟩
 ·exact wK
 ·exact mE

end Go.Proofs.YtcaggadjkccbiaaGreat