/- The program's reader, and lists of texts (values without addresses). -/
import Derived.Test.YtcaggadjkccbiaaGreatZ35
import Derived.Test.YtcaggadjkccbiaaGreatZ34
import Derived.Test.YtcaggadjkccbiaaGreatZ22
namespace Go.Proofs.YtcaggadjkccbiaaGreat
set_option maxHeartbeats 1000000
set_option maxRecDepth 100000
set_option linter.unusedVariables false
set_option linter.unusedSimpArgs false
open Go Go.RowKit

theorem StAt.kp1 {w w':World} {S:Sto} {b:Nat} {t:TypeId} {d0 d1:D} {us:List Value} (h:StAt w S) (hb:getM S.bk b=some (t,d0)) (k:Kp [b] w w') (hB:Blk w' b t us.toArray) (hd:RVT w S.I d1 us) :
  StAt w' ⟨setM S.bk b d1,S.ow⟩∧Evo w S.I w' (⟨setM S.bk b d1,S.ow⟩:Sto).I:=by
 have hkey:=getM_key hb
 have hevo:Evo w S.I w' (⟨setM S.bk b d1,S.ow⟩:Sto).I:=by
  rw [setM_I]
  exact k.evo (fun c e _ hi hc=>by simp only [List.mem_singleton] at hc;subst hc;exact hi.1 hkey) (fun _ _ _ h=>h)
 refine ⟨⟨by simp only [setM_keys];exact h.nd,fun c tt d hm=>?_,fun c L hm=>?_⟩,hevo⟩
 ·rcases setM_mem (List.nodup_append.1 h.nd).1 hb hm with ⟨rfl,rfl,rfl⟩ | ⟨hne,hm⟩
  ·exact ⟨us,hB,hd.evo hevo _ _⟩
  ·obtain ⟨vs,h1,h2⟩:=h.mutAt c tt d hm
   exact ⟨vs,h1.kp k (by simpa using hne),h2.evo hevo _ _⟩
 ·obtain ⟨tt,cur,h1,h2⟩:=h.ownAt c L hm
  refine ⟨tt,cur,k.blk h1 (fun hc=>?_),h2⟩
  simp only [List.mem_singleton] at hc
  subst hc
  exact (List.nodup_append.1 h.nd).2.2 c hkey c (List.mem_map.2 ⟨_,hm,rfl⟩) rfl

@[go_sem] def prR (s:Bs) (p c:Int):D:=.agg [bD true,sD s,iD p,iD c]
def PrSt (S:Sto) (b:Nat) (s:Bs) (o:Option Bs):Prop:=∃ p c,getM S.bk b=some (179,prR s p c)∧RrIs s o p c
def PrTo (S:Sto) (b:Nat) (s:Bs) (o:Option Bs) (S':Sto):Prop:=∃ p c,S'=⟨setM S.bk b (prR s p c),S.ow⟩∧RrIs s o p c
theorem PrTo.st {S S':Sto} {b:Nat} {s:Bs} {o o':Option Bs} (h:PrSt S b s o) (k:PrTo S b s o' S'):PrSt S' b s o':=by
 obtain ⟨p,c,h1,_⟩:=h
 obtain ⟨p',c',rfl,h2⟩:=k
 exact ⟨p',c',by rw [getM_setM,h1];rfl,h2⟩
theorem PrTo.trans {S S1 S2:Sto} {b:Nat} {s:Bs} {o1 o2:Option Bs} (h:PrTo S b s o1 S1) (k:PrTo S1 b s o2 S2):PrTo S b s o2 S2:=by
 obtain ⟨p,c,rfl,_⟩:=h
 obtain ⟨p',c',rfl,h2⟩:=k
 exact ⟨p',c',by rw [setM_setM],h2⟩
theorem PrTo.same {S:Sto} {b:Nat} {s:Bs} {o:Option Bs} (h:PrSt S b s o):PrTo S b s o S:=by
 obtain ⟨p,c,h1,h2⟩:=h
 exact ⟨p,c,by rw [setM_same h1],h2⟩
theorem PrTo.ow {S S':Sto} {b:Nat} {s:Bs} {o:Option Bs} (h:PrTo S b s o S'):S'.ow=S.ow∧∃ p c,S'.bk=setM S.bk b (prR s p c):=by
 obtain ⟨p,c,rfl,_⟩:=h
 exact ⟨rfl,p,c,rfl⟩

section
variable {w : World} {I : Nat → Nat → Prop}
theorem RVT.reader {s:Bs} {p c:Int} {us:List Value} (h:RVT w I (prR s p c) us):us=[.bool true,.string ⟨s.toArray⟩,.int .i64 p,.int .i64 c]:=by
 have h:=h.plain (fun l e=>by simp [prR] at e)
 unfold prR RV at h
 unfold RVs at h
 obtain ⟨a,r,rfl,h1,h⟩:=h
 obtain ⟨b,c,d,rfl,h2,h3,h4⟩:=RVs.three h
 unfold RV at h1 h2 h3 h4
 rw [h1.1,h2.1,h3.1,h4.1];rfl
theorem RVT.of_reader {s:Bs} {p c:Int}:RVT w I (prR s p c) [.bool true,.string ⟨s.toArray⟩,.int .i64 p,.int .i64 c]:=by
 refine RVT.of ?_
 unfold prR RV RVs
 exact ⟨[_],_,rfl,by unfold RV;exact ⟨rfl,rfl⟩,RVs.mk3 (xs:=[_]) (ys:=[_]) (zs:=[_]) (by unfold RV;exact ⟨rfl,rfl⟩) (by unfold RV;exact ⟨rfl,rfl⟩) (by unfold RV;exact ⟨rfl,rfl⟩)⟩
theorem PrSt.rd {S:Sto} {b:Nat} {s:Bs} {o:Option Bs} (h:PrSt S b s o) (hS:StAt w S):RdSt w b s o:=by
 obtain ⟨p,c,h1,h2⟩:=h
 obtain ⟨us,hB,hv⟩:=hS.mutAt b _ _ (getM_mem h1)
 have hv:=hv.reader
 subst hv
 cases o with
 | some l=>obtain ⟨rfl,k,rfl,h3,h4⟩:=h2;exact ⟨k,h3,h4,hB⟩
 | none=>obtain ⟨h3,k,rfl,h4⟩:=h2;exact ⟨k,c,h3,h4,hB⟩
theorem PrSt.go {S:Sto} {w':World} {b:Nat} {s:Bs} {o o':Option Bs} (h:PrSt S b s o) (hS:StAt w S) (k:Kp [b] w w') (hr:RdSt w' b s o'):∃ S',StAt w' S'∧Evo w S.I w' S'.I∧PrTo S b s o' S':=by
 obtain ⟨p,c,h1,h2⟩:=h
 have:∃ p' c':Int,RdAt w' b s p' c'∧RrIs s o' p' c':=by
  cases o' with
  | some l=>obtain ⟨k,h3,h4,h5⟩:=hr;exact ⟨_,_,h5,rfl,k,rfl,h3,h4⟩
  | none=>obtain ⟨k,c,h3,h4,h5⟩:=hr;exact ⟨_,_,h5,h3,k,rfl,h4⟩
 obtain ⟨p',c',hB,hi⟩:=this
 obtain ⟨g1,g2⟩:=hS.kp1 h1 k (us:=[.bool true,.string ⟨s.toArray⟩,.int .i64 p',.int .i64 c']) hB (RVT.of_reader)
 exact ⟨_,g1,g2,p',c',rfl,hi⟩
end

theorem ACalls.reader {T:Type} {f:FuncId} {ds:List D} {S:Sto} {b:Nat} {s:Bs} {o:Option Bs} {tv:T→Value} {td:T→D} {p:Bs→Option (T×Bs)} {z:T} (hc:Callable Tryz.prog f) (h:PrSt S b s o) (ht:∀ x w I,RVal w I (td x) (tv x))
  (hcall:∀ w xs,StAt w S→RVals w S.I ds xs→RdSt w b s o→Calls Tryz.prog f xs.toArray w (RdPost tv p z b s o w)) :
  ACalls Tryz.prog f ds S (fun e S'=>∃ d,e=.ret d∧d=td (gv p z o)∧PrTo S b s (gr p o) S'):=
 ⟨hc,fun w xs hS hx=>(hcall w xs hS hx (h.rd hS)).mono fun e w' ⟨h1,h2,h3⟩=>by
  subst h1
  obtain ⟨S',s1,s2,s3⟩:=h.go hS h2 h3
  exact ⟨_,S',s1,s2,ht _ _ _,_,rfl,rfl,s3⟩⟩

theorem aPText (b m:Nat) (s:Bs) (o:Option Bs) (S:Sto) (h:PrSt S b s o) (hs:s.length≤140737488351232) (hm0:0<m) (hm:m≤9223372036854775807) :
  ACalls Tryz.prog 88 [pD b,iD m] S (fun e S'=>∃ d,e=.ret d∧d=sD (gv (textP m) [] o)∧PrTo S b s (gr (textP m) o) S'):=
 ACalls.reader (callable Tryz.func88 rfl (by kernel_rfl)) h (fun x w I=>RVal.of_str) fun w xs hS hx hr=>by
  obtain ⟨x,ys,rfl,h1,h2⟩:=hx.cons
  obtain ⟨y,zs,rfl,h3,h4⟩:=h2.cons
  obtain rfl:=h4.nil
  unfold RVal at h1
  obtain ⟨rfl,-⟩:=h1
  obtain rfl:=h3.int
  exact text_all b m s o w hr hs hm0 hm
theorem aPFree (b m:Nat) (s l:Bs) (S:Sto) (h:PrSt S b s (some l)) (hs:s.length≤140737488351232) (hm:m<18446744073709551616) :
  ACalls Tryz.prog 123 [pD b,uD m] S (fun e S'=>∃ d,e=.ret d∧d=uD (gv (freeP m) 0 (some l):Nat)∧PrTo S b s (gr (freeP m) (some l)) S'):=
 ACalls.reader (tv:=fun n:Nat=>.int .u64 n) (callable Tryz.func123 rfl (by kernel_rfl)) h (fun x w I=>RVal.of_int) fun w xs hS hx hr=>by
  obtain ⟨x,ys,rfl,h1,h2⟩:=hx.cons
  obtain ⟨y,zs,rfl,h3,h4⟩:=h2.cons
  obtain rfl:=h4.nil
  unfold RVal at h1
  obtain ⟨rfl,-⟩:=h1
  obtain rfl:=h3.int
  refine (rd_free b s l m w hr hs hm).mono fun e w' h1=>?_
  unfold FreePost at h1
  split at h1 <;> (rename_i hp;exact ⟨by simpa [gotV,hp] using h1.1,h1.2.1,by unfold gotR;simp only [hp,Option.bind_some,Option.map_some,Option.map_none];exact h1.2.2⟩)

theorem aPDead (b:Nat) (s:Bs) (p c:Int) (S:Sto) (t:TypeId) (hb:getM S.bk b=some (t,prR s p c)):ACalls Tryz.prog 122 [pD b] S (RetQ (bD (c != 0)) S):=by
 refine acalls_of prg Tryz.func122 rfl (by kernel_rfl) (congrArg Array.toList Tryz.results122) Tryz.ntmps122 (fun B hB=>fA ?_)
 refine Wk hb ?_
 exact rE
theorem aPLeft (b:Nat) (s:Bs) (p c:Int) (S:Sto) (t:TypeId) (hb:getM S.bk b=some (t,prR s p c)) (h0:0≤p) (h1:p≤s.length) (hs:s.length≤140737488351232):ACalls Tryz.prog 124 [pD b] S (RetQ (iD (s.length - p)) S):=by
 have e:IntKind.i64.wrap ((s.length:Int) - p)=s.length - p:=IntWalk.i64_in _ (by omega)
 refine acalls_of prg Tryz.func124 rfl (by kernel_rfl) (congrArg Array.toList Tryz.results124) Tryz.ntmps124 (fun B hB=>fA ?_)
 refine Wk (Yy hb e) ?_
 exact rE
theorem aPFail (b:Nat) (s:Bs) (p c code at_:Int) (S:Sto) (t:TypeId) (hb:getM S.bk b=some (t,prR s p c)) :
  ACalls Tryz.prog 125 [pD b,iD code,iD at_] S (RetQ (.tup []) ⟨setM S.bk b (prR s at_ code),S.ow⟩):=by
 refine acalls_of prg Tryz.func125 rfl (by kernel_rfl) (congrArg Array.toList Tryz.results125) Tryz.ntmps125 (fun B hB=>fA ?_)
 refine Wk hb ?_
 exact rE
theorem aPOpen (s:Bs) (S:Sto):ACalls Tryz.prog 85 [sD s] S (fun e S'=>∃ d,e=.ret d∧∃ b,d=pD b∧b ∉ S.bk.map (·.1)∧b ∉ S.ow.map (·.1)∧S'=⟨(b,179,prR s 0 0)::S.bk,S.ow⟩):=by
 refine acalls_of prg Tryz.func85 rfl (by kernel_rfl) (congrArg Array.toList Tryz.results85) Tryz.ntmps85 (fun B hB=>fA ?_)
 (have F:=true_and;refine w3 ?_;refine w4 ?_;(repeat refine w1 ?_);refine w6 ?_)
 (first | (refine w3 ?_;refine w4 ?_) | refine w4 ?_)
 apply AOps.goN prg 2;case run=>(simp only [go_sem,Int.reduceEq,Int.reduceLT,Int.reduceBEq,Int.reduceBNe,Int.reduceNe,Nat.reduceLeDiff,Nat.reduceAdd,Nat.reduceSub,Nat.reduceLT,Nat.reduceEqDiff,Nat.reduceBEq,Int.reduceLE,Int.reduceToNat];rfl)
 refine aB fun b k_b o_b=>?_
 refine Wk Y0 ?_
 refine rX ?_
 exact ⟨b,rfl,k_b,o_b,rfl⟩

def strsP (m:Nat):Nat→Bs→Option (List Bs×Bs)
 | 0,l=>some ([],l)
 | n+1,l=>
  match textP m l with
  | none=>none
  | some (t,l')=>(strsP m n l').map fun r:List Bs×Bs=>(t::r.1,r.2)
def listS (l:Bs):Option (List Bs×Bs):=
 match countP 9223372036854775807 l with
 | none=>none
 | some (n,l')=>strsP 9223372036854775807 n l'
def splitP (s:Bs):Option (List Bs):=
 match listS s with
 | some (ts,[])=>some ts
 | _=>none

theorem aPSplit1 (b:Nat) (s:Bs) (o:Option Bs) (S:Sto) (h:PrSt S b s o) (hs:s.length≤140737488351232) :
  ACalls Tryz.prog 87 [pD b] S (fun e S'=>∃ d,e=.ret d∧d=sD (gv (textP 9223372036854775807) [] o)∧PrTo S b s (gr (textP 9223372036854775807) o) S'):=by
 refine acalls_of prg Tryz.func87 rfl (by kernel_rfl) (congrArg Array.toList Tryz.results87) Tryz.ntmps87 (fun B hB=>fA ?_)
 refine Wk Y0 ?_
 refine cX (aPText b 9223372036854775807 s o _ h hs (by omega) (by omega)) ?_
 rintro d S1 ⟨rfl,hS1⟩
 refine Wk Y0 ?_
 refine rX ?_
 exact ⟨rfl,hS1⟩

theorem strsP_none {m n:Nat} {l:Bs} (h:textP m l=none):strsP m (n+1) l=none:=by unfold strsP;rw [h]
theorem strsP_some {m n:Nat} {l l' t:Bs} (h:textP m l=some (t,l')):strsP m (n+1) l=(strsP m n l').map fun r:List Bs×Bs=>(t::r.1,r.2):=by
 show (match textP m l with | none=>none | some (t,l')=>(strsP m n l').map fun r:List Bs×Bs=>(t::r.1,r.2))=_
 rw [h]

theorem aPList (b:Nat) (s l:Bs) (S:Sto) (h:PrSt S b s (some l)) (hs:s.length≤3909374676453) :
  ACalls Tryz.prog 86 [pD b,iD 9223372036854775807,.v (.func (.func 87) #[] #[])] S (fun e S'=>∃ d,e=.ret d∧d=.sl .none (((gv listS [] (some l))).map sD)∧PrTo S b s (gr listS (some l)) S'):=by
 have h0:=h
 have hs2:s.length≤140737488351232:=by omega
 obtain ⟨p,c,hb,hr⟩:=h
 refine acalls_of prg Tryz.func86 rfl (by kernel_rfl) (congrArg Array.toList Tryz.results86) Tryz.ntmps86 (fun B hB=>fA ?_)
 have e1:IntKind.u64.wrap (9223372036854775807:Int)=9223372036854775807:=rfl
 have e2:(9223372036854775807:Int) > 0:=by decide
 refine Wk Y0 ?_
 refine cQ (aPDead b s p c _ _ hb) ?_
 obtain ⟨rfl,k,rfl,hk,hl⟩:=hr
 refine Wk (Yy hb (Yy e1 e2)) ?_
 refine cX (aPFree b 9223372036854775807 s l _ h0 hs2 (by omega)) ?_
 rintro d S1 ⟨rfl,hS1⟩
 have h1:=hS1.st h0
 obtain ⟨p1,c1,hb1,hr1⟩:=h1
 cases hf:freeP 9223372036854775807 l with
 | none=>
  rw [gr_none hf] at hr1 hS1
  have d1:(c1 != 0)=true:=by simpa using hr1.1
  have hL:listS l=none:=by unfold listS countP;rw [hf]
  have cd:=aPDead b s p1 c1 _ _ hb1
  rw [d1] at cd
  refine Wk Y0 ?_
  refine cQ (cd) ?_
  refine Wk Y0 ?_
  rw [gv_none hL,gr_none hL]
  refine endu (sR Y0) (by rfl) (Sto.Sub.refl _) ⟨rfl,hS1⟩
 | some r=>
  obtain ⟨n,l1⟩:=r
  rw [gr_some hf] at hr1 hS1
  have hr1':=hr1
  obtain ⟨rfl,k1,rfl,hk1,hl1⟩:=hr1
  rw [gv_some hf]
  obtain ⟨_,hlt,hn⟩:=freeP_rest hf
  refine Wk Y0 ?_
  refine cQ (aPDead b s k1 0 _ _ hb1) ?_
  refine Wk Y0 ?_
  refine cQ (aPLeft b s k1 0 _ _ hb1 (by omega) (by omega) hs2) ?_
  have e3:IntKind.u64.wrap ((s.length:Int) - k1)=(s.length:Int) - k1:=by rw [IntKind.wrap_u64];omega
  by_cases hle:n≤l1.length
  ·have d1:decide ((n:Int) > (s.length:Int) - k1)=false:=decide_eq_false (by omega)
   have hL:listS l=strsP 9223372036854775807 n l1:=by unfold listS countP;rw [hf];show (match (if n≤l1.length then some (n,l1) else none) with | none=>none | some (n,l')=>_)=_;rw [if_pos hle]
   have hL':gv listS [] (some l)=gv (strsP 9223372036854775807 n) [] (some l1)∧gr listS (some l)=gr (strsP 9223372036854775807 n) (some l1):=by simp [gv,gr,hL]
   rw [hL'.1,hL'.2]
   refine Wk (Yy e3 d1) ?_
   refine AW.loopS 11 [9,10,32,33] (fun xs S'=>∃ (i:Nat) (ts:List Bs) (l':Bs) (tg:Tag),xs=[.sl tg (ts.map sD),.any,uD n,uD i]∧PrTo S b s (some l') ⟨S'.bk,S.ow⟩∧i≤n∧ts.length=i∧strsP 9223372036854775807 n l1=((strsP 9223372036854775807 (n - i) l').map fun r:List Bs×Bs=>(ts++r.1,r.2))∧G1 S.ow S'.ow 9 1 tg (ts.map sD)) (fun xs _=>n - nI (xs.getD 3 .any)) [.sl .nil [],.any,uD n,uD 0] S1 ?_ (Sto.Sub.refl _) ?_ ?_
   ·exact wK
   ·have ho:=hS1.ow.1
    exact ⟨0,[],l1,.nil,rfl,by rw [← ho];exact hS1,by omega,rfl,by simp,by rw [ho];exact G1.nil _ _ _⟩
   rintro xs S' ⟨i,ts,l',tg,rfl,hP,hi,hts,hst,hg⟩
   refine fR ?_
   have hPS:PrSt S' b s (some l'):=by
    obtain ⟨p,c,h1,h2⟩:=hP
    simp only [Sto.mk.injEq,and_true] at h1
    exact ⟨p,c,by rw [h1,getM_setM,hb];rfl,h2⟩
   by_cases hin:i<n
   ·have d2:decide ((i:Int)<n)=true:=decide_eq_true (by omega)
    obtain ⟨m,hm⟩:∃ m,n - i=m+1:=⟨n - i - 1,by omega⟩
    rw [hm] at hst
    refine Wk d2 ?_
    refine wv (c:=by exact (aPSplit1 b s (some l') _ hPS hs2)) (k:=?_)
    rintro d S2 ⟨rfl,hS2⟩
    have hT:PrTo S b s (gr (textP 9223372036854775807) (some l')) ⟨S2.bk,S.ow⟩:=by
     obtain ⟨p,c,h1,_⟩:=hP
     obtain ⟨p',c',h2,h3⟩:=hS2
     simp only [Sto.mk.injEq,and_true] at h1
     exact ⟨p',c',by rw [h2,h1,setM_setM],h3⟩
    have ho:=hS2.ow.1
    obtain ⟨p4,c4,hb4,hr4⟩:=hS2.st hPS
    have f1:IntKind.u64.wrap ((i:Int)+1)=((i+1:Nat):Int):=by rw [IntKind.wrap_u64];omega
    cases ht:textP 9223372036854775807 l' with
    | none=>
     rw [gr_none ht] at hr4 hT
     have d3:(c4 != 0)=true:=by simpa using hr4.1
     have cd:=aPDead b s p4 c4 _ _ hb4
     rw [d3] at cd
     have hL:strsP 9223372036854775807 n l1=none:=by rw [hst,strsP_none ht,Option.map_none]
     rw [gv_none hL,gr_none hL]
     refine Wk Y0 ?_
     refine cQ (cd) ?_
     refine Wk Y0 ?_
     refine endu (S':=⟨S2.bk,S.ow⟩) (sR Y0) (by rfl) ⟨List.Sublist.refl _,?_⟩ ⟨rfl,hT⟩
     rw [ho];exact hg.sub
    | some r=>
     obtain ⟨t,l2⟩:=r
     rw [gr_some ht] at hr4 hT
     obtain ⟨rfl,hr4⟩:=hr4
     have cd:=aPDead b s p4 0 _ _ hb4
     have hg2:G1 S.ow S2.ow 9 1 tg (ts.map sD):=by rw [ho];exact hg
     rw [gv_some ht]
     refine Wk Y0 ?_
     refine cQ (cd) ?_
     refine Wk Y0 ?_
     refine wap 9 1 16 ?_ ?_ ?_ (fun g _ hgo=>?_)
     ·exact sz_map (f:=sD) (fun _=>rfl) (fun d hd=>by simp only [List.mem_singleton] at hd;subst hd;rfl)
     ·exact hg2.may
     ·rw [List.length_map];simp only [List.length_singleton];omega
     have hg3:=hg2.add (ns:=[sD t]) hgo
     refine Wk f1 ?_
     refine ⟨[.sl (.own g 9 1) ((ts++[t]).map sD),.any,uD n,uD (i+1:Nat)],_,?_,Sto.Sub.refl _,⟨i+1,ts++[t],l2,_,rfl,hT,by omega,by simp [hts],?_,?_⟩,?_⟩
     ·simp only [List.map_append,List.map_cons,List.map_nil]
      exact wK
     ·rw [hst,strsP_some ht,show n - (i+1)=m by omega,Option.map_map]
      congr 1
      funext r
      simp
     ·rw [List.map_append];exact hg3
     ·exact mE
   ·have d2:decide ((i:Int)<n)=false:=decide_eq_false (by omega)
    have hL:strsP 9223372036854775807 n l1=some (ts,l'):=by rw [hst,show n - i=0 by omega];simp [strsP]
    rw [gv_some hL,gr_some hL]
    refine Wk d2 ?_
    refine endu (S':=⟨S'.bk,S.ow⟩) (sR Y0) (by rfl) ⟨List.Sublist.refl _,hg.sub⟩ ⟨rfl,hP⟩
  ·have d1:decide ((n:Int) > (s.length:Int) - k1)=true:=decide_eq_true (by omega)
   have hL:listS l=none:=by unfold listS countP;rw [hf];show (match (if n≤l1.length then some (n,l1) else none) with | none=>none | some (n,l')=>_)=_;rw [if_neg hle]
   refine Wk (Yy e3 d1) ?_
   refine cQ (aPFail b s k1 0 12 k _ _ hb1) ?_
   refine Wk Y0 ?_
   rw [gv_none hL,gr_none hL]
   refine endu (sR Y0) (by rfl) (Sto.Sub.refl _) ⟨rfl,?_⟩
   obtain ⟨p2,c2,rfl,_⟩:=hS1
   exact ⟨k,12,by simp only [setM_setM];rfl,by omega,k,rfl,by omega⟩

theorem aPEnd (b:Nat) (s:Bs) (o:Option Bs) (S:Sto) (h:PrSt S b s o) (hs:s.length≤140737488351232) :
  ACalls Tryz.prog 89 [pD b] S (fun e S'=>∃ d,e=.ret d∧S'=S∧if o=some [] then d=.v .nilIface else ∃ x y,d=.v (.iface x y)):=
 (ACalls.lift (callable Tryz.func89 rfl (by kernel_rfl)) (fun d=>if o=some [] then d=.v .nilIface else ∃ x y,d=.v (.iface x y)) fun w xs hS hx=>by
  obtain ⟨x,ys,rfl,h1,h2⟩:=hx.cons
  obtain rfl:=h2.nil
  unfold RVal at h1
  obtain ⟨rfl,-⟩:=h1
  have hr:=h.rd hS
  by_cases ho:o=some []
  ·subst ho
   exact (end_ok b s w hs hr).mono fun e w' ⟨h1,h2⟩=>⟨_,.v .nilIface,h1,h2,RVal.vv rfl,by rw [if_pos rfl]⟩
  ·exact (end_no b s o w hs hr ho).mono fun e w' ⟨g,h1,h2⟩=>⟨_,_,h1,h2,RVal.vv rfl,by rw [if_neg ho];exact ⟨_,_,rfl⟩⟩).mono fun e S' ⟨d,h1,h2,h3⟩=>⟨d,h1,h3,h2⟩

def splitD (s:Bs) (d:D):Prop:=
 match splitP s with
 | some ts=>d=.tup [.sl .none (ts.map sD),.v .nilIface]
 | none=>∃ x y,d=.tup [.sl .none [],.v (.iface x y)]
theorem splitP_some {s:Bs} {ts:List Bs} (h:splitP s=some ts):listS s=some (ts,[]):=by
 unfold splitP at h
 split at h
 ·rename_i r e;simp only [Option.some.injEq] at h;rw [e,h]
 ·cases h

theorem aSplit (s:Bs) (S:Sto) (hs:s.length≤3909374676453):ACalls Tryz.prog 49 [sD s] S (fun e S'=>∃ d,e=.ret d∧splitD s d∧S'=S):=by
 have hs2:s.length≤140737488351232:=by omega
 refine acalls_of prg Tryz.func49 rfl (by kernel_rfl) (congrArg Array.toList Tryz.results49) Tryz.ntmps49 (fun B hB=>fA ?_)
 refine Wk Y0 ?_
 refine cX (aPOpen s S) ?_
 rintro d S1 ⟨b,rfl,hb1,hb2,hS1⟩
 have h1:PrSt S1 b s (some s):=⟨0,0,by rw [hS1];simp only [getM_cons,if_true],rfl,0,rfl,by omega,rfl⟩
 have hsub:∀ S2 o,PrTo S1 b s o S2→S.Sub S2:=fun S2 o h=>by
  obtain ⟨p,c,h2,_⟩:=h
  rw [h2,hS1]
  simp only [setM_cons,if_true]
  exact (Sto.Sub.refl _).cons
 clear hS1
 refine Wk Y0 ?_
 refine cX (aPList b s s _ h1 hs) ?_
 rintro d S2 ⟨rfl,hS2⟩
 have h2:=hS2.st h1
 refine Wk Y0 ?_
 refine cX (aPEnd b s _ _ h2 hs2) ?_
 rintro d S3 ⟨rfl,hd⟩
 cases hsp:splitP s with
 | some ts=>
  have hl:=splitP_some hsp
  rw [gr_some hl,if_pos rfl] at hd
  subst hd
  rw [gv_some hl]
  refine Wk Y0 ?_
  refine endu (sR Y0) (by rfl) (hsub _ _ hS2) ⟨?_,rfl⟩
  unfold splitD
  rw [hsp]
  rfl
 | none=>
  have hne:gr listS (some s)≠some []:=fun he=>by
   simp only [gr,Option.bind_some] at he
   obtain ⟨r,hr,he⟩:=Option.map_eq_some_iff.1 he
   obtain ⟨ts,l⟩:=r
   simp only at he
   subst he
   unfold splitP at hsp
   rw [hr] at hsp
   cases hsp
  rw [if_neg hne] at hd
  obtain ⟨x,y,rfl⟩:=hd
  refine Wk Y0 ?_
  refine endu (sR Y0) (by rfl) (hsub _ _ hS2) ⟨?_,rfl⟩
  unfold splitD
  rw [hsp]
  exact ⟨x,y,rfl⟩

end Go.Proofs.YtcaggadjkccbiaaGreat