/- Mixed: the document's answer (values without addresses). -/
import Derived.Test.YtcaggadjkccbiaaGreatZ52
import Derived.Test.YtcaggadjkccbiaaGreatZ51
namespace Go.Proofs.YtcaggadjkccbiaaGreat
set_option maxHeartbeats 1000000
set_option maxRecDepth 100000
set_option linter.unusedVariables false
set_option linter.unusedSimpArgs false
open Go Go.RowKit

theorem kidRest_suf {f:List Bs→Option (List Bs)} (hf:∀ l l',f l=some l'→∃ c,l=c++l') {w:Nat}:∀ (is:List Nat) (l li:List Bs),kidRest f is l w=some li→∃ c,l=c++li
 | [],_,_,h=>by cases h
 | i::is,l,li,h=>by
  unfold kidRest at h
  split at h
  ·exact ⟨[],by rw [Option.some.inj h];rfl⟩
  ·cases h1:f l with
   | none=>rw [h1] at h;cases h
   | some l1=>
    rw [h1] at h
    obtain ⟨c,rfl⟩:=hf _ _ h1
    obtain ⟨c2,rfl⟩:=kidRest_suf hf is _ _ h
    exact ⟨c++c2,by simp⟩
theorem wayR_few {p wid:Int} {key lo hi:Bs}:∀ (d:Nat) (l:List Bs),(∀ z∈wayR p wid key lo hi d l,z∈l)∧(wayR p wid key lo hi d l).length≤d
 | 0,_=>⟨fun z h=>(by cases h),Nat.le_refl _⟩
 | _+1,[]=>⟨fun z h=>(by cases h),Nat.zero_le _⟩
 | d+1,x::l=>by
  rw [wayR_succ]
  split
  ·exact ⟨fun z h=>by rw [List.mem_singleton] at h;rw [h];simp,by simp⟩
  ·split
   ·rename_i li hli
    obtain ⟨c,hc⟩:=kidRest_suf (fun l l' h=>skipR_suf d l l' h) _ _ _ hli
    obtain ⟨h1,h2⟩:=wayR_few (p:=p) (wid:=wid) (key:=key) (lo:=lo) (hi:=hi) d li
    refine ⟨fun z hz=>?_,by simp only [List.length_cons];omega⟩
    rcases List.mem_cons.1 hz with rfl | hz
    ·simp
    ·rw [hc];simp [h1 z hz]
   ·exact ⟨fun z h=>by rw [List.mem_singleton] at h;rw [h];simp,by simp⟩
theorem lastA_take {key:Bs} {l:List Pr} {i:Nat} {q:Pr} (h:l[i]?=some q) (a:Option Bs):lastA key (l.take (i+1)) a=if q.1=key then some q.2 else lastA key (l.take i) a:=by
 rw [List.take_add_one,h]
 exact lastA_snoc key q _ a
theorem formsS_ok {y:Bs} (hy:y.length≤1048576):∀ z∈formsS y,z.length≤1048576:=fun z hz=>by
 unfold formsS at hz
 cases hp:splitP y with
 | none=>rw [hp] at hz;cases hz
 | some fs=>rw [hp] at hz;exact Nat.le_trans (splitP_shr hp z hz) hy
theorem aRMixed (p wid:Int) (root:Dg) (key x lo hi y:Bs) (S:Sto) (hx:x.length≤1048576) (hy:y.length≤1048576) :
  ACalls Tryz.prog 16 [frD p wid,.dg root,sD key,sD x,sD lo,sD hi,sD y] S (RetQ (.tup [clD (mixedP p wid root key x lo hi y).1,iD (mixedP p wid root key x lo hi y).2]) S):=by
 have c1:=fun S=>aRRead15 p wid root key x S hx
 have c2:=fun S=>aRIn key lo hi S
 have c3:=fun S=>aRRead16 p wid root lo hi y S hy
 have hfew:=pairs_few p wid root lo hi y hy
 have hf1:=forms_any p wid root key x
 have hf2:=formsS_ok hy
 unfold mixedP
 by_cases h2:errP p wid root key x=2
 ·rw [if_pos (.inl h2)]
  have z0:(errP p wid root key x == 2)=true:=beq_iff_eq.2 h2
  refine acalls_of prg Tryz.func16 rfl (by kernel_rfl) (congrArg Array.toList Tryz.results16) Tryz.ntmps16 (fun B hB=>fA ?_)
  refine Wk Y0 ?_
  refine aL fun b14 k_b14 o_b14=>?_
  refine Wk Y0 ?_
  refine cQ (c1 _) ?_
  refine Wk Y0 ?_
  refine aL fun b16 k_b16 o_b16=>?_
  have n1:=nes k_b16.1
  refine Wk (Yy k_b16 (Yy n1 z0)) ?_
  refine endq (S':=S) (sR (Yy k_b16 n1)) (by rfl) (Sto.Sub.refl _).cons.cons
 have z0:(errP p wid root key x == 2)=false:=beq_eq_false_iff_ne.2 h2
 cases hk:rngB lo hi key with
 | false=>
  rw [if_pos (.inr rfl)]
  rw [hk] at c2
  refine acalls_of prg Tryz.func16 rfl (by kernel_rfl) (congrArg Array.toList Tryz.results16) Tryz.ntmps16 (fun B hB=>fA ?_)
  refine Wk Y0 ?_
  refine aL fun b14 k_b14 o_b14=>?_
  refine Wk Y0 ?_
  refine cQ (c1 _) ?_
  refine Wk Y0 ?_
  refine aL fun b16 k_b16 o_b16=>?_
  have n1:=nes k_b16.1
  refine Wk (Yy k_b16 (Yy n1 z0)) ?_
  refine cQ (c2 _) ?_
  refine Wk (Yy k_b16 n1) ?_
  refine endq (S':=S) (sR (Yy k_b16 n1)) (by rfl) (Sto.Sub.refl _).cons.cons
 | true=>
 rw [if_neg (fun h=>Or.elim h h2 (fun h=>by cases h))]
 rw [hk] at c2
 refine acalls_of prg Tryz.func16 rfl (by kernel_rfl) (congrArg Array.toList Tryz.results16) Tryz.ntmps16 (fun B hB=>fA ?_)
 refine Wk Y0 ?_
 refine aL fun b14 k_b14 o_b14=>?_
 refine Wk Y0 ?_
 refine cQ (c1 _) ?_
 refine Wk Y0 ?_
 refine aL fun b16 k_b16 o_b16=>?_
 have n1:=nes k_b16.1
 refine Wk (Yy k_b16 (Yy n1 z0)) ?_
 refine cQ (c2 _) ?_
 refine Wk Y0 ?_
 refine cQ (c3 _) ?_
 by_cases hx0:errP p wid root key x=0
 case neg=>
  rw [if_pos (.inl hx0)]
  have z1:(errP p wid root key x != 0)=true:=bne_iff_ne.2 hx0
  refine Wk (Yy k_b16 (Yy n1 z1)) ?_
  refine endq (S':=S) (sR (Yy k_b16 n1)) (by rfl) (Sto.Sub.refl _).cons.cons
 have z1:(errP p wid root key x != 0)=false:=by rw [hx0];rfl
 by_cases hy0:errS p wid root lo hi y=0
 case neg=>
  rw [if_pos (.inr hy0)]
  have z2:(errS p wid root lo hi y != 0)=true:=bne_iff_ne.2 hy0
  refine Wk (Yy k_b16 (Yy n1 (Yy z1 z2))) ?_
  refine endq (S':=S) (sR (Yy k_b16 n1)) (by rfl) (Sto.Sub.refl _).cons.cons
 have z2:(errS p wid root lo hi y != 0)=false:=by rw [hy0];rfl
 rw [if_neg (fun h=>Or.elim h (fun h=>h hx0) (fun h=>h hy0))]
 refine Wk (Yy z1 z2) ?_
 refine aL fun b20 k_b20 o_b20=>?_
 have n2:=nes k_b20.1
 have n3:=nes k_b20.2.1
 generalize hl:pairsS p wid root lo hi y=l at c3 hfew ⊢
 refine Wk Y0 ?_
 refine AW.loopS 25 [21] (fun xs S'=>∃ i:Nat,xs=[iD i]∧S'=⟨(b20,42,ansD (lastA key (l.take i) none))::(b16,67,toldD (ansP p wid root key x) (formsP p wid root key x) (waysP p wid root key x))::(b14,26,clD clZ)::S.bk,S.ow⟩∧i≤l.length) (fun xs _=>l.length - nI (xs.getD 0 .any)) [iD 0] _ ?_ (Sto.Sub.refl _) ⟨0,rfl,rfl,by omega⟩ ?_
 ·exact wK
 rintro xs S' ⟨i,rfl,rfl,hi9⟩
 refine fR ?_
 by_cases hlt:i<l.length
 ·obtain ⟨q,hq⟩:∃ q,l[i]?=some q:=⟨_,List.getElem?_eq_getElem hlt⟩
  have d1:decide ((i:Int)<l.length)=true:=decide_eq_true (by omega)
  have gq:(l.map prD)[i]?=some (prD q):=by rw [List.getElem?_map,hq];rfl
  have g0:(0:Int)≤i:=by omega
  have f1:IntKind.i64.wrap ((i:Int)+1)=((i+1:Nat):Int):=IntWalk.i64_in _ (by omega)
  have hst:=lastA_take (key:=key) hq none
  by_cases hqk:q.1=key
  ·have z3:(q.1 == key)=true:=beq_iff_eq.2 hqk
   rw [if_pos hqk] at hst
   refine Wk (Yy d1 (Yy gq (Yy g0 (Yy Int.toNat_natCast (Yy z3 (Yy k_b20 (Yy n2 (Yy n3 f1)))))))) ?_
   refine ⟨[iD (i+1:Nat)],_,?_,Sto.Sub.refl _,⟨i+1,rfl,by rw [hst];rfl,by omega⟩,?_⟩
   ·exact wK
   ·exact mE
  ·have z3:(q.1 == key)=false:=beq_eq_false_iff_ne.2 hqk
   rw [if_neg hqk] at hst
   refine Wk (Yy d1 (Yy gq (Yy g0 (Yy Int.toNat_natCast (Yy z3 f1))))) ?_
   refine ⟨[iD (i+1:Nat)],_,?_,Sto.Sub.refl _,⟨i+1,rfl,by rw [hst];rfl,by omega⟩,?_⟩
   ·exact wK
   ·exact mE
 obtain rfl:i=l.length:=by omega
 have d1:decide ((l.length:Int)<l.length)=false:=decide_eq_false (by omega)
 rw [List.take_length]
 have z3:=ans_beq (ansP p wid root key x) (lastA key l none)
 by_cases ha:ansP p wid root key x=lastA key l none
 ·rw [if_pos ha]
  rw [decide_eq_true ha] at z3
  refine Wk (Yy d1 (Yy k_b20 (Yy n2 (Yy n3 (Yy k_b16 (Yy n1 z3)))))) ?_
  refine endq (S':=S) (sR (Yy k_b20 (Yy n2 (Yy n3 (Yy k_b16 n1))))) (by rfl) (Sto.Sub.refl _).cons.cons.cons
 rw [if_neg ha]
 rw [decide_eq_false ha] at z3
 obtain ⟨hr,v,m,s2,n2'⟩:=spanS_ok hy0
 have e2:formsS y=v::m:=by unfold formsS;rw [s2];rfl
 have k2:=node_skip _ _ _ _ _ _ _ _ n2'
 rw [← e2] at k2
 have hn2:=splitP_len s2
 rw [← e2] at hn2
 have hs2:splitP y=some (formsS y):=by rw [e2];exact s2
 generalize formsS y=fy at k2 hn2 hs2 hf2 ⊢
 have cW:=fun S=>aWay17 p wid key lo hi fy (by omega) hf2 hk 33 (by omega) _ S k2
 have hwf:=wayR_few (p:=p) (wid:=wid) (key:=key) (lo:=lo) (hi:=hi) 33 fy
 generalize wayR p wid key lo hi 33 fy=fw at cW hwf ⊢
 have cF:=fun S=>aFirst p wid (formsP p wid root key x) fw S (fun z hz=>Nat.le_trans (hf1.1 z hz) hx) (fun z hz=>hf2 z (hwf.1 z hz)) (by omega) (by omega)
 refine Wk (Yy d1 (Yy k_b20 (Yy n2 (Yy n3 (Yy k_b16 (Yy n1 z3)))))) ?_
 refine cX (aRSplit y _ (by omega)) ?_
 rintro d S1 ⟨hd,rfl⟩
 unfold splitR at hd
 rw [hs2] at hd
 subst hd
 refine Wk (Yy k_b20 (Yy n2 (Yy n3 (Yy k_b16 n1)))) ?_
 refine cQ (cW _) ?_
 refine Wk Y0 ?_
 refine cQ (cF _) ?_
 refine Wk (Yy k_b20 (Yy n2 (Yy n3 (Yy k_b16 n1)))) ?_
 refine endq (S':=S) (sR (Yy k_b20 (Yy n2 (Yy n3 (Yy k_b16 n1))))) (by rfl) (Sto.Sub.refl _).cons.cons.cons


theorem rng_true {lo hi key:Bs} (h:rngB lo hi key=true):Op.bytesLess key lo=false∧(((hi == [])=true∧True)∨((hi == [])=false∧Op.bytesLess key hi=true)):=by
 unfold rngB at h
 rw [Bool.and_eq_true] at h
 refine ⟨by simpa using h.1,?_⟩
 cases hh:(hi == []) with
 | true=>exact .inl ⟨rfl,trivial⟩
 | false=>exact .inr ⟨rfl,by have:=h.2;rw [hh] at this;simpa using this⟩
theorem rng_false {lo hi key:Bs} (h:rngB lo hi key=false):(Op.bytesLess key lo=true)∨(Op.bytesLess key lo=false∧(hi == [])=false∧Op.bytesLess key hi=false):=by
 unfold rngB at h
 cases h1:Op.bytesLess key lo with
 | true=>exact .inl rfl
 | false=>
  rw [h1] at h
  simp only [Bool.not_false,Bool.true_and,Bool.or_eq_false_iff] at h
  exact .inr ⟨rfl,h⟩
theorem aMixedE (p wid:Int) (root:Dg) (key x lo hi y:Bs) (S:Sto) (hx:x.length≤1048576) (hy:y.length≤1048576) (hq:rngB lo hi key=true→errP p wid root key x=0→errS p wid root lo hi y=0→ansP p wid root key x=lastA key (pairsS p wid root lo hi y) none) :
  ACalls Tryz.prog 15 [frD p wid,.dg root,sD key,sD x,sD lo,sD hi,sD y] S (RetQ (.tup [clD (mixedP p wid root key x lo hi y).1,iD (mixedP p wid root key x lo hi y).2]) S):=by
 have c1:=fun S=>aProofRead p wid root key x S hx
 have c2:=fun S=>aSRead p wid root lo hi y S hy
 have hfew:=pairs_few p wid root lo hi y hy
 have c3:=fun S=>aIndexFunc (pairsS p wid root lo hi y) key S hfew
 by_cases h2:errP p wid root key x=2
 ·unfold mixedP
  rw [if_pos (.inl h2)]
  have z0:(errP p wid root key x == 2)=true:=beq_iff_eq.2 h2
  refine acalls_of prg Tryz.func15 rfl (by kernel_rfl) (congrArg Array.toList Tryz.results15) Tryz.ntmps15 (fun B hB=>fA ?_)
  refine Wk Y0 ?_
  refine aL fun b14 k_b14 o_b14=>?_
  refine Wk Y0 ?_
  refine cQ (c1 _) ?_
  refine Wk Y0 ?_
  refine aL fun b16 k_b16 o_b16=>?_
  have n1:=nes k_b16.1
  refine Wk (Yy k_b16 (Yy n1 z0)) ?_
  refine endq (S':=S) (sR (Yy k_b16 n1)) (by rfl) (Sto.Sub.refl _).cons.cons
 have z0:(errP p wid root key x == 2)=false:=beq_eq_false_iff_ne.2 h2
 cases hk:rngB lo hi key with
 | false=>
  unfold mixedP
  rw [if_pos (.inr hk)]
  rcases rng_false hk with h3 | ⟨h3,h4,h5⟩
  ·refine acalls_of prg Tryz.func15 rfl (by kernel_rfl) (congrArg Array.toList Tryz.results15) Tryz.ntmps15 (fun B hB=>fA ?_)
   refine Wk Y0 ?_
   refine aL fun b14 k_b14 o_b14=>?_
   refine Wk Y0 ?_
   refine cQ (c1 _) ?_
   refine Wk Y0 ?_
   refine aL fun b16 k_b16 o_b16=>?_
   have n1:=nes k_b16.1
   refine Wk (Yy k_b16 (Yy n1 (Yy z0 h3))) ?_
   refine endq (S':=S) (sR (Yy k_b16 n1)) (by rfl) (Sto.Sub.refl _).cons.cons
  ·refine acalls_of prg Tryz.func15 rfl (by kernel_rfl) (congrArg Array.toList Tryz.results15) Tryz.ntmps15 (fun B hB=>fA ?_)
   refine Wk Y0 ?_
   refine aL fun b14 k_b14 o_b14=>?_
   refine Wk Y0 ?_
   refine cQ (c1 _) ?_
   refine Wk Y0 ?_
   refine aL fun b16 k_b16 o_b16=>?_
   have n1:=nes k_b16.1
   refine Wk (Yy k_b16 (Yy n1 (Yy z0 (Yy h3 (Yy h4 h5))))) ?_
   refine endq (S':=S) (sR (Yy k_b16 n1)) (by rfl) (Sto.Sub.refl _).cons.cons
 | true=>
 obtain ⟨h3,hR⟩:=rng_true hk
 by_cases hx0:errP p wid root key x=0
 case neg=>
  unfold mixedP
  rw [if_neg (fun h=>Or.elim h h2 (fun h=>by rw [hk] at h;cases h)),if_pos (.inl hx0)]
  have z1:(errP p wid root key x != 0)=true:=bne_iff_ne.2 hx0
  rcases hR with ⟨h4,h5⟩ | ⟨h4,h5⟩
  all_goals
   refine acalls_of prg Tryz.func15 rfl (by kernel_rfl) (congrArg Array.toList Tryz.results15) Tryz.ntmps15 (fun B hB=>fA ?_)
   refine Wk Y0 ?_
   refine aL fun b14 k_b14 o_b14=>?_
   refine Wk Y0 ?_
   refine cQ (c1 _) ?_
   refine Wk Y0 ?_
   refine aL fun b16 k_b16 o_b16=>?_
   have n1:=nes k_b16.1
   refine Wk (Yy k_b16 (Yy n1 (Yy z0 (Yy h3 (Yy h4 h5))))) ?_
   refine cQ (c2 _) ?_
   refine Wk (Yy k_b16 (Yy n1 z1)) ?_
   refine endq (S':=S) (sR (Yy k_b16 n1)) (by rfl) (Sto.Sub.refl _).cons.cons
 have z1:(errP p wid root key x != 0)=false:=by rw [hx0];rfl
 by_cases hy0:errS p wid root lo hi y=0
 case neg=>
  unfold mixedP
  rw [if_neg (fun h=>Or.elim h h2 (fun h=>by rw [hk] at h;cases h)),if_pos (.inr hy0)]
  have z2:(errS p wid root lo hi y != 0)=true:=bne_iff_ne.2 hy0
  rcases hR with ⟨h4,h5⟩ | ⟨h4,h5⟩
  all_goals
   refine acalls_of prg Tryz.func15 rfl (by kernel_rfl) (congrArg Array.toList Tryz.results15) Tryz.ntmps15 (fun B hB=>fA ?_)
   refine Wk Y0 ?_
   refine aL fun b14 k_b14 o_b14=>?_
   refine Wk Y0 ?_
   refine cQ (c1 _) ?_
   refine Wk Y0 ?_
   refine aL fun b16 k_b16 o_b16=>?_
   have n1:=nes k_b16.1
   refine Wk (Yy k_b16 (Yy n1 (Yy z0 (Yy h3 (Yy h4 h5))))) ?_
   refine cQ (c2 _) ?_
   refine Wk (Yy k_b16 (Yy n1 (Yy z1 z2))) ?_
   refine endq (S':=S) (sR (Yy k_b16 n1)) (by rfl) (Sto.Sub.refl _).cons.cons
 have z2:(errS p wid root lo hi y != 0)=false:=by rw [hy0];rfl
 have hq:=hq hk hx0 hy0
 rcases idx_last _ (keys_one (p:=p) (wid:=wid) (root:=root) (y:=y) hk) with ⟨i1,i2⟩ | ⟨i,q,i1,gi,i2⟩
 ·rw [i1] at c3
  have e1:decide ((-1:Int) ≥ 0)=false:=rfl
  have e2:decide ((-1:Int)<0)=true:=rfl
  cases ha:ansP p wid root key x with
  | none=>
   rw [ha] at c1
   unfold mixedP
   rw [if_neg (fun h=>Or.elim h h2 (fun h=>by rw [hk] at h;cases h)),if_neg (fun h=>Or.elim h (fun h=>h hx0) (fun h=>h hy0)),if_pos (by rw [ha,i2])]
   rcases hR with ⟨h4,h5⟩ | ⟨h4,h5⟩
   all_goals
    refine acalls_of prg Tryz.func15 rfl (by kernel_rfl) (congrArg Array.toList Tryz.results15) Tryz.ntmps15 (fun B hB=>fA ?_)
    refine Wk Y0 ?_
    refine aL fun b14 k_b14 o_b14=>?_
    refine Wk Y0 ?_
    refine cQ (c1 _) ?_
    refine Wk Y0 ?_
    refine aL fun b16 k_b16 o_b16=>?_
    have n1:=nes k_b16.1
    refine Wk (Yy k_b16 (Yy n1 (Yy z0 (Yy h3 (Yy h4 h5))))) ?_
    refine cQ (c2 _) ?_
    refine Wk (Yy k_b16 (Yy n1 (Yy z1 z2))) ?_
    refine cQ (c3 _) ?_
    refine Wk (Yy k_b16 (Yy n1 (Yy e1 e2))) ?_
    refine endq (S':=S) (sR (Yy k_b16 n1)) (by rfl) (Sto.Sub.refl _).cons.cons
  | some u=>rw [ha,i2] at hq;cases hq
 ·rw [i1] at c3
  have e1:decide ((i:Int) ≥ 0)=true:=decide_eq_true (by omega)
  have e2:decide ((i:Int)<0)=false:=decide_eq_false (by omega)
  have gq:((pairsS p wid root lo hi y).map prD)[i]?=some (prD q):=by rw [List.getElem?_map,gi];rfl
  have g0:(0:Int)≤i:=by omega
  cases ha:ansP p wid root key x with
  | none=>rw [ha,i2] at hq;cases hq
  | some u=>
   rw [ha] at c1
   by_cases hv:u=q.2
   ·have zv:(q.2 == (some u).getD [])=true:=by rw [hv];simp
    subst hv
    unfold mixedP
    rw [if_neg (fun h=>Or.elim h h2 (fun h=>by rw [hk] at h;cases h)),if_neg (fun h=>Or.elim h (fun h=>h hx0) (fun h=>h hy0)),if_pos (by rw [ha,i2])]
    rcases hR with ⟨h4,h5⟩ | ⟨h4,h5⟩
    all_goals
     refine acalls_of prg Tryz.func15 rfl (by kernel_rfl) (congrArg Array.toList Tryz.results15) Tryz.ntmps15 (fun B hB=>fA ?_)
     refine Wk Y0 ?_
     refine aL fun b14 k_b14 o_b14=>?_
     refine Wk Y0 ?_
     refine cQ (c1 _) ?_
     refine Wk Y0 ?_
     refine aL fun b16 k_b16 o_b16=>?_
     have n1:=nes k_b16.1
     refine Wk (Yy k_b16 (Yy n1 (Yy z0 (Yy h3 (Yy h4 h5))))) ?_
     refine cQ (c2 _) ?_
     refine Wk (Yy k_b16 (Yy n1 (Yy z1 z2))) ?_
     refine cQ (c3 _) ?_
     refine Wk (Yy k_b16 (Yy n1 (Yy e1 (Yy e2 (Yy gq (Yy g0 (Yy Int.toNat_natCast zv))))))) ?_
     refine endq (S':=S) (sR (Yy k_b16 n1)) (by rfl) (Sto.Sub.refl _).cons.cons
   ·exact absurd (by rw [ha,i2] at hq;exact Option.some.inj hq) hv
theorem aMixedL (p wid:Int) (root:Dg) (key x lo hi y:Bs) (S:Sto) (hx:x.length≤1048576) (hy:y.length≤1048576) (hk:rngB lo hi key=true) (hx0:errP p wid root key x=0) (hy0:errS p wid root lo hi y=0) (hq:ansP p wid root key x≠lastA key (pairsS p wid root lo hi y) none) :
  ACalls Tryz.prog 15 [frD p wid,.dg root,sD key,sD x,sD lo,sD hi,sD y] S (RetQ (.tup [clD (mixedP p wid root key x lo hi y).1,iD (mixedP p wid root key x lo hi y).2]) S):=by
 have c1:=fun S=>aProofRead p wid root key x S hx
 have c2:=fun S=>aSRead p wid root lo hi y S hy
 have hfew:=pairs_few p wid root lo hi y hy
 have c3:=fun S=>aIndexFunc (pairsS p wid root lo hi y) key S hfew
 have z0:(errP p wid root key x == 2)=false:=by rw [hx0];rfl
 have z1:(errP p wid root key x != 0)=false:=by rw [hx0];rfl
 have z2:(errS p wid root lo hi y != 0)=false:=by rw [hy0];rfl
 obtain ⟨h3,hR⟩:=rng_true hk
 have c4:=fun S=>aProofForms p wid root key x S hx
 obtain ⟨f1,l1,ef,b1,m1⟩:=forms_ok hx0
 obtain ⟨hr,v,m,s2,n2⟩:=spanS_ok hy0
 have es:formsS y=v::m:=by unfold formsS;rw [s2];rfl
 have k2:=node_skip _ _ _ _ _ _ _ _ n2
 obtain ⟨a2,q2,g2⟩:=skipR_all _ _ _ k2
 have c5:=fun S=>aSForms p wid y (v::m) S hy hr s2 (by simp) (by rw [q2,List.append_nil];exact g2)
 have hs2:=splitP_shr s2
 have hn2:=splitP_len s2
 have o2:=aSideOk p wid lo hi (v::m) (by omega) (fun z hz=>Nat.le_trans (hs2 z hz) hy) 33 0 v [] rfl k2
 have t1:=fun S=>aPath f1 l1 S
 have t2:=fun S=>aGSide p wid (v::m) lo hi v 0 S rfl
 have t3:=fun S=>aOne key S
 have c8:=fun S=>aWalk p wid (oneC key) _ (oneC_ok key) (sideL (f1::l1)) (sideG p wid lo hi 33 (v::m)) _ _ S (sideL_ok f1 l1 (fun z hz=>by have:=b1 z hz;omega) (by omega)) o2 (fun q=>by cases q) (side_ne k2)
 rw [ef] at c4
 have hlong:=fun ha=>mixed_long (p:=p) (wid:=wid) (root:=root) (key:=key) (x:=x) (lo:=lo) (hi:=hi) (y:=y) hk hx0 hy0 ha
 rw [ef,es] at hlong
 clear o2
 generalize v::m=fy at c5 t2 c8 hlong
 rcases idx_last _ (keys_one (p:=p) (wid:=wid) (root:=root) (y:=y) hk) with ⟨i1,i2⟩ | ⟨i,q,i1,gi,i2⟩
 ·rw [i1] at c3
  have e1:decide ((-1:Int) ≥ 0)=false:=rfl
  have e2:decide ((-1:Int)<0)=true:=rfl
  cases ha:ansP p wid root key x with
  | none=>exact absurd (by rw [ha,i2]) hq
  | some u=>
   rw [ha] at c1
   obtain ⟨c,w1',w2',_⟩:=hlong (by rw [ha,i2];simp)
   rw [w2']
   rw [w1'] at c8
   rcases hR with ⟨h4,h5⟩ | ⟨h4,h5⟩
   all_goals
    refine acalls_of prg Tryz.func15 rfl (by kernel_rfl) (congrArg Array.toList Tryz.results15) Tryz.ntmps15 (fun B hB=>fA ?_)
    refine Wk Y0 ?_
    refine aL fun b14 k_b14 o_b14=>?_
    refine Wk Y0 ?_
    refine cQ (c1 _) ?_
    refine Wk Y0 ?_
    refine aL fun b16 k_b16 o_b16=>?_
    have n1:=nes k_b16.1
    refine Wk (Yy k_b16 (Yy n1 (Yy z0 (Yy h3 (Yy h4 h5))))) ?_
    refine cQ (c2 _) ?_
    refine Wk (Yy k_b16 (Yy n1 (Yy z1 z2))) ?_
    refine cQ (c3 _) ?_
    refine Wk (Yy k_b16 (Yy n1 (Yy e1 e2))) ?_
    refine cQ (c4 _) ?_
    refine Wk Y0 ?_
    refine cQ (c5 _) ?_
    refine Wk Y0 ?_
    refine cQ (t1 _) ?_
    refine Wk Y0 ?_
    refine cQ (t2 _) ?_
    refine Wk Y0 ?_
    refine cQ (t3 _) ?_
    refine Wk Y0 ?_
    refine cQ (c8 _) ?_
    refine Wk Y0 ?_
    refine cQ (aTold c true 0 _) ?_
    refine Wk (Yy k_b16 n1) ?_
    refine endq (S':=S) (sR (Yy k_b16 n1)) (by rfl) (Sto.Sub.refl _).cons.cons
 ·rw [i1] at c3
  have e1:decide ((i:Int) ≥ 0)=true:=decide_eq_true (by omega)
  have e2:decide ((i:Int)<0)=false:=decide_eq_false (by omega)
  have gq:((pairsS p wid root lo hi y).map prD)[i]?=some (prD q):=by rw [List.getElem?_map,gi];rfl
  have g0:(0:Int)≤i:=by omega
  cases ha:ansP p wid root key x with
  | none=>
   rw [ha] at c1
   obtain ⟨c,w1',w2',_⟩:=hlong (by rw [ha,i2];simp)
   rw [w2']
   rw [w1'] at c8
   rcases hR with ⟨h4,h5⟩ | ⟨h4,h5⟩
   all_goals
    refine acalls_of prg Tryz.func15 rfl (by kernel_rfl) (congrArg Array.toList Tryz.results15) Tryz.ntmps15 (fun B hB=>fA ?_)
    refine Wk Y0 ?_
    refine aL fun b14 k_b14 o_b14=>?_
    refine Wk Y0 ?_
    refine cQ (c1 _) ?_
    refine Wk Y0 ?_
    refine aL fun b16 k_b16 o_b16=>?_
    have n1:=nes k_b16.1
    refine Wk (Yy k_b16 (Yy n1 (Yy z0 (Yy h3 (Yy h4 h5))))) ?_
    refine cQ (c2 _) ?_
    refine Wk (Yy k_b16 (Yy n1 (Yy z1 z2))) ?_
    refine cQ (c3 _) ?_
    refine Wk (Yy k_b16 (Yy n1 (Yy e1 e2))) ?_
    refine cQ (c4 _) ?_
    refine Wk Y0 ?_
    refine cQ (c5 _) ?_
    refine Wk Y0 ?_
    refine cQ (t1 _) ?_
    refine Wk Y0 ?_
    refine cQ (t2 _) ?_
    refine Wk Y0 ?_
    refine cQ (t3 _) ?_
    refine Wk Y0 ?_
    refine cQ (c8 _) ?_
    refine Wk Y0 ?_
    refine cQ (aTold c true 0 _) ?_
    refine Wk (Yy k_b16 n1) ?_
    refine endq (S':=S) (sR (Yy k_b16 n1)) (by rfl) (Sto.Sub.refl _).cons.cons
  | some u=>
   rw [ha] at c1
   by_cases hv:u=q.2
   ·exact absurd (by rw [ha,i2,hv]) hq
   ·have zv:(q.2 == (some u).getD [])=false:=beq_eq_false_iff_ne.2 (fun h=>hv h.symm)
    obtain ⟨c,w1',w2',_⟩:=hlong (by rw [ha,i2];simpa using hv)
    rw [w2']
    rw [w1'] at c8
    rcases hR with ⟨h4,h5⟩ | ⟨h4,h5⟩
    all_goals
     refine acalls_of prg Tryz.func15 rfl (by kernel_rfl) (congrArg Array.toList Tryz.results15) Tryz.ntmps15 (fun B hB=>fA ?_)
     refine Wk Y0 ?_
     refine aL fun b14 k_b14 o_b14=>?_
     refine Wk Y0 ?_
     refine cQ (c1 _) ?_
     refine Wk Y0 ?_
     refine aL fun b16 k_b16 o_b16=>?_
     have n1:=nes k_b16.1
     refine Wk (Yy k_b16 (Yy n1 (Yy z0 (Yy h3 (Yy h4 h5))))) ?_
     refine cQ (c2 _) ?_
     refine Wk (Yy k_b16 (Yy n1 (Yy z1 z2))) ?_
     refine cQ (c3 _) ?_
     refine Wk (Yy k_b16 (Yy n1 (Yy e1 (Yy e2 (Yy gq (Yy g0 (Yy Int.toNat_natCast zv))))))) ?_
     refine cQ (c4 _) ?_
     refine Wk Y0 ?_
     refine cQ (c5 _) ?_
     refine Wk Y0 ?_
     refine cQ (t1 _) ?_
     refine Wk Y0 ?_
     refine cQ (t2 _) ?_
     refine Wk Y0 ?_
     refine cQ (t3 _) ?_
     refine Wk Y0 ?_
     refine cQ (c8 _) ?_
     refine Wk Y0 ?_
     refine cQ (aTold c true 0 _) ?_
     refine Wk (Yy k_b16 n1) ?_
     refine endq (S':=S) (sR (Yy k_b16 n1)) (by rfl) (Sto.Sub.refl _).cons.cons
theorem aMixedC (p wid:Int) (root:Dg) (key x lo hi y:Bs) (S:Sto) (hx:x.length≤1048576) (hy:y.length≤1048576) :
  ACalls Tryz.prog 15 [frD p wid,.dg root,sD key,sD x,sD lo,sD hi,sD y] S (RetQ (.tup [clD (mixedP p wid root key x lo hi y).1,iD (mixedP p wid root key x lo hi y).2]) S):=by
 by_cases h:rngB lo hi key=true∧errP p wid root key x=0∧errS p wid root lo hi y=0∧ansP p wid root key x≠lastA key (pairsS p wid root lo hi y) none
 ·exact aMixedL p wid root key x lo hi y S hx hy h.1 h.2.1 h.2.2.1 h.2.2.2
 ·exact aMixedE p wid root key x lo hi y S hx hy fun h1 h2 h3=>Classical.byContradiction fun h4=>h ⟨h1,h2,h3,h4⟩


theorem aClashMixed (p wid:Int) (rt:D) (rb key lo hi x y:Bs) (S:Sto) (hrt:RtOk rt rb) (hrb:rb.length≤1048576) (hx:x.length≤1048576) (hy:y.length≤1048576) :
  ACalls Tryz.prog 6 [askD p wid rt key lo hi x y] S (RetQ (bD true) S):=by
 have c1:∀ S,ACalls Tryz.prog 13 [askD p wid rt key lo hi x y] S (RetQ (.dg (rootOf rb)) S):=fun S=>by
  rcases hrt with rfl | ⟨rfl,ad,c,rfl⟩
  ·exact aRoot p wid rb key lo hi x y S (by omega)
  ·exact aRoot0 p wid ad c key lo hi x y S
 have c2:=fun S=>aMixedC p wid (rootOf rb) key x lo hi y S hx hy
 have c3:=fun S=>aRMixed p wid (rootOf rb) key x lo hi y S hx hy
 have c4:=fun S=>aAwake S
 generalize mixedP p wid (rootOf rb) key x lo hi y=r at c2 c3
 obtain ⟨⟨u,v⟩,e⟩:=r
 generalize rootOf rb=root at c1 c2 c3
 have z1:(u == u)=true:=beq_self_eq_true u
 have z2:(v == v)=true:=beq_self_eq_true v
 have z3:(e == e)=true:=beq_self_eq_true e
 rcases hrt with rfl | ⟨rfl,ad,c,rfl⟩
 ·refine acalls_of prg Tryz.func6 rfl (by kernel_rfl) (congrArg Array.toList Tryz.results6) Tryz.ntmps6 (fun B hB=>fA ?_)
  refine Wk Y0 ?_
  refine vx ?_
  refine Wu Y0 ?_
  refine cU (c1) ?_
  refine Wu Y0 ?_
  refine cU (c2) ?_
  refine Wu Y0 ?_
  rintro b3 ⟨k_b3,o_b3⟩
  refine Wu Y0 ?_
  refine Wk Y0 ?_
  refine vx ?_
  refine Wu Y0 ?_
  refine cU (c1) ?_
  refine Wu Y0 ?_
  refine cU (c3) ?_
  refine Wu Y0 ?_
  rintro b5 ⟨k_b5,o_b5⟩
  simp only [List.map_cons,List.mem_cons,not_or] at k_b5
  have n1:=nes k_b5.1
  refine Wu (Yy k_b5 n1) ?_
  refine Wk (Yy k_b5 (Yy n1 (Yy z1 (Yy z2 z3)))) ?_
  refine cQ (c4 _) ?_
  refine Wk Y0 ?_
  refine endq (S':=S) (sR Y0) (by rfl) (Sto.Sub.refl _).cons.cons
 ·refine acalls_of prg Tryz.func6 rfl (by kernel_rfl) (congrArg Array.toList Tryz.results6) Tryz.ntmps6 (fun B hB=>fA ?_)
  refine Wk Y0 ?_
  refine vx ?_
  refine Wu Y0 ?_
  refine cU (c1) ?_
  refine Wu Y0 ?_
  refine cU (c2) ?_
  refine Wu Y0 ?_
  rintro b3 ⟨k_b3,o_b3⟩
  refine Wu Y0 ?_
  refine Wk Y0 ?_
  refine vx ?_
  refine Wu Y0 ?_
  refine cU (c1) ?_
  refine Wu Y0 ?_
  refine cU (c3) ?_
  refine Wu Y0 ?_
  rintro b5 ⟨k_b5,o_b5⟩
  simp only [List.map_cons,List.mem_cons,not_or] at k_b5
  have n1:=nes k_b5.1
  refine Wu (Yy k_b5 n1) ?_
  refine Wk (Yy k_b5 (Yy n1 (Yy z1 (Yy z2 z3)))) ?_
  refine cQ (c4 _) ?_
  refine Wk Y0 ?_
  refine endq (S':=S) (sR Y0) (by rfl) (Sto.Sub.refl _).cons.cons

end Go.Proofs.YtcaggadjkccbiaaGreat