/- A form of a key's proof is read (values without addresses). -/
import Derived.Test.YtcaggadjkccbiaaGreatZ43
import Derived.Test.YtcaggadjkccbiaaGreatZ44
import Derived.Test.YtcaggadjkccbiaaGreatZ35
namespace Go.Proofs.YtcaggadjkccbiaaGreat
set_option maxHeartbeats 1000000
set_option maxRecDepth 100000
set_option linter.unusedVariables false
set_option linter.unusedSimpArgs false
open Go Go.RowKit

@[go_sem] theorem optP_put (o:Option Bs) (s:Bs):putD (optP o) 0 (.pt (sD s))=some (.pt (sD s)):=by cases o <;> rfl

def inB (lo hi:Option Bs) (s:Bs) (sharp:Bool):Bool:=lowB lo s sharp && highB hi s
def keptB (lo hi:Option Bs) (n:Nd):Bool:=(n.pairs.all fun q=>inB lo hi q.1 false) && (n.seps.all fun s=>inB lo hi s true)
def goodB (p wid:Int) (first last:Bool) (r:Rg) (n:Nd):Bool:=
 (sumN p wid n).2 == 0 && decide ((sumN p wid n).1=r.want) && (n.kids.length == 0) == last && keptB r.lo r.hi n && (!last || (decide (0<n.pairs.length) || first))
def nextR (key:Bs) (last:Bool) (r:Rg) (n:Nd):Rg:=
 if last=true then (if (findL key n.pairs).2=true then { r with ans:=(n.pairs[(findL key n.pairs).1]?).map (·.2) } else r)
 else ⟨((n.kids[wayL key n.seps]?).map (·.sum)).getD Dg.zero,if 0<wayL key n.seps then n.seps[wayL key n.seps - 1]? else r.lo,if wayL key n.seps<n.seps.length then n.seps[wayL key n.seps]? else r.hi,r.ans,r.ways++[wayL key n.seps]⟩
def formP (p wid:Int) (key s:Bs) (first last:Bool) (r:Rg):Option Rg:=
 match readP p wid s with
 | none=>none
 | some n=>if goodB p wid first last r n=true then some (nextR key last r n) else none

theorem findL_some {key:Bs}:∀ {l:List Pr},(findL key l).2=true→∃ x,l[(findL key l).1]?=some x∧x.1=key
 | [],h=>by cases h
 | p::l,h=>by
  unfold findL at h ⊢
  split at h
  ·rename_i hp
   rw [if_pos hp]
   obtain ⟨x,h1,h2⟩:=findL_some (l:=l) h
   exact ⟨x,by simpa using h1,h2⟩
  ·rename_i hp
   rw [if_neg hp]
   exact ⟨p,rfl,by simpa using h⟩

theorem aForm (b:Nat) (p wid:Int) (key s:Bs) (depth:Nat) (last:Bool) (tw:Tag) (r:Rg) (S:Sto) (ow0:List (Nat×Nat)) (hb:getM S.bk b=some (91,rgD p wid key tw r)) (hr:rightB p wid=true) (hs:s.length≤3909374676453)
  (hg:G1 ow0 S.ow 3 1 tw (r.ways.map natD)) (hw:r.ways.length≤1000) (hd:depth≤1000) :
  ACalls Tryz.prog 82 [pD b,sD s,iD depth,bD last] S (fun e S'=>match formP p wid key s (depth == 0) last r with
   | some r'=>e=.ret (.tup [])∧∃ tw',S'.bk=setM S.bk b (rgD p wid key tw' r')∧G1 ow0 S'.ow 3 1 tw' (r'.ways.map natD)
   | none=>e=.pan refD∧S'=S):=by
 have e1:unpackE p wid=73:=by simp [unpackE,hr]
 have cr:=fun S=>aNRead p wid s S hs
 rw [e1] at cr
 cases hn:readP p wid s with
 | none=>
  rw [hn] at cr
  have hf:formP p wid key s (depth == 0) last r=none:=by unfold formP;rw [hn]
  rw [hf]
  refine acalls_of prg Tryz.func82 rfl (by kernel_rfl) (congrArg Array.toList Tryz.results82) Tryz.ntmps82 (fun B hB=>fA ?_)
  refine Wk hb ?_
  refine cQ (cr _) ?_
  refine Wk Y0 ?_
  refine aL fun b8 k_b8 o_b8=>?_
  have m8:=getM_ne hb k_b8
  refine Wk (Yy k_b8 m8) ?_
  refine wpx (c:=by exact (aMustF _)) (k:=?_)
  (try dsimp only [AX.then,AX.inBlock,AX.noGoto])
  exact endp (Sto.Sub.refl _).cons ⟨rfl,rfl⟩
 | some n=>
  have cr:∀ S,ACalls Tryz.prog 58 [frD p wid,sD s] S (RetQ (.tup [ndA n,iD 0]) S):=fun S=>by have:=cr S;rw [hn] at this;exact this
  have ho:NdOk n:=parseP_ok hs (readP_ok hn).2.2
  have cs:=fun S=>aNSum p wid n S ho
  obtain ⟨⟨dg,de⟩,hsum⟩:∃ x,sumN p wid n=x:=⟨_,rfl⟩
  have cs:∀ S,ACalls Tryz.prog 90 [frD p wid,ndA n] S (RetQ (.tup [.dg dg,iD de]) S):=fun S=>by have:=cs S;rw [hsum] at this;exact this
  have hf:formP p wid key s (depth == 0) last r=if goodB p wid (depth == 0) last r n=true then some (nextR key last r n) else none:=by unfold formP;rw [hn]
  rw [hf]
  refine acalls_of prg Tryz.func82 rfl (by kernel_rfl) (congrArg Array.toList Tryz.results82) Tryz.ntmps82 (fun B hB=>fA ?_)
  refine Wk hb ?_
  refine cQ (cr _) ?_
  refine Wk Y0 ?_
  refine aL fun b8 k_b8 o_b8=>?_
  have m8:=getM_ne hb k_b8
  refine Wk (Yy k_b8 m8) ?_
  refine cQ (aMustT _) ?_
  refine Wk Y0 ?_
  refine vx ?_
  refine Wu (Yy hb (Yy m8 k_b8)) ?_
  refine cU (cs) ?_
  refine Wu (Yy hb (Yy m8 k_b8)) ?_
  rintro b10 ⟨k_b10,o_b10⟩
  simp only [List.map_cons,List.mem_cons,not_or] at k_b10
  have m10:=getM_ne hb k_b10.2
  have n10:=nes k_b10.1
  by_cases c1:de=0∧dg=r.want
  case neg=>
   have hG:goodB p wid (depth == 0) last r n=false:=by
    unfold goodB;rw [hsum]
    simp only [Bool.and_eq_false_iff,beq_eq_false_iff_ne,decide_eq_false_iff_not]
    by_cases h0:de=0
    ·exact .inl (.inl (.inl (.inr (fun h=>c1 ⟨h0,h⟩))))
    ·exact .inl (.inl (.inl (.inl h0)))
   rw [hG]
   refine Wu (Yy hb (Yy m8 (Yy m10 (Yy n10 (Yy k_b8 k_b10))))) ?_
   refine w3 ?_
   refine vz 10 ?_
   by_cases h0:de=0
   ·have z0:(de == 0)=true:=beq_iff_eq.2 h0
    have z1:decide (dg=r.want)=false:=decide_eq_false (fun h=>c1 ⟨h0,h⟩)
    refine Wk (Yy hb (Yy m8 (Yy m10 (Yy n10 (Yy k_b8 (Yy k_b10 (Yy z0 z1))))))) ?_
    refine wpx (c:=by exact (aMustF _)) (k:=?_)
    (try dsimp only [AX.then,AX.inBlock,AX.noGoto])
    exact endp (Sto.Sub.refl _).cons.cons ⟨rfl,rfl⟩
   ·have z0:(de == 0)=false:=beq_eq_false_iff_ne.2 h0
    refine Wk (Yy hb (Yy m8 (Yy m10 (Yy n10 (Yy k_b8 (Yy k_b10 z0)))))) ?_
    refine wpx (c:=by exact (aMustF _)) (k:=?_)
    (try dsimp only [AX.then,AX.inBlock,AX.noGoto])
    exact endp (Sto.Sub.refl _).cons.cons ⟨rfl,rfl⟩
  obtain ⟨rfl,rfl⟩:=c1
  have z0:((0:Int) == 0)=true:=rfl
  have z1:decide (r.want=r.want)=true:=decide_eq_true rfl
  refine Wu (Yy hb (Yy m8 (Yy m10 (Yy n10 (Yy k_b8 k_b10))))) ?_
  refine Wk (Yy hb (Yy m8 (Yy m10 (Yy n10 (Yy k_b8 (Yy k_b10 z1)))))) ?_
  refine cQ (aMustT _) ?_
  by_cases c2:((n.kids.length == 0) == last)=true
  case neg=>
   have c2':((n.kids.length == 0) == last)=false:=by simpa using c2
   have hG:goodB p wid (depth == 0) last r n=false:=by
    unfold goodB;rw [c2'];simp
   rw [hG]
   have z2:(((n.kids.length:Int) == 0) == last)=false:=by rw [← c2'];congr 1;rw [Bool.eq_iff_iff];simp
   refine Wk (Yy hb (Yy m8 (Yy m10 (Yy n10 (Yy k_b8 (Yy k_b10 z2)))))) ?_
   refine wpx (c:=by exact (aMustF _)) (k:=?_)
   (try dsimp only [AX.then,AX.inBlock,AX.noGoto])
   exact endp (Sto.Sub.refl _).cons.cons ⟨rfl,rfl⟩
  have z2:(((n.kids.length:Int) == 0) == last)=true:=by rw [← c2];congr 1;rw [Bool.eq_iff_iff];simp
  refine Wk (Yy hb (Yy m8 (Yy m10 (Yy n10 (Yy k_b8 (Yy k_b10 z2)))))) ?_
  refine cQ (aMustT _) ?_
  refine Wk (Yy hb (Yy m8 (Yy m10 (Yy n10 (Yy k_b8 k_b10))))) ?_
  have hb2:getM ((b10,36,D.dg r.want)::(b8,87,ndA n)::S.bk) b=some (91,rgD p wid key tw r):=by rw [getM_cons,if_neg m10,getM_cons,if_neg m8];exact hb
  refine AW.loopS 18 [12,58,59,60] (fun xs S'=>∃ i:Nat,xs=[.any,.sl .none (n.pairs.map prD),iD n.pairs.length,iD i]∧S'=⟨(b10,36,D.dg r.want)::(b8,87,ndA n)::S.bk,S.ow⟩∧i≤n.pairs.length∧∀ q∈n.pairs.take i,inB r.lo r.hi q.1 false=true) (fun xs _=>n.pairs.length - nI (xs.getD 3 .any)) [.any,.sl .none (n.pairs.map prD),iD n.pairs.length,iD 0] _ ?_ (Sto.Sub.refl _) ⟨0,rfl,rfl,by omega,by simp⟩ ?_
  ·exact wK
  rintro xs S' ⟨i,rfl,rfl,hi,hq⟩
  refine fR ?_
  by_cases hlt:i<n.pairs.length
  ·obtain ⟨x,hx⟩:∃ x,n.pairs[i]?=some x:=⟨_,List.getElem?_eq_getElem hlt⟩
   have d1:decide ((i:Int)<n.pairs.length)=true:=decide_eq_true (by omega)
   have hgt:(n.pairs.map prD)[i]?=some (prD x):=by rw [List.getElem?_map,hx];rfl
   have g0:(0:Int)≤i:=by omega
   have f1:IntKind.i64.wrap ((i:Int)+1)=((i+1:Nat):Int):=IntWalk.i64_in _ (by have:=ho.np;omega)
   refine Wk (Yy d1 (Yy hgt (Yy g0 Int.toNat_natCast))) ?_
   refine aL fun b12 k_b12 o_b12=>?_
   have m12:=getM_ne hb2 (by simp only [List.map_cons,List.mem_cons,not_or];exact k_b12)
   refine Wk k_b12 ?_
   have hb3:getM ((b12,73,prD x)::(b10,36,D.dg r.want)::(b8,87,ndA n)::S.bk) b=some (91,rgD p wid key tw r):=by rw [getM_cons,if_neg m12];exact hb2
   by_cases hin:inB r.lo r.hi x.1 false=true
   ·have hin':=hin
    unfold inB at hin'
    rw [Bool.and_eq_true] at hin'
    refine cQ (aWithin b p wid key x.1 tw r false _ hb3 hin'.1 hin'.2) ?_
    refine Wk f1 ?_
    refine ⟨[.any,.sl .none (n.pairs.map prD),iD n.pairs.length,iD (i+1:Nat)],⟨(b10,36,D.dg r.want)::(b8,87,ndA n)::S.bk,S.ow⟩,?_,(Sto.Sub.refl _).cons,⟨i+1,rfl,rfl,by omega,?_⟩,?_⟩
    ·exact wK
    ·intro q hmem
     rw [List.take_add_one,hx] at hmem
     rcases List.mem_append.1 hmem with h | h
     ·exact hq q h
     ·simp only [Option.toList_some,List.mem_singleton] at h;subst h;exact hin
    ·exact mE
   ·have hG:goodB p wid (depth == 0) last r n=false:=by
     have:(n.pairs.all fun q=>inB r.lo r.hi q.1 false)=false:=by
      rw [List.all_eq_false]
      exact ⟨x,List.mem_of_getElem? hx,hin⟩
     unfold goodB keptB
     rw [this];simp
    rw [hG]
    have hin':inB r.lo r.hi x.1 false=false:=by simpa using hin
    refine wpx (c:=by exact (aWithinF b p wid key x.1 tw r false _ hb3 hin')) (k:=?_)
    (try dsimp only [AX.then,AX.inBlock,AX.noGoto])
    exact endp (Sto.Sub.refl _).cons.cons.cons ⟨rfl,rfl⟩
  obtain rfl:i=n.pairs.length:=by omega
  rw [List.take_length] at hq
  have d1:decide ((n.pairs.length:Int)<n.pairs.length)=false:=decide_eq_false (by omega)
  refine Wk (Yy d1 (Yy k_b8 (Yy k_b10 (Yy m8 (Yy m10 n10))))) ?_
  refine AW.loopS 18 [14,70,71,72] (fun xs S'=>∃ i:Nat,xs=[.any,.sl .none (n.seps.map sD),iD n.seps.length,iD i]∧S'=⟨(b10,36,D.dg r.want)::(b8,87,ndA n)::S.bk,S.ow⟩∧i≤n.seps.length∧∀ q∈n.seps.take i,inB r.lo r.hi q true=true) (fun xs _=>n.seps.length - nI (xs.getD 3 .any)) [.any,.sl .none (n.seps.map sD),iD n.seps.length,iD 0] _ ?_ (Sto.Sub.refl _) ⟨0,rfl,rfl,by omega,by simp⟩ ?_
  ·exact wK
  rintro xs S' ⟨i,rfl,rfl,hi,hq2⟩
  refine fR ?_
  by_cases hlt:i<n.seps.length
  ·obtain ⟨x,hx⟩:∃ x,n.seps[i]?=some x:=⟨_,List.getElem?_eq_getElem hlt⟩
   have d1:decide ((i:Int)<n.seps.length)=true:=decide_eq_true (by omega)
   have hgt:(n.seps.map sD)[i]?=some (sD x):=by rw [List.getElem?_map,hx];rfl
   have g0:(0:Int)≤i:=by omega
   have f1:IntKind.i64.wrap ((i:Int)+1)=((i+1:Nat):Int):=IntWalk.i64_in _ (by have:=ho.ns;omega)
   refine Wk (Yy d1 (Yy hgt (Yy g0 Int.toNat_natCast))) ?_
   by_cases hin:inB r.lo r.hi x true=true
   ·have hin':=hin
    unfold inB at hin'
    rw [Bool.and_eq_true] at hin'
    refine cQ (aWithin b p wid key x tw r true _ hb2 hin'.1 hin'.2) ?_
    refine Wk f1 ?_
    refine ⟨[.any,.sl .none (n.seps.map sD),iD n.seps.length,iD (i+1:Nat)],⟨(b10,36,D.dg r.want)::(b8,87,ndA n)::S.bk,S.ow⟩,?_,(Sto.Sub.refl _),⟨i+1,rfl,rfl,by omega,?_⟩,?_⟩
    ·exact wK
    ·intro q hmem
     rw [List.take_add_one,hx] at hmem
     rcases List.mem_append.1 hmem with h | h
     ·exact hq2 q h
     ·simp only [Option.toList_some,List.mem_singleton] at h;subst h;exact hin
    ·exact mE
   ·have hG:goodB p wid (depth == 0) last r n=false:=by
     have:(n.seps.all fun q=>inB r.lo r.hi q true)=false:=by
      rw [List.all_eq_false]
      exact ⟨x,List.mem_of_getElem? hx,hin⟩
     unfold goodB keptB
     rw [this];simp
    rw [hG]
    have hin':inB r.lo r.hi x true=false:=by simpa using hin
    refine wpx (c:=by exact (aWithinF b p wid key x tw r true _ hb2 hin')) (k:=?_)
    (try dsimp only [AX.then,AX.inBlock,AX.noGoto])
    exact endp (Sto.Sub.refl _).cons.cons ⟨rfl,rfl⟩
  obtain rfl:i=n.seps.length:=by omega
  rw [List.take_length] at hq2
  have d2:decide ((n.seps.length:Int)<n.seps.length)=false:=decide_eq_false (by omega)
  have hK:keptB r.lo r.hi n=true:=by
   unfold keptB
   rw [Bool.and_eq_true,List.all_eq_true,List.all_eq_true]
   exact ⟨hq,hq2⟩
  have hGo:goodB p wid (depth == 0) last r n=(!last || (decide (0<n.pairs.length) || (depth == 0))):=by
   unfold goodB;rw [hsum,c2,hK];simp
  rw [hGo]
  have hbk:getM S.bk b=some (91,rgD p wid key tw r):=hb
  cases last with
  | true=>
   have hnp:=ho.np
   have cf:=fun S=>aFind n key S (by omega)
   obtain ⟨⟨fi,fb⟩,hfd⟩:∃ x,findL key n.pairs=x:=⟨_,rfl⟩
   have cf:∀ S,ACalls Tryz.prog 118 [ndA n,sD key] S (RetQ (.tup [iD fi,bD fb]) S):=fun S=>by have:=cf S;rw [hfd] at this;exact this
   refine Wk d2 ?_
   by_cases c3:0<n.pairs.length∨depth=0
   case neg=>
    have k0:decide ((n.pairs.length:Int) > 0)=false:=decide_eq_false (fun h=>c3 (.inl (by omega)))
    have k1:((depth:Int) == 0)=false:=by rw [beq_eq_false_iff_ne];intro h;exact c3 (.inr (by omega))
    have k2:(!true || (decide (0<n.pairs.length) || (depth == 0)))=false:=by rw [decide_eq_false (fun h=>c3 (.inl h)),beq_eq_false_iff_ne.2 (fun h=>c3 (.inr h))];rfl
    rw [k2]
    refine Wk (Yy k_b8 (Yy k_b10 (Yy n10 (Yy k0 k1)))) ?_
    refine wpx (c:=by exact (aMustF _)) (k:=?_)
    (try dsimp only [AX.then,AX.inBlock,AX.noGoto])
    exact endp (Sto.Sub.refl _).cons.cons ⟨rfl,rfl⟩
   have k2:(!true || (decide (0<n.pairs.length) || (depth == 0)))=true:=by rcases c3 with h | h;(rw [decide_eq_true h];rfl);(rw [h];simp)
   rw [k2]
   have kk:decide ((n.pairs.length:Int) > 0)=true∨(decide ((n.pairs.length:Int) > 0)=false∧((depth:Int) == 0)=true):=by
    by_cases h:0<n.pairs.length
    ·exact .inl (decide_eq_true (by omega))
    ·exact .inr ⟨decide_eq_false (by omega),by rw [beq_iff_eq];omega⟩
   rcases kk with k0 | ⟨k0,k1⟩
   ·refine Wk (Yy k_b8 (Yy k_b10 (Yy n10 k0))) ?_
    refine cQ (aMustT _) ?_
    refine Wk (Yy k_b8 (Yy k_b10 (Yy n10 (Yy m8 (Yy m10 hb))))) ?_
    refine cQ (cf _) ?_
    cases hfb:fb with
    | false=>
     have hN:nextR key true r n=r:=by unfold nextR;rw [if_pos rfl,hfd,if_neg (by rw [hfb];simp)]
     rw [if_pos rfl,hN]
     refine Wk Y0 ?_
     (try dsimp only [AX.then,AX.inBlock,AX.noGoto])
     refine endr (sR Y0) (by rfl) (Sto.Sub.refl _).cons.cons ⟨rfl,tw,?_,hg⟩
     rw [setM_same hbk]
    | true=>
     obtain ⟨x,hx,_⟩:=findL_some (key:=key) (l:=n.pairs) (by rw [hfd];exact hfb)
     rw [hfd] at hx
     have hgt:(n.pairs.map prD)[fi]?=some (prD x):=by rw [List.getElem?_map];simp only [hx];rfl
     have g0:(0:Int)≤fi:=by omega
     have hN:nextR key true r n={ r with ans:=some x.2 }:=by unfold nextR;rw [if_pos rfl,hfd,if_pos (by rw [hfb])];simp only [hx];rfl
     rw [if_pos rfl,hN]
     refine Wk (Yy k_b8 (Yy k_b10 (Yy m8 (Yy m10 (Yy n10 (Yy hb (Yy hgt (Yy g0 Int.toNat_natCast)))))))) ?_
     (try dsimp only [AX.then,AX.inBlock,AX.noGoto])
     refine endr (S':=⟨setM S.bk b (rgD p wid key tw { r with ans:=some x.2 }),S.ow⟩) (sR Y0) (by rfl) ?_ ⟨rfl,tw,rfl,hg⟩
     exact (Sto.Sub.refl _).cons.cons
   ·refine Wk (Yy k_b8 (Yy k_b10 (Yy n10 (Yy k0 k1)))) ?_
    refine cQ (aMustT _) ?_
    refine Wk (Yy k_b8 (Yy k_b10 (Yy n10 (Yy m8 (Yy m10 hb))))) ?_
    refine cQ (cf _) ?_
    cases hfb:fb with
    | false=>
     have hN:nextR key true r n=r:=by unfold nextR;rw [if_pos rfl,hfd,if_neg (by rw [hfb];simp)]
     rw [if_pos rfl,hN]
     refine Wk Y0 ?_
     (try dsimp only [AX.then,AX.inBlock,AX.noGoto])
     refine endr (sR Y0) (by rfl) (Sto.Sub.refl _).cons.cons ⟨rfl,tw,?_,hg⟩
     rw [setM_same hbk]
    | true=>
     obtain ⟨x,hx,_⟩:=findL_some (key:=key) (l:=n.pairs) (by rw [hfd];exact hfb)
     rw [hfd] at hx
     have hgt:(n.pairs.map prD)[fi]?=some (prD x):=by rw [List.getElem?_map];simp only [hx];rfl
     have g0:(0:Int)≤fi:=by omega
     have hN:nextR key true r n={ r with ans:=some x.2 }:=by unfold nextR;rw [if_pos rfl,hfd,if_pos (by rw [hfb])];simp only [hx];rfl
     rw [if_pos rfl,hN]
     refine Wk (Yy k_b8 (Yy k_b10 (Yy m8 (Yy m10 (Yy n10 (Yy hb (Yy hgt (Yy g0 Int.toNat_natCast)))))))) ?_
     (try dsimp only [AX.then,AX.inBlock,AX.noGoto])
     refine endr (S':=⟨setM S.bk b (rgD p wid key tw { r with ans:=some x.2 }),S.ow⟩) (sR Y0) (by rfl) ?_ ⟨rfl,tw,rfl,hg⟩
     exact (Sto.Sub.refl _).cons.cons
  | false=>
   have hns:=ho.ns
   have cw:=fun S=>aWay n key S (by omega)
   obtain ⟨w,hw⟩:∃ x,wayL key n.seps=x:=⟨_,rfl⟩
   rw [hw] at cw
   refine Wk (Yy d2 (Yy k_b8 (Yy k_b10 (Yy m8 (Yy m10 (Yy n10 hb)))))) ?_
   refine cQ (cw _) ?_
   refine Wk (Yy k_b8 (Yy k_b10 (Yy m8 (Yy m10 (Yy n10 hb))))) ?_
   have k2:(!false || (decide (0<n.pairs.length) || (depth == 0)))=true:=rfl
   rw [k2]
   have hk0:n.kids.length≠0:=by simpa using c2
   have hsh:=(checkE_ok (mayE_ok (readP_ok hn).2.1).1).2
   have hkl:n.seps.length+1=n.kids.length:=by
    unfold shapedB at hsh
    rw [if_neg (by unfold leafB;simp;intro _ h;exact hk0 (by rw [h];rfl))] at hsh
    simp only [Bool.and_eq_true,decide_eq_true_eq] at hsh
    exact hsh.1.1.2
   have hwl:w≤n.seps.length:=by rw [← hw];exact wayL_le _ _
   obtain ⟨kd,hkd⟩:∃ x,n.kids[w]?=some x:=⟨_,List.getElem?_eq_getElem (by omega)⟩
   have hgk:(n.kids.map kdD)[w]?=some (kdD kd):=by rw [List.getElem?_map,hkd];rfl
   have g0:(0:Int)≤w:=by omega
   refine wap 3 1 8 ?_ ?_ ?_ (fun g _ hgo=>?_)
   ·exact sz_map (f:=natD) (fun _=>rfl) (fun d hd=>by simp only [List.mem_singleton] at hd;subst hd;rfl)
   ·exact hg.may
   ·rw [List.length_map];simp only [List.length_singleton];omega
   have hg2:=hg.add (ns:=[iD w]) hgo
   by_cases h0:0<w
   ·obtain ⟨lo,hlo⟩:∃ x,n.seps[w - 1]?=some x:=⟨_,List.getElem?_eq_getElem (by omega)⟩
    have hgl:(n.seps.map sD)[w - 1]?=some (sD lo):=by rw [List.getElem?_map,hlo];rfl
    have p0:decide ((w:Int) > 0)=true:=decide_eq_true (by omega)
    have f0:IntKind.i64.wrap ((w:Int) - 1)=((w - 1:Nat):Int):=by rw [IntWalk.i64_in _ (by omega)];omega
    have g1:(0:Int)≤(w - 1:Nat):=by omega
    by_cases h1:w<n.seps.length
    ·obtain ⟨hi,hhi⟩:∃ x,n.seps[w]?=some x:=⟨_,List.getElem?_eq_getElem h1⟩
     have hgh:(n.seps.map sD)[w]?=some (sD hi):=by rw [List.getElem?_map,hhi];rfl
     have p1:decide ((w:Int)<n.seps.length)=true:=decide_eq_true (by omega)
     have hN:nextR key false r n=⟨kd.sum,some lo,some hi,r.ans,r.ways++[w]⟩:=by
      unfold nextR
      rw [hw]
      simp only [Bool.false_eq_true,if_false,hkd,Option.map_some,Option.getD_some,if_pos h0,if_pos h1,hlo,hhi]
     rw [if_pos rfl,hN]
     refine Wk (Yy k_b8 (Yy k_b10 (Yy m8 (Yy m10 (Yy n10 (Yy hb (Yy hgk (Yy g0 (Yy Int.toNat_natCast (Yy p0 (Yy f0 (Yy g1 (Yy hgl (Yy p1 hgh)))))))))))))) ?_
     refine endrn (S':=⟨setM S.bk b (rgD p wid key (.own g 3 1) ⟨kd.sum,some lo,some hi,r.ans,r.ways++[w]⟩),(g,(r.ways.map natD++[iD w]).length*1)::dropTok tw S.ow⟩) (sR Y0) (by rfl) ?_ ⟨rfl,.own g 3 1,rfl,?_⟩
     ·simp only [rgD,List.map_append,List.map_cons,List.map_nil]
      exact (Sto.Sub.refl _).cons.cons
     ·simp only [List.map_append,List.map_cons,List.map_nil]
      exact hg2
    ·have p1:decide ((w:Int)<n.seps.length)=false:=decide_eq_false (by omega)
     have hN:nextR key false r n=⟨kd.sum,some lo,r.hi,r.ans,r.ways++[w]⟩:=by
      unfold nextR
      rw [hw]
      simp only [Bool.false_eq_true,if_false,hkd,Option.map_some,Option.getD_some,if_pos h0,if_neg h1,hlo]
     rw [if_pos rfl,hN]
     refine Wk (Yy k_b8 (Yy k_b10 (Yy m8 (Yy m10 (Yy n10 (Yy hb (Yy hgk (Yy g0 (Yy Int.toNat_natCast (Yy p0 (Yy f0 (Yy g1 (Yy hgl p1))))))))))))) ?_
     refine endrn (S':=⟨setM S.bk b (rgD p wid key (.own g 3 1) ⟨kd.sum,some lo,r.hi,r.ans,r.ways++[w]⟩),(g,(r.ways.map natD++[iD w]).length*1)::dropTok tw S.ow⟩) (sR Y0) (by rfl) ?_ ⟨rfl,.own g 3 1,rfl,?_⟩
     ·simp only [rgD,List.map_append,List.map_cons,List.map_nil]
      exact (Sto.Sub.refl _).cons.cons
     ·simp only [List.map_append,List.map_cons,List.map_nil]
      exact hg2
   ·have p0:decide ((w:Int) > 0)=false:=decide_eq_false (by omega)
    by_cases h1:w<n.seps.length
    ·obtain ⟨hi,hhi⟩:∃ x,n.seps[w]?=some x:=⟨_,List.getElem?_eq_getElem h1⟩
     have hgh:(n.seps.map sD)[w]?=some (sD hi):=by rw [List.getElem?_map,hhi];rfl
     have p1:decide ((w:Int)<n.seps.length)=true:=decide_eq_true (by omega)
     have hN:nextR key false r n=⟨kd.sum,r.lo,some hi,r.ans,r.ways++[w]⟩:=by
      unfold nextR
      rw [hw]
      simp only [Bool.false_eq_true,if_false,hkd,Option.map_some,Option.getD_some,if_neg h0,if_pos h1,hhi]
     rw [if_pos rfl,hN]
     refine Wk (Yy k_b8 (Yy k_b10 (Yy m8 (Yy m10 (Yy n10 (Yy hb (Yy hgk (Yy g0 (Yy Int.toNat_natCast (Yy p0 (Yy p1 hgh))))))))))) ?_
     refine endrn (S':=⟨setM S.bk b (rgD p wid key (.own g 3 1) ⟨kd.sum,r.lo,some hi,r.ans,r.ways++[w]⟩),(g,(r.ways.map natD++[iD w]).length*1)::dropTok tw S.ow⟩) (sR Y0) (by rfl) ?_ ⟨rfl,.own g 3 1,rfl,?_⟩
     ·simp only [rgD,List.map_append,List.map_cons,List.map_nil]
      exact (Sto.Sub.refl _).cons.cons
     ·simp only [List.map_append,List.map_cons,List.map_nil]
      exact hg2
    ·have p1:decide ((w:Int)<n.seps.length)=false:=decide_eq_false (by omega)
     have hN:nextR key false r n=⟨kd.sum,r.lo,r.hi,r.ans,r.ways++[w]⟩:=by
      unfold nextR
      rw [hw]
      simp only [Bool.false_eq_true,if_false,hkd,Option.map_some,Option.getD_some,if_neg h0,if_neg h1]
     rw [if_pos rfl,hN]
     refine Wk (Yy k_b8 (Yy k_b10 (Yy m8 (Yy m10 (Yy n10 (Yy hb (Yy hgk (Yy g0 (Yy Int.toNat_natCast (Yy p0 p1)))))))))) ?_
     refine endrn (S':=⟨setM S.bk b (rgD p wid key (.own g 3 1) ⟨kd.sum,r.lo,r.hi,r.ans,r.ways++[w]⟩),(g,(r.ways.map natD++[iD w]).length*1)::dropTok tw S.ow⟩) (sR Y0) (by rfl) ?_ ⟨rfl,.own g 3 1,rfl,?_⟩
     ·simp only [rgD,List.map_append,List.map_cons,List.map_nil]
      exact (Sto.Sub.refl _).cons.cons
     ·simp only [List.map_append,List.map_cons,List.map_nil]
      exact hg2


def keyedB (p:Int) (key:Bs):Bool:=!(key == []) && decide ((key.length:Int)≤p / 16)
theorem aKeyed (p wid:Int) (key:Bs) (S:Sto) (h0:0≤p) (h1:p≤1000000):ACalls Tryz.prog 79 [frD p wid,sD key] S (RetQ (bD (keyedB p key)) S):=by
 have cm:=fun S=>aMaxKey p wid S h0 h1
 unfold keyedB
 refine acalls_of prg Tryz.func79 rfl (by kernel_rfl) (congrArg Array.toList Tryz.results79) Tryz.ntmps79 (fun B hB=>fA ?_)
 cases hk:(key == [])
 ·refine Wk hk ?_
  refine cQ (cm _) ?_
  refine Wk Y0 ?_
  exact rE
 ·refine Wk hk ?_
  exact rE

@[go_sem] def rg0 (root:Dg):Rg:=⟨root,none,none,none,[]⟩
theorem aRec0 (S:Sto) (b8 b9 b10:Nat):ADefer Tryz.prog 80 [pD b8,pD b9,pD b10] S .returning (fun u S'=>settle u=.returning∧S'=S):=by
 refine (adefer_rec prg Tryz.func80 rfl (by kernel_rfl) rfl rfl rfl rfl rfl rfl (congrArg Array.toList Tryz.results80) Tryz.ntmps80 (x:=.nilIface) (u':=.returning) (.inl ⟨rfl,rfl,rfl⟩) rfl (by decide) (R:=fun S'=>S'=S) (fun B hB=>?_)).mono (fun u S' h=>⟨by rw [h.1];rfl,h.2⟩)
 simp only [List.length_cons,List.length_nil,Nat.reduceAdd,Nat.reduceSub,List.replicate_succ,List.replicate_zero,List.cons_append,List.nil_append]
 refine Wk Y0 ?_
 refine rX ?_
 rfl

theorem aRec1 (S:Sto) (b8 b9 b10:Nat) (d8 d9 d10:D) (h8:getM S.bk b8=some (53,d8)) (h9:getM S.bk b9=some (91,d9)) (h10:getM S.bk b10=some (32,d10)) (n98:¬ b9=b8) (n108:¬ b10=b8) (n109:¬ b10=b9)
  (z8:d8.size=1∧d8.isAgg=false∧∃ t es,d8=.sl t es) (z9:∃ p wid key tw r,d9=rgD p wid key tw r) (z10:∃ n,d10=iD n) :
  ADefer Tryz.prog 80 [pD b8,pD b9,pD b10] S (.panicking [{ v:=.iface 137 (.agg #[]),recovered:=false }]) (fun u S'=>settle u=.returning∧S'=⟨setM (setM (setM S.bk b8 (.sl .nil [])) b9 (rgD 0 0 [] .nil (rg0 Dg.zero))) b10 (iD 150),S.ow⟩):=by
 refine (adefer_rec prg Tryz.func80 rfl (by kernel_rfl) rfl rfl rfl rfl rfl rfl (congrArg Array.toList Tryz.results80) Tryz.ntmps80 (x:=.iface 137 (.agg #[])) (u':=.panicking [{ v:=.iface 137 (.agg #[]),recovered:=true }]) (.inr ⟨_,rfl,rfl,rfl⟩) rfl (by decide) (R:=fun S'=>S'=⟨setM (setM (setM S.bk b8 (.sl .nil [])) b9 (rgD 0 0 [] .nil (rg0 Dg.zero))) b10 (iD 150),S.ow⟩) (fun B hB=>?_)).mono (fun u S' h=>⟨by rw [h.1];rfl,h.2⟩)
 simp only [List.length_cons,List.length_nil,Nat.reduceAdd,Nat.reduceSub,List.replicate_succ,List.replicate_zero,List.cons_append,List.nil_append]
 obtain ⟨_,_,t8,e8,rfl⟩:=z8
 obtain ⟨p,wid,key,tw,r,rfl⟩:=z9
 obtain ⟨n,rfl⟩:=z10
 refine Wk Y0 ?_
 refine aL fun b4 k_b4 o_b4=>?_
 have m8:=getM_ne h8 k_b4
 have m9:=getM_ne h9 k_b4
 have m10:=getM_ne h10 k_b4
 have q98:∀ bk x,getM (setM bk b8 x) b9=getM bk b9:=fun _ _=>getM_setM_ne n98
 have q108:∀ bk x,getM (setM bk b8 x) b10=getM bk b10:=fun _ _=>getM_setM_ne n108
 have q109:∀ bk x,getM (setM bk b9 x) b10=getM bk b10:=fun _ _=>getM_setM_ne n109
 refine Wk (Yy k_b4 (Yy m8 (Yy m9 (Yy m10 (Yy h8 (Yy h9 (Yy h10 (Yy q98 (Yy q108 q109))))))))) ?_
 (try dsimp only [AX.then,AX.inBlock,AX.noGoto])
 refine endnx (S':=⟨setM (setM (setM S.bk b8 (.sl .nil [])) b9 (rgD 0 0 [] .nil (rg0 Dg.zero))) b10 (iD 150),S.ow⟩) (sR Y0) (by rfl) ?_ rfl
 exact (Sto.Sub.refl _).cons

theorem untags_sD:∀ l:List Bs,untags (l.map sD)=l.map sD
 | []=>rfl
 | s::l=>by show untag (sD s)::untags (l.map sD)=_;rw [untags_sD l];rfl
def readF (p wid:Int) (key:Bs):Nat→List Bs→Rg→Option Rg
 | _,[],r=>some r
 | i,s::l,r=>
  match formP p wid key s (i == 0) (l.length == 0) r with
  | none=>none
  | some r'=>readF p wid key (i+1) l r'
def proofP (p wid:Int) (root:Dg) (key s:Bs):Option (List Bs×Rg):=
 match splitP s with
 | none=>none
 | some fs=>if 0<fs.length∧fs.length≤33 then (readF p wid key 0 fs (rg0 root)).map fun r=>(fs,r) else none
def argsB (p wid:Int) (root:Dg) (key:Bs):Bool:=rightB p wid && fitB wid root && keyedB p key
def proofD (p wid:Int) (root:Dg) (key s:Bs):D:=
 if argsB p wid root key=true then
  match proofP p wid root key s with
  | some (fs,r)=>.tup [.sl .none (fs.map sD),rgD p wid key .none r,iD 0]
  | none=>.tup [.sl .none [],rgD 0 0 [] .none (rg0 Dg.zero),iD 150]
 else .tup [.sl .none [],rgD 0 0 [] .none (rg0 Dg.zero),iD 2]

theorem vrd_shr:∀ {l:Bs} {k n a:Nat} {l':Bs},vrd l k n=some (a,l')→l'.length≤l.length
 | [],k,n,a,l',h=>by cases h
 | b::l,k,n,a,l',h=>by
  unfold vrd at h
  split at h
  ·cases h
  ·split at h
   ·simp only [Option.some.injEq,Prod.mk.injEq] at h;rw [← h.2];simp
   ·have:=vrd_shr h;simp only [List.length_cons];omega
theorem freeP_shr {m:Nat} {l:Bs} {a:Nat} {l':Bs} (h:freeP m l=some (a,l')):l'.length≤l.length:=by
 unfold freeP at h
 split at h
 ·cases h
 ·rename_i n l1 hv
  split at h
  ·simp only [Option.some.injEq,Prod.mk.injEq] at h;rw [← h.2];exact vrd_shr hv
  ·cases h
theorem textP_shr {m:Nat} {l t l':Bs} (h:textP m l=some (t,l')):t.length≤l.length∧l'.length≤l.length:=by
 unfold textP at h
 split at h
 ·cases h
 ·rename_i n l1 hf
  have:=freeP_shr hf
  unfold rawP at h
  split at h
  ·simp only [Option.some.injEq,Prod.mk.injEq] at h;rw [← h.1,← h.2];simp only [List.length_take,List.length_drop];omega
  ·cases h
theorem strsP_shr {m:Nat}:∀ {n:Nat} {l:Bs} {ts:List Bs} {l':Bs},strsP m n l=some (ts,l')→∀ t∈ts,t.length≤l.length
 | 0,l,ts,l',h=>by
  simp only [strsP,Option.some.injEq,Prod.mk.injEq] at h;rw [← h.1];intro t ht;cases ht
 | n+1,l,ts,l',h=>by
  unfold strsP at h
  split at h
  ·cases h
  ·rename_i t l1 h1
   have s1:=textP_shr h1
   cases h2:strsP m n l1 with
   | none=>rw [h2] at h;cases h
   | some r=>
    obtain ⟨us,l2⟩:=r
    rw [h2] at h
    simp only [Option.map_some,Option.some.injEq,Prod.mk.injEq] at h
    rw [← h.1]
    intro u hu
    rcases List.mem_cons.1 hu with rfl | hu
    ·exact s1.1
    ·exact Nat.le_trans (strsP_shr h2 u hu) s1.2
theorem splitP_shr {s:Bs} {ts:List Bs} (h:splitP s=some ts):∀ t∈ts,t.length≤s.length:=by
 unfold splitP at h
 split at h
 ·rename_i us hl
  simp only [Option.some.injEq] at h
  subst h
  unfold listS at hl
  split at hl
  ·cases hl
  ·rename_i n l1 hc
   have:l1.length≤s.length:=by
    unfold countP at hc
    split at hc
    ·cases hc
    ·rename_i a l2 hf
     split at hc
     ·simp only [Option.some.injEq,Prod.mk.injEq] at hc;rw [← hc.2];exact freeP_shr hf
     ·cases hc
   exact fun t ht=>Nat.le_trans (strsP_shr hl t ht) this
 ·cases h
theorem nextR_ways (key:Bs) (last:Bool) (r:Rg) (n:Nd):(nextR key last r n).ways.length≤r.ways.length+1:=by
 unfold nextR
 split
 ·split <;> simp
 ·simp

theorem pread_pan {A:List D} {S:Sto} {ow:List (Nat×Nat)} {b8 b9 b10:Nat} {d8 d9 d10:D} (k9:¬ b9=b8) (k10:¬ b10=b9∧¬ b10=b8) (hsub:List.Sublist S.ow ow) (h8:A.getD 8 .any=pD b8) (h9:A.getD 9 .any=pD b9) (h10:A.getD 10 .any=pD b10)
  (z8:d8.size=1∧d8.isAgg=false∧∃ t es,d8=.sl t es) (z9:∃ p wid key tw r,d9=rgD p wid key tw r) (z10:∃ n,d10=iD n) :
  EndD Tryz.prog tys [.cell 8 53,.cell 9 91,.cell 10 32] 80 [.pointer (some ⟨b8,0,none⟩),.pointer (some ⟨b9,0,none⟩),.pointer (some ⟨b10,0,none⟩)] (RetQ (.tup [.sl .none [],rgD 0 0 [] .none (rg0 Dg.zero),iD 150]) S) (.panic refD) A ⟨(b10,32,d10)::(b9,91,d9)::(b8,53,d8)::S.bk,ow⟩:=by
 have n89:=nes k9
 have n810:=nes k10.2
 have n910:=nes k10.1
 have e8:getM ((b10,32,d10)::(b9,91,d9)::(b8,53,d8)::S.bk) b8=some (53,d8):=by rw [getM_cons,if_neg n810,getM_cons,if_neg n89,getM_cons,if_pos rfl]
 have e9:getM ((b10,32,d10)::(b9,91,d9)::(b8,53,d8)::S.bk) b9=some (91,d9):=by rw [getM_cons,if_neg n910,getM_cons,if_pos rfl]
 have e10:getM ((b10,32,d10)::(b9,91,d9)::(b8,53,d8)::S.bk) b10=some (32,d10):=by rw [getM_cons,if_pos rfl]
 refine ⟨_,rfl,(aRec1 ⟨(b10,32,d10)::(b9,91,d9)::(b8,53,d8)::S.bk,ow⟩ b8 b9 b10 d8 d9 d10 e8 e9 e10 k9 k10.2 k10.1 z8 z9 z10).mono (fun u S' h=>⟨h.1,?_⟩)⟩
 obtain ⟨_,rfl⟩:=h
 refine ⟨[.sl .nil [],rgD 0 0 [] .nil (rg0 Dg.zero),iD 150],_,S,?_,.inr rfl,?_,rfl,rfl⟩
 ·simp only [go_sem,Int.reduceEq,Int.reduceLT,Int.reduceBEq,Int.reduceBNe,Int.reduceNe,Nat.reduceLeDiff,Nat.reduceAdd,Nat.reduceSub,Nat.reduceLT,Nat.reduceEqDiff,Nat.reduceBEq,Int.reduceLE,Int.reduceToNat,h8,h9,h10,n89,n810,n910,k9,k10]
 ·simp only [setM_cons,n89,n810,n910,k9,k10,if_true,if_false]
  exact ⟨((List.Sublist.refl _).cons _).cons _ |>.cons _,hsub⟩
theorem pread_ret {A:List D} {S:Sto} {ow:List (Nat×Nat)} {b8 b9 b10:Nat} {t8 tw:Tag} {es:List D} {p wid:Int} {key:Bs} {r:Rg} (k9:¬ b9=b8) (k10:¬ b10=b9∧¬ b10=b8) (hsub:List.Sublist S.ow ow) (h8:A.getD 8 .any=pD b8) (h9:A.getD 9 .any=pD b9) (h10:A.getD 10 .any=pD b10) (hes:untags es=es) :
  EndD Tryz.prog tys [.cell 8 53,.cell 9 91,.cell 10 32] 80 [.pointer (some ⟨b8,0,none⟩),.pointer (some ⟨b9,0,none⟩),.pointer (some ⟨b10,0,none⟩)] (RetQ (.tup [.sl .none es,rgD p wid key .none r,iD 0]) S) .ret A ⟨(b10,32,iD 0)::(b9,91,rgD p wid key tw r)::(b8,53,.sl t8 es)::S.bk,ow⟩:=by
 have n89:=nes k9
 have n810:=nes k10.2
 have n910:=nes k10.1
 refine (aRec0 _ b8 b9 b10).mono (fun u S' h=>⟨h.1,?_⟩)
 obtain ⟨_,rfl⟩:=h
 refine ⟨[.sl t8 es,rgD p wid key tw r,iD 0],_,S,?_,.inr ?_,?_,rfl,rfl⟩
 ·simp only [go_sem,Int.reduceEq,Int.reduceLT,Int.reduceBEq,Int.reduceBNe,Int.reduceNe,Nat.reduceLeDiff,Nat.reduceAdd,Nat.reduceSub,Nat.reduceLT,Nat.reduceEqDiff,Nat.reduceBEq,Int.reduceLE,Int.reduceToNat,h8,h9,h10,n89,n810,n910,k9,k10]
 ·obtain ⟨want,lo,hi,ans,ways⟩:=r
  cases lo <;> cases hi <;> rfl
 ·exact ⟨((List.Sublist.refl _).cons _).cons _ |>.cons _,hsub⟩

theorem aPRead (p wid:Int) (root:Dg) (key s:Bs) (S:Sto) (hs:s.length≤1048576) :
  ACalls Tryz.prog 46 [frD p wid,.dg root,sD key,sD s] S (RetQ (proofD p wid root key s) S):=by
 refine acalls_of_defer prg Tryz.func46 rfl (by kernel_rfl) (congrArg Array.toList Tryz.results46) Tryz.ntmps46 (fun B Z hB hQ hD=>?_)
 simp only [List.length_cons,List.length_nil,Nat.reduceAdd,Nat.reduceSub,List.replicate_succ,List.replicate_zero,List.cons_append,List.nil_append]
 refine AWD.seq hQ ?_
 refine w4 ?_
 refine gG Y0 ?_
 refine aL fun b8 k_b8 o_b8=>?_
 refine gG Y0 ?_
 refine aL fun b9 k_b9 o_b9=>?_
 refine gG Y0 ?_
 refine aL fun b10 k_b10 o_b10=>?_
 refine gG Y0 ?_
 refine w6 ?_
 have n89:=nes k_b9.1
 have n810:=nes k_b10.2.1
 have n910:=nes k_b10.1
 refine AWD.seq hQ ?_
 have c1:=fun S=>aNRight p wid S
 have c2:=fun S=>aFits wid root S
 cases hr:rightB p wid
 case false=>
  have hP:proofD p wid root key s=.tup [.sl .none [],rgD 0 0 [] .none (rg0 Dg.zero),iD 2]:=by unfold proofD argsB;rw [hr];rfl
  rw [hr] at c1
  rw [hP]
  refine Wk Y0 ?_
  refine cQ (c1 _) ?_
  refine Wk (Yy k_b9 (Yy k_b10 (Yy n89 (Yy n810 n910)))) ?_
  (try dsimp only [AX.then,AX.inBlock,AX.noGoto])
  refine enduq (S':=S) (sR (Yy k_b9 (Yy k_b10 (Yy n89 (Yy n810 n910))))) (by rfl) (Sto.Sub.refl _).cons.cons.cons
 case true=>
  have hr':=rightB_iff.1 hr
  rw [hr] at c1
  have c3:=fun S=>aKeyed p wid key S (by omega) (by omega)
  cases hf:fitB wid root
  case false=>
   have hP:proofD p wid root key s=.tup [.sl .none [],rgD 0 0 [] .none (rg0 Dg.zero),iD 2]:=by unfold proofD argsB;rw [hr,hf];rfl
   rw [hf] at c2
   rw [hP]
   refine Wk Y0 ?_
   refine cQ (c1 _) ?_
   refine Wk Y0 ?_
   refine cQ (c2 _) ?_
   refine Wk (Yy k_b9 (Yy k_b10 (Yy n89 (Yy n810 n910)))) ?_
   (try dsimp only [AX.then,AX.inBlock,AX.noGoto])
   refine enduq (S':=S) (sR (Yy k_b9 (Yy k_b10 (Yy n89 (Yy n810 n910))))) (by rfl) (Sto.Sub.refl _).cons.cons.cons
  case true=>
   rw [hf] at c2
   cases hk:keyedB p key
   case false=>
    have hP:proofD p wid root key s=.tup [.sl .none [],rgD 0 0 [] .none (rg0 Dg.zero),iD 2]:=by unfold proofD argsB;rw [hr,hf,hk];rfl
    rw [hk] at c3
    rw [hP]
    refine Wk Y0 ?_
    refine cQ (c1 _) ?_
    refine Wk Y0 ?_
    refine cQ (c2 _) ?_
    refine Wk Y0 ?_
    refine cQ (c3 _) ?_
    refine Wk (Yy k_b9 (Yy k_b10 (Yy n89 (Yy n810 n910)))) ?_
    (try dsimp only [AX.then,AX.inBlock,AX.noGoto])
    refine enduq (S':=S) (sR (Yy k_b9 (Yy k_b10 (Yy n89 (Yy n810 n910))))) (by rfl) (Sto.Sub.refl _).cons.cons.cons
   case true=>
    rw [hk] at c3
    have hP:proofD p wid root key s=match proofP p wid root key s with
     | some (fs,r)=>.tup [.sl .none (fs.map sD),rgD p wid key .none r,iD 0]
     | none=>.tup [.sl .none [],rgD 0 0 [] .none (rg0 Dg.zero),iD 150]:=by unfold proofD argsB;rw [hr,hf,hk];rfl
    refine Wk Y0 ?_
    refine cQ (c1 _) ?_
    refine Wk Y0 ?_
    refine cQ (c2 _) ?_
    refine Wk Y0 ?_
    refine cQ (c3 _) ?_
    refine Wk Y0 ?_
    refine AWD.put_off prg (f:=80) (caps:=#[.pointer (some ⟨b8,0,none⟩),.pointer (some ⟨b9,0,none⟩),.pointer (some ⟨b10,0,none⟩)]) (by (simp only [go_sem,Int.reduceEq,Int.reduceLT,Int.reduceBEq,Int.reduceBNe,Int.reduceNe,Nat.reduceLeDiff,Nat.reduceAdd,Nat.reduceSub,Nat.reduceLT,Nat.reduceEqDiff,Nat.reduceBEq,Int.reduceLE,Int.reduceToNat];try rfl)) rfl rfl rfl (by (simp only [go_sem,Int.reduceEq,Int.reduceLT,Int.reduceBEq,Int.reduceBNe,Int.reduceNe,Nat.reduceLeDiff,Nat.reduceAdd,Nat.reduceSub,Nat.reduceLT,Nat.reduceEqDiff,Nat.reduceBEq,Int.reduceLE,Int.reduceToNat];try rfl)) ?_
    rw [hB]
    refine AWD.of (hD _ _ (by simp [Value.oneCell'])) ?_
    refine Wk Y0 ?_
    refine cX (aSplit s _ (by omega)) ?_
    rintro d S1 ⟨hd,rfl⟩
    unfold splitD at hd
    cases hsp:splitP s with
    | none=>
     have hN:proofP p wid root key s=none:=by unfold proofP;rw [hsp]
     rw [hP,hN]
     rw [hsp] at hd
     obtain ⟨x,y,rfl⟩:=hd
     refine Wk (Yy k_b9 (Yy k_b10 (Yy n89 (Yy n810 n910)))) ?_
     refine wpx (c:=by exact (aMustF _)) (k:=?_)
     (try dsimp only [AX.then,AX.inBlock,AX.noGoto])
     exact pread_pan k_b9.1 ⟨k_b10.1,k_b10.2.1⟩ (List.Sublist.refl _) rfl rfl rfl ⟨rfl,rfl,_,_,rfl⟩ ⟨0,0,[],.nil,rg0 Dg.zero,rfl⟩ ⟨_,rfl⟩
    | some fs=>
     rw [hsp] at hd
     subst hd
     by_cases hl:0<fs.length∧fs.length≤33
     case neg=>
      have hN:proofP p wid root key s=none:=by unfold proofP;rw [hsp];show (if 0<fs.length∧fs.length≤33 then _ else _)=_;rw [if_neg hl]
      rw [hP,hN]
      by_cases h0:0<fs.length
      ·have z0:decide ((fs.length:Int) > 0)=true:=decide_eq_true (by omega)
       have z1:decide ((fs.length:Int)≤33)=false:=decide_eq_false (fun h=>hl ⟨h0,by omega⟩)
       refine Wk (Yy k_b9 (Yy k_b10 (Yy n89 (Yy n810 (Yy n910 (Yy z0 z1)))))) ?_
       refine wpx (c:=by exact (aMustF _)) (k:=?_)
       (try dsimp only [AX.then,AX.inBlock,AX.noGoto])
       exact pread_pan k_b9.1 ⟨k_b10.1,k_b10.2.1⟩ (List.Sublist.refl _) rfl rfl rfl ⟨rfl,rfl,_,_,rfl⟩ ⟨0,0,[],.nil,rg0 Dg.zero,rfl⟩ ⟨_,rfl⟩
      ·have z0:decide ((fs.length:Int) > 0)=false:=decide_eq_false (by omega)
       refine Wk (Yy k_b9 (Yy k_b10 (Yy n89 (Yy n810 (Yy n910 z0))))) ?_
       refine wpx (c:=by exact (aMustF _)) (k:=?_)
       (try dsimp only [AX.then,AX.inBlock,AX.noGoto])
       exact pread_pan k_b9.1 ⟨k_b10.1,k_b10.2.1⟩ (List.Sublist.refl _) rfl rfl rfl ⟨rfl,rfl,_,_,rfl⟩ ⟨0,0,[],.nil,rg0 Dg.zero,rfl⟩ ⟨_,rfl⟩
     have z0:decide ((fs.length:Int) > 0)=true:=decide_eq_true (by omega)
     have z1:decide ((fs.length:Int)≤33)=true:=decide_eq_true (by omega)
     have hN:proofP p wid root key s=(readF p wid key 0 fs (rg0 root)).map fun r=>(fs,r):=by unfold proofP;rw [hsp];show (if 0<fs.length∧fs.length≤33 then _ else _)=_;rw [if_pos hl]
     rw [hP,hN]
     refine Wk (Yy k_b9 (Yy k_b10 (Yy n89 (Yy n810 (Yy n910 (Yy z0 z1)))))) ?_
     refine cQ (aMustT _) ?_
     refine Wk (Yy k_b9 (Yy k_b10 (Yy n89 (Yy n810 n910)))) ?_
     have hsz:=splitP_shr hsp
     obtain ⟨G,hG⟩:∃ G,readF p wid key 0 fs (rg0 root)=G:=⟨_,rfl⟩
     rw [hG]
     refine AW.loopS 14 [12,13,54,55,56] (fun xs S'=>∃ (i:Nat) (r:Rg) (tw:Tag) (ow:List (Nat×Nat)),xs=[.any,.any,.sl .none (fs.map sD),iD fs.length,iD i]∧S'=⟨(b10,32,iD 0)::(b9,91,rgD p wid key tw r)::(b8,53,.sl .none (fs.map sD))::S.bk,ow⟩∧i≤fs.length∧readF p wid key i (fs.drop i) r=G∧G1 S.ow ow 3 1 tw (r.ways.map natD)∧r.ways.length≤i) (fun xs _=>fs.length - nI (xs.getD 4 .any)) [.any,.any,.sl .none (fs.map sD),iD fs.length,iD 0] _ ?_ (Sto.Sub.refl _) ⟨0,rg0 root,.nil,S.ow,rfl,rfl,by omega,hG,G1.nil _ _ _,by simp [rg0]⟩ ?_
     ·exact wK
     rintro xs S' ⟨i,r,tw,ow,rfl,rfl,hi,hrd,hg,hw⟩
     refine fR ?_
     by_cases hlt:i<fs.length
     ·obtain ⟨x,hx⟩:∃ x,fs[i]?=some x:=⟨_,List.getElem?_eq_getElem hlt⟩
      have d1:decide ((i:Int)<fs.length)=true:=decide_eq_true (by omega)
      have hgt:(fs.map sD)[i]?=some (sD x):=by rw [List.getElem?_map,hx];rfl
      have g0:(0:Int)≤i:=by omega
      have f1:IntKind.i64.wrap ((i:Int)+1)=((i+1:Nat):Int):=IntWalk.i64_in _ (by omega)
      have f2:IntKind.i64.wrap ((fs.length:Int) - 1)=((fs.length - 1:Nat):Int):=by rw [IntWalk.i64_in _ (by omega)];omega
      have hdr:fs.drop i=x::fs.drop (i+1):=by
       have hlt':=hlt
       rw [List.drop_eq_getElem_cons hlt]
       rw [List.getElem?_eq_getElem hlt,Option.some.injEq] at hx
       rw [hx]
      have hfl:((i:Int) == ((fs.length - 1:Nat):Int))=((fs.drop (i+1)).length == 0):=by
       rw [List.length_drop,Bool.eq_iff_iff,beq_iff_eq,beq_iff_eq];omega
      have hb9:getM ((b10,32,iD 0)::(b9,91,rgD p wid key tw r)::(b8,53,.sl .none (fs.map sD))::S.bk) b9=some (91,rgD p wid key tw r):=by rw [getM_cons,if_neg n910,getM_cons,if_pos rfl]
      have cF:=aForm b9 p wid key x i ((fs.drop (i+1)).length == 0) tw r ⟨(b10,32,iD 0)::(b9,91,rgD p wid key tw r)::(b8,53,.sl .none (fs.map sD))::S.bk,ow⟩ S.ow hb9 hr (Nat.le_trans (hsz x (List.mem_of_getElem? hx)) (by omega)) hg (by omega) (by omega)
      rw [hdr] at hrd
      unfold readF at hrd
      refine Wk (Yy d1 (Yy hgt (Yy g0 (Yy Int.toNat_natCast (Yy f2 (Yy hfl (Yy k_b9 (Yy k_b10 (Yy n89 (Yy n810 n910)))))))))) ?_
      cases hf:formP p wid key x (i == 0) ((fs.drop (i+1)).length == 0) r with
      | none=>
       rw [hf] at cF hrd
       rw [← show none=G from hrd]
       refine wpx (c:=by exact (cF.mono fun e S' h=>h)) (k:=?_)
       (try dsimp only [AX.then,AX.inBlock,AX.noGoto])
       exact pread_pan k_b9.1 ⟨k_b10.1,k_b10.2.1⟩ hg.sub rfl rfl rfl ⟨rfl,rfl,_,_,rfl⟩ ⟨p,wid,key,tw,r,rfl⟩ ⟨_,rfl⟩
      | some r'=>
       rw [hf] at cF hrd
       have hrd:readF p wid key (i+1) (fs.drop (i+1)) r'=G:=hrd
       have hw':r'.ways.length≤i+1:=by
        unfold formP at hf
        split at hf
        ·cases hf
        ·split at hf
         ·simp only [Option.some.injEq] at hf;rw [← hf];exact Nat.le_trans (nextR_ways _ _ _ _) (by omega)
         ·cases hf
       have cG:ACalls _ _ _ _ (fun e S'=>∃ d,e=.ret d∧(d=.tup []∧∃ tw',S'.bk=setM _ b9 (rgD p wid key tw' r')∧G1 S.ow S'.ow 3 1 tw' (r'.ways.map natD))):=cF.mono fun e S' h=>⟨_,h.1,rfl,h.2⟩
       refine cX (cG) ?_
       rintro d ⟨bk1,ow1⟩ ⟨rfl,tw',hbk,hg'⟩
       simp only [setM_cons,n910,if_true,if_false] at hbk
       subst hbk
       refine Wk f1 ?_
       refine ⟨[.any,.any,.sl .none (fs.map sD),iD fs.length,iD (i+1:Nat)],⟨_,ow1⟩,?_,Sto.Sub.refl _,⟨i+1,r',tw',ow1,rfl,rfl,by omega,hrd,hg',hw'⟩,?_⟩
       ·exact wK
       ·exact mE
     ·obtain rfl:i=fs.length:=by omega
      have d1:decide ((fs.length:Int)<fs.length)=false:=decide_eq_false (by omega)
      rw [List.drop_length] at hrd
      have hrd:some r=G:=hrd
      rw [← hrd]
      refine Wn d1 ?_
      have hes:untags (fs.map sD)=fs.map sD:=untags_sD fs
      refine AW.drawM prg 0 (Nat.zero_le _) (by kernel_rfl) rfl ?_
      show AMix _ _ _ _ _ _ _ _
      refine AMix.branch [0,1] (by kernel_rfl) (by decide) (fun j hj=>?_)
      simp only [List.mem_cons,List.mem_nil_iff,or_false] at hj
      rcases hj with rfl | rfl
      ·refine ⟨_,by simp only [List.getElem?_toArray,List.getElem?_cons_succ,List.getElem?_cons_zero];rfl,?_⟩
       refine Wn (Yy k_b9 (Yy k_b10 (Yy n89 (Yy n810 n910)))) ?_
       refine AMix.branch [1,2] (by kernel_rfl) (by decide) (fun j hj=>?_)
       simp only [List.mem_cons,List.mem_nil_iff,or_false] at hj
       rcases hj with rfl | rfl
       ·refine ⟨_,by simp only [List.getElem?_toArray,List.getElem?_cons_succ,List.getElem?_cons_zero];rfl,?_⟩
        refine Wn (Yy k_b9 (Yy k_b10 (Yy n89 (Yy n810 n910)))) ?_
        refine AMix.branch [2] (by kernel_rfl) (by decide) (fun j hj=>?_)
        obtain rfl:=List.mem_singleton.1 hj
        refine ⟨_,by simp only [List.getElem?_toArray,List.getElem?_cons_succ,List.getElem?_cons_zero];rfl,?_⟩
        refine Wn (Yy k_b9 (Yy k_b10 (Yy n89 (Yy n810 n910)))) ?_
        refine AMix.branch [3] (by kernel_rfl) (by decide) (fun j hj=>?_)
        obtain rfl:=List.mem_singleton.1 hj
        refine ⟨_,by simp only [List.getElem?_toArray,List.getElem?_cons_succ,List.getElem?_cons_zero];rfl,?_⟩
        refine Wn (Yy k_b9 (Yy k_b10 (Yy n89 (Yy n810 n910)))) ?_
        refine AMix.branch [4] (by kernel_rfl) (by decide) (fun j hj=>?_)
        obtain rfl:=List.mem_singleton.1 hj
        refine ⟨_,by simp only [List.getElem?_toArray,List.getElem?_cons_succ,List.getElem?_cons_zero];rfl,?_⟩
        refine Wn (Yy k_b9 (Yy k_b10 (Yy n89 (Yy n810 n910)))) ?_
        refine AMix.end (by kernel_rfl) ?_
        (try dsimp only [AX.then,AX.inBlock,AX.noGoto])
        refine AW.ret ?_
        (try dsimp only [AX.then,AX.inBlock,AX.noGoto])
        exact pread_ret k_b9.1 ⟨k_b10.1,k_b10.2.1⟩ hg.sub rfl rfl rfl hes
       ·refine ⟨_,by simp only [List.getElem?_toArray,List.getElem?_cons_succ,List.getElem?_cons_zero];rfl,?_⟩
        refine Wn (Yy k_b9 (Yy k_b10 (Yy n89 (Yy n810 n910)))) ?_
        refine AMix.branch [1] (by kernel_rfl) (by decide) (fun j hj=>?_)
        obtain rfl:=List.mem_singleton.1 hj
        refine ⟨_,by simp only [List.getElem?_toArray,List.getElem?_cons_succ,List.getElem?_cons_zero];rfl,?_⟩
        refine Wn (Yy k_b9 (Yy k_b10 (Yy n89 (Yy n810 n910)))) ?_
        refine AMix.branch [3] (by kernel_rfl) (by decide) (fun j hj=>?_)
        obtain rfl:=List.mem_singleton.1 hj
        refine ⟨_,by simp only [List.getElem?_toArray,List.getElem?_cons_succ,List.getElem?_cons_zero];rfl,?_⟩
        refine Wn (Yy k_b9 (Yy k_b10 (Yy n89 (Yy n810 n910)))) ?_
        refine AMix.branch [4] (by kernel_rfl) (by decide) (fun j hj=>?_)
        obtain rfl:=List.mem_singleton.1 hj
        refine ⟨_,by simp only [List.getElem?_toArray,List.getElem?_cons_succ,List.getElem?_cons_zero];rfl,?_⟩
        refine Wn (Yy k_b9 (Yy k_b10 (Yy n89 (Yy n810 n910)))) ?_
        refine AMix.end (by kernel_rfl) ?_
        (try dsimp only [AX.then,AX.inBlock,AX.noGoto])
        refine AW.ret ?_
        (try dsimp only [AX.then,AX.inBlock,AX.noGoto])
        exact pread_ret k_b9.1 ⟨k_b10.1,k_b10.2.1⟩ hg.sub rfl rfl rfl hes
      ·refine ⟨_,by simp only [List.getElem?_toArray,List.getElem?_cons_succ,List.getElem?_cons_zero];rfl,?_⟩
       refine Wn (Yy k_b9 (Yy k_b10 (Yy n89 (Yy n810 n910)))) ?_
       refine AMix.branch [0] (by kernel_rfl) (by decide) (fun j hj=>?_)
       obtain rfl:=List.mem_singleton.1 hj
       refine ⟨_,by simp only [List.getElem?_toArray,List.getElem?_cons_succ,List.getElem?_cons_zero];rfl,?_⟩
       refine Wn (Yy k_b9 (Yy k_b10 (Yy n89 (Yy n810 n910)))) ?_
       refine AMix.branch [2] (by kernel_rfl) (by decide) (fun j hj=>?_)
       obtain rfl:=List.mem_singleton.1 hj
       refine ⟨_,by simp only [List.getElem?_toArray,List.getElem?_cons_succ,List.getElem?_cons_zero];rfl,?_⟩
       refine Wn (Yy k_b9 (Yy k_b10 (Yy n89 (Yy n810 n910)))) ?_
       refine AMix.branch [3] (by kernel_rfl) (by decide) (fun j hj=>?_)
       obtain rfl:=List.mem_singleton.1 hj
       refine ⟨_,by simp only [List.getElem?_toArray,List.getElem?_cons_succ,List.getElem?_cons_zero];rfl,?_⟩
       refine Wn (Yy k_b9 (Yy k_b10 (Yy n89 (Yy n810 n910)))) ?_
       refine AMix.branch [4] (by kernel_rfl) (by decide) (fun j hj=>?_)
       obtain rfl:=List.mem_singleton.1 hj
       refine ⟨_,by simp only [List.getElem?_toArray,List.getElem?_cons_succ,List.getElem?_cons_zero];rfl,?_⟩
       refine Wn (Yy k_b9 (Yy k_b10 (Yy n89 (Yy n810 n910)))) ?_
       refine AMix.end (by kernel_rfl) ?_
       (try dsimp only [AX.then,AX.inBlock,AX.noGoto])
       refine AW.ret ?_
       (try dsimp only [AX.then,AX.inBlock,AX.noGoto])
       exact pread_ret k_b9.1 ⟨k_b10.1,k_b10.2.1⟩ hg.sub rfl rfl rfl hes


def errP (p wid:Int) (root:Dg) (key s:Bs):Int:=
 if argsB p wid root key=true then (match proofP p wid root key s with | some _=>0 | none=>150) else 2
def ansP (p wid:Int) (root:Dg) (key s:Bs):Option Bs:=
 if argsB p wid root key=true then (match proofP p wid root key s with | some (_,r)=>r.ans | none=>none) else none
def formsP (p wid:Int) (root:Dg) (key s:Bs):List Bs:=
 if argsB p wid root key=true then (match proofP p wid root key s with | some (fs,_)=>fs | none=>[]) else []
def waysP (p wid:Int) (root:Dg) (key s:Bs):List Nat:=
 if argsB p wid root key=true then (match proofP p wid root key s with | some (_,r)=>r.ways | none=>[]) else []
theorem proofD_eq (p wid:Int) (root:Dg) (key s:Bs):∃ (p' wid':Int) (key':Bs) (r:Rg),proofD p wid root key s=.tup [.sl .none ((formsP p wid root key s).map sD),rgD p' wid' key' .none r,iD (errP p wid root key s)]∧r.ans=ansP p wid root key s∧r.ways=waysP p wid root key s:=by
 unfold proofD errP ansP formsP waysP
 split
 ·cases proofP p wid root key s with
  | none=>exact ⟨_,_,_,_,rfl,rfl,rfl⟩
  | some x=>obtain ⟨fs,r⟩:=x;exact ⟨_,_,_,_,rfl,rfl,rfl⟩
 ·exact ⟨_,_,_,_,rfl,rfl,rfl⟩

theorem aProofRead (p wid:Int) (root:Dg) (key s:Bs) (S:Sto) (hs:s.length≤1048576) :
  ACalls Tryz.prog 19 [frD p wid,.dg root,sD key,sD s] S (RetQ (.tup [ansD (ansP p wid root key s),iD (errP p wid root key s)]) S):=by
 have c:=fun S=>aPRead p wid root key s S hs
 obtain ⟨p',wid',key',r,h1,h2,h3⟩:=proofD_eq p wid root key s
 rw [h1] at c
 rw [← h2]
 refine acalls_of prg Tryz.func19 rfl (by kernel_rfl) (congrArg Array.toList Tryz.results19) Tryz.ntmps19 (fun B hB=>fA ?_)
 refine Wk Y0 ?_
 refine aL fun b8 k_b8 o_b8=>?_
 refine Wk Y0 ?_
 refine cQ (c _) ?_
 refine Wk Y0 ?_
 refine aL fun b11 k_b11 o_b11=>?_
 have n8:=nes k_b11.1
 refine Wk (Yy k_b11 n8) ?_
 refine enduq (S':=S) (sR (Yy k_b11 n8)) (by obtain ⟨want,lo,hi,ans,ways⟩:=r;cases ans <;> rfl) (Sto.Sub.refl _).cons.cons
theorem aProofForms (p wid:Int) (root:Dg) (key s:Bs) (S:Sto) (hs:s.length≤1048576) :
  ACalls Tryz.prog 27 [frD p wid,.dg root,sD key,sD s] S (RetQ (.tup [.sl .none ((formsP p wid root key s).map sD),.sl .none ((waysP p wid root key s).map natD),iD (errP p wid root key s)]) S):=by
 have c:=fun S=>aPRead p wid root key s S hs
 obtain ⟨p',wid',key',r,h1,h2,h3⟩:=proofD_eq p wid root key s
 rw [h1] at c
 rw [← h3]
 refine acalls_of prg Tryz.func27 rfl (by kernel_rfl) (congrArg Array.toList Tryz.results27) Tryz.ntmps27 (fun B hB=>fA ?_)
 refine Wk Y0 ?_
 refine cQ (c _) ?_
 refine Wk Y0 ?_
 refine aL fun b11 k_b11 o_b11=>?_
 refine Wk k_b11 ?_
 refine endq (S':=S) (sR k_b11) (by rfl) (Sto.Sub.refl _).cons


theorem RVal.ss {w:World} {I:Nat→Nat→Prop} {t:Tag} {ss:List Bs} {x:Value} (h:RVal w I (.sl t (ss.map sD)) x):∃ a c,x=.slice a ss.length c∧SsAt w a ss:=by
 have hx:RV w I (.sl t (ss.map sD)) [x]:=by unfold RVal at h;exact h
 obtain ⟨a,c,he,_,_,hs⟩:=hx.list
 rw [List.length_map] at he
 simp only [List.cons.injEq,and_true] at he
 refine ⟨a,c,he,fun i p hi=>?_⟩
 obtain ⟨b,o,vs,ha,hb,hr,hc⟩:=hs i (sD p) (by simp [hi])
 unfold RV at hr
 obtain ⟨rfl,-⟩:=hr
 exact ⟨b,o,ha,hb,by simpa [D.size] using hc 0 _ rfl⟩
theorem aOf (n:Int) (s:Bs) (S:Sto) (hs:s.length≤140737488355000):ACalls Tryz.prog 47 [iD n,sD s] S (RetQ (.tup [.dg (ofS n s).1,iD (ofS n s).2]) S):=
 ACalls.liftq (callable Tryz.func47 rfl (by kernel_rfl)) fun w xs hS hx=>by
  obtain ⟨x,ys,rfl,h1,h2⟩:=hx.cons
  obtain ⟨y,zs,rfl,h3,h4⟩:=h2.cons
  obtain rfl:=h4.nil
  obtain rfl:=h1.int
  obtain rfl:=h3.str
  exact (of_any n s w hs).mono fun e w' h=>⟨_,h.kp.1,h.kp.2,RVal.mk_tup (RVals.mk (by unfold RVal;rfl) (RVals.mk RVal.of_int RVals.mk0))⟩
theorem aDigest1 (n:Int) (tag:Bs) (parts:List Bs) (t:Tag) (S:Sto) (hT:(textT tag parts).length≤140737488355000) (hn:parts.length≤1000000000) :
  ACalls Tryz.prog 23 [iD n,sD tag,.sl t (parts.map sD)] S (RetQ (.tup [.dg (digS n tag parts).1,iD (digS n tag parts).2]) S):=
 ACalls.liftq (callable Tryz.func23 rfl (by kernel_rfl)) fun w xs hS hx=>by
  obtain ⟨x,ys,rfl,h1,h2⟩:=hx.cons
  obtain ⟨y,zs,rfl,h3,h4⟩:=h2.cons
  obtain ⟨z,us,rfl,h5,h6⟩:=h4.cons
  obtain rfl:=h6.nil
  obtain rfl:=h1.int
  obtain rfl:=h3.str
  obtain ⟨a,c,rfl,hp⟩:=h5.ss
  exact (dig_any n tag parts a c w hp hT hn).mono fun e w' h=>⟨_,h.kp.1,h.kp.2,RVal.mk_tup (RVals.mk (by unfold RVal;rfl) (RVals.mk RVal.of_int RVals.mk0))⟩
theorem clashB_eq (n:Int) (s:Bs):clashB n s s=false:=by unfold clashB;simp
theorem aSClash (n:Int) (s t:Bs) (S:Sto) (hs:s.length≤140737488355000) (ht:t.length≤140737488355000):ACalls Tryz.prog 20 [iD n,sD s,sD t] S (RetQ (bD (clashB n s t)) S):=by
 have c1:=fun S=>aOf n s S hs
 have c2:=fun S=>aOf n t S ht
 by_cases hst:s=t
 ·subst hst
  rw [clashB_eq]
  have e0:(s == s)=true:=by simp
  refine acalls_of prg Tryz.func20 rfl (by kernel_rfl) (congrArg Array.toList Tryz.results20) Tryz.ntmps20 (fun B hB=>fA ?_)
  refine Wk e0 ?_
  exact rE
 ·have e0:(s == t)=false:=by simpa using hst
  obtain ⟨⟨d,e⟩,h1⟩:∃ x,ofS n s=x:=⟨_,rfl⟩
  obtain ⟨⟨d',e'⟩,h2⟩:∃ x,ofS n t=x:=⟨_,rfl⟩
  rw [show clashB n s t=decide (e=0∧s≠t∧d=d') by unfold clashB;rw [h1,h2]]
  rw [h1] at c1
  rw [h2] at c2
  refine acalls_of prg Tryz.func20 rfl (by kernel_rfl) (congrArg Array.toList Tryz.results20) Tryz.ntmps20 (fun B hB=>fA ?_)
  refine Wk e0 ?_
  refine cQ (c1 _) ?_
  refine Wk Y0 ?_
  refine aL fun b7 k_b7 o_b7=>?_
  refine Wk Y0 ?_
  refine cQ (c2 _) ?_
  refine Wk Y0 ?_
  refine aL fun b9 k_b9 o_b9=>?_
  have n7:=nes k_b9.1
  by_cases h0:e=0
  ·subst h0
   have z0:((0:Int) == 0)=true:=rfl
   have z1:decide ((0:Int)=0∧s≠t∧d=d')=decide (d=d'):=by simp only [true_and,ne_eq,hst,not_false_eq_true]
   rw [z1]
   refine Wk (Yy k_b9 (Yy n7 z0)) ?_
   refine endq (S':=S) (sR (Yy k_b9 n7)) (by rfl) (Sto.Sub.refl _).cons.cons
  ·have z0:(e == 0)=false:=beq_eq_false_iff_ne.2 h0
   have z1:decide (e=0∧s≠t∧d=d')=false:=decide_eq_false (fun h=>h0 h.1)
   rw [z1]
   refine Wk (Yy k_b9 (Yy n7 z0)) ?_
   refine endq (S':=S) (sR (Yy k_b9 n7)) (by rfl) (Sto.Sub.refl _).cons.cons

def holdsB (p wid:Int) (s t:Bs):Bool:=rightB p wid && clashB wid s t
theorem aHolds (p wid:Int) (s t:Bs) (S:Sto) (hs:s.length≤140737488355000) (ht:t.length≤140737488355000):ACalls Tryz.prog 10 [frD p wid,.agg [sD s,sD t]] S (RetQ (bD (holdsB p wid s t)) S):=by
 have c1:=fun S=>aNRight p wid S
 have c2:=fun S=>aSClash wid s t S hs ht
 unfold holdsB
 cases hr:rightB p wid with
 | true=>
  rw [hr] at c1
  refine acalls_of prg Tryz.func10 rfl (by kernel_rfl) (congrArg Array.toList Tryz.results10) Tryz.ntmps10 (fun B hB=>fA ?_)
  refine Wk Y0 ?_
  refine cQ (c1 _) ?_
  refine Wk Y0 ?_
  refine cQ (c2 _) ?_
  refine Wk Y0 ?_
  exact rE
 | false=>
  rw [hr] at c1
  refine acalls_of prg Tryz.func10 rfl (by kernel_rfl) (congrArg Array.toList Tryz.results10) Tryz.ntmps10 (fun B hB=>fA ?_)
  refine Wk Y0 ?_
  refine cQ (c1 _) ?_
  refine Wk Y0 ?_
  exact rE


abbrev clD (c:Bs×Bs):D:=.agg [sD c.1,sD c.2]
theorem ans_beq (a b:Option Bs):((a.isSome == b.isSome) && (a.getD [] == b.getD []))=decide (a=b):=by
 rw [Bool.eq_iff_iff]
 cases a <;> cases b <;> simp
def shortP (p wid:Int) (root:Dg) (key x y:Bs):Option Int:=
 if errP p wid root key x=2 then some 2
 else if errP p wid root key x=0∧errP p wid root key y=0 then (if ansP p wid root key x=ansP p wid root key y then some 171 else none)
 else some 170
theorem aPointsS (p wid:Int) (root:Dg) (key x y:Bs) (S:Sto) (hx:x.length≤1048576) (hy:y.length≤1048576) (e:Int) (h:shortP p wid root key x y=some e) :
  ACalls Tryz.prog 12 [frD p wid,.dg root,sD key,sD x,sD y] S (RetQ (.tup [clD ([],[]),iD e]) S):=by
 have c1:=fun S=>aProofRead p wid root key x S hx
 have c2:=fun S=>aProofRead p wid root key y S hy
 unfold shortP at h
 refine acalls_of prg Tryz.func12 rfl (by kernel_rfl) (congrArg Array.toList Tryz.results12) Tryz.ntmps12 (fun B hB=>fA ?_)
 refine Wk Y0 ?_
 refine aL fun b10 k_b10 o_b10=>?_
 refine Wk Y0 ?_
 refine cQ (c1 _) ?_
 refine Wk Y0 ?_
 refine aL fun b12 k_b12 o_b12=>?_
 have n10:=nes k_b12.1
 by_cases h2:errP p wid root key x=2
 ·rw [if_pos h2,Option.some.injEq] at h
  subst h
  have z0:(errP p wid root key x == 2)=true:=beq_iff_eq.2 h2
  refine Wk (Yy k_b12 (Yy n10 z0)) ?_
  rw [← h2]
  refine endq (S':=S) (sR (Yy k_b12 n10)) (by rfl) (Sto.Sub.refl _).cons.cons
 have z0:(errP p wid root key x == 2)=false:=beq_eq_false_iff_ne.2 h2
 rw [if_neg h2] at h
 refine Wk (Yy k_b12 (Yy n10 z0)) ?_
 refine cQ (c2 _) ?_
 refine Wk Y0 ?_
 refine aL fun b14 k_b14 o_b14=>?_
 have n1:=nes k_b14.1
 have n2:=nes k_b14.2.1
 by_cases h3:errP p wid root key x=0
 case neg=>
  have z1:(errP p wid root key x != 0)=true:=bne_iff_ne.2 h3
  rw [if_neg (fun q=>h3 q.1),Option.some.injEq] at h
  subst h
  refine Wk (Yy k_b12 (Yy n10 (Yy k_b14 (Yy n1 (Yy n2 z1))))) ?_
  refine endq (S':=S) (sR (Yy k_b12 (Yy n10 (Yy k_b14 (Yy n1 n2))))) (by rfl) (Sto.Sub.refl _).cons.cons.cons
 have z1:(errP p wid root key x != 0)=false:=bne_eq_false_iff_eq.2 h3
 by_cases h4:errP p wid root key y=0
 case neg=>
  have z2:(errP p wid root key y != 0)=true:=bne_iff_ne.2 h4
  rw [if_neg (fun q=>h4 q.2),Option.some.injEq] at h
  subst h
  refine Wk (Yy k_b12 (Yy n10 (Yy k_b14 (Yy n1 (Yy n2 (Yy z1 z2)))))) ?_
  refine endq (S':=S) (sR (Yy k_b12 (Yy n10 (Yy k_b14 (Yy n1 n2))))) (by rfl) (Sto.Sub.refl _).cons.cons.cons
 have z2:(errP p wid root key y != 0)=false:=bne_eq_false_iff_eq.2 h4
 rw [if_pos ⟨h3,h4⟩] at h
 by_cases h5:ansP p wid root key x=ansP p wid root key y
 case neg=>rw [if_neg h5] at h;cases h
 rw [if_pos h5,Option.some.injEq] at h
 subst h
 have z3:=ans_beq (ansP p wid root key x) (ansP p wid root key y)
 rw [decide_eq_true h5] at z3
 refine Wk (Yy k_b12 (Yy n10 (Yy k_b14 (Yy n1 (Yy n2 (Yy z1 (Yy z2 z3))))))) ?_
 refine endq (S':=S) (sR (Yy k_b12 (Yy n10 (Yy k_b14 (Yy n1 n2))))) (by rfl) (Sto.Sub.refl _).cons.cons.cons

def dgA:Dg:=(digS 1 [108,101,97,102] [[1,0]]).1
set_option maxRecDepth 100000 in
theorem dgA_ok:(digS 1 [108,101,97,102] [[1,0]]).2=0:=by decide +kernel
theorem awake1:shortP 1024 1 dgA [97] [1,2,1,0] [1,2,1,0]=some 171:=by decide +kernel
theorem awake2:shortP 1024 1 dgA [97] [1,2,1,0] []=some 170:=by decide +kernel
theorem awake3:holdsB 1024 1 [5] [11]=true:=by decide +kernel

theorem aAwake (S:Sto):ACalls Tryz.prog 9 [] S (RetQ (bD true) S):=by
 have c1:=fun S t=>aDigest1 1 [108,101,97,102] [[1,0]] t S (by decide) (by decide)
 rw [dgA_ok] at c1
 rw [show (digS 1 [108,101,97,102] [[1,0]]).1=dgA from rfl] at c1
 have c2:=fun S=>aPointsS 1024 1 dgA [97] [1,2,1,0] [1,2,1,0] S (by decide) (by decide) _ awake1
 have c3:=fun S=>aPointsS 1024 1 dgA [97] [1,2,1,0] [] S (by decide) (by decide) _ awake2
 have c4:=fun S=>aHolds 1024 1 [5] [11] S (by decide) (by decide)
 rw [awake3] at c4
 generalize dgA=d at c1 c2 c3
 refine acalls_of prg Tryz.func9 rfl (by kernel_rfl) (congrArg Array.toList Tryz.results9) Tryz.ntmps9 (fun B hB=>fA ?_)
 refine Wk Y0 ?_
 refine aL fun b1 k_b1 o_b1=>?_
 refine Wk Y0 ?_
 refine cQ (c1 _ _) ?_
 refine Wk Y0 ?_
 refine aL fun b2 k_b2 o_b2=>?_
 have n1:=nes k_b2.1
 refine Wk (Yy k_b2 n1) ?_
 refine cQ (c2 _) ?_
 refine Wk Y0 ?_
 refine aL fun b5 k_b5 o_b5=>?_
 have n2:=nes k_b5.1
 have n3:=nes k_b5.2.1
 refine Wk (Yy k_b2 (Yy n1 (Yy k_b5 (Yy n2 n3)))) ?_
 refine cQ (c3 _) ?_
 refine Wk Y0 ?_
 refine aL fun b7 k_b7 o_b7=>?_
 have n4:=nes k_b7.1
 have n5:=nes k_b7.2.1
 have n6:=nes k_b7.2.2.1
 refine Wk (Yy k_b2 (Yy n1 (Yy k_b5 (Yy n2 (Yy n3 (Yy k_b7 (Yy n4 (Yy n5 n6)))))))) ?_
 refine cQ (c4 _) ?_
 refine Wk Y0 ?_
 refine endq (S':=S) (sR Y0) (by rfl) (Sto.Sub.refl _).cons.cons.cons.cons


def toldE (met:Bool) (e:Int):Int:=if e=0∧met=false then 171 else e
theorem aTold (c:Bs×Bs) (met:Bool) (e:Int) (S:Sto):ACalls Tryz.prog 28 [clD c,bD met,iD e] S (RetQ (.tup [clD c,iD (toldE met e)]) S):=by
 unfold toldE
 by_cases h0:e=0
 ·have z0:(e == 0)=true:=beq_iff_eq.2 h0
  cases met
  ·rw [if_pos ⟨h0,rfl⟩]
   refine acalls_of prg Tryz.func28 rfl (by kernel_rfl) (congrArg Array.toList Tryz.results28) Tryz.ntmps28 (fun B hB=>fA ?_)
   refine Wk Y0 ?_
   refine aL fun b6 k_b6 o_b6=>?_
   refine Wk z0 ?_
   refine endq (S':=S) (sR Y0) (by rfl) (Sto.Sub.refl _).cons
  ·rw [if_neg (fun h=>by cases h.2)]
   refine acalls_of prg Tryz.func28 rfl (by kernel_rfl) (congrArg Array.toList Tryz.results28) Tryz.ntmps28 (fun B hB=>fA ?_)
   refine Wk Y0 ?_
   refine aL fun b6 k_b6 o_b6=>?_
   refine Wk z0 ?_
   refine endq (S':=S) (sR Y0) (by rfl) (Sto.Sub.refl _).cons
 ·have z0:(e == 0)=false:=beq_eq_false_iff_ne.2 h0
  rw [if_neg (fun h=>h0 h.1)]
  refine acalls_of prg Tryz.func28 rfl (by kernel_rfl) (congrArg Array.toList Tryz.results28) Tryz.ntmps28 (fun B hB=>fA ?_)
  refine Wk Y0 ?_
  refine aL fun b6 k_b6 o_b6=>?_
  refine Wk z0 ?_
  refine endq (S':=S) (sR Y0) (by rfl) (Sto.Sub.refl _).cons

inductive Sd where
 | nil
 | mk (form:Bs) (err:Nat→Int) (kid:Nat→Sd)
abbrev sdZ:D:=.agg [sD [],.v .nilFunc]
def SideOk:Sd→D→Prop
 | .nil,d=>d=sdZ
 | .mk form err kid,d=>form.length≤1048576∧(∀ i,err i=0→kid i≠.nil)∧∃ f cs,d=.agg [sD form,.fn f cs]∧∀ (i:Nat) (S:Sto),i≤100000000000000→ACalls Tryz.prog f ([iD i]++cs) S (fun e S'=>∃ d1,e=.ret d1∧(S'=S∧∃ d',d1=.tup [d',iD (err i)]∧SideOk (kid i) d'))
def sideL:List Bs→Sd
 | []=>.nil
 | x::l=>.mk x (fun _=>if l.length<1 then 170 else 0) (fun _=>sideL l)
abbrev pathD (x:Bs) (l:List Bs):D:=.agg [sD x,.fn 60 [(D.sl .none ((x::l).map sD)).pt]]
theorem aPath (x:Bs) (l:List Bs) (S:Sto):ACalls Tryz.prog 30 [.sl .none ((x::l).map sD)] S (RetQ (pathD x l) S):=by
 have hgt:((x::l).map sD)[0]?=some (sD x):=rfl
 refine acalls_of prg Tryz.func30 rfl (by kernel_rfl) (congrArg Array.toList Tryz.results30) Tryz.ntmps30 (fun B hB=>fA ?_)
 refine Wk Y0 ?_
 refine aL fun b2 k_b2 o_b2=>?_
 refine Wk hgt ?_
 refine endq (S':=S) (sR Y0) (by rfl) (Sto.Sub.refl _).cons
def pathK:List Bs→D
 | []=>sdZ
 | y::l=>pathD y l
theorem aPath1 (i:Int) (x:Bs) (l:List Bs) (S:Sto) (hl:l.length≤1000000):ACalls Tryz.prog 60 [iD i,(D.sl .none ((x::l).map sD)).pt] S (RetQ (.tup [pathK l,iD (if l.length<1 then 170 else 0)]) S):=by
 cases l with
 | nil=>
  refine acalls_of prg Tryz.func60 rfl (by kernel_rfl) (congrArg Array.toList Tryz.results60) Tryz.ntmps60 (fun B hB=>fA ?_)
  refine Wk Y0 ?_
  refine aL fun b3 k_b3 o_b3=>?_
  refine Wk Y0 ?_
  refine endq (S':=S) (sR Y0) (by rfl) (Sto.Sub.refl _).cons
 | cons y l=>
  have c1:=fun S=>aPath y l S
  rw [if_neg (by simp)]
  obtain ⟨es,hes⟩:∃ es,(x::y::l).map sD=es:=⟨_,rfl⟩
  have hlen:es.length=l.length+2:=by rw [← hes];simp
  have sz:∀ d∈es,d.size=1:=fun d hd=>by rw [← hes] at hd;obtain ⟨_,_,rfl⟩:=List.mem_map.1 hd;rfl
  have htk:(es.drop 1).take (es.length - 1)=(y::l).map sD:=by rw [List.take_of_length_le (by simp),← hes];rfl
  have z0:decide ((es.length:Int)<2)=false:=decide_eq_false (by omega)
  have g1:1≤es.length:=by omega
  have g2:(0:Int)≤1:=by omega
  have g3:Int.toNat 1=1:=rfl
  rw [hes]
  refine acalls_of prg Tryz.func60 rfl (by kernel_rfl) (congrArg Array.toList Tryz.results60) Tryz.ntmps60 (fun B hB=>fA ?_)
  refine Wk Y0 ?_
  refine aL fun b3 k_b3 o_b3=>?_
  refine Wk (Yy z0 (Yy g1 (Yy g2 (Yy g3 (Yy (eq_true sz) (Yy htk (Nat.le_refl es.length))))))) ?_
  refine cQ (c1 _) ?_
  refine Wk Y0 ?_
  refine endq (S':=S) (sR Y0) (by rfl) (Sto.Sub.refl _).cons
theorem sideL_ok:∀ (x:Bs) (l:List Bs),(∀ y∈x::l,y.length≤1048576)→l.length≤1000000→SideOk (sideL (x::l)) (pathD x l)
 | x,[],hb,hl=>⟨hb x (by simp),fun i (h:(170:Int)=0)=>by omega,_,_,rfl,fun i S _=>(aPath1 i x [] S hl).mono fun e S' h=>⟨_,h.1,h.2,_,rfl,rfl⟩⟩
 | x,y::l,hb,hl=>⟨hb x (by simp),fun i _ h=>(by cases h),_,_,rfl,fun i S _=>(aPath1 i x (y::l) S hl).mono fun e S' h=>⟨_,h.1,h.2,_,rfl,
   sideL_ok y l (fun z hz=>hb z (List.mem_cons_of_mem _ hz)) (by simp only [List.length_cons] at hl;omega)⟩⟩

def ChOk (ch:Nd→List Nat) (d:D):Prop:=∃ f cs,d=.fn f cs∧∀ (n:Nd) (S:Sto),NdOk n→n.kids.length≤n.seps.length+1→n.kids.length≤8192→ACalls Tryz.prog f ([ndA n]++cs) S (RetQ (.sl .none ((ch n).map natD)) S)∧(ch n).length≤1000000∧∀ i∈ch n,i≤100000000000000
def oneC (key:Bs) (n:Nd):List Nat:=if n.kids.length=0 then [] else [wayL key n.seps]
theorem aOne1 (key:Bs) (n:Nd) (S:Sto) (ho:NdOk n):ACalls Tryz.prog 61 [ndA n,(sD key).pt] S (RetQ (.sl .none ((oneC key n).map natD)) S):=by
 have c1:=fun S=>aWay n key S (by have:=ho.ns;omega)
 unfold oneC
 by_cases h0:n.kids.length=0
 ·have z0:((n.kids.length:Int) == 0)=true:=by rw [beq_iff_eq];omega
  rw [if_pos h0]
  refine acalls_of prg Tryz.func61 rfl (by kernel_rfl) (congrArg Array.toList Tryz.results61) Tryz.ntmps61 (fun B hB=>fA ?_)
  refine Wk z0 ?_
  refine enduq (S':=S) (sR Y0) (by rfl) (Sto.Sub.refl _)
 ·have z0:((n.kids.length:Int) == 0)=false:=by rw [beq_eq_false_iff_ne];omega
  rw [if_neg h0]
  refine acalls_of prg Tryz.func61 rfl (by kernel_rfl) (congrArg Array.toList Tryz.results61) Tryz.ntmps61 (fun B hB=>fA ?_)
  refine Wk z0 ?_
  refine cQ (c1 _) ?_
  refine Wk Y0 ?_
  refine enduq (S':=S) (sR Y0) (by rfl) (Sto.Sub.refl _)

theorem aOne (key:Bs) (S:Sto):ACalls Tryz.prog 31 [sD key] S (RetQ (.fn 61 [(sD key).pt]) S):=by
 refine acalls_of prg Tryz.func31 rfl (by kernel_rfl) (congrArg Array.toList Tryz.results31) Tryz.ntmps31 (fun B hB=>fA ?_)
 refine Wk Y0 ?_
 exact rE
theorem aSText (tag:Bs) (parts:List Bs) (t:Tag) (S:Sto) (h1:1≤tag.length) (h2:tag.length≤64) (hT:(textT tag parts).length≤140737488355328) (hn:parts.length≤1000000000) :
  ACalls Tryz.prog 54 [sD tag,.sl t (parts.map sD)] S (RetQ (.tup [sD (textT tag parts),iD 0]) S):=
 ACalls.liftq (callable Tryz.func54 rfl (by kernel_rfl)) fun w xs hS hx=>by
  obtain ⟨x,ys,rfl,h3,h4⟩:=hx.cons
  obtain ⟨z,us,rfl,h5,h6⟩:=h4.cons
  obtain rfl:=h6.nil
  obtain rfl:=h3.str
  obtain ⟨a,c,rfl,hp⟩:=h5.ss
  exact (stext_any tag parts a c w hp h1 h2 hT hn).mono fun e w' h=>⟨_,h.kp.1,h.kp.2,RVal.mk_tup (RVals.mk RVal.of_str (RVals.mk RVal.of_int RVals.mk0))⟩
def nodeOf (p wid:Int) (s:Bs):Nd:=(readP p wid s).getD noN
theorem nodeOf_ok {p wid:Int} {s:Bs} (hs:s.length≤3909374676453):NdOk (nodeOf p wid s):=by
 unfold nodeOf
 cases hn:readP p wid s with
 | none=>exact noN_ok
 | some n=>exact parseP_ok (by omega) (readP_ok hn).2.2
theorem sum_ge1 {α:Type} (f:α→Nat):∀ (l:List α),(∀ x∈l,1≤f x)→l.length≤(l.map f).sum
 | [],_=>by simp
 | x::t,h=>by
  have h1:=sum_ge1 f t (fun y hy=>h y (by simp [hy]))
  have h2:=h x (by simp)
  simp only [List.length_cons,List.map_cons,List.sum_cons];omega
theorem cntN_pos1 (n:Nat):1≤cntN n:=by rw [cntN];split <;> omega
theorem read_few {p wid:Int} {s:Bs} {n:Nd} (h:readP p wid s=some n):n.pairs.length≤8192∧n.kids.length≤8192:=by
 have hm:=(mayE_ok (readP_ok h).2.1).2
 have hr:=rightB_iff.1 (readP_ok h).1
 have hsh:=(checkE_ok (mayE_ok (readP_ok h).2.1).1).2
 unfold sizeN at hm
 split at hm
 ·rename_i hl
  have h1:=sum_ge1 prN n.pairs (fun x _=>by unfold prN txN;have:=cntN_pos1 x.1.length;omega)
  unfold leafB at hl
  simp only [decide_eq_true_eq] at hl
  omega
 ·rename_i hl
  unfold shapedB at hsh
  rw [if_neg hl] at hsh
  simp only [Bool.and_eq_true,decide_eq_true_eq] at hsh
  have h2:n.kids.length≤n.kids.length*(4+wid.toNat):=Nat.le_mul_of_pos_right _ (by omega)
  have h3:=hsh.1.1.1.1
  omega

theorem read_kids {p wid:Int} {s:Bs} {n:Nd} (h:readP p wid s=some n):n.kids.length≤n.seps.length+1:=by
 cases hl:leafB n with
 | true=>unfold leafB at hl;simp only [decide_eq_true_eq] at hl;omega
 | false=>
  have hsh:=(checkE_ok (mayE_ok (readP_ok h).2.1).1).2
  unfold shapedB at hsh
  rw [if_neg (by rw [hl];simp)] at hsh
  simp only [Bool.and_eq_true,decide_eq_true_eq] at hsh
  have:=hsh.1.1.2
  omega
theorem nodeOf_few (p wid:Int) (s:Bs):(nodeOf p wid s).kids.length≤(nodeOf p wid s).seps.length+1∧(nodeOf p wid s).kids.length≤8192:=by
 unfold nodeOf
 cases h:readP p wid s with
 | none=>exact ⟨by simp [noN],by simp [noN]⟩
 | some n=>exact ⟨read_kids h,(read_few h).2⟩
def textF (p wid:Int) (s:Bs):Bs:=textT (if (nodeOf p wid s).kids.length=0 then [108,101,97,102] else [98,114,97,110,99,104]) [s]
theorem textF_le (p wid:Int) (s:Bs):(textF p wid s).length=(if (nodeOf p wid s).kids.length=0 then 4 else 6)+s.length+5:=by
 unfold textF;rw [textT1];split <;> rfl
theorem aCText (p wid:Int) (s:Bs) (S:Sto) (hs:s.length≤1048576):ACalls Tryz.prog 57 [frD p wid,sD s] S (RetQ (sD (textF p wid s)) S):=by
 have c1:=fun S=>aNRead p wid s S (by omega)
 have hl:=textF_le p wid s
 unfold textF
 have ho:NdOk (nodeOf p wid s):=nodeOf_ok (by omega)
 unfold nodeOf at hl ho ⊢
 generalize (readP p wid s).getD noN=n at c1 hl ho ⊢
 generalize okE (readP p wid s) (unpackE p wid)=e at c1
 by_cases h0:n.kids.length=0
 ·have z0:((n.kids.length:Int) == 0)=true:=by rw [beq_iff_eq];omega
  rw [if_pos h0] at hl ⊢
  have c2:=fun t S=>aSText [108,101,97,102] [s] t S (by decide) (by decide) (by rw [textT1];simp;omega) (by simp)
  refine acalls_of prg Tryz.func57 rfl (by kernel_rfl) (congrArg Array.toList Tryz.results57) Tryz.ntmps57 (fun B hB=>fA ?_)
  refine Wk Y0 ?_
  refine cQ (c1 _) ?_
  refine Wk Y0 ?_
  refine aL fun b5 k_b5 o_b5=>?_
  refine Wk (Yy k_b5 z0) ?_
  refine cQ (c2 _ _) ?_
  refine Wk Y0 ?_
  refine endq (S':=S) (sR Y0) (by rfl) (Sto.Sub.refl _).cons
 ·have z0:((n.kids.length:Int) == 0)=false:=by rw [beq_eq_false_iff_ne];omega
  rw [if_neg h0] at hl ⊢
  have c2:=fun t S=>aSText [98,114,97,110,99,104] [s] t S (by decide) (by decide) (by rw [textT1];simp;omega) (by simp)
  refine acalls_of prg Tryz.func57 rfl (by kernel_rfl) (congrArg Array.toList Tryz.results57) Tryz.ntmps57 (fun B hB=>fA ?_)
  refine Wk Y0 ?_
  refine cQ (c1 _) ?_
  refine Wk Y0 ?_
  refine aL fun b5 k_b5 o_b5=>?_
  refine Wk (Yy k_b5 z0) ?_
  refine cQ (c2 _ _) ?_
  refine Wk Y0 ?_
  refine endq (S':=S) (sR Y0) (by rfl) (Sto.Sub.refl _).cons

theorem oneC_ok (key:Bs):ChOk (oneC key) (.fn 61 [(sD key).pt]):=⟨_,_,rfl,fun n S ho _ _=>⟨aOne1 key n S ho,by unfold oneC;split <;> simp,fun i hi=>by
 unfold oneC at hi
 split at hi
 ·cases hi
 ·rw [List.mem_singleton] at hi
  have:=wayL_le key n.seps
  have:=ho.ns
  omega⟩⟩


abbrev clZ:Bs×Bs:=([],[])
def walkS (p wid:Int) (ch:Nd→List Nat):Sd→Sd→(Bs×Bs)×Bool×Int
 | .nil,_=>(clZ,false,0)
 | .mk x ea ka,b=>
  match b with
  | .nil=>(clZ,false,0)
  | .mk y eb kb=>
   if x≠y then ((textF p wid x,textF p wid y),true,0)
   else (ch (nodeOf p wid x)).foldr (fun i acc=>if ea i≠0 then (clZ,false,ea i) else if eb i≠0 then (clZ,false,eb i) else
    (if (walkS p wid ch (ka i) (kb i)).2.1=true∨(walkS p wid ch (ka i) (kb i)).2.2≠0 then walkS p wid ch (ka i) (kb i) else acc)) (clZ,false,0)

def stepW (ea eb:Nat→Int) (r:Nat→(Bs×Bs)×Bool×Int) (i:Nat) (acc:(Bs×Bs)×Bool×Int):(Bs×Bs)×Bool×Int:=
 if ea i≠0 then (clZ,false,ea i) else if eb i≠0 then (clZ,false,eb i) else if (r i).2.1=true∨(r i).2.2≠0 then r i else acc
theorem walkS_mk (p wid:Int) (ch:Nd→List Nat) (x y:Bs) (ea eb:Nat→Int) (ka kb:Nat→Sd):walkS p wid ch (.mk x ea ka) (.mk y eb kb) =
  if x≠y then ((textF p wid x,textF p wid y),true,0) else (ch (nodeOf p wid x)).foldr (stepW ea eb fun i=>walkS p wid ch (ka i) (kb i)) (clZ,false,0):=rfl
theorem stepW_or (ea eb:Nat→Int) (r:Nat→(Bs×Bs)×Bool×Int) (i:Nat) (acc:(Bs×Bs)×Bool×Int):(stepW ea eb r i acc).1=clZ∨stepW ea eb r i acc=r i∨stepW ea eb r i acc=acc:=by
 unfold stepW
 split
 ·exact .inl rfl
 ·split
  ·exact .inl rfl
  ·split
   ·exact .inr (.inl rfl)
   ·exact .inr (.inr rfl)
theorem stepW_clean {ea eb:Nat→Int} {r:Nat→(Bs×Bs)×Bool×Int} (h:∀ i,(r i).2.1=false→(r i).1=clZ) (l:List Nat):(l.foldr (stepW ea eb r) (clZ,false,0)).2.1=false→(l.foldr (stepW ea eb r) (clZ,false,0)).1=clZ:=by
 induction l with
 | nil=>intro _;rfl
 | cons i l ih=>
  rw [List.foldr_cons]
  intro hm
  rcases stepW_or ea eb r i (l.foldr (stepW ea eb r) (clZ,false,0)) with h1 | h1 | h1
  ·exact h1
  ·rw [h1] at hm ⊢;exact h i hm
  ·rw [h1] at hm ⊢;exact ih hm
theorem walkS_clean (p wid:Int) (ch:Nd→List Nat):∀ a b:Sd,(walkS p wid ch a b).2.1=false→(walkS p wid ch a b).1=clZ:=by
 intro a
 induction a with
 | nil=>intro b _;rfl
 | mk x ea ka ih=>
  intro b
  cases b with
  | nil=>intro _;rfl
  | mk y eb kb=>
   rw [walkS_mk]
   intro h
   split at h
   ·cases h
   ·rename_i h1;rw [if_neg h1];exact stepW_clean (fun i=>ih i (kb i)) _ h

theorem side_shape {s:Sd} {d:D} (h:SideOk s d):∃ x g,d=.agg [sD x,g]∧g.size=1∧g.lies=true∧g.isAgg=false:=by
 cases s with
 | nil=>exact ⟨_,_,h,rfl,rfl,rfl⟩
 | mk x e k=>obtain ⟨_,_,f,cs,rfl,_⟩:=h;exact ⟨_,_,rfl,rfl,by simp [D.lies],rfl⟩

theorem aWalkD (S:Sto) (b8 b9:Nat) (met:Bool) (c:Bs×Bs) (u:FrameMode) (h8:getM S.bk b8=some (26,clD c)) (h9:getM S.bk b9=some (4,bD met)) :
  ADefer Tryz.prog 59 [pD b9,pD b8] S u (fun u' S'=>u'=u∧S'=if met=true then S else ⟨setM S.bk b8 (clD clZ),S.ow⟩):=by
 refine adefer_of prg Tryz.func59 rfl (by kernel_rfl) (congrArg Array.toList Tryz.results59) Tryz.ntmps59 (R:=fun S'=>S'=if met=true then S else ⟨setM S.bk b8 (clD clZ),S.ow⟩) (fun B hB=>?_)
 simp only [List.length_cons,List.length_nil,Nat.reduceAdd,Nat.reduceSub,List.replicate_succ,List.replicate_zero,List.cons_append,List.nil_append]
 cases met
 ·refine Wk (Yy h9 h8) ?_
  exact endnx (S':=⟨setM S.bk b8 (clD clZ),S.ow⟩) (sR Y0) (by rfl) (Sto.Sub.refl _) rfl
 ·refine Wk (Yy h9 h8) ?_
  exact endnx (S':=S) (sR Y0) (by rfl) (Sto.Sub.refl _) rfl

theorem walk_ret {A:List D} {S S2:Sto} {b8 b9:Nat} {c:Bs×Bs} {met:Bool} {e:Int} (h8:A.getD 8 .any=pD b8) (h9:A.getD 9 .any=pD b9) (h10:A.getD 10 .any=iD e) (g8:getM S2.bk b8=some (26,clD c)) (g9:getM S2.bk b9=some (4,bD met))
  (sub:S.Sub S2) (sub':S.Sub ⟨setM S2.bk b8 (clD clZ),S2.ow⟩) (n:¬ b9=b8) :
  EndD Tryz.prog tys [.cell 8 26,.cell 9 4,.tmp 10] 59 [.pointer (some ⟨b9,0,none⟩),.pointer (some ⟨b8,0,none⟩)] (RetQ (.tup [clD (if met=true then c else clZ),bD met,iD e]) S) .ret A S2:=by
 refine (aWalkD S2 b8 b9 met c .returning g8 g9).mono (fun u S' h=>⟨by rw [h.1];rfl,?_⟩)
 obtain ⟨_,rfl⟩:=h
 have n':=nes n
 cases met
 ·refine ⟨[clD clZ,bD false,iD e],_,S,?_,.inl rfl,sub',rfl,rfl⟩
  have g9':getM (setM S2.bk b8 (clD clZ)) b9=some (4,bD false):=by rw [getM_setM_ne n];exact g9
  have g8':getM (setM S2.bk b8 (clD clZ)) b8=some (26,clD clZ):=by rw [getM_setM,g8];rfl
  simp only [go_sem,Int.reduceEq,Int.reduceLT,Int.reduceBEq,Int.reduceBNe,Int.reduceNe,Nat.reduceLeDiff,Nat.reduceAdd,Nat.reduceSub,Nat.reduceLT,Nat.reduceEqDiff,Nat.reduceBEq,Int.reduceLE,Int.reduceToNat,h8,h9,h10,g8',g9']
 ·refine ⟨[clD c,bD true,iD e],_,S,?_,.inl rfl,sub,rfl,rfl⟩
  simp only [go_sem,Int.reduceEq,Int.reduceLT,Int.reduceBEq,Int.reduceBNe,Int.reduceNe,Nat.reduceLeDiff,Nat.reduceAdd,Nat.reduceSub,Nat.reduceLT,Nat.reduceEqDiff,Nat.reduceBEq,Int.reduceLE,Int.reduceToNat,h8,h9,h10,g8,g9]

def wrD (r:(Bs×Bs)×Bool×Int):D:=.tup [clD r.1,bD r.2.1,iD r.2.2]
theorem aWalk (p wid:Int) (ch:Nd→List Nat) (dc:D) (hc:ChOk ch dc):∀ (a b:Sd) (da db:D) (S:Sto),SideOk a da→SideOk b db→a≠.nil→b≠.nil →
  ACalls Tryz.prog 29 [frD p wid,da,db,dc] S (RetQ (wrD (walkS p wid ch a b)) S):=by
 obtain ⟨fc,cc,rfl,hc⟩:=hc
 intro a
 induction a with
 | nil=>intro b da db S _ _ h;exact absurd rfl h
 | mk x ea ka ih=>
  intro b da db S ha hb _ hbn
  cases b with
  | nil=>exact absurd rfl hbn
  | mk y eb kb=>
  obtain ⟨hx,hka,fa,ca,rfl,ha⟩:=ha
  obtain ⟨hy,hkb,fb,cb,rfl,hb⟩:=hb
  obtain ⟨G,hG⟩:∃ G,walkS p wid ch (.mk x ea ka) (.mk y eb kb)=G:=⟨_,rfl⟩
  rw [hG]
  rw [walkS_mk] at hG
  refine acalls_of_defer prg Tryz.func29 rfl (by kernel_rfl) (congrArg Array.toList Tryz.results29) Tryz.ntmps29 (fun B Z hB hQ hD=>?_)
  simp only [List.length_cons,List.length_nil,Nat.reduceAdd,Nat.reduceSub,List.replicate_succ,List.replicate_zero,List.cons_append,List.nil_append]
  refine AWD.seq hQ ?_
  refine w4 ?_
  refine gG Y0 ?_
  refine aL fun b8 k_b8 o_b8=>?_
  refine gG Y0 ?_
  refine aL fun b9 k_b9 o_b9=>?_
  refine gG Y0 ?_
  refine w6 ?_
  have n89:=nes k_b9.1
  refine AWD.seq hQ ?_
  by_cases hxy:x=y
  case neg=>
   have z0:(!(x == y))=true:=by simpa using hxy
   have t1:=fun S=>aCText p wid x S hx
   have t2:=fun S=>aCText p wid y S hy
   rw [if_pos hxy] at hG
   subst hG
   refine Wk z0 ?_
   refine cQ (t1 _) ?_
   refine Wk Y0 ?_
   refine cQ (t2 _) ?_
   refine Wk (Yy k_b9 n89) ?_
   refine endq (S':=S) (sR (Yy k_b9 n89)) (by rfl) (Sto.Sub.refl _).cons.cons
  have z0:(!(x == y))=false:=by simpa using hxy
  rw [if_neg (fun h=>h hxy)] at hG
  have c1:=fun S=>aNRead p wid x S (by omega)
  have ho:NdOk (nodeOf p wid x):=nodeOf_ok (by omega)
  have hfw:=nodeOf_few p wid x
  unfold nodeOf at ho hG hfw
  generalize (readP p wid x).getD noN=n at c1 ho hG hfw
  generalize okE (readP p wid x) (unpackE p wid)=e0 at c1
  obtain ⟨c2,hch,hci⟩:(∀ S,ACalls Tryz.prog fc ([ndA n]++cc) S (RetQ (.sl .none ((ch n).map natD)) S))∧(ch n).length≤1000000∧∀ i∈ch n,i≤100000000000000:=⟨fun S=>(hc n S ho hfw.1 hfw.2).1,(hc n S ho hfw.1 hfw.2).2⟩
  refine Wk z0 ?_
  refine AWD.seq hQ ?_
  refine w4 ?_
  refine gG Y0 ?_
  refine cQ (c1 _) ?_
  refine gG Y0 ?_
  refine aL fun b11 k_b11 o_b11=>?_
  refine gG k_b11 ?_
  refine w6 ?_
  refine AWD.seq hQ ?_
  refine w4 ?_
  refine aL fun b13 k_b13 o_b13=>?_
  refine gG Y0 ?_
  refine aL fun b14 k_b14 o_b14=>?_
  refine gG Y0 ?_
  refine w6 ?_
  have q1:=nes k_b11.1
  have q2:=nes k_b11.2.1
  have q3:=nes k_b13.1
  have q4:=nes k_b13.2.1
  have q5:=nes k_b13.2.2.1
  have q6:=nes k_b14.1
  have q7:=nes k_b14.2.1
  have q8:=nes k_b14.2.2.1
  have q9:=nes k_b14.2.2.2.1
  refine AWD.put_off prg (f:=59) (caps:=#[.pointer (some ⟨b9,0,none⟩),.pointer (some ⟨b8,0,none⟩)]) (by (simp only [go_sem,Int.reduceEq,Int.reduceLT,Int.reduceBEq,Int.reduceBNe,Int.reduceNe,Nat.reduceLeDiff,Nat.reduceAdd,Nat.reduceSub,Nat.reduceLT,Nat.reduceEqDiff,Nat.reduceBEq,Int.reduceLE,Int.reduceToNat];try rfl)) rfl rfl rfl (by (simp only [go_sem,Int.reduceEq,Int.reduceLT,Int.reduceBEq,Int.reduceBNe,Int.reduceNe,Nat.reduceLeDiff,Nat.reduceAdd,Nat.reduceSub,Nat.reduceLT,Nat.reduceEqDiff,Nat.reduceBEq,Int.reduceLE,Int.reduceToNat];try rfl)) ?_
  rw [hB]
  refine AWD.of (hD _ _ (by simp [Value.oneCell'])) ?_
  refine Wk (Yy k_b9 (Yy n89 (Yy k_b11 (Yy q1 (Yy q2 (Yy k_b13 (Yy q3 (Yy q4 (Yy q5 (Yy k_b14 (Yy q6 (Yy q7 (Yy q8 q9))))))))))))) ?_
  refine wi (c:=by exact (c2 _)) (k:=?_)
  have n98:=k_b9.1
  obtain ⟨L,hL⟩:∃ L,ch n=L:=⟨_,rfl⟩
  rw [hL] at hch hci hG ⊢
  refine Wk (Yy k_b9 (Yy n89 (Yy k_b11 (Yy q1 (Yy q2 (Yy k_b13 (Yy q3 (Yy q4 (Yy q5 (Yy k_b14 (Yy q6 (Yy q7 (Yy q8 q9))))))))))))) ?_
  refine AW.loopS 17 [16,41,42,43] (fun xs S'=>∃ (i:Nat) (x1 x2:Bs) (g1 g2:D),xs=[.any,.sl .none (L.map natD),iD L.length,iD i]∧S'=⟨(b14,62,.agg [sD x2,g2])::(b13,62,.agg [sD x1,g1])::(b11,87,ndA n)::(b9,4,bD false)::(b8,26,clD clZ)::S.bk,S.ow⟩∧(g1.size=1∧g1.isAgg=false)∧(g2.size=1∧g2.isAgg=false)∧i≤L.length∧(L.drop i).foldr (stepW ea eb fun i=>walkS p wid ch (ka i) (kb i)) (clZ,false,0)=G) (fun xs _=>L.length - nI (xs.getD 3 .any)) [.any,.sl .none (L.map natD),iD L.length,iD 0] _ ?_ (Sto.Sub.refl _) ⟨0,[],[],.v .nilFunc,.v .nilFunc,rfl,rfl,⟨rfl,rfl⟩,⟨rfl,rfl⟩,by omega,hG⟩ ?_
  ·exact wK
  rintro xs S' ⟨i,x1,x2,g1,g2,rfl,rfl,⟨s1,a1⟩,⟨s2,a2⟩,hi,hg⟩
  refine fR ?_
  by_cases hlt:i<L.length
  case neg=>
   obtain rfl:i=L.length:=by omega
   have d1:decide ((L.length:Int)<L.length)=false:=decide_eq_false (by omega)
   rw [List.drop_length] at hg
   subst hg
   refine Wk d1 ?_
   refine walk_ret (c:=clZ) (met:=false) (e:=0) rfl rfl rfl (by simp only [go_sem,Int.reduceEq,Int.reduceLT,Int.reduceBEq,Int.reduceBNe,Int.reduceNe,Nat.reduceLeDiff,Nat.reduceAdd,Nat.reduceSub,Nat.reduceLT,Nat.reduceEqDiff,Nat.reduceBEq,Int.reduceLE,Int.reduceToNat,k_b9,n89,n98,k_b11,q1,q2,k_b13,q3,q4,q5,k_b14,q6,q7,q8,q9]) (by simp only [go_sem,Int.reduceEq,Int.reduceLT,Int.reduceBEq,Int.reduceBNe,Int.reduceNe,Nat.reduceLeDiff,Nat.reduceAdd,Nat.reduceSub,Nat.reduceLT,Nat.reduceEqDiff,Nat.reduceBEq,Int.reduceLE,Int.reduceToNat,k_b9,n89,n98,k_b11,q1,q2,k_b13,q3,q4,q5,k_b14,q6,q7,q8,q9]) (Sto.Sub.refl _).cons.cons.cons.cons.cons (by simp only [go_sem,Int.reduceEq,Int.reduceLT,Int.reduceBEq,Int.reduceBNe,Int.reduceNe,Nat.reduceLeDiff,Nat.reduceAdd,Nat.reduceSub,Nat.reduceLT,Nat.reduceEqDiff,Nat.reduceBEq,Int.reduceLE,Int.reduceToNat,k_b9,n89,n98,k_b11,q1,q2,k_b13,q3,q4,q5,k_b14,q6,q7,q8,q9];exact (Sto.Sub.refl _).cons.cons.cons.cons.cons) n98
  obtain ⟨v,hv⟩:∃ v,L[i]?=some v:=⟨_,List.getElem?_eq_getElem hlt⟩
  have hv1:=hci v (List.mem_of_getElem? hv)
  have d1:decide ((i:Int)<L.length)=true:=decide_eq_true (by omega)
  have hgt:(L.map natD)[i]?=some (natD v):=by rw [List.getElem?_map,hv];rfl
  have g0:(0:Int)≤i:=by omega
  have f1:IntKind.i64.wrap ((i:Int)+1)=((i+1:Nat):Int):=IntWalk.i64_in _ (by omega)
  have hdr:L.drop i=v::L.drop (i+1):=by
   rw [List.drop_eq_getElem_cons hlt]
   rw [List.getElem?_eq_getElem hlt,Option.some.injEq] at hv
   rw [hv]
  rw [hdr,List.foldr_cons] at hg
  obtain ⟨R,hR⟩:∃ R,(L.drop (i+1)).foldr (stepW ea eb fun i=>walkS p wid ch (ka i) (kb i)) (clZ,false,0)=R:=⟨_,rfl⟩
  rw [hR] at hg
  unfold stepW at hg
  simp only [] at hg
  refine Wk (Yy d1 (Yy hgt (Yy g0 Int.toNat_natCast))) ?_
  have hav:=fun S=>ha v S hv1
  refine wix (c:=by exact (hav _)) (k:=?_)
  rintro da1 S1 ⟨rfl,dp,rfl,hsp⟩
  obtain ⟨x3,g3,rfl,s3,l3,a3⟩:=side_shape hsp
  by_cases he:ea v=0
  case neg=>
   rw [if_pos he] at hg
   subst hg
   have z1:(ea v != 0)=true:=bne_iff_ne.2 he
   refine Wk (Yy k_b9 (Yy n89 (Yy n98 (Yy k_b11 (Yy q1 (Yy q2 (Yy k_b13 (Yy q3 (Yy q4 (Yy q5 (Yy k_b14 (Yy q6 (Yy q7 (Yy q8 (Yy q9 (Yy s1 (Yy a1 (Yy s2 (Yy a2 (Yy s3 (Yy l3 (Yy a3 z1)))))))))))))))))))))) ?_
   refine walk_ret (c:=clZ) (met:=false) (e:=ea v) rfl rfl rfl (by simp only [go_sem,Int.reduceEq,Int.reduceLT,Int.reduceBEq,Int.reduceBNe,Int.reduceNe,Nat.reduceLeDiff,Nat.reduceAdd,Nat.reduceSub,Nat.reduceLT,Nat.reduceEqDiff,Nat.reduceBEq,Int.reduceLE,Int.reduceToNat,k_b9,n89,n98,k_b11,q1,q2,k_b13,q3,q4,q5,k_b14,q6,q7,q8,q9]) (by simp only [go_sem,Int.reduceEq,Int.reduceLT,Int.reduceBEq,Int.reduceBNe,Int.reduceNe,Nat.reduceLeDiff,Nat.reduceAdd,Nat.reduceSub,Nat.reduceLT,Nat.reduceEqDiff,Nat.reduceBEq,Int.reduceLE,Int.reduceToNat,k_b9,n89,n98,k_b11,q1,q2,k_b13,q3,q4,q5,k_b14,q6,q7,q8,q9]) (Sto.Sub.refl _).cons.cons.cons.cons.cons (by simp only [go_sem,Int.reduceEq,Int.reduceLT,Int.reduceBEq,Int.reduceBNe,Int.reduceNe,Nat.reduceLeDiff,Nat.reduceAdd,Nat.reduceSub,Nat.reduceLT,Nat.reduceEqDiff,Nat.reduceBEq,Int.reduceLE,Int.reduceToNat,k_b9,n89,n98,k_b11,q1,q2,k_b13,q3,q4,q5,k_b14,q6,q7,q8,q9];exact (Sto.Sub.refl _).cons.cons.cons.cons.cons) n98
  rw [if_neg (fun h=>h he)] at hg
  have z1:(ea v != 0)=false:=bne_eq_false_iff_eq.2 he
  refine Wk (Yy k_b9 (Yy n89 (Yy n98 (Yy k_b11 (Yy q1 (Yy q2 (Yy k_b13 (Yy q3 (Yy q4 (Yy q5 (Yy k_b14 (Yy q6 (Yy q7 (Yy q8 (Yy q9 (Yy s1 (Yy a1 (Yy s2 (Yy a2 (Yy s3 (Yy l3 (Yy a3 z1)))))))))))))))))))))) ?_
  have hbv:=fun S=>hb v S hv1
  refine wix (c:=by exact (hbv _)) (k:=?_)
  rintro db1 S1 ⟨rfl,dq,rfl,hsq⟩
  obtain ⟨x4,g4,rfl,s4,l4,a4⟩:=side_shape hsq
  by_cases hf:eb v=0
  case neg=>
   rw [if_pos hf] at hg
   subst hg
   have z2:(eb v != 0)=true:=bne_iff_ne.2 hf
   refine Wk (Yy k_b9 (Yy n89 (Yy n98 (Yy k_b11 (Yy q1 (Yy q2 (Yy k_b13 (Yy q3 (Yy q4 (Yy q5 (Yy k_b14 (Yy q6 (Yy q7 (Yy q8 (Yy q9 (Yy s1 (Yy a1 (Yy s2 (Yy a2 (Yy s3 (Yy l3 (Yy a3 (Yy s4 (Yy l4 (Yy a4 z2))))))))))))))))))))))))) ?_
   refine walk_ret (c:=clZ) (met:=false) (e:=eb v) rfl rfl rfl (by simp only [go_sem,Int.reduceEq,Int.reduceLT,Int.reduceBEq,Int.reduceBNe,Int.reduceNe,Nat.reduceLeDiff,Nat.reduceAdd,Nat.reduceSub,Nat.reduceLT,Nat.reduceEqDiff,Nat.reduceBEq,Int.reduceLE,Int.reduceToNat,k_b9,n89,n98,k_b11,q1,q2,k_b13,q3,q4,q5,k_b14,q6,q7,q8,q9]) (by simp only [go_sem,Int.reduceEq,Int.reduceLT,Int.reduceBEq,Int.reduceBNe,Int.reduceNe,Nat.reduceLeDiff,Nat.reduceAdd,Nat.reduceSub,Nat.reduceLT,Nat.reduceEqDiff,Nat.reduceBEq,Int.reduceLE,Int.reduceToNat,k_b9,n89,n98,k_b11,q1,q2,k_b13,q3,q4,q5,k_b14,q6,q7,q8,q9]) (Sto.Sub.refl _).cons.cons.cons.cons.cons (by simp only [go_sem,Int.reduceEq,Int.reduceLT,Int.reduceBEq,Int.reduceBNe,Int.reduceNe,Nat.reduceLeDiff,Nat.reduceAdd,Nat.reduceSub,Nat.reduceLT,Nat.reduceEqDiff,Nat.reduceBEq,Int.reduceLE,Int.reduceToNat,k_b9,n89,n98,k_b11,q1,q2,k_b13,q3,q4,q5,k_b14,q6,q7,q8,q9];exact (Sto.Sub.refl _).cons.cons.cons.cons.cons) n98
  rw [if_neg (fun h=>h hf)] at hg
  have z2:(eb v != 0)=false:=bne_eq_false_iff_eq.2 hf
  have cw:=fun S=>ih v (kb v) _ _ S hsp hsq (hka v he) (hkb v hf)
  have hcl:=walkS_clean p wid ch (ka v) (kb v)
  generalize walkS p wid ch (ka v) (kb v)=r at cw hcl hg
  obtain ⟨c,m,e⟩:=r
  unfold wrD at cw
  refine Wk (Yy k_b9 (Yy n89 (Yy n98 (Yy k_b11 (Yy q1 (Yy q2 (Yy k_b13 (Yy q3 (Yy q4 (Yy q5 (Yy k_b14 (Yy q6 (Yy q7 (Yy q8 (Yy q9 (Yy s1 (Yy a1 (Yy s2 (Yy a2 (Yy s3 (Yy l3 (Yy a3 (Yy s4 (Yy l4 (Yy a4 z2))))))))))))))))))))))))) ?_
  refine cQ (cw _) ?_
  cases m with
  | true=>
   rw [if_pos (.inl rfl)] at hg
   subst hg
   refine Wk (Yy k_b9 (Yy n89 (Yy n98 (Yy k_b11 (Yy q1 (Yy q2 (Yy k_b13 (Yy q3 (Yy q4 (Yy q5 (Yy k_b14 (Yy q6 (Yy q7 (Yy q8 (Yy q9 (Yy s1 (Yy a1 (Yy s2 (Yy a2 (Yy s3 (Yy l3 (Yy a3 (Yy s4 (Yy l4 a4)))))))))))))))))))))))) ?_
   refine walk_ret (c:=c) (met:=true) (e:=e) rfl rfl rfl (by simp only [go_sem,Int.reduceEq,Int.reduceLT,Int.reduceBEq,Int.reduceBNe,Int.reduceNe,Nat.reduceLeDiff,Nat.reduceAdd,Nat.reduceSub,Nat.reduceLT,Nat.reduceEqDiff,Nat.reduceBEq,Int.reduceLE,Int.reduceToNat,k_b9,n89,n98,k_b11,q1,q2,k_b13,q3,q4,q5,k_b14,q6,q7,q8,q9]) (by simp only [go_sem,Int.reduceEq,Int.reduceLT,Int.reduceBEq,Int.reduceBNe,Int.reduceNe,Nat.reduceLeDiff,Nat.reduceAdd,Nat.reduceSub,Nat.reduceLT,Nat.reduceEqDiff,Nat.reduceBEq,Int.reduceLE,Int.reduceToNat,k_b9,n89,n98,k_b11,q1,q2,k_b13,q3,q4,q5,k_b14,q6,q7,q8,q9]) (Sto.Sub.refl _).cons.cons.cons.cons.cons (by simp only [go_sem,Int.reduceEq,Int.reduceLT,Int.reduceBEq,Int.reduceBNe,Int.reduceNe,Nat.reduceLeDiff,Nat.reduceAdd,Nat.reduceSub,Nat.reduceLT,Nat.reduceEqDiff,Nat.reduceBEq,Int.reduceLE,Int.reduceToNat,k_b9,n89,n98,k_b11,q1,q2,k_b13,q3,q4,q5,k_b14,q6,q7,q8,q9];exact (Sto.Sub.refl _).cons.cons.cons.cons.cons) n98
  | false=>
   obtain rfl:=hcl rfl
   by_cases h0:e=0
   ·subst h0
    rw [if_neg (fun h=>by rcases h with h | h;(cases h);exact h rfl)] at hg
    have z3:((0:Int) != 0)=false:=rfl
    refine Wk (Yy k_b9 (Yy n89 (Yy n98 (Yy k_b11 (Yy q1 (Yy q2 (Yy k_b13 (Yy q3 (Yy q4 (Yy q5 (Yy k_b14 (Yy q6 (Yy q7 (Yy q8 (Yy q9 (Yy s1 (Yy a1 (Yy s2 (Yy a2 (Yy s3 (Yy l3 (Yy a3 (Yy s4 (Yy l4 (Yy a4 (Yy z3 f1)))))))))))))))))))))))))) ?_
    refine ⟨[.any,.sl .none (L.map natD),iD L.length,iD (i+1:Nat)],⟨_,S.ow⟩,?_,Sto.Sub.refl _,⟨i+1,x3,x4,g3,g4,rfl,rfl,⟨s3,a3⟩,⟨s4,a4⟩,by omega,by rw [hR];exact hg⟩,?_⟩
    ·exact wK
    ·exact mE
   ·have z3:(e != 0)=true:=bne_iff_ne.2 h0
    rw [if_pos (.inr h0)] at hg
    subst hg
    refine Wk (Yy k_b9 (Yy n89 (Yy n98 (Yy k_b11 (Yy q1 (Yy q2 (Yy k_b13 (Yy q3 (Yy q4 (Yy q5 (Yy k_b14 (Yy q6 (Yy q7 (Yy q8 (Yy q9 (Yy s1 (Yy a1 (Yy s2 (Yy a2 (Yy s3 (Yy l3 (Yy a3 (Yy s4 (Yy l4 (Yy a4 z3))))))))))))))))))))))))) ?_
    refine walk_ret (c:=clZ) (met:=false) (e:=e) rfl rfl rfl (by simp only [go_sem,Int.reduceEq,Int.reduceLT,Int.reduceBEq,Int.reduceBNe,Int.reduceNe,Nat.reduceLeDiff,Nat.reduceAdd,Nat.reduceSub,Nat.reduceLT,Nat.reduceEqDiff,Nat.reduceBEq,Int.reduceLE,Int.reduceToNat,k_b9,n89,n98,k_b11,q1,q2,k_b13,q3,q4,q5,k_b14,q6,q7,q8,q9]) (by simp only [go_sem,Int.reduceEq,Int.reduceLT,Int.reduceBEq,Int.reduceBNe,Int.reduceNe,Nat.reduceLeDiff,Nat.reduceAdd,Nat.reduceSub,Nat.reduceLT,Nat.reduceEqDiff,Nat.reduceBEq,Int.reduceLE,Int.reduceToNat,k_b9,n89,n98,k_b11,q1,q2,k_b13,q3,q4,q5,k_b14,q6,q7,q8,q9]) (Sto.Sub.refl _).cons.cons.cons.cons.cons (by simp only [go_sem,Int.reduceEq,Int.reduceLT,Int.reduceBEq,Int.reduceBNe,Int.reduceNe,Nat.reduceLeDiff,Nat.reduceAdd,Nat.reduceSub,Nat.reduceLT,Nat.reduceEqDiff,Nat.reduceBEq,Int.reduceLE,Int.reduceToNat,k_b9,n89,n98,k_b11,q1,q2,k_b13,q3,q4,q5,k_b14,q6,q7,q8,q9];exact (Sto.Sub.refl _).cons.cons.cons.cons.cons) n98


theorem forms_ok {p wid:Int} {root:Dg} {key s:Bs} (h:errP p wid root key s=0):∃ f l,formsP p wid root key s=f::l∧(∀ z∈f::l,z.length≤s.length)∧l.length≤33:=by
 unfold errP at h
 unfold formsP
 split at h
 ·rename_i ha
  rw [if_pos ha]
  cases hp:proofP p wid root key s with
  | none=>rw [hp] at h;simp at h
  | some x=>
   obtain ⟨fs,r⟩:=x
   unfold proofP at hp
   split at hp
   ·cases hp
   ·rename_i fs' hs
    split at hp
    ·rename_i hl
     cases hr:readF p wid key 0 fs' (rg0 root) with
     | none=>rw [hr] at hp;cases hp
     | some r'=>
      rw [hr] at hp
      simp only [Option.map_some,Option.some.injEq,Prod.mk.injEq] at hp
      obtain ⟨rfl,rfl⟩:=hp
      obtain ⟨f,l,rfl⟩:∃ f l,fs'=f::l:=by cases fs' with
       | nil=>simp at hl
       | cons f l=>exact ⟨f,l,rfl⟩
      exact ⟨f,l,rfl,splitP_shr hs,by have:=hl.2;simp only [List.length_cons] at this;omega⟩
    ·cases hp
 ·omega


theorem leafB_b (n:Nd):leafB n=(((n.seps.length:Int) == 0) && ((n.kids.length:Int) == 0)):=by
 unfold leafB
 rw [Bool.eq_iff_iff]
 simp only [decide_eq_true_eq,Bool.and_eq_true,beq_iff_eq]
 omega
theorem aLeaf (n:Nd) (S:Sto):ACalls Tryz.prog 101 [ndA n] S (RetQ (bD (leafB n)) S):=by
 rw [leafB_b]
 cases h:((n.seps.length:Int) == 0) with
 | true=>
  refine acalls_of prg Tryz.func101 rfl (by kernel_rfl) (congrArg Array.toList Tryz.results101) Tryz.ntmps101 (fun B hB=>fA ?_)
  refine Wk h ?_
  exact rE
 | false=>
  refine acalls_of prg Tryz.func101 rfl (by kernel_rfl) (congrArg Array.toList Tryz.results101) Tryz.ntmps101 (fun B hB=>fA ?_)
  refine Wk h ?_
  exact rE
theorem aTag (n:Nd) (S:Sto):ACalls Tryz.prog 105 [ndA n] S (RetQ (sD (tagN n)) S):=by
 have c1:=fun S=>aLeaf n S
 unfold tagN
 cases h:leafB n with
 | true=>
  rw [h] at c1
  refine acalls_of prg Tryz.func105 rfl (by kernel_rfl) (congrArg Array.toList Tryz.results105) Tryz.ntmps105 (fun B hB=>fA ?_)
  refine Wk Y0 ?_
  refine cQ (c1 _) ?_
  refine Wk Y0 ?_
  exact rE
 | false=>
  rw [h] at c1
  refine acalls_of prg Tryz.func105 rfl (by kernel_rfl) (congrArg Array.toList Tryz.results105) Tryz.ntmps105 (fun B hB=>fA ?_)
  refine Wk Y0 ?_
  refine cQ (c1 _) ?_
  refine Wk Y0 ?_
  exact rE
theorem aRText (tag:Bs) (parts:List Bs) (t:Tag) (S:Sto) (h1:1≤tag.length) (h2:tag.length≤64) (hT:(textT tag parts).length≤140737488355328) (hn:parts.length≤1000000000) :
  ACalls Tryz.prog 104 [sD tag,.sl t (parts.map sD)] S (RetQ (.tup [sD (textT tag parts),iD 0]) S):=
 ACalls.liftq (callable Tryz.func104 rfl (by kernel_rfl)) fun w xs hS hx=>by
  obtain ⟨x,ys,rfl,h3,h4⟩:=hx.cons
  obtain ⟨z,us,rfl,h5,h6⟩:=h4.cons
  obtain rfl:=h6.nil
  obtain rfl:=h3.str
  obtain ⟨a,c,rfl,hp⟩:=h5.ss
  exact (rtext_any tag parts a c w hp h1 h2 hT hn).mono fun e w' h=>⟨_,h.kp.1,h.kp.2,RVal.mk_tup (RVals.mk RVal.of_str (RVals.mk RVal.of_int RVals.mk0))⟩
theorem aRDigest (n:Int) (tag:Bs) (parts:List Bs) (t:Tag) (S:Sto) (hT:(textT tag parts).length≤140737488355000) (hn:parts.length≤1000000000) :
  ACalls Tryz.prog 144 [iD n,sD tag,.sl t (parts.map sD)] S (RetQ (.tup [.dg (digS n tag parts).1,iD (digS n tag parts).2]) S):=
 ACalls.liftq (callable Tryz.func144 rfl (by kernel_rfl)) fun w xs hS hx=>by
  obtain ⟨x,ys,rfl,h1,h2⟩:=hx.cons
  obtain ⟨y,zs,rfl,h3,h4⟩:=h2.cons
  obtain ⟨z,us,rfl,h5,h6⟩:=h4.cons
  obtain rfl:=h6.nil
  obtain rfl:=h1.int
  obtain rfl:=h3.str
  obtain ⟨a,c,rfl,hp⟩:=h5.ss
  exact (rdig_any n tag parts a c w hp hT hn).mono fun e w' h=>⟨_,h.kp.1,h.kp.2,RVal.mk_tup (RVals.mk (by unfold RVal;rfl) (RVals.mk RVal.of_int RVals.mk0))⟩
theorem aRSum (p wid:Int) (n:Nd) (S:Sto) (ho:NdOk n):ACalls Tryz.prog 99 [frD p wid,ndA n] S (RetQ (.tup [.dg (sumN p wid n).1,iD (sumN p wid n).2]) S):=by
 have c1:=fun S=>aPlain p wid n S ho
 have c2:=fun S=>aTag n S
 unfold sumN
 by_cases h0:mayE p wid n=0
 ·rw [if_pos h0]
  have hle:=plainS_le h0
  have ht:=(tagN_ok n).2
  have c3:=fun t S=>aRDigest wid (tagN n) [plainS p wid n] t S (by rw [textT1];omega) (by simp)
  generalize plainS p wid n=s at c1 c3 ⊢
  generalize digS wid (tagN n) [s]=g at c3 ⊢
  obtain ⟨gd,ge⟩:=g
  rw [h0] at c1
  have z0:((0:Int) != 0)=false:=rfl
  refine acalls_of prg Tryz.func99 rfl (by kernel_rfl) (congrArg Array.toList Tryz.results99) Tryz.ntmps99 (fun B hB=>fA ?_)
  refine Wk Y0 ?_
  refine aL fun b4 k_b4 o_b4=>?_
  refine Wk Y0 ?_
  refine cQ (c1 _) ?_
  refine Wk z0 ?_
  refine cQ (c2 _) ?_
  refine Wk Y0 ?_
  refine cQ (c3 _ _) ?_
  refine Wk Y0 ?_
  refine endq (S':=S) (sR Y0) (by rfl) (Sto.Sub.refl _).cons
 ·rw [if_neg h0]
  have z0:(mayE p wid n != 0)=true:=bne_iff_ne.2 h0
  refine acalls_of prg Tryz.func99 rfl (by kernel_rfl) (congrArg Array.toList Tryz.results99) Tryz.ntmps99 (fun B hB=>fA ?_)
  refine Wk Y0 ?_
  refine aL fun b4 k_b4 o_b4=>?_
  refine Wk Y0 ?_
  refine cQ (c1 _) ?_
  refine Wk z0 ?_
  refine endq (S':=S) (sR Y0) (by rfl) (Sto.Sub.refl _).cons

def textR (p wid:Int) (s:Bs):Bs:=textT (tagN (nodeOf p wid s)) [s]
theorem aRCText (p wid:Int) (s:Bs) (S:Sto) (hs:s.length≤1048576):ACalls Tryz.prog 66 [frD p wid,sD s] S (RetQ (sD (textR p wid s)) S):=by
 have c1:=fun S=>aRead p wid s S (by omega)
 have c2:=fun S=>aTag (nodeOf p wid s) S
 have ht:=tagN_ok (nodeOf p wid s)
 have h1:1≤(tagN (nodeOf p wid s)).length:=by unfold tagN;split <;> simp
 have c3:=fun t S=>aRText (tagN (nodeOf p wid s)) [s] t S h1 (by omega) (by rw [textT1];omega) (by simp)
 unfold textR
 unfold nodeOf at c2 c3 ⊢
 generalize (readP p wid s).getD noN=n at c1 c2 c3 ⊢
 generalize okE (readP p wid s) (unpackE p wid)=e at c1
 generalize textT (tagN n) [s]=r at c3 ⊢
 generalize tagN n=g at c2 c3
 refine acalls_of prg Tryz.func66 rfl (by kernel_rfl) (congrArg Array.toList Tryz.results66) Tryz.ntmps66 (fun B hB=>fA ?_)
 refine Wk Y0 ?_
 refine cQ (c1 _) ?_
 refine Wk Y0 ?_
 refine aL fun b5 k_b5 o_b5=>?_
 refine Wk k_b5 ?_
 refine cQ (c2 _) ?_
 refine Wk Y0 ?_
 refine cQ (c3 _ _) ?_
 refine Wk Y0 ?_
 refine endq (S':=S) (sR Y0) (by rfl) (Sto.Sub.refl _).cons


theorem aMayKey (p wid:Int) (key:Bs) (S:Sto) (h0:0≤p) (h1:p≤1000000):ACalls Tryz.prog 64 [frD p wid,sD key] S (RetQ (bD (keyedB p key)) S):=by
 have f1:IntKind.i64.wrap (Int.tdiv p 16)=p / 16:=by rw [Int.tdiv_eq_ediv_of_nonneg h0,IntWalk.i64_in _ (by omega)]
 unfold keyedB
 cases key with
 | nil=>
  have d1:decide (((([]:Bs).length:Nat):Int) ≥ 1)=false:=rfl
  refine acalls_of prg Tryz.func64 rfl (by kernel_rfl) (congrArg Array.toList Tryz.results64) Tryz.ntmps64 (fun B hB=>fA ?_)
  refine Wk d1 ?_
  exact rE
 | cons b l=>
  have d1:decide (((l.length+1:Nat):Int) ≥ 1)=true:=decide_eq_true (by omega)
  have hb:(!((b::l) == []) && decide (((b::l).length:Int)≤p / 16))=decide (((l.length+1:Nat):Int)≤p / 16):=by simp
  rw [hb]
  refine acalls_of prg Tryz.func64 rfl (by kernel_rfl) (congrArg Array.toList Tryz.results64) Tryz.ntmps64 (fun B hB=>fA ?_)
  refine Wk (Yy d1 f1) ?_
  exact rE
theorem aRWay (n:Nd) (key:Bs) (S:Sto) (hn:n.seps.length≤140737488351232):ACalls Tryz.prog 102 [ndA n,sD key] S (RetQ (iD (wayL key n.seps:Nat)) S):=by
 refine acalls_of prg Tryz.func102 rfl (by kernel_rfl) (congrArg Array.toList Tryz.results102) Tryz.ntmps102 (fun B hB=>fA ?_)
 refine Wk Y0 ?_
 refine AW.loopS 6 [5] (fun xs S'=>∃ i:Nat,xs=[iD i]∧S'=S∧i≤n.seps.length∧wayL key (n.seps.drop i)+i=wayL key n.seps) (fun xs _=>n.seps.length - nI (xs.getD 0 .any)) [iD 0] S ?_ (Sto.Sub.refl _) ⟨0,rfl,rfl,by omega,by simp⟩ ?_
 ·exact wK
 rintro xs S' ⟨i,rfl,rfl,hi,hw⟩
 refine fR ?_
 by_cases hlt:i<n.seps.length
 ·obtain ⟨s,hs⟩:∃ s,n.seps[i]?=some s:=⟨_,List.getElem?_eq_getElem hlt⟩
  have d1:decide ((i:Int)<n.seps.length)=true:=decide_eq_true (by omega)
  have hg:(n.seps.map sD)[i]?=some (sD s):=by rw [List.getElem?_map,hs];rfl
  have c1:(0:Int)≤i:=by omega
  have f1:IntKind.i64.wrap ((i:Int)+1)=((i+1:Nat):Int):=IntWalk.i64_in _ (by omega)
  have hdr:n.seps.drop i=s::n.seps.drop (i+1):=by
   rw [List.drop_eq_getElem_cons hlt]
   congr 1
   exact Option.some.inj ((List.getElem?_eq_getElem hlt).symm.trans hs)
  rw [hdr] at hw
  cases hle:(Op.bytesLess s key || s == key)
  ·have e:wayL key (s::n.seps.drop (i+1))=0:=by unfold wayL leB;rw [hle];rfl
   rw [e] at hw
   rw [← hw,Nat.zero_add]
   refine Wk (Yy d1 (Yy hg (Yy c1 (Yy Int.toNat_natCast hle)))) ?_
   exact rE
  ·have e:wayL key (s::n.seps.drop (i+1))=wayL key (n.seps.drop (i+1))+1:=by
    show (if leB s key=true then _ else _)=_
    unfold leB;rw [if_pos hle]
   rw [e] at hw
   refine Wk (Yy d1 (Yy hg (Yy c1 (Yy Int.toNat_natCast (Yy hle f1))))) ?_
   refine ⟨[iD (i+1:Nat)],S',?_,Sto.Sub.refl _,⟨i+1,rfl,rfl,by omega,by omega⟩,?_⟩
   ·exact wK
   ·exact mE
 ·obtain rfl:i=n.seps.length:=by omega
  have d1:decide ((n.seps.length:Int)<n.seps.length)=false:=decide_eq_false (by omega)
  have e:wayL key (n.seps.drop n.seps.length)=0:=by rw [List.drop_length];rfl
  rw [e,Nat.zero_add] at hw
  rw [← hw]
  refine Wk d1 ?_
  exact rE
theorem aRFits (p:Int) (n:Nat) (d:Dg) (S:Sto) (h1:1≤n) (h2:n≤32):ACalls Tryz.prog 63 [frD p n,.dg d] S (RetQ (bD (fitB n d)) S):=by
 have hf:fitB n d=zeroFrom n d.l:=by
  unfold fitB
  rw [cut_zeros h2,decide_eq_true (by omega)]
  rfl
 rw [hf]
 have hdl:=d.h
 refine acalls_of prg Tryz.func63 rfl (by kernel_rfl) (congrArg Array.toList Tryz.results63) Tryz.ntmps63 (fun B hB=>fA ?_)
 refine Wk Y0 ?_
 refine AW.loopS 6 [5] (fun xs S'=>∃ i:Nat,xs=[iD i]∧S'=S∧n≤i∧i≤32∧zeroFrom n d.l=zeroFrom i d.l) (fun xs _=>32 - nI (xs.getD 0 .any)) [iD n] S ?_ (Sto.Sub.refl _) ⟨n,rfl,rfl,by omega,by omega,rfl⟩ ?_
 ·exact wK
 rintro xs S' ⟨i,rfl,rfl,hi1,hi2,hz⟩
 refine fR ?_
 by_cases hlt:i<32
 ·obtain ⟨b,hb⟩:∃ b,d.l[i]?=some b:=⟨_,List.getElem?_eq_getElem (by omega)⟩
  have d1:decide ((i:Int)<32)=true:=decide_eq_true (by omega)
  have c1:(0:Int)≤i:=by omega
  have f1:IntKind.i64.wrap ((i:Int)+1)=((i+1:Nat):Int):=IntWalk.i64_in _ (by omega)
  rw [zeroFrom_step hb] at hz
  by_cases hb0:b=0
  ·subst hb0
   have z0:(((0:UInt8).toNat:Int) != 0)=false:=rfl
   refine Wk (Yy d1 (Yy hb (Yy c1 (Yy Int.toNat_natCast (Yy z0 f1))))) ?_
   refine ⟨[iD (i+1:Nat)],S',?_,Sto.Sub.refl _,⟨i+1,rfl,rfl,by omega,by omega,by rw [hz];rfl⟩,?_⟩
   ·exact wK
   ·exact mE
  ·have z0:((b.toNat:Int) != 0)=true:=by
    simp only [bne_iff_ne,ne_eq]
    intro h
    exact hb0 (UInt8.toNat.inj (by simpa using h))
   have z1:(b == 0)=false:=beq_eq_false_iff_ne.2 hb0
   rw [z1,Bool.false_and] at hz
   rw [hz]
   refine Wk (Yy d1 (Yy hb (Yy c1 (Yy Int.toNat_natCast (Yy z0 f1))))) ?_
   exact rE
 ·obtain rfl:i=32:=by omega
  have d1:decide (((32:Nat):Int)<32)=false:=rfl
  rw [← hdl,zeroFrom_end] at hz
  rw [hz]
  refine Wk d1 ?_
  exact rE


theorem less_irrefl:∀ s:Bs,Op.bytesLess s s=false
 | []=>rfl
 | a::x=>by
  have:=less_irrefl x
  unfold Op.bytesLess
  simp [this]
theorem less_trans:∀ {x y z:Bs},Op.bytesLess x y=true→Op.bytesLess y z=true→Op.bytesLess x z=true
 | [],[],_,h,_=>by cases h
 | [],_::_,[],_,h=>by cases h
 | [],_::_,_::_,_,_=>rfl
 | _::_,[],_,h,_=>by cases h
 | _::_,_::_,[],_,h=>by cases h
 | a::x,b::y,c::z,h,g=>by
  unfold Op.bytesLess at h g ⊢
  simp only [Bool.or_eq_true,decide_eq_true_eq,Bool.and_eq_true,beq_iff_eq] at h g ⊢
  rcases h with h | ⟨rfl,h⟩
  ·rcases g with g | ⟨rfl,g⟩
   ·exact .inl (UInt8.lt_trans h g)
   ·exact .inl h
  ·rcases g with g | ⟨rfl,g⟩
   ·exact .inl g
   ·exact .inr ⟨rfl,less_trans h g⟩
@[go_sem] def bdD (lo hi:Option Bs):D:=.agg [sD (lo.getD []),sD (hi.getD []),bD lo.isSome,bD hi.isSome]
def outK (lo hi:Option Bs) (s:Bs):Bool:=(lo.isSome && Op.bytesLess s (lo.getD [])) || (hi.isSome && !(Op.bytesLess s (hi.getD [])))
def outS (lo hi:Option Bs) (s:Bs):Bool:=(lo.isSome && (Op.bytesLess s (lo.getD []) || s == lo.getD [])) || (hi.isSome && !(Op.bytesLess s (hi.getD [])))
theorem outK_in (lo hi:Option Bs) (s:Bs):outK lo hi s=!inB lo hi s false:=by
 unfold outK inB lowB highB
 have key:∀ l:Bs,(!(Op.bytesLess s l || s == l) || (!false && s == l))=!Op.bytesLess s l:=fun l=>by
  by_cases h:s=l
  ·subst h;simp [less_irrefl]
  ·have:(s == l)=false:=beq_eq_false_iff_ne.2 h
   rw [this];simp
 cases lo with
 | none=>cases hi <;> simp
 | some l=>
  simp only [key]
  cases hi <;> simp
theorem outS_in (lo hi:Option Bs) (s:Bs):outS lo hi s=!inB lo hi s true:=by
 unfold outS inB lowB highB
 cases lo <;> cases hi <;> simp

theorem aKept0 (a c:Bool) (l h:Bs) (n:Nd) (S:Sto) (ho:NdOk n):ACalls Tryz.prog 100 [.agg [sD l,sD h,bD a,bD c],ndA n] S
  (RetQ (bD ((n.pairs.all fun q=>!((a && Op.bytesLess q.1 l) || (c && !Op.bytesLess q.1 h))) && (n.seps.all fun s=>!((a && (Op.bytesLess s l || s == l)) || (c && !Op.bytesLess s h))))) S):=by
 have hnp:=ho.np
 have hns:=ho.ns
 obtain ⟨G,hG⟩:∃ G,((n.pairs.all fun q=>!((a && Op.bytesLess q.1 l) || (c && !Op.bytesLess q.1 h))) && (n.seps.all fun s=>!((a && (Op.bytesLess s l || s == l)) || (c && !Op.bytesLess s h))))=G:=⟨_,rfl⟩
 rw [hG]
 refine acalls_of prg Tryz.func100 rfl (by kernel_rfl) (congrArg Array.toList Tryz.results100) Tryz.ntmps100 (fun B hB=>fA ?_)
 refine Wk Y0 ?_
 refine AW.loopS 7 [5] (fun xs S'=>∃ i:Nat,xs=[iD i]∧S'=S∧i≤n.pairs.length∧∀ q∈n.pairs.take i,(!((a && Op.bytesLess q.1 l) || (c && !Op.bytesLess q.1 h)))=true) (fun xs _=>n.pairs.length - nI (xs.getD 0 .any)) [iD 0] S ?_ (Sto.Sub.refl _) ⟨0,rfl,rfl,by omega,by simp⟩ ?_
 ·exact wK
 rintro xs S' ⟨i,rfl,rfl,hi1,hq⟩
 refine fR ?_
 by_cases hlt:i<n.pairs.length
 ·obtain ⟨x,hx⟩:∃ x,n.pairs[i]?=some x:=⟨_,List.getElem?_eq_getElem hlt⟩
  have d1:decide ((i:Int)<n.pairs.length)=true:=decide_eq_true (by omega)
  have hgt:(n.pairs.map prD)[i]?=some (prD x):=by rw [List.getElem?_map,hx];rfl
  have g0:(0:Int)≤i:=by omega
  have f1:IntKind.i64.wrap ((i:Int)+1)=((i+1:Nat):Int):=IntWalk.i64_in _ (by omega)
  by_cases hout:((a && Op.bytesLess x.1 l) || (c && !Op.bytesLess x.1 h))=true
  ·have hf:G=false:=by
    rw [← hG,Bool.and_eq_false_iff]
    left
    rw [List.all_eq_false]
    exact ⟨x,List.mem_of_getElem? hx,by rw [hout];simp⟩
   subst hf
   clear hG hq
   cases a <;> cases hb:Op.bytesLess x.1 l <;> cases c <;> cases hd:Op.bytesLess x.1 h <;> (first | exact absurd hout (by rw [hb,hd];decide) | skip)
   all_goals refine Wk (Yy d1 (Yy hgt (Yy g0 (Yy Int.toNat_natCast (Yy hb hd))))) ?_
   all_goals exact rE
  ·have hin:∀ q∈n.pairs.take (i+1),(!((a && Op.bytesLess q.1 l) || (c && !Op.bytesLess q.1 h)))=true:=fun q hmem=>by
    rw [List.take_add_one,hx] at hmem
    rcases List.mem_append.1 hmem with h1 | h1
    ·exact hq q h1
    ·simp only [Option.toList_some,List.mem_singleton] at h1;subst h1;rw [(Bool.not_eq_true _).mp hout];rfl
   clear hG hq
   have hout:((a && Op.bytesLess x.1 l) || (c && !Op.bytesLess x.1 h))=false:=(Bool.not_eq_true _).mp hout
   cases a <;> cases hb:Op.bytesLess x.1 l <;> cases c <;> cases hd:Op.bytesLess x.1 h <;> (first | exact absurd hout (by rw [hb,hd];decide) | skip)
   all_goals refine Wk (Yy d1 (Yy hgt (Yy g0 (Yy Int.toNat_natCast (Yy hb (Yy hd f1)))))) ?_
   all_goals refine ⟨[iD (i+1:Nat)],S',?_,Sto.Sub.refl _,⟨i+1,rfl,rfl,by omega,hin⟩,by exact mE⟩
   all_goals exact wK
 obtain rfl:i=n.pairs.length:=by omega
 have d1:decide ((n.pairs.length:Int)<n.pairs.length)=false:=decide_eq_false (by omega)
 rw [List.take_length] at hq
 rw [List.all_eq_true.2 hq,Bool.true_and] at hG
 refine Wk d1 ?_
 refine AW.loopS 7 [6] (fun xs S2=>∃ i:Nat,xs=[iD i]∧S2=S'∧i≤n.seps.length∧∀ s∈n.seps.take i,(!((a && (Op.bytesLess s l || s == l)) || (c && !Op.bytesLess s h)))=true) (fun xs _=>n.seps.length - nI (xs.getD 0 .any)) [iD 0] S' ?_ (Sto.Sub.refl _) ⟨0,rfl,rfl,by omega,by simp⟩ ?_
 ·exact wK
 rintro xs S2 ⟨i,rfl,rfl,hi1,hq2⟩
 refine fR ?_
 by_cases hlt:i<n.seps.length
 ·obtain ⟨x,hx⟩:∃ x,n.seps[i]?=some x:=⟨_,List.getElem?_eq_getElem hlt⟩
  have d1:decide ((i:Int)<n.seps.length)=true:=decide_eq_true (by omega)
  have hgt:(n.seps.map sD)[i]?=some (sD x):=by rw [List.getElem?_map,hx];rfl
  have g0:(0:Int)≤i:=by omega
  have f1:IntKind.i64.wrap ((i:Int)+1)=((i+1:Nat):Int):=IntWalk.i64_in _ (by omega)
  by_cases hout:((a && (Op.bytesLess x l || x == l)) || (c && !Op.bytesLess x h))=true
  ·have hf:G=false:=by
    rw [← hG,List.all_eq_false]
    exact ⟨x,List.mem_of_getElem? hx,by rw [hout];simp⟩
   subst hf
   clear hG hq hq2
   cases a <;> cases hb:(Op.bytesLess x l || x == l) <;> cases c <;> cases hd:Op.bytesLess x h <;> (first | exact absurd hout (by rw [hb,hd];decide) | skip)
   all_goals refine Wk (Yy d1 (Yy hgt (Yy g0 (Yy Int.toNat_natCast (Yy hb hd))))) ?_
   all_goals exact rE
  ·have hin:∀ s∈n.seps.take (i+1),(!((a && (Op.bytesLess s l || s == l)) || (c && !Op.bytesLess s h)))=true:=fun q hmem=>by
    rw [List.take_add_one,hx] at hmem
    rcases List.mem_append.1 hmem with h1 | h1
    ·exact hq2 q h1
    ·simp only [Option.toList_some,List.mem_singleton] at h1;subst h1;rw [(Bool.not_eq_true _).mp hout];rfl
   clear hG hq hq2
   have hout:((a && (Op.bytesLess x l || x == l)) || (c && !Op.bytesLess x h))=false:=(Bool.not_eq_true _).mp hout
   cases a <;> cases hb:(Op.bytesLess x l || x == l) <;> cases c <;> cases hd:Op.bytesLess x h <;> (first | exact absurd hout (by rw [hb,hd];decide) | skip)
   all_goals refine Wk (Yy d1 (Yy hgt (Yy g0 (Yy Int.toNat_natCast (Yy hb (Yy hd f1)))))) ?_
   all_goals refine ⟨[iD (i+1:Nat)],S2,?_,Sto.Sub.refl _,⟨i+1,rfl,rfl,by omega,hin⟩,by exact mE⟩
   all_goals exact wK
 obtain rfl:i=n.seps.length:=by omega
 have d1:decide ((n.seps.length:Int)<n.seps.length)=false:=decide_eq_false (by omega)
 rw [List.take_length] at hq2
 rw [List.all_eq_true.2 hq2] at hG
 subst hG
 refine Wk d1 ?_
 exact rE
theorem aKept (lo hi:Option Bs) (n:Nd) (S:Sto) (ho:NdOk n):ACalls Tryz.prog 100 [bdD lo hi,ndA n] S (RetQ (bD (keptB lo hi n)) S):=by
 have:=aKept0 lo.isSome hi.isSome (lo.getD []) (hi.getD []) n S ho
 have e1:(fun q:Pr=>!((lo.isSome && Op.bytesLess q.1 (lo.getD [])) || (hi.isSome && !Op.bytesLess q.1 (hi.getD []))))=fun q=>inB lo hi q.1 false:=by
  funext q;have:=outK_in lo hi q.1;unfold outK at this;rw [this,Bool.not_not]
 have e2:(fun s:Bs=>!((lo.isSome && (Op.bytesLess s (lo.getD []) || s == lo.getD [])) || (hi.isSome && !Op.bytesLess s (hi.getD []))))=fun s=>inB lo hi s true:=by
  funext q;have:=outS_in lo hi q;unfold outS at this;rw [this,Bool.not_not]
 rw [e1,e2] at this
 exact this


def belowLo (lo:Option Bs) (n:Nd) (w:Nat):Option Bs:=if 0<w then n.seps[w - 1]? else lo
def belowHi (hi:Option Bs) (n:Nd) (w:Nat):Option Bs:=if w<n.seps.length then n.seps[w]? else hi
theorem aBelow (lo hi:Option Bs) (n:Nd) (w:Nat) (S:Sto) (ho:NdOk n) (hw:w≤n.seps.length):ACalls Tryz.prog 103 [bdD lo hi,ndA n,iD w] S (RetQ (bdD (belowLo lo n w) (belowHi hi n w)) S):=by
 have hns:=ho.ns
 have e0:(0:Int)≤w:=by omega
 have fin:∀ (lo2 hi2:Option Bs),belowLo lo n w=lo2→belowHi hi n w=hi2→bdD (belowLo lo n w) (belowHi hi n w)=.agg [sD (lo2.getD []),sD (hi2.getD []),bD lo2.isSome,bD hi2.isSome]:=fun _ _ h1 h2=>by rw [h1,h2];rfl
 by_cases h1:0<w
 ·obtain ⟨x,hx⟩:∃ x,n.seps[w - 1]?=some x:=⟨_,List.getElem?_eq_getElem (by omega)⟩
  have hl:belowLo lo n w=some x:=by unfold belowLo;rw [if_pos h1,hx]
  have d1:decide ((w:Int) > 0)=true:=decide_eq_true (by omega)
  have f1:IntKind.i64.wrap ((w:Int) - 1)=((w - 1:Nat):Int):=by rw [IntWalk.i64_in _ (by omega)];omega
  have g1:(n.seps.map sD)[w - 1]?=some (sD x):=by rw [List.getElem?_map,hx];rfl
  have g0:(0:Int)≤((w - 1:Nat):Int):=by omega
  by_cases h2:w<n.seps.length
  ·obtain ⟨y,hy⟩:∃ y,n.seps[w]?=some y:=⟨_,List.getElem?_eq_getElem h2⟩
   have hh:belowHi hi n w=some y:=by unfold belowHi;rw [if_pos h2,hy]
   have d2:decide ((w:Int)<n.seps.length)=true:=decide_eq_true (by omega)
   have g2:(n.seps.map sD)[w]?=some (sD y):=by rw [List.getElem?_map,hy];rfl
   rw [fin _ _ hl hh]
   refine acalls_of prg Tryz.func103 rfl (by kernel_rfl) (congrArg Array.toList Tryz.results103) Tryz.ntmps103 (fun B hB=>fA ?_)
   refine w3 ?_
   refine w4 ?_
   refine aB fun b3 k_b3 o_b3=>?_
   refine Wk Y0 ?_
   refine aL fun b6 k_b6 o_b6=>?_
   have n3:=nes k_b6.1
   refine Wk (Yy d1 (Yy f1 (Yy g1 (Yy g0 (Yy e0 (Yy d2 (Yy g2 (Yy k_b6 (Yy n3 Int.toNat_natCast))))))))) ?_
   refine endq (S':=S) (sR Y0) (by rfl) (Sto.Sub.refl _).cons.cons
  ·have hh:belowHi hi n w=hi:=by unfold belowHi;rw [if_neg h2]
   have d2:decide ((w:Int)<n.seps.length)=false:=decide_eq_false (by omega)
   rw [fin _ _ hl hh]
   refine acalls_of prg Tryz.func103 rfl (by kernel_rfl) (congrArg Array.toList Tryz.results103) Tryz.ntmps103 (fun B hB=>fA ?_)
   refine w3 ?_
   refine w4 ?_
   refine aB fun b3 k_b3 o_b3=>?_
   refine Wk Y0 ?_
   refine aL fun b6 k_b6 o_b6=>?_
   have n3:=nes k_b6.1
   refine Wk (Yy d1 (Yy f1 (Yy g1 (Yy g0 (Yy e0 (Yy d2 (Yy k_b6 (Yy n3 Int.toNat_natCast)))))))) ?_
   refine endq (S':=S) (sR Y0) (by rfl) (Sto.Sub.refl _).cons.cons
 ·have hl:belowLo lo n w=lo:=by unfold belowLo;rw [if_neg h1]
  have d1:decide ((w:Int) > 0)=false:=decide_eq_false (by omega)
  by_cases h2:w<n.seps.length
  ·obtain ⟨y,hy⟩:∃ y,n.seps[w]?=some y:=⟨_,List.getElem?_eq_getElem h2⟩
   have hh:belowHi hi n w=some y:=by unfold belowHi;rw [if_pos h2,hy]
   have d2:decide ((w:Int)<n.seps.length)=true:=decide_eq_true (by omega)
   have g2:(n.seps.map sD)[w]?=some (sD y):=by rw [List.getElem?_map,hy];rfl
   rw [fin _ _ hl hh]
   refine acalls_of prg Tryz.func103 rfl (by kernel_rfl) (congrArg Array.toList Tryz.results103) Tryz.ntmps103 (fun B hB=>fA ?_)
   refine w3 ?_
   refine w4 ?_
   refine aB fun b3 k_b3 o_b3=>?_
   refine Wk Y0 ?_
   refine aL fun b6 k_b6 o_b6=>?_
   have n3:=nes k_b6.1
   refine Wk (Yy d1 (Yy e0 (Yy d2 (Yy g2 (Yy k_b6 (Yy n3 Int.toNat_natCast)))))) ?_
   refine endq (S':=S) (sR Y0) (by rfl) (Sto.Sub.refl _).cons.cons
  ·have hh:belowHi hi n w=hi:=by unfold belowHi;rw [if_neg h2]
   have d2:decide ((w:Int)<n.seps.length)=false:=decide_eq_false (by omega)
   rw [fin _ _ hl hh]
   refine acalls_of prg Tryz.func103 rfl (by kernel_rfl) (congrArg Array.toList Tryz.results103) Tryz.ntmps103 (fun B hB=>fA ?_)
   refine w3 ?_
   refine w4 ?_
   refine aB fun b3 k_b3 o_b3=>?_
   refine Wk Y0 ?_
   refine aL fun b6 k_b6 o_b6=>?_
   have n3:=nes k_b6.1
   refine Wk (Yy d1 (Yy d2 (Yy k_b6 (Yy n3 Int.toNat_natCast)))) ?_
   refine endq (S':=S) (sR Y0) (by rfl) (Sto.Sub.refl _).cons.cons


theorem aREnd (b:Nat) (s:Bs) (o:Option Bs) (S:Sto) (h:RrSt S b s o) (hs:s.length≤140737488351232) :
  ACalls Tryz.prog 73 [pD b] S (fun e S'=>∃ d,e=.ret d∧((∃ c k:Int,d=.tup [iD c,iD k]∧(o=some []→c=0∧k=0)∧(o≠some []→c≠0))∧S'=S)):=by
 obtain ⟨t,p,c,hb,hr⟩:=h
 refine acalls_of prg Tryz.func73 rfl (by kernel_rfl) (congrArg Array.toList Tryz.results73) Tryz.ntmps73 (fun B hB=>fA ?_)
 cases o with
 | none=>
  obtain ⟨hc,k,rfl,hk⟩:=hr
  have d1:(c != 0)=true:=bne_iff_ne.2 hc
  refine Wk (Yy hb d1) ?_
  refine endx (sR Y0) (by rfl) (Sto.Sub.refl _) ⟨⟨c,k,rfl,fun h=>(by cases h),fun _=>hc⟩,rfl⟩
 | some l=>
  obtain ⟨rfl,k,rfl,hk,hl⟩:=hr
  have d1:((0:Int) != 0)=false:=rfl
  have cl:=aLeft b s k 0 S t hb (by omega) (by omega) hs
  by_cases h0:l.length=0
  ·have d2:decide ((s.length:Int) - k > 0)=false:=decide_eq_false (by omega)
   refine Wk (Yy hb d1) ?_
   refine cQ (cl) ?_
   refine Wk (Yy hb d2) ?_
   refine endx (sR Y0) (by rfl) (Sto.Sub.refl _) ⟨⟨0,0,rfl,fun _=>⟨rfl,rfl⟩,fun h=>absurd (by rw [List.length_eq_zero_iff.1 h0]) h⟩,rfl⟩
  ·have d2:decide ((s.length:Int) - k > 0)=true:=decide_eq_true (by omega)
   refine Wk (Yy hb d1) ?_
   refine cQ (cl) ?_
   refine Wk (Yy hb d2) ?_
   refine endx (sR Y0) (by rfl) (Sto.Sub.refl _) ⟨⟨13,k,rfl,fun h=>(by simp only [Option.some.injEq] at h;rw [h] at h0;exact absurd rfl h0),fun _=>by decide⟩,rfl⟩

def splitR (s:Bs) (d:D):Prop:=
 match splitP s with
 | some ts=>d=.tup [.sl .none (ts.map sD),iD 0,iD 0]
 | none=>∃ c k:Int,c≠0∧d=.tup [.sl .none [],iD c,iD k]
theorem aRSplit (s:Bs) (S:Sto) (hs:s.length≤3909374676453):ACalls Tryz.prog 40 [sD s] S (fun e S'=>∃ d,e=.ret d∧splitR s d∧S'=S):=by
 have hs2:s.length≤140737488351232:=by omega
 refine acalls_of prg Tryz.func40 rfl (by kernel_rfl) (congrArg Array.toList Tryz.results40) Tryz.ntmps40 (fun B hB=>fA ?_)
 refine w3 ?_
 refine w4 ?_
 refine gG Y0 ?_
 refine w6 ?_
 refine w3 ?_
 refine w4 ?_
 apply AOps.goN prg 2;case run=>(simp only [go_sem,Int.reduceEq,Int.reduceLT,Int.reduceBEq,Int.reduceBNe,Int.reduceNe,Nat.reduceLeDiff,Nat.reduceAdd,Nat.reduceSub,Nat.reduceLT,Nat.reduceEqDiff,Nat.reduceBEq,Int.reduceLE,Int.reduceToNat];rfl)
 refine aB fun b k_b o_b=>?_
 refine Wk Y0 ?_
 obtain ⟨S0,hS0⟩:∃ S0:Sto,(⟨(b,131,rrD s 0 0)::S.bk,S.ow⟩:Sto)=S0:=⟨_,rfl⟩
 have h0:RrSt S0 b s (some s):=⟨131,0,0,by rw [← hS0];simp only [getM_cons,if_true],rfl,0,rfl,by omega,rfl⟩
 have hsub:∀ (bk:List (Nat×TypeId×D)) (ow:List (Nat×Nat)) o,RrTo S0 b s o ⟨bk,S.ow⟩→List.Sublist S.ow ow→S.Sub ⟨bk,ow⟩:=fun bk ow o h hw=>by
  obtain ⟨p,c,h2,_⟩:=h
  rw [← hS0] at h2
  simp only [setM_cons,if_true,Sto.mk.injEq] at h2
  rw [h2.1]
  exact ⟨(List.Sublist.refl _).cons _,hw⟩
 have how:S0.ow=S.ow:=by rw [← hS0]
 rw [show (D.agg [sD s,iD 0,iD 0])=rrD s 0 0 from rfl,hS0]
 refine cX (aCount b 9223372036854775807 s _ _ h0 hs2 (by omega)) ?_
 rintro d S1 ⟨rfl,hS1⟩
 have h1:=hS1.st h0
 have how1:S1.ow=S.ow:=by obtain ⟨_,_,rfl,_⟩:=hS1;exact how
 obtain ⟨n,hn⟩:∃ n,gv (countP 9223372036854775807) 0 (some s)=n:=⟨_,rfl⟩
 obtain ⟨o1,ho1⟩:∃ o,gr (countP 9223372036854775807) (some s)=o:=⟨_,rfl⟩
 have hnl:n≤s.length∧(o1=none→n=0)∧listS s=(match o1 with | some l=>strsP 9223372036854775807 n l | none=>none):=by
  unfold listS
  cases hc:countP 9223372036854775807 s with
  | none=>rw [gv_none hc] at hn;rw [gr_none hc] at ho1;subst hn;subst ho1;exact ⟨by omega,fun _=>rfl,rfl⟩
  | some r=>
   obtain ⟨m,l⟩:=r
   rw [gv_some hc] at hn;rw [gr_some hc] at ho1;subst hn;subst ho1
   refine ⟨?_,(fun h=>(by cases h)),rfl⟩
   unfold countP at hc
   split at hc
   ·cases hc
   ·rename_i a l2 hf
    have:=freeP_shr hf
    split at hc
    ·simp only [Option.some.injEq,Prod.mk.injEq] at hc;omega
    ·cases hc
 rw [hn]
 rw [ho1] at hS1 h1
 obtain ⟨hnl,hn0,hls⟩:=hnl
 refine Wk Y0 ?_
 refine AW.loopS 12 [7,8,9] (fun xs S'=>∃ (i:Nat) (ts:List Bs) (o:Option Bs) (tg:Tag),xs=[.sl tg (ts.map sD),iD i,.any]∧RrTo S0 b s o ⟨S'.bk,S.ow⟩∧i≤n∧ts.length=i∧listS s=(match o with | some l=>(strsP 9223372036854775807 (n - i) l).map fun r:List Bs×Bs=>(ts++r.1,r.2) | none=>none)∧G1 S.ow S'.ow 9 1 tg (ts.map sD)) (fun xs _=>n - nI (xs.getD 1 .any)) [.sl .nil [],iD 0,.any] S1 ?_ (Sto.Sub.refl _) ?_ ?_
 ·exact wK
 ·refine ⟨0,[],o1,.nil,rfl,by rw [← how1];exact hS1,by omega,rfl,?_,by rw [how1];exact G1.nil _ _ _⟩
  rw [hls];cases o1 <;> simp
 rintro xs S' ⟨i,ts,o,tg,rfl,hP,hi,hts,hst,hg⟩
 refine fR ?_
 have hPS:RrSt S' b s o:=by
  obtain ⟨t0,p0,c0,hb0,_⟩:=h0
  obtain ⟨p,c,h1,h2⟩:=hP
  simp only [Sto.mk.injEq] at h1
  exact ⟨t0,p,c,by rw [h1.1,getM_setM,hb0];rfl,h2⟩
 have hPS2:=hPS
 obtain ⟨t2,p2,c2,hb2,hr2⟩:=hPS2
 by_cases hin:i<n∧o≠none
 ·obtain ⟨hin,hon⟩:=hin
  obtain ⟨l,rfl⟩:=Option.ne_none_iff_exists'.1 hon
  obtain ⟨rfl,hr2⟩:=hr2
  have d1:decide ((i:Int)<n)=true:=decide_eq_true (by omega)
  have z0:((0:Int) == 0)=true:=rfl
  have f1:IntKind.i64.wrap ((i:Int)+1)=((i+1:Nat):Int):=IntWalk.i64_in _ (by omega)
  refine Wk (Yy d1 (Yy hb2 z0)) ?_
  refine cX (aText b 9223372036854775807 s _ _ hPS hs2 (by omega)) ?_
  rintro d S2 ⟨rfl,hS2⟩
  have hT:RrTo S0 b s (gr (textP 9223372036854775807) (some l)) ⟨S2.bk,S.ow⟩:=by
   obtain ⟨p,c,h1,_⟩:=hP
   obtain ⟨p',c',h2,h3⟩:=hS2
   simp only [Sto.mk.injEq] at h1
   exact ⟨p',c',by rw [h2,h1.1,setM_setM,how],h3⟩
  have ho2:S2.ow=S'.ow:=by obtain ⟨_,_,rfl,_⟩:=hS2;rfl
  have hg2:G1 S.ow S2.ow 9 1 tg (ts.map sD):=by rw [ho2];exact hg
  obtain ⟨m,hm⟩:∃ m,n - i=m+1:=⟨n - i - 1,by omega⟩
  have hnx:listS s=(match gr (textP 9223372036854775807) (some l) with | some l2=>(strsP 9223372036854775807 (n - (i+1)) l2).map fun r:List Bs×Bs=>(ts++[gv (textP 9223372036854775807) [] (some l)]++r.1,r.2) | none=>none):=by
   rw [hst,hm,show n - (i+1)=m by omega]
   simp only []
   cases ht:textP 9223372036854775807 l with
   | none=>rw [gr_none ht,strsP_none ht];rfl
   | some r=>
    obtain ⟨t,l2⟩:=r
    rw [gr_some ht,gv_some ht,strsP_some ht]
    simp only [Option.map_map]
    congr 1
    funext r
    simp
  generalize gv (textP 9223372036854775807) [] (some l)=t9 at hnx ⊢
  generalize gr (textP 9223372036854775807) (some l)=o9 at hnx hT
  refine Wk Y0 ?_
  refine wap 9 1 16 ?_ ?_ ?_ (fun g _ hgo=>?_)
  ·exact sz_map (f:=sD) (fun _=>rfl) (fun d hd=>by simp only [List.mem_singleton] at hd;subst hd;rfl)
  ·exact hg2.may
  ·rw [List.length_map];simp only [List.length_singleton];omega
  have hg3:=hg2.add (ns:=[sD t9]) hgo
  refine Wk f1 ?_
  refine ⟨[.sl (.own g 9 1) ((ts++[t9]).map sD),iD (i+1:Nat),.any],_,?_,Sto.Sub.refl _,⟨i+1,ts++[t9],o9,_,rfl,hT,by omega,by simp [hts],hnx,?_⟩,?_⟩
  ·simp only [List.map_append,List.map_cons,List.map_nil]
   exact wK
  ·rw [List.map_append];exact hg3
  ·exact mE
 ·have cE:=aREnd b s o S' hPS hs2
  have hsubE:=hsub S'.bk S'.ow o hP hg.sub
  by_cases hlt:i<n
  ·have hon:o=none:=Classical.byContradiction fun q=>hin ⟨hlt,q⟩
   subst hon
   have d1:decide ((i:Int)<n)=true:=decide_eq_true (by omega)
   have z0:(c2 == 0)=false:=beq_eq_false_iff_ne.2 hr2.1
   have hsp:splitP s=none:=by unfold splitP;rw [hst]
   refine Wk (Yy d1 (Yy hb2 z0)) ?_
   refine cX (cE) ?_
   rintro d S2 ⟨⟨c,k,rfl,_,hc⟩,rfl⟩
   have hc:=hc (by simp)
   have z1:(c != 0)=true:=bne_iff_ne.2 hc
   refine Wk z1 ?_
   refine endu (sR Y0) (by rfl) hsubE ⟨?_,rfl⟩
   unfold splitR;rw [hsp];exact ⟨c,k,hc,rfl⟩
  ·have d1:decide ((i:Int)<n)=false:=decide_eq_false (by omega)
   refine Wk d1 ?_
   refine cX (cE) ?_
   rintro d S2 ⟨⟨c,k,rfl,hz,hc⟩,rfl⟩
   have hni:n - i=0:=by omega
   by_cases ho:o=some []
   ·subst ho
    obtain ⟨rfl,rfl⟩:=hz rfl
    have hsp:splitP s=some ts:=by unfold splitP;rw [hst,hni];simp [strsP]
    have z1:((0:Int) != 0)=false:=rfl
    refine Wk z1 ?_
    refine endu (sR Y0) (by rfl) hsubE ⟨?_,rfl⟩
    unfold splitR;rw [hsp];rfl
   ·have hc:=hc ho
    have z1:(c != 0)=true:=bne_iff_ne.2 hc
    have hsp:splitP s=none:=by
     unfold splitP;rw [hst,hni]
     cases o with
     | none=>rfl
     | some l=>
      cases l with
      | nil=>exact absurd rfl ho
      | cons x l=>rfl
    refine Wk z1 ?_
    refine endu (sR Y0) (by rfl) hsubE ⟨?_,rfl⟩
    unfold splitR;rw [hsp];exact ⟨c,k,hc,rfl⟩


def firstR (p wid:Int):List Bs→List Bs→(Bs×Bs)×Int
 | x::a,y::b=>if x≠y then ((textR p wid x,textR p wid y),0) else firstR p wid a b
 | _,_=>(([],[]),171)
theorem aFirst (p wid:Int) (a b:List Bs) (S:Sto) (ha:∀ x∈a,x.length≤1048576) (hb:∀ x∈b,x.length≤1048576) (hal:a.length≤2000000) (hbl:b.length≤2000000) :
  ACalls Tryz.prog 33 [frD p wid,.sl .none (a.map sD),.sl .none (b.map sD)] S (RetQ (.tup [clD (firstR p wid a b).1,iD (firstR p wid a b).2]) S):=by
 obtain ⟨G,hG⟩:∃ G,firstR p wid a b=G:=⟨_,rfl⟩
 rw [hG]
 refine acalls_of prg Tryz.func33 rfl (by kernel_rfl) (congrArg Array.toList Tryz.results33) Tryz.ntmps33 (fun B hB=>fA ?_)
 refine Wk Y0 ?_
 refine aL fun b6 k_b6 o_b6=>?_
 refine Wk Y0 ?_
 refine AW.loopS 9 [8] (fun xs S'=>∃ i:Nat,xs=[iD i]∧S'=⟨(b6,26,clD ([],[]))::S.bk,S.ow⟩∧i≤a.length∧i≤b.length∧firstR p wid (a.drop i) (b.drop i)=G) (fun xs _=>a.length - nI (xs.getD 0 .any)) [iD 0] _ ?_ (Sto.Sub.refl _) ⟨0,rfl,rfl,by omega,by omega,hG⟩ ?_
 ·exact wK
 rintro xs S' ⟨i,rfl,rfl,hi1,hi2,hf⟩
 refine fR ?_
 by_cases h1:i<a.length
 case neg=>
  have d1:decide ((i:Int)<a.length)=false:=decide_eq_false (by omega)
  have hr:firstR p wid (a.drop i) (b.drop i)=(([],[]),171):=by rw [List.drop_eq_nil_of_le (by omega:a.length≤i)];rfl
  rw [hr] at hf
  subst hf
  refine Wk d1 ?_
  refine endq (S':=S) (sR Y0) (by rfl) (Sto.Sub.refl _).cons
 have d1:decide ((i:Int)<a.length)=true:=decide_eq_true (by omega)
 by_cases h2:i<b.length
 case neg=>
  have d2:decide ((i:Int)<b.length)=false:=decide_eq_false (by omega)
  have hr:firstR p wid (a.drop i) (b.drop i)=(([],[]),171):=by rw [List.drop_eq_nil_of_le (by omega:b.length≤i)];cases a.drop i <;> rfl
  rw [hr] at hf
  subst hf
  refine Wk (Yy d1 d2) ?_
  refine endq (S':=S) (sR Y0) (by rfl) (Sto.Sub.refl _).cons
 have d2:decide ((i:Int)<b.length)=true:=decide_eq_true (by omega)
 obtain ⟨x,hx⟩:∃ x,a[i]?=some x:=⟨_,List.getElem?_eq_getElem h1⟩
 obtain ⟨y,hy⟩:∃ y,b[i]?=some y:=⟨_,List.getElem?_eq_getElem h2⟩
 have gx:(a.map sD)[i]?=some (sD x):=by rw [List.getElem?_map,hx];rfl
 have gy:(b.map sD)[i]?=some (sD y):=by rw [List.getElem?_map,hy];rfl
 have g0:(0:Int)≤i:=by omega
 have f1:IntKind.i64.wrap ((i:Int)+1)=((i+1:Nat):Int):=IntWalk.i64_in _ (by omega)
 have hdx:a.drop i=x::a.drop (i+1):=by
  rw [List.drop_eq_getElem_cons h1];congr 1;exact Option.some.inj ((List.getElem?_eq_getElem h1).symm.trans hx)
 have hdy:b.drop i=y::b.drop (i+1):=by
  rw [List.drop_eq_getElem_cons h2];congr 1;exact Option.some.inj ((List.getElem?_eq_getElem h2).symm.trans hy)
 have hr:firstR p wid (a.drop i) (b.drop i)=if x≠y then ((textR p wid x,textR p wid y),0) else firstR p wid (a.drop (i+1)) (b.drop (i+1)):=by rw [hdx,hdy];rfl
 rw [hr] at hf
 by_cases hxy:x=y
 ·rw [if_neg (fun h=>h hxy)] at hf
  have z0:(!(x == y))=false:=by simpa using hxy
  refine Wk (Yy d1 (Yy d2 (Yy gx (Yy gy (Yy g0 (Yy Int.toNat_natCast (Yy z0 f1))))))) ?_
  refine ⟨[iD (i+1:Nat)],⟨_,S.ow⟩,?_,Sto.Sub.refl _,⟨i+1,rfl,rfl,by omega,by omega,hf⟩,?_⟩
  ·exact wK
  ·exact mE
 ·rw [if_pos hxy] at hf
  subst hf
  have z0:(!(x == y))=true:=by simpa using hxy
  have c1:=fun S=>aRCText p wid x S (ha x (List.mem_of_getElem? hx))
  have c2:=fun S=>aRCText p wid y S (hb y (List.mem_of_getElem? hy))
  refine Wk (Yy d1 (Yy d2 (Yy gx (Yy gy (Yy g0 (Yy Int.toNat_natCast (Yy z0 f1))))))) ?_
  refine cQ (c1 _) ?_
  refine Wk (Yy gx (Yy gy (Yy g0 Int.toNat_natCast))) ?_
  refine cQ (c2 _) ?_
  refine Wk (Yy gx (Yy gy (Yy g0 Int.toNat_natCast))) ?_
  refine endq (S':=S) (sR Y0) (by rfl) (Sto.Sub.refl _).cons


abbrev toldD (a:Option Bs) (fs:List Bs) (ws:List Nat):D:=.agg [ansD a,.sl .none (fs.map sD),.sl .none (ws.map natD)]

theorem less_total:∀ {x y:Bs},Op.bytesLess x y=false→x=y∨Op.bytesLess y x=true
 | [],[],_=>.inl rfl
 | [],_::_,h=>by cases h
 | _::_,[],_=>.inr rfl
 | a::x,b::y,h=>by
  unfold Op.bytesLess at h ⊢
  simp only [Bool.or_eq_false_iff,decide_eq_false_iff_not,Bool.and_eq_false_iff,Bool.or_eq_true,decide_eq_true_eq,Bool.and_eq_true,beq_iff_eq,beq_eq_false_iff_ne] at h ⊢
  obtain ⟨h1,h2⟩:=h
  by_cases hab:a=b
  ·subst hab
   rcases h2 with h2 | h2
   ·exact absurd rfl h2
   ·rcases less_total h2 with h3 | h3
    ·subst h3;exact .inl rfl
    ·exact .inr (.inr ⟨rfl,h3⟩)
  ·exact .inr (.inl (UInt8.lt_of_le_of_ne (UInt8.not_lt.1 h1) (fun e=>hab e.symm)))
def lastA (key:Bs):List Pr→Option Bs→Option Bs
 | [],a=>a
 | q::l,a=>lastA key l (if q.1=key then some q.2 else a)
theorem lastA_snoc (key:Bs) (x:Pr):∀ (l:List Pr) (a:Option Bs),lastA key (l++[x]) a=if x.1=key then some x.2 else lastA key l a
 | [],_=>rfl
 | q::l,a=>lastA_snoc key x l _
theorem lastA_above {key:Bs} {m:Nat}:∀ (l:List Pr) (q:Bs) (a:Option Bs),risesFrom m (some q) (l.map (·.1))=true→q=key∨Op.bytesLess key q=true→lastA key l a=a
 | [],_,_,_,_=>rfl
 | x::l,q,a,h,hq=>by
  simp only [List.map_cons,risesFrom,Bool.and_eq_true] at h
  obtain ⟨⟨_,h1⟩,h2⟩:=h
  have hk:Op.bytesLess key x.1=true:=by
   rcases hq with rfl | hq
   ·exact h1
   ·exact less_trans hq h1
  have hx:¬ x.1=key:=fun e=>by rw [e,less_irrefl] at hk;cases hk
  unfold lastA
  rw [if_neg hx]
  exact lastA_above l x.1 a h2 (.inr hk)
theorem findL_last {key:Bs} {m:Nat}:∀ (l:List Pr) (pv:Option Bs) (a:Option Bs),risesFrom m pv (l.map (·.1))=true→lastA key l a=if (findL key l).2=true then (l[(findL key l).1]?).map (·.2) else a
 | [],_,_,_=>rfl
 | x::l,pv,a,h=>by
  simp only [List.map_cons,risesFrom,Bool.and_eq_true] at h
  have h2:=h.2
  unfold lastA findL
  by_cases hl:Op.bytesLess x.1 key=true
  ·have hx:¬ x.1=key:=fun e=>by rw [e,less_irrefl] at hl;cases hl
   rw [if_neg hx,if_pos hl,findL_last l (some x.1) a h2]
   simp
  ·rw [if_neg hl]
   rcases less_total ((Bool.not_eq_true _).mp hl) with h3 | h3
   ·rw [if_pos h3,lastA_above l x.1 _ h2 (.inl h3)]
    simp [h3]
   ·have hx:¬ x.1=key:=fun e=>by rw [e,less_irrefl] at h3;cases h3
    rw [if_neg hx,lastA_above l x.1 _ h2 (.inr h3)]
    simp [hx]
theorem read_leaf {p wid:Int} {s:Bs} {n:Nd} (h:readP p wid s=some n):leafB n=(n.kids.length == 0):=by
 have hsh:=(checkE_ok (mayE_ok (readP_ok h).2.1).1).2
 rw [Bool.eq_iff_iff]
 constructor
 ·intro hl;unfold leafB at hl;simp only [decide_eq_true_eq] at hl;simp [hl.2]
 ·intro hk
  cases hl:leafB n with
  | true=>rfl
  | false=>
   unfold shapedB at hsh
   rw [hl,if_neg (by simp)] at hsh
   simp only [Bool.and_eq_true,decide_eq_true_eq] at hsh
   have:=hsh.1.1.1.2
   simp only [beq_iff_eq] at hk
   omega
theorem read_rises {p wid:Int} {s:Bs} {n:Nd} (h:readP p wid s=some n) (hl:leafB n=true):risesFrom (p.toNat / 16) none (n.pairs.map (·.1))=true:=by
 have hsh:=(checkE_ok (mayE_ok (readP_ok h).2.1).1).2
 unfold shapedB at hsh
 rw [if_pos hl] at hsh
 simp only [Bool.and_eq_true] at hsh
 exact hsh.1

def provD (fs:List Bs) (o:Option Rg) (d:D):Prop:=
 match o with
 | some r=>d=.tup [toldD r.ans fs r.ways,bD true]
 | none=>∃ (a:Option Bs) (ws:List Nat),d=.tup [toldD a fs ws,bD false]
theorem untags_nat:∀ l:List Nat,untags (l.map natD)=l.map natD
 | []=>rfl
 | s::l=>by show untag (natD s)::untags (l.map natD)=_;rw [untags_nat l];rfl
theorem untag_told (a:Option Bs) (fs:List Bs) (ws:List Nat) (t1 t2:Tag) (b:Bool):untag (.tup [.agg [ansD a,.sl t1 (fs.map sD),.sl t2 (ws.map natD)],bD b])=.tup [toldD a fs ws,bD b]:=by
 simp only [untag,untags,untags_sD,untags_nat]
 cases a <;> rfl
theorem prov_no (fs:List Bs) (a:Option Bs) (ws:List Nat) (t1 t2:Tag):provD fs none (untag (.tup [.agg [ansD a,.sl t1 (fs.map sD),.sl t2 (ws.map natD)],bD false])):=by
 rw [untag_told];exact ⟨a,ws,rfl⟩
theorem prov_yes (fs:List Bs) (r:Rg) (t1 t2:Tag):provD fs (some r) (untag (.tup [.agg [ansD r.ans,.sl t1 (fs.map sD),.sl t2 (r.ways.map natD)],bD true])):=by
 rw [untag_told];rfl

theorem aProves (p wid:Int) (root:Dg) (key:Bs) (fs:List Bs) (S:Sto) (hr:rightB p wid=true) (hsz:∀ x∈fs,x.length≤1048576) :
  ACalls Tryz.prog 65 [frD p wid,.dg root,sD key,.sl .none (fs.map sD)] S (fun e S'=>∃ d,e=.ret d∧provD fs (if 0<fs.length∧fs.length≤33 then readF p wid key 0 fs (rg0 root) else none) d∧S'=S):=by
 refine acalls_of prg Tryz.func65 rfl (by kernel_rfl) (congrArg Array.toList Tryz.results65) Tryz.ntmps65 (fun B hB=>fA ?_)
 refine Wk Y0 ?_
 refine aL fun b8 k_b8 o_b8=>?_
 refine Wk Y0 ?_
 refine aL fun b10 k_b10 o_b10=>?_
 have n1:=nes k_b10.1
 by_cases hl:0<fs.length∧fs.length≤33
 case neg=>
  rw [if_neg hl]
  by_cases h0:0<fs.length
  ·have z0:decide ((fs.length:Int)<1)=false:=decide_eq_false (by omega)
   have z1:decide ((fs.length:Int) > 33)=true:=decide_eq_true (by omega)
   refine Wk (Yy k_b10 (Yy n1 (Yy z0 z1))) ?_
   refine endu (sR (Yy k_b10 n1)) (by rfl) (Sto.Sub.refl _).cons.cons ⟨prov_no fs none [] _ _,rfl⟩
  ·have z0:decide ((fs.length:Int)<1)=true:=decide_eq_true (by omega)
   refine Wk (Yy k_b10 (Yy n1 z0)) ?_
   refine endu (sR (Yy k_b10 n1)) (by rfl) (Sto.Sub.refl _).cons.cons ⟨prov_no fs none [] _ _,rfl⟩
 rw [if_pos hl]
 obtain ⟨G,hG⟩:∃ G,readF p wid key 0 fs (rg0 root)=G:=⟨_,rfl⟩
 rw [hG]
 have z0:decide ((fs.length:Int)<1)=false:=decide_eq_false (by omega)
 have z1:decide ((fs.length:Int) > 33)=false:=decide_eq_false (by omega)
 refine Wk (Yy k_b10 (Yy n1 (Yy z0 z1))) ?_
 refine aL fun b11 k_b11 o_b11=>?_
 have n2:=nes k_b11.1
 have n3:=nes k_b11.2.1
 refine Wk (Yy k_b10 (Yy n1 (Yy n2 n3))) ?_
 refine aL fun b12 k_b12 o_b12=>?_
 have n4:=nes k_b12.1
 have n5:=nes k_b12.2.1
 have n6:=nes k_b12.2.2.1
 refine Wk (Yy k_b10 (Yy n1 (Yy k_b11 (Yy n2 (Yy n3 (Yy k_b12 (Yy n4 (Yy n5 n6)))))))) ?_
 refine AW.loopS 21 [13,14,15,16,17,18,19,20] (fun xs S'=>∃ (i:Nat) (r:Rg) (tw:Tag) (ow:List (Nat×Nat)),xs=[iD i,.any,.any,.any,.any,.any,.any,.any]∧S'=⟨(b12,36,.dg r.want)::(b11,157,bdD r.lo r.hi)::(b10,67,.agg [ansD r.ans,.sl .none (fs.map sD),.sl tw (r.ways.map natD)])::(b8,67,.agg [ansD none,.sl .nil [],.sl .nil []])::S.bk,ow⟩∧i<fs.length∧readF p wid key i (fs.drop i) r=G∧G1 S.ow ow 3 1 tw (r.ways.map natD)∧r.ways.length≤i) (fun xs _=>fs.length - nI (xs.getD 0 .any)) [iD 0,.any,.any,.any,.any,.any,.any,.any] _ ?_ (Sto.Sub.refl _) ⟨0,rg0 root,.nil,S.ow,rfl,rfl,hl.1,hG,G1.nil _ _ _,by simp [rg0]⟩ ?_
 ·exact wK
 rintro xs S' ⟨i,r,tw,ow,rfl,rfl,hi,hrd,hg,hw⟩
 refine fR ?_
 obtain ⟨x,hx⟩:∃ x,fs[i]?=some x:=⟨_,List.getElem?_eq_getElem hi⟩
 have hxl:=hsz x (List.mem_of_getElem? hx)
 have d1:decide ((i:Int)<fs.length)=true:=decide_eq_true (by omega)
 have hgt:(fs.map sD)[i]?=some (sD x):=by rw [List.getElem?_map,hx];rfl
 have g0:(0:Int)≤i:=by omega
 have f1:IntKind.i64.wrap ((i:Int)+1)=((i+1:Nat):Int):=IntWalk.i64_in _ (by omega)
 have f2:IntKind.i64.wrap ((fs.length:Int) - 1)=((fs.length - 1:Nat):Int):=by rw [IntWalk.i64_in _ (by omega)];omega
 have hdr:fs.drop i=x::fs.drop (i+1):=by
  rw [List.drop_eq_getElem_cons hi];congr 1;exact Option.some.inj ((List.getElem?_eq_getElem hi).symm.trans hx)
 obtain ⟨la,hla⟩:∃ la,((fs.drop (i+1)).length == 0)=la:=⟨_,rfl⟩
 have hfl:((i:Int) == ((fs.length - 1:Nat):Int))=la:=by
  rw [← hla,List.length_drop,Bool.eq_iff_iff,beq_iff_eq,beq_iff_eq];omega
 rw [hdr] at hrd
 unfold readF at hrd
 rw [hla] at hrd
 have cR:=fun S=>aRead p wid x S (by omega)
 have ho:NdOk ((readP p wid x).getD noN):=nodeOf_ok (by omega)
 have hE:(okE (readP p wid x) (unpackE p wid)≠0∧readP p wid x=none)∨(okE (readP p wid x) (unpackE p wid)=0∧readP p wid x=some ((readP p wid x).getD noN)):=by
  cases hq:readP p wid x with
  | none=>exact .inl ⟨by simp [okE,unpackE,hr],rfl⟩
  | some n=>exact .inr ⟨rfl,rfl⟩
 generalize okE (readP p wid x) (unpackE p wid)=e at cR hE
 generalize hnn:(readP p wid x).getD noN=n at cR hE ho
 have cS:=fun S=>aRSum p wid n S ho
 obtain ⟨⟨dg,g⟩,hsum⟩:∃ z,sumN p wid n=z:=⟨_,rfl⟩
 rw [hsum] at cS
 have cK:=fun S=>aKept r.lo r.hi n S ho
 have cL:=fun S=>aLeaf n S
 have hfp:¬ (e=0∧goodB p wid (i == 0) la r n=true)→G=none:=fun h=>by
  have:formP p wid key x (i == 0) la r=none:=by
   unfold formP
   rcases hE with ⟨_,h2⟩ | ⟨h1,h2⟩
   ·rw [h2]
   ·rw [h2]
    show (if goodB p wid (i == 0) la r n=true then _ else _)=_
    rw [if_neg (fun hg=>h ⟨h1,hg⟩)]
  rw [this] at hrd
  exact hrd.symm
 refine Wk d1 ?_
 refine vx ?_
 refine Wu (Yy hgt (Yy g0 Int.toNat_natCast)) ?_
 refine cU (cR) ?_
 refine Wu Y0 ?_
 rintro b14 ⟨k_b14,o_b14⟩
 simp only [List.map_cons,List.mem_cons,not_or] at k_b14
 have n7:=nes k_b14.1
 have n8:=nes k_b14.2.1
 have n9:=nes k_b14.2.2.1
 have n10:=nes k_b14.2.2.2.1
 refine Wu (Yy k_b10 (Yy n1 (Yy k_b11 (Yy n2 (Yy n3 (Yy k_b12 (Yy n4 (Yy n5 (Yy n6 (Yy k_b14 (Yy n7 (Yy n8 (Yy n9 n10))))))))))))) ?_
 refine Wk (Yy k_b10 (Yy n1 (Yy k_b11 (Yy n2 (Yy n3 (Yy k_b12 (Yy n4 (Yy n5 (Yy n6 (Yy k_b14 (Yy n7 (Yy n8 (Yy n9 n10))))))))))))) ?_
 refine cQ (cS _) ?_
 refine Wk (Yy k_b10 (Yy n1 (Yy k_b11 (Yy n2 (Yy n3 (Yy k_b12 (Yy n4 (Yy n5 (Yy n6 (Yy k_b14 (Yy n7 (Yy n8 (Yy n9 n10))))))))))))) ?_
 refine aL fun b16 k_b16 o_b16=>?_
 have n11:=nes k_b16.1
 have n12:=nes k_b16.2.1
 have n13:=nes k_b16.2.2.1
 have n14:=nes k_b16.2.2.2.1
 have n15:=nes k_b16.2.2.2.2.1
 by_cases he:e=0
 case neg=>
  have z1:(e != 0)=true:=bne_iff_ne.2 he
  have hG0:=hfp (fun h=>he h.1)
  refine Wk (Yy k_b10 (Yy n1 (Yy k_b11 (Yy n2 (Yy n3 (Yy k_b12 (Yy n4 (Yy n5 (Yy n6 (Yy k_b14 (Yy n7 (Yy n8 (Yy n9 (Yy n10 (Yy k_b16 (Yy n11 (Yy n12 (Yy n13 (Yy n14 (Yy n15 z1)))))))))))))))))))) ?_
  refine endu (sR (Yy k_b10 (Yy n1 (Yy k_b11 (Yy n2 (Yy n3 (Yy k_b12 (Yy n4 (Yy n5 (Yy n6 (Yy k_b14 (Yy n7 (Yy n8 (Yy n9 (Yy n10 (Yy k_b16 (Yy n11 (Yy n12 (Yy n13 (Yy n14 n15)))))))))))))))))))) (by rfl) ⟨((((((List.Sublist.refl _).cons _).cons _).cons _).cons _).cons _).cons _,hg.sub⟩ ⟨by rw [hG0];exact prov_no fs r.ans r.ways _ _,rfl⟩
 have z1:(e != 0)=false:=by rw [he];rfl
 have hread:readP p wid x=some n:=by
  rcases hE with ⟨h1,_⟩ | ⟨_,h2⟩
  ·exact absurd he h1
  ·exact h2
 by_cases hgz:g=0
 case neg=>
  have z2:(g != 0)=true:=bne_iff_ne.2 hgz
  have hG0:=hfp (fun h=>by
   have h:=h.2
   unfold goodB at h
   rw [hsum] at h
   simp only [Bool.and_eq_true,beq_iff_eq] at h
   exact hgz h.1.1.1.1)
  refine Wk (Yy k_b10 (Yy n1 (Yy k_b11 (Yy n2 (Yy n3 (Yy k_b12 (Yy n4 (Yy n5 (Yy n6 (Yy k_b14 (Yy n7 (Yy n8 (Yy n9 (Yy n10 (Yy k_b16 (Yy n11 (Yy n12 (Yy n13 (Yy n14 (Yy n15 (Yy z1 z2))))))))))))))))))))) ?_
  refine endu (sR (Yy k_b10 (Yy n1 (Yy k_b11 (Yy n2 (Yy n3 (Yy k_b12 (Yy n4 (Yy n5 (Yy n6 (Yy k_b14 (Yy n7 (Yy n8 (Yy n9 (Yy n10 (Yy k_b16 (Yy n11 (Yy n12 (Yy n13 (Yy n14 n15)))))))))))))))))))) (by rfl) ⟨((((((List.Sublist.refl _).cons _).cons _).cons _).cons _).cons _).cons _,hg.sub⟩ ⟨by rw [hG0];exact prov_no fs r.ans r.ways _ _,rfl⟩
 have z2:(g != 0)=false:=by rw [hgz];rfl
 by_cases hdw:dg=r.want
 case neg=>
  have z3:decide (dg=r.want)=false:=decide_eq_false hdw
  have hG0:=hfp (fun h=>by
   have h:=h.2
   unfold goodB at h
   rw [hsum] at h
   simp only [Bool.and_eq_true,decide_eq_true_eq] at h
   exact hdw h.1.1.1.2)
  refine Wk (Yy k_b10 (Yy n1 (Yy k_b11 (Yy n2 (Yy n3 (Yy k_b12 (Yy n4 (Yy n5 (Yy n6 (Yy k_b14 (Yy n7 (Yy n8 (Yy n9 (Yy n10 (Yy k_b16 (Yy n11 (Yy n12 (Yy n13 (Yy n14 (Yy n15 (Yy z1 (Yy z2 z3)))))))))))))))))))))) ?_
  refine endu (sR (Yy k_b10 (Yy n1 (Yy k_b11 (Yy n2 (Yy n3 (Yy k_b12 (Yy n4 (Yy n5 (Yy n6 (Yy k_b14 (Yy n7 (Yy n8 (Yy n9 (Yy n10 (Yy k_b16 (Yy n11 (Yy n12 (Yy n13 (Yy n14 n15)))))))))))))))))))) (by rfl) ⟨((((((List.Sublist.refl _).cons _).cons _).cons _).cons _).cons _).cons _,hg.sub⟩ ⟨by rw [hG0];exact prov_no fs r.ans r.ways _ _,rfl⟩
 have z3:decide (dg=r.want)=true:=decide_eq_true hdw
 cases hkb:keptB r.lo r.hi n with
 | false=>
  have hG0:=hfp (fun h=>by
   have h:=h.2
   unfold goodB at h
   simp only [Bool.and_eq_true] at h
   rw [hkb] at h
   cases h.1.2)
  rw [hkb] at cK
  refine Wk (Yy k_b10 (Yy n1 (Yy k_b11 (Yy n2 (Yy n3 (Yy k_b12 (Yy n4 (Yy n5 (Yy n6 (Yy k_b14 (Yy n7 (Yy n8 (Yy n9 (Yy n10 (Yy k_b16 (Yy n11 (Yy n12 (Yy n13 (Yy n14 (Yy n15 (Yy z1 (Yy z2 z3)))))))))))))))))))))) ?_
  refine cQ (cK _) ?_
  refine Wk (Yy k_b10 (Yy n1 (Yy k_b11 (Yy n2 (Yy n3 (Yy k_b12 (Yy n4 (Yy n5 (Yy n6 (Yy k_b14 (Yy n7 (Yy n8 (Yy n9 (Yy n10 (Yy k_b16 (Yy n11 (Yy n12 (Yy n13 (Yy n14 n15))))))))))))))))))) ?_
  refine endu (sR (Yy k_b10 (Yy n1 (Yy k_b11 (Yy n2 (Yy n3 (Yy k_b12 (Yy n4 (Yy n5 (Yy n6 (Yy k_b14 (Yy n7 (Yy n8 (Yy n9 (Yy n10 (Yy k_b16 (Yy n11 (Yy n12 (Yy n13 (Yy n14 n15)))))))))))))))))))) (by rfl) ⟨((((((List.Sublist.refl _).cons _).cons _).cons _).cons _).cons _).cons _,hg.sub⟩ ⟨by rw [hG0];exact prov_no fs r.ans r.ways _ _,rfl⟩
 | true=>
 rw [hkb] at cK
 by_cases hlf:leafB n=la
 case neg=>
  have z4:(leafB n != la)=true:=bne_iff_ne.2 hlf
  have hG0:=hfp (fun h=>by
   have h:=h.2
   unfold goodB at h
   simp only [Bool.and_eq_true,beq_iff_eq] at h
   exact hlf (by rw [read_leaf hread];exact h.1.1.2))
  have zt:(true != false)=true:=rfl
  have zf:(false != true)=true:=rfl
  obtain ⟨lb,hlb⟩:∃ b,leafB n=b:=⟨_,rfl⟩
  rw [hlb] at cL hlf
  clear z4
  cases la <;> cases lb <;> (first | exact absurd rfl hlf | skip)
  all_goals refine Wk (Yy k_b10 (Yy n1 (Yy k_b11 (Yy n2 (Yy n3 (Yy k_b12 (Yy n4 (Yy n5 (Yy n6 (Yy k_b14 (Yy n7 (Yy n8 (Yy n9 (Yy n10 (Yy k_b16 (Yy n11 (Yy n12 (Yy n13 (Yy n14 (Yy n15 (Yy z1 (Yy z2 z3)))))))))))))))))))))) ?_
  ·refine cQ (cK _) ?_
   refine Wk (Yy k_b10 (Yy n1 (Yy k_b11 (Yy n2 (Yy n3 (Yy k_b12 (Yy n4 (Yy n5 (Yy n6 (Yy k_b14 (Yy n7 (Yy n8 (Yy n9 (Yy n10 (Yy k_b16 (Yy n11 (Yy n12 (Yy n13 (Yy n14 (Yy n15 (Yy f2 hfl))))))))))))))))))))) ?_
   refine cQ (cL _) ?_
   refine Wk (Yy k_b10 (Yy n1 (Yy k_b11 (Yy n2 (Yy n3 (Yy k_b12 (Yy n4 (Yy n5 (Yy n6 (Yy k_b14 (Yy n7 (Yy n8 (Yy n9 (Yy n10 (Yy k_b16 (Yy n11 (Yy n12 (Yy n13 (Yy n14 (Yy n15 zt)))))))))))))))))))) ?_
   refine endu (sR (Yy k_b10 (Yy n1 (Yy k_b11 (Yy n2 (Yy n3 (Yy k_b12 (Yy n4 (Yy n5 (Yy n6 (Yy k_b14 (Yy n7 (Yy n8 (Yy n9 (Yy n10 (Yy k_b16 (Yy n11 (Yy n12 (Yy n13 (Yy n14 n15)))))))))))))))))))) (by rfl) ⟨((((((List.Sublist.refl _).cons _).cons _).cons _).cons _).cons _).cons _,hg.sub⟩ ⟨by rw [hG0];exact prov_no fs r.ans r.ways _ _,rfl⟩
  ·refine cQ (cK _) ?_
   refine Wk (Yy k_b10 (Yy n1 (Yy k_b11 (Yy n2 (Yy n3 (Yy k_b12 (Yy n4 (Yy n5 (Yy n6 (Yy k_b14 (Yy n7 (Yy n8 (Yy n9 (Yy n10 (Yy k_b16 (Yy n11 (Yy n12 (Yy n13 (Yy n14 (Yy n15 (Yy f2 hfl))))))))))))))))))))) ?_
   refine cQ (cL _) ?_
   refine Wk (Yy k_b10 (Yy n1 (Yy k_b11 (Yy n2 (Yy n3 (Yy k_b12 (Yy n4 (Yy n5 (Yy n6 (Yy k_b14 (Yy n7 (Yy n8 (Yy n9 (Yy n10 (Yy k_b16 (Yy n11 (Yy n12 (Yy n13 (Yy n14 (Yy n15 zf)))))))))))))))))))) ?_
   refine endu (sR (Yy k_b10 (Yy n1 (Yy k_b11 (Yy n2 (Yy n3 (Yy k_b12 (Yy n4 (Yy n5 (Yy n6 (Yy k_b14 (Yy n7 (Yy n8 (Yy n9 (Yy n10 (Yy k_b16 (Yy n11 (Yy n12 (Yy n13 (Yy n14 n15)))))))))))))))))))) (by rfl) ⟨((((((List.Sublist.refl _).cons _).cons _).cons _).cons _).cons _).cons _,hg.sub⟩ ⟨by rw [hG0];exact prov_no fs r.ans r.ways _ _,rfl⟩
 have hgd:goodB p wid (i == 0) la r n=(!la || (decide (0<n.pairs.length) || (i == 0))):=by
  unfold goodB
  rw [hsum,hkb,← read_leaf hread,hlf,hgz,decide_eq_true hdw]
  simp
 rw [hlf] at cL
 refine Wk (Yy k_b10 (Yy n1 (Yy k_b11 (Yy n2 (Yy n3 (Yy k_b12 (Yy n4 (Yy n5 (Yy n6 (Yy k_b14 (Yy n7 (Yy n8 (Yy n9 (Yy n10 (Yy k_b16 (Yy n11 (Yy n12 (Yy n13 (Yy n14 (Yy n15 (Yy z1 (Yy z2 z3)))))))))))))))))))))) ?_
 refine cQ (cK _) ?_
 cases la with
 | true=>
  have z4:(true != true)=false:=rfl
  have hnp:=ho.np
  by_cases c3:0<n.pairs.length∨i=0
  case neg=>
   have k0:((n.pairs.length:Int) == 0)=true:=by rw [beq_iff_eq];omega
   have k1:decide ((i:Int) > 0)=true:=decide_eq_true (by omega)
   have hG0:=hfp (fun h=>by
    have h:=h.2
    rw [hgd] at h
    simp only [Bool.not_true,Bool.false_or,Bool.or_eq_true,decide_eq_true_eq,beq_iff_eq] at h
    exact c3 h)
   refine Wk (Yy k_b10 (Yy n1 (Yy k_b11 (Yy n2 (Yy n3 (Yy k_b12 (Yy n4 (Yy n5 (Yy n6 (Yy k_b14 (Yy n7 (Yy n8 (Yy n9 (Yy n10 (Yy k_b16 (Yy n11 (Yy n12 (Yy n13 (Yy n14 (Yy n15 (Yy f2 hfl))))))))))))))))))))) ?_
   refine cQ (cL _) ?_
   refine Wk (Yy k_b10 (Yy n1 (Yy k_b11 (Yy n2 (Yy n3 (Yy k_b12 (Yy n4 (Yy n5 (Yy n6 (Yy k_b14 (Yy n7 (Yy n8 (Yy n9 (Yy n10 (Yy k_b16 (Yy n11 (Yy n12 (Yy n13 (Yy n14 (Yy n15 (Yy z4 (Yy k0 k1)))))))))))))))))))))) ?_
   refine endu (sR (Yy k_b10 (Yy n1 (Yy k_b11 (Yy n2 (Yy n3 (Yy k_b12 (Yy n4 (Yy n5 (Yy n6 (Yy k_b14 (Yy n7 (Yy n8 (Yy n9 (Yy n10 (Yy k_b16 (Yy n11 (Yy n12 (Yy n13 (Yy n14 n15)))))))))))))))))))) (by rfl) ⟨((((((List.Sublist.refl _).cons _).cons _).cons _).cons _).cons _).cons _,hg.sub⟩ ⟨by rw [hG0];exact prov_no fs r.ans r.ways _ _,rfl⟩
  have hgt1:goodB p wid (i == 0) true r n=true:=by
   rw [hgd]
   simp only [Bool.not_true,Bool.false_or,Bool.or_eq_true,decide_eq_true_eq,beq_iff_eq]
   exact c3
  have hN:nextR key true r n={ r with ans:=lastA key n.pairs r.ans }:=by
   unfold nextR
   rw [if_pos rfl,findL_last n.pairs none r.ans (read_rises hread hlf)]
   split <;> rfl
  have hGs:G=some { r with ans:=lastA key n.pairs r.ans }:=by
   have h0:fs.drop (i+1)=[]:=List.eq_nil_of_length_eq_zero (beq_iff_eq.1 hla)
   have h1:formP p wid key x (i == 0) true r=some (nextR key true r n):=by
    unfold formP
    rw [hread]
    show (if goodB p wid (i == 0) true r n=true then _ else _)=_
    rw [if_pos hgt1]
   rw [h1,h0] at hrd
   rw [← hN,← hrd]
   rfl
  have kk:((n.pairs.length:Int) == 0)=false∨(((n.pairs.length:Int) == 0)=true∧decide ((i:Int) > 0)=false):=by
   by_cases h:0<n.pairs.length
   ·exact .inl (by rw [beq_eq_false_iff_ne];omega)
   ·exact .inr ⟨by rw [beq_iff_eq];omega,decide_eq_false (by omega)⟩
  refine Wk (Yy k_b10 (Yy n1 (Yy k_b11 (Yy n2 (Yy n3 (Yy k_b12 (Yy n4 (Yy n5 (Yy n6 (Yy k_b14 (Yy n7 (Yy n8 (Yy n9 (Yy n10 (Yy k_b16 (Yy n11 (Yy n12 (Yy n13 (Yy n14 (Yy n15 (Yy f2 hfl))))))))))))))))))))) ?_
  refine cQ (cL _) ?_
  rcases kk with k0 | ⟨k0,k1⟩
  ·refine Wk (Yy k_b10 (Yy n1 (Yy k_b11 (Yy n2 (Yy n3 (Yy k_b12 (Yy n4 (Yy n5 (Yy n6 (Yy k_b14 (Yy n7 (Yy n8 (Yy n9 (Yy n10 (Yy k_b16 (Yy n11 (Yy n12 (Yy n13 (Yy n14 (Yy n15 (Yy z4 k0))))))))))))))))))))) ?_
   refine AW.loopS 21 [19] (fun xs S'=>∃ k:Nat,xs=[iD k]∧S'=⟨(b16,36,.dg dg)::(b14,87,ndA n)::(b12,36,.dg r.want)::(b11,157,bdD r.lo r.hi)::(b10,67,.agg [ansD (lastA key (n.pairs.take k) r.ans),.sl .none (fs.map sD),.sl tw (r.ways.map natD)])::(b8,67,.agg [ansD none,.sl .nil [],.sl .nil []])::S.bk,ow⟩∧k≤n.pairs.length) (fun xs _=>n.pairs.length - nI (xs.getD 0 .any)) [iD 0] _ ?_ (Sto.Sub.refl _) ⟨0,rfl,rfl,by omega⟩ ?_
   ·exact wK
   rintro xs S' ⟨k,rfl,rfl,hk⟩
   refine fR ?_
   by_cases hlt:k<n.pairs.length
   ·obtain ⟨q,hq⟩:∃ q,n.pairs[k]?=some q:=⟨_,List.getElem?_eq_getElem hlt⟩
    have d2:decide ((k:Int)<n.pairs.length)=true:=decide_eq_true (by omega)
    have hgq:(n.pairs.map prD)[k]?=some (prD q):=by rw [List.getElem?_map,hq];rfl
    have g2:(0:Int)≤k:=by omega
    have f3:IntKind.i64.wrap ((k:Int)+1)=((k+1:Nat):Int):=IntWalk.i64_in _ (by omega)
    have hsn:lastA key (n.pairs.take (k+1)) r.ans=if q.1=key then some q.2 else lastA key (n.pairs.take k) r.ans:=by
     rw [List.take_add_one,hq];exact lastA_snoc key q _ _
    by_cases hqk:q.1=key
    ·have z6:(q.1 == key)=true:=beq_iff_eq.2 hqk
     rw [if_pos hqk] at hsn
     refine Wk (Yy k_b10 (Yy n1 (Yy k_b11 (Yy n2 (Yy n3 (Yy k_b12 (Yy n4 (Yy n5 (Yy n6 (Yy k_b14 (Yy n7 (Yy n8 (Yy n9 (Yy n10 (Yy k_b16 (Yy n11 (Yy n12 (Yy n13 (Yy n14 (Yy n15 (Yy d2 (Yy hgq (Yy g2 (Yy Int.toNat_natCast (Yy f3 z6))))))))))))))))))))))))) ?_
     refine ⟨[iD (k+1:Nat)],_,?_,Sto.Sub.refl _,⟨k+1,rfl,by rw [hsn];rfl,by omega⟩,?_⟩
     ·exact wK
     ·exact mE
    ·have z6:(q.1 == key)=false:=beq_eq_false_iff_ne.2 hqk
     rw [if_neg hqk] at hsn
     refine Wk (Yy k_b10 (Yy n1 (Yy k_b11 (Yy n2 (Yy n3 (Yy k_b12 (Yy n4 (Yy n5 (Yy n6 (Yy k_b14 (Yy n7 (Yy n8 (Yy n9 (Yy n10 (Yy k_b16 (Yy n11 (Yy n12 (Yy n13 (Yy n14 (Yy n15 (Yy d2 (Yy hgq (Yy g2 (Yy Int.toNat_natCast (Yy f3 z6))))))))))))))))))))))))) ?_
     refine ⟨[iD (k+1:Nat)],_,?_,Sto.Sub.refl _,⟨k+1,rfl,by rw [hsn];rfl,by omega⟩,?_⟩
     ·exact wK
     ·exact mE
   obtain rfl:k=n.pairs.length:=by omega
   have d2:decide ((n.pairs.length:Int)<n.pairs.length)=false:=decide_eq_false (by omega)
   rw [List.take_length]
   refine Wk (Yy k_b10 (Yy n1 (Yy k_b11 (Yy n2 (Yy n3 (Yy k_b12 (Yy n4 (Yy n5 (Yy n6 (Yy k_b14 (Yy n7 (Yy n8 (Yy n9 (Yy n10 (Yy k_b16 (Yy n11 (Yy n12 (Yy n13 (Yy n14 (Yy n15 d2)))))))))))))))))))) ?_
   refine endu (sR (Yy k_b10 (Yy n1 (Yy k_b11 (Yy n2 (Yy n3 (Yy k_b12 (Yy n4 (Yy n5 (Yy n6 (Yy k_b14 (Yy n7 (Yy n8 (Yy n9 (Yy n10 (Yy k_b16 (Yy n11 (Yy n12 (Yy n13 (Yy n14 n15)))))))))))))))))))) (by rfl) ⟨((((((List.Sublist.refl _).cons _).cons _).cons _).cons _).cons _).cons _,hg.sub⟩ ⟨by rw [hGs];exact prov_yes fs { r with ans:=lastA key n.pairs r.ans } _ _,rfl⟩
  ·refine Wk (Yy k_b10 (Yy n1 (Yy k_b11 (Yy n2 (Yy n3 (Yy k_b12 (Yy n4 (Yy n5 (Yy n6 (Yy k_b14 (Yy n7 (Yy n8 (Yy n9 (Yy n10 (Yy k_b16 (Yy n11 (Yy n12 (Yy n13 (Yy n14 (Yy n15 (Yy z4 (Yy k0 k1)))))))))))))))))))))) ?_
   refine AW.loopS 21 [19] (fun xs S'=>∃ k:Nat,xs=[iD k]∧S'=⟨(b16,36,.dg dg)::(b14,87,ndA n)::(b12,36,.dg r.want)::(b11,157,bdD r.lo r.hi)::(b10,67,.agg [ansD (lastA key (n.pairs.take k) r.ans),.sl .none (fs.map sD),.sl tw (r.ways.map natD)])::(b8,67,.agg [ansD none,.sl .nil [],.sl .nil []])::S.bk,ow⟩∧k≤n.pairs.length) (fun xs _=>n.pairs.length - nI (xs.getD 0 .any)) [iD 0] _ ?_ (Sto.Sub.refl _) ⟨0,rfl,rfl,by omega⟩ ?_
   ·exact wK
   rintro xs S' ⟨k,rfl,rfl,hk⟩
   refine fR ?_
   by_cases hlt:k<n.pairs.length
   ·obtain ⟨q,hq⟩:∃ q,n.pairs[k]?=some q:=⟨_,List.getElem?_eq_getElem hlt⟩
    have d2:decide ((k:Int)<n.pairs.length)=true:=decide_eq_true (by omega)
    have hgq:(n.pairs.map prD)[k]?=some (prD q):=by rw [List.getElem?_map,hq];rfl
    have g2:(0:Int)≤k:=by omega
    have f3:IntKind.i64.wrap ((k:Int)+1)=((k+1:Nat):Int):=IntWalk.i64_in _ (by omega)
    have hsn:lastA key (n.pairs.take (k+1)) r.ans=if q.1=key then some q.2 else lastA key (n.pairs.take k) r.ans:=by
     rw [List.take_add_one,hq];exact lastA_snoc key q _ _
    by_cases hqk:q.1=key
    ·have z6:(q.1 == key)=true:=beq_iff_eq.2 hqk
     rw [if_pos hqk] at hsn
     refine Wk (Yy k_b10 (Yy n1 (Yy k_b11 (Yy n2 (Yy n3 (Yy k_b12 (Yy n4 (Yy n5 (Yy n6 (Yy k_b14 (Yy n7 (Yy n8 (Yy n9 (Yy n10 (Yy k_b16 (Yy n11 (Yy n12 (Yy n13 (Yy n14 (Yy n15 (Yy d2 (Yy hgq (Yy g2 (Yy Int.toNat_natCast (Yy f3 z6))))))))))))))))))))))))) ?_
     refine ⟨[iD (k+1:Nat)],_,?_,Sto.Sub.refl _,⟨k+1,rfl,by rw [hsn];rfl,by omega⟩,?_⟩
     ·exact wK
     ·exact mE
    ·have z6:(q.1 == key)=false:=beq_eq_false_iff_ne.2 hqk
     rw [if_neg hqk] at hsn
     refine Wk (Yy k_b10 (Yy n1 (Yy k_b11 (Yy n2 (Yy n3 (Yy k_b12 (Yy n4 (Yy n5 (Yy n6 (Yy k_b14 (Yy n7 (Yy n8 (Yy n9 (Yy n10 (Yy k_b16 (Yy n11 (Yy n12 (Yy n13 (Yy n14 (Yy n15 (Yy d2 (Yy hgq (Yy g2 (Yy Int.toNat_natCast (Yy f3 z6))))))))))))))))))))))))) ?_
     refine ⟨[iD (k+1:Nat)],_,?_,Sto.Sub.refl _,⟨k+1,rfl,by rw [hsn];rfl,by omega⟩,?_⟩
     ·exact wK
     ·exact mE
   obtain rfl:k=n.pairs.length:=by omega
   have d2:decide ((n.pairs.length:Int)<n.pairs.length)=false:=decide_eq_false (by omega)
   rw [List.take_length]
   refine Wk (Yy k_b10 (Yy n1 (Yy k_b11 (Yy n2 (Yy n3 (Yy k_b12 (Yy n4 (Yy n5 (Yy n6 (Yy k_b14 (Yy n7 (Yy n8 (Yy n9 (Yy n10 (Yy k_b16 (Yy n11 (Yy n12 (Yy n13 (Yy n14 (Yy n15 d2)))))))))))))))))))) ?_
   refine endu (sR (Yy k_b10 (Yy n1 (Yy k_b11 (Yy n2 (Yy n3 (Yy k_b12 (Yy n4 (Yy n5 (Yy n6 (Yy k_b14 (Yy n7 (Yy n8 (Yy n9 (Yy n10 (Yy k_b16 (Yy n11 (Yy n12 (Yy n13 (Yy n14 n15)))))))))))))))))))) (by rfl) ⟨((((((List.Sublist.refl _).cons _).cons _).cons _).cons _).cons _).cons _,hg.sub⟩ ⟨by rw [hGs];exact prov_yes fs { r with ans:=lastA key n.pairs r.ans } _ _,rfl⟩
 | false=>
  have z4:(false != false)=false:=rfl
  have hns:=ho.ns
  have cW:=fun S=>aRWay n key S (by omega)
  obtain ⟨w,hww⟩:∃ w,wayL key n.seps=w:=⟨_,rfl⟩
  rw [hww] at cW
  have hsh:=(checkE_ok (mayE_ok (readP_ok hread).2.1).1).2
  have hkl:n.seps.length+1=n.kids.length:=by
   unfold shapedB at hsh
   rw [if_neg (by rw [hlf];simp)] at hsh
   simp only [Bool.and_eq_true,decide_eq_true_eq] at hsh
   exact hsh.1.1.2
  have hwl:w≤n.seps.length:=by rw [← hww];exact wayL_le _ _
  obtain ⟨kd,hkd⟩:∃ x,n.kids[w]?=some x:=⟨_,List.getElem?_eq_getElem (by omega)⟩
  have hgk:(n.kids.map kdD)[w]?=some (kdD kd):=by rw [List.getElem?_map,hkd];rfl
  have g2:(0:Int)≤w:=by omega
  have cB:=fun S=>aBelow r.lo r.hi n w S ho hwl
  have hN:nextR key false r n=⟨kd.sum,belowLo r.lo n w,belowHi r.hi n w,r.ans,r.ways++[w]⟩:=by
   unfold nextR
   rw [hww]
   simp only [Bool.false_eq_true,if_false,hkd,Option.map_some,Option.getD_some]
   rfl
  have hnx:readF p wid key (i+1) (fs.drop (i+1)) ⟨kd.sum,belowLo r.lo n w,belowHi r.hi n w,r.ans,r.ways++[w]⟩=G:=by
   have h1:formP p wid key x (i == 0) false r=some (nextR key false r n):=by
    unfold formP
    rw [hread]
    show (if goodB p wid (i == 0) false r n=true then _ else _)=_
    rw [hgd];rfl
   rw [h1,hN] at hrd
   exact hrd
  have hi1:i+1<fs.length:=by
   rw [List.length_drop,beq_eq_false_iff_ne] at hla;omega
  generalize belowLo r.lo n w=lo2 at cB hnx
  generalize belowHi r.hi n w=hi2 at cB hnx
  refine Wk (Yy k_b10 (Yy n1 (Yy k_b11 (Yy n2 (Yy n3 (Yy k_b12 (Yy n4 (Yy n5 (Yy n6 (Yy k_b14 (Yy n7 (Yy n8 (Yy n9 (Yy n10 (Yy k_b16 (Yy n11 (Yy n12 (Yy n13 (Yy n14 (Yy n15 (Yy f2 hfl))))))))))))))))))))) ?_
  refine cQ (cL _) ?_
  refine Wk (Yy k_b10 (Yy n1 (Yy k_b11 (Yy n2 (Yy n3 (Yy k_b12 (Yy n4 (Yy n5 (Yy n6 (Yy k_b14 (Yy n7 (Yy n8 (Yy n9 (Yy n10 (Yy k_b16 (Yy n11 (Yy n12 (Yy n13 (Yy n14 (Yy n15 z4)))))))))))))))))))) ?_
  refine cQ (cW _) ?_
  refine Wk (Yy k_b10 (Yy n1 (Yy k_b11 (Yy n2 (Yy n3 (Yy k_b12 (Yy n4 (Yy n5 (Yy n6 (Yy k_b14 (Yy n7 (Yy n8 (Yy n9 (Yy n10 (Yy k_b16 (Yy n11 (Yy n12 (Yy n13 (Yy n14 n15))))))))))))))))))) ?_
  refine wap 3 1 8 ?_ ?_ ?_ (fun g _ hgo=>?_)
  ·exact sz_map (f:=natD) (fun _=>rfl) (fun d hd=>by simp only [List.mem_singleton] at hd;subst hd;rfl)
  ·exact hg.may
  ·rw [List.length_map];simp only [List.length_singleton];omega
  have hg2:=hg.add (ns:=[iD w]) hgo
  refine Wk (Yy k_b10 (Yy n1 (Yy k_b11 (Yy n2 (Yy n3 (Yy k_b12 (Yy n4 (Yy n5 (Yy n6 (Yy k_b14 (Yy n7 (Yy n8 (Yy n9 (Yy n10 (Yy k_b16 (Yy n11 (Yy n12 (Yy n13 (Yy n14 n15))))))))))))))))))) ?_
  refine cQ (cB _) ?_
  refine Wk (Yy k_b10 (Yy n1 (Yy k_b11 (Yy n2 (Yy n3 (Yy k_b12 (Yy n4 (Yy n5 (Yy n6 (Yy k_b14 (Yy n7 (Yy n8 (Yy n9 (Yy n10 (Yy k_b16 (Yy n11 (Yy n12 (Yy n13 (Yy n14 (Yy n15 (Yy hgk (Yy g2 (Yy Int.toNat_natCast f1))))))))))))))))))))))) ?_
  refine ⟨[iD (i+1:Nat),.any,.any,.any,.any,.any,.any,.any],⟨(b12,36,.dg kd.sum)::(b11,157,bdD lo2 hi2)::(b10,67,.agg [ansD r.ans,.sl .none (fs.map sD),.sl (.own g 3 1) ((r.ways++[w]).map natD)])::(b8,67,.agg [ansD none,.sl .nil [],.sl .nil []])::S.bk,(g,(r.ways.map natD++[iD w]).length*1)::dropTok tw ow⟩,?_,?_,⟨i+1,⟨kd.sum,lo2,hi2,r.ans,r.ways++[w]⟩,.own g 3 1,_,rfl,rfl,hi1,hnx,?_,?_⟩,?_⟩
  ·exact wK
  ·simp only [List.map_append,List.map_cons,List.map_nil]
   exact (Sto.Sub.refl _).cons.cons
  ·simp only [List.map_append,List.map_cons,List.map_nil]
   exact hg2
  ·simp only [List.length_append,List.length_cons,List.length_nil];omega
  ·exact mE


theorem told_arg {p wid:Int} {root:Dg} {key s:Bs} (h:argsB p wid root key=false):ansP p wid root key s=none∧formsP p wid root key s=[]∧waysP p wid root key s=[]∧errP p wid root key s=2:=by
 unfold ansP formsP waysP errP;rw [h];exact ⟨rfl,rfl,rfl,rfl⟩
theorem told_no {p wid:Int} {root:Dg} {key s:Bs} (h:argsB p wid root key=true) (hp:proofP p wid root key s=none):ansP p wid root key s=none∧formsP p wid root key s=[]∧waysP p wid root key s=[]∧errP p wid root key s=150:=by
 unfold ansP formsP waysP errP;rw [h,hp];exact ⟨rfl,rfl,rfl,rfl⟩
theorem told_yes {p wid:Int} {root:Dg} {key s:Bs} {fs:List Bs} {r:Rg} (h:argsB p wid root key=true) (hp:proofP p wid root key s=some (fs,r)):ansP p wid root key s=r.ans∧formsP p wid root key s=fs∧waysP p wid root key s=r.ways∧errP p wid root key s=0:=by
 unfold ansP formsP waysP errP;rw [h,hp];exact ⟨rfl,rfl,rfl,rfl⟩
theorem aRRead15 (p wid:Int) (root:Dg) (key s:Bs) (S:Sto) (hs:s.length≤1048576) :
  ACalls Tryz.prog 32 [frD p wid,.dg root,sD key,sD s] S (RetQ (.tup [toldD (ansP p wid root key s) (formsP p wid root key s) (waysP p wid root key s),iD (errP p wid root key s)]) S):=by
 have c1:=fun S=>aRight p wid S
 cases hr:rightB p wid with
 | false=>
  obtain ⟨h1,h2,h3,h4⟩:=told_arg (s:=s) (show argsB p wid root key=false by unfold argsB;rw [hr];rfl)
  rw [h1,h2,h3,h4]
  rw [hr] at c1
  refine acalls_of prg Tryz.func32 rfl (by kernel_rfl) (congrArg Array.toList Tryz.results32) Tryz.ntmps32 (fun B hB=>fA ?_)
  refine Wk Y0 ?_
  refine aL fun b8 k_b8 o_b8=>?_
  refine Wk Y0 ?_
  refine cQ (c1 _) ?_
  refine Wk Y0 ?_
  refine enduq (S':=S) (sR Y0) (by rfl) (Sto.Sub.refl _).cons
 | true=>
 have hr':=rightB_iff.1 hr
 rw [hr] at c1
 obtain ⟨wn,rfl⟩:=Int.eq_ofNat_of_zero_le (show 0≤wid by omega)
 have c2:=fun S=>aRFits p wn root S (by omega) (by omega)
 have c3:=fun S=>aMayKey p wn key S (by omega) (by omega)
 cases hf:fitB wn root with
 | false=>
  obtain ⟨h1,h2,h3,h4⟩:=told_arg (s:=s) (show argsB p wn root key=false by unfold argsB;rw [hr,hf];rfl)
  rw [h1,h2,h3,h4]
  rw [hf] at c2
  refine acalls_of prg Tryz.func32 rfl (by kernel_rfl) (congrArg Array.toList Tryz.results32) Tryz.ntmps32 (fun B hB=>fA ?_)
  refine Wk Y0 ?_
  refine aL fun b8 k_b8 o_b8=>?_
  refine Wk Y0 ?_
  refine cQ (c1 _) ?_
  refine Wk Y0 ?_
  refine cQ (c2 _) ?_
  refine Wk Y0 ?_
  refine enduq (S':=S) (sR Y0) (by rfl) (Sto.Sub.refl _).cons
 | true=>
 rw [hf] at c2
 cases hk:keyedB p key with
 | false=>
  obtain ⟨h1,h2,h3,h4⟩:=told_arg (s:=s) (show argsB p wn root key=false by unfold argsB;rw [hr,hf,hk];rfl)
  rw [h1,h2,h3,h4]
  rw [hk] at c3
  refine acalls_of prg Tryz.func32 rfl (by kernel_rfl) (congrArg Array.toList Tryz.results32) Tryz.ntmps32 (fun B hB=>fA ?_)
  refine Wk Y0 ?_
  refine aL fun b8 k_b8 o_b8=>?_
  refine Wk Y0 ?_
  refine cQ (c1 _) ?_
  refine Wk Y0 ?_
  refine cQ (c2 _) ?_
  refine Wk Y0 ?_
  refine cQ (c3 _) ?_
  refine Wk Y0 ?_
  refine enduq (S':=S) (sR Y0) (by rfl) (Sto.Sub.refl _).cons
 | true=>
 rw [hk] at c3
 have ha:argsB p wn root key=true:=by unfold argsB;rw [hr,hf,hk];rfl
 cases hsp:splitP s with
 | none=>
  obtain ⟨h1,h2,h3,h4⟩:=told_no (s:=s) ha (by unfold proofP;rw [hsp])
  rw [h1,h2,h3,h4]
  refine acalls_of prg Tryz.func32 rfl (by kernel_rfl) (congrArg Array.toList Tryz.results32) Tryz.ntmps32 (fun B hB=>fA ?_)
  refine Wk Y0 ?_
  refine aL fun b8 k_b8 o_b8=>?_
  refine Wk Y0 ?_
  refine cQ (c1 _) ?_
  refine Wk Y0 ?_
  refine cQ (c2 _) ?_
  refine Wk Y0 ?_
  refine cQ (c3 _) ?_
  refine Wk Y0 ?_
  refine cX (aRSplit s _ (by omega)) ?_
  rintro d S1 ⟨hd,rfl⟩
  unfold splitR at hd
  rw [hsp] at hd
  obtain ⟨c,k,hc,rfl⟩:=hd
  have z0:(c != 0)=true:=bne_iff_ne.2 hc
  refine Wk z0 ?_
  refine enduq (S':=S) (sR Y0) (by rfl) (Sto.Sub.refl _).cons
 | some fs=>
  have hsz:=splitP_shr hsp
  have c4:=fun S=>aProves p wn root key fs S hr (fun x hx=>Nat.le_trans (hsz x hx) hs)
  have hP:proofP p wn root key s=(if 0<fs.length∧fs.length≤33 then readF p wn key 0 fs (rg0 root) else none).map fun r=>(fs,r):=by
   unfold proofP;rw [hsp];show (if 0<fs.length∧fs.length≤33 then _ else _)=_;split <;> rfl
  generalize (if 0<fs.length∧fs.length≤33 then readF p wn key 0 fs (rg0 root) else none)=G at c4 hP
  have z0:((0:Int) != 0)=false:=rfl
  cases G with
  | none=>
   obtain ⟨h1,h2,h3,h4⟩:=told_no (s:=s) ha hP
   rw [h1,h2,h3,h4]
   refine acalls_of prg Tryz.func32 rfl (by kernel_rfl) (congrArg Array.toList Tryz.results32) Tryz.ntmps32 (fun B hB=>fA ?_)
   refine Wk Y0 ?_
   refine aL fun b8 k_b8 o_b8=>?_
   refine Wk Y0 ?_
   refine cQ (c1 _) ?_
   refine Wk Y0 ?_
   refine cQ (c2 _) ?_
   refine Wk Y0 ?_
   refine cQ (c3 _) ?_
   refine Wk Y0 ?_
   refine cX (aRSplit s _ (by omega)) ?_
   rintro d S1 ⟨hd,rfl⟩
   unfold splitR at hd
   rw [hsp] at hd
   subst hd
   refine Wk z0 ?_
   refine cX (c4 _) ?_
   rintro d S2 ⟨⟨a,ws,rfl⟩,rfl⟩
   refine Wk Y0 ?_
   refine aL fun b13 k_b13 o_b13=>?_
   have n1:=nes k_b13.1
   refine Wk (Yy k_b13 n1) ?_
   refine enduq (S':=S) (sR (Yy k_b13 n1)) (by rfl) (Sto.Sub.refl _).cons.cons
  | some r=>
   obtain ⟨h1,h2,h3,h4⟩:=told_yes (s:=s) ha hP
   rw [h1,h2,h3,h4]
   refine acalls_of prg Tryz.func32 rfl (by kernel_rfl) (congrArg Array.toList Tryz.results32) Tryz.ntmps32 (fun B hB=>fA ?_)
   refine Wk Y0 ?_
   refine aL fun b8 k_b8 o_b8=>?_
   refine Wk Y0 ?_
   refine cQ (c1 _) ?_
   refine Wk Y0 ?_
   refine cQ (c2 _) ?_
   refine Wk Y0 ?_
   refine cQ (c3 _) ?_
   refine Wk Y0 ?_
   refine cX (aRSplit s _ (by omega)) ?_
   rintro d S1 ⟨hd,rfl⟩
   unfold splitR at hd
   rw [hsp] at hd
   subst hd
   refine Wk z0 ?_
   refine cX (c4 _) ?_
   rintro d S2 ⟨rfl,rfl⟩
   refine Wk Y0 ?_
   refine aL fun b13 k_b13 o_b13=>?_
   have n1:=nes k_b13.1
   refine Wk (Yy k_b13 n1) ?_
   refine endq (S':=S) (sR (Yy k_b13 n1)) (by rfl) (Sto.Sub.refl _).cons.cons

@[go_sem] abbrev byD (l:Bs):D:=.sl .none (l.map fun x=>.v (.int .u8 x.toNat))
@[go_sem] abbrev askD (p wid:Int) (rt:D) (key lo hi x y:Bs):D:=.agg [frD p wid,rt,sD key,sD lo,sD hi,sD x,sD y]
def rootOf (rb:Bs):Dg:=Dg.pad (rb.take 32)
section
variable {P : Program} {T : TypeId → Ty} {B : Bg} {Q : AX → List D → Sto → Prop} {ops : Array Oper} {o : Oper} {l : List Oper} {A : List D} {S : Sto}
theorem AOps.lenRaw (hP:Prg P T) {x:Operand} {t e:TypeId} {ad:Option Addr} {n c:Nat} (ho:o.op=.call ⟨.builtin .len,#[x],#[t]⟩) (hw:wantedA ops A o=some true) (hx:evalO A x=.v (.slice ad n c)) (ht:T t=.slice e)
  (h:AOps P B ops Q l (putA A o.dst (.v (.int .i64 (n:Nat)))) S):AOps P B ops Q (o::l) A S:=
 AOps.does hw (fun a w k=>by
  obtain ⟨dst,op,type,pos,after,guard⟩:=o
  simp only at ho
  subst ho
  have hv:=evalO_ok k.act x
  rw [hx] at hv
  unfold RVal at hv
  obtain ⟨hv,-⟩:=hv
  have ok:=hP.ty t (by rw [ht];simp)
  rw [ht] at ok
  obtain ⟨dd,h1,h2⟩:=ok.desc
  simp only [Ty.isDesc] at h2
  subst h2
  refine ⟨_,.int .i64 (n:Nat),w,?_,.inl rfl,RVal.vv rfl,k.st,Evo.refl _ _⟩
  simp only [execOp,resolve,Sem.run_bind,Sem.run_pure,Result.andThen_ok,invoke,builtin,List.map_toArray,List.map_cons,List.map_nil,hv]
  simp [Builtin.len_,Sem.run_bind,run_underlying h1,goInt]) h
end
theorem aRoot (p wid:Int) (rb key lo hi x y:Bs) (S:Sto) (hrb:rb.length≤140737488351232):ACalls Tryz.prog 13 [askD p wid (byD rb) key lo hi x y] S (RetQ (.dg (rootOf rb)) S):=by
 refine acalls_of prg Tryz.func13 rfl (by kernel_rfl) (congrArg Array.toList Tryz.results13) Tryz.ntmps13 (fun B hB=>fA ?_)
 refine Wk Y0 ?_
 refine aL fun b2 k_b2 o_b2=>?_
 refine Wk Y0 ?_
 refine aL fun b3 k_b3 o_b3=>?_
 have hn2:¬ b2=b3:=nes k_b3.1
 refine Wk Y0 ?_
 refine AW.loopS 5 [4] (fun xs S'=>∃ i:Nat,xs=[iD i]∧S'=⟨(b3,36,.dg (padTo rb i))::(b2,36,.dg Dg.zero)::S.bk,S.ow⟩∧i≤rb.length∧i≤32) (fun xs _=>32 - nI (xs.getD 0 .any)) [iD 0] _ ?_ (Sto.Sub.refl _) ⟨0,rfl,rfl,by omega,by omega⟩ ?_
 ·exact wK
 rintro xs S' ⟨i,rfl,rfl,hi,hi2⟩
 refine fR ?_
 have fin:¬ (i<32∧i<rb.length)→padTo rb i=rootOf rb:=fun h=>by
  unfold padTo rootOf
  by_cases h32:i=32
  ·rw [h32]
  ·rw [List.take_of_length_le (by omega),List.take_of_length_le (by omega)]
 by_cases h32:i<32
 case neg=>
  have d1:decide ((i:Int)<32)=false:=decide_eq_false (by omega)
  rw [fin (fun h=>h32 h.1)]
  refine Wk (Yy d1 (Yy k_b3 hn2)) ?_
  refine endq (S':=S) (sR (Yy k_b3 hn2)) (by rfl) (Sto.Sub.refl _).cons.cons
 have d1:decide ((i:Int)<32)=true:=decide_eq_true (by omega)
 by_cases hlt:i<rb.length
 ·have d2:decide ((i:Int)<rb.length)=true:=decide_eq_true (by omega)
  obtain ⟨u,hu⟩:∃ u,rb[i]?=some u:=⟨_,List.getElem?_eq_getElem hlt⟩
  have hgt:(rb.map fun x=>(D.v (.int .u8 x.toNat)))[i]?=some (.v (.int .u8 u.toNat)):=by rw [List.getElem?_map,hu];rfl
  have c1:(0:Int)≤(i:Int):=by omega
  have c2:(0:Int)≤(i:Int)∧(i:Int)<32:=by omega
  have c3:i<32∧(0:Int)≤(u.toNat:Int)∧(u.toNat:Int)<256:=by have:=u.toNat_lt;omega
  have f1:IntKind.i64.wrap ((i:Int)+1)=((i+1:Nat):Int):=IntWalk.i64_in _ (by omega)
  have hset:=padTo_set rb i u hu (by omega)
  refine Wk (Yy d1 (Yy d2 (Yy hgt (Yy c1 (Yy c2 (Yy c3 (Yy f1 (Yy hset (Yy hn2 (Yy Int.toNat_natCast Nat.zero_add)))))))))) ?_
  refine ⟨[iD (i+1:Nat)],_,?_,Sto.Sub.refl _,⟨i+1,rfl,rfl,by omega,by omega⟩,?_⟩
  ·exact wK
  ·exact mE
 ·have d2:decide ((i:Int)<rb.length)=false:=decide_eq_false (by omega)
  rw [fin (fun h=>hlt h.2)]
  refine Wk (Yy d1 (Yy d2 (Yy k_b3 hn2))) ?_
  refine endq (S':=S) (sR (Yy k_b3 hn2)) (by rfl) (Sto.Sub.refl _).cons.cons
theorem aRoot0 (p wid:Int) (ad:Option Addr) (c:Nat) (key lo hi x y:Bs) (S:Sto):ACalls Tryz.prog 13 [askD p wid (.v (.slice ad 0 c)) key lo hi x y] S (RetQ (.dg (rootOf [])) S):=by
 refine acalls_of prg Tryz.func13 rfl (by kernel_rfl) (congrArg Array.toList Tryz.results13) Tryz.ntmps13 (fun B hB=>fA ?_)
 refine Wk Y0 ?_
 refine aL fun b2 k_b2 o_b2=>?_
 refine Wk Y0 ?_
 refine aL fun b3 k_b3 o_b3=>?_
 have hn2:¬ b2=b3:=nes k_b3.1
 refine Wk Y0 ?_
 refine AW.loopS 5 [4] (fun xs S'=>xs=[iD 0]∧S'=⟨(b3,36,.dg (rootOf []))::(b2,36,.dg Dg.zero)::S.bk,S.ow⟩) (fun xs _=>0) [iD 0] _ ?_ (Sto.Sub.refl _) ⟨rfl,rfl⟩ ?_
 ·exact wK
 rintro xs S' ⟨rfl,rfl⟩
 refine fR ?_
 have d1:decide ((0:Int)<32)=true:=by decide
 have d2:decide ((0:Int)<((0:Nat):Int))=false:=by decide
 refine Wk (Yy d1 (Yy k_b3 hn2)) ?_
 refine AOps.lenRaw prg (by rfl) (by rfl) (by rfl) (by rfl) ?_
 refine Wk (Yy d1 (Yy d2 (Yy k_b3 hn2))) ?_
 refine endq (S':=S) (sR (Yy k_b3 hn2)) (by rfl) (Sto.Sub.refl _).cons.cons


theorem nodeOf_some {p wid:Int} {s:Bs} {n:Nd} (h:readP p wid s=some n):nodeOf p wid s=n:=by unfold nodeOf;rw [h];rfl
theorem text_same {p wid:Int} {s:Bs} {n:Nd} (h:readP p wid s=some n):textR p wid s=textF p wid s:=by
 unfold textR textF
 rw [nodeOf_some h]
 unfold tagN
 rw [read_leaf h]
 by_cases hk:n.kids.length=0
 ·rw [if_pos hk,if_pos (by rw [hk];rfl)]
 ·rw [if_neg hk,if_neg (by simpa using hk)]
theorem formP_some {p wid:Int} {key s:Bs} {first last:Bool} {r r':Rg} (h:formP p wid key s first last r=some r'):∃ n,readP p wid s=some n∧((n.kids.length == 0)=last)∧r'=nextR key last r n:=by
 unfold formP at h
 cases hn:readP p wid s with
 | none=>rw [hn] at h;cases h
 | some n=>
  rw [hn] at h
  simp only [] at h
  split at h
  ·rename_i hg
   refine ⟨n,rfl,?_,by simpa using h.symm⟩
   unfold goodB at hg
   simp only [Bool.and_eq_true,beq_iff_eq] at hg
   exact hg.1.1.2
  ·cases h
theorem readF_cons {p wid:Int} {key x:Bs} {i:Nat} {l:List Bs} {r r1:Rg} (h:readF p wid key i (x::l) r=some r1):∃ r',formP p wid key x (i == 0) (l.length == 0) r=some r'∧readF p wid key (i+1) l r'=some r1:=by
 unfold readF at h
 cases hf:formP p wid key x (i == 0) (l.length == 0) r with
 | none=>rw [hf] at h;cases h
 | some r'=>rw [hf] at h;exact ⟨r',rfl,h⟩
theorem proof_some {p wid:Int} {root:Dg} {key s:Bs} (h:errP p wid root key s=0):∃ r,readF p wid key 0 (formsP p wid root key s) (rg0 root)=some r∧r.ans=ansP p wid root key s∧formsP p wid root key s≠[]:=by
 cases ha:argsB p wid root key with
 | false=>rw [(told_arg ha).2.2.2] at h;cases h
 | true=>
  cases hp:proofP p wid root key s with
  | none=>rw [(told_no ha hp).2.2.2] at h;cases h
  | some x=>
   obtain ⟨fs,r⟩:=x
   obtain ⟨h1,h2,_,_⟩:=told_yes ha hp
   rw [h1,h2]
   unfold proofP at hp
   split at hp
   ·cases hp
   ·split at hp
    ·rename_i hl
     obtain ⟨r',hr,he⟩:=Option.map_eq_some_iff.1 hp
     simp only [Prod.mk.injEq] at he
     obtain ⟨rfl,rfl⟩:=he
     exact ⟨r',hr,rfl,fun h0=>by rw [h0] at hl;simp at hl⟩
    ·cases hp

theorem forms_any (p wid:Int) (root:Dg) (key s:Bs):(∀ z∈formsP p wid root key s,z.length≤s.length)∧(formsP p wid root key s).length≤34:=by
 by_cases h:errP p wid root key s=0
 ·obtain ⟨f,l,h1,h2,h3⟩:=forms_ok h
  rw [h1]
  exact ⟨h2,by simp only [List.length_cons];omega⟩
 ·have:formsP p wid root key s=[]:=by
   cases ha:argsB p wid root key with
   | false=>exact (told_arg ha).2.1
   | true=>
    cases hp:proofP p wid root key s with
    | none=>exact (told_no ha hp).2.1
    | some x=>obtain ⟨fs,r⟩:=x;exact absurd (told_yes ha hp).2.2.2 h
  rw [this]
  exact ⟨fun z hz=>(by cases hz),by simp⟩
def RtOk (rt:D) (rb:Bs):Prop:=rt=byD rb∨(rb=[]∧∃ ad c,rt=.v (.slice ad 0 c))
end Go.Proofs.YtcaggadjkccbiaaGreat