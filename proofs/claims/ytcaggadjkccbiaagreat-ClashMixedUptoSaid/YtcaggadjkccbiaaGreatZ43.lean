/- A node is read, its digest, its way (values without addresses). -/
import Derived.Test.YtcaggadjkccbiaaGreatZ36
import Derived.Test.YtcaggadjkccbiaaGreatZ34
import Derived.Test.YtcaggadjkccbiaaGreatZ35
import Derived.Test.YtcaggadjkccbiaaGreatZ42
namespace Go.Proofs.YtcaggadjkccbiaaGreat
set_option maxHeartbeats 1000000
set_option maxRecDepth 100000
set_option linter.unusedVariables false
set_option linter.unusedSimpArgs false
open Go Go.RowKit

theorem fresh_I {w:World} {S:Sto} (hS:StAt w S) {g:Nat} (hg:w.heap.size≤g) (e:Nat):S.I g e:=
 ⟨fun hm=>absurd (hS.lt (.inl hm)) (by omega),fun L hL=>absurd (hS.lt (.inr (List.mem_map.2 ⟨_,hL,rfl⟩))) (by omega)⟩
theorem Own.rv {α:Type} {w:World} {I:Nat→Nat→Prop} {f:α→D} {cs:α→List Value} {z:Nat} {t:TypeId} {a:Option Addr} {c:Nat} {l:List α} (h:Own w t z a l.length c (l.flatMap cs)) (hf:∀ x us,RV w I (f x) us ↔ us=cs x) (hz:∀ x,(f x).size=z) (hI:∀ g∈ab a,∀ e,I g e) :
  RV w I (.sl .none (l.map f)) [.slice a l.length c]:=by
 unfold RV
 refine ⟨a,_,c,rfl,by simp,?_⟩
 obtain ⟨h1,h2⟩:=h.block
 rcases h2 with ⟨rfl,h3,rfl⟩ | ⟨g,cur,rfl,hb,hn,-,hcs,htk⟩
 ·refine ⟨by omega,trivial,.inl ⟨rfl,?_,rfl⟩⟩
  have:l=[]:=List.eq_nil_of_length_eq_zero h3
  simp [this]
 ·refine ⟨hn,trivial,.inr ⟨g,0,rfl,hb.lt,hI g (by simp [ab]) _,⟨z,fun e he=>?_⟩,?_⟩⟩
  ·obtain ⟨x,_,rfl⟩:=List.mem_map.1 he;exact hz x
  ·refine REs.of_flat _ 0 (l.flatMap cs) ((rvs_flat f cs hf l _).2 rfl) (fun j v hj=>?_)
   rw [Nat.zero_add,hb.cell j]
   rw [← htk,List.getElem?_take] at hj
   split at hj
   ·simpa using hj
   ·cases hj
theorem Own3.nd {w w':World} {S:Sto} {pa sa ka:Option Addr} {pc sc kc:Nat} {n:Nd} (hS:StAt w S) (h:Own3 w' w.heap.size pa sa ka pc sc kc n):RVal w' S.I (ndA n) (.agg #[.slice pa n.pairs.length pc,.slice sa n.seps.length sc,.slice ka n.kids.length kc]):=by
 unfold ndA ndT RVal
 have hI:∀ g∈ab pa++ab sa++ab ka,∀ e,S.I g e:=fun g hg e=>fresh_I hS (h.lo g hg) e
 refine ⟨[.slice pa n.pairs.length pc,.slice sa n.seps.length sc,.slice ka n.kids.length kc],rfl,RVs.mk3 (xs:=[_]) (ys:=[_]) (zs:=[_]) ?_ ?_ ?_⟩
 ·exact Own.rv h.ps (fun x us=>rv_pr x us) (fun _=>rfl) (fun g hg=>hI g (by simp [hg]))
 ·exact Own.rv h.ss (fun x us=>rv_sd x us) (fun _=>rfl) (fun g hg=>hI g (by simp [hg]))
 ·exact Own.rv h.ks (fun x us=>rv_kd x us) (fun _=>rfl) (fun g hg=>hI g (by simp [hg]))

theorem aNRight (p wd:Int) (S:Sto):ACalls Tryz.prog 24 [frD p wd] S (RetQ (bD (rightB p wd)) S):=
 ACalls.liftq (callable Tryz.func24 rfl (by kernel_rfl)) fun w xs hS hx=>by
  obtain ⟨x,ys,rfl,h1,h2⟩:=hx.cons
  obtain rfl:=h2.nil
  obtain rfl:=h1.frame
  exact (right_any p wd w).mono fun e w' h=>⟨_,h.kp.1,h.kp.2,RVal.of_bool⟩
theorem aMay (p wd:Int) (n:Nd) (S:Sto) (ho:NdOk n):ACalls Tryz.prog 98 [frD p wd,ndA n] S (RetQ (iD (mayE p wd n)) S):=
 ACalls.liftq (callable Tryz.func98 rfl (by kernel_rfl)) fun w xs hS hx=>by
  obtain ⟨x,ys,rfl,h1,h2⟩:=hx.cons
  obtain ⟨y,zs,rfl,h3,h4⟩:=h2.cons
  obtain rfl:=h4.nil
  obtain rfl:=h1.frame
  obtain ⟨pa,sa,ka,pc,sc,kc,rfl,hn⟩:=h3.node
  exact (may_any p wd pa sa ka pc sc kc n w hn ho).mono fun e w' h=>⟨_,h.kp.1,h.kp.2,RVal.of_int⟩
def parseD (r:Option Nd) (d:D):Prop:=
 match r with
 | some n=>d=.tup [ndA n,bD true]
 | none=>∃ x y z,d=.tup [.agg [.v x,.v y,.v z],bD false]
theorem aParse (P wd:Nat) (pages:Bool) (s:Bs) (S:Sto) (hs:s.length≤3909374676453) (hP0:1024≤P) (hP:P≤8192) (hwd:wd≤32) :
  ACalls Tryz.prog 97 [frD P wd,sD s,bD pages] S (fun e S'=>∃ d,e=.ret d∧parseD (parseP P wd pages s) d∧S'=S):=
 ACalls.lift (callable Tryz.func97 rfl (by kernel_rfl)) _ fun w xs hS hx=>by
  obtain ⟨x,ys,rfl,h1,h2⟩:=hx.cons
  obtain ⟨y,zs,rfl,h3,h4⟩:=h2.cons
  obtain ⟨y2,zs,rfl,h5,h6⟩:=h4.cons
  obtain rfl:=h6.nil
  obtain rfl:=h1.frame
  obtain rfl:=h3.str
  obtain rfl:=h5.bool
  refine (parse_any P wd pages s w hs hP0 hP hwd).mono fun e w' h=>?_
  unfold ParsePost at h
  unfold parseD
  split at h
  ·rename_i n hn
   obtain ⟨pa,sa,ka,pc,sc,kc,rfl,ho,hk⟩:=h
   exact ⟨_,_,rfl,hk,RVal.mk_tup (RVals.mk (ho.nd hS) (RVals.mk RVal.of_bool RVals.mk0)),by rw [hn]⟩
  ·rename_i hn
   obtain ⟨pa,sa,ka,pn,sn,kn,pc,sc,kc,rfl,hk⟩:=h
   refine ⟨_,.tup [.agg [.v (.slice pa pn pc),.v (.slice sa sn sc),.v (.slice ka kn kc)],bD false],rfl,hk,RVal.mk_tup (RVals.mk ?_ (RVals.mk RVal.of_bool RVals.mk0)),by rw [hn];exact ⟨_,_,_,rfl⟩⟩
   unfold RVal
   exact ⟨[_,_,_],rfl,RVs.mk3 (xs:=[_]) (ys:=[_]) (zs:=[_]) (by unfold RV;exact ⟨rfl,rfl⟩) (by unfold RV;exact ⟨rfl,rfl⟩) (by unfold RV;exact ⟨rfl,rfl⟩)⟩

theorem aNRead (p wd:Int) (s:Bs) (S:Sto) (hs:s.length≤3909374676453) :
  ACalls Tryz.prog 58 [frD p wd,sD s] S (RetQ (.tup [ndA ((readP p wd s).getD noN),iD (okE (readP p wd s) (unpackE p wd))]) S):=by
 refine acalls_of prg Tryz.func58 rfl (by kernel_rfl) (congrArg Array.toList Tryz.results58) Tryz.ntmps58 (fun B hB=>fA ?_)
 cases hr:rightB p wd
 ·have e1:unpackE p wd=2:=by simp [unpackE,hr]
  rw [read_arg hr,e1]
  have c:=aNRight p wd;rw [hr] at c
  refine Wk Y0 ?_
  refine aL fun b4 k_b4 o_b4=>?_
  refine Wk Y0 ?_
  refine cQ (c _) ?_
  refine Wk Y0 ?_
  refine enduq (sR Y0) (by rfl) (Sto.Sub.refl _).cons
 ·have hr':=rightB_iff.1 hr
  obtain ⟨P,rfl⟩:=Int.eq_ofNat_of_zero_le (show 0≤p by omega)
  obtain ⟨W,rfl⟩:=Int.eq_ofNat_of_zero_le (show 0≤wd by omega)
  have e1:unpackE P W=73:=by simp [unpackE,hr]
  have c:=aNRight P W;rw [hr] at c
  rw [e1]
  have hu:readP P W s=(parseP P W false s).filter (fun n=>decide (mayE P W n=0)):=by unfold readP;rw [if_pos hr];rfl
  refine Wk Y0 ?_
  refine aL fun b4 k_b4 o_b4=>?_
  refine Wk Y0 ?_
  refine cQ (c _) ?_
  refine Wk Y0 ?_
  refine cX (aParse P W false s _ hs (by omega) (by omega) (by omega)) ?_
  rintro d S1 ⟨hd,rfl⟩
  cases hp:parseP P W false s with
  | none=>
   rw [hp] at hd hu
   obtain ⟨x,y,z,rfl⟩:=hd
   rw [hu]
   refine Wk Y0 ?_
   refine aL fun b6 k_b6 o_b6=>?_
   have hm46:=nes k_b6.1
   refine Wk (Yy hm46 k_b6) ?_
   refine enduq (sR (Yy hm46 k_b6)) (by rfl) (Sto.Sub.refl _).cons.cons
  | some n=>
   rw [hp] at hd hu
   unfold parseD at hd
   subst hd
   have ho:=parseP_ok hs hp
   obtain ⟨k,hk⟩:∃ t,mayE P W n=t:=⟨_,rfl⟩
   have cm:=fun S=>aMay P W n S ho
   rw [hk] at cm
   rw [hu,Option.filter_some,hk]
   refine Wk Y0 ?_
   refine aL fun b6 k_b6 o_b6=>?_
   have hm46:=nes k_b6.1
   refine Wk (Yy hm46 k_b6) ?_
   refine cQ (cm _) ?_
   by_cases h0:k=0
   ·have n0:(k != 0)=false:=by rw [h0];rfl
    rw [if_pos (decide_eq_true h0)]
    refine Wk (Yy n0 (Yy hm46 k_b6)) ?_
    refine enduq (sR (Yy hm46 k_b6)) (by rfl) (Sto.Sub.refl _).cons.cons
   ·have n0:(k != 0)=true:=by simpa using h0
    rw [if_neg (by simpa using h0)]
    refine Wk (Yy n0 (Yy hm46 k_b6)) ?_
    refine enduq (sR (Yy hm46 k_b6)) (by rfl) (Sto.Sub.refl _).cons.cons
theorem aNSum (p wd:Int) (n:Nd) (S:Sto) (ho:NdOk n):ACalls Tryz.prog 90 [frD p wd,ndA n] S (RetQ (.tup [.dg (sumN p wd n).1,iD (sumN p wd n).2]) S):=
 ACalls.liftq (callable Tryz.func90 rfl (by kernel_rfl)) fun w xs hS hx=>by
  obtain ⟨x,ys,rfl,h1,h2⟩:=hx.cons
  obtain ⟨y,zs,rfl,h3,h4⟩:=h2.cons
  obtain rfl:=h4.nil
  obtain rfl:=h1.frame
  obtain ⟨pa,sa,ka,pc,sc,kc,rfl,hn⟩:=h3.node
  exact (nsum_any p wd pa sa ka pc sc kc n w hn ho).mono fun e w' h=>⟨_,h.kp.1,h.kp.2,RVal.mk_tup (RVals.mk (by unfold RVal;rfl) (RVals.mk RVal.of_int RVals.mk0))⟩
theorem aFits (wd:Int) (d:Dg) (S:Sto):ACalls Tryz.prog 48 [iD wd,.dg d] S (RetQ (bD (fitB wd d)) S):=
 ACalls.liftq (callable Tryz.func48 rfl (by kernel_rfl)) fun w xs hS hx=>by
  obtain ⟨x,ys,rfl,h1,h2⟩:=hx.cons
  obtain ⟨y,zs,rfl,h3,h4⟩:=h2.cons
  obtain rfl:=h4.nil
  obtain rfl:=h1.int
  obtain rfl:=h3.dig
  exact (fits_any wd d w).mono fun e w' h=>⟨_,h.kp.1,h.kp.2,RVal.of_bool⟩
theorem aMaxKey (p wd:Int) (S:Sto) (h0:0≤p) (h1:p≤1000000):ACalls Tryz.prog 116 [frD p wd] S (RetQ (iD (p / 16)) S):=
 ACalls.liftq (callable Tryz.func116 rfl (by kernel_rfl)) fun w xs hS hx=>by
  obtain ⟨x,ys,rfl,h2,h3⟩:=hx.cons
  obtain rfl:=h3.nil
  obtain rfl:=h2.frame
  exact (maxKey_any p wd w h0 h1).mono fun e w' h=>⟨_,h.kp.1,h.kp.2,RVal.of_int⟩

def leB (a b:Bs):Bool:=Op.bytesLess a b || a == b
def wayL (key:Bs):List Bs→Nat
 | []=>0
 | s::l=>if leB s key=true then wayL key l+1 else 0
def findL (key:Bs):List Pr→Nat×Bool
 | []=>(0,false)
 | p::l=>if Op.bytesLess p.1 key=true then ((findL key l).1+1,(findL key l).2) else (0,p.1 == key)
theorem wayL_le (key:Bs):∀ l,wayL key l≤l.length
 | []=>Nat.le_refl _
 | s::l=>by unfold wayL;split <;> simp [wayL_le key l]

theorem aWay (n:Nd) (key:Bs) (S:Sto) (hn:n.seps.length≤140737488351232):ACalls Tryz.prog 62 [ndA n,sD key] S (RetQ (iD (wayL key n.seps:Nat)) S):=by
 refine acalls_of prg Tryz.func62 rfl (by kernel_rfl) (congrArg Array.toList Tryz.results62) Tryz.ntmps62 (fun B hB=>fA ?_)
 refine Wk Y0 ?_
 refine AW.loopS 8 [5,7,9,10,11] (fun xs S'=>∃ i:Nat,xs=[iD i,.any,.sl .none (n.seps.map sD),iD n.seps.length,iD i]∧S'=S∧i≤n.seps.length∧wayL key (n.seps.drop i)+i=wayL key n.seps) (fun xs _=>n.seps.length - nI (xs.getD 0 .any)) [iD 0,.any,.sl .none (n.seps.map sD),iD n.seps.length,iD 0] S ?_ (Sto.Sub.refl _) ⟨0,rfl,rfl,by omega,by simp⟩ ?_
 ·exact wK
 rintro xs S' ⟨i,rfl,rfl,hi,hw⟩
 refine fR ?_
 by_cases hlt:i<n.seps.length
 ·obtain ⟨s,hs⟩:∃ s,n.seps[i]?=some s:=⟨_,List.getElem?_eq_getElem hlt⟩
  have d1:decide ((i:Int)<n.seps.length)=true:=decide_eq_true (by omega)
  have hg:(n.seps.map sD)[i]?=some (sD s):=by rw [List.getElem?_map,hs];rfl
  have c1:(0:Int)≤i:=by omega
  have f1:IntKind.i64.wrap ((i:Int)+1)=((i+1:Nat):Int):=IntWalk.i64_in _ (by omega)
  have hdr:n.seps.drop i=s::n.seps.drop (i+1):=by
   rw [List.drop_eq_getElem_cons hlt]
   congr 1
   exact Option.some.inj ((List.getElem?_eq_getElem hlt).symm.trans hs)
  rw [hdr] at hw
  cases hle:(Op.bytesLess s key || s == key)
  ·have e:wayL key (s::n.seps.drop (i+1))=0:=by unfold wayL leB;rw [hle];rfl
   rw [e] at hw
   rw [← hw,Nat.zero_add]
   refine Wk (Yy d1 (Yy hg (Yy c1 (Yy Int.toNat_natCast hle)))) ?_
   dsimp only [AX.noGoto]
   exact rE
  ·have e:wayL key (s::n.seps.drop (i+1))=wayL key (n.seps.drop (i+1))+1:=by
    show (if leB s key=true then _ else _)=_
    unfold leB;rw [if_pos hle]
   rw [e] at hw
   refine Wk (Yy d1 (Yy hg (Yy c1 (Yy Int.toNat_natCast (Yy hle f1))))) ?_
   refine ⟨[iD (i+1:Nat),.any,.sl .none (n.seps.map sD),iD n.seps.length,iD (i+1:Nat)],S',?_,Sto.Sub.refl _,⟨i+1,rfl,rfl,by omega,by omega⟩,?_⟩
   ·exact wK
   ·exact mE
 ·obtain rfl:i=n.seps.length:=by omega
  have d1:decide ((n.seps.length:Int)<n.seps.length)=false:=decide_eq_false (by omega)
  have e:wayL key (n.seps.drop n.seps.length)=0:=by rw [List.drop_length];rfl
  rw [e,Nat.zero_add] at hw
  rw [← hw]
  refine Wk d1 ?_
  dsimp only [AX.noGoto]
  exact rE

theorem aFind (n:Nd) (key:Bs) (S:Sto) (hn:n.pairs.length≤140737488351232):ACalls Tryz.prog 118 [ndA n,sD key] S (RetQ (.tup [iD ((findL key n.pairs).1:Nat),bD (findL key n.pairs).2]) S):=by
 refine acalls_of prg Tryz.func118 rfl (by kernel_rfl) (congrArg Array.toList Tryz.results118) Tryz.ntmps118 (fun B hB=>fA ?_)
 refine Wk Y0 ?_
 refine AW.loopS 8 [6,7,9,10,11] (fun xs S'=>∃ i:Nat,xs=[.any,.any,.sl .none (n.pairs.map prD),iD n.pairs.length,iD i]∧S'=S∧i≤n.pairs.length∧findL key n.pairs=((findL key (n.pairs.drop i)).1+i,(findL key (n.pairs.drop i)).2)) (fun xs _=>n.pairs.length - nI (xs.getD 4 .any)) [.any,.any,.sl .none (n.pairs.map prD),iD n.pairs.length,iD 0] S ?_ (Sto.Sub.refl _) ⟨0,rfl,rfl,by omega,by simp⟩ ?_
 ·exact wK
 rintro xs S' ⟨i,rfl,rfl,hi,hw⟩
 refine fR ?_
 by_cases hlt:i<n.pairs.length
 ·obtain ⟨s,hs⟩:∃ s,n.pairs[i]?=some s:=⟨_,List.getElem?_eq_getElem hlt⟩
  have d1:decide ((i:Int)<n.pairs.length)=true:=decide_eq_true (by omega)
  have hg:(n.pairs.map prD)[i]?=some (prD s):=by rw [List.getElem?_map,hs];rfl
  have c1:(0:Int)≤i:=by omega
  have f1:IntKind.i64.wrap ((i:Int)+1)=((i+1:Nat):Int):=IntWalk.i64_in _ (by omega)
  have hdr:n.pairs.drop i=s::n.pairs.drop (i+1):=by
   rw [List.drop_eq_getElem_cons hlt]
   congr 1
   exact Option.some.inj ((List.getElem?_eq_getElem hlt).symm.trans hs)
  rw [hdr] at hw
  cases hle:Op.bytesLess s.1 key
  ·have e:findL key (s::n.pairs.drop (i+1))=(0,s.1 == key):=by unfold findL;rw [hle];rfl
   rw [e] at hw
   rw [hw]
   simp only [Nat.zero_add]
   refine Wk (Yy d1 (Yy hg (Yy c1 (Yy Int.toNat_natCast hle)))) ?_
   refine aL fun b7 k_b7 o_b7=>?_
   refine Wk (Yy k_b7 hle) ?_
   refine enduq (sR Y0) (by rfl) (Sto.Sub.refl _).cons
  ·have e:findL key (s::n.pairs.drop (i+1))=((findL key (n.pairs.drop (i+1))).1+1,(findL key (n.pairs.drop (i+1))).2):=by
    show (if Op.bytesLess s.1 key=true then _ else _)=_
    rw [if_pos hle]
   rw [e] at hw
   refine Wk (Yy d1 (Yy hg (Yy c1 (Yy Int.toNat_natCast (Yy hle f1))))) ?_
   refine aL fun b7 k_b7 o_b7=>?_
   refine Wk (Yy k_b7 (Yy hle f1)) ?_
   refine ⟨[.any,.any,.sl .none (n.pairs.map prD),iD n.pairs.length,iD (i+1:Nat)],S',?_,(Sto.Sub.refl _).cons,⟨i+1,rfl,rfl,by omega,by rw [hw];simp only [Prod.mk.injEq,and_true];omega⟩,?_⟩
   ·exact wK
   ·exact mE
 ·obtain rfl:i=n.pairs.length:=by omega
  have d1:decide ((n.pairs.length:Int)<n.pairs.length)=false:=decide_eq_false (by omega)
  have e:findL key (n.pairs.drop n.pairs.length)=(0,false):=by rw [List.drop_length];rfl
  rw [e] at hw
  rw [hw]
  simp only [Nat.zero_add]
  refine Wk d1 ?_
  exact rE


abbrev refD:D:=.v (.iface 137 (.agg #[]))
def PanQ (d:D) (S:Sto):AEnd→Sto→Prop:=fun e S'=>e=.pan d∧S'=S
section
variable {B : Bg} {Q : AX → List D → Sto → Prop} {A : List D} {S S' : Sto} {ops : Array Oper} {l : List Oper} {o : Oper} {T : TypeId → Ty}
theorem wpx {f:FuncId} {args:Array Operand} {ats:Array TypeId} {d:D} (ho:o.op=.call ⟨.value (.func f),args,ats⟩:=by rfl) (hw:wantedA ops A o=some true:=by rfl)
  (c:ACalls Tryz.prog f (args.toList.map (evalO A)) S (PanQ d S')) (k:Q (.panic d) A S'):AOps Tryz.prog B ops Q (o::l) A S:=
 AOps.call ho hw c (fun d' S' h=>by cases h.1) (fun d' S1 h=>by obtain ⟨h1,rfl⟩:=h;simp only [AEnd.pan.injEq] at h1;subst h1;exact k)
theorem endp {rs:List ResultVar} {S0 S':Sto} {d:D} {R:AEnd→Sto→Prop} (hS:S'.Sub S) (hr:R (.pan d) S'):EndQ T rs S0 R (.panic d) A S:=⟨S',hS,hr⟩
theorem endr {rs:List ResultVar} {ds:List D} {S0 S':Sto} {d:D} {R:AEnd→Sto→Prop} (h:resD T A S rs=some ds) (hd:oneOf ds=d) (hS:S'.Sub S) (hr:R (.ret d) S'):EndQ T rs S0 R .ret A S:=⟨ds,d,S',h,.inl hd.symm,hS,hr⟩
theorem endrn {rs:List ResultVar} {ds:List D} {S0 S':Sto} {d:D} {R:AEnd→Sto→Prop} (h:resD T A S rs=some ds) (hd:oneOf ds=d) (hS:S'.Sub S) (hr:R (.ret d) S'):EndQ T rs S0 R .normal A S:=⟨ds,d,S',h,.inl hd.symm,hS,hr⟩
end

theorem aMustT (S:Sto):ACalls Tryz.prog 81 [bD true] S (RetQ (.tup []) S):=by
 refine acalls_of prg Tryz.func81 rfl (by kernel_rfl) (congrArg Array.toList Tryz.results81) Tryz.ntmps81 (fun B hB=>fA ?_)
 refine Wk Y0 ?_
 exact rE
theorem aMustF (S:Sto):ACalls Tryz.prog 81 [bD false] S (PanQ refD S):=by
 refine acalls_of prg Tryz.func81 rfl (by kernel_rfl) (congrArg Array.toList Tryz.results81) Tryz.ntmps81 (fun B hB=>fA ?_)
 refine Wk Y0 ?_
 refine wpn ?_
 (try dsimp only [AX.then,AX.inBlock,AX.noGoto])
 exact endp (Sto.Sub.refl _) ⟨rfl,rfl⟩

def optP:Option Bs→D
 | none=>.v (.pointer none)
 | some s=>.pt (sD s)
@[go_sem] theorem optP_none:optP none=.v (.pointer none):=rfl
@[go_sem] theorem optP_some (s:Bs):optP (some s)=.pt (sD s):=rfl
@[go_sem] theorem optP_size (o:Option Bs):(optP o).size=1:=by cases o <;> rfl
@[go_sem] theorem optP_agg (o:Option Bs):(optP o).isAgg=false:=by cases o <;> rfl
@[go_sem] theorem optP_lies (o:Option Bs):(optP o).lies=true:=by cases o <;> rfl
def lowB (lo:Option Bs) (s:Bs) (sharp:Bool):Bool:=
 match lo with
 | none=>true
 | some l=>!(Op.bytesLess s l || s == l) || (!sharp && s == l)
def highB (hi:Option Bs) (s:Bs):Bool:=
 match hi with
 | none=>true
 | some h=>Op.bytesLess s h
@[go_sem] def ansD (o:Option Bs):D:=.agg [bD o.isSome,sD (o.getD [])]
structure Rg where
 want:Dg
 lo:Option Bs
 hi:Option Bs
 ans:Option Bs
 ways:List Nat
@[go_sem] def natD (n:Nat):D:=iD n
@[go_sem] def rgD (p wd:Int) (key:Bs) (tw:Tag) (r:Rg):D:=.agg [frD p wd,sD key,.dg r.want,optP r.lo,optP r.hi,ansD r.ans,.sl tw (r.ways.map natD)]

theorem aWithin (b:Nat) (p wd:Int) (key s:Bs) (tw:Tag) (r:Rg) (sharp:Bool) (S:Sto) (hb:getM S.bk b=some (91,rgD p wd key tw r)) (h1:lowB r.lo s sharp=true) (h2:highB r.hi s=true) :
  ACalls Tryz.prog 117 [pD b,sD s,bD sharp] S (RetQ (.tup []) S):=by
 obtain ⟨want,lo,hi,ans,ways⟩:=r
 have hl:lo=none∨∃ l,lo=some l∧((Op.bytesLess s l=false∧(s == l)=false)∨(sharp=false∧(s == l)=true)):=by
  cases lo with
  | none=>exact .inl rfl
  | some l=>
   refine .inr ⟨l,rfl,?_⟩
   unfold lowB at h1
   cases ha:Op.bytesLess s l <;> cases he:(s == l) <;> cases sharp <;> simp_all
 refine acalls_of prg Tryz.func117 rfl (by kernel_rfl) (congrArg Array.toList Tryz.results117) Tryz.ntmps117 (fun B hB=>fA ?_)
 rcases hl with rfl | ⟨l,rfl,⟨ha,he⟩ | ⟨rfl,he⟩⟩
 ·cases hi with
  | none=>
   refine Wk hb ?_
   refine cQ (aMustT _) ?_
   refine Wk hb ?_
   refine cQ (aMustT _) ?_
   refine Wk Y0 ?_
   exact rE
  | some h=>
   have e:Op.bytesLess s h=true:=h2
   refine Wk hb ?_
   refine cQ (aMustT _) ?_
   refine Wk (Yy hb e) ?_
   refine cQ (aMustT _) ?_
   refine Wk Y0 ?_
   exact rE
 ·cases hi with
  | none=>
   refine Wk (Yy hb (Yy ha he)) ?_
   refine cQ (aMustT _) ?_
   refine Wk hb ?_
   refine cQ (aMustT _) ?_
   refine Wk Y0 ?_
   exact rE
  | some h=>
   have e:Op.bytesLess s h=true:=h2
   refine Wk (Yy hb (Yy ha he)) ?_
   refine cQ (aMustT _) ?_
   refine Wk (Yy hb e) ?_
   refine cQ (aMustT _) ?_
   refine Wk Y0 ?_
   exact rE
 ·cases ha:Op.bytesLess s l
  ·cases hi with
   | none=>
    refine Wk (Yy hb (Yy ha he)) ?_
    refine cQ (aMustT _) ?_
    refine Wk hb ?_
    refine cQ (aMustT _) ?_
    refine Wk Y0 ?_
    exact rE
   | some h=>
    have e:Op.bytesLess s h=true:=h2
    refine Wk (Yy hb (Yy ha he)) ?_
    refine cQ (aMustT _) ?_
    refine Wk (Yy hb e) ?_
    refine cQ (aMustT _) ?_
    refine Wk Y0 ?_
    exact rE
  ·cases hi with
   | none=>
    refine Wk (Yy hb (Yy ha he)) ?_
    refine cQ (aMustT _) ?_
    refine Wk hb ?_
    refine cQ (aMustT _) ?_
    refine Wk Y0 ?_
    exact rE
   | some h=>
    have e:Op.bytesLess s h=true:=h2
    refine Wk (Yy hb (Yy ha he)) ?_
    refine cQ (aMustT _) ?_
    refine Wk (Yy hb e) ?_
    refine cQ (aMustT _) ?_
    refine Wk Y0 ?_
    exact rE

theorem aWithinF (b:Nat) (p wd:Int) (key s:Bs) (tw:Tag) (r:Rg) (sharp:Bool) (S:Sto) (hb:getM S.bk b=some (91,rgD p wd key tw r)) (h:(lowB r.lo s sharp && highB r.hi s)=false) :
  ACalls Tryz.prog 117 [pD b,sD s,bD sharp] S (PanQ refD S):=by
 obtain ⟨want,lo,hi,ans,ways⟩:=r
 cases h1:lowB lo s sharp
 ·obtain ⟨l,rfl,ha⟩:∃ l,lo=some l∧((sharp=true∧(Op.bytesLess s l || (s == l))=true)∨(sharp=false∧Op.bytesLess s l=true∧(s == l)=false)):=by
   cases lo with
   | none=>cases h1
   | some l=>
    refine ⟨l,rfl,?_⟩
    unfold lowB at h1
    cases ha:Op.bytesLess s l <;> cases he:(s == l) <;> cases sharp <;> simp_all
  refine acalls_of prg Tryz.func117 rfl (by kernel_rfl) (congrArg Array.toList Tryz.results117) Tryz.ntmps117 (fun B hB=>fA ?_)
  rcases ha with ⟨rfl,ha⟩ | ⟨rfl,ha,he⟩
  ·refine Wk (Yy hb ha) ?_
   refine wpx (c:=by exact (aMustF _)) (k:=?_)
   (try dsimp only [AX.then,AX.inBlock,AX.noGoto])
   exact endp (Sto.Sub.refl _) ⟨rfl,rfl⟩
  ·refine Wk (Yy hb (Yy ha he)) ?_
   refine wpx (c:=by exact (aMustF _)) (k:=?_)
   (try dsimp only [AX.then,AX.inBlock,AX.noGoto])
   exact endp (Sto.Sub.refl _) ⟨rfl,rfl⟩
 ·rw [h1,Bool.true_and] at h
  obtain ⟨hh,rfl,e⟩:∃ hh,hi=some hh∧Op.bytesLess s hh=false:=by
   cases hi with
   | none=>cases h
   | some x=>exact ⟨x,rfl,h⟩
  have hl:lo=none∨∃ l,lo=some l∧((Op.bytesLess s l=false∧(s == l)=false)∨(sharp=false∧(s == l)=true)):=by
   cases lo with
   | none=>exact .inl rfl
   | some l=>
    refine .inr ⟨l,rfl,?_⟩
    unfold lowB at h1
    cases ha:Op.bytesLess s l <;> cases he:(s == l) <;> cases sharp <;> simp_all
  refine acalls_of prg Tryz.func117 rfl (by kernel_rfl) (congrArg Array.toList Tryz.results117) Tryz.ntmps117 (fun B hB=>fA ?_)
  rcases hl with rfl | ⟨l,rfl,⟨ha,he⟩ | ⟨rfl,he⟩⟩
  ·refine Wk hb ?_
   refine cQ (aMustT _) ?_
   refine Wk (Yy hb e) ?_
   refine wpx (c:=by exact (aMustF _)) (k:=?_)
   (try dsimp only [AX.then,AX.inBlock,AX.noGoto])
   exact endp (Sto.Sub.refl _) ⟨rfl,rfl⟩
  ·refine Wk (Yy hb (Yy ha he)) ?_
   refine cQ (aMustT _) ?_
   refine Wk (Yy hb e) ?_
   refine wpx (c:=by exact (aMustF _)) (k:=?_)
   (try dsimp only [AX.then,AX.inBlock,AX.noGoto])
   exact endp (Sto.Sub.refl _) ⟨rfl,rfl⟩
  ·cases ha:Op.bytesLess s l
   ·refine Wk (Yy hb (Yy ha he)) ?_
    refine cQ (aMustT _) ?_
    refine Wk (Yy hb e) ?_
    refine wpx (c:=by exact (aMustF _)) (k:=?_)
    (try dsimp only [AX.then,AX.inBlock,AX.noGoto])
    exact endp (Sto.Sub.refl _) ⟨rfl,rfl⟩
   ·refine Wk (Yy hb (Yy ha he)) ?_
    refine cQ (aMustT _) ?_
    refine Wk (Yy hb e) ?_
    refine wpx (c:=by exact (aMustF _)) (k:=?_)
    (try dsimp only [AX.then,AX.inBlock,AX.noGoto])
    exact endp (Sto.Sub.refl _) ⟨rfl,rfl⟩

end Go.Proofs.YtcaggadjkccbiaaGreat