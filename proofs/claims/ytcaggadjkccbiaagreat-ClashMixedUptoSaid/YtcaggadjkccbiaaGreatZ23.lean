/- A form is read. -/
import Derived.Test.YtcaggadjkccbiaaGreatZ21
import Derived.Test.YtcaggadjkccbiaaGreatZ22
namespace Go.Proofs.YtcaggadjkccbiaaGreat
set_option linter.unusedVariables false
set_option linter.unusedSimpArgs false
open Go Go.RowKit

def parseP (P wd:Nat) (pages:Bool) (s:Bs):Option Nd:=
 match takeP 1 s with
 | none=>none
 | some (t,l)=>
  if t=1 then
   match listP s.length (pairP P) () l with
   | some (_,ps,l')=>if l'=[] then some ⟨ps,[],[]⟩ else none
   | none=>none
  else if t=2 then
   match listP s.length (kidP P wd pages) (true,[]) l with
   | some (x,ks,l')=>if ks=[] then none else if l'=[] then some ⟨[],x.2,ks⟩ else none
   | none=>none
  else none

structure Own3 (w:World) (lo:Nat) (pa sa ka:Option Addr) (pc sc kc:Nat) (n:Nd):Prop where
 ps:Own w 73 2 pa n.pairs.length pc (n.pairs.flatMap csP)
 ss:Own w 9 1 sa n.seps.length sc (n.seps.flatMap csS)
 ks:Own w 150 33 ka n.kids.length kc (n.kids.flatMap csK)
 lo:∀ g∈ab pa++ab sa++ab ka,lo≤g
 d1:∀ g∈ab pa,g ∉ ab sa∧g ∉ ab ka
 d2:∀ g∈ab sa,g ∉ ab ka

def ParsePost (w:World) (r:Option Nd) (e:Ending) (w':World):Prop:=
 match r with
 | some n=>∃ pa sa ka pc sc kc,e=.returned (.tuple #[.agg #[.slice pa n.pairs.length pc,.slice sa n.seps.length sc,.slice ka n.kids.length kc],.bool true])∧Own3 w' w.heap.size pa sa ka pc sc kc n∧Kp [] w w'
 | none=>∃ pa sa ka pn sn kn pc sc kc,e=.returned (.tuple #[.agg #[.slice pa pn pc,.slice sa sn sc,.slice ka kn kc],.bool false])∧Kp [] w w'

theorem end_no (b:Nat) (s:Bs) (o:Option Bs) (w:World) (hs:s.length≤140737488351232) (h:RdSt w b s o) (hne:o≠some []):Calls Tryz.prog 89 #[.pointer (some ⟨b,0,none⟩)] w (EndBad w):=by
 cases o with
 | none=>exact end_bad b s w h
 | some l=>exact end_rest b s l w hs h (fun e=>hne (by rw [e]))

theorem Own.ps {w:World} {a:Option Addr} {c:Nat} {l:List Pr} (h:Own w 73 2 a l.length c (l.flatMap csP)):PsAt w a l:=by
 intro i p hp
 have hi:i<l.length:=by
  rcases Nat.lt_or_ge i l.length with h1 | h1
  ·exact h1
  ·simp [List.getElem?_eq_none h1] at hp
 rcases h.block.2 with ⟨_,h1,_⟩ | ⟨g,cur,rfl,hb,_⟩
 ·omega
 ·have key:∀ (l:List Pr) (i:Nat) (p:Pr),l[i]?=some p→(l.flatMap csP)[i*2]?=some (.string ⟨p.1.toArray⟩)∧(l.flatMap csP)[i*2+1]?=some (.string ⟨p.2.toArray⟩):=by
   intro l
   induction l with
   | nil=>intro i p h;simp at h
   | cons x t ih=>
    intro i p h
    cases i with
    | zero=>simp at h;subst h;simp [csP]
    | succ i=>
     have:=ih i p (by simpa using h)
     simp only [List.flatMap_cons]
     rw [List.getElem?_append_right (by simp [csP];omega),List.getElem?_append_right (by simp [csP];omega)]
     simpa [csP,Nat.add_mul] using this
  obtain ⟨k1,k2⟩:=key l i p hp
  have hc:=h.cells rfl
  exact ⟨g,0,rfl,hb.lt,by simpa [Addr.add_lit] using hc _ _ k1,by simpa [Addr.add_lit] using hc _ _ k2⟩
theorem Own.ss {w:World} {a:Option Addr} {c:Nat} {l:List Bs} (h:Own w 9 1 a l.length c (l.map fun t=>.string ⟨t.toArray⟩)):SsAt w a l:=by
 intro i p hp
 have hi:i<l.length:=by
  rcases Nat.lt_or_ge i l.length with h1 | h1
  ·exact h1
  ·simp [List.getElem?_eq_none h1] at hp
 rcases h.block.2 with ⟨_,h1,_⟩ | ⟨g,cur,rfl,hb,_⟩
 ·omega
 ·have hc:=h.cells rfl i (.string ⟨p.toArray⟩) (by simp [hp])
  exact ⟨g,0,rfl,hb.lt,by simpa [Addr.add_lit] using hc⟩
theorem Own.ks {w:World} {a:Option Addr} {c:Nat} {l:List Kd} (h:Own w 150 33 a l.length c (l.flatMap csK)):KsAt w a l:=by
 intro i p hp
 have hi:i<l.length:=by
  rcases Nat.lt_or_ge i l.length with h1 | h1
  ·exact h1
  ·simp [List.getElem?_eq_none h1] at hp
 rcases h.block.2 with ⟨_,h1,_⟩ | ⟨g,cur,rfl,hb,hnc,_,hsz,htk⟩
 ·omega
 ·have key:∀ (l:List Kd) (i:Nat) (p:Kd),l[i]?=some p→((l.flatMap csK).drop (i*33)).take 33=p.c.toList:=by
   intro l
   induction l with
   | nil=>intro i p h;simp at h
   | cons x t ih=>
    intro i p h
    have hx:x.c.toList.length=33:=by simp
    cases i with
    | zero=>simp at h;subst h;simp only [List.flatMap_cons,csK,Nat.zero_mul,List.drop_zero];rw [List.take_append_of_le_length (by omega),List.take_of_length_le (by omega)]
    | succ i=>
     have:=ih i p (by simpa using h)
     simp only [List.flatMap_cons,csK]
     rw [show (i+1)*33=x.c.toList.length+i*33 by omega,List.drop_append]
     rw [List.drop_of_length_le (by omega)]
     simpa [csK] using this
  refine ⟨g,0,rfl,hb.lt,?_⟩
  have hlen:i*33+33≤l.length*33:=by omega
  have hle:l.length*33≤cur.size:=by rw [hsz];exact Nat.mul_le_mul_right _ hnc
  unfold Blk at hb
  unfold rowAt?
  simp only [hb,Option.isSome_none,Bool.false_eq_true,if_false,Nat.zero_add]
  rw [if_pos (by omega)]
  congr 1
  apply Array.ext'
  have h1:=key l i p hp
  rw [← htk] at h1
  rw [← h1]
  simp only [Array.toList_extract,List.extract_eq_take_drop,List.drop_take,List.take_take]
  congr 1
  omega

def restO {α T:Type} (r:Option (α×T×Bs)):Option Bs:=r.map (·.2.2)

theorem list_pairs (b fb m P:Nat) (wd:Int) (s l:Bs) (w:World) (hs:s.length≤3909374676453) (hP0:1024≤P) (hP:P≤8192) (hne:fb≠b) (hm0:0<m) (hm:m≤9223372036854775807) (h:RdOk w b s l) (hf:Blk w fb 24 #[.int .i64 P,.int .i64 wd]) :
  Calls Tryz.prog 134 #[.pointer (some ⟨b,0,none⟩),.int .i64 m,.func (.func 135) #[] #[.pointer (some ⟨fb,0,none⟩)]] w fun e w'=>
   ∃ a c ts,e=.returned (.slice a ts.length c)∧Own w' 73 2 a ts.length c (ts.flatMap csP)∧Kp [b,fb] w w'∧(∀ g∈ab a,w.heap.size≤g)∧RdSt w' b s (restO (listP m (pairP P) () l))∧(∀ r,listP m (pairP P) () l=some r→ts=r.2.1)∧(listP m (pairP P) () l=none→ts=[]):=by
 refine (list_pair (I:=fun _ _=>True) (J:=JP fb P wd) (step:=pairP P) b m s l () [fb] #[.pointer (some ⟨fb,0,none⟩)] w (JP.st b fb P wd hne) (fun _ _ _=>trivial) (fun _ _ _ _ _ _ _=>trivial) ?_ h ⟨rfl,hf⟩ hs hm0 hm).mono ?_
 ·rintro x l fp w _ h ⟨rfl,hf⟩
  exact one_pair b fb P wd s l w (by omega) hP0 hP hne h hf
 ·rintro e w' ⟨a,c,ts,x',fp',he,how,hj,k,h1,h2,h3⟩
  refine ⟨a,c,ts,he,how,k,fun g hg=>(h2 g hg).1,?_⟩
  cases hr:listP m (pairP P) () l with
  | none=>rw [hr] at h3;exact ⟨h3.2,by simp,fun _=>h3.1⟩
  | some r=>rw [hr] at h3;exact ⟨h3.2.2,fun r' hr'=>by cases hr';exact h3.2.1,by simp⟩

theorem sepP_len {P:Nat} {x x':Bool×List Bs} {l l':Bs} (h:sepP P x l=some (x',l')):x'.2.length+l'.length≤x.2.length+l.length:=by
 unfold sepP at h
 split at h
 ·simp only [Option.some.injEq,Prod.mk.injEq] at h
  obtain ⟨rfl,rfl⟩:=h;simp
 ·unfold textP at h
  cases hf:freeP (P / 16) l with
  | none=>simp [hf] at h
  | some r=>
   obtain ⟨n,l1⟩:=r
   have:=(freeP_rest hf).2.1
   simp only [hf,rawP] at h
   split at h
   ·simp only [Option.map_some,Option.some.injEq,Prod.mk.injEq] at h
    obtain ⟨rfl,rfl⟩:=h
    simp;omega
   ·simp at h
theorem takeP_len {n v:Nat} {l l':Bs} (h:takeP n l=some (v,l')):l'.length+n=l.length:=by
 unfold takeP at h
 split at h
 ·simp only [Option.some.injEq,Prod.mk.injEq] at h
  obtain ⟨_,rfl⟩:=h;simp;omega
 ·cases h
theorem dgP_len {n:Nat} {d:Dg} {l l':Bs} (h:dgP n l=some (d,l')):l'.length+n=l.length:=by
 unfold dgP rawP at h
 split at h
 ·simp only [Option.map_some,Option.some.injEq,Prod.mk.injEq] at h
  obtain ⟨_,rfl⟩:=h;simp;omega
 ·simp at h
theorem kidP_len {P wd:Nat} {pages:Bool} {x x':Bool×List Bs} {t:Kd} {l l':Bs} (h:kidP P wd pages x l=some (x',t,l')):x'.2.length+l'.length≤x.2.length+l.length:=by
 unfold kidP at h
 cases hs:sepP P x l with
 | none=>simp [hs] at h
 | some r=>
  obtain ⟨x1,l1⟩:=r
  have h0:=sepP_len hs
  simp only [hs] at h
  have key:∀ (o:Option (Nat×Bs)),(∀ n l2,o=some (n,l2)→l2.length≤l1.length)→(match o with | none=>none | some (n,l2)=>match dgP wd l2 with | none=>none | some (d,l3)=>some (x1,(⟨n,d⟩:Kd),l3))=some (x',t,l')→x'.2.length+l'.length≤x.2.length+l.length:=by
   intro o ho h
   cases o with
   | none=>simp at h
   | some r2=>
    obtain ⟨n,l2⟩:=r2
    have h1:=ho n l2 rfl
    simp only at h
    cases hd:dgP wd l2 with
    | none=>simp [hd] at h
    | some r3=>
     obtain ⟨d,l3⟩:=r3
     have h2:=dgP_len hd
     simp only [hd,Option.some.injEq,Prod.mk.injEq] at h
     obtain ⟨rfl,_,rfl⟩:=h
     omega
  refine key _ ?_ h
  intro n l2 ho
  cases pages
  ·simp at ho;rw [ho.2];exact Nat.le_refl _
  ·simp only [if_true] at ho;have:=takeP_len ho;omega

theorem Own3.at {w:World} {lo:Nat} {pa sa ka:Option Addr} {pc sc kc:Nat} {n:Nd} (h:Own3 w lo pa sa ka pc sc kc n):NdAt w pa sa ka n:=
 ⟨Own.ps h.ps,Own.ss (by rw [← csS_map];exact h.ss),Own.ks h.ks⟩
theorem Own3.kp {S:List Nat} {w w':World} {lo:Nat} {pa sa ka:Option Addr} {pc sc kc:Nat} {n:Nd} (h:Own3 w lo pa sa ka pc sc kc n) (k:Kp S w w') (hs:∀ g∈ab pa++ab sa++ab ka,g ∉ S):Own3 w' lo pa sa ka pc sc kc n:=
 ⟨h.ps.kp k (fun g hg=>hs g (by simp [hg])),h.ss.kp k (fun g hg=>hs g (by simp [hg])),h.ks.kp k (fun g hg=>hs g (by simp [hg])),h.lo,h.d1,h.d2⟩

theorem list_kids (b fb pb fst nb m P wd:Nat) (pages:Bool) (s l:Bs) (w:World) (hs:s.length≤3909374676453) (hP0:1024≤P) (hP:P≤8192) (hwd:wd≤32)
  (n1:fb≠b) (n2:pb≠b) (n3:fst≠b) (n4:nb≠b) (n5:fst≠nb) (n6:fst≠fb) (n7:fst≠pb) (n8:nb≠fb) (n9:nb≠pb) (hm0:0<m) (hm:m≤9223372036854775807) (h:RdOk w b s l)
  (hf:Blk w fb 24 #[.int .i64 P,.int .i64 wd]) (hp:Blk w pb 4 #[.bool pages]) (hfi:Blk w fst 4 #[.bool true]) (hn:Blk w nb 87 #[.slice none 0 0,.slice none 0 0,.slice none 0 0]) :
  Calls Tryz.prog 137 #[.pointer (some ⟨b,0,none⟩),.int .i64 m,.func (.func 138) #[] #[.pointer (some ⟨fst,0,none⟩),.pointer (some ⟨nb,0,none⟩),.pointer (some ⟨fb,0,none⟩),.pointer (some ⟨pb,0,none⟩)]] w fun e w'=>
   ∃ a c ts a2 c2 seps,e=.returned (.slice a ts.length c)∧Own w' 150 33 a ts.length c (ts.flatMap csK)∧Kp [b,fst,nb,fb,pb] w w'∧(∀ g∈ab a,w.heap.size≤g∧g ∉ ab a2)∧RdSt w' b s (restO (listP m (kidP P wd pages) (true,[]) l))
    ∧ Blk w' nb 87 #[.slice none 0 0,.slice a2 seps.length c2,.slice none 0 0]∧Own w' 9 1 a2 seps.length c2 (seps.map fun t=>.string ⟨t.toArray⟩)∧(∀ g∈ab a2,w.heap.size≤g)
    ∧ (∀ r,listP m (kidP P wd pages) (true,[]) l=some r→ts=r.2.1∧seps=r.1.2)∧(listP m (kidP P wd pages) (true,[]) l=none→ts=[]):=by
 have hle:=h.lt
 have hll:l.length≤s.length:=by obtain ⟨p,hp,_⟩:=h;omega
 refine (list_kid (I:=fun x l=>x.2.length+l.length≤s.length) (J:=JK b fb pb fst nb P wd pages) (step:=kidP P wd pages) b m s l (true,[]) (fst::nb::fb::pb::ab none) #[.pointer (some ⟨fst,0,none⟩),.pointer (some ⟨nb,0,none⟩),.pointer (some ⟨fb,0,none⟩),.pointer (some ⟨pb,0,none⟩)] w (JK.st n1 n2 n3 n4) ?_ ?_ ?_ h ?_ hs hm0 hm).mono ?_
 ·intro n l' hf';have:=(freeP_rest hf').2.1;simp;omega
 ·intro x l x' t l' hi hst;have:=kidP_len hst;omega
 ·intro x l fp w hi h hj
  exact one_kid b fb pb fst nb P wd pages x fp s l w hs hP0 hP hwd n1 n2 n3 n4 n5 n6 n7 n8 n9 hi h hj
 ·exact ⟨none,0,rfl,hfi,hn,Own.nil _ _ _,hf,hp,by simp [ab],by simp [ab],by simp [ab],by simp [ab],by simp [ab]⟩
 ·rintro e w' ⟨a,c,ts,x',fp',he,how,hj,k,h1,h2,h3⟩
  obtain ⟨a2,c2,rfl,b1,b2,o2,b3,b4,m1,m2,m3,m4,m5⟩:=hj
  refine ⟨a,c,ts,a2,c2,x'.2,he,how,k,fun g hg=>⟨(h2 g hg).1,fun e=>(h2 g hg).2 (by simp [e])⟩,?_⟩
  have hnew:∀ g∈ab a2,w.heap.size≤g:=by
   intro g hg
   rcases h1 g (by simp [hg]) with h | h
   ·simp only [ab,Option.map_none,Option.toList_none,List.mem_cons,List.not_mem_nil,or_false] at h
    rcases h with rfl | rfl | rfl | rfl
    ·exact absurd hg m1
    ·exact absurd hg m2
    ·exact absurd hg m3
    ·exact absurd hg m4
   ·exact h
  cases hr:listP m (kidP P wd pages) (true,[]) l with
  | none=>rw [hr] at h3;exact ⟨h3.2,b2,o2,hnew,by simp,fun _=>h3.1⟩
  | some r=>rw [hr] at h3;exact ⟨h3.2.2,b2,o2,hnew,fun r' hr'=>by cases hr';exact ⟨h3.2.1,by rw [h3.1]⟩,by simp⟩

set_option maxHeartbeats 1000000
set_option maxRecDepth 100000

theorem five {w w1:World} {t1 t2 t3 t4 t5:TypeId} {c1 c2 c3 c4 c5:Array Value} (k:Kp [w.heap.size+1+1+1+1] (((((w.alloc (.cells c1 t1)).alloc (.cells c2 t2)).alloc (.cells c3 t3)).alloc (.cells c4 t4)).alloc (.cells c5 t5)) w1) :
  Blk w1 w.heap.size t1 c1∧Blk w1 (w.heap.size+1) t2 c2∧Blk w1 (w.heap.size+1+1) t3 c3∧Blk w1 (w.heap.size+1+1+1) t4 c4∧Kp [] w w1∧w.heap.size+1+1+1+1<w1.heap.size:=by
 have b1:=((((Blk.new w t1 c1).alloc (.cells c2 t2)).alloc (.cells c3 t3)).alloc (.cells c4 t4)).alloc (.cells c5 t5)
 have b2:=(((Blk.new (w.alloc (.cells c1 t1)) t2 c2).alloc (.cells c3 t3)).alloc (.cells c4 t4)).alloc (.cells c5 t5)
 have b3:=((Blk.new ((w.alloc (.cells c1 t1)).alloc (.cells c2 t2)) t3 c3).alloc (.cells c4 t4)).alloc (.cells c5 t5)
 have b4:=(Blk.new (((w.alloc (.cells c1 t1)).alloc (.cells c2 t2)).alloc (.cells c3 t3)) t4 c4).alloc (.cells c5 t5)
 simp only [World.size_alloc] at b2 b3 b4
 have hz:=k.size
 simp only [World.size_alloc] at hz
 refine ⟨b1.kp k (by simp;omega),b2.kp k (by simp),b3.kp k (by simp),b4.kp k (by simp),?_,by omega⟩
 exact ((((((Kp.refl [] w).alloc _).alloc _).alloc _).alloc _).alloc _).from k (by simp;omega)

theorem take1_len {s:Bs} {v:Nat} {l:Bs} (ht:takeP 1 s=some (v,l)):1≤s.length:=by have:=takeP_len ht;omega

theorem nd_ret2 {fn:Func} {R:Ending→World→Prop} {a:Act} {w:World} {p u:Tmp} (g:Nat) {t:TypeId} {x y z v:Value} (hr:fn.results=#[.cell p 87,.tmp u]) (hp:a.tmps.getD p undef=.pointer (some ⟨g,0,none⟩)) (hv:a.tmps.getD u undef=v) (hg:Blk w g t #[x,y,z]) (hd:a.defers=[]) (hR:R (.returned (.tuple #[.agg #[x,y,z],v])) w) :
  bodyPost Tryz.prog fn R .ret a w:=by
 refine bodyPost_ret (v:=.tuple #[.agg #[x,y,z],v]) ?_ hd hR
 rw [results_cell_tmp hr,hp,hv]
 have h1:=run_loadVar_big Tryz.prog 87 3 _ Tryz.underlying87 rfl (by kernel_rfl) ⟨g,0,none⟩ w
 have h2:rowAt? w ⟨g,0,none⟩ 3=some #[x,y,z]:=rowAt?_blk hg
 rw [h2] at h1
 simp [asAddr,h1]

theorem parse_leaf_ok (P wd:Nat) (pages:Bool) (s l:Bs) (w:World) (hs:s.length≤3909374676453) (hP0:1024≤P) (hP:P≤8192) (ht:takeP 1 s=some (1,l)) (ho:restO (listP s.length (pairP P) () l)=some []) :
  Calls Tryz.prog 97 #[.agg #[.int .i64 P,.int .i64 wd],.string ⟨s.toArray⟩,.bool pages] w (ParsePost w (parseP P wd pages s)):=by
 have hs':s.length≤140737488351232:=by omega
 have hlen:=take1_len ht
 have hv:gotV (takeP 1) 0 (some s)=1:=by simp [gotV,ht]
 have hr:gotR (takeP 1) (some s)=some l:=by simp [gotR,ht]
 have hp:parseP P wd pages s=match listP s.length (pairP P) () l with | some (_,ps,l')=>if l'=[] then some ⟨ps,[],[]⟩ else none | none=>none:=by simp only [parseP,ht,if_true];try rfl
 have HV:=Lib.hid hv;have HR:=Lib.hid hr;have HPP:=Lib.hid hp;have HO:=Lib.hid ho
 clear hv hr hp ht ho
 go_enter Tryz.func97,Tryz.ntmps97
 go_wp2_with fail
 refine (open_any s _).mono ?_
 rintro e w' ⟨rfl,rfl⟩
 go_wp2_with fail
 refine (u8_all (w.heap.size+1+1+1+1) s (some s) _ (by have:=open_st s ((((w.alloc (.cells #[.int .i64 P,.int .i64 wd] 24)).alloc (.cells #[.bool pages] 4)).alloc (.cells #[.slice none 0 0,.slice none 0 0,.slice none 0 0] 87)).alloc (.cells #[.slice none 0 0,.slice none 0 0,.slice none 0 0] 87));simp only [World.size_alloc] at this;exact this) hs').mono ?_
 rintro e w1 ⟨rfl,k1,r1⟩
 rw [HV.out]
 rw [HR.out] at r1
 obtain ⟨f1,f2,f3,f4,k0,z1⟩:=five k1
 have F1:=Lib.hid f1;have F2:=Lib.hid f2;have F3:=Lib.hid f3;have F4:=Lib.hid f4;have K0:=Lib.hid k0;have R1:=Lib.hid r1
 clear f1 f2 f3 f4 k0 k1 r1
 have f4c0:=F4.out.cell 0;have f4f0:=F4.out.frozen 0
 simp only [List.getElem?_toArray,List.getElem?_cons_zero,List.getElem?_cons_succ] at f4c0
 go_wp2_with fail
 refine (list_pairs (w.heap.size+1+1+1+1) (w.heap.size) s.length P wd s l w1 hs hP0 hP (by omega) (by omega) (by omega) R1.out F1.out).mono ?_
 rintro e w2 ⟨a,c,ts,rfl,how,k2,hnew,r2,hsome,hnone⟩
 have G4:=Lib.hid (F4.out.kp k2 (by simp only [List.mem_cons,List.not_mem_nil,or_false];omega));have G3:=Lib.hid (F3.out.kp k2 (by simp only [List.mem_cons,List.not_mem_nil,or_false];omega))
 have g0:=G4.out.cell 0;have g1:=G4.out.cell 1;have g2:=G4.out.cell 2;have g3:=G4.out.frozen 0
 have j0:=G3.out.cell 0;have j1:=G3.out.cell 1;have j2:=G3.out.cell 2;have j3:=G3.out.frozen 0;have j4:=G3.out.frozen 1;have j5:=G3.out.frozen 2
 simp only [List.getElem?_toArray,List.getElem?_cons_zero,List.getElem?_cons_succ] at g0 g1 g2 j0 j1 j2
 have HOW:=Lib.hid how;have K2:=Lib.hid k2;have HN:=Lib.hid hnew;have R2:=Lib.hid r2;have HSO:=Lib.hid hsome;have HNO:=Lib.hid hnone
 have zz2:=k2.size
 clear how k2 hnew r2 hsome hnone
 go_wp2_with fail
 have HPS:Hid (parseP P wd pages s=some ⟨ts,[],[]⟩):=Lib.hid (by
  rw [HPP.out]
  have h0:=HO.out
  cases hr:listP s.length (pairP P) () l with
  | none=>rw [hr] at h0;simp [restO] at h0
  | some r=>
   obtain ⟨u,ps,l'⟩:=r
   rw [hr] at h0
   simp only [restO,Option.map_some,Option.some.injEq] at h0
   have:=HSO.out _ hr
   simp [h0,this])
 have RO:=Lib.hid (HO.out ▸ R2.out:RdSt w2 (w.heap.size+1+1+1+1) s (some []))
 have KW:Hid (Kp [] w (w2.setCell ⟨w.heap.size+1+1+1,0,none⟩ (.slice a ts.length c))):=Lib.hid ((K0.out.from K2.out (by simp only [List.mem_cons,List.not_mem_nil,or_false];omega)).setCell _ (.inl (by show _≤w.heap.size+1+1+1;omega)))
 have Q4:=Lib.hid (G4.out.set 0 (.slice a ts.length c))
 have Q3:=Lib.hid (G3.out.set_other (a:=⟨w.heap.size+1+1+1,0,none⟩) (.slice a ts.length c) (by show (w.heap.size+1+1+1)≠_;omega))
 have q0:(w2.setCell ⟨w.heap.size+1+1+1,0,none⟩ (.slice a ts.length c)).cell? ⟨w.heap.size+1+1+1,0,none⟩=some (.slice a ts.length c):=by have:=Q4.out.cell 0;simpa using this
 have q1:(w2.setCell ⟨w.heap.size+1+1+1,0,none⟩ (.slice a ts.length c)).cell? ⟨w.heap.size+1+1+1,1,none⟩=some (.slice none 0 0):=by have:=Q4.out.cell 1;simpa using this
 have q2:(w2.setCell ⟨w.heap.size+1+1+1,0,none⟩ (.slice a ts.length c)).cell? ⟨w.heap.size+1+1+1,2,none⟩=some (.slice none 0 0):=by have:=Q4.out.cell 2;simpa using this
 have i0:(w2.setCell ⟨w.heap.size+1+1+1,0,none⟩ (.slice a ts.length c)).cell? ⟨w.heap.size+1+1,0,none⟩=some (.slice none 0 0):=by have:=Q3.out.cell 0;simpa using this
 have i1:(w2.setCell ⟨w.heap.size+1+1+1,0,none⟩ (.slice a ts.length c)).cell? ⟨w.heap.size+1+1,1,none⟩=some (.slice none 0 0):=by have:=Q3.out.cell 1;simpa using this
 have i2:(w2.setCell ⟨w.heap.size+1+1+1,0,none⟩ (.slice a ts.length c)).cell? ⟨w.heap.size+1+1,2,none⟩=some (.slice none 0 0):=by have:=Q3.out.cell 2;simpa using this
 have i3:(w2.setCell ⟨w.heap.size+1+1+1,0,none⟩ (.slice a ts.length c)).frozen? ⟨w.heap.size+1+1,0,none⟩=false:=Q3.out.frozen 0
 have i4:(w2.setCell ⟨w.heap.size+1+1+1,0,none⟩ (.slice a ts.length c)).frozen? ⟨w.heap.size+1+1,1,none⟩=false:=Q3.out.frozen 1
 have i5:(w2.setCell ⟨w.heap.size+1+1+1,0,none⟩ (.slice a ts.length c)).frozen? ⟨w.heap.size+1+1,2,none⟩=false:=Q3.out.frozen 2
 have iz:=Q3.out.lt
 clear g0 g1 g2 g3 j0 j1 j2 j3 j4 j5
 have SK:=Lib.hid (show ∀ (W:World) (T:List Nat),Kp T (w2.setCell ⟨w.heap.size+1+1+1,0,none⟩ (.slice a ts.length c)) W→(w.heap.size+1+1+1) ∉ T→(W.cell? ⟨w.heap.size+1+1+1,0,none⟩=some (.slice a ts.length c)∧W.cell? ⟨w.heap.size+1+1+1,1,none⟩=some (.slice none 0 0)∧W.cell? ⟨w.heap.size+1+1+1,2,none⟩=some (.slice none 0 0)) from fun W T k h=>⟨k.cell q0 h,k.cell q1 h,k.cell q2 h⟩)
 go_region_held3 (fun W=>W.cell? ⟨w.heap.size+1+1+1,0,none⟩=some (.slice a ts.length c)∧W.cell? ⟨w.heap.size+1+1+1,1,none⟩=some (.slice none 0 0)∧W.cell? ⟨w.heap.size+1+1+1,2,none⟩=some (.slice none 0 0)) (first | exact SK.out _ [] ((Kp.refl [] _).drew) (by simp) | exact SK.out _ [] KE.out (by simp) | exact SK.out _ [w.heap.size+1+1] ((((KE.out.of_nil (T:=[w.heap.size+1+1])).setCell _ (.inr (by simp))).setCell _ (.inr (by simp))).setCell _ (.inr (by simp))) (by simp))
  (first | (go_at_call 89;refine (end_ok (w.heap.size+1+1+1+1) s _ hs' (RdSt.kp (o:=some []) (RO.out.kp ((Kp.refl [w.heap.size+1+1+1] _).setCell _ (.inr (by simp))) (by simp)) ((Kp.refl [] _).drew) (by simp))).mono ?_;rintro e w3 ⟨rfl,k3⟩;have KE:Hid (Kp [] (w2.setCell ⟨w.heap.size+1+1+1,0,none⟩ (.slice a ts.length c)) w3):=((Kp.refl [] _).drew).trans k3;clear k3;have y0:=KE.out.cell i0 (by simp);have y1:=KE.out.cell i1 (by simp);have y2:=KE.out.cell i2 (by simp);have y3:=(KE.out.frozen (a:=⟨w.heap.size+1+1,0,none⟩) iz (by simp)).trans i3;have y4:=(KE.out.frozen (a:=⟨w.heap.size+1+1,1,none⟩) iz (by simp)).trans i4;have y5:=(KE.out.frozen (a:=⟨w.heap.size+1+1,2,none⟩) iz (by simp)).trans i5;have zz3:=KE.out.size))
 go_wp2_with fail
 refine nd_ret2 (w.heap.size+1+1) (t:=87) (x:=.slice a ts.length c) (y:=.slice none 0 0) (z:=.slice none 0 0) (v:=.bool true) rfl rfl rfl ?_ rfl ?_
 ·have h:=(((Q3.out.kp KE.out (by simp)).set 0 (.slice a ts.length c)).set 1 (.slice none 0 0)).set 2 (.slice none 0 0)
  simpa using h
 ·have KF:Kp [] w _:=(((((KW.out).trans KE.out)).setCell (a:=⟨w.heap.size+1+1,0,none⟩) (.slice a ts.length c) (.inl (by show _≤w.heap.size+1+1;omega))).setCell (a:=⟨w.heap.size+1+1,1,none⟩) (.slice none 0 0) (.inl (by show _≤w.heap.size+1+1;omega))).setCell (a:=⟨w.heap.size+1+1,2,none⟩) (.slice none 0 0) (.inl (by show _≤w.heap.size+1+1;omega))
  have KG:Kp [w.heap.size+1+1] w3 _:=(((Kp.refl [w.heap.size+1+1] w3).setCell (a:=⟨w.heap.size+1+1,0,none⟩) (.slice a ts.length c) (.inr (by simp))).setCell (a:=⟨w.heap.size+1+1,1,none⟩) (.slice none 0 0) (.inr (by simp))).setCell (a:=⟨w.heap.size+1+1,2,none⟩) (.slice none 0 0) (.inr (by simp))
  unfold ParsePost;rw [HPS.out]
  exact ⟨a,none,none,c,0,0,rfl,⟨(((HOW.out.kp ((Kp.refl [w.heap.size+1+1+1] _).setCell (a:=⟨w.heap.size+1+1+1,0,none⟩) (.slice a ts.length c) (.inr (by simp))) (by intro g hg;have:=HN.out g hg;simp;omega)).kp KE.out (by simp)).kp KG (by intro g hg;have:=HN.out g hg;simp;omega)),Own.nil _ _ _,Own.nil _ _ _,(by intro g hg;simp [ab] at hg;have:=HN.out g (by simpa [ab] using hg);omega),(fun g hg=>⟨by simp [ab],by simp [ab]⟩),(fun g hg=>by simp [ab])⟩,KF⟩

theorem parse_leaf_no (P wd:Nat) (pages:Bool) (s l:Bs) (w:World) (hs:s.length≤3909374676453) (hP0:1024≤P) (hP:P≤8192) (ht:takeP 1 s=some (1,l)) (ho:restO (listP s.length (pairP P) () l)≠some []) :
  Calls Tryz.prog 97 #[.agg #[.int .i64 P,.int .i64 wd],.string ⟨s.toArray⟩,.bool pages] w (ParsePost w (parseP P wd pages s)):=by
 have hs':s.length≤140737488351232:=by omega
 have hlen:=take1_len ht
 have hv:gotV (takeP 1) 0 (some s)=1:=by simp [gotV,ht]
 have hr:gotR (takeP 1) (some s)=some l:=by simp [gotR,ht]
 have hp:parseP P wd pages s=match listP s.length (pairP P) () l with | some (_,ps,l')=>if l'=[] then some ⟨ps,[],[]⟩ else none | none=>none:=by simp only [parseP,ht,if_true];try rfl
 have HV:=Lib.hid hv;have HR:=Lib.hid hr;have HPP:=Lib.hid hp;have HO:=Lib.hid ho
 clear hv hr hp ht ho
 go_enter Tryz.func97,Tryz.ntmps97
 go_wp2_with fail
 refine (open_any s _).mono ?_
 rintro e w' ⟨rfl,rfl⟩
 go_wp2_with fail
 refine (u8_all (w.heap.size+1+1+1+1) s (some s) _ (by have:=open_st s ((((w.alloc (.cells #[.int .i64 P,.int .i64 wd] 24)).alloc (.cells #[.bool pages] 4)).alloc (.cells #[.slice none 0 0,.slice none 0 0,.slice none 0 0] 87)).alloc (.cells #[.slice none 0 0,.slice none 0 0,.slice none 0 0] 87));simp only [World.size_alloc] at this;exact this) hs').mono ?_
 rintro e w1 ⟨rfl,k1,r1⟩
 rw [HV.out]
 rw [HR.out] at r1
 obtain ⟨f1,f2,f3,f4,k0,z1⟩:=five k1
 have F1:=Lib.hid f1;have F2:=Lib.hid f2;have F3:=Lib.hid f3;have F4:=Lib.hid f4;have K0:=Lib.hid k0;have R1:=Lib.hid r1
 clear f1 f2 f3 f4 k0 k1 r1
 have f4c0:=F4.out.cell 0;have f4f0:=F4.out.frozen 0
 simp only [List.getElem?_toArray,List.getElem?_cons_zero,List.getElem?_cons_succ] at f4c0
 go_wp2_with fail
 refine (list_pairs (w.heap.size+1+1+1+1) (w.heap.size) s.length P wd s l w1 hs hP0 hP (by omega) (by omega) (by omega) R1.out F1.out).mono ?_
 rintro e w2 ⟨a,c,ts,rfl,how,k2,hnew,r2,hsome,hnone⟩
 have G4:=Lib.hid (F4.out.kp k2 (by simp only [List.mem_cons,List.not_mem_nil,or_false];omega));have G3:=Lib.hid (F3.out.kp k2 (by simp only [List.mem_cons,List.not_mem_nil,or_false];omega))
 have g0:=G4.out.cell 0;have g1:=G4.out.cell 1;have g2:=G4.out.cell 2;have g3:=G4.out.frozen 0
 have j0:=G3.out.cell 0;have j1:=G3.out.cell 1;have j2:=G3.out.cell 2;have j3:=G3.out.frozen 0;have j4:=G3.out.frozen 1;have j5:=G3.out.frozen 2
 simp only [List.getElem?_toArray,List.getElem?_cons_zero,List.getElem?_cons_succ] at g0 g1 g2 j0 j1 j2
 have HOW:=Lib.hid how;have K2:=Lib.hid k2;have HN:=Lib.hid hnew;have R2:=Lib.hid r2;have HSO:=Lib.hid hsome;have HNO:=Lib.hid hnone
 have zz2:=k2.size
 clear how k2 hnew r2 hsome hnone
 go_wp2_with fail
 have HPS:Hid (parseP P wd pages s=none):=Lib.hid (by
  rw [HPP.out]
  have h0:=HO.out
  cases hr:listP s.length (pairP P) () l with
  | none=>rfl
  | some r=>
   obtain ⟨u,ps,l'⟩:=r
   rw [hr] at h0
   simp only [restO,Option.map_some,ne_eq,Option.some.injEq] at h0
   simp [h0])
 have RO:=R2
 have KW:Hid (Kp [] w (w2.setCell ⟨w.heap.size+1+1+1,0,none⟩ (.slice a ts.length c))):=Lib.hid ((K0.out.from K2.out (by simp only [List.mem_cons,List.not_mem_nil,or_false];omega)).setCell _ (.inl (by show _≤w.heap.size+1+1+1;omega)))
 have Q4:=Lib.hid (G4.out.set 0 (.slice a ts.length c))
 have Q3:=Lib.hid (G3.out.set_other (a:=⟨w.heap.size+1+1+1,0,none⟩) (.slice a ts.length c) (by show (w.heap.size+1+1+1)≠_;omega))
 have q0:(w2.setCell ⟨w.heap.size+1+1+1,0,none⟩ (.slice a ts.length c)).cell? ⟨w.heap.size+1+1+1,0,none⟩=some (.slice a ts.length c):=by have:=Q4.out.cell 0;simpa using this
 have q1:(w2.setCell ⟨w.heap.size+1+1+1,0,none⟩ (.slice a ts.length c)).cell? ⟨w.heap.size+1+1+1,1,none⟩=some (.slice none 0 0):=by have:=Q4.out.cell 1;simpa using this
 have q2:(w2.setCell ⟨w.heap.size+1+1+1,0,none⟩ (.slice a ts.length c)).cell? ⟨w.heap.size+1+1+1,2,none⟩=some (.slice none 0 0):=by have:=Q4.out.cell 2;simpa using this
 have i0:(w2.setCell ⟨w.heap.size+1+1+1,0,none⟩ (.slice a ts.length c)).cell? ⟨w.heap.size+1+1,0,none⟩=some (.slice none 0 0):=by have:=Q3.out.cell 0;simpa using this
 have i1:(w2.setCell ⟨w.heap.size+1+1+1,0,none⟩ (.slice a ts.length c)).cell? ⟨w.heap.size+1+1,1,none⟩=some (.slice none 0 0):=by have:=Q3.out.cell 1;simpa using this
 have i2:(w2.setCell ⟨w.heap.size+1+1+1,0,none⟩ (.slice a ts.length c)).cell? ⟨w.heap.size+1+1,2,none⟩=some (.slice none 0 0):=by have:=Q3.out.cell 2;simpa using this
 have i3:(w2.setCell ⟨w.heap.size+1+1+1,0,none⟩ (.slice a ts.length c)).frozen? ⟨w.heap.size+1+1,0,none⟩=false:=Q3.out.frozen 0
 have i4:(w2.setCell ⟨w.heap.size+1+1+1,0,none⟩ (.slice a ts.length c)).frozen? ⟨w.heap.size+1+1,1,none⟩=false:=Q3.out.frozen 1
 have i5:(w2.setCell ⟨w.heap.size+1+1+1,0,none⟩ (.slice a ts.length c)).frozen? ⟨w.heap.size+1+1,2,none⟩=false:=Q3.out.frozen 2
 have iz:=Q3.out.lt
 clear g0 g1 g2 g3 j0 j1 j2 j3 j4 j5
 have SK:=Lib.hid (show ∀ (W:World) (T:List Nat),Kp T (w2.setCell ⟨w.heap.size+1+1+1,0,none⟩ (.slice a ts.length c)) W→(w.heap.size+1+1+1) ∉ T→(W.cell? ⟨w.heap.size+1+1+1,0,none⟩=some (.slice a ts.length c)∧W.cell? ⟨w.heap.size+1+1+1,1,none⟩=some (.slice none 0 0)∧W.cell? ⟨w.heap.size+1+1+1,2,none⟩=some (.slice none 0 0)) from fun W T k h=>⟨k.cell q0 h,k.cell q1 h,k.cell q2 h⟩)
 go_region_held3 (fun W=>W.cell? ⟨w.heap.size+1+1+1,0,none⟩=some (.slice a ts.length c)∧W.cell? ⟨w.heap.size+1+1+1,1,none⟩=some (.slice none 0 0)∧W.cell? ⟨w.heap.size+1+1+1,2,none⟩=some (.slice none 0 0)) (first | exact SK.out _ [] ((Kp.refl [] _).drew) (by simp) | exact SK.out _ [] KE.out (by simp) | exact SK.out _ [w.heap.size+1+1] ((((KE.out.of_nil (T:=[w.heap.size+1+1])).setCell _ (.inr (by simp))).setCell _ (.inr (by simp))).setCell _ (.inr (by simp))) (by simp))
  (first | (go_at_call 89;refine (end_no (w.heap.size+1+1+1+1) s _ _ hs' (RdSt.kp (RO.out.kp ((Kp.refl [w.heap.size+1+1+1] _).setCell _ (.inr (by simp))) (by simp)) ((Kp.refl [] _).drew) (by simp)) HO.out).mono ?_;rintro e w3 ⟨gg,rfl,k3⟩;have KE:Hid (Kp [] (w2.setCell ⟨w.heap.size+1+1+1,0,none⟩ (.slice a ts.length c)) w3):=((Kp.refl [] _).drew).trans k3;clear k3;have y0:=KE.out.cell i0 (by simp);have y1:=KE.out.cell i1 (by simp);have y2:=KE.out.cell i2 (by simp);have y3:=(KE.out.frozen (a:=⟨w.heap.size+1+1,0,none⟩) iz (by simp)).trans i3;have y4:=(KE.out.frozen (a:=⟨w.heap.size+1+1,1,none⟩) iz (by simp)).trans i4;have y5:=(KE.out.frozen (a:=⟨w.heap.size+1+1,2,none⟩) iz (by simp)).trans i5;have zz3:=KE.out.size))
 go_wp2_with fail
 refine nd_ret2 (w.heap.size+1+1) (t:=87) (x:=.slice a ts.length c) (y:=.slice none 0 0) (z:=.slice none 0 0) (v:=.bool false) rfl rfl rfl ?_ rfl ?_
 ·have h:=(((Q3.out.kp KE.out (by simp)).set 0 (.slice a ts.length c)).set 1 (.slice none 0 0)).set 2 (.slice none 0 0)
  simpa using h
 ·unfold ParsePost;rw [HPS.out]
  exact ⟨_,_,_,_,_,_,_,_,_,rfl,(((((KW.out).trans KE.out)).setCell (a:=⟨w.heap.size+1+1,0,none⟩) (.slice a ts.length c) (.inl (by show _≤w.heap.size+1+1;omega))).setCell (a:=⟨w.heap.size+1+1,1,none⟩) (.slice none 0 0) (.inl (by show _≤w.heap.size+1+1;omega))).setCell (a:=⟨w.heap.size+1+1,2,none⟩) (.slice none 0 0) (.inl (by show _≤w.heap.size+1+1;omega))⟩

theorem parse_branch_empty (P wd:Nat) (pages:Bool) (s l:Bs) (w:World) (hs:s.length≤3909374676453) (hP0:1024≤P) (hP:P≤8192) (hwd:wd≤32) (ht:takeP 1 s=some (2,l)) (hk:∀ r,listP s.length (kidP P wd pages) (true,[]) l=some r→r.2.1=[]) :
  Calls Tryz.prog 97 #[.agg #[.int .i64 P,.int .i64 wd],.string ⟨s.toArray⟩,.bool pages] w (ParsePost w (parseP P wd pages s)):=by
 have hs':s.length≤140737488351232:=by omega
 have hlen:=take1_len ht
 have hv:gotV (takeP 1) 0 (some s)=2:=by simp [gotV,ht]
 have hr:gotR (takeP 1) (some s)=some l:=by simp [gotR,ht]
 have hp:parseP P wd pages s=match listP s.length (kidP P wd pages) (true,[]) l with | some (x,ks,l')=>if ks=[] then none else if l'=[] then some ⟨[],x.2,ks⟩ else none | none=>none:=by simp only [parseP,ht];rfl
 have HV:=Lib.hid hv;have HR:=Lib.hid hr;have HPP:=Lib.hid hp;have HK:=Lib.hid hk
 clear hv hr hp ht hk
 go_enter Tryz.func97,Tryz.ntmps97
 go_wp2_with fail
 refine (open_any s _).mono ?_
 rintro e w' ⟨rfl,rfl⟩
 go_wp2_with fail
 refine (u8_all (w.heap.size+1+1+1+1) s (some s) _ (by have:=open_st s ((((w.alloc (.cells #[.int .i64 P,.int .i64 wd] 24)).alloc (.cells #[.bool pages] 4)).alloc (.cells #[.slice none 0 0,.slice none 0 0,.slice none 0 0] 87)).alloc (.cells #[.slice none 0 0,.slice none 0 0,.slice none 0 0] 87));simp only [World.size_alloc] at this;exact this) hs').mono ?_
 rintro e w1 ⟨rfl,k1,r1⟩
 rw [HV.out]
 rw [HR.out] at r1
 obtain ⟨f1,f2,f3,f4,k0,z1⟩:=five k1
 have F1:=Lib.hid f1;have F2:=Lib.hid f2;have F3:=Lib.hid f3;have F4:=Lib.hid f4;have K0:=Lib.hid k0;have R1:=Lib.hid r1
 clear f1 f2 f3 f4 k0 k1 r1
 have f4c0:=F4.out.cell 2;have f4f0:=F4.out.frozen 2
 simp only [List.getElem?_toArray,List.getElem?_cons_zero,List.getElem?_cons_succ] at f4c0
 go_wp2_with fail
 have Ff:Hid (Blk (w1.alloc (.cells #[.bool true] 4)) w1.heap.size 4 #[.bool true]):=Lib.hid (Blk.new w1 4 #[.bool true])
 refine (list_kids (w.heap.size+1+1+1+1) (w.heap.size) (w.heap.size+1) w1.heap.size (w.heap.size+1+1+1) s.length P wd pages s l (w1.alloc (.cells #[.bool true] 4)) hs hP0 hP hwd (by omega) (by omega) (by omega) (by omega) (by omega) (by omega) (by omega) (by omega) (by omega) (by omega) (by omega) (R1.out.kp ((Kp.refl [] _).alloc _) (by simp)) (F1.out.alloc _) (F2.out.alloc _) Ff.out (F4.out.alloc _)).mono ?_
 rintro e w2 ⟨a,c,ts,a2,c2,seps,rfl,how,k2,hnew,r2,nb2,own2,hnew2,hsome,hnone⟩
 have G4:=Lib.hid nb2;have G3:=Lib.hid (((F3.out.alloc (.cells #[.bool true] 4))).kp k2 (by simp only [List.mem_cons,List.not_mem_nil,or_false];omega))
 have g0:=G4.out.cell 0;have g1:=G4.out.cell 1;have g2:=G4.out.cell 2;have g3:=G4.out.frozen 2
 have j0:=G3.out.cell 0;have j1:=G3.out.cell 1;have j2:=G3.out.cell 2;have j3:=G3.out.frozen 0;have j4:=G3.out.frozen 1;have j5:=G3.out.frozen 2
 simp only [List.getElem?_toArray,List.getElem?_cons_zero,List.getElem?_cons_succ] at g0 g1 g2 j0 j1 j2
 have HOW:=Lib.hid how;have K2:=Lib.hid k2;have HN:=Lib.hid (fun g hg=>(hnew g hg).1);have HDJ:=Lib.hid (fun g hg=>(hnew g hg).2);have R2:=Lib.hid r2;have HSO:=Lib.hid hsome;have HNO:=Lib.hid hnone;have HOW2:=Lib.hid own2;have HN2:=Lib.hid hnew2
 have zz2:=k2.size
 simp only [World.size_alloc] at zz2
 clear how k2 hnew r2 hsome hnone nb2 own2 hnew2
 have hts:ts=[]:=by
  cases hr:listP s.length (kidP P wd pages) (true,[]) l with
  | none=>exact HNO.out hr
  | some r=>rw [(HSO.out _ hr).1];exact HK.out _ hr
 have htb:((ts.length:Int) == 0)=true:=by rw [hts];rfl
 have HPS:Hid (parseP P wd pages s=none):=Lib.hid (by
  rw [HPP.out]
  cases hr:listP s.length (kidP P wd pages) (true,[]) l with
  | none=>rfl
  | some r=>simp [HK.out _ hr])
 clear hts
 go_wp2_with fail
 have KW:Hid (Kp [] w (w2.setCell ⟨w.heap.size+1+1+1,2,none⟩ (.slice a ts.length c))):=Lib.hid (((K0.out.alloc (.cells #[.bool true] 4)).from K2.out (by simp only [List.mem_cons,List.not_mem_nil,or_false];omega)).setCell _ (.inl (by show _≤w.heap.size+1+1+1;omega)))
 refine nd_ret2 (w.heap.size+1+1) (t:=87) (x:=.slice none 0 0) (y:=.slice none 0 0) (z:=.slice none 0 0) (v:=.bool false) rfl rfl rfl ?_ rfl ?_
 ·have h:=(((G3.out.set_other (a:=⟨w.heap.size+1+1+1,2,none⟩) (.slice a ts.length c) (by show (w.heap.size+1+1+1)≠_;omega)).set 0 (.slice none 0 0)).set 1 (.slice none 0 0)).set 2 (.slice none 0 0)
  simpa using h
 ·unfold ParsePost;rw [HPS.out]
  exact ⟨_,_,_,_,_,_,_,_,_,rfl,(((KW.out).setCell (a:=⟨w.heap.size+1+1,0,none⟩) (.slice none 0 0) (.inl (by show _≤w.heap.size+1+1;omega))).setCell (a:=⟨w.heap.size+1+1,1,none⟩) (.slice none 0 0) (.inl (by show _≤w.heap.size+1+1;omega))).setCell (a:=⟨w.heap.size+1+1,2,none⟩) (.slice none 0 0) (.inl (by show _≤w.heap.size+1+1;omega))⟩

theorem parse_branch_ok (P wd:Nat) (pages:Bool) (s l:Bs) (w:World) (hs:s.length≤3909374676453) (hP0:1024≤P) (hP:P≤8192) (hwd:wd≤32) (ht:takeP 1 s=some (2,l)) (hk:∃ r,listP s.length (kidP P wd pages) (true,[]) l=some r∧r.2.1≠[]) (ho:restO (listP s.length (kidP P wd pages) (true,[]) l)=some []) :
  Calls Tryz.prog 97 #[.agg #[.int .i64 P,.int .i64 wd],.string ⟨s.toArray⟩,.bool pages] w (ParsePost w (parseP P wd pages s)):=by
 have hs':s.length≤140737488351232:=by omega
 have hlen:=take1_len ht
 have hv:gotV (takeP 1) 0 (some s)=2:=by simp [gotV,ht]
 have hr:gotR (takeP 1) (some s)=some l:=by simp [gotR,ht]
 have hp:parseP P wd pages s=match listP s.length (kidP P wd pages) (true,[]) l with | some (x,ks,l')=>if ks=[] then none else if l'=[] then some ⟨[],x.2,ks⟩ else none | none=>none:=by simp only [parseP,ht];rfl
 have HV:=Lib.hid hv;have HR:=Lib.hid hr;have HPP:=Lib.hid hp;have HK:=Lib.hid hk
 have HO:=Lib.hid ho;clear ho
 clear hv hr hp ht hk
 go_enter Tryz.func97,Tryz.ntmps97
 go_wp2_with fail
 refine (open_any s _).mono ?_
 rintro e w' ⟨rfl,rfl⟩
 go_wp2_with fail
 refine (u8_all (w.heap.size+1+1+1+1) s (some s) _ (by have:=open_st s ((((w.alloc (.cells #[.int .i64 P,.int .i64 wd] 24)).alloc (.cells #[.bool pages] 4)).alloc (.cells #[.slice none 0 0,.slice none 0 0,.slice none 0 0] 87)).alloc (.cells #[.slice none 0 0,.slice none 0 0,.slice none 0 0] 87));simp only [World.size_alloc] at this;exact this) hs').mono ?_
 rintro e w1 ⟨rfl,k1,r1⟩
 rw [HV.out]
 rw [HR.out] at r1
 obtain ⟨f1,f2,f3,f4,k0,z1⟩:=five k1
 have F1:=Lib.hid f1;have F2:=Lib.hid f2;have F3:=Lib.hid f3;have F4:=Lib.hid f4;have K0:=Lib.hid k0;have R1:=Lib.hid r1
 clear f1 f2 f3 f4 k0 k1 r1
 have f4c0:=F4.out.cell 2;have f4f0:=F4.out.frozen 2
 simp only [List.getElem?_toArray,List.getElem?_cons_zero,List.getElem?_cons_succ] at f4c0
 go_wp2_with fail
 have Ff:Hid (Blk (w1.alloc (.cells #[.bool true] 4)) w1.heap.size 4 #[.bool true]):=Lib.hid (Blk.new w1 4 #[.bool true])
 refine (list_kids (w.heap.size+1+1+1+1) (w.heap.size) (w.heap.size+1) w1.heap.size (w.heap.size+1+1+1) s.length P wd pages s l (w1.alloc (.cells #[.bool true] 4)) hs hP0 hP hwd (by omega) (by omega) (by omega) (by omega) (by omega) (by omega) (by omega) (by omega) (by omega) (by omega) (by omega) (R1.out.kp ((Kp.refl [] _).alloc _) (by simp)) (F1.out.alloc _) (F2.out.alloc _) Ff.out (F4.out.alloc _)).mono ?_
 rintro e w2 ⟨a,c,ts,a2,c2,seps,rfl,how,k2,hnew,r2,nb2,own2,hnew2,hsome,hnone⟩
 have G4:=Lib.hid nb2;have G3:=Lib.hid (((F3.out.alloc (.cells #[.bool true] 4))).kp k2 (by simp only [List.mem_cons,List.not_mem_nil,or_false];omega))
 have g0:=G4.out.cell 0;have g1:=G4.out.cell 1;have g2:=G4.out.cell 2;have g3:=G4.out.frozen 2
 have j0:=G3.out.cell 0;have j1:=G3.out.cell 1;have j2:=G3.out.cell 2;have j3:=G3.out.frozen 0;have j4:=G3.out.frozen 1;have j5:=G3.out.frozen 2
 simp only [List.getElem?_toArray,List.getElem?_cons_zero,List.getElem?_cons_succ] at g0 g1 g2 j0 j1 j2
 have HOW:=Lib.hid how;have K2:=Lib.hid k2;have HN:=Lib.hid (fun g hg=>(hnew g hg).1);have HDJ:=Lib.hid (fun g hg=>(hnew g hg).2);have R2:=Lib.hid r2;have HSO:=Lib.hid hsome;have HNO:=Lib.hid hnone;have HOW2:=Lib.hid own2;have HN2:=Lib.hid hnew2
 have zz2:=k2.size
 simp only [World.size_alloc] at zz2
 clear how k2 hnew r2 hsome hnone nb2 own2 hnew2
 have hts:ts≠[]:=by
  obtain ⟨r,hr,hn⟩:=HK.out
  rw [(HSO.out _ hr).1];exact hn
 have htb:((ts.length:Int) == 0)=false:=by
  simp only [beq_eq_false_iff_ne];intro e;exact hts (List.eq_nil_of_length_eq_zero (by omega))
 have HPS:Hid (parseP P wd pages s=some ⟨[],seps,ts⟩):=Lib.hid (by
  rw [HPP.out]
  have h0:=HO.out
  obtain ⟨r,hr,hn⟩:=HK.out
  obtain ⟨x,ks,l'⟩:=r
  have h1:=HSO.out _ hr
  rw [hr] at h0
  simp only [restO,Option.map_some,Option.some.injEq] at h0
  simp only at h1 hn
  rw [hr]
  simp only
  rw [if_neg hn,if_pos h0,h1.1,h1.2])
 clear hts
 go_wp2_with fail
 have KW:Hid (Kp [] w (w2.setCell ⟨w.heap.size+1+1+1,2,none⟩ (.slice a ts.length c))):=Lib.hid (((K0.out.alloc (.cells #[.bool true] 4)).from K2.out (by simp only [List.mem_cons,List.not_mem_nil,or_false];omega)).setCell _ (.inl (by show _≤w.heap.size+1+1+1;omega)))
 have RO:=Lib.hid (HO.out ▸ R2.out:RdSt w2 (w.heap.size+1+1+1+1) s (some []))
 have Q4:=Lib.hid (G4.out.set 2 (.slice a ts.length c))
 have Q3:=Lib.hid (G3.out.set_other (a:=⟨w.heap.size+1+1+1,2,none⟩) (.slice a ts.length c) (by show (w.heap.size+1+1+1)≠_;omega))
 have q0:(w2.setCell ⟨w.heap.size+1+1+1,2,none⟩ (.slice a ts.length c)).cell? ⟨w.heap.size+1+1+1,0,none⟩=some (.slice none 0 0):=by have:=Q4.out.cell 0;simpa using this
 have q1:(w2.setCell ⟨w.heap.size+1+1+1,2,none⟩ (.slice a ts.length c)).cell? ⟨w.heap.size+1+1+1,1,none⟩=some (.slice a2 seps.length c2):=by have:=Q4.out.cell 1;simpa using this
 have q2:(w2.setCell ⟨w.heap.size+1+1+1,2,none⟩ (.slice a ts.length c)).cell? ⟨w.heap.size+1+1+1,2,none⟩=some (.slice a ts.length c):=by have:=Q4.out.cell 2;simpa using this
 have i0:(w2.setCell ⟨w.heap.size+1+1+1,2,none⟩ (.slice a ts.length c)).cell? ⟨w.heap.size+1+1,0,none⟩=some (.slice none 0 0):=by have:=Q3.out.cell 0;simpa using this
 have i1:(w2.setCell ⟨w.heap.size+1+1+1,2,none⟩ (.slice a ts.length c)).cell? ⟨w.heap.size+1+1,1,none⟩=some (.slice none 0 0):=by have:=Q3.out.cell 1;simpa using this
 have i2:(w2.setCell ⟨w.heap.size+1+1+1,2,none⟩ (.slice a ts.length c)).cell? ⟨w.heap.size+1+1,2,none⟩=some (.slice none 0 0):=by have:=Q3.out.cell 2;simpa using this
 have i3:(w2.setCell ⟨w.heap.size+1+1+1,2,none⟩ (.slice a ts.length c)).frozen? ⟨w.heap.size+1+1,0,none⟩=false:=Q3.out.frozen 0
 have i4:(w2.setCell ⟨w.heap.size+1+1+1,2,none⟩ (.slice a ts.length c)).frozen? ⟨w.heap.size+1+1,1,none⟩=false:=Q3.out.frozen 1
 have i5:(w2.setCell ⟨w.heap.size+1+1+1,2,none⟩ (.slice a ts.length c)).frozen? ⟨w.heap.size+1+1,2,none⟩=false:=Q3.out.frozen 2
 have iz:=Q3.out.lt
 clear g0 g1 g2 g3 j0 j1 j2 j3 j4 j5
 have SK:=Lib.hid (show ∀ (W:World) (T:List Nat),Kp T (w2.setCell ⟨w.heap.size+1+1+1,2,none⟩ (.slice a ts.length c)) W→(w.heap.size+1+1+1) ∉ T→(W.cell? ⟨w.heap.size+1+1+1,0,none⟩=some (.slice none 0 0)∧W.cell? ⟨w.heap.size+1+1+1,1,none⟩=some (.slice a2 seps.length c2)∧W.cell? ⟨w.heap.size+1+1+1,2,none⟩=some (.slice a ts.length c)) from fun W T k h=>⟨k.cell q0 h,k.cell q1 h,k.cell q2 h⟩)
 go_region_held3 (fun W=>W.cell? ⟨w.heap.size+1+1+1,0,none⟩=some (.slice none 0 0)∧W.cell? ⟨w.heap.size+1+1+1,1,none⟩=some (.slice a2 seps.length c2)∧W.cell? ⟨w.heap.size+1+1+1,2,none⟩=some (.slice a ts.length c)) (first | exact SK.out _ [] ((Kp.refl [] _).drew) (by simp) | exact SK.out _ [] KE.out (by simp) | exact SK.out _ [w.heap.size+1+1] ((((KE.out.of_nil (T:=[w.heap.size+1+1])).setCell _ (.inr (by simp))).setCell _ (.inr (by simp))).setCell _ (.inr (by simp))) (by simp))
  (first | (go_at_call 89;refine (end_ok (w.heap.size+1+1+1+1) s _ hs' (RdSt.kp (o:=some []) (RO.out.kp ((Kp.refl [w.heap.size+1+1+1] _).setCell _ (.inr (by simp))) (by simp)) ((Kp.refl [] _).drew) (by simp))).mono ?_;rintro e w3 ⟨rfl,k3⟩;have KE:Hid (Kp [] (w2.setCell ⟨w.heap.size+1+1+1,2,none⟩ (.slice a ts.length c)) w3):=((Kp.refl [] _).drew).trans k3;clear k3;have y0:=KE.out.cell i0 (by simp);have y1:=KE.out.cell i1 (by simp);have y2:=KE.out.cell i2 (by simp);have y3:=(KE.out.frozen (a:=⟨w.heap.size+1+1,0,none⟩) iz (by simp)).trans i3;have y4:=(KE.out.frozen (a:=⟨w.heap.size+1+1,1,none⟩) iz (by simp)).trans i4;have y5:=(KE.out.frozen (a:=⟨w.heap.size+1+1,2,none⟩) iz (by simp)).trans i5;have zz3:=KE.out.size))
 go_wp2_with fail
 refine nd_ret2 (w.heap.size+1+1) (t:=87) (x:=.slice none 0 0) (y:=.slice a2 seps.length c2) (z:=.slice a ts.length c) (v:=.bool true) rfl rfl rfl ?_ rfl ?_
 ·have h:=(((Q3.out.kp KE.out (by simp)).set 0 (.slice none 0 0)).set 1 (.slice a2 seps.length c2)).set 2 (.slice a ts.length c)
  simpa using h
 ·have KF:Kp [] w _:=(((((KW.out).trans KE.out)).setCell (a:=⟨w.heap.size+1+1,0,none⟩) (.slice none 0 0) (.inl (by show _≤w.heap.size+1+1;omega))).setCell (a:=⟨w.heap.size+1+1,1,none⟩) (.slice a2 seps.length c2) (.inl (by show _≤w.heap.size+1+1;omega))).setCell (a:=⟨w.heap.size+1+1,2,none⟩) (.slice a ts.length c) (.inl (by show _≤w.heap.size+1+1;omega))
  have KG:Kp [w.heap.size+1+1] w3 _:=(((Kp.refl [w.heap.size+1+1] w3).setCell (a:=⟨w.heap.size+1+1,0,none⟩) (.slice none 0 0) (.inr (by simp))).setCell (a:=⟨w.heap.size+1+1,1,none⟩) (.slice a2 seps.length c2) (.inr (by simp))).setCell (a:=⟨w.heap.size+1+1,2,none⟩) (.slice a ts.length c) (.inr (by simp))
  unfold ParsePost;rw [HPS.out]
  exact ⟨none,a2,a,0,c2,c,rfl,⟨Own.nil _ _ _,(by rw [csS_map];exact ((((HOW2.out.kp ((Kp.refl [w.heap.size+1+1+1] _).setCell (a:=⟨w.heap.size+1+1+1,2,none⟩) (.slice a ts.length c) (.inr (by simp))) (by intro g hg;have:=HN2.out g hg;simp at this;simp;omega)).kp KE.out (by simp)).kp KG (by intro g hg;have:=HN2.out g hg;simp at this;simp;omega)))),((((HOW.out.kp ((Kp.refl [w.heap.size+1+1+1] _).setCell (a:=⟨w.heap.size+1+1+1,2,none⟩) (.slice a ts.length c) (.inr (by simp))) (by intro g hg;have:=HN.out g hg;simp at this;simp;omega)).kp KE.out (by simp)).kp KG (by intro g hg;have:=HN.out g hg;simp at this;simp;omega))),(by intro g hg;rcases List.mem_append.1 hg with h | h;(rcases List.mem_append.1 h with h | h;(exact absurd h (by simp [ab]));(have:=HN2.out g h;simp at this;omega));(have:=HN.out g h;simp at this;omega)),(fun g hg=>absurd hg (by simp [ab])),(fun g hg e=>HDJ.out g e hg)⟩,KF⟩

theorem parse_branch_no (P wd:Nat) (pages:Bool) (s l:Bs) (w:World) (hs:s.length≤3909374676453) (hP0:1024≤P) (hP:P≤8192) (hwd:wd≤32) (ht:takeP 1 s=some (2,l)) (hk:∃ r,listP s.length (kidP P wd pages) (true,[]) l=some r∧r.2.1≠[]) (ho:restO (listP s.length (kidP P wd pages) (true,[]) l)≠some []) :
  Calls Tryz.prog 97 #[.agg #[.int .i64 P,.int .i64 wd],.string ⟨s.toArray⟩,.bool pages] w (ParsePost w (parseP P wd pages s)):=by
 have hs':s.length≤140737488351232:=by omega
 have hlen:=take1_len ht
 have hv:gotV (takeP 1) 0 (some s)=2:=by simp [gotV,ht]
 have hr:gotR (takeP 1) (some s)=some l:=by simp [gotR,ht]
 have hp:parseP P wd pages s=match listP s.length (kidP P wd pages) (true,[]) l with | some (x,ks,l')=>if ks=[] then none else if l'=[] then some ⟨[],x.2,ks⟩ else none | none=>none:=by simp only [parseP,ht];rfl
 have HV:=Lib.hid hv;have HR:=Lib.hid hr;have HPP:=Lib.hid hp;have HK:=Lib.hid hk
 have HO:=Lib.hid ho;clear ho
 clear hv hr hp ht hk
 go_enter Tryz.func97,Tryz.ntmps97
 go_wp2_with fail
 refine (open_any s _).mono ?_
 rintro e w' ⟨rfl,rfl⟩
 go_wp2_with fail
 refine (u8_all (w.heap.size+1+1+1+1) s (some s) _ (by have:=open_st s ((((w.alloc (.cells #[.int .i64 P,.int .i64 wd] 24)).alloc (.cells #[.bool pages] 4)).alloc (.cells #[.slice none 0 0,.slice none 0 0,.slice none 0 0] 87)).alloc (.cells #[.slice none 0 0,.slice none 0 0,.slice none 0 0] 87));simp only [World.size_alloc] at this;exact this) hs').mono ?_
 rintro e w1 ⟨rfl,k1,r1⟩
 rw [HV.out]
 rw [HR.out] at r1
 obtain ⟨f1,f2,f3,f4,k0,z1⟩:=five k1
 have F1:=Lib.hid f1;have F2:=Lib.hid f2;have F3:=Lib.hid f3;have F4:=Lib.hid f4;have K0:=Lib.hid k0;have R1:=Lib.hid r1
 clear f1 f2 f3 f4 k0 k1 r1
 have f4c0:=F4.out.cell 2;have f4f0:=F4.out.frozen 2
 simp only [List.getElem?_toArray,List.getElem?_cons_zero,List.getElem?_cons_succ] at f4c0
 go_wp2_with fail
 have Ff:Hid (Blk (w1.alloc (.cells #[.bool true] 4)) w1.heap.size 4 #[.bool true]):=Lib.hid (Blk.new w1 4 #[.bool true])
 refine (list_kids (w.heap.size+1+1+1+1) (w.heap.size) (w.heap.size+1) w1.heap.size (w.heap.size+1+1+1) s.length P wd pages s l (w1.alloc (.cells #[.bool true] 4)) hs hP0 hP hwd (by omega) (by omega) (by omega) (by omega) (by omega) (by omega) (by omega) (by omega) (by omega) (by omega) (by omega) (R1.out.kp ((Kp.refl [] _).alloc _) (by simp)) (F1.out.alloc _) (F2.out.alloc _) Ff.out (F4.out.alloc _)).mono ?_
 rintro e w2 ⟨a,c,ts,a2,c2,seps,rfl,how,k2,hnew,r2,nb2,own2,hnew2,hsome,hnone⟩
 have G4:=Lib.hid nb2;have G3:=Lib.hid (((F3.out.alloc (.cells #[.bool true] 4))).kp k2 (by simp only [List.mem_cons,List.not_mem_nil,or_false];omega))
 have g0:=G4.out.cell 0;have g1:=G4.out.cell 1;have g2:=G4.out.cell 2;have g3:=G4.out.frozen 2
 have j0:=G3.out.cell 0;have j1:=G3.out.cell 1;have j2:=G3.out.cell 2;have j3:=G3.out.frozen 0;have j4:=G3.out.frozen 1;have j5:=G3.out.frozen 2
 simp only [List.getElem?_toArray,List.getElem?_cons_zero,List.getElem?_cons_succ] at g0 g1 g2 j0 j1 j2
 have HOW:=Lib.hid how;have K2:=Lib.hid k2;have HN:=Lib.hid (fun g hg=>(hnew g hg).1);have HDJ:=Lib.hid (fun g hg=>(hnew g hg).2);have R2:=Lib.hid r2;have HSO:=Lib.hid hsome;have HNO:=Lib.hid hnone;have HOW2:=Lib.hid own2;have HN2:=Lib.hid hnew2
 have zz2:=k2.size
 simp only [World.size_alloc] at zz2
 clear how k2 hnew r2 hsome hnone nb2 own2 hnew2
 have hts:ts≠[]:=by
  obtain ⟨r,hr,hn⟩:=HK.out
  rw [(HSO.out _ hr).1];exact hn
 have htb:((ts.length:Int) == 0)=false:=by
  simp only [beq_eq_false_iff_ne];intro e;exact hts (List.eq_nil_of_length_eq_zero (by omega))
 have HPS:Hid (parseP P wd pages s=none):=Lib.hid (by
  rw [HPP.out]
  have h0:=HO.out
  obtain ⟨r,hr,hn⟩:=HK.out
  obtain ⟨x,ks,l'⟩:=r
  rw [hr] at h0
  simp only [restO,Option.map_some,ne_eq,Option.some.injEq] at h0
  simp only at hn
  rw [hr]
  simp only
  rw [if_neg hn,if_neg h0])
 clear hts
 go_wp2_with fail
 have KW:Hid (Kp [] w (w2.setCell ⟨w.heap.size+1+1+1,2,none⟩ (.slice a ts.length c))):=Lib.hid (((K0.out.alloc (.cells #[.bool true] 4)).from K2.out (by simp only [List.mem_cons,List.not_mem_nil,or_false];omega)).setCell _ (.inl (by show _≤w.heap.size+1+1+1;omega)))
 have RO:=R2
 have Q4:=Lib.hid (G4.out.set 2 (.slice a ts.length c))
 have Q3:=Lib.hid (G3.out.set_other (a:=⟨w.heap.size+1+1+1,2,none⟩) (.slice a ts.length c) (by show (w.heap.size+1+1+1)≠_;omega))
 have q0:(w2.setCell ⟨w.heap.size+1+1+1,2,none⟩ (.slice a ts.length c)).cell? ⟨w.heap.size+1+1+1,0,none⟩=some (.slice none 0 0):=by have:=Q4.out.cell 0;simpa using this
 have q1:(w2.setCell ⟨w.heap.size+1+1+1,2,none⟩ (.slice a ts.length c)).cell? ⟨w.heap.size+1+1+1,1,none⟩=some (.slice a2 seps.length c2):=by have:=Q4.out.cell 1;simpa using this
 have q2:(w2.setCell ⟨w.heap.size+1+1+1,2,none⟩ (.slice a ts.length c)).cell? ⟨w.heap.size+1+1+1,2,none⟩=some (.slice a ts.length c):=by have:=Q4.out.cell 2;simpa using this
 have i0:(w2.setCell ⟨w.heap.size+1+1+1,2,none⟩ (.slice a ts.length c)).cell? ⟨w.heap.size+1+1,0,none⟩=some (.slice none 0 0):=by have:=Q3.out.cell 0;simpa using this
 have i1:(w2.setCell ⟨w.heap.size+1+1+1,2,none⟩ (.slice a ts.length c)).cell? ⟨w.heap.size+1+1,1,none⟩=some (.slice none 0 0):=by have:=Q3.out.cell 1;simpa using this
 have i2:(w2.setCell ⟨w.heap.size+1+1+1,2,none⟩ (.slice a ts.length c)).cell? ⟨w.heap.size+1+1,2,none⟩=some (.slice none 0 0):=by have:=Q3.out.cell 2;simpa using this
 have i3:(w2.setCell ⟨w.heap.size+1+1+1,2,none⟩ (.slice a ts.length c)).frozen? ⟨w.heap.size+1+1,0,none⟩=false:=Q3.out.frozen 0
 have i4:(w2.setCell ⟨w.heap.size+1+1+1,2,none⟩ (.slice a ts.length c)).frozen? ⟨w.heap.size+1+1,1,none⟩=false:=Q3.out.frozen 1
 have i5:(w2.setCell ⟨w.heap.size+1+1+1,2,none⟩ (.slice a ts.length c)).frozen? ⟨w.heap.size+1+1,2,none⟩=false:=Q3.out.frozen 2
 have iz:=Q3.out.lt
 clear g0 g1 g2 g3 j0 j1 j2 j3 j4 j5
 have SK:=Lib.hid (show ∀ (W:World) (T:List Nat),Kp T (w2.setCell ⟨w.heap.size+1+1+1,2,none⟩ (.slice a ts.length c)) W→(w.heap.size+1+1+1) ∉ T→(W.cell? ⟨w.heap.size+1+1+1,0,none⟩=some (.slice none 0 0)∧W.cell? ⟨w.heap.size+1+1+1,1,none⟩=some (.slice a2 seps.length c2)∧W.cell? ⟨w.heap.size+1+1+1,2,none⟩=some (.slice a ts.length c)) from fun W T k h=>⟨k.cell q0 h,k.cell q1 h,k.cell q2 h⟩)
 go_region_held3 (fun W=>W.cell? ⟨w.heap.size+1+1+1,0,none⟩=some (.slice none 0 0)∧W.cell? ⟨w.heap.size+1+1+1,1,none⟩=some (.slice a2 seps.length c2)∧W.cell? ⟨w.heap.size+1+1+1,2,none⟩=some (.slice a ts.length c)) (first | exact SK.out _ [] ((Kp.refl [] _).drew) (by simp) | exact SK.out _ [] KE.out (by simp) | exact SK.out _ [w.heap.size+1+1] ((((KE.out.of_nil (T:=[w.heap.size+1+1])).setCell _ (.inr (by simp))).setCell _ (.inr (by simp))).setCell _ (.inr (by simp))) (by simp))
  (first | (go_at_call 89;refine (end_no (w.heap.size+1+1+1+1) s _ _ hs' (RdSt.kp (RO.out.kp ((Kp.refl [w.heap.size+1+1+1] _).setCell _ (.inr (by simp))) (by simp)) ((Kp.refl [] _).drew) (by simp)) HO.out).mono ?_;rintro e w3 ⟨gg,rfl,k3⟩;have KE:Hid (Kp [] (w2.setCell ⟨w.heap.size+1+1+1,2,none⟩ (.slice a ts.length c)) w3):=((Kp.refl [] _).drew).trans k3;clear k3;have y0:=KE.out.cell i0 (by simp);have y1:=KE.out.cell i1 (by simp);have y2:=KE.out.cell i2 (by simp);have y3:=(KE.out.frozen (a:=⟨w.heap.size+1+1,0,none⟩) iz (by simp)).trans i3;have y4:=(KE.out.frozen (a:=⟨w.heap.size+1+1,1,none⟩) iz (by simp)).trans i4;have y5:=(KE.out.frozen (a:=⟨w.heap.size+1+1,2,none⟩) iz (by simp)).trans i5;have zz3:=KE.out.size))
 go_wp2_with fail
 refine nd_ret2 (w.heap.size+1+1) (t:=87) (x:=.slice none 0 0) (y:=.slice a2 seps.length c2) (z:=.slice a ts.length c) (v:=.bool false) rfl rfl rfl ?_ rfl ?_
 ·have h:=(((Q3.out.kp KE.out (by simp)).set 0 (.slice none 0 0)).set 1 (.slice a2 seps.length c2)).set 2 (.slice a ts.length c)
  simpa using h
 ·unfold ParsePost;rw [HPS.out]
  exact ⟨_,_,_,_,_,_,_,_,_,rfl,(((((KW.out).trans KE.out)).setCell (a:=⟨w.heap.size+1+1,0,none⟩) (.slice none 0 0) (.inl (by show _≤w.heap.size+1+1;omega))).setCell (a:=⟨w.heap.size+1+1,1,none⟩) (.slice a2 seps.length c2) (.inl (by show _≤w.heap.size+1+1;omega))).setCell (a:=⟨w.heap.size+1+1,2,none⟩) (.slice a ts.length c) (.inl (by show _≤w.heap.size+1+1;omega))⟩

theorem parse_other (P wd:Nat) (pages:Bool) (s:Bs) (w:World) (hs:s.length≤3909374676453) (ht:∀ r,takeP 1 s=some r→r.1≠1∧r.1≠2) :
  Calls Tryz.prog 97 #[.agg #[.int .i64 P,.int .i64 wd],.string ⟨s.toArray⟩,.bool pages] w (ParsePost w (parseP P wd pages s)):=by
 have hs':s.length≤140737488351232:=by omega
 have hp:parseP P wd pages s=none:=by
  unfold parseP
  cases hr:takeP 1 s with
  | none=>rfl
  | some r=>have:=ht r hr;simp [this.1,this.2]
 obtain ⟨v,hv⟩:∃ v,gotV (takeP 1) 0 (some s)=v:=⟨_,rfl⟩
 obtain ⟨o,hr⟩:∃ o,gotR (takeP 1) (some s)=o:=⟨_,rfl⟩
 have hvv:v≠1∧v≠2:=by
  rw [← hv]
  cases hr:takeP 1 s with
  | none=>simp [gotV,hr]
  | some r=>have:=ht r hr;simpa [gotV,hr] using this
 have hv1:((v:Int) == 1)=false:=by simp only [beq_eq_false_iff_ne];omega
 have hv2:((v:Int) == 2)=false:=by simp only [beq_eq_false_iff_ne];omega
 have HV:=Lib.hid hv;have HR:=Lib.hid hr;have HPS:=Lib.hid hp
 clear hv hr hp ht hvv
 go_enter Tryz.func97,Tryz.ntmps97
 go_wp2_with fail
 refine (open_any s _).mono ?_
 rintro e w' ⟨rfl,rfl⟩
 go_wp2_with fail
 refine (u8_all (w.heap.size+1+1+1+1) s (some s) _ (by have:=open_st s ((((w.alloc (.cells #[.int .i64 P,.int .i64 wd] 24)).alloc (.cells #[.bool pages] 4)).alloc (.cells #[.slice none 0 0,.slice none 0 0,.slice none 0 0] 87)).alloc (.cells #[.slice none 0 0,.slice none 0 0,.slice none 0 0] 87));simp only [World.size_alloc] at this;exact this) hs').mono ?_
 rintro e w1 ⟨rfl,k1,r1⟩
 rw [HV.out]
 rw [HR.out] at r1
 obtain ⟨f1,f2,f3,f4,k0,z1⟩:=five k1
 have F1:=Lib.hid f1;have F2:=Lib.hid f2;have F3:=Lib.hid f3;have F4:=Lib.hid f4;have K0:=Lib.hid k0;have R1:=Lib.hid r1
 clear f1 f2 f3 f4 k0 k1 r1
 have j0:=F3.out.cell 0;have j1:=F3.out.cell 1;have j2:=F3.out.cell 2;have j3:=F3.out.frozen 0;have j4:=F3.out.frozen 1;have j5:=F3.out.frozen 2
 simp only [List.getElem?_toArray,List.getElem?_cons_zero,List.getElem?_cons_succ] at j0 j1 j2
 go_wp2_with fail
 refine nd_ret2 (w.heap.size+1+1) (t:=87) (x:=.slice none 0 0) (y:=.slice none 0 0) (z:=.slice none 0 0) (v:=.bool false) rfl rfl rfl ?_ rfl ?_
 ·have h:=((F3.out.set 0 (.slice none 0 0)).set 1 (.slice none 0 0)).set 2 (.slice none 0 0)
  simpa using h
 ·unfold ParsePost;rw [HPS.out]
  exact ⟨_,_,_,_,_,_,_,_,_,rfl,(((K0.out).setCell (a:=⟨w.heap.size+1+1,0,none⟩) (.slice none 0 0) (.inl (by show _≤w.heap.size+1+1;omega))).setCell (a:=⟨w.heap.size+1+1,1,none⟩) (.slice none 0 0) (.inl (by show _≤w.heap.size+1+1;omega))).setCell (a:=⟨w.heap.size+1+1,2,none⟩) (.slice none 0 0) (.inl (by show _≤w.heap.size+1+1;omega))⟩

theorem parse_any (P wd:Nat) (pages:Bool) (s:Bs) (w:World) (hs:s.length≤3909374676453) (hP0:1024≤P) (hP:P≤8192) (hwd:wd≤32) :
  Calls Tryz.prog 97 #[.agg #[.int .i64 P,.int .i64 wd],.string ⟨s.toArray⟩,.bool pages] w (ParsePost w (parseP P wd pages s)):=by
 by_cases ho:∀ r,takeP 1 s=some r→r.1≠1∧r.1≠2
 ·exact parse_other P wd pages s w hs ho
 ·cases hr:takeP 1 s with
  | none=>exact absurd (fun r h=>by rw [hr] at h;cases h) ho
  | some r=>
   obtain ⟨t,l⟩:=r
   by_cases h1:t=1
   ·subst h1
    by_cases h:restO (listP s.length (pairP P) () l)=some []
    ·exact parse_leaf_ok P wd pages s l w hs hP0 hP hr h
    ·exact parse_leaf_no P wd pages s l w hs hP0 hP hr h
   ·by_cases h2:t=2
    ·subst h2
     by_cases hk:∀ r,listP s.length (kidP P wd pages) (true,[]) l=some r→r.2.1=[]
     ·exact parse_branch_empty P wd pages s l w hs hP0 hP hwd hr hk
     ·have hk':∃ r,listP s.length (kidP P wd pages) (true,[]) l=some r∧r.2.1≠[]:=Classical.byContradiction fun hc=>hk fun r h=>Classical.byContradiction fun hh=>hc ⟨r,h,hh⟩
      by_cases h:restO (listP s.length (kidP P wd pages) (true,[]) l)=some []
      ·exact parse_branch_ok P wd pages s l w hs hP0 hP hwd hr hk' h
      ·exact parse_branch_no P wd pages s l w hs hP0 hP hwd hr hk' h
    ·exact absurd (fun r h=>by rw [hr] at h;cases h;exact ⟨h1,h2⟩) ho

end Go.Proofs.YtcaggadjkccbiaaGreat