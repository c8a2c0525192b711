/- A kid is read, and the separator ahead of it. -/
import Derived.Test.YtcaggadjkccbiaaGreatZ20
import Derived.Deep.RegionLaw
namespace Go.Proofs.YtcaggadjkccbiaaGreat
set_option maxHeartbeats 1000000
set_option maxRecDepth 100000
set_option linter.unusedVariables false
set_option linter.unusedSimpArgs false
open Go Go.RowKit

def sepP (P:Nat) (x:Bool×List Bs) (l:Bs):Option ((Bool×List Bs)×Bs):=
 if x.1=true then some ((false,x.2),l) else (textP (P / 16) l).map fun r=>((false,x.2++[r.1]),r.2)
def kidP (P wd:Nat) (pages:Bool) (x:Bool×List Bs) (l:Bs):Option ((Bool×List Bs)×Kd×Bs):=
 match sepP P x l with
 | none=>none
 | some (x',l1)=>match (if pages=true then takeP 4 l1 else some (0,l1)) with
  | none=>none
  | some (n,l2)=>match dgP wd l2 with
   | none=>none
   | some (d,l3)=>some (x',⟨n,d⟩,l3)

def JK (b fb pb fst nb P wd:Nat) (pages:Bool) (x:Bool×List Bs) (w:World) (fp:List Nat):Prop:=
 ∃ a c,fp=fst::nb::fb::pb::ab a∧Blk w fst 4 #[.bool x.1]∧Blk w nb 87 #[.slice none 0 0,.slice a x.2.length c,.slice none 0 0]∧Own w 9 1 a x.2.length c (x.2.map fun t=>.string ⟨t.toArray⟩)
  ∧ Blk w fb 24 #[.int .i64 P,.int .i64 wd]∧Blk w pb 4 #[.bool pages]∧fst ∉ ab a∧nb ∉ ab a∧fb ∉ ab a∧pb ∉ ab a∧b ∉ ab a

theorem JK.st {b fb pb fst nb P wd:Nat} {pages:Bool} (h1:fb≠b) (h2:pb≠b) (h3:fst≠b) (h4:nb≠b):St b (JK b fb pb fst nb P wd pages) where
 kp:=fun {x w w' fp S} ⟨a,c,e,b1,b2,o,b3,b4,n⟩ k hs=>by
  subst e
  simp only [List.mem_cons,forall_eq_or_imp] at hs
  exact ⟨a,c,rfl,b1.kp k hs.1,b2.kp k hs.2.1,o.kp k hs.2.2.2.2,b3.kp k hs.2.2.1,b4.kp k hs.2.2.2.1,n⟩
 lt:=fun {x w fp} ⟨a,c,e,b1,b2,o,b3,b4,_,_,_,_,n⟩ g hg=>by
  subst e
  simp only [List.mem_cons] at hg
  rcases hg with rfl | rfl | rfl | rfl | hg
  ·exact ⟨b1.lt,h3⟩
  ·exact ⟨b2.lt,h4⟩
  ·exact ⟨b3.lt,h1⟩
  ·exact ⟨b4.lt,h2⟩
  ·exact ⟨o.lt g hg,fun e=>n (e ▸ hg)⟩

@[go_sem] theorem Kd.set0 (k:Kd) (n:Nat):k.c.setIfInBounds 0 (.int .u32 (n:Int))=(Kd.mk n k.sum).c:=by simp [Kd.c]
@[go_sem] theorem Kd.spl1 (k:Kd) (d:Dg):spl k.c 1 d.c=(Kd.mk k.page d).c:=by
 apply Array.ext'
 have h1:(bC k.sum.l).length=32:=by simp [bC,k.sum.h]
 have h2:(bC d.l).length=32:=by simp [bC,d.h]
 simp [spl,Kd.c,Dg.c,h2]
 omega

def kidO (pages:Bool) (o:Option Bs):Option Bs:=if pages=true then gotR (takeP 4) o else o
def kidN (pages:Bool) (o:Option Bs):Nat:=if pages=true then gotV (takeP 4) 0 o else 0
theorem kidP_got {P wd:Nat} {pages:Bool} {x:Bool×List Bs} {l s:Bs} {w:World} {b:Nat} {x':Bool×List Bs} {o:Option Bs}
  (hx:∀ r,sepP P x l=some r→x'=r.1∧o=some r.2) (hn:sepP P x l=none→o=none)
  (h:RdSt w b s (gotR (dgP wd) (kidO pages o))) :
  match kidP P wd pages x l with | some (x1,t1,l')=>x'=x1∧Kd.mk (kidN pages o) (gotV (dgP wd) Dg.zero (kidO pages o))=t1∧RdOk w b s l' | none=>RdBad w b s:=by
 unfold kidP
 cases hs:sepP P x l with
 | none=>rw [hn hs] at h;cases pages <;> simpa [kidO,gotR,RdSt] using h
 | some r=>
  obtain ⟨rfl,rfl⟩:=hx r hs
  cases pages
  ·simp only [kidO,kidN,Bool.false_eq_true,if_false,gotR,gotV,Option.bind_some] at h ⊢
   cases hd:dgP wd r.2 with
   | none=>simp only [hd,Option.map_none] at h ⊢;exact h
   | some r3=>simp only [hd,Option.map_some,Option.getD_some] at h ⊢;exact ⟨trivial,trivial,h⟩
  ·simp only [kidO,kidN,if_true,gotR,gotV,Option.bind_some] at h ⊢
   cases ht:takeP 4 r.2 with
   | none=>simp only [ht,Option.map_none,Option.bind_none] at h ⊢;exact h
   | some r2=>
    simp only [ht,Option.map_some,Option.getD_some,Option.bind_some] at h ⊢
    cases hd:dgP wd r2.2 with
    | none=>simp only [hd,Option.map_none] at h ⊢;exact h
    | some r3=>simp only [hd,Option.map_some,Option.getD_some] at h ⊢;exact ⟨trivial,trivial,h⟩

theorem kid_end {b fb pb fst nb P wd:Nat} {pages:Bool} {x x':Bool×List Bs} {fp fp':List Nat} {s l:Bs} {w X F:World} {o:Option Bs} {r0:Nat} {t:Kd}
  (hst:St b (JK b fb pb fst nb P wd pages)) (xj:JK b fb pb fst nb P wd pages x' X fp') (xk:Kp (b::fp) w X) (xn:∀ g∈fp',g∈fp∨w.heap.size≤g) (hr0:r0 ∉ fp') (hwr:w.heap.size≤r0)
  (kf:Kp [b,r0] X F) (hx:∀ r,sepP P x l=some r→x'=r.1∧o=some r.2) (hn:sepP P x l=none→o=none)
  (ht:t=Kd.mk (kidN pages o) (gotV (dgP wd) Dg.zero (kidO pages o))) (h:RdSt F b s (gotR (dgP wd) (kidO pages o))) :
  OnePost tvK (JK b fb pb fst nb P wd pages) b s fp w (kidP P wd pages x l) (.returned (.agg t.c)) F:=by
 subst ht
 refine ⟨_,x',fp',rfl,hst.kp xj kf ?_,xk.from kf ?_,xn,by have:=kidP_got hx hn h;revert this;cases kidP P wd pages x l <;> exact id⟩
 ·intro g hg;simp only [List.mem_cons,List.not_mem_nil,or_false,not_or]
  exact ⟨(hst.lt xj g hg).2,fun e=>hr0 (e ▸ hg)⟩
 ·intro g hg;simp only [List.mem_cons,List.not_mem_nil,or_false] at hg
  rcases hg with rfl | rfl
  ·exact .inr (by simp)
  ·exact .inl hwr

theorem one_kid (b fb pb fst nb P wd:Nat) (pages:Bool) (x:Bool×List Bs) (fp:List Nat) (s l:Bs) (w:World) (hs:s.length≤3909374676453) (hP0:1024≤P) (hP:P≤8192) (hwd:wd≤32)
  (n1:fb≠b) (n2:pb≠b) (n3:fst≠b) (n4:nb≠b) (n5:fst≠nb) (n6:fst≠fb) (n7:fst≠pb) (n8:nb≠fb) (n9:nb≠pb)
  (hI:x.2.length+l.length≤s.length) (h:RdOk w b s l) (hj:JK b fb pb fst nb P wd pages x w fp) :
  Calls Tryz.prog 138 #[.pointer (some ⟨b,0,none⟩),.pointer (some ⟨fst,0,none⟩),.pointer (some ⟨nb,0,none⟩),.pointer (some ⟨fb,0,none⟩),.pointer (some ⟨pb,0,none⟩)] w (OnePost tvK (JK b fb pb fst nb P wd pages) b s fp w (kidP P wd pages x l)):=by
 obtain ⟨first,seps⟩:=x
 have HST:=Lib.hid (JK.st (P:=P) (wd:=wd) (pages:=pages) n1 n2 n3 n4)
 have HJ:=Lib.hid hj
 obtain ⟨a,c,rfl,b1,b2,o1,b3,b4,m1,m2,m3,m4,m5⟩:=hj
 have hs':s.length≤140737488351232:=by omega
 have h16:(P:Int) / 16=((P / 16:Nat):Int):=by omega
 have H16:=Lib.hid h16;clear h16
 have H:Hid (RdSt w b s (some l)):=h
 have hbl:=h.lt
 have B1:=Lib.hid b1;have B2:=Lib.hid b2;have B3:=Lib.hid b3;have B4:=Lib.hid b4;have O1:=Lib.hid o1
 have l1:=b1.lt;have l2:=b2.lt;have l3:=b3.lt;have l4:=b4.lt
 have p0:=b1.cell 0;have p1:=b1.frozen 0
 have q1:=b2.cell 1;have q2:=b2.frozen 1
 have r0:=b3.cell 0;have r1:=b3.cell 1
 have u0:=b4.cell 0
 simp only [List.getElem?_toArray,List.getElem?_cons_zero,List.getElem?_cons_succ] at p0 q1 r0 r1 u0
 have e5:nb≠fst:=fun e=>n5 e.symm
 clear h b1 b2 b3 b4 o1
 cases first
 ·have hsl:seps.length≤8796093022207:=by simp only at hI;omega
  cases pages
  ·go_enter Tryz.func138,Tryz.ntmps138
   go_wp2_with fail
   have sk:=Lib.hid (show ∀ (W:World) (T:List Nat),Kp T w W→nb ∉ T→fb ∉ T→(W.cell? ⟨nb,1,none⟩=some (.slice a seps.length c)∧W.cell? ⟨fb,0,none⟩=some (.int .i64 P)∧W.cell? ⟨fb,1,none⟩=some (.int .i64 wd)∧W.frozen? ⟨nb,1,none⟩=false) from fun W T k h1 h2=>⟨k.cell q1 h1,k.cell r0 h2,k.cell r1 h2,(k.frozen l2 h1).trans q2⟩)
   go_region_law (first | (refine step_call rfl 116 rfl #[.agg #[.int .i64 P,.int .i64 wd]] (by kernel_rfl) (maxKey_any _ _ _ (by omega) (by omega)) ?_;rintro e w' ⟨rfl,bs1,e1,rfl⟩;have zn1:nb<w.heap.size+1+bs1.length:=(by omega);have zn3:nb<w.heap.size+1:=(by omega);refine ⟨_,rfl,?_⟩;rw [H16.out]) | (refine step_call rfl 88 rfl #[.pointer (some ⟨b,0,none⟩),.int .i64 ((P / 16:Nat):Int)] (by kernel_rfl) (text_all b (P / 16) s _ _ (H.out.kp ((((Kp.refl [] w).alloc _).drew).ext _ _) (by simp)) hs' (by omega) (by omega)) ?_;rintro e w2 ⟨rfl,k2,R2⟩;refine ⟨_,rfl,?_⟩;have HR2:=Lib.hid R2;have HK2a:=Lib.hid ((((Kp.refl [b] (w.alloc (.cells Kd.zero.c 150))).drew).ext _ _).trans k2);have HK2:=Lib.hid (((Kp.refl [b] w).alloc _).trans HK2a.out);clear k2 R2;have zz2:=HK2.out.size;have zn2:nb<w2.heap.size:=(by omega);have zf2:fb<w2.heap.size:=(by omega);obtain ⟨t1,t2,t3,t4⟩:=sk.out _ _ HK2.out (by simp;omega) (by simp;omega)) | (refine step_app_str rfl rfl (by simp [Act.eval,Act.put]) ((O1.out.kp HK2.out (by intro g hg;simp;rintro rfl;exact m5 hg)).kp ((Kp.refl [] _).alloc _) (by simp)) 1 _ (by simp [Act.eval,Act.put]) (src_row Tryz.underlying53 _ _ _ _ rfl rfl (by simp [Value.oneCell'])) (by omega) ?_;intro a2 c2 w4 hown hk4 hn4;have HO4:=Lib.hid hown;have HN4:=Lib.hid hn4;have HK4:=Lib.hid hk4;have HK5:Hid (Kp (b::ab a) w w4):=((HK2.out.alloc _).mono (fun k _ hk=>by simp at hk;simp [hk])).trans (hk4.mono (fun k _ hk=>by simp [hk]));have HK5a:Hid (Kp (b::ab a) (w.alloc (.cells Kd.zero.c 150)) w4):=((HK2a.out.alloc _).mono (fun k _ hk=>by simp at hk;simp [hk])).trans (hk4.mono (fun k _ hk=>by simp [hk]));clear hown hk4 hn4;have zz5:=HK5.out.size;have zn5:nb<w4.heap.size:=(by omega);obtain ⟨t5,t6,t7,t8⟩:=sk.out _ _ HK5.out (by simp only [List.mem_cons,not_or];exact ⟨n4,m2⟩) (by simp only [List.mem_cons,not_or];exact ⟨n1,m3⟩)))
   all_goals
    have wz:w.heap.size<w4.heap.size:=by have:=HK5a.out.size;simp at this;omega
    have v0:=HK5.out.cell p0 (by simp only [List.mem_cons,not_or];exact ⟨n3,m1⟩)
    have v1:=(HK5.out.frozen (a:=⟨fst,0,none⟩) l1 (by simp only [List.mem_cons,not_or];exact ⟨n3,m1⟩)).trans p1
    have v2:=HK5.out.cell u0 (by simp only [List.mem_cons,not_or];exact ⟨n2,m4⟩)
    have v4:fst<w4.heap.size:=by omega
    have v5:pb<w4.heap.size:=by omega
    have v6:fb<w4.heap.size:=by omega
    have ha2:∀ g∈ab a2,g ∉ [fst,nb,fb,pb,b,w.heap.size]:=by
     intro g hg
     have hz2:=HK2a.out.size
     simp only [World.size_alloc] at hz2
     rcases HN4.out g hg with h1 | h1
     ·have h3:=O1.out.lt g h1
      simp only [List.mem_cons,List.not_mem_nil,or_false,not_or]
      exact ⟨fun e=>m1 (e ▸ h1),fun e=>m2 (e ▸ h1),fun e=>m3 (e ▸ h1),fun e=>m4 (e ▸ h1),fun e=>m5 (e ▸ h1),by omega⟩
     ·simp only [World.size_alloc] at h1
      simp only [List.mem_cons,List.not_mem_nil,or_false,not_or]
      omega
    have KB:Kp [fst,nb] w4 ((w4.setCell ⟨nb,1,none⟩ (.slice a2 (seps.length+1) c2)).setCell ⟨fst,0,none⟩ (.bool false)):=((Kp.refl [fst,nb] _).setCell _ (.inr (by simp))).setCell _ (.inr (by simp))
    have XB:=Lib.hid (((Blk.new w 150 Kd.zero.c).kp HK5a.out (by simp only [List.mem_cons,not_or];exact ⟨by omega,fun h=>by have:=O1.out.lt _ h;omega⟩)).kp KB (by simp;omega))
    have XF:=Lib.hid ((B3.out.kp HK5.out (by simp only [List.mem_cons,not_or];exact ⟨n1,m3⟩)).kp KB (by simp;omega))
    have XR:=Lib.hid ((HR2.out.kp ((Kp.refl [] _).alloc (.cells #[.string ⟨(gotV (textP (P / 16)) [] (some l)).toArray⟩] 9)) (by simp)).kp HK4.out m5 |>.kp KB (by simp;omega))
    have XK:Hid (Kp (b::(fst::nb::fb::pb::ab a)) w ((w4.setCell ⟨nb,1,none⟩ (.slice a2 (seps.length+1) c2)).setCell ⟨fst,0,none⟩ (.bool false))):=Lib.hid ((HK5.out.mono (fun k _ hk=>by simp only [List.mem_cons] at hk ⊢;rcases hk with h | h <;> simp [h])).from KB (by simp))
    have XN:Hid (∀ g∈(fst::nb::fb::pb::ab a2),g∈(fst::nb::fb::pb::ab a)∨w.heap.size≤g):=Lib.hid (by
     intro g hg
     simp only [List.mem_cons] at hg ⊢
     rcases hg with h | h | h | h | h
     ·simp [h]
     ·simp [h]
     ·simp [h]
     ·simp [h]
     ·rcases HN4.out g h with h1 | h1
      ·simp [h1]
      ·right;simp only [World.size_alloc] at h1;omega)
    have XJ:Hid (JK b fb pb fst nb P wd false (false,seps++[gotV (textP (P / 16)) [] (some l)]) ((w4.setCell ⟨nb,1,none⟩ (.slice a2 (seps.length+1) c2)).setCell ⟨fst,0,none⟩ (.bool false)) (fst::nb::fb::pb::ab a2)):=Lib.hid (by
     refine ⟨a2,c2,rfl,?_,?_,?_,XF.out,?_,fun h=>ha2 _ h (by simp),fun h=>ha2 _ h (by simp),fun h=>ha2 _ h (by simp),fun h=>ha2 _ h (by simp),fun h=>ha2 _ h (by simp)⟩
     ·have h1:=B1.out.kp HK5.out (by simp only [List.mem_cons,not_or];exact ⟨n3,m1⟩)
      have h2:=(h1.set_other (a:=⟨nb,1,none⟩) (.slice a2 (seps.length+1) c2) e5).set 0 (.bool false)
      simpa using h2
     ·have h1:=B2.out.kp HK5.out (by simp only [List.mem_cons,not_or];exact ⟨n4,m2⟩)
      have h2:=(h1.set 1 (.slice a2 (seps.length+1) c2)).set_other (a:=⟨fst,0,none⟩) (.bool false) n5
      simpa using h2
     ·have:=HO4.out.kp KB (by intro g hg;have:=ha2 g hg;simp only [List.mem_cons,not_or] at this ⊢;exact ⟨this.1,this.2.1,by simp⟩)
      simpa using this
     ·exact (B4.out.kp HK5.out (by simp only [List.mem_cons,not_or];exact ⟨n2,m4⟩)).kp KB (by simp;omega))
    have XQ:Hid (w.heap.size ∉ (fst::nb::fb::pb::ab a2)):=Lib.hid (by
     simp only [List.mem_cons,not_or]
     exact ⟨by omega,by omega,by omega,by omega,fun h=>ha2 _ h (by simp)⟩)
    have XE:Hid (∀ r,sepP P (false,seps) l=some r→(false,seps++[gotV (textP (P / 16)) [] (some l)])=r.1∧gotR (textP (P / 16)) (some l)=some r.2):=Lib.hid (by
     intro r hr
     simp only [sepP,Bool.false_eq_true,if_false] at hr
     cases ht:textP (P / 16) l with
     | none=>simp [ht] at hr
     | some r0=>simp only [ht,Option.map_some,Option.some.injEq] at hr;subst hr;simp [gotV,gotR,ht])
    have XM:Hid (sepP P (false,seps) l=none→gotR (textP (P / 16)) (some l)=none):=Lib.hid (by
     intro hr
     simp only [sepP,Bool.false_eq_true,if_false,Option.map_eq_none_iff] at hr
     simp [gotR,hr])
    clear ha2 t1 t2 t3 t4 zn2 zf2 zz2
    go_wp2_with fail
    have hX:(((w4.setCell ⟨nb,1,none⟩ (.slice a2 (seps.length+1) c2)).setCell ⟨fst,0,none⟩ (.bool false))).heap.size=(w4.heap.size):=by simp
    have XBk:=Lib.hid (XB.out.alloc (.cells Kd.zero.c 150))
    have XKk:Hid (Blk ((((w4.setCell ⟨nb,1,none⟩ (.slice a2 (seps.length+1) c2)).setCell ⟨fst,0,none⟩ (.bool false))).alloc (.cells Kd.zero.c 150)) ((w4.heap.size)) 150 Kd.zero.c):=Lib.hid (hX ▸ Blk.new ((w4.setCell ⟨nb,1,none⟩ (.slice a2 (seps.length+1) c2)).setCell ⟨fst,0,none⟩ (.bool false)) 150 Kd.zero.c)
    have XFk:=Lib.hid (XF.out.alloc (.cells Kd.zero.c 150))
    have xz:w.heap.size<(w4.heap.size):=by omega
    have xb:b<(w4.heap.size):=by omega
    have K6:=XKk;have B6:=XBk
    refine (dg_all b wd s (gotR (textP (P / 16)) (some l)) _ (XR.out.kp ((Kp.refl [] _).alloc _) (by simp)) hs' hwd).mono ?_
    rintro e w6 ⟨rfl,k6,r6⟩
    obtain ⟨d,hd⟩:∃ d,gotV (dgP wd) Dg.zero (gotR (textP (P / 16)) (some l))=d:=⟨_,rfl⟩
    rw [hd]
    have HD:=Lib.hid hd
    have K7:=Lib.hid (K6.out.kp k6 (by simp;omega))
    have B7:=Lib.hid (B6.out.kp k6 (by simp;omega))
    have j0:=own?_blk K7.out;have j1:=own?_blk B7.out;have j2:=K7.out.lt;have j3:=B7.out.lt
    have j4:w.heap.size≠(w4.heap.size):=by omega
    have HK6:=Lib.hid k6;have HR6:=Lib.hid r6
    clear hd k6 r6
    go_wp2_with fail
    refine row_ret w.heap.size rfl Tryz.underlying150 rfl (by rw [Kd.c_size];kernel_rfl) rfl (((B7.out.setRow_other (g:=(w4.heap.size)) _ (by omega)).setRow _)) rfl ?_
    exact kid_end (o:=(gotR (textP (P / 16)) (some l))) HST.out XJ.out XK.out XN.out XQ.out (Nat.le_refl _) (((((Kp.refl [b,w.heap.size] _).alloc _).trans (HK6.out.mono (fun k _ hk=>by simp at hk;simp [hk]))).setRow _ _ (.inl (by simp))).setRow _ _ (.inr (by simp))) XE.out XM.out (by rw [← HD.out];rfl) (HR6.out.kp (((Kp.refl [(w4.heap.size),w.heap.size] _).setRow _ _ (by simp)).setRow _ _ (by simp)) (by simp;omega))
  ·go_enter Tryz.func138,Tryz.ntmps138
   go_wp2_with fail
   have sk:=Lib.hid (show ∀ (W:World) (T:List Nat),Kp T w W→nb ∉ T→fb ∉ T→(W.cell? ⟨nb,1,none⟩=some (.slice a seps.length c)∧W.cell? ⟨fb,0,none⟩=some (.int .i64 P)∧W.cell? ⟨fb,1,none⟩=some (.int .i64 wd)∧W.frozen? ⟨nb,1,none⟩=false) from fun W T k h1 h2=>⟨k.cell q1 h1,k.cell r0 h2,k.cell r1 h2,(k.frozen l2 h1).trans q2⟩)
   go_region_law (first | (refine step_call rfl 116 rfl #[.agg #[.int .i64 P,.int .i64 wd]] (by kernel_rfl) (maxKey_any _ _ _ (by omega) (by omega)) ?_;rintro e w' ⟨rfl,bs1,e1,rfl⟩;have zn1:nb<w.heap.size+1+bs1.length:=(by omega);have zn3:nb<w.heap.size+1:=(by omega);refine ⟨_,rfl,?_⟩;rw [H16.out]) | (refine step_call rfl 88 rfl #[.pointer (some ⟨b,0,none⟩),.int .i64 ((P / 16:Nat):Int)] (by kernel_rfl) (text_all b (P / 16) s _ _ (H.out.kp ((((Kp.refl [] w).alloc _).drew).ext _ _) (by simp)) hs' (by omega) (by omega)) ?_;rintro e w2 ⟨rfl,k2,R2⟩;refine ⟨_,rfl,?_⟩;have HR2:=Lib.hid R2;have HK2a:=Lib.hid ((((Kp.refl [b] (w.alloc (.cells Kd.zero.c 150))).drew).ext _ _).trans k2);have HK2:=Lib.hid (((Kp.refl [b] w).alloc _).trans HK2a.out);clear k2 R2;have zz2:=HK2.out.size;have zn2:nb<w2.heap.size:=(by omega);have zf2:fb<w2.heap.size:=(by omega);obtain ⟨t1,t2,t3,t4⟩:=sk.out _ _ HK2.out (by simp;omega) (by simp;omega)) | (refine step_app_str rfl rfl (by simp [Act.eval,Act.put]) ((O1.out.kp HK2.out (by intro g hg;simp;rintro rfl;exact m5 hg)).kp ((Kp.refl [] _).alloc _) (by simp)) 1 _ (by simp [Act.eval,Act.put]) (src_row Tryz.underlying53 _ _ _ _ rfl rfl (by simp [Value.oneCell'])) (by omega) ?_;intro a2 c2 w4 hown hk4 hn4;have HO4:=Lib.hid hown;have HN4:=Lib.hid hn4;have HK4:=Lib.hid hk4;have HK5:Hid (Kp (b::ab a) w w4):=((HK2.out.alloc _).mono (fun k _ hk=>by simp at hk;simp [hk])).trans (hk4.mono (fun k _ hk=>by simp [hk]));have HK5a:Hid (Kp (b::ab a) (w.alloc (.cells Kd.zero.c 150)) w4):=((HK2a.out.alloc _).mono (fun k _ hk=>by simp at hk;simp [hk])).trans (hk4.mono (fun k _ hk=>by simp [hk]));clear hown hk4 hn4;have zz5:=HK5.out.size;have zn5:nb<w4.heap.size:=(by omega);obtain ⟨t5,t6,t7,t8⟩:=sk.out _ _ HK5.out (by simp only [List.mem_cons,not_or];exact ⟨n4,m2⟩) (by simp only [List.mem_cons,not_or];exact ⟨n1,m3⟩)))
   all_goals
    have wz:w.heap.size<w4.heap.size:=by have:=HK5a.out.size;simp at this;omega
    have v0:=HK5.out.cell p0 (by simp only [List.mem_cons,not_or];exact ⟨n3,m1⟩)
    have v1:=(HK5.out.frozen (a:=⟨fst,0,none⟩) l1 (by simp only [List.mem_cons,not_or];exact ⟨n3,m1⟩)).trans p1
    have v2:=HK5.out.cell u0 (by simp only [List.mem_cons,not_or];exact ⟨n2,m4⟩)
    have v4:fst<w4.heap.size:=by omega
    have v5:pb<w4.heap.size:=by omega
    have v6:fb<w4.heap.size:=by omega
    have ha2:∀ g∈ab a2,g ∉ [fst,nb,fb,pb,b,w.heap.size]:=by
     intro g hg
     have hz2:=HK2a.out.size
     simp only [World.size_alloc] at hz2
     rcases HN4.out g hg with h1 | h1
     ·have h3:=O1.out.lt g h1
      simp only [List.mem_cons,List.not_mem_nil,or_false,not_or]
      exact ⟨fun e=>m1 (e ▸ h1),fun e=>m2 (e ▸ h1),fun e=>m3 (e ▸ h1),fun e=>m4 (e ▸ h1),fun e=>m5 (e ▸ h1),by omega⟩
     ·simp only [World.size_alloc] at h1
      simp only [List.mem_cons,List.not_mem_nil,or_false,not_or]
      omega
    have KB:Kp [fst,nb] w4 ((w4.setCell ⟨nb,1,none⟩ (.slice a2 (seps.length+1) c2)).setCell ⟨fst,0,none⟩ (.bool false)):=((Kp.refl [fst,nb] _).setCell _ (.inr (by simp))).setCell _ (.inr (by simp))
    have XB:=Lib.hid (((Blk.new w 150 Kd.zero.c).kp HK5a.out (by simp only [List.mem_cons,not_or];exact ⟨by omega,fun h=>by have:=O1.out.lt _ h;omega⟩)).kp KB (by simp;omega))
    have XF:=Lib.hid ((B3.out.kp HK5.out (by simp only [List.mem_cons,not_or];exact ⟨n1,m3⟩)).kp KB (by simp;omega))
    have XR:=Lib.hid ((HR2.out.kp ((Kp.refl [] _).alloc (.cells #[.string ⟨(gotV (textP (P / 16)) [] (some l)).toArray⟩] 9)) (by simp)).kp HK4.out m5 |>.kp KB (by simp;omega))
    have XK:Hid (Kp (b::(fst::nb::fb::pb::ab a)) w ((w4.setCell ⟨nb,1,none⟩ (.slice a2 (seps.length+1) c2)).setCell ⟨fst,0,none⟩ (.bool false))):=Lib.hid ((HK5.out.mono (fun k _ hk=>by simp only [List.mem_cons] at hk ⊢;rcases hk with h | h <;> simp [h])).from KB (by simp))
    have XN:Hid (∀ g∈(fst::nb::fb::pb::ab a2),g∈(fst::nb::fb::pb::ab a)∨w.heap.size≤g):=Lib.hid (by
     intro g hg
     simp only [List.mem_cons] at hg ⊢
     rcases hg with h | h | h | h | h
     ·simp [h]
     ·simp [h]
     ·simp [h]
     ·simp [h]
     ·rcases HN4.out g h with h1 | h1
      ·simp [h1]
      ·right;simp only [World.size_alloc] at h1;omega)
    have XJ:Hid (JK b fb pb fst nb P wd true (false,seps++[gotV (textP (P / 16)) [] (some l)]) ((w4.setCell ⟨nb,1,none⟩ (.slice a2 (seps.length+1) c2)).setCell ⟨fst,0,none⟩ (.bool false)) (fst::nb::fb::pb::ab a2)):=Lib.hid (by
     refine ⟨a2,c2,rfl,?_,?_,?_,XF.out,?_,fun h=>ha2 _ h (by simp),fun h=>ha2 _ h (by simp),fun h=>ha2 _ h (by simp),fun h=>ha2 _ h (by simp),fun h=>ha2 _ h (by simp)⟩
     ·have h1:=B1.out.kp HK5.out (by simp only [List.mem_cons,not_or];exact ⟨n3,m1⟩)
      have h2:=(h1.set_other (a:=⟨nb,1,none⟩) (.slice a2 (seps.length+1) c2) e5).set 0 (.bool false)
      simpa using h2
     ·have h1:=B2.out.kp HK5.out (by simp only [List.mem_cons,not_or];exact ⟨n4,m2⟩)
      have h2:=(h1.set 1 (.slice a2 (seps.length+1) c2)).set_other (a:=⟨fst,0,none⟩) (.bool false) n5
      simpa using h2
     ·have:=HO4.out.kp KB (by intro g hg;have:=ha2 g hg;simp only [List.mem_cons,not_or] at this ⊢;exact ⟨this.1,this.2.1,by simp⟩)
      simpa using this
     ·exact (B4.out.kp HK5.out (by simp only [List.mem_cons,not_or];exact ⟨n2,m4⟩)).kp KB (by simp;omega))
    have XQ:Hid (w.heap.size ∉ (fst::nb::fb::pb::ab a2)):=Lib.hid (by
     simp only [List.mem_cons,not_or]
     exact ⟨by omega,by omega,by omega,by omega,fun h=>ha2 _ h (by simp)⟩)
    have XE:Hid (∀ r,sepP P (false,seps) l=some r→(false,seps++[gotV (textP (P / 16)) [] (some l)])=r.1∧gotR (textP (P / 16)) (some l)=some r.2):=Lib.hid (by
     intro r hr
     simp only [sepP,Bool.false_eq_true,if_false] at hr
     cases ht:textP (P / 16) l with
     | none=>simp [ht] at hr
     | some r0=>simp only [ht,Option.map_some,Option.some.injEq] at hr;subst hr;simp [gotV,gotR,ht])
    have XM:Hid (sepP P (false,seps) l=none→gotR (textP (P / 16)) (some l)=none):=Lib.hid (by
     intro hr
     simp only [sepP,Bool.false_eq_true,if_false,Option.map_eq_none_iff] at hr
     simp [gotR,hr])
    clear ha2 t1 t2 t3 t4 zn2 zf2 zz2
    go_wp2_with fail
    have hX:(((w4.setCell ⟨nb,1,none⟩ (.slice a2 (seps.length+1) c2)).setCell ⟨fst,0,none⟩ (.bool false))).heap.size=(w4.heap.size):=by simp
    have XBk:=Lib.hid (XB.out.alloc (.cells Kd.zero.c 150))
    have XKk:Hid (Blk ((((w4.setCell ⟨nb,1,none⟩ (.slice a2 (seps.length+1) c2)).setCell ⟨fst,0,none⟩ (.bool false))).alloc (.cells Kd.zero.c 150)) ((w4.heap.size)) 150 Kd.zero.c):=Lib.hid (hX ▸ Blk.new ((w4.setCell ⟨nb,1,none⟩ (.slice a2 (seps.length+1) c2)).setCell ⟨fst,0,none⟩ (.bool false)) 150 Kd.zero.c)
    have XFk:=Lib.hid (XF.out.alloc (.cells Kd.zero.c 150))
    have xz:w.heap.size<(w4.heap.size):=by omega
    have xb:b<(w4.heap.size):=by omega
    refine (u32_all b s (gotR (textP (P / 16)) (some l)) _ (XR.out.kp ((Kp.refl [] _).alloc _) (by simp)) hs').mono ?_
    rintro e w5 ⟨rfl,k5,r5⟩
    obtain ⟨v,hv⟩:∃ v,gotV (takeP 4) 0 (gotR (textP (P / 16)) (some l))=v:=⟨_,rfl⟩
    rw [hv]
    have F5:=Lib.hid (XFk.out.kp k5 (by simp;omega))
    have K5:=Lib.hid (XKk.out.kp k5 (by simp;omega))
    have B5:=Lib.hid (XBk.out.kp k5 (by simp;omega))
    have HV:=Lib.hid hv;have HK:=Lib.hid k5;have HR:=Lib.hid r5
    have i0:=K5.out.cell 0;have i1:=K5.out.frozen 0;have i2:=F5.out.cell 1
    have i3:=B5.out.lt;have i4:=K5.out.lt;have i5:=F5.out.lt
    simp only [List.getElem?_toArray,List.getElem?_cons_zero,List.getElem?_cons_succ,Kd.get0] at i0 i2
    clear hv k5 r5
    go_wp2_with fail
    have K6:Hid (Blk (w5.setCell ⟨(w4.heap.size),0,none⟩ (.int .u32 (v:Int))) ((w4.heap.size)) 150 (Kd.mk v Dg.zero).c):=Lib.hid (by have:=K5.out.set 0 (.int .u32 (v:Int));rwa [Kd.set0] at this)
    have B6:=Lib.hid (B5.out.set_other (a:=⟨(w4.heap.size),0,none⟩) (.int .u32 (v:Int)) (by show (w4.heap.size)≠_;omega))
    refine (dg_all b wd s _ _ (HR.out.kp ((Kp.refl [(w4.heap.size)] _).setCell _ (.inr (by simp))) (by simp;omega)) hs' hwd).mono ?_
    rintro e w6 ⟨rfl,k6,r6⟩
    obtain ⟨d,hd⟩:∃ d,gotV (dgP wd) Dg.zero (gotR (takeP 4) (gotR (textP (P / 16)) (some l)))=d:=⟨_,rfl⟩
    rw [hd]
    have HD:=Lib.hid hd
    have K7:=Lib.hid (K6.out.kp k6 (by simp;omega))
    have B7:=Lib.hid (B6.out.kp k6 (by simp;omega))
    have j0:=own?_blk K7.out;have j1:=own?_blk B7.out;have j2:=K7.out.lt;have j3:=B7.out.lt
    have j4:w.heap.size≠(w4.heap.size):=by omega
    have HK6:=Lib.hid k6;have HR6:=Lib.hid r6
    clear hd k6 r6
    go_wp2_with fail
    refine row_ret w.heap.size rfl Tryz.underlying150 rfl (by rw [Kd.c_size];kernel_rfl) rfl (((B7.out.setRow_other (g:=(w4.heap.size)) _ (by omega)).setRow _)) rfl ?_
    exact kid_end (o:=(gotR (textP (P / 16)) (some l))) HST.out XJ.out XK.out XN.out XQ.out (Nat.le_refl _) (((((((Kp.refl [b,w.heap.size] _).alloc _).trans (HK.out.mono (fun k _ hk=>by simp at hk;simp [hk]))).setCell _ (.inl (by simp))).trans (HK6.out.mono (fun k _ hk=>by simp at hk;simp [hk]))).setRow _ _ (.inl (by simp))).setRow _ _ (.inr (by simp))) XE.out XM.out (by rw [← HD.out,← HV.out];rfl) (HR6.out.kp (((Kp.refl [(w4.heap.size),w.heap.size] _).setRow _ _ (by simp)).setRow _ _ (by simp)) (by simp;omega))
 ·cases pages
  ·go_enter Tryz.func138,Tryz.ntmps138
   have KB:Kp [fst] w ((w.setCell ⟨fst,0,none⟩ (.bool false)).alloc (.cells Kd.zero.c 150)):=((Kp.refl [fst] _).setCell _ (.inr (by simp))).alloc _
   have XB:Hid (Blk ((w.setCell ⟨fst,0,none⟩ (.bool false)).alloc (.cells Kd.zero.c 150)) w.heap.size 150 Kd.zero.c):=Lib.hid (by have:=Blk.new (w.setCell ⟨fst,0,none⟩ (.bool false)) 150 Kd.zero.c;simpa using this)
   have XF:=Lib.hid (B3.out.kp KB (by simp;omega))
   have XR:=Lib.hid (H.out.kp KB (by simp;omega))
   have XK:Hid (Kp (b::(fst::nb::fb::pb::ab a)) w ((w.setCell ⟨fst,0,none⟩ (.bool false)).alloc (.cells Kd.zero.c 150))):=Lib.hid (KB.mono (fun k _ hk=>by simp at hk;simp [hk]))
   have XN:Hid (∀ g∈(fst::nb::fb::pb::ab a),g∈(fst::nb::fb::pb::ab a)∨w.heap.size≤g):=Lib.hid (fun g hg=>.inl hg)
   have XJ:Hid (JK b fb pb fst nb P wd false (false,seps) ((w.setCell ⟨fst,0,none⟩ (.bool false)).alloc (.cells Kd.zero.c 150)) (fst::nb::fb::pb::ab a)):=Lib.hid (by
    refine ⟨a,c,rfl,?_,B2.out.kp KB (by simp;omega),O1.out.kp KB (by intro g hg;simp;rintro rfl;exact m1 hg),XF.out,B4.out.kp KB (by simp;omega),m1,m2,m3,m4,m5⟩
    have h2:=(B1.out.set 0 (.bool false)).alloc (.cells Kd.zero.c 150)
    simpa using h2)
   have XQ:Hid (w.heap.size ∉ (fst::nb::fb::pb::ab a)):=Lib.hid (by
    simp only [List.mem_cons,not_or]
    exact ⟨by omega,by omega,by omega,by omega,fun h=>by have:=O1.out.lt _ h;omega⟩)
   have XE:Hid (∀ r,sepP P (true,seps) l=some r→(false,seps)=r.1∧(some l)=some r.2):=Lib.hid (by
    intro r hr
    simp only [sepP,if_true,Option.some.injEq] at hr
    subst hr;exact ⟨rfl,rfl⟩)
   have XM:Hid (sepP P (true,seps) l=none→(some l)=none):=Lib.hid (by
    intro hr
    simp [sepP] at hr)
   have wz:w.heap.size<w.heap.size+1:=by omega
   go_wp2_with fail
   have hX:(((w.setCell ⟨fst,0,none⟩ (.bool false)).alloc (.cells Kd.zero.c 150))).heap.size=(w.heap.size+1):=by simp
   have XBk:=Lib.hid (XB.out.alloc (.cells Kd.zero.c 150))
   have XKk:Hid (Blk ((((w.setCell ⟨fst,0,none⟩ (.bool false)).alloc (.cells Kd.zero.c 150))).alloc (.cells Kd.zero.c 150)) ((w.heap.size+1)) 150 Kd.zero.c):=Lib.hid (hX ▸ Blk.new ((w.setCell ⟨fst,0,none⟩ (.bool false)).alloc (.cells Kd.zero.c 150)) 150 Kd.zero.c)
   have XFk:=Lib.hid (XF.out.alloc (.cells Kd.zero.c 150))
   have xz:w.heap.size<(w.heap.size+1):=by omega
   have xb:b<(w.heap.size+1):=by omega
   have K6:=XKk;have B6:=XBk
   refine (dg_all b wd s (some l) _ (XR.out.kp ((Kp.refl [] _).alloc _) (by simp)) hs' hwd).mono ?_
   rintro e w6 ⟨rfl,k6,r6⟩
   obtain ⟨d,hd⟩:∃ d,gotV (dgP wd) Dg.zero (some l)=d:=⟨_,rfl⟩
   rw [hd]
   have HD:=Lib.hid hd
   have K7:=Lib.hid (K6.out.kp k6 (by simp;omega))
   have B7:=Lib.hid (B6.out.kp k6 (by simp;omega))
   have j0:=own?_blk K7.out;have j1:=own?_blk B7.out;have j2:=K7.out.lt;have j3:=B7.out.lt
   have j4:w.heap.size≠(w.heap.size+1):=by omega
   have HK6:=Lib.hid k6;have HR6:=Lib.hid r6
   clear hd k6 r6
   go_wp2_with fail
   refine row_ret w.heap.size rfl Tryz.underlying150 rfl (by rw [Kd.c_size];kernel_rfl) rfl (((B7.out.setRow_other (g:=(w.heap.size+1)) _ (by omega)).setRow _)) rfl ?_
   exact kid_end (o:=(some l)) HST.out XJ.out XK.out XN.out XQ.out (Nat.le_refl _) (((((Kp.refl [b,w.heap.size] _).alloc _).trans (HK6.out.mono (fun k _ hk=>by simp at hk;simp [hk]))).setRow _ _ (.inl (by simp))).setRow _ _ (.inr (by simp))) XE.out XM.out (by rw [← HD.out];rfl) (HR6.out.kp (((Kp.refl [(w.heap.size+1),w.heap.size] _).setRow _ _ (by simp)).setRow _ _ (by simp)) (by simp;omega))
  ·go_enter Tryz.func138,Tryz.ntmps138
   have KB:Kp [fst] w ((w.setCell ⟨fst,0,none⟩ (.bool false)).alloc (.cells Kd.zero.c 150)):=((Kp.refl [fst] _).setCell _ (.inr (by simp))).alloc _
   have XB:Hid (Blk ((w.setCell ⟨fst,0,none⟩ (.bool false)).alloc (.cells Kd.zero.c 150)) w.heap.size 150 Kd.zero.c):=Lib.hid (by have:=Blk.new (w.setCell ⟨fst,0,none⟩ (.bool false)) 150 Kd.zero.c;simpa using this)
   have XF:=Lib.hid (B3.out.kp KB (by simp;omega))
   have XR:=Lib.hid (H.out.kp KB (by simp;omega))
   have XK:Hid (Kp (b::(fst::nb::fb::pb::ab a)) w ((w.setCell ⟨fst,0,none⟩ (.bool false)).alloc (.cells Kd.zero.c 150))):=Lib.hid (KB.mono (fun k _ hk=>by simp at hk;simp [hk]))
   have XN:Hid (∀ g∈(fst::nb::fb::pb::ab a),g∈(fst::nb::fb::pb::ab a)∨w.heap.size≤g):=Lib.hid (fun g hg=>.inl hg)
   have XJ:Hid (JK b fb pb fst nb P wd true (false,seps) ((w.setCell ⟨fst,0,none⟩ (.bool false)).alloc (.cells Kd.zero.c 150)) (fst::nb::fb::pb::ab a)):=Lib.hid (by
    refine ⟨a,c,rfl,?_,B2.out.kp KB (by simp;omega),O1.out.kp KB (by intro g hg;simp;rintro rfl;exact m1 hg),XF.out,B4.out.kp KB (by simp;omega),m1,m2,m3,m4,m5⟩
    have h2:=(B1.out.set 0 (.bool false)).alloc (.cells Kd.zero.c 150)
    simpa using h2)
   have XQ:Hid (w.heap.size ∉ (fst::nb::fb::pb::ab a)):=Lib.hid (by
    simp only [List.mem_cons,not_or]
    exact ⟨by omega,by omega,by omega,by omega,fun h=>by have:=O1.out.lt _ h;omega⟩)
   have XE:Hid (∀ r,sepP P (true,seps) l=some r→(false,seps)=r.1∧(some l)=some r.2):=Lib.hid (by
    intro r hr
    simp only [sepP,if_true,Option.some.injEq] at hr
    subst hr;exact ⟨rfl,rfl⟩)
   have XM:Hid (sepP P (true,seps) l=none→(some l)=none):=Lib.hid (by
    intro hr
    simp [sepP] at hr)
   have wz:w.heap.size<w.heap.size+1:=by omega
   go_wp2_with fail
   have hX:(((w.setCell ⟨fst,0,none⟩ (.bool false)).alloc (.cells Kd.zero.c 150))).heap.size=(w.heap.size+1):=by simp
   have XBk:=Lib.hid (XB.out.alloc (.cells Kd.zero.c 150))
   have XKk:Hid (Blk ((((w.setCell ⟨fst,0,none⟩ (.bool false)).alloc (.cells Kd.zero.c 150))).alloc (.cells Kd.zero.c 150)) ((w.heap.size+1)) 150 Kd.zero.c):=Lib.hid (hX ▸ Blk.new ((w.setCell ⟨fst,0,none⟩ (.bool false)).alloc (.cells Kd.zero.c 150)) 150 Kd.zero.c)
   have XFk:=Lib.hid (XF.out.alloc (.cells Kd.zero.c 150))
   have xz:w.heap.size<(w.heap.size+1):=by omega
   have xb:b<(w.heap.size+1):=by omega
   refine (u32_all b s (some l) _ (XR.out.kp ((Kp.refl [] _).alloc _) (by simp)) hs').mono ?_
   rintro e w5 ⟨rfl,k5,r5⟩
   obtain ⟨v,hv⟩:∃ v,gotV (takeP 4) 0 (some l)=v:=⟨_,rfl⟩
   rw [hv]
   have F5:=Lib.hid (XFk.out.kp k5 (by simp;omega))
   have K5:=Lib.hid (XKk.out.kp k5 (by simp;omega))
   have B5:=Lib.hid (XBk.out.kp k5 (by simp;omega))
   have HV:=Lib.hid hv;have HK:=Lib.hid k5;have HR:=Lib.hid r5
   have i0:=K5.out.cell 0;have i1:=K5.out.frozen 0;have i2:=F5.out.cell 1
   have i3:=B5.out.lt;have i4:=K5.out.lt;have i5:=F5.out.lt
   simp only [List.getElem?_toArray,List.getElem?_cons_zero,List.getElem?_cons_succ,Kd.get0] at i0 i2
   clear hv k5 r5
   go_wp2_with fail
   have K6:Hid (Blk (w5.setCell ⟨(w.heap.size+1),0,none⟩ (.int .u32 (v:Int))) ((w.heap.size+1)) 150 (Kd.mk v Dg.zero).c):=Lib.hid (by have:=K5.out.set 0 (.int .u32 (v:Int));rwa [Kd.set0] at this)
   have B6:=Lib.hid (B5.out.set_other (a:=⟨(w.heap.size+1),0,none⟩) (.int .u32 (v:Int)) (by show (w.heap.size+1)≠_;omega))
   refine (dg_all b wd s _ _ (HR.out.kp ((Kp.refl [(w.heap.size+1)] _).setCell _ (.inr (by simp))) (by simp;omega)) hs' hwd).mono ?_
   rintro e w6 ⟨rfl,k6,r6⟩
   obtain ⟨d,hd⟩:∃ d,gotV (dgP wd) Dg.zero (gotR (takeP 4) (some l))=d:=⟨_,rfl⟩
   rw [hd]
   have HD:=Lib.hid hd
   have K7:=Lib.hid (K6.out.kp k6 (by simp;omega))
   have B7:=Lib.hid (B6.out.kp k6 (by simp;omega))
   have j0:=own?_blk K7.out;have j1:=own?_blk B7.out;have j2:=K7.out.lt;have j3:=B7.out.lt
   have j4:w.heap.size≠(w.heap.size+1):=by omega
   have HK6:=Lib.hid k6;have HR6:=Lib.hid r6
   clear hd k6 r6
   go_wp2_with fail
   refine row_ret w.heap.size rfl Tryz.underlying150 rfl (by rw [Kd.c_size];kernel_rfl) rfl (((B7.out.setRow_other (g:=(w.heap.size+1)) _ (by omega)).setRow _)) rfl ?_
   exact kid_end (o:=(some l)) HST.out XJ.out XK.out XN.out XQ.out (Nat.le_refl _) (((((((Kp.refl [b,w.heap.size] _).alloc _).trans (HK.out.mono (fun k _ hk=>by simp at hk;simp [hk]))).setCell _ (.inl (by simp))).trans (HK6.out.mono (fun k _ hk=>by simp at hk;simp [hk]))).setRow _ _ (.inl (by simp))).setRow _ _ (.inr (by simp))) XE.out XM.out (by rw [← HD.out,← HV.out];rfl) (HR6.out.kp (((Kp.refl [(w.heap.size+1),w.heap.size] _).setRow _ _ (by simp)).setRow _ _ (by simp)) (by simp;omega))

end Go.Proofs.YtcaggadjkccbiaaGreat