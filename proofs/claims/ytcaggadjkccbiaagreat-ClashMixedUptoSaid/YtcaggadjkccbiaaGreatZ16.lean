/- Is a node well shaped? -/
import Derived.Test.YtcaggadjkccbiaaGreatZ15
import Derived.Test.YtcaggadjkccbiaaGreatZ11
namespace Go.Proofs.YtcaggadjkccbiaaGreat
set_option maxHeartbeats 1000000
set_option maxRecDepth 100000
set_option linter.unusedVariables false
set_option linter.unusedSimpArgs false
open Go Go.RowKit

theorem Rets.ext {v:Value} {w:World} {bs:List Obj} {n:Nat} {e:Ending} {w':World} (h:Rets v (Proofs.YtcaggadjkccbiaaGreat.ext w bs n) e w'):Rets v w e w':=by
 obtain ⟨rfl,cs,m,rfl⟩:=h
 exact ⟨rfl,_,_,ext_ext _ _ _ _ _⟩

theorem long_any (fb P:Nat) (wd:Int) (x:Pr) (w:World) (hP:P≤8192) (hx:x.2.length≤140737488351232) (hb:fb<w.heap.size) (c0:w.cell? ⟨fb,0,none⟩=some (.int .i64 P)) (c1:w.cell? ⟨fb,1,none⟩=some (.int .i64 wd)) :
  Calls Tryz.prog 159 #[.agg #[.string ⟨x.1.toArray⟩,.string ⟨x.2.toArray⟩],.pointer (some ⟨fb,0,none⟩)] w (Rets (.bool (decide (P / 8<x.2.length))) w):=by
 have hd:(P:Int) / 8=((P / 8:Nat):Int):=by omega
 have HD:=Lib.hid hd;clear hd
 go_enter Tryz.func159,Tryz.ntmps159
 go_wp2
 refine wp_region_ext (by kernel_rfl) (by kernel_rfl) ?_
 repeat (go_big_quiet_step ((go_at_call 136;exact Calls.quiet_ext (maxVal_any _ _ _ (by omega) (by omega)))))
 (refine wpQuiet_nil ?_;intro _ hw';obtain ⟨⟨bsq,nq⟩,hw''⟩:=hw';subst hw'')
 go_wp2
 go_ret
 exact ⟨ret_bool (by rw [HD.out];rw [Bool.eq_iff_iff];simp;omega),(by (try simp only [alloc_ext,drew_ext,drewN_ext,ext_ext]);exact ⟨_,_,rfl⟩)⟩

theorem wideK_any (fb P:Nat) (wd:Int) (x:Kd) (w:World) (hb:fb<w.heap.size) (c0:w.cell? ⟨fb,0,none⟩=some (.int .i64 P)) (c1:w.cell? ⟨fb,1,none⟩=some (.int .i64 wd)) :
  Calls Tryz.prog 163 #[.agg x.c,.pointer (some ⟨fb,0,none⟩)] w (Rets (.bool (!fitB wd x.sum)) w):=by
 go_enter Tryz.func163,Tryz.ntmps163
 go_wp2_with (go_at_call 48;refine (fits_any _ _ _).mono ?_;rintro e w' ⟨rfl,bs,nn,rfl⟩)
 go_ret
 exact ⟨rfl,by (try simp only [alloc_ext,drew_ext,drewN_ext,ext_ext]);exact ⟨_,_,rfl⟩⟩

def leafB (n:Nd):Bool:=decide (n.seps.length=0∧n.kids.length=0)
def shapedB (P:Nat) (wd:Int) (n:Nd):Bool:=
 if leafB n=true then risesFrom (P / 16) none (n.pairs.map fun x=>x.1) && !(n.pairs.any fun x=>decide (P / 8<x.2.length))
 else decide (n.pairs.length=0) && decide (2≤n.kids.length) && decide (n.seps.length+1=n.kids.length) && !(n.kids.any fun k=>!fitB wd k.sum) && risesFrom (P / 16) none n.seps
def checkE (p wd:Int) (n:Nd):Int:=if rightB p wd=true then (if shapedB p.toNat wd n=true then 0 else 70) else 2

theorem long_enter (args:Array Value) (w:World):(callFunc 159 args).run Tryz.prog w=.ok (.enter 159 args) w:=by kernel_rfl
theorem wide_enter (args:Array Value) (w:World):(callFunc 163 args).run Tryz.prog w=.ok (.enter 163 args) w:=by kernel_rfl

theorem check_arg (p wd:Int) (pa sa ka:Option Addr) (pc sc kc:Nat) (n:Nd) (w:World) (hr:rightB p wd=false) :
  Calls Tryz.prog 141 #[.agg #[.int .i64 p,.int .i64 wd],.agg #[.slice pa n.pairs.length pc,.slice sa n.seps.length sc,.slice ka n.kids.length kc]] w (Rets (.int .i64 2) w):=by
 have HR:=Lib.hid hr;clear hr
 go_enter Tryz.func141,Tryz.ntmps141
 go_wp2_with fail
 refine (right_any _ _ _).mono ?_
 rintro e w' ⟨rfl,bs,m,rfl⟩
 rw [HR.out]
 go_wp2_with fail
 go_ret
 exact ⟨rfl,by (try simp only [alloc_ext,drew_ext,drewN_ext,ext_ext]);exact ⟨_,_,rfl⟩⟩

theorem check_leaf (P:Nat) (wd:Int) (pa sa ka:Option Addr) (pc sc kc:Nat) (n:Nd) (w:World) (hr:rightB P wd=true) (hl:leafB n=true) (h:NdAt w pa sa ka n) (ho:NdOk n) :
  Calls Tryz.prog 141 #[.agg #[.int .i64 P,.int .i64 wd],.agg #[.slice pa n.pairs.length pc,.slice sa n.seps.length sc,.slice ka n.kids.length kc]] w (Rets (.int .i64 (checkE P wd n)) w):=by
 have hP:P≤8192:=by have:=rightB_iff.1 hr;omega
 have hs:checkE P wd n=if (risesFrom (P / 16) none (n.pairs.map fun x=>x.1) && !(n.pairs.any fun x=>decide (P / 8<x.2.length)))=true then 0 else 70:=by
  simp only [checkE,hr,if_true,shapedB,hl,Int.toNat_natCast]
 have hl':(decide (n.seps.length=0∧n.kids.length=0))=true:=hl
 have HR:=Lib.hid hr;clear hr
 have HS:=Lib.hid hs;clear hs
 have HL:=Lib.hid hl';clear hl hl'
 have hnp:=ho.np
 have H:=Lib.hid h;have HO:=Lib.hid ho;clear h ho
 rcases h1:risesFrom (P / 16) none (n.pairs.map fun x=>x.1) with _ | _
 ·have H1:=Lib.hid h1;clear h1
  have hf:Hid (checkE P wd n=70):=by show _=_;rw [HS.out,H1.out];rfl
  go_enter Tryz.func141,Tryz.ntmps141
  go_wp2_with fail
  refine (right_any _ _ _).mono ?_
  rintro e w' ⟨rfl,bs,m,rfl⟩
  rw [HR.out]
  go_wp2_with fail
  refine (isLeaf_any _ _ _ _ _ _ _ _ _ _).mono ?_
  rintro e w' ⟨rfl,bs1,m1,rfl⟩
  rw [HL.out]
  go_wp2_with fail
  refine (rises_pair P wd _ _ _ _ hP (by omega) (fun x hx=>(HO.out.sp x hx).1) (H.out.ps.kp (((((Kp.refl [] _).alloc _).alloc _).ext _ _)) (by simp))).mono ?_
  rintro e w' ⟨rfl,bs2,m2,rfl⟩
  rw [H1.out]
  go_wp2_with fail
  go_ret
  rw [hf.out]
  exact ⟨rfl,by (try simp only [alloc_ext,drew_ext,drewN_ext,ext_ext]);exact ⟨_,_,rfl⟩⟩
 ·have H1:=Lib.hid h1;clear h1
  obtain ⟨m0,hm0⟩:∃ m0,n.pairs.any (fun x=>decide (P / 8<x.2.length))=m0:=⟨_,rfl⟩
  have hf:Hid (checkE P wd n=if m0=true then 70 else 0):=by show _=_;rw [HS.out,H1.out,hm0];cases m0 <;> rfl
  have HM:=Lib.hid hm0;clear hm0
  go_enter Tryz.func141,Tryz.ntmps141
  go_wp2_with fail
  refine (right_any _ _ _).mono ?_
  rintro e w' ⟨rfl,bs,m,rfl⟩
  rw [HR.out]
  go_wp2_with fail
  refine (isLeaf_any _ _ _ _ _ _ _ _ _ _).mono ?_
  rintro e w' ⟨rfl,bs1,m1,rfl⟩
  rw [HL.out]
  go_wp2_with fail
  refine (rises_pair P wd _ _ _ _ hP (by omega) (fun x hx=>(HO.out.sp x hx).1) (H.out.ps.kp (((((Kp.refl [] _).alloc _).alloc _).ext _ _)) (by simp))).mono ?_
  rintro e w' ⟨rfl,bs2,m2,rfl⟩
  rw [H1.out]
  go_wp2_with fail
  refine (ctf_pair 159 #[.pointer (some ⟨w.heap.size,0,none⟩)] (fun x=>decide (P / 8<x.2.length)) _ _ _ _ (by omega) (H.out.ps.kp (((((Kp.refl [] _).alloc _).alloc _).ext _ _)) (by simp)) long_enter ?_).mono ?_
  ·intro x hx bs3 m3
   refine long_any _ P wd x _ hP (HO.out.sp x hx).2 (by simp;omega) ?_ ?_
   ·simp [go_sem]
   ·simp [go_sem]
  ·rintro e w' ⟨rfl,bs4,m4,rfl⟩
   rw [HM.out]
   cases m0
   ·go_wp2_with fail
    go_ret
    rw [hf.out]
    exact ⟨rfl,by (try simp only [alloc_ext,drew_ext,drewN_ext,ext_ext]);exact ⟨_,_,rfl⟩⟩
   ·go_wp2_with fail
    go_ret
    rw [hf.out]
    exact ⟨rfl,by (try simp only [alloc_ext,drew_ext,drewN_ext,ext_ext]);exact ⟨_,_,rfl⟩⟩

theorem check_branch (P:Nat) (wd:Int) (pa sa ka:Option Addr) (pc sc kc:Nat) (n:Nd) (w:World) (hr:rightB P wd=true) (hl:leafB n=false) (h:NdAt w pa sa ka n) (ho:NdOk n) :
  Calls Tryz.prog 141 #[.agg #[.int .i64 P,.int .i64 wd],.agg #[.slice pa n.pairs.length pc,.slice sa n.seps.length sc,.slice ka n.kids.length kc]] w (Rets (.int .i64 (checkE P wd n)) w):=by
 have hP:P≤8192:=by have:=rightB_iff.1 hr;omega
 have hs:checkE P wd n=if (decide (n.pairs.length=0) && decide (2≤n.kids.length) && decide (n.seps.length+1=n.kids.length) && !(n.kids.any fun k=>!fitB wd k.sum) && risesFrom (P / 16) none n.seps)=true then 0 else 70:=by
  simp only [checkE,hr,if_true,shapedB,hl,Int.toNat_natCast,Bool.false_eq_true,if_false]
 have hl':(decide (n.seps.length=0∧n.kids.length=0))=false:=hl
 have HR:=Lib.hid hr;clear hr
 have HS:=Lib.hid hs;clear hs
 have HL:=Lib.hid hl';clear hl hl'
 have hnp:=ho.np
 have hns:=ho.ns
 have hnk:=ho.nk
 have H:=Lib.hid h;have HO:=Lib.hid ho;clear h ho
 by_cases h1:0<n.pairs.length
 ·have hf:Hid (checkE P wd n=70):=by show _=_;rw [HS.out,show decide (n.pairs.length=0)=false from decide_eq_false (by omega)];rfl
  go_enter Tryz.func141,Tryz.ntmps141
  go_wp2_with fail
  refine (right_any _ _ _).mono ?_
  rintro e w' ⟨rfl,bs,m,rfl⟩
  rw [HR.out]
  go_wp2_with fail
  refine (isLeaf_any _ _ _ _ _ _ _ _ _ _).mono ?_
  rintro e w' ⟨rfl,bs1,m1,rfl⟩
  rw [HL.out]
  go_wp2_with fail
  go_ret
  rw [hf.out]
  exact ⟨rfl,by (try simp only [alloc_ext,drew_ext,drewN_ext,ext_ext]);exact ⟨_,_,rfl⟩⟩
 by_cases h2:n.kids.length<2
 ·have hf:Hid (checkE P wd n=70):=by show _=_;rw [HS.out,show decide (2≤n.kids.length)=false from decide_eq_false (by omega)];simp
  go_enter Tryz.func141,Tryz.ntmps141
  go_wp2_with fail
  refine (right_any _ _ _).mono ?_
  rintro e w' ⟨rfl,bs,m,rfl⟩
  rw [HR.out]
  go_wp2_with fail
  refine (isLeaf_any _ _ _ _ _ _ _ _ _ _).mono ?_
  rintro e w' ⟨rfl,bs1,m1,rfl⟩
  rw [HL.out]
  go_wp2_with fail
  go_ret
  rw [hf.out]
  exact ⟨rfl,by (try simp only [alloc_ext,drew_ext,drewN_ext,ext_ext]);exact ⟨_,_,rfl⟩⟩
 by_cases h3:n.seps.length+1=n.kids.length
 case neg=>
  have hf:Hid (checkE P wd n=70):=by show _=_;rw [HS.out,show decide (n.seps.length+1=n.kids.length)=false from decide_eq_false h3];simp
  have hb:((n.seps.length:Int) != (n.kids.length:Int) - 1)=true:=by simp only [bne_iff_ne,ne_eq];omega
  have H3:=Lib.hid h3;clear h3
  go_enter Tryz.func141,Tryz.ntmps141
  go_wp2_with fail
  refine (right_any _ _ _).mono ?_
  rintro e w' ⟨rfl,bs,m,rfl⟩
  rw [HR.out]
  go_wp2_with fail
  refine (isLeaf_any _ _ _ _ _ _ _ _ _ _).mono ?_
  rintro e w' ⟨rfl,bs1,m1,rfl⟩
  rw [HL.out]
  go_wp2_with fail
  go_ret
  rw [hf.out]
  exact ⟨rfl,by (try simp only [alloc_ext,drew_ext,drewN_ext,ext_ext]);exact ⟨_,_,rfl⟩⟩
 have hb:((n.seps.length:Int) != (n.kids.length:Int) - 1)=false:=by simp only [bne_eq_false_iff_eq];omega
 have hs2:checkE P wd n=if (!(n.kids.any fun k=>!fitB wd k.sum) && risesFrom (P / 16) none n.seps)=true then 0 else 70:=by
  rw [HS.out,decide_eq_true (show n.pairs.length=0 by omega),decide_eq_true (show 2≤n.kids.length by omega),decide_eq_true h3];rfl
 have HS2:=Lib.hid hs2;clear hs2
 have H3:=Lib.hid h3;clear h3
 obtain ⟨m0,hm0⟩:∃ m0,n.kids.any (fun k=>!fitB wd k.sum)=m0:=⟨_,rfl⟩
 rcases m0 with _ | _
 case true=>
  have hf:Hid (checkE P wd n=70):=by show _=_;rw [HS2.out,hm0];rfl
  have HM:=Lib.hid hm0;clear hm0
  go_enter Tryz.func141,Tryz.ntmps141
  go_wp2_with fail
  refine (right_any _ _ _).mono ?_
  rintro e w' ⟨rfl,bs,m,rfl⟩
  rw [HR.out]
  go_wp2_with fail
  refine (isLeaf_any _ _ _ _ _ _ _ _ _ _).mono ?_
  rintro e w' ⟨rfl,bs1,m1,rfl⟩
  rw [HL.out]
  go_wp2_with fail
  refine (ctf_kid 163 #[.pointer (some ⟨w.heap.size,0,none⟩)] (fun k=>!fitB wd k.sum) _ _ _ _ (by omega) (H.out.ks.kp (((((Kp.refl [] _).alloc _).alloc _).ext _ _)) (by simp)) wide_enter ?_).mono ?_
  ·intro x hx bs3 m3
   refine wideK_any _ P wd x _ (by simp;omega) ?_ ?_
   ·simp [go_sem]
   ·simp [go_sem]
  ·rintro e w' ⟨rfl,bs4,m4,rfl⟩
   rw [HM.out]
   go_wp2_with fail
   go_ret
   rw [hf.out]
   exact ⟨rfl,by (try simp only [alloc_ext,drew_ext,drewN_ext,ext_ext]);exact ⟨_,_,rfl⟩⟩
 case false=>
  obtain ⟨m1',hm1⟩:∃ m1',risesFrom (P / 16) none n.seps=m1':=⟨_,rfl⟩
  have hf:Hid (checkE P wd n=if m1'=true then 0 else 70):=by show _=_;rw [HS2.out,hm0,hm1];cases m1' <;> rfl
  have HM:=Lib.hid hm0;clear hm0
  have HM1:=Lib.hid hm1;clear hm1
  go_enter Tryz.func141,Tryz.ntmps141
  go_wp2_with fail
  refine (right_any _ _ _).mono ?_
  rintro e w' ⟨rfl,bs,m,rfl⟩
  rw [HR.out]
  go_wp2_with fail
  refine (isLeaf_any _ _ _ _ _ _ _ _ _ _).mono ?_
  rintro e w' ⟨rfl,bs1,m1,rfl⟩
  rw [HL.out]
  go_wp2_with fail
  refine (ctf_kid 163 #[.pointer (some ⟨w.heap.size,0,none⟩)] (fun k=>!fitB wd k.sum) _ _ _ _ (by omega) (H.out.ks.kp (((((Kp.refl [] _).alloc _).alloc _).ext _ _)) (by simp)) wide_enter ?_).mono ?_
  ·intro x hx bs3 m3
   refine wideK_any _ P wd x _ (by simp;omega) ?_ ?_
   ·simp [go_sem]
   ·simp [go_sem]
  ·rintro e w' ⟨rfl,bs4,m4,rfl⟩
   rw [HM.out]
   go_wp2_with fail
   refine (rises_sep P wd _ _ _ _ hP (by omega) (fun x hx=>HO.out.ss x hx) (H.out.ss.kp (((((Kp.refl [] _).alloc _).alloc _).ext _ _)) (by simp))).mono ?_
   rintro e w' ⟨rfl,bs2,m2,rfl⟩
   rw [HM1.out]
   cases m1'
   ·go_wp2_with fail
    go_ret
    rw [hf.out]
    exact ⟨rfl,by (try simp only [alloc_ext,drew_ext,drewN_ext,ext_ext]);exact ⟨_,_,rfl⟩⟩
   ·go_wp2_with fail
    go_ret
    rw [hf.out]
    exact ⟨rfl,by (try simp only [alloc_ext,drew_ext,drewN_ext,ext_ext]);exact ⟨_,_,rfl⟩⟩

theorem check_any (p wd:Int) (pa sa ka:Option Addr) (pc sc kc:Nat) (n:Nd) (w:World) (h:NdAt w pa sa ka n) (ho:NdOk n) :
  Calls Tryz.prog 141 #[.agg #[.int .i64 p,.int .i64 wd],.agg #[.slice pa n.pairs.length pc,.slice sa n.seps.length sc,.slice ka n.kids.length kc]] w (Rets (.int .i64 (checkE p wd n)) w):=by
 cases hr:rightB p wd
 ·have:checkE p wd n=2:=by simp [checkE,hr]
  rw [this]
  exact check_arg p wd pa sa ka pc sc kc n w hr
 ·obtain ⟨P,rfl⟩:=Int.eq_ofNat_of_zero_le (show 0≤p by have:=rightB_iff.1 hr;omega)
  cases hl:leafB n
  ·exact check_branch P wd pa sa ka pc sc kc n w hr hl h ho
  ·exact check_leaf P wd pa sa ka pc sc kc n w hr hl h ho


def prN (x:Pr):Nat:=txN x.1+txN x.2
def sizeN (wd:Nat) (n:Nd):Nat:=
 if leafB n=true then 1+cntN n.pairs.length+(n.pairs.map prN).sum
 else 1+cntN n.kids.length+n.kids.length*(4+wd)+(n.seps.map txN).sum

theorem txN_le {t:Bs} {m:Nat} (h:t.length≤m) (hm:m≤140737488351232):txN t≤9+m:=by
 have:=cntN_le9 t.length (by omega);unfold txN;omega
theorem sum_take {α:Type} (f:α→Nat) (l:List α) (k:Nat) (x:α) (hx:l[k]?=some x):((l.take (k+1)).map f).sum=((l.take k).map f).sum+f x:=by
 rw [List.take_add_one,hx];simp

structure Small (n:Nd):Prop where
 sp:∀ p∈n.pairs,p.1.length≤8192∧p.2.length≤8192
 ss:∀ p∈n.seps,p.length≤8192

theorem size_leaf (P:Int) (wd:Nat) (pa sa ka:Option Addr) (pc sc kc:Nat) (n:Nd) (w:World) (hl:leafB n=true) (h:NdAt w pa sa ka n) (ho:NdOk n) (hsm:Small n) :
  Calls Tryz.prog 142 #[.agg #[.int .i64 P,.int .i64 wd],.agg #[.slice pa n.pairs.length pc,.slice sa n.seps.length sc,.slice ka n.kids.length kc]] w (Rets (.int .i64 (sizeN wd n:Nat)) w):=by
 have hl':(decide (n.seps.length=0∧n.kids.length=0))=true:=hl
 have hs:sizeN wd n=1+cntN n.pairs.length+(n.pairs.map prN).sum:=by unfold sizeN;rw [if_pos hl]
 have hnp:=ho.np
 have hc9:=cntN_le9 n.pairs.length (by omega)
 have HS:=Lib.hid hs;have HL:=Lib.hid hl';clear hs hl hl'
 have H:=Lib.hid h;have HSM:=Lib.hid hsm;clear h ho hsm
 go_enter Tryz.func142,Tryz.ntmps142
 go_wp2_with fail
 refine (isLeaf_any _ _ _ _ _ _ _ _ _ _).mono ?_
 rintro e w' ⟨rfl,bs1,m1,rfl⟩
 rw [HL.out]
 go_wp2_with fail
 refine (count_any _ _ (by omega)).mono ?_
 rintro e w' ⟨rfl,rfl⟩
 go_wp2_with fail
 go_loopw [5,21] (fun x i wr=>∃ k z bs n',i=.int .i64 (k:Nat)∧k≤n.pairs.length∧x=.int .i64 (z:Nat)∧z≤20+k*20000∧Hid (z=1+cntN n.pairs.length+((n.pairs.take k).map prN).sum)∧wr=ext ((w.alloc (.cells #[.int .i64 P,.int .i64 wd] 24)).alloc (.cells #[.slice pa n.pairs.length pc,.slice sa n.seps.length sc,.slice ka n.kids.length kc] 87)) bs n') (fun _ i _=>n.pairs.length - (intOf i).toNat)
 case atStart=>exact ⟨0,1+cntN n.pairs.length,bs1,m1,rfl,by omega,by go_num,by omega,by show _=_;simp,rfl⟩
 case round=>
  obtain ⟨k,z,bs,n',rfl,hk,rfl,hz,HZ,rfl⟩:=hrel
  by_cases hlt:k<n.pairs.length
  ·obtain ⟨x,hx⟩:∃ x,n.pairs[k]?=some x:=⟨_,List.getElem?_eq_getElem hlt⟩
   obtain ⟨b,o,rfl,hb,cf1,cf2⟩:=H.out.ps k x hx
   obtain ⟨hx1,hx2⟩:=HSM.out.sp x (List.mem_of_getElem? hx)
   have hst:=sum_take prN _ _ _ hx
   have hp1:=txN_le hx1 (by omega)
   have hp2:=txN_le hx2 (by omega)
   have HX:=Lib.hid hst;clear hst hx
   have e1:IntKind.i64.wrap ((txN x.1:Int)+txN x.2)=txN x.1+txN x.2:=IntWalk.i64_in _ (by omega)
   have e2:IntKind.i64.wrap ((z:Int)+(txN x.1+txN x.2))=z+(txN x.1+txN x.2):=IntWalk.i64_in _ (by omega)
   go_wp2_with fail
   refine wp_region_ext (by kernel_rfl) (by kernel_rfl) ?_
   repeat (go_big_quiet_step ((go_at_call 168;exact Calls.quiet_pure (text_any _ _ (by omega)))))
   (refine wpQuiet_nil ?_;intro _ hw';obtain ⟨⟨bsq,nq⟩,hw''⟩:=hw';subst hw'')
   clear e1 e2
   go_wp2_with fail
   go_roundw
   case rel=>exact ⟨k+1,z+(txN x.1+txN x.2),_,_,by go_num,by omega,by go_num,by omega,by show _=_;rw [HX.out,HZ.out];simp only [prN];omega,by (try simp only [ext_alloc,ext_drew,ext_drewN,ext_ext]);rfl⟩
   case measure=>simp [intOf];omega
  ·have hfin:Hid (sizeN wd n=z):=by show _=_;rw [HS.out,HZ.out,List.take_of_length_le (by omega)]
   go_wp2_with fail
   go_ret
   exact ⟨ret_int (by rw [hfin.out]),(by (try simp only [alloc_ext,drew_ext,drewN_ext,ext_ext]);exact ⟨_,_,rfl⟩)⟩


theorem Calls.quiet_ext2 {P:Program} {f:FuncId} {args:Array Value} {w:World} {bs0:List Obj} {n0:Nat} {q:Q} {v:Value}
  (h:Calls P f args (Proofs.YtcaggadjkccbiaaGreat.ext w (bs0++q.bs) (n0+q.n)) (Rets v (Proofs.YtcaggadjkccbiaaGreat.ext w (bs0++q.bs) (n0+q.n)))):Calls P f args (Proofs.YtcaggadjkccbiaaGreat.ext w (bs0++q.bs) (n0+q.n)) fun e w''=>e=.returned v∧∃ q:Q,w''=Proofs.YtcaggadjkccbiaaGreat.ext w (bs0++q.bs) (n0+q.n):=
 h.mono fun _ _ ⟨he,bs',m,hm⟩=>⟨he,⟨q.bs++bs',q.n+m⟩,by rw [hm,ext_ext,List.append_assoc,Nat.add_assoc]⟩
theorem Calls.quiet_pure2 {P:Program} {f:FuncId} {args:Array Value} {w:World} {bs0:List Obj} {n0:Nat} {q:Q} {v:Value}
  (h:Calls P f args (Proofs.YtcaggadjkccbiaaGreat.ext w (bs0++q.bs) (n0+q.n)) fun e w'=>e=.returned v∧Proofs.YtcaggadjkccbiaaGreat.ext w (bs0++q.bs) (n0+q.n)=w'):Calls P f args (Proofs.YtcaggadjkccbiaaGreat.ext w (bs0++q.bs) (n0+q.n)) fun e w''=>e=.returned v∧∃ q:Q,w''=Proofs.YtcaggadjkccbiaaGreat.ext w (bs0++q.bs) (n0+q.n):=
 h.mono fun _ _ ⟨he,hm⟩=>⟨he,q,hm.symm⟩

theorem size_branch (P:Int) (wd:Nat) (pa sa ka:Option Addr) (pc sc kc:Nat) (n:Nd) (w:World) (hwd:wd≤32) (hl:leafB n=false) (h:NdAt w pa sa ka n) (ho:NdOk n) (hsm:Small n) :
  Calls Tryz.prog 142 #[.agg #[.int .i64 P,.int .i64 wd],.agg #[.slice pa n.pairs.length pc,.slice sa n.seps.length sc,.slice ka n.kids.length kc]] w (Rets (.int .i64 (sizeN wd n:Nat)) w):=by
 have hl':(decide (n.seps.length=0∧n.kids.length=0))=false:=hl
 have hs:sizeN wd n=1+cntN n.kids.length+n.kids.length*(4+wd)+(n.seps.map txN).sum:=by unfold sizeN;rw [if_neg (by rw [hl];decide)]
 have hns:=ho.ns
 have hnk:=ho.nk
 have hc9:=cntN_le9 n.kids.length (by omega)
 have hmul:n.kids.length*(4+wd)≤n.kids.length*36:=Nat.mul_le_mul_left _ (by omega)
 obtain ⟨y,hy⟩:∃ y,y=n.kids.length*(4+wd):=⟨_,rfl⟩
 rw [← hy] at hmul hs
 have hy36:y≤140737488352308:=by omega
 clear hmul
 have e0:IntKind.i64.wrap (4+(wd:Int))=4+wd:=IntWalk.i64_in _ (by omega)
 have e1:IntKind.i64.wrap ((n.kids.length:Int)*(4+wd))=y:=by rw [show (n.kids.length:Int)*(4+wd)=(y:Int) by rw [hy];simp];exact IntWalk.i64_in _ (by omega)
 have e2:IntKind.i64.wrap (1+(cntN n.kids.length:Int))=1+cntN n.kids.length:=IntWalk.i64_in _ (by omega)
 have e3:IntKind.i64.wrap (1+(cntN n.kids.length:Int)+y)=1+cntN n.kids.length+y:=IntWalk.i64_in _ (by omega)
 have HS:=Lib.hid hs;have HL:=Lib.hid hl';clear hs hl hl'
 clear hy
 have H:=Lib.hid h;have HSM:=Lib.hid hsm;clear h ho hsm
 go_enter Tryz.func142,Tryz.ntmps142
 go_wp2_with fail
 refine (isLeaf_any _ _ _ _ _ _ _ _ _ _).mono ?_
 rintro e w' ⟨rfl,bs1,m1,rfl⟩
 rw [HL.out]
 go_wp2_with fail
 refine wp_region_ext (by kernel_rfl) (by kernel_rfl) ?_
 repeat (go_big_quiet_step ((go_at_call 167;exact Calls.quiet_pure2 (count_any _ _ (by omega)))))
 (refine wpQuiet_nil ?_;intro _ hw';obtain ⟨⟨bsq,nq⟩,hw''⟩:=hw';subst hw'')
 clear e0 e1 e2 e3
 go_wp2_with fail
 go_loopw [8,10,52] (fun x _ i wr=>∃ k z bs n',i=.int .i64 (k:Nat)∧k≤n.seps.length∧x=.int .i64 (z:Nat)∧z≤20+y+k*20000∧Hid (z=1+cntN n.kids.length+y+((n.seps.take k).map txN).sum)∧wr=ext ((w.alloc (.cells #[.int .i64 P,.int .i64 wd] 24)).alloc (.cells #[.slice pa n.pairs.length pc,.slice sa n.seps.length sc,.slice ka n.kids.length kc] 87)) bs n') (fun _ _ i _=>n.seps.length - (intOf i).toNat)
 case atStart=>exact ⟨0,1+cntN n.kids.length+y,_,_,rfl,by omega,by go_num,by omega,by show _=_;simp,by (try simp only [ext_alloc,ext_drew,ext_drewN,ext_ext]);rfl⟩
 case round=>
  obtain ⟨k,z,bs,n',rfl,hk,rfl,hz,HZ,rfl⟩:=hrel
  by_cases hlt:k<n.seps.length
  ·obtain ⟨x,hx⟩:∃ x,n.seps[k]?=some x:=⟨_,List.getElem?_eq_getElem hlt⟩
   obtain ⟨b,o,rfl,hb,cf1⟩:=H.out.ss k x hx
   have hx1:=HSM.out.ss x (List.mem_of_getElem? hx)
   have hst:=sum_take txN _ _ _ hx
   have hp1:=txN_le hx1 (by omega)
   have HX:=Lib.hid hst;clear hst hx
   go_wp2_with (go_at_call 168;refine (text_any _ _ (by omega)).mono ?_;rintro e w' ⟨rfl,rfl⟩)
   go_roundw
   case rel=>exact ⟨k+1,z+txN x,_,_,by go_num,by omega,by go_num,by omega,by show _=_;rw [HX.out,HZ.out];omega,by (try simp only [ext_alloc,ext_drew,ext_drewN,ext_ext]);rfl⟩
   case measure=>simp [intOf];omega
  ·have hfin:Hid (sizeN wd n=z):=by show _=_;rw [HS.out,HZ.out,List.take_of_length_le (by omega)]
   go_wp2_with fail
   go_ret
   exact ⟨ret_int (by rw [hfin.out]),(by (try simp only [alloc_ext,drew_ext,drewN_ext,ext_ext]);exact ⟨_,_,rfl⟩)⟩

theorem size_any (P:Int) (wd:Nat) (pa sa ka:Option Addr) (pc sc kc:Nat) (n:Nd) (w:World) (hwd:wd≤32) (h:NdAt w pa sa ka n) (ho:NdOk n) (hsm:Small n) :
  Calls Tryz.prog 142 #[.agg #[.int .i64 P,.int .i64 wd],.agg #[.slice pa n.pairs.length pc,.slice sa n.seps.length sc,.slice ka n.kids.length kc]] w (Rets (.int .i64 (sizeN wd n:Nat)) w):=by
 cases hl:leafB n
 ·exact size_branch P wd pa sa ka pc sc kc n w hwd hl h ho hsm
 ·exact size_leaf P wd pa sa ka pc sc kc n w hl h ho hsm

theorem rises_len:∀ (l:List Bs) (m:Nat) (pv:Option Bs),risesFrom m pv l=true→∀ x∈l,1≤x.length∧x.length≤m
 | [],_,_,_=>by simp
 | k::t,m,pv,h=>by
  simp only [risesFrom,Bool.and_eq_true,decide_eq_true_eq] at h
  intro x hx
  rcases List.mem_cons.1 hx with rfl | hx
  ·exact ⟨h.1.1.1,h.1.1.2⟩
  ·exact rises_len t m (some k) h.2 x hx

theorem checkE_ok {p wd:Int} {n:Nd} (h:checkE p wd n=0):rightB p wd=true∧shapedB p.toNat wd n=true:=by
 unfold checkE at h
 split at h
 ·split at h
  ·exact ⟨‹_›,‹_›⟩
  ·cases h
 ·cases h
theorem leafB_iff {n:Nd}:leafB n=true ↔ n.seps=[]∧n.kids=[]:=by
 unfold leafB
 rw [decide_eq_true_eq]
 constructor
 ·rintro ⟨h1,h2⟩;exact ⟨List.eq_nil_of_length_eq_zero h1,List.eq_nil_of_length_eq_zero h2⟩
 ·rintro ⟨h1,h2⟩;simp [h1,h2]
theorem small_of {p wd:Int} {n:Nd} (h:checkE p wd n=0):Small n:=by
 obtain ⟨hr,hs⟩:=checkE_ok h
 have hp:=(rightB_iff.1 hr).1
 unfold shapedB at hs
 split at hs
 ·rename_i hl
  obtain ⟨h1,h2⟩:=leafB_iff.1 hl
  simp only [Bool.and_eq_true,Bool.not_eq_true',List.any_eq_false,decide_eq_true_eq] at hs
  refine ⟨fun q hq=>?_,by rw [h1];simp⟩
  have:=rises_len _ _ _ hs.1 q.1 (List.mem_map.2 ⟨q,hq,rfl⟩)
  have:=hs.2 q hq
  omega
 ·simp only [Bool.and_eq_true,decide_eq_true_eq] at hs
  have hn:n.pairs=[]:=List.eq_nil_of_length_eq_zero hs.1.1.1.1
  refine ⟨by rw [hn];simp,fun q hq=>?_⟩
  have:=rises_len _ _ _ hs.2 q hq
  omega

def mayE (p wd:Int) (n:Nd):Int:=if checkE p wd n=0 then (if p.toNat - 32<sizeN wd.toNat n then 71 else 0) else checkE p wd n

def SizeE (p wd:Int) (n:Nd):Nat:=if checkE p wd n=0 then sizeN wd.toNat n else 0

theorem may_any (p wd:Int) (pa sa ka:Option Addr) (pc sc kc:Nat) (n:Nd) (w:World) (h:NdAt w pa sa ka n) (ho:NdOk n) :
  Calls Tryz.prog 98 #[.agg #[.int .i64 p,.int .i64 wd],.agg #[.slice pa n.pairs.length pc,.slice sa n.seps.length sc,.slice ka n.kids.length kc]] w (Rets (.int .i64 (mayE p wd n)) w):=by
 obtain ⟨c,hc⟩:∃ c,checkE p wd n=c:=⟨_,rfl⟩
 have HC:=Lib.hid hc
 by_cases h0:c=0
 ·subst h0
  have hsm:=small_of hc
  have hr:=rightB_iff.1 (checkE_ok hc).1
  obtain ⟨d,rfl⟩:=Int.eq_ofNat_of_zero_le (show 0≤wd by omega)
  obtain ⟨q,rfl⟩:=Int.eq_ofNat_of_zero_le (show 0≤p by omega)
  have hd:d≤32:=by omega
  have hq:q≤8192:=by omega
  have hq2:1024≤q:=by omega
  have hm:mayE q d n=if q - 32<sizeN d n then 71 else 0:=by simp [mayE,hc]
  have HM:=Lib.hid hm;clear hm
  have H:=Lib.hid h;have HO:=Lib.hid ho;have HSM:=Lib.hid hsm;clear h ho hsm hr hc
  have hlo:((q:Int) - 32<(sizeN d n:Nat))∨¬ ((q:Int) - 32<(sizeN d n:Nat)):=by omega
  rcases hlo with hlo | hlo
  all_goals
   go_enter Tryz.func98,Tryz.ntmps98
   go_wp2_with fail
   refine (check_any _ _ _ _ _ _ _ _ n _ (H.out.kp0 (((Kp.refl [] _).alloc _).alloc _)) HO.out).mono ?_
   rintro e w' ⟨rfl,bs,m,rfl⟩
   rw [HC.out]
   go_wp2_with fail
   refine wp_region_ext (by kernel_rfl) (by kernel_rfl) ?_
   repeat (go_big_quiet_step ((first | (go_at_call 143;exact Calls.quiet_ext2 (room_any _ _ _ (by omega) (by omega))) | (go_at_call 142;exact Calls.quiet_ext2 (size_any _ d _ _ _ _ _ _ n _ hd (H.out.kp0 ((((Kp.refl [] _).alloc _).alloc _).ext _ _)) HO.out HSM.out)))))
   (refine wpQuiet_nil ?_;intro _ hw';obtain ⟨⟨bsq,nq⟩,hw''⟩:=hw';subst hw'')
   go_wp2_with fail
   go_ret
   exact ⟨ret_int (by rw [HM.out];split <;> omega),(by (try simp only [alloc_ext,drew_ext,drewN_ext,ext_ext]);exact ⟨_,_,rfl⟩)⟩
 ·have hb:(c != 0)=true:=by simpa using h0
  have H0:=Lib.hid h0
  have H:=Lib.hid h;have HO:=Lib.hid ho;clear h ho hc h0
  go_enter Tryz.func98,Tryz.ntmps98
  go_wp2_with fail
  refine (check_any _ _ _ _ _ _ _ _ n _ (H.out.kp0 (((Kp.refl [] _).alloc _).alloc _)) HO.out).mono ?_
  rintro e w' ⟨rfl,bs,m,rfl⟩
  rw [HC.out]
  go_wp2_with fail
  go_ret
  exact ⟨ret_int (by unfold mayE;rw [HC.out,if_neg H0.out]),(by (try simp only [alloc_ext,drew_ext,drewN_ext,ext_ext]);exact ⟨_,_,rfl⟩)⟩

end Go.Proofs.YtcaggadjkccbiaaGreat