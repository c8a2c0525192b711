/- The document's Most and Size. -/
import Derived.Test.YtcaggadjkccbiaaGreatZ30
import Derived.Test.YtcaggadjkccbiaaGreatZ29
namespace Go.Proofs.YtcaggadjkccbiaaGreat
set_option maxHeartbeats 1000000
set_option maxRecDepth 100000
set_option linter.unusedVariables false
set_option linter.unusedSimpArgs false
open Go Go.RowKit

theorem rmost_any (P:Nat) (wd:Int) (w:World) (h:P≤8192) (h0:1024≤P):Calls Tryz.prog 113 #[.agg #[.int .i64 P,.int .i64 wd]] w (Rets (.int .i64 ((P - 32:Nat):Int)) w):=by
 have e:IntKind.i64.wrap ((P:Int) - 32)=((P - 32:Nat):Int):=by rw [show ((P:Int) - 32)=((P - 32:Nat):Int) by omega];exact IntWalk.i64_in _ (by omega)
 have HE:=Lib.hid e
 go_enter Tryz.func113,Tryz.ntmps113
 go_wp2_with fail
 go_ret
 exact ⟨ret_int (by omega),(by (try simp only [alloc_ext,drew_ext,drewN_ext,ext_ext]);exact ⟨_,_,rfl⟩)⟩

theorem free_len {t:Bs} (h:t.length≤8192):(freeB t.length).length≤9:=by rw [freeB_length];exact cntN_le9 _ (by omega)

theorem rsize_leaf (P d:Nat) (pa sa ka:Option Addr) (pc sc kc:Nat) (n:Nd) (w:World) (hc:checkE P d n=0) (hl:leafB n=true) (h:NdAt w pa sa ka n) (ho:NdOk n) :
  Calls Tryz.prog 148 #[.agg #[.int .i64 P,.int .i64 d],.agg #[.slice pa n.pairs.length pc,.slice sa n.seps.length sc,.slice ka n.kids.length kc]] w (Rets (.int .i64 (sizeN d n:Nat)) w):=by
 have hl':(decide (n.seps.length=0∧n.kids.length=0))=true:=hl
 have hs:sizeN d n=1+(freeB n.pairs.length).length+(n.pairs.map prN).sum:=by unfold sizeN;rw [if_pos hl,freeB_length]
 have hnp:=ho.np
 have hc9:(freeB n.pairs.length).length≤9:=by rw [freeB_length];exact cntN_le9 n.pairs.length (by omega)
 have hw1:IntKind.u64.wrap (n.pairs.length:Int)=n.pairs.length:=by rw [IntKind.wrap_u64];omega
 have HSM:=Lib.hid (small_of hc)
 have HS:=Lib.hid hs;have HL:=Lib.hid hl';have HC:=Lib.hid hc
 have H:=Lib.hid h;have HO:=Lib.hid ho
 clear hs hl hl' h ho hc
 go_enter Tryz.func148,Tryz.ntmps148
 go_wp2_with fail
 refine (rcheck_any P d pa sa ka pc sc kc n _ (H.out.kp0 (((Kp.refl [] _).alloc _).alloc _)) HO.out).mono ?_
 rintro e w' ⟨rfl,bs0,m0,rfl⟩
 rw [HC.out]
 go_wp2_with fail
 refine (rleaf_any _ _ _ _ _ _ _ _ _ _).mono ?_
 rintro e w' ⟨rfl,bs1,m1,rfl⟩
 rw [HL.out]
 go_wp2_with fail
 refine (rfree_any n.pairs.length _ (by omega)).mono ?_
 rintro e w' ⟨rfl,bs2,m2,rfl⟩
 go_wp2_with fail
 go_loopw [5,6,7,8] (fun x i _ _ wr=>∃ k z bs n',i=.int .i64 (k:Nat)∧k≤n.pairs.length∧x=.int .i64 (z:Nat)∧z≤20+k*20000∧Hid (z=1+(freeB n.pairs.length).length+((n.pairs.take k).map prN).sum)∧wr=ext ((w.alloc (.cells #[.int .i64 P,.int .i64 d] 24)).alloc (.cells #[.slice pa n.pairs.length pc,.slice sa n.seps.length sc,.slice ka n.kids.length kc] 87)) bs n') (fun _ i _ _ _=>n.pairs.length - (intOf i).toNat)
 case atStart=>exact ⟨0,1+(freeB n.pairs.length).length,_,_,rfl,by omega,by go_num,by omega,by show _=_;simp,rfl⟩
 case round=>
  obtain ⟨k,z,bs,n',rfl,hk,rfl,hz,HZ,rfl⟩:=hrel
  by_cases hlt:k<n.pairs.length
  ·obtain ⟨x,hx⟩:∃ x,n.pairs[k]?=some x:=⟨_,List.getElem?_eq_getElem hlt⟩
   obtain ⟨b,o,rfl,hb,cf1,cf2⟩:=H.out.ps k x hx
   obtain ⟨hx1,hx2⟩:=HSM.out.sp x (List.mem_of_getElem? hx)
   have hst:=sum_take prN _ _ _ hx
   have hf1:=free_len hx1
   have hf2:=free_len hx2
   have hpr:prN x=(freeB x.1.length).length+x.1.length+((freeB x.2.length).length+x.2.length):=by unfold prN txN;rw [freeB_length,freeB_length]
   have HX:=Lib.hid hst;have HPR:=Lib.hid hpr;clear hst hx hpr
   have g1:IntKind.u64.wrap (x.1.length:Int)=x.1.length:=by rw [IntKind.wrap_u64];omega
   have g2:IntKind.u64.wrap (x.2.length:Int)=x.2.length:=by rw [IntKind.wrap_u64];omega
   have e1:IntKind.i64.wrap ((z:Int)+x.1.length)=z+x.1.length:=IntWalk.i64_in _ (by omega)
   have e2:IntKind.i64.wrap ((z:Int)+x.1.length+(freeB x.1.length).length)=z+x.1.length+(freeB x.1.length).length:=IntWalk.i64_in _ (by omega)
   have e3:IntKind.i64.wrap ((z:Int)+x.1.length+(freeB x.1.length).length+x.2.length)=z+x.1.length+(freeB x.1.length).length+x.2.length:=IntWalk.i64_in _ (by omega)
   have e4:IntKind.i64.wrap ((z:Int)+x.1.length+(freeB x.1.length).length+x.2.length+(freeB x.2.length).length)=z+x.1.length+(freeB x.1.length).length+x.2.length+(freeB x.2.length).length:=IntWalk.i64_in _ (by omega)
   go_wp2_with fail
   refine (rfree_any x.1.length _ (by omega)).mono ?_
   rintro e w' ⟨rfl,bs5,m5,rfl⟩
   go_wp2_with fail
   refine (rfree_any x.2.length _ (by omega)).mono ?_
   rintro e w' ⟨rfl,bs6,m6,rfl⟩
   go_wp2_with fail
   go_roundw
   case rel=>exact ⟨k+1,z+prN x,_,_,by go_num,by omega,by rw [HPR.out];simp only [Value.int.injEq,true_and];omega,by rw [HPR.out];omega,by show _=_;rw [HX.out,HZ.out];omega,(by (try simp only [alloc_ext,drew_ext,drewN_ext,ext_ext]);rfl)⟩
   case measure=>simp [intOf];omega
  ·obtain rfl:k=n.pairs.length:=by omega
   go_wp2_with fail
   go_ret
   exact ⟨ret_int (by rw [HS.out];have h:=HZ.out;rw [List.take_length] at h;omega),(by (try simp only [alloc_ext,drew_ext,drewN_ext,ext_ext]);exact ⟨_,_,rfl⟩)⟩

theorem rsize_branch (P d:Nat) (pa sa ka:Option Addr) (pc sc kc:Nat) (n:Nd) (w:World) (hc:checkE P d n=0) (hl:leafB n=false) (h:NdAt w pa sa ka n) (ho:NdOk n) :
  Calls Tryz.prog 148 #[.agg #[.int .i64 P,.int .i64 d],.agg #[.slice pa n.pairs.length pc,.slice sa n.seps.length sc,.slice ka n.kids.length kc]] w (Rets (.int .i64 (sizeN d n:Nat)) w):=by
 have hl':(decide (n.seps.length=0∧n.kids.length=0))=false:=hl
 have hs:sizeN d n=1+(freeB n.kids.length).length+n.kids.length*(4+d)+(n.seps.map txN).sum:=by unfold sizeN;rw [if_neg (by rw [hl];simp),freeB_length]
 have hns:=ho.ns
 have hnk:=ho.nk
 have hd32:d≤32:=by have:=(rightB_iff.1 (checkE_ok hc).1).2;omega
 have hc9:(freeB n.kids.length).length≤9:=by rw [freeB_length];exact cntN_le9 n.kids.length (by omega)
 have hw1:IntKind.u64.wrap (n.kids.length:Int)=n.kids.length:=by rw [IntKind.wrap_u64];omega
 obtain ⟨m0,hm0⟩:∃ m0,n.kids.length*(4+d)=m0:=⟨_,rfl⟩
 have hm1:m0≤n.kids.length*36:=by rw [← hm0];exact Nat.mul_le_mul_left _ (by omega)
 have hm2:(n.kids.length:Int)*(4+d)=m0:=by rw [← hm0];simp
 have x1:IntKind.i64.wrap (4+(d:Int))=4+d:=IntWalk.i64_in _ (by omega)
 have x2:IntKind.i64.wrap (m0:Int)=m0:=IntWalk.i64_in _ (by omega)
 have x3:IntKind.i64.wrap (1+((freeB n.kids.length).length:Int))=1+(freeB n.kids.length).length:=IntWalk.i64_in _ (by omega)
 have x4:IntKind.i64.wrap (1+((freeB n.kids.length).length:Int)+m0)=1+(freeB n.kids.length).length+m0:=IntWalk.i64_in _ (by omega)
 rw [hm0] at hs
 have HSM:=Lib.hid (small_of hc)
 have HS:=Lib.hid hs;have HL:=Lib.hid hl';have HC:=Lib.hid hc
 have H:=Lib.hid h;have HO:=Lib.hid ho
 clear hs hl hl' h ho hc hm0
 obtain ⟨W0,hW0⟩:∃ W0,W0=(w.alloc (.cells #[.int .i64 P,.int .i64 d] 24)).alloc (.cells #[.slice pa n.pairs.length pc,.slice sa n.seps.length sc,.slice ka n.kids.length kc] 87):=⟨_,rfl⟩
 have kw:Kp [] w W0:=by rw [hW0];exact ((Kp.refl [] w).alloc _).alloc _
 have b0:Blk W0 w.heap.size 24 #[.int .i64 P,.int .i64 d]:=by rw [hW0];exact (Blk.new w _ _).alloc _
 have b1:Blk W0 (w.heap.size+1) 87 #[.slice pa n.pairs.length pc,.slice sa n.seps.length sc,.slice ka n.kids.length kc]:=by
  rw [hW0]
  have h:=Blk.new (w.alloc (.cells #[.int .i64 P,.int .i64 d] 24)) 87 #[.slice pa n.pairs.length pc,.slice sa n.seps.length sc,.slice ka n.kids.length kc]
  simpa using h
 have hz0:W0.heap.size=w.heap.size+2:=by rw [hW0];simp
 have SK:Hid (∀ W:World,Kp [] W0 W→(W.cell? ⟨w.heap.size,0,none⟩=some (.int .i64 P)∧W.cell? ⟨w.heap.size,1,none⟩=some (.int .i64 d)∧W.cell? ⟨w.heap.size+1,0,none⟩=some (.slice pa n.pairs.length pc)∧W.cell? ⟨w.heap.size+1,1,none⟩=some (.slice sa n.seps.length sc)∧W.cell? ⟨w.heap.size+1,2,none⟩=some (.slice ka n.kids.length kc))∧w.heap.size+1<W.heap.size):=Lib.hid (fun W k=>
  ⟨⟨(b0.kp k (by simp)).cell 0,(b0.kp k (by simp)).cell 1,(b1.kp k (by simp)).cell 0,(b1.kp k (by simp)).cell 1,(b1.kp k (by simp)).cell 2⟩,by have:=k.size;omega⟩)
 have HK:=Lib.hid (H.out.kp0 kw)
 have KW:=Lib.hid kw
 have HW0:=Lib.hid hW0
 have hz1:w.heap.size+1<W0.heap.size:=by omega
 clear kw b0 b1 hW0 hz0
 go_enter Tryz.func148,Tryz.ntmps148
 go_wp2_with fail
 rw [← HW0.out]
 refine (rcheck_any P d pa sa ka pc sc kc n _ HK.out HO.out).mono ?_
 rintro e w1 ⟨rfl,hx1⟩
 have K1:Hid (Kp [] W0 w1):=Lib.hid (by obtain ⟨bx,nx,rfl⟩:=hx1;exact (Kp.refl [] _).ext _ _)
 obtain ⟨⟨f0,f1,n0,n1,n2⟩,z0⟩:=SK.out _ K1.out
 clear hx1
 rw [HC.out]
 go_wp2_with fail
 refine (rleaf_any _ _ _ _ _ _ _ _ _ _).mono ?_
 rintro e w2 ⟨rfl,hx2⟩
 have K2:Hid (Kp [] W0 w2):=Lib.hid (by obtain ⟨bx,nx,rfl⟩:=hx2;exact K1.out.ext _ _)
 clear hx2 f0 f1 n0 n1 n2 z0
 obtain ⟨⟨f0,f1,n0,n1,n2⟩,z0⟩:=SK.out _ K2.out
 rw [HL.out]
 go_wp2_with fail
 refine wp_region_ext (by kernel_rfl) (by kernel_rfl) ?_
 repeat (go_big_quiet_step ((go_at_call 171;exact Calls.quiet_ext (rfree_any n.kids.length _ (by omega)))))
 (refine wpQuiet_nil ?_;intro _ hw';obtain ⟨⟨bsq,nq⟩,hw''⟩:=hw';subst hw'')
 clear f0 f1 n0 n1 n2 z0
 go_wp2_with fail
 go_loopw [9,10,11] (fun x i _ wr=>∃ (k z:Nat),i=.int .i64 (k:Nat)∧k≤n.seps.length∧x=.int .i64 (z:Nat)∧z≤20+m0+k*20000∧Hid (z=1+(freeB n.kids.length).length+m0+((n.seps.take k).map txN).sum)∧Hid (Kp [] W0 wr)) (fun _ i _ _=>n.seps.length - (intOf i).toNat)
 case atStart=>exact ⟨0,1+(freeB n.kids.length).length+m0,rfl,by omega,by go_num,by omega,by show _=_;simp,Lib.hid (K2.out.ext _ _)⟩
 case round=>
  obtain ⟨k,z,rfl,hk,rfl,hz,HZ,KI⟩:=hrel
  obtain ⟨⟨f0,f1,n0,n1,n2⟩,z0⟩:=SK.out _ KI.out
  by_cases hlt:k<n.seps.length
  ·obtain ⟨x,hx⟩:∃ x,n.seps[k]?=some x:=⟨_,List.getElem?_eq_getElem hlt⟩
   obtain ⟨b,o,rfl,hb,cf1⟩:=HK.out.ss.kp KI.out (by simp) k x hx
   have hx1:=HSM.out.ss x (List.mem_of_getElem? hx)
   have hst:=sum_take txN _ _ _ hx
   have hf1:=free_len hx1
   have hpr:txN x=(freeB x.length).length+x.length:=by unfold txN;rw [freeB_length]
   have HX:=Lib.hid hst;have HPR:=Lib.hid hpr;clear hst hx hpr
   have g1:IntKind.u64.wrap (x.length:Int)=x.length:=by rw [IntKind.wrap_u64];omega
   have e1:IntKind.i64.wrap ((z:Int)+x.length)=z+x.length:=IntWalk.i64_in _ (by omega)
   have e2:IntKind.i64.wrap ((z:Int)+x.length+(freeB x.length).length)=z+x.length+(freeB x.length).length:=IntWalk.i64_in _ (by omega)
   go_wp2_with fail
   refine (rfree_any x.length _ (by omega)).mono ?_
   rintro e w' ⟨rfl,bs5,m5,rfl⟩
   go_wp2_with fail
   go_roundw
   case rel=>exact ⟨k+1,z+txN x,by go_num,by omega,by rw [HPR.out];simp only [Value.int.injEq,true_and];omega,by rw [HPR.out];omega,by show _=_;rw [HX.out,HZ.out];omega,Lib.hid (KI.out.ext _ _)⟩
   case measure=>simp [intOf];omega
  ·obtain rfl:k=n.seps.length:=by omega
   go_wp2_with fail
   go_ret
   exact ⟨ret_int (by rw [HS.out];have h:=HZ.out;rw [List.take_length] at h;omega),Kp.to_ext (KW.out.trans KI.out)⟩

theorem rsize_any (p wd:Int) (pa sa ka:Option Addr) (pc sc kc:Nat) (n:Nd) (w:World) (h:NdAt w pa sa ka n) (ho:NdOk n) :
  Calls Tryz.prog 148 #[.agg #[.int .i64 p,.int .i64 wd],.agg #[.slice pa n.pairs.length pc,.slice sa n.seps.length sc,.slice ka n.kids.length kc]] w (Rets (.int .i64 (SizeE p wd n:Nat)) w):=by
 by_cases hc:checkE p wd n=0
 ·have hr:=rightB_iff.1 (checkE_ok hc).1
  obtain ⟨P,rfl⟩:=Int.eq_ofNat_of_zero_le (show 0≤p by omega)
  obtain ⟨d,rfl⟩:=Int.eq_ofNat_of_zero_le (show 0≤wd by omega)
  have hs:SizeE P d n=sizeN d n:=by unfold SizeE;rw [if_pos hc];rfl
  rw [hs]
  cases hl:leafB n
  ·exact rsize_branch P d pa sa ka pc sc kc n w hc hl h ho
  ·exact rsize_leaf P d pa sa ka pc sc kc n w hc hl h ho
 ·have hs:SizeE p wd n=0:=by unfold SizeE;rw [if_neg hc]
  rw [hs]
  obtain ⟨c,hcc⟩:∃ c,checkE p wd n=c:=⟨_,rfl⟩
  rw [hcc] at hc
  have hb:(c != 0)=true:=by simpa using hc
  have HC:=Lib.hid hcc;have H:=Lib.hid h;have HO:=Lib.hid ho
  clear hs hc hcc h ho
  go_enter Tryz.func148,Tryz.ntmps148
  go_wp2_with fail
  refine (rcheck_any p wd pa sa ka pc sc kc n _ (H.out.kp0 (((Kp.refl [] _).alloc _).alloc _)) HO.out).mono ?_
  rintro e w' ⟨rfl,bs0,m0,rfl⟩
  rw [HC.out]
  go_wp2_with fail
  go_ret
  exact ⟨rfl,by (try simp only [alloc_ext,drew_ext,drewN_ext,ext_ext]);exact ⟨_,_,rfl⟩⟩

end Go.Proofs.YtcaggadjkccbiaaGreat