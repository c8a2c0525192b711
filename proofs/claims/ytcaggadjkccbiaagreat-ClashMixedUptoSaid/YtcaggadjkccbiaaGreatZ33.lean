/- The document's Plain, Pack, Sum, Empty; the program's Empty. -/
import Derived.Test.YtcaggadjkccbiaaGreatZ32
import Derived.Test.YtcaggadjkccbiaaGreatZ26
import Derived.Deep.RegionHeld3
namespace Go.Proofs.YtcaggadjkccbiaaGreat
set_option maxHeartbeats 1000000
set_option maxRecDepth 100000
set_option linter.unusedVariables false
set_option linter.unusedSimpArgs false
open Go Go.RowKit

theorem rplain_any (p wd:Int) (pa sa ka:Option Addr) (pc sc kc:Nat) (n:Nd) (w:World) (h:NdAt w pa sa ka n) (ho:NdOk n) :
  Calls Tryz.prog 115 #[.agg #[.int .i64 p,.int .i64 wd],.agg #[.slice pa n.pairs.length pc,.slice sa n.seps.length sc,.slice ka n.kids.length kc]] w (Rets (.tuple #[.string ⟨(plainS p wd n).toArray⟩,.int .i64 (mayE p wd n)]) w):=by
 by_cases hc:checkE p wd n=0
 ·have hr:=rightB_iff.1 (checkE_ok hc).1
  obtain ⟨P,rfl⟩:=Int.eq_ofNat_of_zero_le (show 0≤p by omega)
  obtain ⟨d,rfl⟩:=Int.eq_ofNat_of_zero_le (show 0≤wd by omega)
  have hs:SizeE P d n=sizeN d n:=by unfold SizeE;rw [if_pos hc];rfl
  have hP0:1024≤P:=by omega
  have hP:P≤8192:=by omega
  have hm:mayE P d n=if P - 32<sizeN d n then 71 else 0:=by unfold mayE;rw [if_pos hc];rfl
  have K0:Kp [] w ((w.alloc (.cells #[.int .i64 P,.int .i64 d] 24)).alloc (.cells #[.slice pa n.pairs.length pc,.slice sa n.seps.length sc,.slice ka n.kids.length kc] 87)):=((Kp.refl [] w).alloc _).alloc _
  obtain ⟨W0,hW0⟩:∃ W0,W0=(w.alloc (.cells #[.int .i64 P,.int .i64 d] 24)).alloc (.cells #[.slice pa n.pairs.length pc,.slice sa n.seps.length sc,.slice ka n.kids.length kc] 87):=⟨_,rfl⟩
  rw [← hW0] at K0
  have b0:Blk W0 w.heap.size 24 #[.int .i64 P,.int .i64 d]:=by rw [hW0];exact (Blk.new w _ _).alloc _
  have b1:Blk W0 (w.heap.size+1) 87 #[.slice pa n.pairs.length pc,.slice sa n.seps.length sc,.slice ka n.kids.length kc]:=by
   rw [hW0]
   have h:=Blk.new (w.alloc (.cells #[.int .i64 P,.int .i64 d] 24)) 87 #[.slice pa n.pairs.length pc,.slice sa n.seps.length sc,.slice ka n.kids.length kc]
   simpa using h
  have SK:Hid (∀ W:World,Kp [] W0 W→(W.cell? ⟨w.heap.size,0,none⟩=some (.int .i64 P)∧W.cell? ⟨w.heap.size,1,none⟩=some (.int .i64 d)∧W.cell? ⟨w.heap.size+1,0,none⟩=some (.slice pa n.pairs.length pc)∧W.cell? ⟨w.heap.size+1,1,none⟩=some (.slice sa n.seps.length sc)∧W.cell? ⟨w.heap.size+1,2,none⟩=some (.slice ka n.kids.length kc))∧w.heap.size+1<W.heap.size):=Lib.hid (fun W k=>
   ⟨⟨(b0.kp k (by simp)).cell 0,(b0.kp k (by simp)).cell 1,(b1.kp k (by simp)).cell 0,(b1.kp k (by simp)).cell 1,(b1.kp k (by simp)).cell 2⟩,(b1.kp k (by simp)).lt⟩)
  have HK:=Lib.hid (h.kp0 K0);have KW:=Lib.hid K0;have HO:=Lib.hid ho;have HC:=Lib.hid hc;have HM:=Lib.hid hm;have HW0:=Lib.hid hW0;have HS:=Lib.hid hs
  have hz1:=b1.lt
  clear h ho K0 b0 b1 hm hW0 hs hr hc
  by_cases hbig:P - 32<sizeN d n
  ·have hmm:mayE P d n=71:=by rw [HM.out,if_pos hbig]
   have hps:plainS P d n=[]:=by unfold plainS;rw [hmm];rfl
   have dd:decide (((P - 32:Nat):Int)<((sizeN d n:Nat):Int))=true:=decide_eq_true (by omega)
   rw [hmm,hps]
   clear hmm hps
   obtain ⟨z,hz⟩:∃ z,sizeN d n=z:=⟨_,rfl⟩
   obtain ⟨y,hy⟩:∃ y,P - 32=y:=⟨_,rfl⟩
   rw [hz,hy] at dd
   have dn:y<z:=by rw [← hz,← hy];exact hbig
   have RS:Hid (∀ W,Kp [] W0 W→Calls Tryz.prog 148 #[.agg #[.int .i64 P,.int .i64 d],.agg #[.slice pa n.pairs.length pc,.slice sa n.seps.length sc,.slice ka n.kids.length kc]] W (Rets (.int .i64 (z:Nat)) W)):=Lib.hid (fun W k=>by have h:=rsize_any P d pa sa ka pc sc kc n W (HK.out.kp0 k) HO.out;rw [HS.out,hz] at h;exact h)
   have RM:Hid (∀ W,Calls Tryz.prog 113 #[.agg #[.int .i64 P,.int .i64 d]] W (Rets (.int .i64 (y:Nat)) W)):=Lib.hid (fun W=>by have h:=rmost_any P d W hP hP0;rw [hy] at h;exact h)
   clear hz hy hbig
   go_enter Tryz.func115,Tryz.ntmps115
   go_wp2_with fail
   rw [← HW0.out]
   refine (rcheck_any P d pa sa ka pc sc kc n _ HK.out HO.out).mono ?_
   rintro e w1 ⟨rfl,hx1⟩
   have K1:Hid (Kp [] W0 w1):=Lib.hid (by obtain ⟨bx,nx,rfl⟩:=hx1;exact (Kp.refl [] _).ext _ _)
   clear hx1
   obtain ⟨⟨f0,f1,n0,n1,n2⟩,z0⟩:=SK.out _ K1.out
   rw [HC.out]
   go_wp2_with fail
   refine wp_region_ext (by kernel_rfl) (by kernel_rfl) ?_
   repeat (go_big_quiet_step (first | (go_at_call 148;exact Calls.quiet_ext (RS.out _ (K1.out.ext _ _))) | (go_at_call 113;exact Calls.quiet_ext (RM.out _))))
   (refine wpQuiet_nil ?_;intro _ hw';obtain ⟨⟨bsq,nq⟩,hw''⟩:=hw';subst hw'')
   go_wp2_with fail
   go_ret2
   exact ⟨rfl,Kp.to_ext ((KW.out.trans K1.out).ext _ _)⟩
  ·have hmm:mayE P d n=0:=by rw [HM.out,if_neg hbig]
   have hps:plainS P d n=formB false d n:=by unfold plainS;rw [hmm];rfl
   have dd:decide (((P - 32:Nat):Int)<((sizeN d n:Nat):Int))=false:=decide_eq_false (by omega)
   rw [hmm,hps]
   clear hmm hps
   obtain ⟨z,hz⟩:∃ z,sizeN d n=z:=⟨_,rfl⟩
   obtain ⟨y,hy⟩:∃ y,P - 32=y:=⟨_,rfl⟩
   rw [hz,hy] at dd
   have dn:¬ y<z:=by rw [← hz,← hy];exact hbig
   have RS:Hid (∀ W,Kp [] W0 W→Calls Tryz.prog 148 #[.agg #[.int .i64 P,.int .i64 d],.agg #[.slice pa n.pairs.length pc,.slice sa n.seps.length sc,.slice ka n.kids.length kc]] W (Rets (.int .i64 (z:Nat)) W)):=Lib.hid (fun W k=>by have h:=rsize_any P d pa sa ka pc sc kc n W (HK.out.kp0 k) HO.out;rw [HS.out,hz] at h;exact h)
   have RM:Hid (∀ W,Calls Tryz.prog 113 #[.agg #[.int .i64 P,.int .i64 d]] W (Rets (.int .i64 (y:Nat)) W)):=Lib.hid (fun W=>by have h:=rmost_any P d W hP hP0;rw [hy] at h;exact h)
   clear hz hy hbig
   go_enter Tryz.func115,Tryz.ntmps115
   go_wp2_with fail
   rw [← HW0.out]
   refine (rcheck_any P d pa sa ka pc sc kc n _ HK.out HO.out).mono ?_
   rintro e w1 ⟨rfl,hx1⟩
   have K1:Hid (Kp [] W0 w1):=Lib.hid (by obtain ⟨bx,nx,rfl⟩:=hx1;exact (Kp.refl [] _).ext _ _)
   clear hx1
   obtain ⟨⟨f0,f1,n0,n1,n2⟩,z0⟩:=SK.out _ K1.out
   rw [HC.out]
   go_wp2_with fail
   refine wp_region_ext (by kernel_rfl) (by kernel_rfl) ?_
   repeat (go_big_quiet_step (first | (go_at_call 148;exact Calls.quiet_ext (RS.out _ (K1.out.ext _ _))) | (go_at_call 113;exact Calls.quiet_ext (RM.out _))))
   (refine wpQuiet_nil ?_;intro _ hw';obtain ⟨⟨bsq,nq⟩,hw''⟩:=hw';subst hw'')
   go_wp2_with fail
   refine (rform_any P d false pa sa ka pc sc kc n _ HC.out (HK.out.kp0 (K1.out.ext _ _)) HO.out).mono ?_
   rintro e w2 ⟨rfl,bs2,m2,rfl⟩
   go_wp2_with fail
   go_ret2
   exact ⟨rfl,Kp.to_ext ((KW.out.trans K1.out).ext _ _)⟩
 ·obtain ⟨c,hcc⟩:∃ c,checkE p wd n=c:=⟨_,rfl⟩
  have hm:mayE p wd n=c:=by unfold mayE;rw [if_neg hc,hcc]
  have hps:plainS p wd n=[]:=by unfold plainS;rw [hm,if_neg (by rw [← hcc];exact hc)]
  rw [hm,hps]
  rw [hcc] at hc
  have hb:(c != 0)=true:=by simpa using hc
  have HC:=Lib.hid hcc;have H:=Lib.hid h;have HO:=Lib.hid ho
  clear hm hps hc hcc h ho
  go_enter Tryz.func115,Tryz.ntmps115
  go_wp2_with fail
  refine (rcheck_any p wd pa sa ka pc sc kc n _ (H.out.kp0 (((Kp.refl [] _).alloc _).alloc _)) HO.out).mono ?_
  rintro e w' ⟨rfl,bs0,m0,rfl⟩
  rw [HC.out]
  go_wp2_with fail
  go_ret2
  exact ⟨rfl,by (try simp only [alloc_ext,drew_ext,drewN_ext,ext_ext]);exact ⟨_,_,rfl⟩⟩

end Go.Proofs.YtcaggadjkccbiaaGreat