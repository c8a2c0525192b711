/- The document's form of a node. Printed by genrform.py. -/
import Derived.Test.YtcaggadjkccbiaaGreatZ31
import Derived.Test.YtcaggadjkccbiaaGreatZ25
namespace Go.Proofs.YtcaggadjkccbiaaGreat
set_option maxHeartbeats 1000000
set_option maxRecDepth 100000
set_option linter.unusedVariables false
set_option linter.unusedSimpArgs false
open Go Go.RowKit

@[go_sem] theorem str_app1 (k l:Bs):(⟨k.toArray⟩:ByteArray)++⟨l.toArray⟩=⟨(k++l).toArray⟩:=str_app k l
@[go_sem] theorem str_cons1 (l:Bs):(⟨#[1]⟩:ByteArray)++⟨l.toArray⟩=⟨(1::l).toArray⟩:=str_cons 1 l
@[go_sem] theorem str_cons2 (l:Bs):(⟨#[2]⟩:ByteArray)++⟨l.toArray⟩=⟨(2::l).toArray⟩:=str_cons 2 l
theorem textB_le {t:Bs} (h:t.length≤8192):(textB t).length≤8201:=by have:=free_len h;unfold textB;simp;omega

theorem rform_leaf (P d:Nat) (pages:Bool) (pa sa ka:Option Addr) (pc sc kc:Nat) (n:Nd) (w:World) (hc:checkE P d n=0) (hl:leafB n=true) (h:NdAt w pa sa ka n) (ho:NdOk n) :
  Calls Tryz.prog 149 #[.agg #[.int .i64 P,.int .i64 d],.agg #[.slice pa n.pairs.length pc,.slice sa n.seps.length sc,.slice ka n.kids.length kc],.bool pages] w (Rets (.string ⟨(formB pages d n).toArray⟩) w):=by
 have hl':(decide (n.seps.length=0∧n.kids.length=0))=true:=hl
 have hs:formB pages d n=1::(freeB n.pairs.length++pairsB n.pairs):=by unfold formB;rw [if_pos hl]
 have hnp:=ho.np
 have hc9:(freeB n.pairs.length).length≤9:=by rw [freeB_length];exact cntN_le9 n.pairs.length (by omega)
 have hw1:IntKind.u64.wrap (n.pairs.length:Int)=n.pairs.length:=by rw [IntKind.wrap_u64];omega
 have hl9:¬ 9223372036854775807<1+List.length (freeB n.pairs.length):=by omega
 have HSM:=Lib.hid (small_of hc)
 have HS:=Lib.hid hs;have HL:=Lib.hid hl'
 have H:=Lib.hid h
 clear hs hl hl' h ho hc
 obtain ⟨W0,hW0⟩:∃ W0,W0=(w.alloc (.cells #[.int .i64 P,.int .i64 d] 24)).alloc (.cells #[.slice pa n.pairs.length pc,.slice sa n.seps.length sc,.slice ka n.kids.length kc] 87):=⟨_,rfl⟩
 have kw:Kp [] w W0:=by rw [hW0];exact ((Kp.refl [] w).alloc _).alloc _
 have b0:Blk W0 w.heap.size 24 #[.int .i64 P,.int .i64 d]:=by rw [hW0];exact (Blk.new w _ _).alloc _
 have b1:Blk W0 (w.heap.size+1) 87 #[.slice pa n.pairs.length pc,.slice sa n.seps.length sc,.slice ka n.kids.length kc]:=by
  rw [hW0]
  have h:=Blk.new (w.alloc (.cells #[.int .i64 P,.int .i64 d] 24)) 87 #[.slice pa n.pairs.length pc,.slice sa n.seps.length sc,.slice ka n.kids.length kc]
  simpa using h
 have hz0:W0.heap.size=w.heap.size+2:=by rw [hW0];simp
 have SK:Hid (∀ W:World,Kp [] W0 W→(W.cell? ⟨w.heap.size,0,none⟩=some (.int .i64 P)∧W.cell? ⟨w.heap.size,1,none⟩=some (.int .i64 d)∧W.cell? ⟨w.heap.size+1,0,none⟩=some (.slice pa n.pairs.length pc)∧W.cell? ⟨w.heap.size+1,1,none⟩=some (.slice sa n.seps.length sc)∧W.cell? ⟨w.heap.size+1,2,none⟩=some (.slice ka n.kids.length kc))∧w.heap.size+1<W.heap.size):=Lib.hid (fun W k=>
  ⟨⟨(b0.kp k (by simp)).cell 0,(b0.kp k (by simp)).cell 1,(b1.kp k (by simp)).cell 0,(b1.kp k (by simp)).cell 1,(b1.kp k (by simp)).cell 2⟩,by have:=k.size;omega⟩)
 have HK:=Lib.hid (H.out.kp0 kw)
 have KW:=Lib.hid kw
 have HW0:=Lib.hid hW0
 have hz1:w.heap.size+1<W0.heap.size:=by omega
 clear kw b0 b1 hW0 hz0
 go_enter Tryz.func149,Tryz.ntmps149
 go_wp2_with fail
 rw [← HW0.out]
 refine (rleaf_any _ _ _ _ _ _ _ _ _ _).mono ?_
 rintro e w1 ⟨rfl,hx1⟩
 have K1:Hid (Kp [] W0 w1):=Lib.hid (by obtain ⟨bx,nx,rfl⟩:=hx1;exact (Kp.refl [] _).ext _ _)
 obtain ⟨⟨f0,f1,n0,n1,n2⟩,z0⟩:=SK.out _ K1.out
 clear hx1
 rw [HL.out]
 go_wp2_with fail
 refine (rfree_any n.pairs.length _ (by omega)).mono ?_
 rintro e w2 ⟨rfl,hx2⟩
 have K2:Hid (Kp [] W0 w2):=Lib.hid (by obtain ⟨bx,nx,rfl⟩:=hx2;exact K1.out.ext _ _)
 clear hx2 f0 f1 n0 n1 n2 z0
 go_wp2_with fail
 go_loopw [7,8] (fun x i wr=>∃ (k:Nat) (s:Bs),i=.int .i64 (k:Nat)∧k≤n.pairs.length∧x=.string ⟨s.toArray⟩∧s.length≤20+k*20000∧Hid (s=1::(freeB n.pairs.length++pairsB (n.pairs.take k)))∧Hid (Kp [] W0 wr)) (fun _ i _=>n.pairs.length - (intOf i).toNat)
 case atStart=>exact ⟨0,1::freeB n.pairs.length,rfl,by omega,rfl,by simp;omega,by simp [Hid,pairsB],K2⟩
 case round=>
  obtain ⟨k,s,rfl,hk,rfl,hsl,HSS,KI⟩:=hrel
  obtain ⟨⟨f0,f1,n0,n1,n2⟩,z0⟩:=SK.out _ KI.out
  by_cases hlt:k<n.pairs.length
  ·obtain ⟨x,hx⟩:∃ x,n.pairs[k]?=some x:=⟨_,List.getElem?_eq_getElem hlt⟩
   obtain ⟨b,o,rfl,hb,cf1,cf2⟩:=HK.out.ps.kp KI.out (by simp) k x hx
   obtain ⟨hx1,hx2⟩:=HSM.out.sp x (List.mem_of_getElem? hx)
   have ht:=pairsB_take _ _ _ hx
   obtain ⟨T,hT⟩:∃ T,textB x.1=T:=⟨_,rfl⟩
   obtain ⟨V,hV⟩:∃ V,textB x.2=V:=⟨_,rfl⟩
   have hT1:T.length≤8201:=by rw [← hT];exact textB_le hx1
   have hV1:V.length≤8201:=by rw [← hV];exact textB_le hx2
   have RT:Hid (∀ W,Calls Tryz.prog 172 #[.string ⟨x.1.toArray⟩] W (Rets (.string ⟨T.toArray⟩) W)):=Lib.hid (fun W=>by rw [← hT];exact rtx_any x.1 W (by omega))
   have RV:Hid (∀ W,Calls Tryz.prog 172 #[.string ⟨x.2.toArray⟩] W (Rets (.string ⟨V.toArray⟩) W)):=Lib.hid (fun W=>by rw [← hV];exact rtx_any x.2 W (by omega))
   have l1:¬ 9223372036854775807<s.length+T.length:=by omega
   have l2:¬ 9223372036854775807<s.length+T.length+V.length:=by omega
   have HN:Hid (s++T++V=1::(freeB n.pairs.length++pairsB (n.pairs.take (k+1)))):=Lib.hid (by
    rw [ht,HSS.out];unfold pairB;rw [hT,hV];simp)
   clear hT hV ht hx
   go_wp2_with fail
   refine wp_region_ext (by kernel_rfl) (by kernel_rfl) ?_
   repeat (go_big_quiet_step ((go_at_call 172;first | with_reducible exact Calls.quiet_ext (RT.out _) | with_reducible exact Calls.quiet_ext (RV.out _) | exact Calls.quiet_ext (RT.out _) | exact Calls.quiet_ext (RV.out _))))
   (refine wpQuiet_nil ?_;intro _ hw';obtain ⟨⟨bsq,nq⟩,hw''⟩:=hw';subst hw'')
   go_wp2_with fail
   go_roundw
   case rel=>exact ⟨k+1,s++T++V,by go_num,by omega,by simp,by simp;omega,HN,Lib.hid (KI.out.ext _ _)⟩
   case measure=>simp [intOf];omega
  ·obtain rfl:k=n.pairs.length:=by omega
   go_wp2_with fail
   go_ret
   exact ⟨by rw [HS.out];have h:=HSS.out;rw [List.take_length] at h;rw [← h];rfl,Kp.to_ext (KW.out.trans KI.out)⟩

theorem row_page {w:World} {b o:Nat} {k:Kd} (h:rowAt? w ⟨b,o,none⟩ 33=some k.c):w.cell? ⟨b,o,none⟩=some (.int .u32 (k.page:Int)):=by
 have h2:=(rowAt?_cell h).2 0 _ (Kd.get0 k)
 rwa [show (⟨b,o,none⟩:Addr).add 0=⟨b,o,none⟩ by simp [Addr.add]] at h2

set_option maxHeartbeats 2000000 in
set_option maxRecDepth 100000 in
theorem rform_branch_true (P d:Nat) (pa sa ka:Option Addr) (pc sc kc:Nat) (n:Nd) (w:World) (hc:checkE P d n=0) (hl:leafB n=false) (h:NdAt w pa sa ka n) (ho:NdOk n) :
  Calls Tryz.prog 149 #[.agg #[.int .i64 P,.int .i64 d],.agg #[.slice pa n.pairs.length pc,.slice sa n.seps.length sc,.slice ka n.kids.length kc],.bool true] w (Rets (.string ⟨(formB true d n).toArray⟩) w):=by
 have hl':(decide (n.seps.length=0∧n.kids.length=0))=false:=hl
 have hs:formB true d n=2::(freeB n.kids.length++kidsB true d n n.kids.length):=by unfold formB;rw [if_neg (by rw [hl];simp)]
 have hns:=ho.ns
 have hnk:=ho.nk
 have hd32:d≤32:=by have:=(rightB_iff.1 (checkE_ok hc).1).2;omega
 have hsk:n.seps.length+1=n.kids.length:=shaped_kids (checkE_ok hc).2 hl
 have hc9:(freeB n.kids.length).length≤9:=by rw [freeB_length];exact cntN_le9 n.kids.length (by omega)
 have hw1:IntKind.u64.wrap (n.kids.length:Int)=n.kids.length:=by rw [IntKind.wrap_u64];omega
 have hl9:¬ 9223372036854775807<1+List.length (freeB n.kids.length):=by omega
 have HSM:=Lib.hid (small_of hc)
 have HS:=Lib.hid hs;have HL:=Lib.hid hl'
 have H:=Lib.hid h;have HO:=Lib.hid ho
 clear hs hl hl' h ho hc
 obtain ⟨W0,hW0⟩:∃ W0,W0=(w.alloc (.cells #[.int .i64 P,.int .i64 d] 24)).alloc (.cells #[.slice pa n.pairs.length pc,.slice sa n.seps.length sc,.slice ka n.kids.length kc] 87):=⟨_,rfl⟩
 have kw:Kp [] w W0:=by rw [hW0];exact ((Kp.refl [] w).alloc _).alloc _
 have b0:Blk W0 w.heap.size 24 #[.int .i64 P,.int .i64 d]:=by rw [hW0];exact (Blk.new w _ _).alloc _
 have b1:Blk W0 (w.heap.size+1) 87 #[.slice pa n.pairs.length pc,.slice sa n.seps.length sc,.slice ka n.kids.length kc]:=by
  rw [hW0]
  have h:=Blk.new (w.alloc (.cells #[.int .i64 P,.int .i64 d] 24)) 87 #[.slice pa n.pairs.length pc,.slice sa n.seps.length sc,.slice ka n.kids.length kc]
  simpa using h
 have hz0:W0.heap.size=w.heap.size+2:=by rw [hW0];simp
 have SK:Hid (∀ W:World,Kp [] W0 W→(W.cell? ⟨w.heap.size,0,none⟩=some (.int .i64 P)∧W.cell? ⟨w.heap.size,1,none⟩=some (.int .i64 d)∧W.cell? ⟨w.heap.size+1,0,none⟩=some (.slice pa n.pairs.length pc)∧W.cell? ⟨w.heap.size+1,1,none⟩=some (.slice sa n.seps.length sc)∧W.cell? ⟨w.heap.size+1,2,none⟩=some (.slice ka n.kids.length kc))∧w.heap.size+1<W.heap.size):=Lib.hid (fun W k=>
  ⟨⟨(b0.kp k (by simp)).cell 0,(b0.kp k (by simp)).cell 1,(b1.kp k (by simp)).cell 0,(b1.kp k (by simp)).cell 1,(b1.kp k (by simp)).cell 2⟩,by have:=k.size;omega⟩)
 have HK:=Lib.hid (H.out.kp0 kw)
 have KW:=Lib.hid kw
 have HW0:=Lib.hid hW0
 have hz1:w.heap.size+1<W0.heap.size:=by omega
 clear kw b0 b1 hW0 hz0
 go_enter Tryz.func149,Tryz.ntmps149
 go_wp2_with fail
 rw [← HW0.out]
 refine (rleaf_any _ _ _ _ _ _ _ _ _ _).mono ?_
 rintro e w1 ⟨rfl,hx1⟩
 have K1:Hid (Kp [] W0 w1):=Lib.hid (by obtain ⟨bx,nx,rfl⟩:=hx1;exact (Kp.refl [] _).ext _ _)
 obtain ⟨⟨f0,f1,n0,n1,n2⟩,z0⟩:=SK.out _ K1.out
 clear hx1
 rw [HL.out]
 go_wp2_with fail
 refine (rfree_any n.kids.length _ (by omega)).mono ?_
 rintro e w2 ⟨rfl,hx2⟩
 have K2:Hid (Kp [] W0 w2):=Lib.hid (by obtain ⟨bx,nx,rfl⟩:=hx2;exact K1.out.ext _ _)
 clear hx2 f0 f1 n0 n1 n2 z0
 go_wp2_with fail
 go_loopw [9,10] (fun x i wr=>∃ (k:Nat) (s:Bs),i=.int .i64 (k:Nat)∧k≤n.kids.length∧x=.string ⟨s.toArray⟩∧s.length≤20+k*20000∧Hid (s=2::(freeB n.kids.length++kidsB true d n k))∧Hid (Kp [] W0 wr)) (fun _ i _=>n.kids.length - (intOf i).toNat)
 case atStart=>exact ⟨0,2::freeB n.kids.length,rfl,by omega,rfl,by simp;omega,by simp [Hid,kidsB],K2⟩
 case round=>
  obtain ⟨k,s,rfl,hk,rfl,hsl,HSS,KI⟩:=hrel
  by_cases hlt:k<n.kids.length
  ·obtain ⟨x,hx⟩:∃ x,n.kids[k]?=some x:=⟨_,List.getElem?_eq_getElem hlt⟩
   have HX:=Lib.hid hx
   clear hx
   cases k with
   | zero=>
    have KC:Hid (Kp [] W0 wr):=KI
    obtain ⟨⟨f0,f1,n0,n1,n2⟩,z0⟩:=SK.out _ KC.out
    obtain ⟨b,o,he,hb,r1⟩:=HK.out.ks.kp KC.out (by simp) _ x HX.out
    simp only [Nat.zero_mul,Nat.add_zero] at r1
    have r2:=row_sum r1
    have r3:=row_page r1
    subst he
    have hpg:=HO.out.pg x (List.mem_of_getElem? HX.out)
    have u1:IntKind.u64.wrap (x.page:Int)=(x.page:Int):=by rw [IntKind.wrap_u64];omega
    obtain ⟨F,hF⟩:∃ F,fixB 4 x.page=F:=⟨_,rfl⟩
    have hF1:F.length=4:=by rw [← hF,fixB_len]
    have l2:¬ 9223372036854775807<s.length+F.length:=by omega
    have HF:=Lib.hid hF
    clear hF
    go_wp2_with fail
    refine (rfixed_any 4 x.page _ (by omega) (by omega)).mono ?_
    rw [HF.out]
    rintro e w6 ⟨rfl,hx6⟩
    have K6:Hid (Kp [] W0 w6):=Lib.hid (by obtain ⟨bx,nx,rfl⟩:=hx6;exact KC.out.ext _ _)
    clear hx6 KC f0 f1 n0 n1 n2 z0 hb r1 r2 r3
    have KC:=K6
    obtain ⟨⟨f0,f1,n0,n1,n2⟩,z0⟩:=SK.out _ KC.out
    obtain ⟨b3,o3,he3,hb,r1⟩:=HK.out.ks.kp KC.out (by simp) _ x HX.out
    simp only [Nat.zero_mul,Nat.add_zero] at r1
    obtain ⟨rfl,rfl⟩:b3=_∧o3=_:=(by simp only [Option.some.injEq,Addr.mk.injEq] at he3;exact ⟨he3.1.symm,he3.2.1.symm⟩)
    have r2:=row_sum r1
    have r3:=row_page r1
    obtain ⟨D,hD⟩:∃ D,x.sum.l.take d=D:=⟨_,rfl⟩
    have hD1:D.length≤32:=by rw [← hD,List.length_take];omega
    have l3:¬ 9223372036854775807<s.length+F.length+D.length:=by omega
    have RD:Hid (∀ W,Calls Tryz.prog 174 #[.int .i64 d,.agg x.sum.c] W (Rets (.string ⟨D.toArray⟩) W)):=Lib.hid (fun W=>by rw [← hD];exact rdg_any d x.sum W hd32)
    have HN:Hid (s++F++D=2::(freeB n.kids.length++kidsB true d n (0+1))):=Lib.hid (by
     rw [kidsB_succ _ _ _ _ _ HX.out,← List.append_assoc,← List.cons_append,← HSS.out]
     unfold kidB
     rw [if_neg (Nat.lt_irrefl 0)]
     simp [HF.out,hD])
    clear hD
    go_wp2_with fail
    refine wp_region_ext (by kernel_rfl) (by kernel_rfl) ?_
    repeat (go_big_quiet_step ((go_at_call 174;exact Calls.quiet_ext (RD.out _))))
    (refine wpQuiet_nil ?_;intro _ hw';obtain ⟨⟨bsq,nq⟩,hw''⟩:=hw';subst hw'')
    go_wp2_with fail
    go_roundw
    case rel=>exact ⟨0+1,s++F++D,by go_num,by omega,by simp,by simp;omega,HN,Lib.hid (KC.out.ext _ _)⟩
    case measure=>simp [intOf];omega
   | succ j=>
    have KC:Hid (Kp [] W0 wr):=KI
    obtain ⟨⟨f0,f1,n0,n1,n2⟩,z0⟩:=SK.out _ KC.out
    obtain ⟨b,o,he,hb,r1⟩:=HK.out.ks.kp KC.out (by simp) _ x HX.out
    skip
    have r2:=row_sum r1
    have r3:=row_page r1
    subst he
    obtain ⟨t,ht⟩:∃ t,n.seps[j]?=some t:=⟨_,List.getElem?_eq_getElem (by omega)⟩
    obtain ⟨b',o',rfl,hb',s1⟩:=HK.out.ss.kp KC.out (by simp) j t ht
    have htl:=HSM.out.ss t (List.mem_of_getElem? ht)
    have hi:IntKind.i64.wrap ((j:Int)+1 - 1)=(j:Int):=by rw [show (j:Int)+1 - 1=j by omega];exact IntWalk.i64_in _ (by omega)
    have hgd:n.seps.getD (j+1 - 1) []=t:=by simp [List.getD,ht]
    obtain ⟨T,hT⟩:∃ T,textB t=T:=⟨_,rfl⟩
    have hT1:T.length≤8201:=by rw [← hT];exact textB_le htl
    have l1:¬ 9223372036854775807<s.length+T.length:=by omega
    have HT:=Lib.hid hT;have HGD:=Lib.hid hgd
    clear hT ht hgd
    go_wp2_with fail
    refine (rtx_any t _ (by omega)).mono ?_
    rw [HT.out]
    rintro e w5 ⟨rfl,hx5⟩
    have K5:Hid (Kp [] W0 w5):=Lib.hid (by obtain ⟨bx,nx,rfl⟩:=hx5;exact KC.out.ext _ _)
    clear hx5 KC f0 f1 n0 n1 n2 z0 hb r1 r2 r3 hb' s1
    have KC:=K5
    obtain ⟨⟨f0,f1,n0,n1,n2⟩,z0⟩:=SK.out _ KC.out
    obtain ⟨b2,o2,he2,hb,r1⟩:=HK.out.ks.kp KC.out (by simp) _ x HX.out
    skip
    obtain ⟨rfl,rfl⟩:b2=b∧o2=o:=(by simp only [Option.some.injEq,Addr.mk.injEq] at he2;exact ⟨he2.1.symm,he2.2.1.symm⟩)
    have r2:=row_sum r1
    have r3:=row_page r1
    have hpg:=HO.out.pg x (List.mem_of_getElem? HX.out)
    have u1:IntKind.u64.wrap (x.page:Int)=(x.page:Int):=by rw [IntKind.wrap_u64];omega
    obtain ⟨F,hF⟩:∃ F,fixB 4 x.page=F:=⟨_,rfl⟩
    have hF1:F.length=4:=by rw [← hF,fixB_len]
    have l2:¬ 9223372036854775807<s.length+T.length+F.length:=by omega
    have HF:=Lib.hid hF
    clear hF
    go_wp2_with fail
    refine (rfixed_any 4 x.page _ (by omega) (by omega)).mono ?_
    rw [HF.out]
    rintro e w6 ⟨rfl,hx6⟩
    have K6:Hid (Kp [] W0 w6):=Lib.hid (by obtain ⟨bx,nx,rfl⟩:=hx6;exact KC.out.ext _ _)
    clear hx6 KC f0 f1 n0 n1 n2 z0 hb r1 r2 r3
    have KC:=K6
    obtain ⟨⟨f0,f1,n0,n1,n2⟩,z0⟩:=SK.out _ KC.out
    obtain ⟨b3,o3,he3,hb,r1⟩:=HK.out.ks.kp KC.out (by simp) _ x HX.out
    skip
    obtain ⟨rfl,rfl⟩:b3=_∧o3=_:=(by simp only [Option.some.injEq,Addr.mk.injEq] at he3;exact ⟨he3.1.symm,he3.2.1.symm⟩)
    have r2:=row_sum r1
    have r3:=row_page r1
    obtain ⟨D,hD⟩:∃ D,x.sum.l.take d=D:=⟨_,rfl⟩
    have hD1:D.length≤32:=by rw [← hD,List.length_take];omega
    have l3:¬ 9223372036854775807<s.length+T.length+F.length+D.length:=by omega
    have RD:Hid (∀ W,Calls Tryz.prog 174 #[.int .i64 d,.agg x.sum.c] W (Rets (.string ⟨D.toArray⟩) W)):=Lib.hid (fun W=>by rw [← hD];exact rdg_any d x.sum W hd32)
    have HN:Hid (s++T++F++D=2::(freeB n.kids.length++kidsB true d n ((j+1)+1))):=Lib.hid (by
     rw [kidsB_succ _ _ _ _ _ HX.out,← List.append_assoc,← List.cons_append,← HSS.out]
     unfold kidB
     rw [if_pos (Nat.succ_pos j),HGD.out,HT.out]
     simp [HF.out,hD])
    clear hD
    go_wp2_with fail
    refine wp_region_ext (by kernel_rfl) (by kernel_rfl) ?_
    repeat (go_big_quiet_step ((go_at_call 174;exact Calls.quiet_ext (RD.out _))))
    (refine wpQuiet_nil ?_;intro _ hw';obtain ⟨⟨bsq,nq⟩,hw''⟩:=hw';subst hw'')
    go_wp2_with fail
    go_roundw
    case rel=>exact ⟨(j+1)+1,s++T++F++D,by go_num,by omega,by simp,by simp;omega,HN,Lib.hid (KC.out.ext _ _)⟩
    case measure=>simp [intOf];omega
  ·obtain rfl:k=n.kids.length:=by omega
   obtain ⟨⟨f0,f1,n0,n1,n2⟩,z0⟩:=SK.out _ KI.out
   go_wp2_with fail
   go_ret
   exact ⟨by rw [HS.out,← HSS.out];rfl,Kp.to_ext (KW.out.trans KI.out)⟩

set_option maxHeartbeats 2000000 in
set_option maxRecDepth 100000 in
theorem rform_branch_false (P d:Nat) (pa sa ka:Option Addr) (pc sc kc:Nat) (n:Nd) (w:World) (hc:checkE P d n=0) (hl:leafB n=false) (h:NdAt w pa sa ka n) (ho:NdOk n) :
  Calls Tryz.prog 149 #[.agg #[.int .i64 P,.int .i64 d],.agg #[.slice pa n.pairs.length pc,.slice sa n.seps.length sc,.slice ka n.kids.length kc],.bool false] w (Rets (.string ⟨(formB false d n).toArray⟩) w):=by
 have hl':(decide (n.seps.length=0∧n.kids.length=0))=false:=hl
 have hs:formB false d n=2::(freeB n.kids.length++kidsB false d n n.kids.length):=by unfold formB;rw [if_neg (by rw [hl];simp)]
 have hns:=ho.ns
 have hnk:=ho.nk
 have hd32:d≤32:=by have:=(rightB_iff.1 (checkE_ok hc).1).2;omega
 have hsk:n.seps.length+1=n.kids.length:=shaped_kids (checkE_ok hc).2 hl
 have hc9:(freeB n.kids.length).length≤9:=by rw [freeB_length];exact cntN_le9 n.kids.length (by omega)
 have hw1:IntKind.u64.wrap (n.kids.length:Int)=n.kids.length:=by rw [IntKind.wrap_u64];omega
 have hl9:¬ 9223372036854775807<1+List.length (freeB n.kids.length):=by omega
 have HSM:=Lib.hid (small_of hc)
 have HS:=Lib.hid hs;have HL:=Lib.hid hl'
 have H:=Lib.hid h;have HO:=Lib.hid ho
 clear hs hl hl' h ho hc
 obtain ⟨W0,hW0⟩:∃ W0,W0=(w.alloc (.cells #[.int .i64 P,.int .i64 d] 24)).alloc (.cells #[.slice pa n.pairs.length pc,.slice sa n.seps.length sc,.slice ka n.kids.length kc] 87):=⟨_,rfl⟩
 have kw:Kp [] w W0:=by rw [hW0];exact ((Kp.refl [] w).alloc _).alloc _
 have b0:Blk W0 w.heap.size 24 #[.int .i64 P,.int .i64 d]:=by rw [hW0];exact (Blk.new w _ _).alloc _
 have b1:Blk W0 (w.heap.size+1) 87 #[.slice pa n.pairs.length pc,.slice sa n.seps.length sc,.slice ka n.kids.length kc]:=by
  rw [hW0]
  have h:=Blk.new (w.alloc (.cells #[.int .i64 P,.int .i64 d] 24)) 87 #[.slice pa n.pairs.length pc,.slice sa n.seps.length sc,.slice ka n.kids.length kc]
  simpa using h
 have hz0:W0.heap.size=w.heap.size+2:=by rw [hW0];simp
 have SK:Hid (∀ W:World,Kp [] W0 W→(W.cell? ⟨w.heap.size,0,none⟩=some (.int .i64 P)∧W.cell? ⟨w.heap.size,1,none⟩=some (.int .i64 d)∧W.cell? ⟨w.heap.size+1,0,none⟩=some (.slice pa n.pairs.length pc)∧W.cell? ⟨w.heap.size+1,1,none⟩=some (.slice sa n.seps.length sc)∧W.cell? ⟨w.heap.size+1,2,none⟩=some (.slice ka n.kids.length kc))∧w.heap.size+1<W.heap.size):=Lib.hid (fun W k=>
  ⟨⟨(b0.kp k (by simp)).cell 0,(b0.kp k (by simp)).cell 1,(b1.kp k (by simp)).cell 0,(b1.kp k (by simp)).cell 1,(b1.kp k (by simp)).cell 2⟩,by have:=k.size;omega⟩)
 have HK:=Lib.hid (H.out.kp0 kw)
 have KW:=Lib.hid kw
 have HW0:=Lib.hid hW0
 have hz1:w.heap.size+1<W0.heap.size:=by omega
 clear kw b0 b1 hW0 hz0
 go_enter Tryz.func149,Tryz.ntmps149
 go_wp2_with fail
 rw [← HW0.out]
 refine (rleaf_any _ _ _ _ _ _ _ _ _ _).mono ?_
 rintro e w1 ⟨rfl,hx1⟩
 have K1:Hid (Kp [] W0 w1):=Lib.hid (by obtain ⟨bx,nx,rfl⟩:=hx1;exact (Kp.refl [] _).ext _ _)
 obtain ⟨⟨f0,f1,n0,n1,n2⟩,z0⟩:=SK.out _ K1.out
 clear hx1
 rw [HL.out]
 go_wp2_with fail
 refine (rfree_any n.kids.length _ (by omega)).mono ?_
 rintro e w2 ⟨rfl,hx2⟩
 have K2:Hid (Kp [] W0 w2):=Lib.hid (by obtain ⟨bx,nx,rfl⟩:=hx2;exact K1.out.ext _ _)
 clear hx2 f0 f1 n0 n1 n2 z0
 go_wp2_with fail
 go_loopw [9,10] (fun x i wr=>∃ (k:Nat) (s:Bs),i=.int .i64 (k:Nat)∧k≤n.kids.length∧x=.string ⟨s.toArray⟩∧s.length≤20+k*20000∧Hid (s=2::(freeB n.kids.length++kidsB false d n k))∧Hid (Kp [] W0 wr)) (fun _ i _=>n.kids.length - (intOf i).toNat)
 case atStart=>exact ⟨0,2::freeB n.kids.length,rfl,by omega,rfl,by simp;omega,by simp [Hid,kidsB],K2⟩
 case round=>
  obtain ⟨k,s,rfl,hk,rfl,hsl,HSS,KI⟩:=hrel
  by_cases hlt:k<n.kids.length
  ·obtain ⟨x,hx⟩:∃ x,n.kids[k]?=some x:=⟨_,List.getElem?_eq_getElem hlt⟩
   have HX:=Lib.hid hx
   clear hx
   cases k with
   | zero=>
    have KC:Hid (Kp [] W0 wr):=KI
    obtain ⟨⟨f0,f1,n0,n1,n2⟩,z0⟩:=SK.out _ KC.out
    obtain ⟨b,o,he,hb,r1⟩:=HK.out.ks.kp KC.out (by simp) _ x HX.out
    simp only [Nat.zero_mul,Nat.add_zero] at r1
    have r2:=row_sum r1
    have r3:=row_page r1
    subst he
    obtain ⟨D,hD⟩:∃ D,x.sum.l.take d=D:=⟨_,rfl⟩
    have hD1:D.length≤32:=by rw [← hD,List.length_take];omega
    have l3:¬ 9223372036854775807<s.length+D.length:=by omega
    have RD:Hid (∀ W,Calls Tryz.prog 174 #[.int .i64 d,.agg x.sum.c] W (Rets (.string ⟨D.toArray⟩) W)):=Lib.hid (fun W=>by rw [← hD];exact rdg_any d x.sum W hd32)
    have HN:Hid (s++D=2::(freeB n.kids.length++kidsB false d n (0+1))):=Lib.hid (by
     rw [kidsB_succ _ _ _ _ _ HX.out,← List.append_assoc,← List.cons_append,← HSS.out]
     unfold kidB
     rw [if_neg (Nat.lt_irrefl 0)]
     simp [hD])
    clear hD
    go_wp2_with fail
    refine wp_region_ext (by kernel_rfl) (by kernel_rfl) ?_
    repeat (go_big_quiet_step ((go_at_call 174;exact Calls.quiet_ext (RD.out _))))
    (refine wpQuiet_nil ?_;intro _ hw';obtain ⟨⟨bsq,nq⟩,hw''⟩:=hw';subst hw'')
    go_wp2_with fail
    go_roundw
    case rel=>exact ⟨0+1,s++D,by go_num,by omega,by simp,by simp;omega,HN,Lib.hid (KC.out.ext _ _)⟩
    case measure=>simp [intOf];omega
   | succ j=>
    have KC:Hid (Kp [] W0 wr):=KI
    obtain ⟨⟨f0,f1,n0,n1,n2⟩,z0⟩:=SK.out _ KC.out
    obtain ⟨b,o,he,hb,r1⟩:=HK.out.ks.kp KC.out (by simp) _ x HX.out
    skip
    have r2:=row_sum r1
    have r3:=row_page r1
    subst he
    obtain ⟨t,ht⟩:∃ t,n.seps[j]?=some t:=⟨_,List.getElem?_eq_getElem (by omega)⟩
    obtain ⟨b',o',rfl,hb',s1⟩:=HK.out.ss.kp KC.out (by simp) j t ht
    have htl:=HSM.out.ss t (List.mem_of_getElem? ht)
    have hi:IntKind.i64.wrap ((j:Int)+1 - 1)=(j:Int):=by rw [show (j:Int)+1 - 1=j by omega];exact IntWalk.i64_in _ (by omega)
    have hgd:n.seps.getD (j+1 - 1) []=t:=by simp [List.getD,ht]
    obtain ⟨T,hT⟩:∃ T,textB t=T:=⟨_,rfl⟩
    have hT1:T.length≤8201:=by rw [← hT];exact textB_le htl
    have l1:¬ 9223372036854775807<s.length+T.length:=by omega
    have HT:=Lib.hid hT;have HGD:=Lib.hid hgd
    clear hT ht hgd
    go_wp2_with fail
    refine (rtx_any t _ (by omega)).mono ?_
    rw [HT.out]
    rintro e w5 ⟨rfl,hx5⟩
    have K5:Hid (Kp [] W0 w5):=Lib.hid (by obtain ⟨bx,nx,rfl⟩:=hx5;exact KC.out.ext _ _)
    clear hx5 KC f0 f1 n0 n1 n2 z0 hb r1 r2 r3 hb' s1
    have KC:=K5
    obtain ⟨⟨f0,f1,n0,n1,n2⟩,z0⟩:=SK.out _ KC.out
    obtain ⟨b2,o2,he2,hb,r1⟩:=HK.out.ks.kp KC.out (by simp) _ x HX.out
    skip
    obtain ⟨rfl,rfl⟩:b2=b∧o2=o:=(by simp only [Option.some.injEq,Addr.mk.injEq] at he2;exact ⟨he2.1.symm,he2.2.1.symm⟩)
    have r2:=row_sum r1
    have r3:=row_page r1
    obtain ⟨D,hD⟩:∃ D,x.sum.l.take d=D:=⟨_,rfl⟩
    have hD1:D.length≤32:=by rw [← hD,List.length_take];omega
    have l3:¬ 9223372036854775807<s.length+T.length+D.length:=by omega
    have RD:Hid (∀ W,Calls Tryz.prog 174 #[.int .i64 d,.agg x.sum.c] W (Rets (.string ⟨D.toArray⟩) W)):=Lib.hid (fun W=>by rw [← hD];exact rdg_any d x.sum W hd32)
    have HN:Hid (s++T++D=2::(freeB n.kids.length++kidsB false d n ((j+1)+1))):=Lib.hid (by
     rw [kidsB_succ _ _ _ _ _ HX.out,← List.append_assoc,← List.cons_append,← HSS.out]
     unfold kidB
     rw [if_pos (Nat.succ_pos j),HGD.out,HT.out]
     simp [hD])
    clear hD
    go_wp2_with fail
    refine wp_region_ext (by kernel_rfl) (by kernel_rfl) ?_
    repeat (go_big_quiet_step ((go_at_call 174;exact Calls.quiet_ext (RD.out _))))
    (refine wpQuiet_nil ?_;intro _ hw';obtain ⟨⟨bsq,nq⟩,hw''⟩:=hw';subst hw'')
    go_wp2_with fail
    go_roundw
    case rel=>exact ⟨(j+1)+1,s++T++D,by go_num,by omega,by simp,by simp;omega,HN,Lib.hid (KC.out.ext _ _)⟩
    case measure=>simp [intOf];omega
  ·obtain rfl:k=n.kids.length:=by omega
   obtain ⟨⟨f0,f1,n0,n1,n2⟩,z0⟩:=SK.out _ KI.out
   go_wp2_with fail
   go_ret
   exact ⟨by rw [HS.out,← HSS.out];rfl,Kp.to_ext (KW.out.trans KI.out)⟩

theorem rform_any (P d:Nat) (pages:Bool) (pa sa ka:Option Addr) (pc sc kc:Nat) (n:Nd) (w:World) (hc:checkE P d n=0) (h:NdAt w pa sa ka n) (ho:NdOk n) :
  Calls Tryz.prog 149 #[.agg #[.int .i64 P,.int .i64 d],.agg #[.slice pa n.pairs.length pc,.slice sa n.seps.length sc,.slice ka n.kids.length kc],.bool pages] w (Rets (.string ⟨(formB pages d n).toArray⟩) w):=by
 cases hl:leafB n
 ·cases pages
  ·exact rform_branch_false P d pa sa ka pc sc kc n w hc hl h ho
  ·exact rform_branch_true P d pa sa ka pc sc kc n w hc hl h ho
 ·exact rform_leaf P d pages pa sa ka pc sc kc n w hc hl h ho

end Go.Proofs.YtcaggadjkccbiaaGreat