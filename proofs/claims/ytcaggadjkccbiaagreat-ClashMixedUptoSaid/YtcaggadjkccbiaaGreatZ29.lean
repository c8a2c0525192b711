/- A node in lists of its own. -/
import Derived.Test.YtcaggadjkccbiaaGreatZ22
import Derived.Test.YtcaggadjkccbiaaGreatZ23
import Derived.Test.YtcaggadjkccbiaaGreatZ16
namespace Go.Proofs.YtcaggadjkccbiaaGreat
set_option linter.unusedVariables false
set_option linter.unusedSimpArgs false
open Go Go.RowKit

set_option maxHeartbeats 1000000
set_option maxRecDepth 100000

theorem rright_any (p wd:Int) (w:World):Calls Tryz.prog 25 #[.agg #[.int .i64 p,.int .i64 wd]] w (Rets (.bool (rightB p wd)) w):=by
 by_cases h1024:p=1024
 ·subst h1024
  by_cases h2:1≤wd
  ·go_enter Tryz.func25,Tryz.ntmps25
   go_wp2
   go_ret
   exact ⟨ret_bool (by rw [Bool.eq_iff_iff,rightB_iff];simp;try omega),(by (try simp only [alloc_ext,drew_ext,drewN_ext,ext_ext]);exact ⟨_,_,rfl⟩)⟩
  ·go_enter Tryz.func25,Tryz.ntmps25
   go_wp2
   go_ret
   exact ⟨ret_bool (by rw [Bool.eq_iff_iff,rightB_iff];simp;try omega),(by (try simp only [alloc_ext,drew_ext,drewN_ext,ext_ext]);exact ⟨_,_,rfl⟩)⟩
 by_cases h2048:p=2048
 ·subst h2048
  by_cases h2:1≤wd
  ·go_enter Tryz.func25,Tryz.ntmps25
   go_wp2
   go_ret
   exact ⟨ret_bool (by rw [Bool.eq_iff_iff,rightB_iff];simp;try omega),(by (try simp only [alloc_ext,drew_ext,drewN_ext,ext_ext]);exact ⟨_,_,rfl⟩)⟩
  ·go_enter Tryz.func25,Tryz.ntmps25
   go_wp2
   go_ret
   exact ⟨ret_bool (by rw [Bool.eq_iff_iff,rightB_iff];simp;try omega),(by (try simp only [alloc_ext,drew_ext,drewN_ext,ext_ext]);exact ⟨_,_,rfl⟩)⟩
 by_cases h4096:p=4096
 ·subst h4096
  by_cases h2:1≤wd
  ·go_enter Tryz.func25,Tryz.ntmps25
   go_wp2
   go_ret
   exact ⟨ret_bool (by rw [Bool.eq_iff_iff,rightB_iff];simp;try omega),(by (try simp only [alloc_ext,drew_ext,drewN_ext,ext_ext]);exact ⟨_,_,rfl⟩)⟩
  ·go_enter Tryz.func25,Tryz.ntmps25
   go_wp2
   go_ret
   exact ⟨ret_bool (by rw [Bool.eq_iff_iff,rightB_iff];simp;try omega),(by (try simp only [alloc_ext,drew_ext,drewN_ext,ext_ext]);exact ⟨_,_,rfl⟩)⟩
 by_cases h8192:p=8192
 ·subst h8192
  by_cases h2:1≤wd
  ·go_enter Tryz.func25,Tryz.ntmps25
   go_wp2
   go_ret
   exact ⟨ret_bool (by rw [Bool.eq_iff_iff,rightB_iff];simp;try omega),(by (try simp only [alloc_ext,drew_ext,drewN_ext,ext_ext]);exact ⟨_,_,rfl⟩)⟩
  ·go_enter Tryz.func25,Tryz.ntmps25
   go_wp2
   go_ret
   exact ⟨ret_bool (by rw [Bool.eq_iff_iff,rightB_iff];simp;try omega),(by (try simp only [alloc_ext,drew_ext,drewN_ext,ext_ext]);exact ⟨_,_,rfl⟩)⟩
 have e1:(p == 1024)=false:=by simpa using h1024
 have e2:(p == 2048)=false:=by simpa using h2048
 have e3:(p == 4096)=false:=by simpa using h4096
 have e4:(p == 8192)=false:=by simpa using h8192
 have hr:rightB p wd=false:=by
  cases h:rightB p wd
  ·rfl
  ·have:=(rightB_iff.1 h).1;omega
 rw [hr]
 clear h1024 h2048 h4096 h8192 hr
 go_enter Tryz.func25,Tryz.ntmps25
 go_wp2
 go_ret
 exact ⟨rfl,by (try simp only [alloc_ext,drew_ext,drewN_ext,ext_ext]);exact ⟨_,_,rfl⟩⟩

theorem rleaf_any (pa sa ka:Option Addr) (pn sn kn pc sc kc:Nat) (w:World) :
  Calls Tryz.prog 101 #[.agg #[.slice pa pn pc,.slice sa sn sc,.slice ka kn kc]] w (Rets (.bool (decide (sn=0∧kn=0))) w):=by
 by_cases h1:sn=0
 ·have hb:((sn:Int) == 0)=true:=by simp;omega
  go_enter Tryz.func101,Tryz.ntmps101
  go_wp2
  go_ret
  exact ⟨ret_bool (by rw [Bool.eq_iff_iff];simp;omega),(by (try simp only [alloc_ext,drew_ext,drewN_ext,ext_ext]);exact ⟨_,_,rfl⟩)⟩
 ·have hb:((sn:Int) == 0)=false:=by simp;omega
  go_enter Tryz.func101,Tryz.ntmps101
  go_wp2
  go_ret
  exact ⟨ret_bool (by rw [Bool.eq_iff_iff];simp;omega),(by (try simp only [alloc_ext,drew_ext,drewN_ext,ext_ext]);exact ⟨_,_,rfl⟩)⟩

def zeroFrom (k:Nat) (l:Bs):Bool:=(l.drop k).all fun b=>b == 0
theorem zeroFrom_step {k:Nat} {l:Bs} {b:UInt8} (h:l[k]?=some b):zeroFrom k l=((b == 0) && zeroFrom (k+1) l):=by
 obtain ⟨hk,rfl⟩:=List.getElem?_eq_some_iff.1 h
 unfold zeroFrom
 rw [List.drop_eq_getElem_cons hk,List.all_cons]
theorem zeroFrom_end {l:Bs}:zeroFrom l.length l=true:=by unfold zeroFrom;simp
theorem cut_zeros {n:Nat} {d:Dg} (h:n≤32):zeroFrom n d.l=decide (Dg.cut n d=d):=by
 have hd:=d.h
 have hc:Dg.cut n d=d ↔ (Dg.cut n d).l=d.l:=⟨fun h=>by rw [h],Dg.ext'⟩
 have hl:(Dg.cut n d).l=d.l.take n++List.replicate (32 - n) 0:=by
  unfold Dg.cut Dg.pad padB
  simp only [List.length_take,d.h,List.take_take]
  rw [Nat.min_eq_left h,Nat.min_eq_right h]
 rw [Bool.eq_iff_iff,decide_eq_true_iff,hc,hl]
 constructor
 ·intro hz
  conv=>rhs;rw [← List.take_append_drop n d.l]
  congr 1
  symm
  rw [List.eq_replicate_iff]
  refine ⟨by simp [hd],fun b hb=>?_⟩
  have:=List.all_eq_true.1 hz b hb
  simpa using this
 ·intro he
  have h2:d.l.drop n=List.replicate (32 - n) 0:=by
   have:=congrArg (List.drop n) he
   rw [List.drop_left' (by simp [hd];omega)] at this
   exact this.symm
  unfold zeroFrom
  rw [h2]
  simp

theorem rfits_any (n:Nat) (d:Dg) (w:World) (h1:1≤n) (h2:n≤32):Calls Tryz.prog 190 #[.int .i64 n,.agg d.c] w (Rets (.bool (fitB n d)) w):=by
 have hf:fitB n d=zeroFrom n d.l:=by
  unfold fitB
  rw [cut_zeros h2,decide_eq_true (by omega)]
  rfl
 rw [hf]
 clear hf
 have B0:=Lib.hid (Blk.new w 36 d.c)
 go_enter Tryz.func190,Tryz.ntmps190
 go_wp2_with fail
 go_loopw [5] (fun i wr=>∃ (k:Nat),i=.int .i64 k∧n≤k∧k≤32∧Hid (zeroFrom n d.l=zeroFrom k d.l)∧wr=w.alloc (.cells d.c 36)) (fun i _=>32 - (intOf i).toNat)
 case atStart=>exact ⟨n,rfl,by omega,by omega,Lib.hid rfl,rfl⟩
 case round=>
  obtain ⟨k,rfl,hk1,hk2,ZZ,rfl⟩:=hrel
  have hdl:=d.h
  by_cases hlt:k<32
  ·obtain ⟨b,hb⟩:∃ b,d.l[k]?=some b:=⟨_,List.getElem?_eq_getElem (by omega)⟩
   have c1:(w.alloc (.cells d.c 36)).cell? ⟨w.heap.size,k,none⟩=some (.int .u8 (b.toNat:Int)):=by
    rw [B0.out.cell]
    show (bC d.l).toArray[k]?=_
    simp [bC,hb]
   have C1:=Lib.hid c1
   have hst:=zeroFrom_step hb
   by_cases hz:b=0
   ·subst hz
    have HS:=Lib.hid hst
    clear hdl hb hst
    go_wp2_with fail
    go_roundw
    case rel=>exact ⟨k+1,by go_num,by omega,by omega,Lib.hid (by rw [ZZ.out,HS.out];rfl),trivial⟩
    case measure=>simp [intOf];omega
   ·have hz2:((b.toNat:Int) != 0)=true:=by
     simp only [bne_iff_ne,ne_eq]
     intro h
     exact hz (UInt8.toNat_inj.1 (by simpa using h))
    have hres:zeroFrom n d.l=false:=by
     rw [ZZ.out,hst]
     simp [hz]
    have HR:=Lib.hid hres
    clear hdl hb hst hz hres
    go_wp2_with fail
    go_ret
    rw [HR.out]
    exact ⟨rfl,by (try simp only [alloc_ext,drew_ext,drewN_ext,ext_ext]);exact ⟨_,_,rfl⟩⟩
  ·obtain rfl:k=32:=by omega
   have hres:zeroFrom n d.l=true:=by
    rw [ZZ.out,← hdl];exact zeroFrom_end
   have HR:=Lib.hid hres
   clear hdl hres
   go_wp2_with fail
   go_ret
   rw [HR.out]
   exact ⟨rfl,by (try simp only [alloc_ext,drew_ext,drewN_ext,ext_ext]);exact ⟨_,_,rfl⟩⟩

theorem rkeys_any (m:Nat) (a:Option Addr) (c:Nat) (l:List Bs) (w:World) (hm:m≤8192) (hl:l.length≤8796093022208) (hs:∀ x∈l,x.length≤140737488351232) (h:SsAt w a l) :
  Calls Tryz.prog 189 #[.slice a l.length c,.int .i64 m] w (Rets (.bool (risesFrom m none l)) w):=by
 have H:=Lib.hid h;clear h
 have HS:=Lib.hid hs;clear hs
 go_enter Tryz.func189,Tryz.ntmps189
 go_wp2_with fail
 go_loopw [5] (fun i wr=>∃ k bs n,i=.int .i64 (k:Nat)∧k≤l.length∧wr=ext w bs n∧Hid (risesFrom m none l=risesFrom m (if k=0 then none else l[k - 1]?) (l.drop k))) (fun i _=>l.length - (intOf i).toNat)
 case atStart=>exact ⟨0,[],0,rfl,Nat.zero_le _,(ext_zero _).symm,rfl⟩
 case round=>
  obtain ⟨k,bs,n,rfl,hk,rfl,HE⟩:=hrel
  by_cases hlt:k<l.length
  ·obtain ⟨x,hx⟩:∃ x,l[k]?=some x:=⟨_,List.getElem?_eq_getElem hlt⟩
   have hd:=risesDrop' l k x hx m
   obtain ⟨b,o,rfl,hb,c1⟩:=H.out k x hx
   have hxl:x.length≤140737488351232:=HS.out x (List.mem_of_getElem? hx)
   have HX:=Lib.hid hx
   by_cases g1:x.length<1
   ·have d1:decide ((x.length:Int)<1)=true:=decide_eq_true (by omega)
    have hr:risesFrom m none l=false:=by rw [HE.out];exact rises_no1 hd g1
    have HR:=Lib.hid hr;clear hr hd hx
    go_wp2_with fail
    refine wp_region_ext (by kernel_rfl) (by kernel_rfl) ?_
    repeat (go_big_quiet_step (fail))
    (refine wpQuiet_nil ?_;intro _ hw';obtain ⟨⟨bsq,nq⟩,hw''⟩:=hw';subst hw'')
    go_wp2_with fail
    go_ret
    rw [HR.out]
    exact ⟨rfl,by (try simp only [alloc_ext,drew_ext,drewN_ext,ext_ext]);exact ⟨_,_,rfl⟩⟩
   have d1:decide ((x.length:Int)<1)=false:=decide_eq_false (by omega)
   by_cases g2:m<x.length
   ·have d2:decide ((m:Int)<(x.length:Int))=true:=decide_eq_true (by omega)
    have hr:risesFrom m none l=false:=by rw [HE.out];exact rises_no2 hd g2
    have HR:=Lib.hid hr;clear hr hd hx
    go_wp2_with fail
    refine wp_region_ext (by kernel_rfl) (by kernel_rfl) ?_
    repeat (go_big_quiet_step (fail))
    (refine wpQuiet_nil ?_;intro _ hw';obtain ⟨⟨bsq,nq⟩,hw''⟩:=hw';subst hw'')
    go_wp2_with fail
    go_ret
    rw [HR.out]
    exact ⟨rfl,by (try simp only [alloc_ext,drew_ext,drewN_ext,ext_ext]);exact ⟨_,_,rfl⟩⟩
   have d2:decide ((m:Int)<(x.length:Int))=false:=decide_eq_false (by omega)
   cases k with
   | zero=>
    rw [Nat.add_zero] at c1
    have hr:risesFrom m none l=risesFrom m (if 0+1=0 then none else l[0+1 - 1]?) (l.drop (0+1)):=by rw [HE.out];exact rises_yes0 hd g1 g2
    have HR:=Lib.hid hr;clear hr hd hx
    go_wp2_with fail
    refine wp_region_ext (by kernel_rfl) (by kernel_rfl) ?_
    repeat (go_big_quiet_step (fail))
    (refine wpQuiet_nil ?_;intro _ hw';obtain ⟨⟨bsq,nq⟩,hw''⟩:=hw';subst hw'')
    go_wp2_with fail
    go_roundw
    case rel=>exact ⟨0+1,_,_,by go_num,by omega,by (try simp only [ext_alloc,ext_drew,ext_drewN,ext_ext]);rfl,HR⟩
    case measure=>simp [intOf];omega
   | succ j=>
    obtain ⟨q,hq⟩:∃ q,l[j]?=some q:=⟨_,List.getElem?_eq_getElem (by omega)⟩
    obtain ⟨b',o',he,hb',c2⟩:=H.out j q hq
    obtain ⟨rfl,rfl⟩:b'=b∧o'=o:=by simp only [Option.some.injEq,Addr.mk.injEq] at he;exact ⟨he.1.symm,he.2.1.symm⟩
    have e1:(if j+1=0 then none else l[j+1 - 1]?)=some q:=by rw [if_neg (by omega)];exact hq
    rw [e1] at hd
    have hi:IntKind.i64.wrap ((j:Int)+1 - 1)=(j:Int):=by rw [show (j:Int)+1 - 1=j by omega];exact IntWalk.i64_in _ (by omega)
    have d3:decide ((0:Int)<(j:Int)+1)=true:=decide_eq_true (by omega)
    cases hl3:Op.bytesLess q x
    ·have hr:risesFrom m none l=false:=by rw [HE.out,e1];exact rises_no3 hd hl3
     have HR:=Lib.hid hr;clear hr hd hx hq e1 he
     go_wp2_with fail
     refine wp_region_ext (by kernel_rfl) (by kernel_rfl) ?_
     repeat (go_big_quiet_step (fail))
     (refine wpQuiet_nil ?_;intro _ hw';obtain ⟨⟨bsq,nq⟩,hw''⟩:=hw';subst hw'')
     go_wp2_with fail
     go_ret
     rw [HR.out]
     exact ⟨rfl,by (try simp only [alloc_ext,drew_ext,drewN_ext,ext_ext]);exact ⟨_,_,rfl⟩⟩
    ·have hr:risesFrom m none l=risesFrom m (if j+1+1=0 then none else l[j+1+1 - 1]?) (l.drop (j+1+1)):=by rw [HE.out,e1];exact rises_yes hd g1 g2 hl3
     have HR:=Lib.hid hr;clear hr hd hx hq e1 he
     go_wp2_with fail
     refine wp_region_ext (by kernel_rfl) (by kernel_rfl) ?_
     repeat (go_big_quiet_step (fail))
     (refine wpQuiet_nil ?_;intro _ hw';obtain ⟨⟨bsq,nq⟩,hw''⟩:=hw';subst hw'')
     go_wp2_with fail
     go_roundw
     case rel=>exact ⟨j+1+1,_,_,by go_num,by omega,by (try simp only [ext_alloc,ext_drew,ext_drewN,ext_ext]);rfl,HR⟩
     case measure=>simp [intOf];omega
  ·obtain rfl:k=l.length:=by omega
   have hr:risesFrom m none l=true:=by rw [HE.out,List.drop_length];simp [risesFrom]
   have HR:=Lib.hid hr;clear hr
   go_wp2_with fail
   go_ret
   rw [HR.out]
   exact ⟨rfl,by (try simp only [alloc_ext,drew_ext,drewN_ext,ext_ext]);exact ⟨_,_,rfl⟩⟩


def keyC (l:List Pr):List Value:=(l.map fun x=>x.1).map fun t=>.string ⟨t.toArray⟩
theorem keyC_snoc {l:List Pr} {k:Nat} {x:Pr} (h:l[k]?=some x):keyC (l.take (k+1))=keyC (l.take k)++[.string ⟨x.1.toArray⟩]:=by
 unfold keyC
 rw [List.take_add_one,h]
 simp

theorem rshaped_leaf (P:Nat) (wd:Int) (pa sa ka:Option Addr) (pc sc kc:Nat) (n:Nd) (w:World) (hr:rightB P wd=true) (hl:leafB n=true) (h:NdAt w pa sa ka n) (ho:NdOk n) :
  Calls Tryz.prog 170 #[.agg #[.int .i64 P,.int .i64 wd],.agg #[.slice pa n.pairs.length pc,.slice sa n.seps.length sc,.slice ka n.kids.length kc]] w (Rets (.bool (shapedB P wd n)) w):=by
 have hP:P≤8192:=by have:=rightB_iff.1 hr;omega
 have hs:shapedB P wd n=(risesFrom (P / 16) none (n.pairs.map fun x=>x.1) && !(n.pairs.any fun x=>decide (P / 8<x.2.length))):=by
  simp only [shapedB,hl,if_true]
 have hl':(decide (n.seps.length=0∧n.kids.length=0))=true:=hl
 obtain ⟨W0,hW0⟩:∃ W0,W0=(w.alloc (.cells #[.int .i64 P,.int .i64 wd] 24)).alloc (.cells #[.slice pa n.pairs.length pc,.slice sa n.seps.length sc,.slice ka n.kids.length kc] 87):=⟨_,rfl⟩
 have kw:Kp [] w W0:=by rw [hW0];exact ((Kp.refl [] w).alloc _).alloc _
 have b0:Blk W0 w.heap.size 24 #[.int .i64 P,.int .i64 wd]:=by rw [hW0];exact (Blk.new w _ _).alloc _
 have b1:Blk W0 (w.heap.size+1) 87 #[.slice pa n.pairs.length pc,.slice sa n.seps.length sc,.slice ka n.kids.length kc]:=by
  rw [hW0]
  have h:=Blk.new (w.alloc (.cells #[.int .i64 P,.int .i64 wd] 24)) 87 #[.slice pa n.pairs.length pc,.slice sa n.seps.length sc,.slice ka n.kids.length kc]
  simpa using h
 have hz0:W0.heap.size=w.heap.size+2:=by rw [hW0];simp
 have SK:Hid (∀ W:World,Kp [] W0 W→(W.cell? ⟨w.heap.size,0,none⟩=some (.int .i64 P)∧W.cell? ⟨w.heap.size+1,0,none⟩=some (.slice pa n.pairs.length pc))∧w.heap.size+1<W.heap.size):=Lib.hid (fun W k=>
  ⟨⟨(b0.kp k (by simp)).cell 0,(b1.kp k (by simp)).cell 0⟩,by have:=k.size;omega⟩)
 have d8:(P:Int) / 8=((P / 8:Nat):Int):=by omega
 have D8:=Lib.hid d8
 have d16:(P:Int) / 16=((P / 16:Nat):Int):=by omega
 have D16:=Lib.hid d16
 have HS:=Lib.hid hs;have HL:=Lib.hid hl'
 have hnp:=ho.np
 have KW:=Lib.hid kw
 have H:=Lib.hid (h.kp0 kw);have HO:=Lib.hid ho
 have HN:=Lib.hid h
 have HW0:=Lib.hid hW0
 have hz1:w.heap.size+1<W0.heap.size:=by omega
 clear h ho hr hl hs hl' kw b0 b1 hW0 d8 d16 hz0
 go_enter Tryz.func170,Tryz.ntmps170
 go_wp2_with fail
 refine (rleaf_any _ _ _ _ _ _ _ _ _ _).mono ?_
 rintro e w' ⟨rfl,bs1,m1,rfl⟩
 rw [HL.out]
 go_wp2_with fail
 rw [← HW0.out]
 go_loopw [5,6] (fun t i wr=>∃ (k:Nat) (a:Option Addr) (c:Nat),t=.slice a k c∧i=.int .i64 k∧k≤n.pairs.length∧Hid (Kp [] W0 wr)∧Hid (Own wr 9 1 a k c (keyC (n.pairs.take k)))∧Hid (∀ g∈ab a,W0.heap.size≤g)∧Hid (∀ x∈n.pairs.take k,¬ P / 8<x.2.length)) (fun _ i _=>n.pairs.length - (intOf i).toNat)
 case atStart=>exact ⟨0,none,0,rfl,rfl,Nat.zero_le _,Lib.hid ((Kp.refl [] _).ext _ _),Lib.hid (Own.nil _ _ _),Lib.hid (fun g hg=>by simp [ab] at hg),Lib.hid (fun x hx=>by simp at hx)⟩
 case round=>
  obtain ⟨k,a,c,rfl,rfl,hk,KI,OW,LO,NL⟩:=hrel
  obtain ⟨⟨f0,n0⟩,z0⟩:=SK.out _ KI.out
  by_cases hlt:k<n.pairs.length
  ·obtain ⟨x,hx⟩:∃ x,n.pairs[k]?=some x:=⟨_,List.getElem?_eq_getElem hlt⟩
   have hps:=H.out.ps.kp KI.out (by simp)
   obtain ⟨b,o,rfl,hb,c1,c2⟩:=hps k x hx
   have hxl:=HO.out.sp x (List.mem_of_getElem? hx)
   obtain ⟨hx1,hx2⟩:=hxl
   have HX:=Lib.hid hx
   have C2:=Lib.hid c2
   clear hps hx c2
   by_cases hlong:P / 8<x.2.length
   ·have hres:shapedB P wd n=false:=by
     rw [HS.out,show (n.pairs.any fun x=>decide (P / 8<x.2.length))=true from List.any_eq_true.2 ⟨x,List.mem_of_getElem? HX.out,decide_eq_true hlong⟩]
     simp
    have HR:=Lib.hid hres
    have dd:decide (((P / 8:Nat):Int)<(x.2.length:Int))=true:=decide_eq_true (by omega)
    rw [← D8.out] at dd
    clear hres hlong
    go_wp2_with (at_builtin;refine wpList_app_str rfl rfl rfl (OW.out.kp ((Kp.refl [] wr).alloc _) (by simp)) 1 [.string ⟨x.1.toArray⟩] (src_row Tryz.underlying53 wr #[.string ⟨x.1.toArray⟩] 9 wr.heap.size rfl rfl (by simp [Value.oneCell'])) (by omega) ?_;intro a4 c4 w4 o4 k4 n4;have K4:Hid (Kp [] W0 w4):=Lib.hid ((KI.out.alloc _).from k4 (fun g hg=>.inl (LO.out g hg)));have O4:Hid (Own w4 9 1 a4 (k+1) c4 (keyC (n.pairs.take (k+1)))):=Lib.hid (by rw [keyC_snoc HX.out];exact o4);have L4:Hid (∀ g∈ab a4,W0.heap.size≤g):=Lib.hid (fun g hg=>(n4 g hg).elim (LO.out g) (fun h=>by have:=KI.out.size;simp at h;omega));obtain ⟨⟨f4,n5⟩,z4⟩:=SK.out _ K4.out;obtain ⟨b',o',he,hb4,c14,c24⟩:=(H.out.ps.kp K4.out (by simp)) k x HX.out;obtain ⟨rfl,rfl⟩:b'=b∧o'=o:=(by simp only [Option.some.injEq,Addr.mk.injEq] at he;exact ⟨he.1.symm,he.2.1.symm⟩);clear o4 k4 n4 he)
    refine wp_region_ext (by kernel_rfl) (by kernel_rfl) ?_
    repeat (go_big_quiet_step (fail))
    (refine wpQuiet_nil ?_;intro _ hw';obtain ⟨⟨bsq,nq⟩,hw''⟩:=hw';subst hw'')
    go_wp2_with fail
    go_ret
    rw [HR.out]
    exact ⟨rfl,Kp.to_ext ((KW.out.trans K4.out).ext _ _)⟩
   ·have dd:decide (((P / 8:Nat):Int)<(x.2.length:Int))=false:=decide_eq_false (by omega)
    rw [← D8.out] at dd
    have NL4:Hid (∀ y∈n.pairs.take (k+1),¬ P / 8<y.2.length):=Lib.hid (fun y hy=>by
     rw [List.take_add_one,HX.out,List.mem_append] at hy
     rcases hy with hy | hy
     ·exact NL.out y hy
     ·simp at hy;subst hy;exact hlong)
    clear hlong
    go_wp2_with (at_builtin;refine wpList_app_str rfl rfl rfl (OW.out.kp ((Kp.refl [] wr).alloc _) (by simp)) 1 [.string ⟨x.1.toArray⟩] (src_row Tryz.underlying53 wr #[.string ⟨x.1.toArray⟩] 9 wr.heap.size rfl rfl (by simp [Value.oneCell'])) (by omega) ?_;intro a4 c4 w4 o4 k4 n4;have K4:Hid (Kp [] W0 w4):=Lib.hid ((KI.out.alloc _).from k4 (fun g hg=>.inl (LO.out g hg)));have O4:Hid (Own w4 9 1 a4 (k+1) c4 (keyC (n.pairs.take (k+1)))):=Lib.hid (by rw [keyC_snoc HX.out];exact o4);have L4:Hid (∀ g∈ab a4,W0.heap.size≤g):=Lib.hid (fun g hg=>(n4 g hg).elim (LO.out g) (fun h=>by have:=KI.out.size;simp at h;omega));obtain ⟨⟨f4,n5⟩,z4⟩:=SK.out _ K4.out;obtain ⟨b',o',he,hb4,c14,c24⟩:=(H.out.ps.kp K4.out (by simp)) k x HX.out;obtain ⟨rfl,rfl⟩:b'=b∧o'=o:=(by simp only [Option.some.injEq,Addr.mk.injEq] at he;exact ⟨he.1.symm,he.2.1.symm⟩);clear o4 k4 n4 he)
    refine wp_region_ext (by kernel_rfl) (by kernel_rfl) ?_
    repeat (go_big_quiet_step (fail))
    (refine wpQuiet_nil ?_;intro _ hw';obtain ⟨⟨bsq,nq⟩,hw''⟩:=hw';subst hw'')
    go_wp2_with fail
    go_roundw
    case rel=>exact ⟨k+1,_,_,rfl,by go_num,by omega,Lib.hid (K4.out.ext _ _),Lib.hid (O4.out.kp ((Kp.refl [] w4).ext _ _) (by simp)),L4,NL4⟩
    case measure=>simp [intOf];omega
  ·obtain rfl:k=n.pairs.length:=by omega
   have hres:shapedB P wd n=risesFrom (P / 16) none (n.pairs.map fun x=>x.1):=by
    have hn:(n.pairs.any fun x=>decide (P / 8<x.2.length))=false:=by
     rw [List.any_eq_false]
     intro x hx
     have h:=NL.out x (by rw [List.take_length];exact hx)
     simpa using h
    rw [HS.out,hn];simp
   have HR:=Lib.hid hres
   have hss:SsAt wr a (n.pairs.map fun x=>x.1):=by
    refine Own.ss (c:=c) ?_
    have h:=OW.out
    rw [List.take_length] at h
    rw [List.length_map]
    exact h
   have HSS:=Lib.hid hss
   have hml:(n.pairs.map fun x=>x.1).length=n.pairs.length:=List.length_map ..
   have HML:=Lib.hid hml
   clear hres hss hml
   go_wp2_with fail
   rw [D16.out]
   have hk:=rkeys_any (P / 16) a c (n.pairs.map fun x=>x.1) wr (by omega) (by rw [HML.out];omega) (fun t ht=>by obtain ⟨x,hx,rfl⟩:=List.mem_map.1 ht;exact (HO.out.sp x hx).1) HSS.out
   rw [HML.out] at hk
   refine hk.mono ?_
   rintro e w' ⟨rfl,bs2,m2,rfl⟩
   rw [← HR.out]
   go_wp2_with fail
   go_ret
   exact ⟨rfl,Kp.to_ext ((KW.out.trans KI.out).ext _ _)⟩

theorem row_sum {w:World} {b o:Nat} {k:Kd} (h:rowAt? w ⟨b,o,none⟩ 33=some k.c):rowAt? w ⟨b,o+1,none⟩ 32=some k.sum.c:=by
 unfold rowAt? at h ⊢
 simp only at h ⊢
 split at h
 ·rename_i c e f hb
  split at h
  ·cases h
  ·split at h
   ·rename_i hle
    simp only [Option.some.injEq] at h
    rw [if_neg (by simp),if_pos (by omega)]
    congr 1
    rw [← Kd.extract1 k,← h]
    apply Array.ext'
    simp [List.extract_eq_take_drop]
   ·cases h
 ·cases h

theorem rshaped_branch (P d:Nat) (pa sa ka:Option Addr) (pc sc kc:Nat) (n:Nd) (w:World) (hr:rightB P d=true) (hl:leafB n=false) (h:NdAt w pa sa ka n) (ho:NdOk n) :
  Calls Tryz.prog 170 #[.agg #[.int .i64 P,.int .i64 d],.agg #[.slice pa n.pairs.length pc,.slice sa n.seps.length sc,.slice ka n.kids.length kc]] w (Rets (.bool (shapedB P d n)) w):=by
 have hP:P≤8192:=by have:=rightB_iff.1 hr;omega
 have hd1:1≤d:=by have:=rightB_iff.1 hr;omega
 have hd2:d≤32:=by have:=rightB_iff.1 hr;omega
 have hs:shapedB P d n=(decide (n.pairs.length=0) && decide (2≤n.kids.length) && decide (n.seps.length+1=n.kids.length) && !(n.kids.any fun k=>!fitB d k.sum) && risesFrom (P / 16) none n.seps):=by
  simp only [shapedB,hl,Bool.false_eq_true,if_false]
 have hl':(decide (n.seps.length=0∧n.kids.length=0))=false:=hl
 have d16:(P:Int) / 16=((P / 16:Nat):Int):=by omega
 have D16:=Lib.hid d16;clear d16
 have HR:=Lib.hid hr;clear hr
 have HS:=Lib.hid hs;clear hs
 have HL:=Lib.hid hl';clear hl hl'
 have hnp:=ho.np
 have hns:=ho.ns
 have hnk:=ho.nk
 have H:=Lib.hid h;have HO:=Lib.hid ho;clear h ho
 by_cases h1:0<n.pairs.length
 ·have hf:Hid (shapedB P d n=false):=by show _=_;rw [HS.out,show decide (n.pairs.length=0)=false from decide_eq_false (by omega)];rfl
  go_enter Tryz.func170,Tryz.ntmps170
  go_wp2_with fail
  refine (rleaf_any _ _ _ _ _ _ _ _ _ _).mono ?_
  rintro e w' ⟨rfl,bs1,m1,rfl⟩
  rw [HL.out]
  go_wp2_with fail
  go_ret
  rw [hf.out]
  exact ⟨rfl,by (try simp only [alloc_ext,drew_ext,drewN_ext,ext_ext]);exact ⟨_,_,rfl⟩⟩
 by_cases h2:n.kids.length<2
 ·have hf:Hid (shapedB P d n=false):=by show _=_;rw [HS.out,show decide (2≤n.kids.length)=false from decide_eq_false (by omega)];simp
  go_enter Tryz.func170,Tryz.ntmps170
  go_wp2_with fail
  refine (rleaf_any _ _ _ _ _ _ _ _ _ _).mono ?_
  rintro e w' ⟨rfl,bs1,m1,rfl⟩
  rw [HL.out]
  go_wp2_with fail
  go_ret
  rw [hf.out]
  exact ⟨rfl,by (try simp only [alloc_ext,drew_ext,drewN_ext,ext_ext]);exact ⟨_,_,rfl⟩⟩
 by_cases h3:n.seps.length+1=n.kids.length
 case neg=>
  have hf:Hid (shapedB P d n=false):=by show _=_;rw [HS.out,show decide (n.seps.length+1=n.kids.length)=false from decide_eq_false h3];simp
  have hb:((n.seps.length:Int) != (n.kids.length:Int) - 1)=true:=by simp only [bne_iff_ne,ne_eq];omega
  have H3:=Lib.hid h3;clear h3
  go_enter Tryz.func170,Tryz.ntmps170
  go_wp2_with fail
  refine (rleaf_any _ _ _ _ _ _ _ _ _ _).mono ?_
  rintro e w' ⟨rfl,bs1,m1,rfl⟩
  rw [HL.out]
  go_wp2_with fail
  go_ret
  rw [hf.out]
  exact ⟨rfl,by (try simp only [alloc_ext,drew_ext,drewN_ext,ext_ext]);exact ⟨_,_,rfl⟩⟩
 have hb:((n.seps.length:Int) != (n.kids.length:Int) - 1)=false:=by simp only [bne_eq_false_iff_eq];omega
 have hs2:shapedB P d n=(!(n.kids.any fun k=>!fitB d k.sum) && risesFrom (P / 16) none n.seps):=by
  rw [HS.out,decide_eq_true (show n.pairs.length=0 by omega),decide_eq_true (show 2≤n.kids.length by omega),decide_eq_true h3];rfl
 have HS2:=Lib.hid hs2;clear hs2
 have H3:=Lib.hid h3;clear h3
 obtain ⟨W0,hW0⟩:∃ W0,W0=(w.alloc (.cells #[.int .i64 P,.int .i64 d] 24)).alloc (.cells #[.slice pa n.pairs.length pc,.slice sa n.seps.length sc,.slice ka n.kids.length kc] 87):=⟨_,rfl⟩
 have kw:Kp [] w W0:=by rw [hW0];exact ((Kp.refl [] w).alloc _).alloc _
 have b0:Blk W0 w.heap.size 24 #[.int .i64 P,.int .i64 d]:=by rw [hW0];exact (Blk.new w _ _).alloc _
 have b1:Blk W0 (w.heap.size+1) 87 #[.slice pa n.pairs.length pc,.slice sa n.seps.length sc,.slice ka n.kids.length kc]:=by
  rw [hW0]
  have h:=Blk.new (w.alloc (.cells #[.int .i64 P,.int .i64 d] 24)) 87 #[.slice pa n.pairs.length pc,.slice sa n.seps.length sc,.slice ka n.kids.length kc]
  simpa using h
 have hz0:W0.heap.size=w.heap.size+2:=by rw [hW0];simp
 have SK:Hid (∀ W:World,Kp [] W0 W→(W.cell? ⟨w.heap.size,0,none⟩=some (.int .i64 P)∧W.cell? ⟨w.heap.size,1,none⟩=some (.int .i64 d)∧W.cell? ⟨w.heap.size+1,1,none⟩=some (.slice sa n.seps.length sc)∧W.cell? ⟨w.heap.size+1,2,none⟩=some (.slice ka n.kids.length kc))∧w.heap.size+1<W.heap.size):=Lib.hid (fun W k=>
  ⟨⟨(b0.kp k (by simp)).cell 0,(b0.kp k (by simp)).cell 1,(b1.kp k (by simp)).cell 1,(b1.kp k (by simp)).cell 2⟩,by have:=k.size;omega⟩)
 have HK:=Lib.hid (H.out.kp0 kw)
 have KW:=Lib.hid kw
 have HW0:=Lib.hid hW0
 have hz1:w.heap.size+1<W0.heap.size:=by omega
 clear kw b0 b1 hW0 hz0
 go_enter Tryz.func170,Tryz.ntmps170
 go_wp2_with fail
 refine (rleaf_any _ _ _ _ _ _ _ _ _ _).mono ?_
 rintro e w' ⟨rfl,bs1,m1,rfl⟩
 rw [HL.out]
 go_wp2_with fail
 rw [← HW0.out]
 go_loopw [7] (fun i wr=>∃ (k:Nat),i=.int .i64 k∧k≤n.kids.length∧Hid (Kp [] W0 wr)∧Hid (∀ x∈n.kids.take k,fitB d x.sum=true)) (fun i _=>n.kids.length - (intOf i).toNat)
 case atStart=>exact ⟨0,rfl,Nat.zero_le _,Lib.hid ((Kp.refl [] _).ext _ _),Lib.hid (fun x hx=>by simp at hx)⟩
 case round=>
  obtain ⟨k,rfl,hk,KI,FT⟩:=hrel
  obtain ⟨⟨f0,f1,n1,n2⟩,z0⟩:=SK.out _ KI.out
  by_cases hlt:k<n.kids.length
  ·obtain ⟨x,hx⟩:∃ x,n.kids[k]?=some x:=⟨_,List.getElem?_eq_getElem hlt⟩
   obtain ⟨b,o,rfl,hb,r1⟩:=HK.out.ks.kp KI.out (by simp) k x hx
   have r2:=row_sum r1
   have HX:=Lib.hid hx
   clear hx r1
   cases hfit:fitB d x.sum
   ·have RF:Hid (∀ W,Calls Tryz.prog 190 #[.int .i64 d,.agg x.sum.c] W (Rets (.bool false) W)):=Lib.hid (fun W=>by have:=rfits_any d x.sum W hd1 hd2;rwa [hfit] at this)
    have hf:Hid (shapedB P d n=false):=by
     show _=_
     rw [HS2.out,show (n.kids.any fun k=>!fitB d k.sum)=true from List.any_eq_true.2 ⟨x,List.mem_of_getElem? HX.out,by rw [hfit];rfl⟩]
     rfl
    go_wp2_with fail
    refine wp_region_ext (by kernel_rfl) (by kernel_rfl) ?_
    repeat (go_big_quiet_step ((go_at_call 190;exact Calls.quiet_ext (RF.out _))))
    (refine wpQuiet_nil ?_;intro _ hw';obtain ⟨⟨bsq,nq⟩,hw''⟩:=hw';subst hw'')
    go_wp2_with fail
    go_ret
    rw [hf.out]
    exact ⟨rfl,Kp.to_ext (((KW.out.trans KI.out).ext _ _))⟩
   ·have RF:Hid (∀ W,Calls Tryz.prog 190 #[.int .i64 d,.agg x.sum.c] W (Rets (.bool true) W)):=Lib.hid (fun W=>by have:=rfits_any d x.sum W hd1 hd2;rwa [hfit] at this)
    have F4:Hid (∀ y∈n.kids.take (k+1),fitB d y.sum=true):=Lib.hid (fun y hy=>by
     rw [List.take_add_one,HX.out,List.mem_append] at hy
     rcases hy with hy | hy
     ·exact FT.out y hy
     ·simp at hy;subst hy;exact hfit)
    go_wp2_with fail
    refine wp_region_ext (by kernel_rfl) (by kernel_rfl) ?_
    repeat (go_big_quiet_step ((go_at_call 190;exact Calls.quiet_ext (RF.out _))))
    (refine wpQuiet_nil ?_;intro _ hw';obtain ⟨⟨bsq,nq⟩,hw''⟩:=hw';subst hw'')
    go_wp2_with fail
    go_roundw
    case rel=>exact ⟨k+1,by go_num,by omega,Lib.hid (KI.out.ext _ _),F4⟩
    case measure=>simp [intOf];omega
  ·obtain rfl:k=n.kids.length:=by omega
   have hres:shapedB P d n=risesFrom (P / 16) none n.seps:=by
    have hn:(n.kids.any fun k=>!fitB d k.sum)=false:=by
     rw [List.any_eq_false]
     intro x hx
     have h:=FT.out x (by rw [List.take_length];exact hx)
     simp [h]
    rw [HS2.out,hn];simp
   have HR2:=Lib.hid hres
   clear hres
   go_wp2_with fail
   rw [D16.out]
   refine (rkeys_any (P / 16) sa sc n.seps _ (by omega) (by omega) (fun x hx=>HO.out.ss x hx) (HK.out.ss.kp KI.out (by simp))).mono ?_
   rintro e w' ⟨rfl,bs2,m2,rfl⟩
   rw [← HR2.out]
   go_wp2_with fail
   go_ret
   exact ⟨rfl,Kp.to_ext ((KW.out.trans KI.out).ext _ _)⟩


theorem rcheck_any (p wd:Int) (pa sa ka:Option Addr) (pc sc kc:Nat) (n:Nd) (w:World) (h:NdAt w pa sa ka n) (ho:NdOk n) :
  Calls Tryz.prog 147 #[.agg #[.int .i64 p,.int .i64 wd],.agg #[.slice pa n.pairs.length pc,.slice sa n.seps.length sc,.slice ka n.kids.length kc]] w (Rets (.int .i64 (checkE p wd n)) w):=by
 cases hr:rightB p wd
 ·have:checkE p wd n=2:=by simp [checkE,hr]
  rw [this]
  have HR:=Lib.hid hr;clear hr this
  go_enter Tryz.func147,Tryz.ntmps147
  go_wp2_with fail
  refine (rright_any _ _ _).mono ?_
  rintro e w' ⟨rfl,bs,m,rfl⟩
  rw [HR.out]
  go_wp2_with fail
  go_ret
  exact ⟨rfl,by (try simp only [alloc_ext,drew_ext,drewN_ext,ext_ext]);exact ⟨_,_,rfl⟩⟩
 ·obtain ⟨P,rfl⟩:=Int.eq_ofNat_of_zero_le (show 0≤p by have:=rightB_iff.1 hr;omega)
  obtain ⟨d,rfl⟩:=Int.eq_ofNat_of_zero_le (show 0≤wd by have:=rightB_iff.1 hr;omega)
  have hS:∀ W,NdAt W pa sa ka n→Calls Tryz.prog 170 #[.agg #[.int .i64 (P:Int),.int .i64 (d:Int)],.agg #[.slice pa n.pairs.length pc,.slice sa n.seps.length sc,.slice ka n.kids.length kc]] W (Rets (.bool (shapedB P d n)) W):=by
   intro W hW
   cases hl:leafB n
   ·exact rshaped_branch P d pa sa ka pc sc kc n W hr hl hW ho
   ·exact rshaped_leaf P d pa sa ka pc sc kc n W hr hl hW ho
  have hc:checkE P d n=if shapedB P d n=true then 0 else 70:=by simp [checkE,hr]
  rw [hc]
  obtain ⟨s,hs⟩:∃ s,shapedB P d n=s:=⟨_,rfl⟩
  rw [hs] at hS ⊢
  have HS:=Lib.hid hS
  have HR:=Lib.hid hr
  have H:=Lib.hid h
  clear hS hr hs hc h ho
  cases s
  ·go_enter Tryz.func147,Tryz.ntmps147
   go_wp2_with fail
   refine (rright_any _ _ _).mono ?_
   rintro e w' ⟨rfl,bs,m,rfl⟩
   rw [HR.out]
   go_wp2_with fail
   refine (HS.out _ (H.out.kp0 ((((Kp.refl [] _).alloc _).alloc _).ext _ _))).mono ?_
   rintro e w' ⟨rfl,bs2,m2,rfl⟩
   go_wp2_with fail
   go_ret
   exact ⟨rfl,by (try simp only [alloc_ext,drew_ext,drewN_ext,ext_ext]);exact ⟨_,_,rfl⟩⟩
  ·go_enter Tryz.func147,Tryz.ntmps147
   go_wp2_with fail
   refine (rright_any _ _ _).mono ?_
   rintro e w' ⟨rfl,bs,m,rfl⟩
   rw [HR.out]
   go_wp2_with fail
   refine (HS.out _ (H.out.kp0 ((((Kp.refl [] _).alloc _).alloc _).ext _ _))).mono ?_
   rintro e w' ⟨rfl,bs2,m2,rfl⟩
   go_wp2_with fail
   go_ret
   exact ⟨rfl,by (try simp only [alloc_ext,drew_ext,drewN_ext,ext_ext]);exact ⟨_,_,rfl⟩⟩

end Go.Proofs.YtcaggadjkccbiaaGreat