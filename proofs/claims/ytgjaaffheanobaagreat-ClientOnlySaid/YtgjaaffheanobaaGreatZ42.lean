/- The document's padding. -/
import Derived.Test.YtgjaaffheanobaaGreatZ41
import Derived.Laws.IdiomStrings
import Derived.Test.YtgjaaffheanobaaGreatZ7
namespace Go.Proofs.YtgjaaffheanobaaGreat
set_option linter.unusedVariables false
set_option linter.unusedSimpArgs false
open Go Go.RowKit

def OwT (w:World) (a:Option Addr) (n c:Nat) (l:Bs):Prop:=
 ∃ (g:Nat) (cur:Array Value) (lo hi:Nat),a=some ⟨g,0,none⟩∧w.heap[g]?=some (.cells cur 5 (lo,hi))∧(∀ i,i<cur.size→¬ (lo≤i∧i<hi))∧n≤c∧c≤maxLen∧cur.size=c∧cur.toList.take n=bC l

theorem OwT.len {w:World} {a:Option Addr} {n c:Nat} {l:Bs} (h:OwT w a n c l):l.length=n:=by
 obtain ⟨g,cur,lo,hi,_,_,_,h4,_,h5,h6⟩:=h
 rw [← bC_length,← h6,List.length_take,Array.length_toList];omega
theorem OwT.kp {S:List Nat} {w w':World} {a:Option Addr} {n c:Nat} {l:Bs} (h:OwT w a n c l) (k:Kp S w w') (hs:∀ g∈ab a,g ∉ S):OwT w' a n c l:=by
 obtain ⟨g,cur,lo,hi,rfl,h2,h3⟩:=h
 exact ⟨g,cur,lo,hi,rfl,k.blk h2 (hs g (by simp [ab])),h3⟩
theorem OwT.by {w:World} {a:Option Addr} {n c:Nat} {l:Bs} (h:OwT w a n c l):ByAt w a l:=by
 intro i x hx
 obtain ⟨g,cur,lo,hi,rfl,h2,h3,h4,h5,h6,h7⟩:=h
 refine ⟨g,0,rfl,lt_of_block h2,?_⟩
 have h8:(bC l)[i]?=some (.int .u8 (x.toNat:Int)):=by simp [bC,hx]
 rw [← h7,List.getElem?_take] at h8
 split at h8
 ·simp only [World.cell?,h2,Nat.zero_add]
  simpa using h8
 ·cases h8

structure PdI (V wr:World) (t:Bs) (L:Nat) (a:Option Addr) (c:Nat):Prop where
 own:OwT wr a L c t
 kp:Kp [] V wr
 lo:∀ g∈ab a,V.heap.size≤g
theorem PdI.push {V wr w2:World} {t:Bs} {L:Nat} {a a2:Option Addr} {c c2:Nat} {o:Obj} (h:PdI V wr t L a c) {b:UInt8} (o2:OwT w2 a2 (L+1) c2 (t++[b])) (k2:Kp (ab a) (wr.alloc o) w2) (n2:∀ g∈ab a2,g∈ab a∨(wr.alloc o).heap.size≤g) :
  PdI V w2 (t++[b]) (L+1) a2 c2:=by
 have hz:=h.kp.size
 refine ⟨o2,(h.kp.alloc o).from k2 (fun g hg=>.inl (h.lo g hg)),fun g hg=>?_⟩
 rcases n2 g hg with h1 | h1
 ·exact h.lo g h1
 ·simp at h1;omega

set_option maxRecDepth 100000 in
@[go_sem ↓] theorem exec_bs_h (a:Act) (dst:Option Tmp) (ty:TypeId) (pos:String) (after:Array Edge) (guard:Option (Nat×Bool)) (w:World) :
  (execOp a.eval { dst,op:=.buildSlice 293 8 #[(0,.const (.int .u32 1779033703)),(1,.const (.int .u32 3144134277)),(2,.const (.int .u32 1013904242)),(3,.const (.int .u32 2773480762)),(4,.const (.int .u32 1359893119)),(5,.const (.int .u32 2600822924)),(6,.const (.int .u32 528734635)),(7,.const (.int .u32 1541459225))],type:=ty,pos,after,guard }).run Tryz.prog w=.ok (.value (.slice (some ⟨w.heap.size,0,none⟩) 8 8)) (w.alloc (.cells (wC shaH.l).toArray 115)):=by kernel_rfl
set_option maxRecDepth 100000 in
@[go_sem ↓] theorem exec_bs_k (a:Act) (dst:Option Tmp) (ty:TypeId) (pos:String) (after:Array Edge) (guard:Option (Nat×Bool)) (w:World) :
  (execOp a.eval { dst,op:=.buildSlice 293 64 #[(0,.const (.int .u32 1116352408)),(1,.const (.int .u32 1899447441)),(2,.const (.int .u32 3049323471)),(3,.const (.int .u32 3921009573)),(4,.const (.int .u32 961987163)),(5,.const (.int .u32 1508970993)),(6,.const (.int .u32 2453635748)),(7,.const (.int .u32 2870763221)),(8,.const (.int .u32 3624381080)),(9,.const (.int .u32 310598401)),(10,.const (.int .u32 607225278)),(11,.const (.int .u32 1426881987)),(12,.const (.int .u32 1925078388)),(13,.const (.int .u32 2162078206)),(14,.const (.int .u32 2614888103)),(15,.const (.int .u32 3248222580)),(16,.const (.int .u32 3835390401)),(17,.const (.int .u32 4022224774)),(18,.const (.int .u32 264347078)),(19,.const (.int .u32 604807628)),(20,.const (.int .u32 770255983)),(21,.const (.int .u32 1249150122)),(22,.const (.int .u32 1555081692)),(23,.const (.int .u32 1996064986)),(24,.const (.int .u32 2554220882)),(25,.const (.int .u32 2821834349)),(26,.const (.int .u32 2952996808)),(27,.const (.int .u32 3210313671)),(28,.const (.int .u32 3336571891)),(29,.const (.int .u32 3584528711)),(30,.const (.int .u32 113926993)),(31,.const (.int .u32 338241895)),(32,.const (.int .u32 666307205)),(33,.const (.int .u32 773529912)),(34,.const (.int .u32 1294757372)),(35,.const (.int .u32 1396182291)),(36,.const (.int .u32 1695183700)),(37,.const (.int .u32 1986661051)),(38,.const (.int .u32 2177026350)),(39,.const (.int .u32 2456956037)),(40,.const (.int .u32 2730485921)),(41,.const (.int .u32 2820302411)),(42,.const (.int .u32 3259730800)),(43,.const (.int .u32 3345764771)),(44,.const (.int .u32 3516065817)),(45,.const (.int .u32 3600352804)),(46,.const (.int .u32 4094571909)),(47,.const (.int .u32 275423344)),(48,.const (.int .u32 430227734)),(49,.const (.int .u32 506948616)),(50,.const (.int .u32 659060556)),(51,.const (.int .u32 883997877)),(52,.const (.int .u32 958139571)),(53,.const (.int .u32 1322822218)),(54,.const (.int .u32 1537002063)),(55,.const (.int .u32 1747873779)),(56,.const (.int .u32 1955562222)),(57,.const (.int .u32 2024104815)),(58,.const (.int .u32 2227730452)),(59,.const (.int .u32 2361852424)),(60,.const (.int .u32 2428436474)),(61,.const (.int .u32 2756734187)),(62,.const (.int .u32 3204031479)),(63,.const (.int .u32 3329325298))],type:=ty,pos,after,guard }).run Tryz.prog w=.ok (.value (.slice (some ⟨w.heap.size,0,none⟩) 64 64)) (w.alloc (.cells (wC shaK).toArray 115)):=by kernel_rfl

theorem OwT.at {w:World} {a:Option Addr} {n c:Nat} {l:Bs} (h:OwT w a n c l):∃ g,a=some ⟨g,0,none⟩∧n≤c∧g<w.heap.size:=by
 obtain ⟨g,cur,lo,hi,rfl,h2,h3,h4,h5⟩:=h
 exact ⟨g,rfl,h4,lt_of_block h2⟩

def be4L (n:Nat):Bs:=[UInt8.ofNat (n / 16777216),UInt8.ofNat (n / 65536),UInt8.ofNat (n / 256),UInt8.ofNat n]
def textT (tag:Bs) (parts:List Bs):Bs:=UInt8.ofNat tag.length::tag++parts.flatMap fun p=>be4L p.length++p
theorem textT_snoc (tag:Bs) (l:List Bs) (p:Bs):textT tag (l++[p])=textT tag l++be4L p.length++p:=by
 unfold textT;simp [List.append_assoc]
theorem textT_take_le (tag:Bs) (l:List Bs) (k:Nat):(textT tag (l.take k)).length≤(textT tag l).length:=by
 conv=>rhs;rw [← List.take_append_drop k l]
 unfold textT
 simp only [List.flatMap_append,List.length_append,List.length_cons]
 omega
theorem u8_at {x:Int} {n:Nat} (h:x=((n % 256:Nat):Int)):x=((UInt8.ofNat n).toNat:Int):=by rw [h,UInt8.toNat_ofNat']
theorem be4_cells {a b c d:Int} {n:Nat} (h1:a=((n / 16777216 % 256:Nat):Int)) (h2:b=((n / 65536 % 256:Nat):Int)) (h3:c=((n / 256 % 256:Nat):Int)) (h4:d=((n % 256:Nat):Int)) :
  [Value.int .u8 a,.int .u8 b,.int .u8 c,.int .u8 d]=bC (be4L n):=by
 rw [u8_at h1,u8_at h2,u8_at h3,u8_at h4];rfl
theorem src_cells {w:World} {cs:Array Value} {l:List Value} {n:Nat} (h:cs.toList=l) (hn:l.length=n) (h1:∀ v∈l,v.oneCell'=true) (t:TypeId):Src Tryz.prog 1 114 (.slice (some ⟨w.heap.size,0,none⟩) n n) n l (w.alloc (.cells cs t)):=
 Src.ofSlice _ Tryz.underlying114 _ _ _ _ (by omega) (by
  subst h
  intro j u hj
  have hb:Blk (w.alloc (.cells cs t)) w.heap.size t cs:=Blk.new w t cs
  have:=hb.cell j
  simpa [Addr.add_lit] using this.trans (by simpa using hj)) h1
theorem TlI.app {V wr wa w2:World} {t:Bs} {L m:Nat} {a a2:Option Addr} {c c2:Nat} {u:Bs} (h:TlI V wr t L a c) (k:Kp [] wr wa) (o2:Own w2 5 1 a2 (L+m) c2 (bC t++bC u)) (k2:Kp (ab a) wa w2) (n2:∀ g∈ab a2,g∈ab a∨wa.heap.size≤g) :
  TlI V w2 (t++u) (L+m) a2 c2:=by
 have hz:=h.kp.size
 have hz2:=k.size
 refine ⟨by rw [bC_app];exact o2,(h.kp.trans k).from k2 (fun g hg=>.inl (h.lo g hg)),fun g hg=>?_⟩
 rcases n2 g hg with h1 | h1
 ·exact h.lo g h1
 ·omega
theorem own_one (w:World) (b:UInt8):Own (w.alloc (.cells #[.int .u8 (b.toNat:Int)] 5)) 5 1 (some ⟨w.heap.size,0,none⟩) 1 1 (bC [b]):=
 ⟨rfl,.inr ⟨w.heap.size,1,_,rfl,Nat.zero_le _,heap_alloc_new w _,Nat.le_refl _,by unfold maxLen;omega,rfl,rfl⟩⟩

def tagE (tag:Bs):Int:=if 1≤tag.length∧tag.length≤64 then 0 else 20

set_option maxHeartbeats 4000000 in
set_option maxRecDepth 100000 in
theorem stext_bad (tag:Bs) (a:Option Addr) (n c:Nat) (w:World) (h:tagE tag=20) (hl:tag.length≤140737488355328) :
  Calls Tryz.prog 24 #[.string ⟨tag.toArray⟩,.slice a n c] w (Rets (.tuple #[.string ⟨#[]⟩,.int .i64 20]) w):=by
 have ht:tag.length=0∨64<tag.length:=by
  unfold tagE at h;split at h
  ·cases h
  ·omega
 clear h
 rcases ht with ht | ht
 ·obtain rfl:tag=[]:=List.eq_nil_of_length_eq_zero ht
  clear ht hl
  go_enter Tryz.func24,Tryz.ntmps24
  go_wp2_with fail
  go_ret2
  exact Rets.same
 ·have hb:tag.isEmpty=false:=by cases tag <;> simp_all
  have h1:¬ tag.length<1:=by omega
  go_enter Tryz.func24,Tryz.ntmps24
  go_wp2_with fail
  go_ret2
  exact Rets.same

set_option maxHeartbeats 4000000 in
set_option maxRecDepth 100000 in
theorem stext_any (tag:Bs) (parts:List Bs) (a:Option Addr) (c:Nat) (w:World) (hp:SsAt w a parts) (h1:1≤tag.length) (h2:tag.length≤64) (hT:(textT tag parts).length≤140737488355328) (hn:parts.length≤1000000000) :
  Calls Tryz.prog 24 #[.string ⟨tag.toArray⟩,.slice a parts.length c] w (Rets (.tuple #[.string ⟨(textT tag parts).toArray⟩,.int .i64 0]) w):=by
 have hb:tag.isEmpty=false:=by cases tag <;> simp_all
 have hl:¬ 64<tag.length:=by omega
 have hl1:¬ tag.length<1:=by omega
 obtain ⟨b0,hb0⟩:∃ b0,UInt8.ofNat tag.length=b0:=⟨_,rfl⟩
 have hw8:IntKind.u8.wrap (tag.length:Int)=(b0.toNat:Int):=by rw [IntKind.wrap_u8',← hb0,UInt8.toNat_ofNat'];simp
 have hw9:(tag.length:Int) % 256=(b0.toNat:Int):=by rw [← hw8,IntKind.wrap_u8']
 have hw7:(tag.length:Int)=(b0.toNat:Int):=by omega
 have HB0:=Lib.hid hb0;have HP:=Lib.hid hp
 have O0:=Lib.hid (own_one w b0)
 have HT:=Lib.hid hT
 have H7:=Lib.hid hw7
 clear hb0 hp hT hw9 hw8 hw7
 go_enter Tryz.func24,Tryz.ntmps24
 go_wp2_with (at_builtin;refine wpList_app_u8 rfl rfl rfl (by have h:=O0.out;rw [← H7.out] at h;exact h) tag.length (bC tag) (src_str tag) (by omega) ?_;intro a1 c1 w1 o1 k1 n1;have P1:Hid (TlI w w1 (textT tag (parts.take 0)) (1+tag.length) a1 c1):=Lib.hid (by have h:=TlI.app (V:=w) (wr:=w.alloc (.cells #[.int .u8 (b0.toNat:Int)] 5)) (t:=[b0]) (L:=1) (u:=tag) ⟨O0.out,(Kp.refl _ _).alloc _,fun g hg=>by simp [ab] at hg;omega⟩ (Kp.refl _ _) o1 (by have h:=k1;rw [H7.out] at h;exact h) (by have h:=n1;rw [H7.out] at h;exact h);rw [show textT tag (parts.take 0)=[b0]++tag by rw [List.take_zero];unfold textT;rw [HB0.out];simp];exact h);clear o1 k1 n1)
 clear hb hl
 go_loopw [6,25] (fun t i wr=>∃ (k L:Nat) (a:Option Addr) (c:Nat),t=.slice a L c∧i=.int .i64 k∧k≤parts.length∧Hid (TlI w wr (textT tag (parts.take k)) L a c)) (fun _ i _=>parts.length - (intOf i).toNat)
 case atStart=>exact ⟨0,1+tag.length,a1,c1,rfl,rfl,by omega,P1⟩
 case round=>
  clear P1
  obtain ⟨k,L,a3,c3,rfl,rfl,hk,TI⟩:=hrel
  have hL:=TI.out.len
  by_cases hlt:k<parts.length
  ·obtain ⟨p,hp⟩:∃ p,parts[k]?=some p:=⟨_,List.getElem?_eq_getElem hlt⟩
   obtain ⟨b,o,rfl,hbs,hc⟩:=HP.out k p hp
   have hsn:textT tag (parts.take (k+1))=textT tag (parts.take k)++be4L p.length++p:=by rw [List.take_add_one,hp];exact textT_snoc _ _ _
   have hle:L+4+p.length≤140737488355328:=by
    have h1:=textT_take_le tag parts (k+1)
    rw [hsn] at h1
    simp only [List.length_append,be4L,List.length_cons,List.length_nil] at h1
    have:=HT.out
    omega
   have HSN:=Lib.hid hsn
   have HC:=Lib.hid hc
   have hc1:=TI.out.kp.cell hc (by simp)
   have hz1:b<wr.heap.size:=by have:=TI.out.kp.size;omega
   have hle1:p.length≤140737488355328:=by omega
   have hle2:L+4≤140737488355328:=by omega
   clear hp hsn hc hL
   go_wp2_with (first
    | (at_builtin;refine wpList_app_u8 rfl rfl rfl P4.out.own p.length (bC p) (src_str p) (by omega) ?_;intro a5 c5 w5 o5 k5 n5;have P5:=Lib.hid (P4.out.app (Kp.refl _ _) o5 k5 n5);clear o5 k5 n5)
    | (at_builtin;refine wpList_app_u8 rfl rfl rfl (TI.out.own.kp ((Kp.refl [] wr).alloc _) (by simp)) 4 (bC (be4L p.length)) (src_cells (be4_cells (by omega) (by omega) (by omega) (by omega)) rfl (bC_one _) _) (by omega) ?_;intro a4 c4 w4 o4 k4 n4;have P4:=Lib.hid (TI.out.app ((Kp.refl [] wr).alloc _) o4 k4 n4);clear o4 k4 n4;have hc1:=P4.out.kp.cell HC.out (by simp);have hz2:b<w4.heap.size:=by have:=P4.out.kp.size;omega))
   go_roundw
   case rel=>exact ⟨k+1,L+4+p.length,a5,c5,rfl,by go_num,by omega,Lib.hid (by rw [HSN.out];exact P5.out)⟩
   case measure=>simp [intOf];omega
  ·obtain rfl:k=parts.length:=by omega
   rw [List.take_length] at TI
   have hcv:(convert 114 9 (.slice a3 L c3)).run Tryz.prog wr=.ok (.string ⟨(textT tag parts).toArray⟩) wr:=by
    have h:=TI.out.own
    rw [← hL] at h ⊢
    first | exact conv_own h | (rw [List.take_length];rw [List.take_length] at h;exact conv_own h)
   clear hL
   go_wp2_with fail
   go_ret2
   exact ⟨rfl,TI.out.kp.to_ext⟩

set_option maxHeartbeats 1000000
set_option maxRecDepth 100000

def ofS (n:Int) (s:Bs):Dg×Int:=if 1≤n∧n≤32 then (Dg.cut n.toNat (sha s),0) else (Dg.zero,2)
def digS (n:Int) (tag:Bs) (parts:List Bs):Dg×Int:=
 if 1≤n∧n≤32 then (if tagE tag=0 then ofS n (textT tag parts) else (Dg.zero,20)) else (Dg.zero,2)

theorem of_any (n:Int) (s:Bs) (w:World) (hs:s.length≤140737488355000):Calls Tryz.prog 58 #[.int .i64 n,.string ⟨s.toArray⟩] w (Rets (.tuple #[.agg (ofS n s).1.c,.int .i64 (ofS n s).2]) w):=by
 by_cases hn:1≤n∧n≤32
 ·obtain ⟨k,rfl⟩:∃ k:Nat,n=k:=⟨n.toNat,by omega⟩
  rw [show ofS (k:Int) s=(Dg.cut k (sha s),0) by unfold ofS;rw [if_pos hn];rfl]
  go_enter Tryz.func58,Tryz.ntmps58
  go_wp2_with fail
  refine (sum_any s _ hs).mono ?_
  rintro e w1 ⟨rfl,bs,m,rfl⟩
  go_wp2_with fail
  refine (cut_any k (sha s) _ (by omega) (by omega)).mono ?_
  rintro e w2 ⟨rfl,bs2,m2,rfl⟩
  go_wp2_with fail
  refine dg_ret2 rfl rfl rfl (d:=Dg.cut k (sha s)) ?_ rfl ?_
  ·simp [go_sem]
  ·exact ⟨rfl,by (try simp only [alloc_ext,drew_ext,drewN_ext,ext_ext]);exact ⟨_,_,rfl⟩⟩
 ·rw [show ofS n s=(Dg.zero,2) by unfold ofS;rw [if_neg hn]]
  go_enter Tryz.func58,Tryz.ntmps58
  go_wp2_with fail
  refine (sum_any s _ hs).mono ?_
  rintro e w1 ⟨rfl,bs,m,rfl⟩
  go_wp2_with fail
  refine (cut_bad n (sha s) _ hn).mono ?_
  rintro e w2 ⟨rfl,bs2,m2,rfl⟩
  go_wp2_with fail
  refine dg_ret2 rfl rfl rfl (d:=Dg.zero) ?_ rfl ?_
  ·simp [go_sem]
  ·exact ⟨rfl,by (try simp only [alloc_ext,drew_ext,drewN_ext,ext_ext]);exact ⟨_,_,rfl⟩⟩

def zz (n k:Nat) (l:Bs):Bs:=l.take n++List.replicate (k - n) 0++l.drop k

theorem dig_any (n:Int) (tag:Bs) (parts:List Bs) (a:Option Addr) (c:Nat) (w:World) (hp:SsAt w a parts) (hT:(textT tag parts).length≤140737488355000) (hn:parts.length≤1000000000) :
  Calls Tryz.prog 57 #[.int .i64 n,.string ⟨tag.toArray⟩,.slice a parts.length c] w (Rets (.tuple #[.agg (digS n tag parts).1.c,.int .i64 (digS n tag parts).2]) w):=by
 have htl:tag.length≤140737488355000:=by
  have:tag.length≤(textT tag parts).length:=by unfold textT;simp;omega
  omega
 by_cases hw:1≤n∧n≤32
 ·have hb:decide (1≤n∧n≤32)=true:=decide_eq_true hw
  by_cases ht:tagE tag=0
  ·have ht2:1≤tag.length∧tag.length≤64:=by
    unfold tagE at ht;split at ht
    ·assumption
    ·cases ht
   rw [show digS n tag parts=ofS n (textT tag parts) by unfold digS;rw [if_pos hw,if_pos ht]]
   have HP:=Lib.hid hp;clear hp
   obtain ⟨ht3,ht4⟩:=ht2
   clear hw ht
   go_enter Tryz.func57,Tryz.ntmps57
   go_wp2_with (go_at_call 81;refine (wide_any _ _).mono ?_;rintro e w' ⟨rfl,rfl⟩)
   refine (stext_any tag parts a c _ (HP.out.kp ((Kp.refl [] _).alloc _) (by simp)) (by omega) (by omega) (by omega) hn).mono ?_
   rintro e w1 ⟨rfl,bs,m,rfl⟩
   go_wp2_with fail
   refine (of_any n (textT tag parts) _ hT).mono ?_
   rintro e w2 ⟨rfl,bs2,m2,rfl⟩
   go_wp2_with fail
   refine dg_ret2 rfl rfl rfl (d:=(ofS n (textT tag parts)).1) ?_ rfl ?_
   ·simp [go_sem]
   ·exact ⟨rfl,by (try simp only [alloc_ext,drew_ext,drewN_ext,ext_ext]);exact ⟨_,_,rfl⟩⟩
  ·have ht2:tagE tag=20:=by
    unfold tagE at ht ⊢;split at ht
    ·exact absurd rfl ht
    ·rename_i h;exact if_neg h
   rw [show digS n tag parts=(Dg.zero,20) by unfold digS;rw [if_pos hw,if_neg ht]]
   have H2:=Lib.hid ht2
   clear hw ht ht2
   go_enter Tryz.func57,Tryz.ntmps57
   go_wp2_with (go_at_call 81;refine (wide_any _ _).mono ?_;rintro e w' ⟨rfl,rfl⟩)
   refine (stext_bad tag a _ c _ H2.out (by omega)).mono ?_
   rintro e w1 ⟨rfl,bs,m,rfl⟩
   go_wp2_with fail
   refine dg_ret2 rfl rfl rfl (d:=Dg.zero) ?_ rfl ?_
   ·simp [go_sem]
   ·exact ⟨rfl,by (try simp only [alloc_ext,drew_ext,drewN_ext,ext_ext]);exact ⟨_,_,rfl⟩⟩
 ·have hb:decide (1≤n∧n≤32)=false:=decide_eq_false hw
  rw [show digS n tag parts=(Dg.zero,2) by unfold digS;rw [if_neg hw]]
  clear hw
  go_enter Tryz.func57,Tryz.ntmps57
  go_wp2_with (go_at_call 81;refine (wide_any _ _).mono ?_;rintro e w' ⟨rfl,rfl⟩)
  refine dg_ret2 rfl rfl rfl (d:=Dg.zero) ?_ rfl ?_
  ·simp [go_sem]
  ·exact ⟨rfl,by (try simp only [alloc_ext,drew_ext,drewN_ext,ext_ext]);exact ⟨_,_,rfl⟩⟩

end Go.Proofs.YtgjaaffheanobaaGreat