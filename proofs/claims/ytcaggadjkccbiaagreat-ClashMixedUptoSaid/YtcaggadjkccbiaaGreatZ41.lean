/- The document's padding. -/
import Derived.Test.YtcaggadjkccbiaaGreatZ40
import Derived.Laws.IdiomStrings
import Derived.Test.YtcaggadjkccbiaaGreatZ11
namespace Go.Proofs.YtcaggadjkccbiaaGreat
set_option linter.unusedVariables false
set_option linter.unusedSimpArgs false
open Go Go.RowKit

def OwT (w:World) (a:Option Addr) (n c:Nat) (l:Bs):Prop:=
 ∃ (g:Nat) (cur:Array Value) (lo hi:Nat),a=some ⟨g,0,none⟩∧w.heap[g]?=some (.cells cur 5 (lo,hi))∧(∀ i,i<cur.size→¬ (lo≤i∧i<hi))∧n≤c∧c≤maxLen∧cur.size=c∧cur.toList.take n=bC l

theorem OwT.len {w:World} {a:Option Addr} {n c:Nat} {l:Bs} (h:OwT w a n c l):l.length=n:=by
 obtain ⟨g,cur,lo,hi,_,_,_,h4,_,h5,h6⟩:=h
 rw [← bC_length,← h6,List.length_take,Array.length_toList];omega
theorem OwT.kp {S:List Nat} {w w':World} {a:Option Addr} {n c:Nat} {l:Bs} (h:OwT w a n c l) (k:Kp S w w') (hs:∀ g∈ab a,g ∉ S):OwT w' a n c l:=by
 obtain ⟨g,cur,lo,hi,rfl,h2,h3⟩:=h
 exact ⟨g,cur,lo,hi,rfl,k.blk h2 (hs g (by simp [ab])),h3⟩
theorem OwT.by {w:World} {a:Option Addr} {n c:Nat} {l:Bs} (h:OwT w a n c l):ByAt w a l:=by
 intro i x hx
 obtain ⟨g,cur,lo,hi,rfl,h2,h3,h4,h5,h6,h7⟩:=h
 refine ⟨g,0,rfl,lt_of_block h2,?_⟩
 have h8:(bC l)[i]?=some (.int .u8 (x.toNat:Int)):=by simp [bC,hx]
 rw [← h7,List.getElem?_take] at h8
 split at h8
 ·simp only [World.cell?,h2,Nat.zero_add]
  simpa using h8
 ·cases h8

theorem run_app_t (w:World) (tx ty:TypeId) (a:Option Addr) (n c:Nat) (l:Bs) (hown:OwT w a n c l) (x:Value) (b:UInt8) (hs:Src Tryz.prog 1 tx x 1 [.int .u8 (b.toNat:Int)] w) (hbytes:n+1≤140737488355328) :
  ∃ a' c' w',(Builtin.append_ #[29,tx] ty #[.slice a n c,x]).run Tryz.prog w=.ok (.slice a' (n+1) c') w'∧OwT w' a' (n+1) c' (l++[b])∧Kp (ab a) w w'∧(∀ g∈ab a',g∈ab a∨w.heap.size≤g):=by
 obtain ⟨i,hi,hz0,hz1,hz2⟩:=info_parts Tryz.infoU8
 have hln:=hown.len
 have hown':=hown
 obtain ⟨g,cur,lo,hh,rfl,hg,hfr,hnc,hcm,hcs,htake⟩:=hown
 have ht:=Tryz.underlying29
 have hcl:(bC l).length=n:=by rw [bC_length];exact hln
 by_cases hroom:n+1≤c
 ·have hcell:w.cell? ⟨g,n,none⟩=some (cur[n]'(by omega)):=by
   simp only [World.cell?,hg];simp
  have hst:=run_storeCells_cells (P:=Tryz.prog) g n [.int .u8 (b.toNat:Int)] 0 w (by
    intro j hj
    have:j=0:=by simpa using hj
    subst this;rw [show n+0+0=n by omega,hcell];rfl) (by
    intro j hj
    have:j=0:=by simpa using hj
    subst this
    have:=hfr n (by omega)
    simp only [World.frozen?,hg,Nat.add_zero]
    simpa using this) (by intro v hv;simp at hv;subst hv;rfl)
  simp only [Nat.add_zero] at hst
  have hsc:w.setCells g n [.int .u8 (b.toNat:Int)]=w.setCell ⟨g,n,none⟩ (.int .u8 (b.toNat:Int)):=rfl
  rw [hsc] at hst
  refine ⟨some ⟨g,0,none⟩,c,w.setCell ⟨g,n,none⟩ (.int .u8 (b.toNat:Int)),?_,⟨g,cur.setIfInBounds n (.int .u8 (b.toNat:Int)),lo,hh,rfl,?_,?_,hroom,hcm,?_,?_⟩,(Kp.refl _ _).setCell _ (.inr (by simp [ab])),fun g' hg'=>.inl hg'⟩
  ·rcases hs.kind with ⟨e',hk⟩ | hk <;> simp [Builtin.append_,run_underlying ht,run_underlying hk,sizeOf,typeInfo,hi,hs.len,hroom,hs.cells,Addr.add_lit,hz1,hst]
  ·simp [World.setCell,Array.getElem?_modify,hg]
  ·intro j hj;exact hfr j (by simpa using hj)
  ·simpa using hcs
  ·rw [Array.toList_setIfInBounds,List.take_add_one,List.getElem?_set_self (by simpa using (by omega:n<cur.size)),List.take_set_of_le (Nat.le_refl _),htake,bC_app]
   rfl
 ·have holds:∀ j u,(bC l)[j]?=some u→w.drew.cell? ((⟨g,0,none⟩:Addr).add j)=some u:=fun j u hj=>by
   rw [Addr.add_lit]
   have hx:l[j]?=some (l[j]'(by have:=(List.getElem?_eq_some_iff.1 hj).1;rw [bC_length] at this;exact this)):=List.getElem?_eq_getElem _
   obtain ⟨b',o',e,_,h1⟩:=hown'.by j _ hx
   cases e
   have h2:(bC l)[j]?=some (.int .u8 ((l[j]'(by have:=(List.getElem?_eq_some_iff.1 hj).1;rw [bC_length] at this;exact this)).toNat:Int)):=by simp [bC,hx]
   rw [h2] at hj
   rw [← Option.some.inj hj]
   exact h1
  have hcn:c<n+1:=by omega
  have hr:=run_append_grow_src w 29 tx ty 5 i (.int .u8 0) ht hi hz0 (some ⟨g,0,none⟩) n c (bC l) (by rw [hz1];exact run_firstCells_some w.drew 1 n ⟨g,0,none⟩ n c (bC l) (by omega) holds) x 1 [.int .u8 (b.toNat:Int)] (by rw [hz1];exact hs) hcn (by omega) (by rw [hz2];exact growslice_fits (by omega) (by omega))
  have hge:=grownCap_ge w (n+1) c 5
  have hcm2:=grownCap_le_maxLen w (n+1) c 5 (by unfold maxLen;omega)
  refine ⟨_,_,_,hr,⟨w.heap.size,_,0,0,rfl,heap_alloc_new w.drew _,by omega,hge,hcm2,?_,?_⟩,((Kp.refl _ _).drew).alloc _,fun g' hg'=>.inr (by simp [ab] at hg';omega)⟩
  ·have h1:(Value.int IntKind.u8 0).cells.size=1:=rfl
   have h2:(bC l++[Value.int .u8 (b.toNat:Int)]).length=n+1:=by rw [List.length_append,hcl];rfl
   simp only [Array.size_append,List.size_toArray,size_zeroCells,h1,h2]
   omega
  ·have h2:(bC (l++[b])).length=n+1:=by rw [bC_length,List.length_append,hln];rfl
   have h3:bC l++[Value.int .u8 (b.toNat:Int)]=bC (l++[b]):=by rw [bC_app];rfl
   simp only [Array.toList_append]
   rw [h3,← h2]
   exact List.take_left

theorem wpList_app_t {w:World} {ops:Array Oper} {rest:List Oper} {o:Oper} {A:Act} {Q:Exit→Act→World→Prop} (hgd:o.guard=none) {s x:Operand} {tx:TypeId}
  (ho:o.op=.call { callee:=.builtin .append,args:=#[s,x],argTypes:=#[29,tx] })
  {a:Option Addr} {n c:Nat} {l:Bs} (hs:A.eval s=.slice a n c) (hown:OwT w a n c l) (b:UInt8) (hsrc:Src Tryz.prog 1 tx (A.eval x) 1 [.int .u8 (b.toNat:Int)] w) (h63:n+1≤140737488355328)
  (h:∀ a' c' w',OwT w' a' (n+1) c' (l++[b])→Kp (ab a) w w'→(∀ g∈ab a',g∈ab a∨w.heap.size≤g)→wpList Tryz.prog ops Q rest (A.put o.dst (.slice a' (n+1) c')) w'):wpList Tryz.prog ops Q (o::rest) A w:=by
 refine wpList_plain hgd fun _ hK=>?_
 obtain ⟨a',c',w',hr,h2,h3,h4⟩:=run_app_t w tx o.type a n c l hown _ b hsrc h63
 unfold Oper.wp execOp
 simp only [ho,resolve,invoke,builtin,Sem.run_bind,Sem.run_pure,Result.andThen_ok,List.map_toArray,List.map_cons,List.map_nil,hs,hr]
 exact hK _ _ (h a' c' w' h2 h3 h4)

theorem src_at {W':World} {g:Nat} {v:Value} (h1:v.oneCell'=true) (hc:W'.cell? ⟨g,0,none⟩=some v):Src Tryz.prog 1 29 (.slice (some ⟨g,0,none⟩) 1 1) 1 [v] W':=
 Src.ofSlice _ Tryz.underlying29 _ _ _ _ rfl (by
  intro j u hj
  match j,hj with
  | 0,hj=>simp at hj;subst hj;simpa [Addr.add] using hc
  | j+1,hj=>simp at hj) (by intro u hu;simp at hu;subst hu;exact h1)

structure PdI (V wr:World) (t:Bs) (L:Nat) (a:Option Addr) (c:Nat):Prop where
 own:OwT wr a L c t
 kp:Kp [] V wr
 lo:∀ g∈ab a,V.heap.size≤g
theorem PdI.push {V wr w2:World} {t:Bs} {L:Nat} {a a2:Option Addr} {c c2:Nat} {o:Obj} (h:PdI V wr t L a c) {b:UInt8} (o2:OwT w2 a2 (L+1) c2 (t++[b])) (k2:Kp (ab a) (wr.alloc o) w2) (n2:∀ g∈ab a2,g∈ab a∨(wr.alloc o).heap.size≤g) :
  PdI V w2 (t++[b]) (L+1) a2 c2:=by
 have hz:=h.kp.size
 refine ⟨o2,(h.kp.alloc o).from k2 (fun g hg=>.inl (h.lo g hg)),fun g hg=>?_⟩
 rcases n2 g hg with h1 | h1
 ·exact h.lo g h1
 ·simp at h1;omega
theorem padS_snoc (s:Bs) (j:Nat):s++0x80::List.replicate j 0++[0]=s++0x80::List.replicate (j+1) 0:=by
 rw [List.replicate_succ',List.append_assoc];rfl
theorem pd_start (w:World) (s:Bs) (hs:s.length≤maxLen):PdI w (w.drew.alloc (.cells (bytesRow ⟨s.toArray⟩ (grownCap w s.length 0 5)) 5 ((bytesRow ⟨s.toArray⟩ (grownCap w s.length 0 5)).size,(bytesRow ⟨s.toArray⟩ (grownCap w s.length 0 5)).size+1))) s s.length (some ⟨w.heap.size,0,none⟩) (grownCap w s.length 0 5):=by
 have hge:=grownCap_ge w s.length 0 5
 have hcm2:=grownCap_le_maxLen w s.length 0 5 hs
 have hsz:(bytesRow ⟨s.toArray⟩ (grownCap w s.length 0 5)).size=grownCap w s.length 0 5:=by
  unfold bytesRow
  rw [Array.size_append,Array.size_map,Array.size_replicate]
  show s.length+(_ - s.length)=_
  omega
 refine ⟨⟨w.heap.size,_,_,_,rfl,heap_alloc_new w.drew _,fun i hi=>by omega,hge,hcm2,hsz,?_⟩,((Kp.refl _ _).drew).alloc _,fun g hg=>by simp [ab] at hg;omega⟩
 unfold bytesRow
 rw [Array.toList_append,List.take_append_of_le_length (by simp)]
 simp only [Array.toList_map]
 rw [List.take_of_length_le (by simp)]
 rfl

set_option maxHeartbeats 4000000 in
set_option maxRecDepth 100000 in
theorem padded_any (s:Bs) (w:World) (hs:s.length≤140737488355000) :
  Calls Tryz.prog 154 #[.string ⟨s.toArray⟩] w fun e w'=>∃ a c,e=.returned (.slice a (padded s).length c)∧OwT w' a (padded s).length c (padded s)∧Kp [] w w':=by
 have hcv:∀ w',(convert 9 29 (.string ⟨s.toArray⟩)).run Tryz.prog w'=.ok (.slice (some ⟨w'.heap.size,0,none⟩) s.length (grownCap w' s.length 0 5))
   (w'.drew.alloc (.cells (bytesRow ⟨s.toArray⟩ (grownCap w' s.length 0 5)) 5 ((bytesRow ⟨s.toArray⟩ (grownCap w' s.length 0 5)).size,(bytesRow ⟨s.toArray⟩ (grownCap w' s.length 0 5)).size+1))):=
  fun w'=>run_bytes_of_string w' 9 29 5 ⟨s.toArray⟩ Tryz.underlying9 Tryz.underlying29 Tryz.underlying5
 have PD0:=Lib.hid (pd_start w s (by unfold maxLen;omega))
 have HCV:=Lib.hid hcv
 go_enter Tryz.func154,Tryz.ntmps154
 obtain ⟨X,hX⟩:∃ X,X=Obj.cells (bytesRow ⟨s.toArray⟩ (grownCap w s.length 0 5)) 5 ((bytesRow ⟨s.toArray⟩ (grownCap w s.length 0 5)).size,(bytesRow ⟨s.toArray⟩ (grownCap w s.length 0 5)).size+1):=⟨_,rfl⟩
 have hcw:=HCV.out w
 rw [← hX] at hcw
 have PD1:Hid (PdI w (w.drew.alloc X) s s.length (some ⟨w.heap.size,0,none⟩) (grownCap w s.length 0 5)):=Lib.hid (by have:=PD0.out;rwa [← hX] at this)
 obtain ⟨c0,hc0⟩:∃ c0,c0=grownCap w s.length 0 5:=⟨_,rfl⟩
 rw [← hc0] at hcw PD1
 clear hcv HCV PD0 hX hc0
 have hcell:((w.drew.alloc X).alloc (.cells #[.int .u8 128] 5)).cell? ⟨w.heap.size+1,0,none⟩=some (.int .u8 128):=by
  have h:=(Blk.new (w.drew.alloc X) 5 #[.int .u8 128]).cell 0
  rw [World.size_alloc] at h
  exact h
 have HCL:=Lib.hid hcell;clear hcell
 go_wp2_with (at_builtin;refine wpList_app_t (a:=some ⟨w.heap.size,0,none⟩) (n:=s.length) (c:=c0) (l:=s) rfl rfl rfl (PD1.out.own.kp ((Kp.refl [] (w.drew.alloc X)).alloc (.cells #[.int .u8 128] 5)) (by simp)) 0x80 (src_at (W':=(w.drew.alloc X).alloc (.cells #[.int .u8 128] 5)) rfl HCL.out) (by omega) ?_;intro a1 c1 w1 o1 k1 n1;have P2:=Lib.hid (PD1.out.push o1 k1 n1);clear o1 k1 n1)
 obtain ⟨J,hJ2⟩:∃ J,J=(119 - s.length % 64) % 64:=⟨_,rfl⟩
 have hJ3:J≤63∧((s.length % 64+1+J=56)∨(s.length % 64+1+J=120)):=by omega
 have HJ:=Lib.hid hJ2
 clear hJ2 hcw PD1
 go_loopw [3] (fun t wr=>∃ (j L:Nat) (a:Option Addr) (c:Nat),t=.slice a L c∧(L≤s.length+1+j∧s.length+1+j≤L)∧j≤J∧Hid (PdI w wr (s++0x80::List.replicate j 0) L a c)) (fun t _=>s.length+128 - slLen t)
 case atStart=>exact ⟨0,s.length+1,a1,c1,rfl,by omega,by omega,P2⟩
 case round=>
  clear P2
  obtain ⟨j,L,a3,c3,rfl,⟨hL1,hL2⟩,hj,TI⟩:=hrel
  have hmod:((L:Nat):Int).tmod 64=(L:Int) % 64:=Int.tmod_eq_emod_of_nonneg (by omega)
  by_cases hlt:j<J
  ·have hb:(((L:Nat):Int) % 64 != 56)=true:=by simp only [bne_iff_ne];omega
   go_wp2_with (at_builtin;refine wpList_app_t rfl rfl rfl (TI.out.own.kp ((Kp.refl [] wr).alloc (.cells #[.int .u8 0] 5)) (by simp)) 0 (src_one rfl _) (by omega) ?_;intro a4 c4 w4 o4 k4 n4;have T4:=Lib.hid (TI.out.push o4 k4 n4);clear o4 k4 n4)
   go_roundw
   case rel=>exact ⟨j+1,L+1,a4,c4,rfl,by omega,by omega,Lib.hid (by have:=T4.out;rwa [padS_snoc] at this)⟩
   case measure=>simp [slLen];omega
  ·have hb:(((L:Nat):Int) % 64 != 56)=false:=by simp only [bne_eq_false_iff_eq];omega
   obtain rfl:j=J:=by omega
   have e8:IntKind.u64.wrap (s.length:Int)=s.length:=by rw [wrap_u64];omega
   have e9:IntKind.u64.wrap ((s.length:Int)*8)=s.length*8:=by rw [wrap_u64];omega
   obtain ⟨wq,rfl⟩:∃ wq:World,wq=wr:=⟨_,rfl⟩
   go_wp2_with fail
   clear hb hmod e8 e9
   have TI0:Hid (PdI w wq (s++0x80::List.replicate j 0++(len8 s.length).take 0) L a3 c3):=Lib.hid (by rw [List.take_zero,List.append_nil];exact TI.out)
   go_loopw [3,5] (fun t i wr=>∃ (k M:Nat) (z:Int) (a:Option Addr) (c:Nat),t=.slice a M c∧i=.int .i64 z∧(M≤L+k∧L+k≤M)∧k≤8∧(z≤7 - k∧7 - (k:Int)≤z)∧Hid (PdI w wr (s++0x80::List.replicate j 0++(len8 s.length).take k) M a c)) (fun _ i _=>(intOf i+1).toNat)
   case atStart=>exact ⟨0,L,7,a3,c3,rfl,rfl,by omega,by omega,by omega,TI0⟩
   case round=>
    clear TI0 TI
    obtain ⟨k,M,z,a5,c5,rfl,rfl,⟨hM1,hM2⟩,hk,⟨hz2,hz3⟩,TI⟩:=hrel
    by_cases hlt8:k<8
    ·have h8:k=0∨k=1∨k=2∨k=3∨k=4∨k=5∨k=6∨k=7:=by omega
     have hn:s.length*8<18446744073709551616:=by omega
     rcases h8 with rfl | rfl | rfl | rfl | rfl | rfl | rfl | rfl
     case inl=>
      obtain rfl:z=7:=by omega
      have hmd:(((s.length:Int)*8) / (72057594037927936:Int)) % 256=_:=len_mod s.length (2 ^ 56) hn
      have HMD:=Lib.hid hmd
      clear hmd
      go_wp2_with (at_builtin;refine wpList_app_t rfl rfl rfl (TI.out.own.kp ((Kp.refl [] wr).alloc _) (by simp)) (UInt8.ofNat ((s.length*8) % 18446744073709551616 / 2 ^ 56)) (by rw [← HMD.out];first | exact src_one rfl _ | (refine cast ?_ (src_one (w:=wr) (v:=.int .u8 ((s.length:Int)*8 / (72057594037927936:Int))) rfl 5);congr 3;omega)) (by omega) ?_;intro a4 c4 w4 o4 k4 n4;have T4:=Lib.hid (TI.out.push o4 k4 n4);clear o4 k4 n4)
      go_roundw
      case rel=>exact ⟨1,M+1,6,a4,c4,rfl,rfl,by omega,by omega,by omega,Lib.hid (by
       have:=T4.out
       rwa [List.append_assoc,show (len8 s.length).take 0++[UInt8.ofNat ((s.length*8) % 18446744073709551616 / 2 ^ 56)]=(len8 s.length).take 1 from rfl] at this)⟩
      case measure=>simp [intOf]
     case inr.inl=>
      obtain rfl:z=6:=by omega
      have hmd:(((s.length:Int)*8) / (281474976710656:Int)) % 256=_:=len_mod s.length (2 ^ 48) hn
      have HMD:=Lib.hid hmd
      clear hmd
      go_wp2_with (at_builtin;refine wpList_app_t rfl rfl rfl (TI.out.own.kp ((Kp.refl [] wr).alloc _) (by simp)) (UInt8.ofNat ((s.length*8) % 18446744073709551616 / 2 ^ 48)) (by rw [← HMD.out];first | exact src_one rfl _ | (refine cast ?_ (src_one (w:=wr) (v:=.int .u8 ((s.length:Int)*8 / (281474976710656:Int))) rfl 5);congr 3;omega)) (by omega) ?_;intro a4 c4 w4 o4 k4 n4;have T4:=Lib.hid (TI.out.push o4 k4 n4);clear o4 k4 n4)
      go_roundw
      case rel=>exact ⟨2,M+1,5,a4,c4,rfl,rfl,by omega,by omega,by omega,Lib.hid (by
       have:=T4.out
       rwa [List.append_assoc,show (len8 s.length).take 1++[UInt8.ofNat ((s.length*8) % 18446744073709551616 / 2 ^ 48)]=(len8 s.length).take 2 from rfl] at this)⟩
      case measure=>simp [intOf]
     case inr.inr.inl=>
      obtain rfl:z=5:=by omega
      have hmd:(((s.length:Int)*8) / (1099511627776:Int)) % 256=_:=len_mod s.length (2 ^ 40) hn
      have HMD:=Lib.hid hmd
      clear hmd
      go_wp2_with (at_builtin;refine wpList_app_t rfl rfl rfl (TI.out.own.kp ((Kp.refl [] wr).alloc _) (by simp)) (UInt8.ofNat ((s.length*8) % 18446744073709551616 / 2 ^ 40)) (by rw [← HMD.out];first | exact src_one rfl _ | (refine cast ?_ (src_one (w:=wr) (v:=.int .u8 ((s.length:Int)*8 / (1099511627776:Int))) rfl 5);congr 3;omega)) (by omega) ?_;intro a4 c4 w4 o4 k4 n4;have T4:=Lib.hid (TI.out.push o4 k4 n4);clear o4 k4 n4)
      go_roundw
      case rel=>exact ⟨3,M+1,4,a4,c4,rfl,rfl,by omega,by omega,by omega,Lib.hid (by
       have:=T4.out
       rwa [List.append_assoc,show (len8 s.length).take 2++[UInt8.ofNat ((s.length*8) % 18446744073709551616 / 2 ^ 40)]=(len8 s.length).take 3 from rfl] at this)⟩
      case measure=>simp [intOf]
     case inr.inr.inr.inl=>
      obtain rfl:z=4:=by omega
      have hmd:(((s.length:Int)*8) / (4294967296:Int)) % 256=_:=len_mod s.length (2 ^ 32) hn
      have HMD:=Lib.hid hmd
      clear hmd
      go_wp2_with (at_builtin;refine wpList_app_t rfl rfl rfl (TI.out.own.kp ((Kp.refl [] wr).alloc _) (by simp)) (UInt8.ofNat ((s.length*8) % 18446744073709551616 / 2 ^ 32)) (by rw [← HMD.out];first | exact src_one rfl _ | (refine cast ?_ (src_one (w:=wr) (v:=.int .u8 ((s.length:Int)*8 / (4294967296:Int))) rfl 5);congr 3;omega)) (by omega) ?_;intro a4 c4 w4 o4 k4 n4;have T4:=Lib.hid (TI.out.push o4 k4 n4);clear o4 k4 n4)
      go_roundw
      case rel=>exact ⟨4,M+1,3,a4,c4,rfl,rfl,by omega,by omega,by omega,Lib.hid (by
       have:=T4.out
       rwa [List.append_assoc,show (len8 s.length).take 3++[UInt8.ofNat ((s.length*8) % 18446744073709551616 / 2 ^ 32)]=(len8 s.length).take 4 from rfl] at this)⟩
      case measure=>simp [intOf]
     case inr.inr.inr.inr.inl=>
      obtain rfl:z=3:=by omega
      have hmd:(((s.length:Int)*8) / (16777216:Int)) % 256=_:=len_mod s.length (2 ^ 24) hn
      have HMD:=Lib.hid hmd
      clear hmd
      go_wp2_with (at_builtin;refine wpList_app_t rfl rfl rfl (TI.out.own.kp ((Kp.refl [] wr).alloc _) (by simp)) (UInt8.ofNat ((s.length*8) % 18446744073709551616 / 2 ^ 24)) (by rw [← HMD.out];first | exact src_one rfl _ | (refine cast ?_ (src_one (w:=wr) (v:=.int .u8 ((s.length:Int)*8 / (16777216:Int))) rfl 5);congr 3;omega)) (by omega) ?_;intro a4 c4 w4 o4 k4 n4;have T4:=Lib.hid (TI.out.push o4 k4 n4);clear o4 k4 n4)
      go_roundw
      case rel=>exact ⟨5,M+1,2,a4,c4,rfl,rfl,by omega,by omega,by omega,Lib.hid (by
       have:=T4.out
       rwa [List.append_assoc,show (len8 s.length).take 4++[UInt8.ofNat ((s.length*8) % 18446744073709551616 / 2 ^ 24)]=(len8 s.length).take 5 from rfl] at this)⟩
      case measure=>simp [intOf]
     case inr.inr.inr.inr.inr.inl=>
      obtain rfl:z=2:=by omega
      have hmd:(((s.length:Int)*8) / (65536:Int)) % 256=_:=len_mod s.length (2 ^ 16) hn
      have HMD:=Lib.hid hmd
      clear hmd
      go_wp2_with (at_builtin;refine wpList_app_t rfl rfl rfl (TI.out.own.kp ((Kp.refl [] wr).alloc _) (by simp)) (UInt8.ofNat ((s.length*8) % 18446744073709551616 / 2 ^ 16)) (by rw [← HMD.out];first | exact src_one rfl _ | (refine cast ?_ (src_one (w:=wr) (v:=.int .u8 ((s.length:Int)*8 / (65536:Int))) rfl 5);congr 3;omega)) (by omega) ?_;intro a4 c4 w4 o4 k4 n4;have T4:=Lib.hid (TI.out.push o4 k4 n4);clear o4 k4 n4)
      go_roundw
      case rel=>exact ⟨6,M+1,1,a4,c4,rfl,rfl,by omega,by omega,by omega,Lib.hid (by
       have:=T4.out
       rwa [List.append_assoc,show (len8 s.length).take 5++[UInt8.ofNat ((s.length*8) % 18446744073709551616 / 2 ^ 16)]=(len8 s.length).take 6 from rfl] at this)⟩
      case measure=>simp [intOf]
     case inr.inr.inr.inr.inr.inr.inl=>
      obtain rfl:z=1:=by omega
      have hmd:(((s.length:Int)*8) / (256:Int)) % 256=_:=len_mod s.length (2 ^ 8) hn
      have HMD:=Lib.hid hmd
      clear hmd
      go_wp2_with (at_builtin;refine wpList_app_t rfl rfl rfl (TI.out.own.kp ((Kp.refl [] wr).alloc _) (by simp)) (UInt8.ofNat ((s.length*8) % 18446744073709551616 / 2 ^ 8)) (by rw [← HMD.out];first | exact src_one rfl _ | (refine cast ?_ (src_one (w:=wr) (v:=.int .u8 ((s.length:Int)*8 / (256:Int))) rfl 5);congr 3;omega)) (by omega) ?_;intro a4 c4 w4 o4 k4 n4;have T4:=Lib.hid (TI.out.push o4 k4 n4);clear o4 k4 n4)
      go_roundw
      case rel=>exact ⟨7,M+1,0,a4,c4,rfl,rfl,by omega,by omega,by omega,Lib.hid (by
       have:=T4.out
       rwa [List.append_assoc,show (len8 s.length).take 6++[UInt8.ofNat ((s.length*8) % 18446744073709551616 / 2 ^ 8)]=(len8 s.length).take 7 from rfl] at this)⟩
      case measure=>simp [intOf]
     case inr.inr.inr.inr.inr.inr.inr=>
      obtain rfl:z=0:=by omega
      have hmd:((s.length:Int)*8) % (256:Int)=((UInt8.ofNat ((s.length*8) % 18446744073709551616 / 2 ^ 0)).toNat:Int):=by
       have h:=len_mod s.length (2 ^ 0) hn
       rw [show ((2 ^ 0:Nat):Int)=1 from rfl,Int.ediv_one] at h
       exact h
      have HMD:=Lib.hid hmd
      clear hmd
      go_wp2_with (at_builtin;refine wpList_app_t rfl rfl rfl (TI.out.own.kp ((Kp.refl [] wr).alloc _) (by simp)) (UInt8.ofNat ((s.length*8) % 18446744073709551616 / 2 ^ 0)) (by rw [← HMD.out];first | exact src_one rfl _ | (refine cast ?_ (src_one (w:=wr) (v:=.int .u8 ((s.length:Int)*8 / (1:Int))) rfl 5);congr 3;omega)) (by omega) ?_;intro a4 c4 w4 o4 k4 n4;have T4:=Lib.hid (TI.out.push o4 k4 n4);clear o4 k4 n4)
      go_roundw
      case rel=>exact ⟨8,M+1,-1,a4,c4,rfl,rfl,by omega,by omega,by omega,Lib.hid (by
       have:=T4.out
       rwa [List.append_assoc,show (len8 s.length).take 7++[UInt8.ofNat ((s.length*8) % 18446744073709551616 / 2 ^ 0)]=(len8 s.length).take 8 from rfl] at this)⟩
      case measure=>simp [intOf]
    ·obtain rfl:k=8:=by omega
     obtain rfl:z = -1:=by omega
     have HT:Hid (s++0x80::List.replicate j 0++(len8 s.length).take 8=padded s):=Lib.hid (by
      unfold padded padZ;rw [← HJ.out];rfl)
     have TB:Hid (PdI w wr (padded s) M a5 c5):=Lib.hid (by have:=TI.out;rwa [HT.out] at this)
     go_wp2_with fail
     go_ret
     have hl:=TB.out.own.len
     exact ⟨a5,c5,by rw [hl];rfl,by rw [hl];exact TB.out.own,TB.out.kp⟩

set_option maxHeartbeats 1000000
set_option maxRecDepth 100000

set_option maxRecDepth 100000 in
@[go_sem ↓] theorem exec_bs_h (a:Act) (dst:Option Tmp) (ty:TypeId) (pos:String) (after:Array Edge) (guard:Option (Nat×Bool)) (w:World) :
  (execOp a.eval { dst,op:=.buildSlice 185 8 #[(0,.const (.int .u32 1779033703)),(1,.const (.int .u32 3144134277)),(2,.const (.int .u32 1013904242)),(3,.const (.int .u32 2773480762)),(4,.const (.int .u32 1359893119)),(5,.const (.int .u32 2600822924)),(6,.const (.int .u32 528734635)),(7,.const (.int .u32 1541459225))],type:=ty,pos,after,guard }).run Tryz.prog w=.ok (.value (.slice (some ⟨w.heap.size,0,none⟩) 8 8)) (w.alloc (.cells (wC shaH.l).toArray 126)):=by kernel_rfl
set_option maxRecDepth 100000 in
@[go_sem ↓] theorem exec_bs_k (a:Act) (dst:Option Tmp) (ty:TypeId) (pos:String) (after:Array Edge) (guard:Option (Nat×Bool)) (w:World) :
  (execOp a.eval { dst,op:=.buildSlice 185 64 #[(0,.const (.int .u32 1116352408)),(1,.const (.int .u32 1899447441)),(2,.const (.int .u32 3049323471)),(3,.const (.int .u32 3921009573)),(4,.const (.int .u32 961987163)),(5,.const (.int .u32 1508970993)),(6,.const (.int .u32 2453635748)),(7,.const (.int .u32 2870763221)),(8,.const (.int .u32 3624381080)),(9,.const (.int .u32 310598401)),(10,.const (.int .u32 607225278)),(11,.const (.int .u32 1426881987)),(12,.const (.int .u32 1925078388)),(13,.const (.int .u32 2162078206)),(14,.const (.int .u32 2614888103)),(15,.const (.int .u32 3248222580)),(16,.const (.int .u32 3835390401)),(17,.const (.int .u32 4022224774)),(18,.const (.int .u32 264347078)),(19,.const (.int .u32 604807628)),(20,.const (.int .u32 770255983)),(21,.const (.int .u32 1249150122)),(22,.const (.int .u32 1555081692)),(23,.const (.int .u32 1996064986)),(24,.const (.int .u32 2554220882)),(25,.const (.int .u32 2821834349)),(26,.const (.int .u32 2952996808)),(27,.const (.int .u32 3210313671)),(28,.const (.int .u32 3336571891)),(29,.const (.int .u32 3584528711)),(30,.const (.int .u32 113926993)),(31,.const (.int .u32 338241895)),(32,.const (.int .u32 666307205)),(33,.const (.int .u32 773529912)),(34,.const (.int .u32 1294757372)),(35,.const (.int .u32 1396182291)),(36,.const (.int .u32 1695183700)),(37,.const (.int .u32 1986661051)),(38,.const (.int .u32 2177026350)),(39,.const (.int .u32 2456956037)),(40,.const (.int .u32 2730485921)),(41,.const (.int .u32 2820302411)),(42,.const (.int .u32 3259730800)),(43,.const (.int .u32 3345764771)),(44,.const (.int .u32 3516065817)),(45,.const (.int .u32 3600352804)),(46,.const (.int .u32 4094571909)),(47,.const (.int .u32 275423344)),(48,.const (.int .u32 430227734)),(49,.const (.int .u32 506948616)),(50,.const (.int .u32 659060556)),(51,.const (.int .u32 883997877)),(52,.const (.int .u32 958139571)),(53,.const (.int .u32 1322822218)),(54,.const (.int .u32 1537002063)),(55,.const (.int .u32 1747873779)),(56,.const (.int .u32 1955562222)),(57,.const (.int .u32 2024104815)),(58,.const (.int .u32 2227730452)),(59,.const (.int .u32 2361852424)),(60,.const (.int .u32 2428436474)),(61,.const (.int .u32 2756734187)),(62,.const (.int .u32 3204031479)),(63,.const (.int .u32 3329325298))],type:=ty,pos,after,guard }).run Tryz.prog w=.ok (.value (.slice (some ⟨w.heap.size,0,none⟩) 64 64)) (w.alloc (.cells (wC shaK).toArray 126)):=by kernel_rfl

set_option maxHeartbeats 4000000 in
set_option maxRecDepth 100000 in
theorem table_any (w:World):Calls Tryz.prog 132 #[] w fun e w'=>∃ h k,e=.returned (.agg #[.slice (some ⟨h,0,none⟩) 8 8,.slice (some ⟨k,0,none⟩) 64 64])∧WsAt w' (some ⟨h,0,none⟩) shaH.l∧WsAt w' (some ⟨k,0,none⟩) shaK∧h<w'.heap.size∧k<w'.heap.size∧Kp [] w w':=by
 go_enter Tryz.func132,Tryz.ntmps132
 go_wp2_with fail
 refine row_ret w.heap.size (t:=187) (cs:=#[.slice (some ⟨w.heap.size+1,0,none⟩) 8 8,.slice (some ⟨w.heap.size+1+1,0,none⟩) 64 64]) rfl Tryz.underlying187 rfl (by kernel_rfl) rfl ?_ rfl ?_
 ·have h:=((Blk.new w 187 #[.slice (some ⟨w.heap.size+1,0,none⟩) 8 8,.slice (some ⟨w.heap.size+1+1,0,none⟩) 64 64]).alloc (.cells (wC shaH.l).toArray 126)).alloc (.cells (wC shaK).toArray 126)
  exact h
 ·refine ⟨w.heap.size+1,w.heap.size+1+1,rfl,?_,?_,by simp,by simp,(((Kp.refl _ _).alloc _).alloc _).alloc _⟩
  ·have h:=(Blk.new (w.alloc (.cells #[.slice (some ⟨w.heap.size+1,0,none⟩) 8 8,.slice (some ⟨w.heap.size+1+1,0,none⟩) 64 64] 187)) 126 (wC shaH.l).toArray).alloc (.cells (wC shaK).toArray 126)
   rw [World.size_alloc] at h
   exact ws_blk h
  ·have h:=Blk.new ((w.alloc (.cells #[.slice (some ⟨w.heap.size+1,0,none⟩) 8 8,.slice (some ⟨w.heap.size+1+1,0,none⟩) 64 64] 187)).alloc (.cells (wC shaH.l).toArray 126)) 126 (wC shaK).toArray
   rw [World.size_alloc,World.size_alloc] at h
   exact ws_blk h

theorem padded_q (s:Bs):∃ q,(padded s).length=64*q∧64*q≤s.length+72:=by
 unfold padded
 rw [List.length_append,List.length_append,padZ_len,len8_len]
 exact ⟨(s.length+(1+(119 - s.length % 64) % 64)+8) / 64,by omega,by omega⟩
theorem OwT.at {w:World} {a:Option Addr} {n c:Nat} {l:Bs} (h:OwT w a n c l):∃ g,a=some ⟨g,0,none⟩∧n≤c∧g<w.heap.size:=by
 obtain ⟨g,cur,lo,hi,rfl,h2,h3,h4,h5⟩:=h
 exact ⟨g,rfl,h4,lt_of_block h2⟩
theorem by_piece {w:World} {g q:Nat} {l:Bs} (h:ByAt w (some ⟨g,0,none⟩) l):ByAt w (some ⟨g,64*q,none⟩) ((l.drop (64*q)).take 64):=by
 intro i x hx
 rw [List.getElem?_take] at hx
 split at hx
 ·rw [List.getElem?_drop] at hx
  obtain ⟨b,o,e,hb,h1⟩:=h _ x hx
  cases e
  exact ⟨g,64*q,rfl,hb,by simpa using h1⟩
 ·cases hx

set_option maxHeartbeats 4000000 in
set_option maxRecDepth 100000 in
theorem by_any (h k:Nat) (s:Bs) (w:World) (hh:WsAt w (some ⟨h,0,none⟩) shaH.l) (hk:WsAt w (some ⟨k,0,none⟩) shaK) (lh:h<w.heap.size) (lk:k<w.heap.size) (hs:s.length≤140737488355000) :
  Calls Tryz.prog 131 #[.agg #[.slice (some ⟨h,0,none⟩) 8 8,.slice (some ⟨k,0,none⟩) 64 64],.string ⟨s.toArray⟩] w (Rets (.agg (sha s).c) w):=by
 obtain ⟨W0,hW0⟩:∃ W0,W0=(w.alloc (.cells #[.slice (some ⟨h,0,none⟩) 8 8,.slice (some ⟨k,0,none⟩) 64 64] 187)).alloc (.cells Dg.zero.c 36):=⟨_,rfl⟩
 have kw:Kp [] w W0:=by rw [hW0];exact ((Kp.refl [] w).alloc _).alloc _
 have b2:Blk W0 w.heap.size 187 #[.slice (some ⟨h,0,none⟩) 8 8,.slice (some ⟨k,0,none⟩) 64 64]:=by rw [hW0];exact (Blk.new w _ _).alloc _
 have b4:Blk W0 (w.heap.size+1) 36 Dg.zero.c:=by
  rw [hW0]
  have h:=Blk.new (w.alloc (.cells #[.slice (some ⟨h,0,none⟩) 8 8,.slice (some ⟨k,0,none⟩) 64 64] 187)) 36 Dg.zero.c
  simpa using h
 have KW:=Lib.hid kw;have B2:=Lib.hid b2;have B4:=Lib.hid b4;have HW0:=Lib.hid hW0
 have HH:=Lib.hid (hh.kp kw (by simp));have HK:=Lib.hid (hk.kp kw (by simp))
 have hz:=b4.lt
 clear kw b2 b4 hW0 hh hk
 go_enter Tryz.func131,Tryz.ntmps131
 go_wp2_with fail
 rw [← HW0.out]
 refine (padded_any s _ hs).mono ?_
 rintro e w1 ⟨a,c,rfl,o1,k1⟩
 obtain ⟨g,rfl,hLc,hg⟩:=o1.at
 obtain ⟨Q,hQ,hQb⟩:=padded_q s
 have HQ:=Lib.hid hQ
 have BY:=Lib.hid o1.by
 have K1:=Lib.hid k1
 have c0:w1.cell? ⟨w.heap.size,0,none⟩=some (.slice (some ⟨h,0,none⟩) 8 8):=(B2.out.kp k1 (by simp)).cell 0
 have c1:=(B2.out.kp k1 (by simp)).lt
 rw [hQ]
 rw [hQ] at hLc
 clear o1 k1 hQ
 go_wp2_with fail
 clear c0 c1
 go_loopw [6,7] (fun t i wr=>∃ (q gh ch:Nat),t=.slice (some ⟨gh,0,none⟩) 8 ch∧i=.int .i64 (64*(q:Int))∧q≤Q∧gh<wr.heap.size∧Hid (Kp [] w1 wr)∧Hid (WsAt wr (some ⟨gh,0,none⟩) (takeAll q shaH (padded s)).l)) (fun _ i _=>(64*(Q:Int) - intOf i).toNat)
 case atStart=>exact ⟨0,h,8,rfl,rfl,by omega,by have:=K1.out.size;omega,Kp.refl _ _,HH.out.kp K1.out (by simp)⟩
 case round=>
  obtain ⟨q,gh,ch,rfl,rfl,hq,zh,KR,AH⟩:=hrel
  by_cases hlt:q<Q
  ·have c0:wr.cell? ⟨w.heap.size,1,none⟩=some (.slice (some ⟨k,0,none⟩) 64 64):=KR.out.cell (K1.out.cell (B2.out.cell 1) (by simp)) (by simp)
   have c1:w.heap.size<wr.heap.size:=by have:=KR.out.size;have:=K1.out.size;omega
   have i1:IntKind.i64.wrap (64*(q:Int)+64)=64*q+64:=IntWalk.i64_in _ (by omega)
   have j1:(0:Int)≤64*(q:Int):=by omega
   have j2:64*(q:Int)≤64*(q:Int)+64:=by omega
   have j3:64*(q:Int)+64≤(c:Int):=by omega
   have t1:(64*(q:Int)).toNat=64*q:=by omega
   have t2:(64*(q:Int)+64).toNat=64*q+64:=by omega
   have hnc:¬ c=64*q:=by omega
   go_wp2_with fail
   go_still_tail 8,(by kernel_rfl)
   change wpList _ _ _ _ _ wr.drew
   have hpl:(((padded s).drop (64*q)).take 64).length=64:=by rw [List.length_take,List.length_drop,HQ.out];omega
   go_wp2_with fail
   refine (rblock_any gh 0 k 0 g (64*q) ch 64 (c - 64*q) (takeAll q shaH (padded s)) _ wr.drew (AH.out.kp ((Kp.refl [] _).drew) (by simp)) (HK.out.kp ((K1.out.trans KR.out).trans ((Kp.refl [] _).drew)) (by simp)) (by_piece (BY.out.kp (KR.out.trans ((Kp.refl [] _).drew)) (by simp))) hpl zh (by show k<wr.heap.size;have:=KR.out.size;have:=K1.out.size;omega) (by show g<wr.heap.size;have:=KR.out.size;omega)).mono ?_
   rintro e w4 ⟨gr,cr,rfl,hr,k4,lr⟩
   have AR:Hid (WsAt w4 (some ⟨gr,0,none⟩) (takeAll (q+1) shaH (padded s)).l):=Lib.hid (by rw [takeAll_succ];exact hr)
   have K4:Hid (Kp [] w1 w4):=Lib.hid ((KR.out.drew).trans k4)
   clear hr k4 hpl i1 j1 j2 j3 t1 t2 hnc c0 c1
   have i2:IntKind.i64.wrap (64*(q:Int)+64)=64*q+64:=IntWalk.i64_in _ (by omega)
   go_wp2_with fail
   go_roundw
   case rel=>exact ⟨q+1,gr,cr,rfl,by congr 1,by omega,lr,K4,AR⟩
   case measure=>simp [intOf];omega
  ·obtain rfl:q=Q:=by omega
   obtain ⟨vv,hvv⟩:∃ vv,takeAll q shaH (padded s)=vv:=⟨_,rfl⟩
   have HVV:Hid (shaL s=vv.bytes):=Lib.hid (by
    unfold shaL
    rw [HQ.out,show 64*q / 64=q by omega,hvv])
   have AV:Hid (WsAt wr (some ⟨gh,0,none⟩) vv.l):=Lib.hid (by have:=AH.out;rwa [hvv] at this)
   have KWR:=Lib.hid (K1.out.trans KR.out)
   obtain ⟨wy,rfl⟩:∃ wy:World,wy=wr:=⟨_,rfl⟩
   clear hvv AH hq hlt
   have B8:Hid (Blk (wy.alloc (.cells Dg.zero.c 36)) wy.heap.size 36 (bC (fillB (vv.bytes.take 0))).toArray):=Lib.hid (Blk.new wy _ _)
   go_wp2_with fail
   go_loopw [9] (fun t wr=>∃ i:Nat,t=.int .i64 i∧i≤32∧Hid (Kp [wy.heap.size] (wy.alloc (.cells Dg.zero.c 36)) wr)∧Hid (Blk wr wy.heap.size 36 (bC (fillB (vv.bytes.take i))).toArray)) (fun t _=>32 - (intOf t).toNat)
   case atStart=>exact ⟨0,rfl,by omega,Kp.refl _ _,B8⟩
   case round=>
    clear B8
    obtain ⟨i,rfl,hi,KO,BO⟩:=hrel
    by_cases hlt:i<32
    ·obtain ⟨k',hk1,hk2⟩:∃ k':Nat,4*k'≤i∧i<4*k'+4:=⟨i / 4,by omega,by omega⟩
     have hv8:vv.l.length=8:=rfl
     obtain ⟨x,hx⟩:∃ x,vv.l[k']?=some x:=⟨_,List.getElem?_eq_getElem (by omega)⟩
     have HBY:=Lib.hid (bytes_get vv k' x hx)
     have KO0:Hid (Kp [] wy wr):=Lib.hid (((Kp.refl [] wy).alloc (.cells Dg.zero.c 36)).from KO.out (by simp))
     have cx:wr.cell? ⟨gh,k',none⟩=some (.int .u32 (W x)):=by have:=KO0.out.cell (AV.out.get hx) (by simp);simpa using this
     have cz:gh<wr.heap.size:=by have:=KO0.out.size;omega
     have hq1:(i:Int) / 4=k':=by omega
     have hq2:(i:Int).tdiv 4=k':=by rw [Int.tdiv_eq_ediv_of_nonneg (by omega)];exact hq1
     have jk:(0:Int)≤(k':Int)∧(k':Int)<8:=by omega
     obtain ⟨u,c1⟩:∃ u,wr.cell? ⟨wy.heap.size,i,none⟩=some u:=by
      rw [BO.out.cell,bC_get]
      have:=fillB_len (l:=vv.bytes.take i) (by rw [List.length_take];omega)
      rw [List.getElem?_eq_getElem (by omega)];exact ⟨_,rfl⟩
     have f1:wr.frozen? ⟨wy.heap.size,i,none⟩=false:=BO.out.frozen _
     have g1:=BO.out.lt
     have ji:(0:Int)≤(i:Int)∧(i:Int)<32:=by omega
     clear hx hv8
     obtain h4:i=4*k'∨i=4*k'+1∨i=4*k'+2∨i=4*k'+3:=by omega
     have H4:=Lib.hid h4
     clear h4
     rcases H4.out with h4 | h4 | h4 | h4
     case inl=>
      have hw:(W x / (16777216:Int)) % (256:Int)=(((x >>> 24).toUInt8).toNat:Int):=by have:=W_b24 x;rwa [IntKind.wrap_u8'] at this
      have HW:=Lib.hid hw
      have hi1:i≤4*k'+0:=by omega
      have hi2:4*k'+0≤i:=by omega
      clear h4
      have hr1:(i:Int) % 4=0:=by omega
      have hr2:(i:Int).tmod 4=0:=by rw [Int.tmod_eq_emod_of_nonneg (by omega)];exact hr1
      have hbi:vv.bytes[i]?=some ((x >>> 24).toUInt8):=by have:=HBY.out.1;rwa [show 4*k'=i by omega] at this
      have HBI:=Lib.hid hbi
      clear hbi
      go_wp2_with fail
      go_roundw
      case rel=>exact ⟨i+1,by go_num,by omega,Lib.hid (KO.out.setCell _ (.inr (by simp))),Lib.hid (by
       have h:=BO.out.set i (.int .u8 (((x >>> 24).toUInt8).toNat:Int))
       rw [bC_set,fillB_set (by omega) (by rw [List.length_take,bytes_len];omega) HBI.out] at h
       first | exact h | (rw [HW.out];exact h))⟩
      case measure=>simp [intOf];omega
     case inr.inl=>
      have hw:(W x / (65536:Int)) % (256:Int)=(((x >>> 16).toUInt8).toNat:Int):=by have:=W_b16 x;rwa [IntKind.wrap_u8'] at this
      have HW:=Lib.hid hw
      have hi1:i≤4*k'+1:=by omega
      have hi2:4*k'+1≤i:=by omega
      clear h4
      have hr1:(i:Int) % 4=1:=by omega
      have hr2:(i:Int).tmod 4=1:=by rw [Int.tmod_eq_emod_of_nonneg (by omega)];exact hr1
      have hbi:vv.bytes[i]?=some ((x >>> 16).toUInt8):=by have:=HBY.out.2.1;rwa [show 4*k'+1=i by omega] at this
      have HBI:=Lib.hid hbi
      clear hbi
      go_wp2_with fail
      go_roundw
      case rel=>exact ⟨i+1,by go_num,by omega,Lib.hid (KO.out.setCell _ (.inr (by simp))),Lib.hid (by
       have h:=BO.out.set i (.int .u8 (((x >>> 16).toUInt8).toNat:Int))
       rw [bC_set,fillB_set (by omega) (by rw [List.length_take,bytes_len];omega) HBI.out] at h
       first | exact h | (rw [HW.out];exact h))⟩
      case measure=>simp [intOf];omega
     case inr.inr.inl=>
      have hw:(W x / (256:Int)) % (256:Int)=(((x >>> 8).toUInt8).toNat:Int):=by have:=W_b8 x;rwa [IntKind.wrap_u8'] at this
      have HW:=Lib.hid hw
      have hi1:i≤4*k'+2:=by omega
      have hi2:4*k'+2≤i:=by omega
      clear h4
      have hr1:(i:Int) % 4=2:=by omega
      have hr2:(i:Int).tmod 4=2:=by rw [Int.tmod_eq_emod_of_nonneg (by omega)];exact hr1
      have hbi:vv.bytes[i]?=some ((x >>> 8).toUInt8):=by have:=HBY.out.2.2.1;rwa [show 4*k'+2=i by omega] at this
      have HBI:=Lib.hid hbi
      clear hbi
      go_wp2_with fail
      go_roundw
      case rel=>exact ⟨i+1,by go_num,by omega,Lib.hid (KO.out.setCell _ (.inr (by simp))),Lib.hid (by
       have h:=BO.out.set i (.int .u8 (((x >>> 8).toUInt8).toNat:Int))
       rw [bC_set,fillB_set (by omega) (by rw [List.length_take,bytes_len];omega) HBI.out] at h
       first | exact h | (rw [HW.out];exact h))⟩
      case measure=>simp [intOf];omega
     case inr.inr.inr=>
      have hw:(W x) % (256:Int)=((x.toUInt8).toNat:Int):=by have:=W_b0 x;rwa [IntKind.wrap_u8'] at this
      have HW:=Lib.hid hw
      have hi1:i≤4*k'+3:=by omega
      have hi2:4*k'+3≤i:=by omega
      clear h4
      have hr1:(i:Int) % 4=3:=by omega
      have hr2:(i:Int).tmod 4=3:=by rw [Int.tmod_eq_emod_of_nonneg (by omega)];exact hr1
      have hbi:vv.bytes[i]?=some (x.toUInt8):=by have:=HBY.out.2.2.2;rwa [show 4*k'+3=i by omega] at this
      have HBI:=Lib.hid hbi
      clear hbi
      go_wp2_with fail
      go_roundw
      case rel=>exact ⟨i+1,by go_num,by omega,Lib.hid (KO.out.setCell _ (.inr (by simp))),Lib.hid (by
       have h:=BO.out.set i (.int .u8 ((x.toUInt8).toNat:Int))
       rw [bC_set,fillB_set (by omega) (by rw [List.length_take,bytes_len];omega) HBI.out] at h
       first | exact h | (rw [HW.out];exact h))⟩
      case measure=>simp [intOf];omega
    ·obtain rfl:i=32:=by omega
     have e8:fillB (vv.bytes.take 32)=shaL s:=by
      rw [HVV.out,List.take_of_length_le (by rw [bytes_len];omega)]
      unfold fillB
      rw [bytes_len];simp
     have BE:Hid (Blk wr wy.heap.size 36 (sha s).c):=Lib.hid (by have:=BO.out;rwa [e8] at this)
     have r3:rowAt? wr ⟨wy.heap.size,0,none⟩ 32=some (sha s).c:=by have h:=rowAt?_blk BE.out;rwa [Dg.c_size] at h
     have KO0:Kp [] wy wr:=((Kp.refl [] wy).alloc (.cells Dg.zero.c 36)).from KO.out (by simp)
     have D4:=B4.out.kp (KWR.out.trans KO0) (by simp)
     have r2:=own?_blk D4
     have l2:=D4.lt
     have l3:=BE.out.lt
     have HD4:=Lib.hid D4
     have HKF:=Lib.hid ((KW.out.trans KWR.out).trans KO0)
     clear D4 e8 KO0
     go_wp2_with fail
     refine row_ret (w.heap.size+1) (t:=36) (cs:=(sha s).c) rfl Tryz.underlying36 rfl (by rw [Dg.c_size];kernel_rfl) rfl (HD4.out.setRow _) rfl ?_
     exact ⟨rfl,Kp.to_ext (HKF.out.setRow _ _ (.inl (by omega)))⟩

theorem rsum_any (s:Bs) (w:World) (hs:s.length≤140737488355000):Calls Tryz.prog 96 #[.string ⟨s.toArray⟩] w (Rets (.agg (sha s).c) w):=by
 go_enter Tryz.func96,Tryz.ntmps96
 go_wp2_with fail
 refine (table_any _).mono ?_
 rintro e w1 ⟨h,k,rfl,hh,hk,lh,lk,k1⟩
 have HH:=Lib.hid hh;have HK:=Lib.hid hk;have K1:=Lib.hid k1
 have B2:=Lib.hid ((Blk.new w 36 Dg.zero.c).kp k1 (by simp))
 clear hh hk k1
 go_wp2_with fail
 refine (by_any h k s _ HH.out HK.out lh lk hs).mono ?_
 rintro e w2 ⟨rfl,bs,n,rfl⟩
 have r2:=own?_blk B2.out
 have l2:=B2.out.lt
 go_wp2_with fail
 refine row_ret w.heap.size (t:=36) (cs:=(sha s).c) rfl Tryz.underlying36 rfl (by rw [Dg.c_size];kernel_rfl) rfl ((B2.out.setRow _).kp ((Kp.refl [] _).ext _ _) (by simp)) rfl ?_
 exact ⟨rfl,Kp.to_ext (((((Kp.refl [] w).alloc _).trans K1.out).setRow _ _ (.inl (Nat.le_refl _))).ext _ _)⟩


def be4L (n:Nat):Bs:=[UInt8.ofNat (n / 16777216),UInt8.ofNat (n / 65536),UInt8.ofNat (n / 256),UInt8.ofNat n]
def textT (tag:Bs) (parts:List Bs):Bs:=UInt8.ofNat tag.length::tag++parts.flatMap fun p=>be4L p.length++p
theorem textT_snoc (tag:Bs) (l:List Bs) (p:Bs):textT tag (l++[p])=textT tag l++be4L p.length++p:=by
 unfold textT;simp [List.append_assoc]
theorem textT_take_le (tag:Bs) (l:List Bs) (k:Nat):(textT tag (l.take k)).length≤(textT tag l).length:=by
 conv=>rhs;rw [← List.take_append_drop k l]
 unfold textT
 simp only [List.flatMap_append,List.length_append,List.length_cons]
 omega
theorem u8_at {x:Int} {n:Nat} (h:x=((n % 256:Nat):Int)):x=((UInt8.ofNat n).toNat:Int):=by rw [h,UInt8.toNat_ofNat']
theorem be4_cells {a b c d:Int} {n:Nat} (h1:a=((n / 16777216 % 256:Nat):Int)) (h2:b=((n / 65536 % 256:Nat):Int)) (h3:c=((n / 256 % 256:Nat):Int)) (h4:d=((n % 256:Nat):Int)) :
  [Value.int .u8 a,.int .u8 b,.int .u8 c,.int .u8 d]=bC (be4L n):=by
 rw [u8_at h1,u8_at h2,u8_at h3,u8_at h4];rfl
theorem src_cells {w:World} {cs:Array Value} {l:List Value} {n:Nat} (h:cs.toList=l) (hn:l.length=n) (h1:∀ v∈l,v.oneCell'=true) (t:TypeId):Src Tryz.prog 1 29 (.slice (some ⟨w.heap.size,0,none⟩) n n) n l (w.alloc (.cells cs t)):=
 Src.ofSlice _ Tryz.underlying29 _ _ _ _ (by omega) (by
  subst h
  intro j u hj
  have hb:Blk (w.alloc (.cells cs t)) w.heap.size t cs:=Blk.new w t cs
  have:=hb.cell j
  simpa [Addr.add_lit] using this.trans (by simpa using hj)) h1
theorem TlI.app {V wr wa w2:World} {t:Bs} {L m:Nat} {a a2:Option Addr} {c c2:Nat} {u:Bs} (h:TlI V wr t L a c) (k:Kp [] wr wa) (o2:Own w2 5 1 a2 (L+m) c2 (bC t++bC u)) (k2:Kp (ab a) wa w2) (n2:∀ g∈ab a2,g∈ab a∨wa.heap.size≤g) :
  TlI V w2 (t++u) (L+m) a2 c2:=by
 have hz:=h.kp.size
 have hz2:=k.size
 refine ⟨by rw [bC_app];exact o2,(h.kp.trans k).from k2 (fun g hg=>.inl (h.lo g hg)),fun g hg=>?_⟩
 rcases n2 g hg with h1 | h1
 ·exact h.lo g h1
 ·omega
theorem own_one (w:World) (b:UInt8):Own (w.alloc (.cells #[.int .u8 (b.toNat:Int)] 5)) 5 1 (some ⟨w.heap.size,0,none⟩) 1 1 (bC [b]):=
 ⟨rfl,.inr ⟨w.heap.size,1,_,rfl,Nat.zero_le _,heap_alloc_new w _,Nat.le_refl _,by unfold maxLen;omega,rfl,rfl⟩⟩

def tagE (tag:Bs):Int:=if 1≤tag.length∧tag.length≤64 then 0 else 20

set_option maxHeartbeats 4000000 in
set_option maxRecDepth 100000 in
theorem stext_bad (tag:Bs) (a:Option Addr) (n c:Nat) (w:World) (h:tagE tag=20) (hl:tag.length≤140737488355328) :
  Calls Tryz.prog 54 #[.string ⟨tag.toArray⟩,.slice a n c] w (Rets (.tuple #[.string ⟨#[]⟩,.int .i64 20]) w):=by
 have ht:tag.length=0∨64<tag.length:=by
  unfold tagE at h;split at h
  ·cases h
  ·omega
 clear h
 rcases ht with ht | ht
 ·obtain rfl:tag=[]:=List.eq_nil_of_length_eq_zero ht
  clear ht hl
  go_enter Tryz.func54,Tryz.ntmps54
  go_wp2_with fail
  go_ret2
  exact Rets.same
 ·have hb:tag.isEmpty=false:=by cases tag <;> simp_all
  have h1:¬ tag.length<1:=by omega
  go_enter Tryz.func54,Tryz.ntmps54
  go_wp2_with fail
  go_ret2
  exact Rets.same

set_option maxHeartbeats 4000000 in
set_option maxRecDepth 100000 in
theorem stext_any (tag:Bs) (parts:List Bs) (a:Option Addr) (c:Nat) (w:World) (hp:SsAt w a parts) (h1:1≤tag.length) (h2:tag.length≤64) (hT:(textT tag parts).length≤140737488355328) (hn:parts.length≤1000000000) :
  Calls Tryz.prog 54 #[.string ⟨tag.toArray⟩,.slice a parts.length c] w (Rets (.tuple #[.string ⟨(textT tag parts).toArray⟩,.int .i64 0]) w):=by
 have hb:tag.isEmpty=false:=by cases tag <;> simp_all
 have hl:¬ 64<tag.length:=by omega
 have hl1:¬ tag.length<1:=by omega
 obtain ⟨b0,hb0⟩:∃ b0,UInt8.ofNat tag.length=b0:=⟨_,rfl⟩
 have hw8:IntKind.u8.wrap (tag.length:Int)=(b0.toNat:Int):=by rw [IntKind.wrap_u8',← hb0,UInt8.toNat_ofNat'];simp
 have hw9:(tag.length:Int) % 256=(b0.toNat:Int):=by rw [← hw8,IntKind.wrap_u8']
 have hw7:(tag.length:Int)=(b0.toNat:Int):=by omega
 have HB0:=Lib.hid hb0;have HP:=Lib.hid hp
 have O0:=Lib.hid (own_one w b0)
 have HT:=Lib.hid hT
 have H7:=Lib.hid hw7
 clear hb0 hp hT hw9 hw8 hw7
 go_enter Tryz.func54,Tryz.ntmps54
 go_wp2_with (at_builtin;refine wpList_app_u8 rfl rfl rfl (by have h:=O0.out;rw [← H7.out] at h;exact h) tag.length (bC tag) (src_str tag) (by omega) ?_;intro a1 c1 w1 o1 k1 n1;have P1:Hid (TlI w w1 (textT tag (parts.take 0)) (1+tag.length) a1 c1):=Lib.hid (by have h:=TlI.app (V:=w) (wr:=w.alloc (.cells #[.int .u8 (b0.toNat:Int)] 5)) (t:=[b0]) (L:=1) (u:=tag) ⟨O0.out,(Kp.refl _ _).alloc _,fun g hg=>by simp [ab] at hg;omega⟩ (Kp.refl _ _) o1 (by have h:=k1;rw [H7.out] at h;exact h) (by have h:=n1;rw [H7.out] at h;exact h);rw [show textT tag (parts.take 0)=[b0]++tag by rw [List.take_zero];unfold textT;rw [HB0.out];simp];exact h);clear o1 k1 n1)
 clear hb hl
 go_loopw [6,25] (fun t i wr=>∃ (k L:Nat) (a:Option Addr) (c:Nat),t=.slice a L c∧i=.int .i64 k∧k≤parts.length∧Hid (TlI w wr (textT tag (parts.take k)) L a c)) (fun _ i _=>parts.length - (intOf i).toNat)
 case atStart=>exact ⟨0,1+tag.length,a1,c1,rfl,rfl,by omega,P1⟩
 case round=>
  clear P1
  obtain ⟨k,L,a3,c3,rfl,rfl,hk,TI⟩:=hrel
  have hL:=TI.out.len
  by_cases hlt:k<parts.length
  ·obtain ⟨p,hp⟩:∃ p,parts[k]?=some p:=⟨_,List.getElem?_eq_getElem hlt⟩
   obtain ⟨b,o,rfl,hbs,hc⟩:=HP.out k p hp
   have hsn:textT tag (parts.take (k+1))=textT tag (parts.take k)++be4L p.length++p:=by rw [List.take_add_one,hp];exact textT_snoc _ _ _
   have hle:L+4+p.length≤140737488355328:=by
    have h1:=textT_take_le tag parts (k+1)
    rw [hsn] at h1
    simp only [List.length_append,be4L,List.length_cons,List.length_nil] at h1
    have:=HT.out
    omega
   have HSN:=Lib.hid hsn
   have HC:=Lib.hid hc
   have hc1:=TI.out.kp.cell hc (by simp)
   have hz1:b<wr.heap.size:=by have:=TI.out.kp.size;omega
   have hle1:p.length≤140737488355328:=by omega
   have hle2:L+4≤140737488355328:=by omega
   clear hp hsn hc hL
   go_wp2_with (first
    | (at_builtin;refine wpList_app_u8 rfl rfl rfl P4.out.own p.length (bC p) (src_str p) (by omega) ?_;intro a5 c5 w5 o5 k5 n5;have P5:=Lib.hid (P4.out.app (Kp.refl _ _) o5 k5 n5);clear o5 k5 n5)
    | (at_builtin;refine wpList_app_u8 rfl rfl rfl (TI.out.own.kp ((Kp.refl [] wr).alloc _) (by simp)) 4 (bC (be4L p.length)) (src_cells (be4_cells (by omega) (by omega) (by omega) (by omega)) rfl (bC_one _) _) (by omega) ?_;intro a4 c4 w4 o4 k4 n4;have P4:=Lib.hid (TI.out.app ((Kp.refl [] wr).alloc _) o4 k4 n4);clear o4 k4 n4;have hc1:=P4.out.kp.cell HC.out (by simp);have hz2:b<w4.heap.size:=by have:=P4.out.kp.size;omega))
   go_roundw
   case rel=>exact ⟨k+1,L+4+p.length,a5,c5,rfl,by go_num,by omega,Lib.hid (by rw [HSN.out];exact P5.out)⟩
   case measure=>simp [intOf];omega
  ·obtain rfl:k=parts.length:=by omega
   rw [List.take_length] at TI
   have hcv:(convert 29 9 (.slice a3 L c3)).run Tryz.prog wr=.ok (.string ⟨(textT tag parts).toArray⟩) wr:=by
    have h:=TI.out.own
    rw [← hL] at h ⊢
    first | exact conv_own h | (rw [List.take_length];rw [List.take_length] at h;exact conv_own h)
   clear hL
   go_wp2_with fail
   go_ret2
   exact ⟨rfl,TI.out.kp.to_ext⟩

set_option maxHeartbeats 4000000 in
set_option maxRecDepth 100000 in
theorem rtext_bad (tag:Bs) (a:Option Addr) (n c:Nat) (w:World) (h:tagE tag=20) (hl:tag.length≤140737488355328) :
  Calls Tryz.prog 104 #[.string ⟨tag.toArray⟩,.slice a n c] w (Rets (.tuple #[.string ⟨#[]⟩,.int .i64 20]) w):=by
 have ht:tag.length=0∨64<tag.length:=by
  unfold tagE at h;split at h
  ·cases h
  ·omega
 clear h
 rcases ht with ht | ht
 ·obtain rfl:tag=[]:=List.eq_nil_of_length_eq_zero ht
  clear ht hl
  go_enter Tryz.func104,Tryz.ntmps104
  go_wp2_with fail
  go_ret2
  exact Rets.same
 ·have hb:tag.isEmpty=false:=by cases tag <;> simp_all
  have h1:¬ tag.length<1:=by omega
  go_enter Tryz.func104,Tryz.ntmps104
  go_wp2_with fail
  go_ret2
  exact Rets.same

set_option maxHeartbeats 4000000 in
set_option maxRecDepth 100000 in
theorem rtext_any (tag:Bs) (parts:List Bs) (a:Option Addr) (c:Nat) (w:World) (hp:SsAt w a parts) (h1:1≤tag.length) (h2:tag.length≤64) (hT:(textT tag parts).length≤140737488355328) (hn:parts.length≤1000000000) :
  Calls Tryz.prog 104 #[.string ⟨tag.toArray⟩,.slice a parts.length c] w (Rets (.tuple #[.string ⟨(textT tag parts).toArray⟩,.int .i64 0]) w):=by
 have hb:tag.isEmpty=false:=by cases tag <;> simp_all
 have hl:¬ 64<tag.length:=by omega
 have hl1:¬ tag.length<1:=by omega
 obtain ⟨b0,hb0⟩:∃ b0,UInt8.ofNat tag.length=b0:=⟨_,rfl⟩
 have hw8:IntKind.u8.wrap (tag.length:Int)=(b0.toNat:Int):=by rw [IntKind.wrap_u8',← hb0,UInt8.toNat_ofNat'];simp
 have hw9:(tag.length:Int) % 256=(b0.toNat:Int):=by rw [← hw8,IntKind.wrap_u8']
 have hw7:(tag.length:Int)=(b0.toNat:Int):=by omega
 have HB0:=Lib.hid hb0;have HP:=Lib.hid hp
 have O0:=Lib.hid (own_one w b0)
 have HT:=Lib.hid hT
 have H7:=Lib.hid hw7
 clear hb0 hp hT hw9 hw8 hw7
 go_enter Tryz.func104,Tryz.ntmps104
 go_wp2_with (at_builtin;refine wpList_app_u8 rfl rfl rfl (by have h:=O0.out;rw [← H7.out] at h;exact h) tag.length (bC tag) (src_str tag) (by omega) ?_;intro a1 c1 w1 o1 k1 n1;have P1:Hid (TlI w w1 (textT tag (parts.take 0)) (1+tag.length) a1 c1):=Lib.hid (by have h:=TlI.app (V:=w) (wr:=w.alloc (.cells #[.int .u8 (b0.toNat:Int)] 5)) (t:=[b0]) (L:=1) (u:=tag) ⟨O0.out,(Kp.refl _ _).alloc _,fun g hg=>by simp [ab] at hg;omega⟩ (Kp.refl _ _) o1 (by have h:=k1;rw [H7.out] at h;exact h) (by have h:=n1;rw [H7.out] at h;exact h);rw [show textT tag (parts.take 0)=[b0]++tag by rw [List.take_zero];unfold textT;rw [HB0.out];simp];exact h);clear o1 k1 n1)
 clear hb hl
 go_loopw [6,7] (fun t i wr=>∃ (k L:Nat) (a:Option Addr) (c:Nat),t=.slice a L c∧i=.int .i64 k∧k≤parts.length∧Hid (TlI w wr (textT tag (parts.take k)) L a c)) (fun _ i _=>parts.length - (intOf i).toNat)
 case atStart=>exact ⟨0,1+tag.length,a1,c1,rfl,rfl,by omega,P1⟩
 case round=>
  clear P1
  obtain ⟨k,L,a3,c3,rfl,rfl,hk,TI⟩:=hrel
  have hL:=TI.out.len
  by_cases hlt:k<parts.length
  ·obtain ⟨p,hp⟩:∃ p,parts[k]?=some p:=⟨_,List.getElem?_eq_getElem hlt⟩
   obtain ⟨b,o,rfl,hbs,hc⟩:=HP.out k p hp
   have hsn:textT tag (parts.take (k+1))=textT tag (parts.take k)++be4L p.length++p:=by rw [List.take_add_one,hp];exact textT_snoc _ _ _
   have hle:L+4+p.length≤140737488355328:=by
    have h1:=textT_take_le tag parts (k+1)
    rw [hsn] at h1
    simp only [List.length_append,be4L,List.length_cons,List.length_nil] at h1
    have:=HT.out
    omega
   have HSN:=Lib.hid hsn
   have HC:=Lib.hid hc
   have hc1:=TI.out.kp.cell hc (by simp)
   have hz1:b<wr.heap.size:=by have:=TI.out.kp.size;omega
   have hle1:p.length≤140737488355328:=by omega
   have hle2:L+4≤140737488355328:=by omega
   clear hp hsn hc hL
   go_wp2_with (first
    | (at_builtin;refine wpList_app_u8 rfl rfl rfl P4.out.own p.length (bC p) (src_str p) (by omega) ?_;intro a5 c5 w5 o5 k5 n5;have P5:=Lib.hid (P4.out.app (Kp.refl _ _) o5 k5 n5);clear o5 k5 n5)
    | (at_builtin;refine wpList_app_u8 rfl rfl rfl (TI.out.own.kp ((Kp.refl [] wr).alloc _) (by simp)) 4 (bC (be4L p.length)) (src_cells (be4_cells (by omega) (by omega) (by omega) (by omega)) rfl (bC_one _) _) (by omega) ?_;intro a4 c4 w4 o4 k4 n4;have P4:=Lib.hid (TI.out.app ((Kp.refl [] wr).alloc _) o4 k4 n4);clear o4 k4 n4;have hc1:=P4.out.kp.cell HC.out (by simp);have hz2:b<w4.heap.size:=by have:=P4.out.kp.size;omega))
   go_roundw
   case rel=>exact ⟨k+1,L+4+p.length,a5,c5,rfl,by go_num,by omega,Lib.hid (by rw [HSN.out];exact P5.out)⟩
   case measure=>simp [intOf];omega
  ·obtain rfl:k=parts.length:=by omega
   rw [List.take_length] at TI
   have hcv:(convert 29 9 (.slice a3 L c3)).run Tryz.prog wr=.ok (.string ⟨(textT tag parts).toArray⟩) wr:=by
    have h:=TI.out.own
    rw [← hL] at h ⊢
    first | exact conv_own h | (rw [List.take_length];rw [List.take_length] at h;exact conv_own h)
   clear hL
   go_wp2_with fail
   go_ret2
   exact ⟨rfl,TI.out.kp.to_ext⟩


def ofS (n:Int) (s:Bs):Dg×Int:=if 1≤n∧n≤32 then (Dg.cut n.toNat (sha s),0) else (Dg.zero,2)
def digS (n:Int) (tag:Bs) (parts:List Bs):Dg×Int:=
 if 1≤n∧n≤32 then (if tagE tag=0 then ofS n (textT tag parts) else (Dg.zero,20)) else (Dg.zero,2)

theorem of_any (n:Int) (s:Bs) (w:World) (hs:s.length≤140737488355000):Calls Tryz.prog 47 #[.int .i64 n,.string ⟨s.toArray⟩] w (Rets (.tuple #[.agg (ofS n s).1.c,.int .i64 (ofS n s).2]) w):=by
 by_cases hn:1≤n∧n≤32
 ·obtain ⟨k,rfl⟩:∃ k:Nat,n=k:=⟨n.toNat,by omega⟩
  rw [show ofS (k:Int) s=(Dg.cut k (sha s),0) by unfold ofS;rw [if_pos hn];rfl]
  go_enter Tryz.func47,Tryz.ntmps47
  go_wp2_with fail
  refine (sum_any s _ hs).mono ?_
  rintro e w1 ⟨rfl,bs,m,rfl⟩
  go_wp2_with fail
  refine (cut_any k (sha s) _ (by omega) (by omega)).mono ?_
  rintro e w2 ⟨rfl,bs2,m2,rfl⟩
  go_wp2_with fail
  refine dg_ret2 rfl rfl rfl (d:=Dg.cut k (sha s)) ?_ rfl ?_
  ·simp [go_sem]
  ·exact ⟨rfl,by (try simp only [alloc_ext,drew_ext,drewN_ext,ext_ext]);exact ⟨_,_,rfl⟩⟩
 ·rw [show ofS n s=(Dg.zero,2) by unfold ofS;rw [if_neg hn]]
  go_enter Tryz.func47,Tryz.ntmps47
  go_wp2_with fail
  refine (sum_any s _ hs).mono ?_
  rintro e w1 ⟨rfl,bs,m,rfl⟩
  go_wp2_with fail
  refine (cut_bad n (sha s) _ hn).mono ?_
  rintro e w2 ⟨rfl,bs2,m2,rfl⟩
  go_wp2_with fail
  refine dg_ret2 rfl rfl rfl (d:=Dg.zero) ?_ rfl ?_
  ·simp [go_sem]
  ·exact ⟨rfl,by (try simp only [alloc_ext,drew_ext,drewN_ext,ext_ext]);exact ⟨_,_,rfl⟩⟩

theorem rmay_any (n:Int) (w:World):Calls Tryz.prog 130 #[.int .i64 n] w fun e w'=>e=.returned (.bool (decide (1≤n∧n≤32)))∧w=w':=by
 by_cases h1:1≤n
 ·go_enter Tryz.func130,Tryz.ntmps130
  go_wp2
  go_ret
  exact ⟨ret_bool (by rw [Bool.eq_iff_iff];simp;omega),rfl⟩
 ·go_enter Tryz.func130,Tryz.ntmps130
  go_wp2
  go_ret
  exact ⟨ret_bool (by rw [Bool.eq_iff_iff];simp;omega),rfl⟩

def zz (n k:Nat) (l:Bs):Bs:=l.take n++List.replicate (k - n) 0++l.drop k
theorem zz_at {n:Nat} {l:Bs}:zz n n l=l:=by unfold zz;simp
theorem zz_len {n k:Nat} {l:Bs} (h1:n≤k) (h2:k≤l.length):(zz n k l).length=l.length:=by
 unfold zz;simp only [List.length_append,List.length_take,List.length_replicate,List.length_drop];omega
theorem zz_set {n k:Nat} {l:Bs} (h1:n≤k) (h2:k<l.length):(zz n k l).set k 0=zz n (k+1) l:=by
 apply List.ext_getElem?
 intro i
 unfold zz
 simp only [List.getElem?_set,List.length_append,List.length_take,List.length_replicate,List.length_drop,List.getElem?_append,List.getElem?_take,List.getElem?_replicate,List.getElem?_drop]
 repeat' split
 all_goals first | rfl | omega | (congr 1;omega) | (exfalso;omega)
theorem zz_end {n:Nat} {d:Dg} (h:n≤32):zz n 32 d.l=(Dg.cut n d).l:=by
 unfold zz Dg.cut Dg.pad padB
 rw [show d.l.drop 32=[] from List.drop_eq_nil_of_le (by rw [d.h];omega)]
 simp only [List.append_nil,List.length_take,d.h,List.take_take]
 rw [Nat.min_eq_left h,Nat.min_eq_right h]

theorem rcut_bad (n:Int) (d:Dg) (w:World) (h:¬ (1≤n∧n≤32)):Calls Tryz.prog 95 #[.int .i64 n,.agg d.c] w (Rets (.tuple #[.agg Dg.zero.c,.int .i64 2]) w):=by
 have hb:decide (1≤n∧n≤32)=false:=decide_eq_false h
 clear h
 go_enter Tryz.func95,Tryz.ntmps95
 go_wp2_with (go_at_call 130;refine (rmay_any _ _).mono ?_;rintro e w' ⟨rfl,rfl⟩)
 refine dg_ret2 rfl rfl rfl (d:=Dg.zero) ?_ rfl ?_
 ·simp [go_sem]
 ·exact ⟨rfl,by (try simp only [alloc_ext,drew_ext,drewN_ext,ext_ext]);exact ⟨_,_,rfl⟩⟩

theorem rcut_any (n:Nat) (d:Dg) (w:World) (h1:1≤n) (h2:n≤32):Calls Tryz.prog 95 #[.int .i64 n,.agg d.c] w (Rets (.tuple #[.agg (Dg.cut n d).c,.int .i64 0]) w):=by
 have hb:decide ((1:Int)≤n∧(n:Int)≤32)=true:=decide_eq_true (by omega)
 have B0:=Lib.hid ((Blk.new w 36 d.c).alloc (.cells Dg.zero.c 36))
 go_enter Tryz.func95,Tryz.ntmps95
 go_wp2_with (go_at_call 130;refine (rmay_any _ _).mono ?_;rintro e w' ⟨rfl,rfl⟩)
 go_loopw [6] (fun i wr=>∃ (k:Nat),i=.int .i64 k∧n≤k∧k≤32∧Hid (Kp [w.heap.size] ((w.alloc (.cells d.c 36)).alloc (.cells Dg.zero.c 36)) wr)∧Hid (Blk wr w.heap.size 36 (bC (zz n k d.l)).toArray)) (fun i _=>32 - (intOf i).toNat)
 case atStart=>exact ⟨n,rfl,by omega,by omega,Lib.hid (Kp.refl _ _),Lib.hid (by rw [zz_at];exact B0.out)⟩
 case round=>
  obtain ⟨k,rfl,hk1,hk2,KI,BI⟩:=hrel
  have hdl:=d.h
  by_cases hlt:k<32
  ·have c1:∃ u,wr.cell? ⟨w.heap.size,k,none⟩=some u:=by
    rw [BI.out.cell,bC_get]
    have:=zz_len (l:=d.l) hk1 (by omega)
    rw [List.getElem?_eq_getElem (by omega)];exact ⟨_,rfl⟩
   obtain ⟨u,c1⟩:=c1
   have f1:wr.frozen? ⟨w.heap.size,k,none⟩=false:=BI.out.frozen _
   have g1:=BI.out.lt
   have hS:Hid (Blk (wr.setCell ⟨w.heap.size,k,none⟩ (.int .u8 0)) w.heap.size 36 (bC (zz n (k+1) d.l)).toArray):=Lib.hid (by
    have h:=BI.out.set k (.int .u8 ((0:UInt8).toNat:Int))
    rw [bC_set,zz_set hk1 (by omega)] at h
    exact h)
   clear hdl
   go_wp2_with fail
   go_roundw
   case rel=>exact ⟨k+1,by go_num,by omega,by omega,Lib.hid (KI.out.setCell _ (.inr (by simp))),hS⟩
   case measure=>simp [intOf];omega
  ·obtain rfl:k=32:=by omega
   have BE:Hid (Blk wr w.heap.size 36 (Dg.cut n d).c):=Lib.hid (by have h:=BI.out;rw [zz_end h2] at h;exact h)
   have r3:rowAt? wr ⟨w.heap.size,0,none⟩ 32=some (Dg.cut n d).c:=by have h:=rowAt?_blk BE.out;rwa [Dg.c_size] at h
   have D4:=((Blk.new (w.alloc (.cells d.c 36)) 36 Dg.zero.c)).kp KI.out (by simp)
   have r2:=own?_blk D4
   have l2:=D4.lt
   have l3:=BE.out.lt
   simp only [World.size_alloc] at r2 l2 D4
   have HD4:=Lib.hid D4
   clear D4 hdl
   go_wp2_with fail
   refine dg_ret2 rfl rfl rfl (d:=Dg.cut n d) ?_ rfl ?_
   ·simp [go_sem,r2]
   ·exact ⟨rfl,Kp.to_ext (Kp.setRow ((((Kp.refl [] w).alloc _).alloc _).from KI.out (by simp)) _ _ (.inl (by omega)))⟩

theorem rof_any (n:Int) (s:Bs) (w:World) (hs:s.length≤140737488355000):Calls Tryz.prog 56 #[.int .i64 n,.string ⟨s.toArray⟩] w (Rets (.tuple #[.agg (ofS n s).1.c,.int .i64 (ofS n s).2]) w):=by
 by_cases hn:1≤n∧n≤32
 ·obtain ⟨k,rfl⟩:∃ k:Nat,n=k:=⟨n.toNat,by omega⟩
  rw [show ofS (k:Int) s=(Dg.cut k (sha s),0) by unfold ofS;rw [if_pos hn];rfl]
  go_enter Tryz.func56,Tryz.ntmps56
  go_wp2_with fail
  refine (rsum_any s _ hs).mono ?_
  rintro e w1 ⟨rfl,bs,m,rfl⟩
  go_wp2_with fail
  refine (rcut_any k (sha s) _ (by omega) (by omega)).mono ?_
  rintro e w2 ⟨rfl,bs2,m2,rfl⟩
  go_wp2_with fail
  refine dg_ret2 rfl rfl rfl (d:=Dg.cut k (sha s)) ?_ rfl ?_
  ·simp [go_sem]
  ·exact ⟨rfl,by (try simp only [alloc_ext,drew_ext,drewN_ext,ext_ext]);exact ⟨_,_,rfl⟩⟩
 ·rw [show ofS n s=(Dg.zero,2) by unfold ofS;rw [if_neg hn]]
  go_enter Tryz.func56,Tryz.ntmps56
  go_wp2_with fail
  refine (rsum_any s _ hs).mono ?_
  rintro e w1 ⟨rfl,bs,m,rfl⟩
  go_wp2_with fail
  refine (rcut_bad n (sha s) _ hn).mono ?_
  rintro e w2 ⟨rfl,bs2,m2,rfl⟩
  go_wp2_with fail
  refine dg_ret2 rfl rfl rfl (d:=Dg.zero) ?_ rfl ?_
  ·simp [go_sem]
  ·exact ⟨rfl,by (try simp only [alloc_ext,drew_ext,drewN_ext,ext_ext]);exact ⟨_,_,rfl⟩⟩


theorem dig_any (n:Int) (tag:Bs) (parts:List Bs) (a:Option Addr) (c:Nat) (w:World) (hp:SsAt w a parts) (hT:(textT tag parts).length≤140737488355000) (hn:parts.length≤1000000000) :
  Calls Tryz.prog 23 #[.int .i64 n,.string ⟨tag.toArray⟩,.slice a parts.length c] w (Rets (.tuple #[.agg (digS n tag parts).1.c,.int .i64 (digS n tag parts).2]) w):=by
 have htl:tag.length≤140737488355000:=by
  have:tag.length≤(textT tag parts).length:=by unfold textT;simp;omega
  omega
 by_cases hw:1≤n∧n≤32
 ·have hb:decide (1≤n∧n≤32)=true:=decide_eq_true hw
  by_cases ht:tagE tag=0
  ·have ht2:1≤tag.length∧tag.length≤64:=by
    unfold tagE at ht;split at ht
    ·assumption
    ·cases ht
   rw [show digS n tag parts=ofS n (textT tag parts) by unfold digS;rw [if_pos hw,if_pos ht]]
   have HP:=Lib.hid hp;clear hp
   obtain ⟨ht3,ht4⟩:=ht2
   clear hw ht
   go_enter Tryz.func23,Tryz.ntmps23
   go_wp2_with (go_at_call 53;refine (wide_any _ _).mono ?_;rintro e w' ⟨rfl,rfl⟩)
   refine (stext_any tag parts a c _ (HP.out.kp ((Kp.refl [] _).alloc _) (by simp)) (by omega) (by omega) (by omega) hn).mono ?_
   rintro e w1 ⟨rfl,bs,m,rfl⟩
   go_wp2_with fail
   refine (of_any n (textT tag parts) _ hT).mono ?_
   rintro e w2 ⟨rfl,bs2,m2,rfl⟩
   go_wp2_with fail
   refine dg_ret2 rfl rfl rfl (d:=(ofS n (textT tag parts)).1) ?_ rfl ?_
   ·simp [go_sem]
   ·exact ⟨rfl,by (try simp only [alloc_ext,drew_ext,drewN_ext,ext_ext]);exact ⟨_,_,rfl⟩⟩
  ·have ht2:tagE tag=20:=by
    unfold tagE at ht ⊢;split at ht
    ·exact absurd rfl ht
    ·rename_i h;exact if_neg h
   rw [show digS n tag parts=(Dg.zero,20) by unfold digS;rw [if_pos hw,if_neg ht]]
   have H2:=Lib.hid ht2
   clear hw ht ht2
   go_enter Tryz.func23,Tryz.ntmps23
   go_wp2_with (go_at_call 53;refine (wide_any _ _).mono ?_;rintro e w' ⟨rfl,rfl⟩)
   refine (stext_bad tag a _ c _ H2.out (by omega)).mono ?_
   rintro e w1 ⟨rfl,bs,m,rfl⟩
   go_wp2_with fail
   refine dg_ret2 rfl rfl rfl (d:=Dg.zero) ?_ rfl ?_
   ·simp [go_sem]
   ·exact ⟨rfl,by (try simp only [alloc_ext,drew_ext,drewN_ext,ext_ext]);exact ⟨_,_,rfl⟩⟩
 ·have hb:decide (1≤n∧n≤32)=false:=decide_eq_false hw
  rw [show digS n tag parts=(Dg.zero,2) by unfold digS;rw [if_neg hw]]
  clear hw
  go_enter Tryz.func23,Tryz.ntmps23
  go_wp2_with (go_at_call 53;refine (wide_any _ _).mono ?_;rintro e w' ⟨rfl,rfl⟩)
  refine dg_ret2 rfl rfl rfl (d:=Dg.zero) ?_ rfl ?_
  ·simp [go_sem]
  ·exact ⟨rfl,by (try simp only [alloc_ext,drew_ext,drewN_ext,ext_ext]);exact ⟨_,_,rfl⟩⟩

theorem rdig_any (n:Int) (tag:Bs) (parts:List Bs) (a:Option Addr) (c:Nat) (w:World) (hp:SsAt w a parts) (hT:(textT tag parts).length≤140737488355000) (hn:parts.length≤1000000000) :
  Calls Tryz.prog 144 #[.int .i64 n,.string ⟨tag.toArray⟩,.slice a parts.length c] w (Rets (.tuple #[.agg (digS n tag parts).1.c,.int .i64 (digS n tag parts).2]) w):=by
 have htl:tag.length≤140737488355000:=by
  have:tag.length≤(textT tag parts).length:=by unfold textT;simp;omega
  omega
 by_cases hw:1≤n∧n≤32
 ·have hb:decide (1≤n∧n≤32)=true:=decide_eq_true hw
  by_cases ht:tagE tag=0
  ·have ht2:1≤tag.length∧tag.length≤64:=by
    unfold tagE at ht;split at ht
    ·assumption
    ·cases ht
   rw [show digS n tag parts=ofS n (textT tag parts) by unfold digS;rw [if_pos hw,if_pos ht]]
   have HP:=Lib.hid hp;clear hp
   obtain ⟨ht3,ht4⟩:=ht2
   clear hw ht
   go_enter Tryz.func144,Tryz.ntmps144
   go_wp2_with (go_at_call 130;refine (rmay_any _ _).mono ?_;rintro e w' ⟨rfl,rfl⟩)
   refine (rtext_any tag parts a c _ (HP.out.kp ((Kp.refl [] _).alloc _) (by simp)) (by omega) (by omega) (by omega) hn).mono ?_
   rintro e w1 ⟨rfl,bs,m,rfl⟩
   go_wp2_with fail
   refine (rof_any n (textT tag parts) _ hT).mono ?_
   rintro e w2 ⟨rfl,bs2,m2,rfl⟩
   go_wp2_with fail
   refine dg_ret2 rfl rfl rfl (d:=(ofS n (textT tag parts)).1) ?_ rfl ?_
   ·simp [go_sem]
   ·exact ⟨rfl,by (try simp only [alloc_ext,drew_ext,drewN_ext,ext_ext]);exact ⟨_,_,rfl⟩⟩
  ·have ht2:tagE tag=20:=by
    unfold tagE at ht ⊢;split at ht
    ·exact absurd rfl ht
    ·rename_i h;exact if_neg h
   rw [show digS n tag parts=(Dg.zero,20) by unfold digS;rw [if_pos hw,if_neg ht]]
   have H2:=Lib.hid ht2
   clear hw ht ht2
   go_enter Tryz.func144,Tryz.ntmps144
   go_wp2_with (go_at_call 130;refine (rmay_any _ _).mono ?_;rintro e w' ⟨rfl,rfl⟩)
   refine (rtext_bad tag a _ c _ H2.out (by omega)).mono ?_
   rintro e w1 ⟨rfl,bs,m,rfl⟩
   go_wp2_with fail
   refine dg_ret2 rfl rfl rfl (d:=Dg.zero) ?_ rfl ?_
   ·simp [go_sem]
   ·exact ⟨rfl,by (try simp only [alloc_ext,drew_ext,drewN_ext,ext_ext]);exact ⟨_,_,rfl⟩⟩
 ·have hb:decide (1≤n∧n≤32)=false:=decide_eq_false hw
  rw [show digS n tag parts=(Dg.zero,2) by unfold digS;rw [if_neg hw]]
  clear hw
  go_enter Tryz.func144,Tryz.ntmps144
  go_wp2_with (go_at_call 130;refine (rmay_any _ _).mono ?_;rintro e w' ⟨rfl,rfl⟩)
  refine dg_ret2 rfl rfl rfl (d:=Dg.zero) ?_ rfl ?_
  ·simp [go_sem]
  ·exact ⟨rfl,by (try simp only [alloc_ext,drew_ext,drewN_ext,ext_ext]);exact ⟨_,_,rfl⟩⟩

def clashB (n:Int) (s t:Bs):Bool:=decide ((ofS n s).2=0∧s≠t∧(ofS n s).1=(ofS n t).1)

end Go.Proofs.YtcaggadjkccbiaaGreat