/- The writer's methods: what they lay, and which memory they touch. -/
import Derived.Test.YtcaggadjkccbiaaGreatZ3
import Derived.Test.YtcaggadjkccbiaaGreatZ0
import Derived.Test.YtcaggadjkccbiaaGreatZ2
namespace Go.Proofs.YtcaggadjkccbiaaGreat
set_option linter.unusedVariables false
set_option linter.unusedSimpArgs false
open Go Go.RowKit

structure Wr (w:World) (wb:Nat) (a:Option Addr) (c:Nat) (out:Bs):Prop where
 blk:Blk w wb 239 #[.bool true,.slice a out.length c]
 own:Own w 5 1 a out.length c (bC out)
 ne:wb ∉ ab a

structure WK (wb:Nat) (a:Option Addr) (w:World) (a':Option Addr) (w':World):Prop where
 kp:Kp (wb::ab a) w w'
 new:∀ g∈ab a',g∈ab a∨w.heap.size≤g

theorem WK.refl (wb:Nat) (a:Option Addr) (w:World):WK wb a w a w:=⟨Kp.refl _ _,fun _ h=>.inl h⟩
theorem WK.trans {wb : Nat} {a a1 a2 : Option Addr} {w w1 w2 : World} (h : WK wb a w a1 w1) (k : WK wb a1 w1 a2 w2) : WK wb a w a2 w2 :=
  ⟨h.kp.from k.kp (fun x hx => by
    rcases List.mem_cons.1 hx with rfl | hx
    · exact .inr (by simp)
    · rcases h.new x hx with h1 | h1
      · exact .inr (by simp [h1])
      · exact .inl h1),
   fun g hg => by
    rcases k.new g hg with h1 | h1
    · exact h.new g h1
    · exact .inr (Nat.le_trans h.kp.size h1)⟩
theorem WK.pre {wb:Nat} {a a2:Option Addr} {w w1 w2:World} (h:Kp [] w w1) (k:WK wb a w1 a2 w2):WK wb a w a2 w2:=
 (WK.trans ⟨h.of_nil,fun _ h=>.inl h⟩ k)
theorem WK.post {wb:Nat} {a a2:Option Addr} {w w1 w2:World} (k:WK wb a w a2 w1) (h:Kp [] w1 w2):WK wb a w a2 w2:=
 k.trans ⟨h.of_nil,fun _ h=>.inl h⟩
theorem Wr.kp {S:List Nat} {w w':World} {wb c:Nat} {a:Option Addr} {out:Bs} (h:Wr w wb a c out) (k:Kp S w w') (h1:wb ∉ S) (h2:∀ g∈ab a,g ∉ S):Wr w' wb a c out:=
 ⟨h.blk.kp k h1,h.own.kp k h2,h.ne⟩
theorem Wr.kp0 {w w':World} {wb c:Nat} {a:Option Addr} {out:Bs} (h:Wr w wb a c out) (k:Kp [] w w'):Wr w' wb a c out:=h.kp k (by simp) (by simp)
theorem Wr.cells {w:World} {wb c:Nat} {a:Option Addr} {out:Bs} (h:Wr w wb a c out):w.cell? ⟨wb,0,none⟩=some (.bool true)∧w.cell? ⟨wb,1,none⟩=some (.slice a out.length c)∧w.frozen? ⟨wb,1,none⟩=false∧wb<w.heap.size:=
 ⟨h.blk.cell 0,h.blk.cell 1,h.blk.frozen 1,h.blk.lt⟩
theorem WK.blk {wb:Nat} {a a':Option Addr} {w w':World} (k:WK wb a w a' w') {g:Nat} {o:Obj} (h:w.heap[g]?=some o) (h1:g≠wb) (h2:g ∉ ab a):w'.heap[g]?=some o:=
 k.kp.blk h (by simp [h1,h2])

theorem Wr.put {w w1:World} {wb c c':Nat} {a a':Option Addr} {out t:Bs} (h:Wr w wb a c out) (hown:Own w1 5 1 a' (out.length+t.length) c' (bC out++bC t)) (hk:Kp (ab a) w w1) (hn:∀ g∈ab a',g∈ab a∨w.heap.size≤g) :
  Wr (w1.setCell ⟨wb,1,none⟩ (.slice a' (out.length+t.length) c')) wb a' c' (out++t)∧WK wb a w a' (w1.setCell ⟨wb,1,none⟩ (.slice a' (out.length+t.length) c')):=by
 have hb:=h.blk.kp hk h.ne
 have hne:wb ∉ ab a':=fun e=>by
  rcases hn _ e with h1 | h1
  ·exact h.ne h1
  ·have:=h.blk.lt;omega
 refine ⟨⟨?_,?_,hne⟩,⟨(hk.mono (fun k _ hk=>by simp [hk])).setCell _ (.inr (by simp)),hn⟩⟩
 ·have:=hb.set 1 (.slice a' (out.length+t.length) c')
  simpa using this
 ·rw [bC_app,List.length_append]
  exact hown.kp ((Kp.refl [wb] _).setCell _ (.inr (by simp))) (fun g hg=>by simp;rintro rfl;exact hne hg)

def WrPost (w:World) (wb:Nat) (a:Option Addr) (out:Bs) (e:Ending) (w':World):Prop:=
 e=.returned (.tuple #[])∧∃ a' c',Wr w' wb a' c' out∧WK wb a w a' w'

set_option maxHeartbeats 400000 in
theorem wr_new (w:World):Calls Tryz.prog 177 #[] w fun e w'=>e=.returned (.pointer (some ⟨w.heap.size,0,none⟩))∧w'=w.alloc (.cells #[.bool true,.slice none 0 0] 239):=by
 go_enter Tryz.func177,Tryz.ntmps177
 go_wp2
 go_ret
 exact ⟨rfl,rfl⟩

theorem wr_made (w:World):Wr (w.alloc (.cells #[.bool true,.slice none 0 0] 239)) w.heap.size none 0 []:=
 ⟨Blk.new w _ _,Own.nil _ _ _,by simp [ab]⟩

def freeB (n:Nat):Bs:=if h:n<128 then [n.toUInt8] else (n % 128+128).toUInt8::freeB (n / 128)
termination_by n
decreasing_by omega

theorem freeB_len:∀ (k n:Nat),n<128 ^ k→0<k→(freeB n).length≤k
 | 0,n,_,h=>absurd h (by omega)
 | k+1,n,h,_=>by
  rw [freeB]
  split
  ·simp
  ·by_cases hk:k=0
   ·subst hk;simp at h;omega
   ·have:n / 128<128 ^ k:=by
     rw [Nat.pow_succ] at h
     exact Nat.div_lt_of_lt_mul (by omega)
    have:=freeB_len k (n / 128) this (by omega)
    simp;omega
theorem freeB_len64 (n:Nat) (h:n<18446744073709551616):(freeB n).length≤10:=freeB_len 10 n (by omega) (by omega)
theorem freeB_small {n:Nat} (h:n<128):freeB n=[n.toUInt8]:=by rw [freeB];simp [h]
theorem freeB_big {n:Nat} (h:¬ n<128):freeB n=(n % 128+128).toUInt8::freeB (n / 128):=by rw [freeB];simp [h]

set_option maxRecDepth 100000 in
theorem or128:∀ x,x<256→x ||| 128=x % 128+128:=by decide
theorem u8_or128' (x:Int) (h0:0≤x) (h1:x<256):bits .or .u8 x 128=x % 128+128:=by
 rw [u8_or x 128 h0 h1 (by omega) (by omega)]
 have:=or128 x.toNat (by omega)
 simp only [Int.reduceToNat]
 rw [this];omega
theorem bC_byte (n:Nat) (h:n<256):bC [n.toUInt8]=[.int .u8 (n:Int)]:=by
 simp [bC];omega
theorem Wr.later {w wa w1:World} {wb c:Nat} {a:Option Addr} {out:Bs} (h:Wr w wb a c out) (k0:Kp [] w wa) (hk:Kp (ab a) wa w1) :
  w1.cell? ⟨wb,0,none⟩=some (.bool true)∧w1.cell? ⟨wb,1,none⟩=some (.slice a out.length c)∧w1.frozen? ⟨wb,1,none⟩=false∧wb<w1.heap.size:=
 let b:=(h.blk.kp k0 (by simp)).kp hk h.ne
 ⟨b.cell 0,b.cell 1,b.frozen 1,b.lt⟩
theorem Wr.put' {w wa w1:World} {wb c c':Nat} {a a':Option Addr} {out t:Bs} (h:Wr w wb a c out) (k0:Kp [] w wa) (hown:Own w1 5 1 a' (out.length+t.length) c' (bC out++bC t)) (hk:Kp (ab a) wa w1) (hn:∀ g∈ab a',g∈ab a∨wa.heap.size≤g) :
  Wr (w1.setCell ⟨wb,1,none⟩ (.slice a' (out.length+t.length) c')) wb a' c' (out++t)∧WK wb a w a' (w1.setCell ⟨wb,1,none⟩ (.slice a' (out.length+t.length) c')):=
 let ⟨h1,h2⟩:=(h.kp0 k0).put hown hk hn
 ⟨h1,h2.pre k0⟩
theorem src_one {w:World} {v:Value} (h:v.oneCell'=true) (t:TypeId):Src Tryz.prog 1 29 (.slice (some ⟨w.heap.size,0,none⟩) 1 1) 1 [v] (w.alloc (.cells #[v] t)):=
 Src.ofSlice _ Tryz.underlying29 _ _ _ _ rfl (by
  intro j u hj
  match j,hj with
  | 0,hj=>simp at hj;subst hj;simp [Addr.add]
  | j+1,hj=>simp at hj) (by intro u hu;simp at hu;subst hu;exact h)

set_option maxHeartbeats 1000000 in
set_option maxRecDepth 100000 in
theorem wr_free (wb n c:Nat) (a:Option Addr) (out:Bs) (w:World) (h:Wr w wb a c out) (hn:n<18446744073709551616) (ho:out.length≤70368744177664) :
  Calls Tryz.prog 191 #[.pointer (some ⟨wb,0,none⟩),.int .u64 n] w (WrPost w wb a (out++freeB n)):=by
 obtain ⟨c0,c1,f1,hlt⟩:=h.cells
 have H:=Lib.hid h;clear h
 have hl:=freeB_len64 n hn
 have HL:=Lib.hid hl;clear hl
 go_enter Tryz.func191,Tryz.ntmps191
 go_wp2
 clear c0 c1 f1 hlt
 go_loopw [1] (fun x wr=>∃ (m c':Nat) (a':Option Addr) (pre:Bs),x=.int .u64 m∧m≤n∧Hid (out++freeB n=pre++freeB m)∧Wr wr wb a' c' pre∧WK wb a w a' wr) (fun x _=>(intOf x).toNat)
 case atStart=>exact ⟨n,c,a,out,rfl,Nat.le_refl _,rfl,H.out,WK.refl _ _ _⟩
 case round=>
  obtain ⟨m,c',a',pre,rfl,hmn,HE,hw,hk⟩:=hrel
  obtain ⟨c0,c1,f1,hlt⟩:=hw.cells
  have hlen:pre.length+(freeB m).length=out.length+(freeB n).length:=by have:=congrArg List.length HE.out;simpa using this.symm
  have hpre:pre.length≤70368744177700:=by have:=HL.out;omega
  clear hlen
  have HW:=Lib.hid hw;clear hw
  have HK:=Lib.hid hk;clear hk
  by_cases hs:m<128
  ·go_wp2_with (at_builtin;refine wpList_app_u8 rfl rfl rfl (HW.out.own.kp ((Kp.refl [] _).alloc _) (by simp)) 1 _ (src_one rfl _) (by omega) ?_;intro a2 c2 w1 hown hk2 hnew;have ho2:=Lib.hid hown;have hk2':=Lib.hid hk2;have hn2:=Lib.hid hnew;obtain ⟨d0,d1,d2,d3⟩:=HW.out.later ((Kp.refl [] _).alloc _) hk2;clear hown hk2 hnew)
   obtain ⟨p1,p2⟩:=HW.out.put' (t:=[m.toUInt8]) ((Kp.refl [] _).alloc _) (by rw [bC_byte m (by omega)];exact ho2.out) hk2'.out hn2.out
   go_end0
   exact ⟨rfl,a2,c2,by rw [HE.out,freeB_small hs];exact p1,HK.out.trans p2⟩
  ·have hv:bits .or .u8 ((m:Int) % 256) 128=((m % 128+128:Nat):Int):=by rw [u8_or128' _ (by omega) (by omega)];omega
   go_wp2_with (at_builtin;refine wpList_app_u8 rfl rfl rfl (HW.out.own.kp ((Kp.refl [] _).alloc _) (by simp)) 1 _ (src_one rfl _) (by omega) ?_;intro a2 c2 w1 hown hk2 hnew;have ho2:=Lib.hid hown;have hk2':=Lib.hid hk2;have hn2:=Lib.hid hnew;obtain ⟨d0,d1,d2,d3⟩:=HW.out.later ((Kp.refl [] _).alloc _) hk2;clear hown hk2 hnew)
   obtain ⟨p1,p2⟩:=HW.out.put' (t:=[(m % 128+128).toUInt8]) ((Kp.refl [] _).alloc _) (by rw [bC_byte _ (by omega)];exact ho2.out) hk2'.out hn2.out
   go_roundw
   case rel=>exact ⟨m / 128,c2,a2,pre++[(m % 128+128).toUInt8],by go_num,by omega,by show _=_;rw [HE.out,freeB_big hs];simp,p1,HK.out.trans p2⟩
   case measure=>simp [intOf];omega


def fixB:Nat→Nat→Bs
 | 0,_=>[]
 | k+1,n=>(n / 256 ^ k % 256).toUInt8::fixB k n
theorem fixB_len:∀ k n,(fixB k n).length=k
 | 0,_=>rfl
 | k+1,n=>by simp [fixB,fixB_len k n]
theorem fixB_take:∀ (k n j:Nat),j<k→(fixB k n).take (k - j)=(fixB k n).take (k - (j+1))++[(n / 256 ^ j % 256).toUInt8]
 | 0,_,_,h=>absurd h (by omega)
 | k+1,n,j,h=>by
  by_cases hj:j=k
  ·subst hj;simp [fixB]
  ·have ih:=fixB_take k n j (by omega)
   rw [show k+1 - j=(k - j)+1 by omega,show k+1 - (j+1)=(k - (j+1))+1 by omega]
   simp only [fixB,List.take_succ_cons,ih,List.cons_append]

theorem own_cast {w:World} {e:TypeId} {a:Option Addr} {n c:Nat} {xs:List Value} {x y:Int} (h:x=y) (o:Own w e 1 a n c (xs++[.int .u8 y])):Own w e 1 a n c (xs++[.int .u8 x]):=by rw [h];exact o

set_option maxHeartbeats 1000000 in
set_option maxRecDepth 100000 in
theorem wr_put_uint8 (wb n c:Nat) (a:Option Addr) (out:Bs) (w:World) (h:Wr w wb a c out) (hn:n<256) (ho:out.length≤70368744177664) :
  Calls Tryz.prog 178 #[.pointer (some ⟨wb,0,none⟩),.int .u8 n] w (WrPost w wb a (out++fixB 1 n)):=by
 obtain ⟨c0,c1,f1,hlt⟩:=h.cells
 have H:=Lib.hid h;clear h
 go_enter Tryz.func178,Tryz.ntmps178
 go_wp2_with (go_at_call 156;refine (width_uint8 _).mono ?_;rintro e w' ⟨rfl,rfl⟩)
 clear c0 c1 f1 hlt
 go_loopw [4] (fun i wr=>∃ (k:Int) (c':Nat) (a':Option Addr) (pre:Bs),i=.int .i64 k ∧ -1≤k∧k≤0∧Hid (pre=out++(fixB 1 n).take (0 - k).toNat)∧Wr wr wb a' c' pre∧WK wb a w a' wr) (fun i _=>(intOf i+1).toNat)
 case atStart=>exact ⟨0,c,a,out,rfl,by omega,by omega,by show _=_;simp,H.out,WK.refl _ _ _⟩
 case round=>
  obtain ⟨k,c',a',pre,rfl,hk3,hk4,HP,hw,hk⟩:=hrel
  obtain ⟨c0,c1,f1,hlt⟩:=hw.cells
  have hpre:pre.length≤70368744177700:=by rw [HP.out];simp [fixB_len];omega
  have HW:=Lib.hid hw;clear hw
  have HK:=Lib.hid hk;clear hk
  rcases (show k = -1∨k=0 by omega) with rfl | rfl
  ·have HQ:Hid (out++fixB 1 n=pre):=by show _=_;rw [HP.out];exact congrArg _ (List.take_of_length_le (by rw [fixB_len];omega)).symm
   go_wp2
   go_end0
   exact ⟨rfl,a',c',by rw [HQ.out];exact HW.out,HK.out⟩
  ·go_wp2_with (at_builtin;refine wpList_app_u8 rfl rfl rfl (HW.out.own.kp ((Kp.refl [] _).alloc _) (by simp)) 1 _ (src_one rfl _) (by omega) ?_;intro a2 c2 w1 hown hk2 hnew;have ho2:=Lib.hid hown;have hk2':=Lib.hid hk2;have hn2:=Lib.hid hnew;obtain ⟨d0,d1,d2,d3⟩:=HW.out.later ((Kp.refl [] _).alloc _) hk2;clear hown hk2 hnew)
   obtain ⟨p1,p2⟩:=HW.out.put' (t:=[(n / 256 ^ 0 % 256).toUInt8]) ((Kp.refl [] _).alloc _) (by rw [bC_byte _ (Nat.mod_lt _ (by omega))];exact own_cast (by omega) ho2.out) hk2'.out hn2.out
   go_roundw
   case rel=>exact ⟨-1,c2,a2,pre++[(n / 256 ^ 0 % 256).toUInt8],rfl,by omega,by omega,by show _=_;rw [HP.out];have:=fixB_take 1 n 0 (by omega);simp only [Nat.reduceSub,Nat.reduceAdd] at this;simp only [Int.reduceSub,Int.reduceNeg,Int.reduceToNat,this,List.append_assoc],p1,HK.out.trans p2⟩
   case measure=>simp [intOf]

set_option maxHeartbeats 1000000 in
set_option maxRecDepth 100000 in
theorem wr_put_uint32 (wb n c:Nat) (a:Option Addr) (out:Bs) (w:World) (h:Wr w wb a c out) (hn:n<4294967296) (ho:out.length≤70368744177664) :
  Calls Tryz.prog 185 #[.pointer (some ⟨wb,0,none⟩),.int .u32 n] w (WrPost w wb a (out++fixB 4 n)):=by
 obtain ⟨c0,c1,f1,hlt⟩:=h.cells
 have H:=Lib.hid h;clear h
 go_enter Tryz.func185,Tryz.ntmps185
 go_wp2_with (go_at_call 157;refine (width_uint32 _).mono ?_;rintro e w' ⟨rfl,rfl⟩)
 clear c0 c1 f1 hlt
 go_loopw [4] (fun i wr=>∃ (k:Int) (c':Nat) (a':Option Addr) (pre:Bs),i=.int .i64 k ∧ -1≤k∧k≤3∧Hid (pre=out++(fixB 4 n).take (3 - k).toNat)∧Wr wr wb a' c' pre∧WK wb a w a' wr) (fun i _=>(intOf i+1).toNat)
 case atStart=>exact ⟨3,c,a,out,rfl,by omega,by omega,by show _=_;simp,H.out,WK.refl _ _ _⟩
 case round=>
  obtain ⟨k,c',a',pre,rfl,hk3,hk4,HP,hw,hk⟩:=hrel
  obtain ⟨c0,c1,f1,hlt⟩:=hw.cells
  have hpre:pre.length≤70368744177700:=by rw [HP.out];simp [fixB_len];omega
  have HW:=Lib.hid hw;clear hw
  have HK:=Lib.hid hk;clear hk
  rcases (show k = -1∨k=0∨k=1∨k=2∨k=3 by omega) with rfl | rfl | rfl | rfl | rfl
  ·have HQ:Hid (out++fixB 4 n=pre):=by show _=_;rw [HP.out];exact congrArg _ (List.take_of_length_le (by rw [fixB_len];omega)).symm
   go_wp2
   go_end0
   exact ⟨rfl,a',c',by rw [HQ.out];exact HW.out,HK.out⟩
  ·go_wp2_with (at_builtin;refine wpList_app_u8 rfl rfl rfl (HW.out.own.kp ((Kp.refl [] _).alloc _) (by simp)) 1 _ (src_one rfl _) (by omega) ?_;intro a2 c2 w1 hown hk2 hnew;have ho2:=Lib.hid hown;have hk2':=Lib.hid hk2;have hn2:=Lib.hid hnew;obtain ⟨d0,d1,d2,d3⟩:=HW.out.later ((Kp.refl [] _).alloc _) hk2;clear hown hk2 hnew)
   obtain ⟨p1,p2⟩:=HW.out.put' (t:=[(n / 256 ^ 0 % 256).toUInt8]) ((Kp.refl [] _).alloc _) (by rw [bC_byte _ (Nat.mod_lt _ (by omega))];exact own_cast (by omega) ho2.out) hk2'.out hn2.out
   go_roundw
   case rel=>exact ⟨-1,c2,a2,pre++[(n / 256 ^ 0 % 256).toUInt8],rfl,by omega,by omega,by show _=_;rw [HP.out];have:=fixB_take 4 n 0 (by omega);simp only [Nat.reduceSub,Nat.reduceAdd] at this;simp only [Int.reduceSub,Int.reduceNeg,Int.reduceToNat,this,List.append_assoc],p1,HK.out.trans p2⟩
   case measure=>simp [intOf]
  ·go_wp2_with (at_builtin;refine wpList_app_u8 rfl rfl rfl (HW.out.own.kp ((Kp.refl [] _).alloc _) (by simp)) 1 _ (src_one rfl _) (by omega) ?_;intro a2 c2 w1 hown hk2 hnew;have ho2:=Lib.hid hown;have hk2':=Lib.hid hk2;have hn2:=Lib.hid hnew;obtain ⟨d0,d1,d2,d3⟩:=HW.out.later ((Kp.refl [] _).alloc _) hk2;clear hown hk2 hnew)
   obtain ⟨p1,p2⟩:=HW.out.put' (t:=[(n / 256 ^ 1 % 256).toUInt8]) ((Kp.refl [] _).alloc _) (by rw [bC_byte _ (Nat.mod_lt _ (by omega))];exact own_cast (by omega) ho2.out) hk2'.out hn2.out
   go_roundw
   case rel=>exact ⟨0,c2,a2,pre++[(n / 256 ^ 1 % 256).toUInt8],rfl,by omega,by omega,by show _=_;rw [HP.out];have:=fixB_take 4 n 1 (by omega);simp only [Nat.reduceSub,Nat.reduceAdd] at this;simp only [Int.reduceSub,Int.reduceNeg,Int.reduceToNat,this,List.append_assoc],p1,HK.out.trans p2⟩
   case measure=>simp [intOf]
  ·go_wp2_with (at_builtin;refine wpList_app_u8 rfl rfl rfl (HW.out.own.kp ((Kp.refl [] _).alloc _) (by simp)) 1 _ (src_one rfl _) (by omega) ?_;intro a2 c2 w1 hown hk2 hnew;have ho2:=Lib.hid hown;have hk2':=Lib.hid hk2;have hn2:=Lib.hid hnew;obtain ⟨d0,d1,d2,d3⟩:=HW.out.later ((Kp.refl [] _).alloc _) hk2;clear hown hk2 hnew)
   obtain ⟨p1,p2⟩:=HW.out.put' (t:=[(n / 256 ^ 2 % 256).toUInt8]) ((Kp.refl [] _).alloc _) (by rw [bC_byte _ (Nat.mod_lt _ (by omega))];exact own_cast (by omega) ho2.out) hk2'.out hn2.out
   go_roundw
   case rel=>exact ⟨1,c2,a2,pre++[(n / 256 ^ 2 % 256).toUInt8],rfl,by omega,by omega,by show _=_;rw [HP.out];have:=fixB_take 4 n 2 (by omega);simp only [Nat.reduceSub,Nat.reduceAdd] at this;simp only [Int.reduceSub,Int.reduceNeg,Int.reduceToNat,this,List.append_assoc],p1,HK.out.trans p2⟩
   case measure=>simp [intOf]
  ·go_wp2_with (at_builtin;refine wpList_app_u8 rfl rfl rfl (HW.out.own.kp ((Kp.refl [] _).alloc _) (by simp)) 1 _ (src_one rfl _) (by omega) ?_;intro a2 c2 w1 hown hk2 hnew;have ho2:=Lib.hid hown;have hk2':=Lib.hid hk2;have hn2:=Lib.hid hnew;obtain ⟨d0,d1,d2,d3⟩:=HW.out.later ((Kp.refl [] _).alloc _) hk2;clear hown hk2 hnew)
   obtain ⟨p1,p2⟩:=HW.out.put' (t:=[(n / 256 ^ 3 % 256).toUInt8]) ((Kp.refl [] _).alloc _) (by rw [bC_byte _ (Nat.mod_lt _ (by omega))];exact own_cast (by omega) ho2.out) hk2'.out hn2.out
   go_roundw
   case rel=>exact ⟨2,c2,a2,pre++[(n / 256 ^ 3 % 256).toUInt8],rfl,by omega,by omega,by show _=_;rw [HP.out];have:=fixB_take 4 n 3 (by omega);simp only [Nat.reduceSub,Nat.reduceAdd] at this;simp only [Int.reduceSub,Int.reduceNeg,Int.reduceToNat,this,List.append_assoc],p1,HK.out.trans p2⟩
   case measure=>simp [intOf]

end Go.Proofs.YtcaggadjkccbiaaGreat