/- The writer's 64 bits, and an entry's text. -/
import Derived.Test.YtgjaaffheanobaaGreatZ23
import Derived.Test.YtgjaaffheanobaaGreatZ5
namespace Go.Proofs.YtgjaaffheanobaaGreat
set_option maxHeartbeats 1000000
set_option maxRecDepth 100000
set_option linter.unusedVariables false
set_option linter.unusedSimpArgs false
open Go Go.RowKit

theorem pow_uint64:∀ k,k<64→((2:Int) ^ k % 18446744073709551616 != 0)=true:=by decide
theorem dbl_uint64 (k:Nat):(2:Int) ^ k % 18446744073709551616*2 % 18446744073709551616=2 ^ (k+1) % 18446744073709551616:=by rw [Int.pow_succ];omega
theorem width_uint64 (w:World):Calls Tryz.prog 79 #[] w fun e w'=>e=.returned (.int .i64 8)∧w=w':=by
 go_enter Tryz.func79,Tryz.ntmps79
 go_wp2
 go_loop [1,2] (fun n x=>∃ k:Nat,k≤64∧n=.int .i64 k∧x=.int .u64 ((2:Int) ^ k % 18446744073709551616)) (fun n _=>64 - (intOf n).toNat)
 case atStart=>exact ⟨0,by omega,rfl,rfl⟩
 case round=>
  obtain ⟨k,hk,rfl,rfl⟩:=hrel
  by_cases h8:k=64
  ·subst h8
   go_wp2
   go_ret
   exact ⟨rfl,rfl⟩
  ·have hb:=pow_uint64 k (by omega)
   go_wp2
   go_round
   case rel=>exact ⟨k+1,by omega,by go_num,by rw [← dbl_uint64];simp [IntKind.wrap,IntKind.bits,IntKind.signed]⟩
   case measure=>simp [intOf];omega

set_option maxHeartbeats 1000000 in
set_option maxRecDepth 100000 in
theorem wr_rawo (wb g o c:Nat) (a:Option Addr) (out t:Bs) (w:World) (h:Wr w wb a c out) (hc:w.cell? ⟨g,o,none⟩=some (.string ⟨t.toArray⟩)) (ho:out.length+t.length≤70368744177900) :
  Calls Tryz.prog 54 #[.pointer (some ⟨wb,0,none⟩),.slice (some ⟨g,o,none⟩) 1 1] w (WrPost w wb a (out++t)):=by
 obtain ⟨c0,c1,f1,hlt⟩:=h.cells
 have H:=Lib.hid h;clear h
 have HC:=Lib.hid hc;clear hc
 go_enter Tryz.func54,Tryz.ntmps54
 go_wp2
 clear c0 c1 f1 hlt
 go_loopw [5,17] (fun _ i wr=>(i=.int .i64 0∧wr=w)∨(i=.int .i64 1∧∃ a' c',Wr wr wb a' c' (out++t)∧WK wb a w a' wr)) (fun _ i _=>1 - (intOf i).toNat)
 case atStart=>exact .inl ⟨rfl,rfl⟩
 case round=>
  rcases hrel with ⟨rfl,rfl⟩ | ⟨rfl,a',c',hw,hk⟩
  ·obtain ⟨c0,c1,f1,hlt⟩:=H.out.cells
   have hc:=HC.out
   go_wp2_with (at_builtin;refine wpList_app_u8 rfl rfl rfl H.out.own t.length (bC t) (src_str t) (by omega) ?_;intro a2 c2 w1 hown hk2 hnew;have ho2:=Lib.hid hown;have hk2':=Lib.hid hk2;have hn2:=Lib.hid hnew;obtain ⟨d0,d1,d2,d3⟩:=H.out.later (Kp.refl [] _) hk2;clear hown hk2 hnew)
   obtain ⟨p1,p2⟩:=H.out.put' (Kp.refl [] _) ho2.out hk2'.out hn2.out
   go_roundw
   case rel=>exact .inr ⟨rfl,a2,c2,p1,p2⟩
   case measure=>simp [intOf]
  ·have HW:=Lib.hid hw;have HK:=Lib.hid hk;clear hw hk
   go_wp2
   go_end0
   exact ⟨rfl,a',c',HW.out,HK.out⟩

set_option maxHeartbeats 1000000 in
set_option maxRecDepth 100000 in
theorem wr_put_uint64 (wb n c:Nat) (a:Option Addr) (out:Bs) (w:World) (h:Wr w wb a c out) (hn:n<18446744073709551616) (ho:out.length≤70368744177664) :
  Calls Tryz.prog 52 #[.pointer (some ⟨wb,0,none⟩),.int .u64 n] w (WrPost w wb a (out++fixB 8 n)):=by
 obtain ⟨c0,c1,f1,hlt⟩:=h.cells
 have H:=Lib.hid h;clear h
 go_enter Tryz.func52,Tryz.ntmps52
 go_wp2_with (go_at_call 79;refine (width_uint64 _).mono ?_;rintro e w' ⟨rfl,rfl⟩)
 clear c0 c1 f1 hlt
 go_loopw [4] (fun i wr=>∃ (k:Int) (c':Nat) (a':Option Addr) (pre:Bs),i=.int .i64 k ∧ -1≤k∧k≤7∧Hid (pre=out++(fixB 8 n).take (7 - k).toNat)∧Wr wr wb a' c' pre∧WK wb a w a' wr) (fun i _=>(intOf i+1).toNat)
 case atStart=>exact ⟨7,c,a,out,rfl,by omega,by omega,by show _=_;simp,H.out,WK.refl _ _ _⟩
 case round=>
  obtain ⟨k,c',a',pre,rfl,hk3,hk4,HP,hw,hk⟩:=hrel
  obtain ⟨c0,c1,f1,hlt⟩:=hw.cells
  have hpre:pre.length≤70368744177700:=by rw [HP.out];simp [fixB_len];omega
  have HW:=Lib.hid hw;clear hw
  have HK:=Lib.hid hk;clear hk
  rcases (show k = -1∨k=0∨k=1∨k=2∨k=3∨k=4∨k=5∨k=6∨k=7 by omega) with rfl | rfl | rfl | rfl | rfl | rfl | rfl | rfl | rfl
  ·have HQ:Hid (out++fixB 8 n=pre):=by show _=_;rw [HP.out];exact congrArg _ (List.take_of_length_le (by rw [fixB_len];omega)).symm
   go_wp2
   go_end0
   exact ⟨rfl,a',c',by rw [HQ.out];exact HW.out,HK.out⟩
  ·go_wp2_with (at_builtin;refine wpList_app_u8 rfl rfl rfl (HW.out.own.kp ((Kp.refl [] _).alloc _) (by simp)) 1 _ (src_one rfl _) (by omega) ?_;intro a2 c2 w1 hown hk2 hnew;have ho2:=Lib.hid hown;have hk2':=Lib.hid hk2;have hn2:=Lib.hid hnew;obtain ⟨d0,d1,d2,d3⟩:=HW.out.later ((Kp.refl [] _).alloc _) hk2;clear hown hk2 hnew)
   obtain ⟨p1,p2⟩:=HW.out.put' (t:=[(n / 256 ^ 0 % 256).toUInt8]) ((Kp.refl [] _).alloc _) (by rw [bC_byte _ (Nat.mod_lt _ (by omega))];exact own_cast (by omega) ho2.out) hk2'.out hn2.out
   go_roundw
   case rel=>exact ⟨-1,c2,a2,pre++[(n / 256 ^ 0 % 256).toUInt8],rfl,by omega,by omega,by show _=_;rw [HP.out];have:=fixB_take 8 n 0 (by omega);simp only [Nat.reduceSub,Nat.reduceAdd] at this;simp only [Int.reduceSub,Int.reduceNeg,Int.reduceToNat,this,List.append_assoc],p1,HK.out.trans p2⟩
   case measure=>simp [intOf]
  ·go_wp2_with (at_builtin;refine wpList_app_u8 rfl rfl rfl (HW.out.own.kp ((Kp.refl [] _).alloc _) (by simp)) 1 _ (src_one rfl _) (by omega) ?_;intro a2 c2 w1 hown hk2 hnew;have ho2:=Lib.hid hown;have hk2':=Lib.hid hk2;have hn2:=Lib.hid hnew;obtain ⟨d0,d1,d2,d3⟩:=HW.out.later ((Kp.refl [] _).alloc _) hk2;clear hown hk2 hnew)
   obtain ⟨p1,p2⟩:=HW.out.put' (t:=[(n / 256 ^ 1 % 256).toUInt8]) ((Kp.refl [] _).alloc _) (by rw [bC_byte _ (Nat.mod_lt _ (by omega))];exact own_cast (by omega) ho2.out) hk2'.out hn2.out
   go_roundw
   case rel=>exact ⟨0,c2,a2,pre++[(n / 256 ^ 1 % 256).toUInt8],rfl,by omega,by omega,by show _=_;rw [HP.out];have:=fixB_take 8 n 1 (by omega);simp only [Nat.reduceSub,Nat.reduceAdd] at this;simp only [Int.reduceSub,Int.reduceNeg,Int.reduceToNat,this,List.append_assoc],p1,HK.out.trans p2⟩
   case measure=>simp [intOf]
  ·go_wp2_with (at_builtin;refine wpList_app_u8 rfl rfl rfl (HW.out.own.kp ((Kp.refl [] _).alloc _) (by simp)) 1 _ (src_one rfl _) (by omega) ?_;intro a2 c2 w1 hown hk2 hnew;have ho2:=Lib.hid hown;have hk2':=Lib.hid hk2;have hn2:=Lib.hid hnew;obtain ⟨d0,d1,d2,d3⟩:=HW.out.later ((Kp.refl [] _).alloc _) hk2;clear hown hk2 hnew)
   obtain ⟨p1,p2⟩:=HW.out.put' (t:=[(n / 256 ^ 2 % 256).toUInt8]) ((Kp.refl [] _).alloc _) (by rw [bC_byte _ (Nat.mod_lt _ (by omega))];exact own_cast (by omega) ho2.out) hk2'.out hn2.out
   go_roundw
   case rel=>exact ⟨1,c2,a2,pre++[(n / 256 ^ 2 % 256).toUInt8],rfl,by omega,by omega,by show _=_;rw [HP.out];have:=fixB_take 8 n 2 (by omega);simp only [Nat.reduceSub,Nat.reduceAdd] at this;simp only [Int.reduceSub,Int.reduceNeg,Int.reduceToNat,this,List.append_assoc],p1,HK.out.trans p2⟩
   case measure=>simp [intOf]
  ·go_wp2_with (at_builtin;refine wpList_app_u8 rfl rfl rfl (HW.out.own.kp ((Kp.refl [] _).alloc _) (by simp)) 1 _ (src_one rfl _) (by omega) ?_;intro a2 c2 w1 hown hk2 hnew;have ho2:=Lib.hid hown;have hk2':=Lib.hid hk2;have hn2:=Lib.hid hnew;obtain ⟨d0,d1,d2,d3⟩:=HW.out.later ((Kp.refl [] _).alloc _) hk2;clear hown hk2 hnew)
   obtain ⟨p1,p2⟩:=HW.out.put' (t:=[(n / 256 ^ 3 % 256).toUInt8]) ((Kp.refl [] _).alloc _) (by rw [bC_byte _ (Nat.mod_lt _ (by omega))];exact own_cast (by omega) ho2.out) hk2'.out hn2.out
   go_roundw
   case rel=>exact ⟨2,c2,a2,pre++[(n / 256 ^ 3 % 256).toUInt8],rfl,by omega,by omega,by show _=_;rw [HP.out];have:=fixB_take 8 n 3 (by omega);simp only [Nat.reduceSub,Nat.reduceAdd] at this;simp only [Int.reduceSub,Int.reduceNeg,Int.reduceToNat,this,List.append_assoc],p1,HK.out.trans p2⟩
   case measure=>simp [intOf]
  ·go_wp2_with (at_builtin;refine wpList_app_u8 rfl rfl rfl (HW.out.own.kp ((Kp.refl [] _).alloc _) (by simp)) 1 _ (src_one rfl _) (by omega) ?_;intro a2 c2 w1 hown hk2 hnew;have ho2:=Lib.hid hown;have hk2':=Lib.hid hk2;have hn2:=Lib.hid hnew;obtain ⟨d0,d1,d2,d3⟩:=HW.out.later ((Kp.refl [] _).alloc _) hk2;clear hown hk2 hnew)
   obtain ⟨p1,p2⟩:=HW.out.put' (t:=[(n / 256 ^ 4 % 256).toUInt8]) ((Kp.refl [] _).alloc _) (by rw [bC_byte _ (Nat.mod_lt _ (by omega))];exact own_cast (by omega) ho2.out) hk2'.out hn2.out
   go_roundw
   case rel=>exact ⟨3,c2,a2,pre++[(n / 256 ^ 4 % 256).toUInt8],rfl,by omega,by omega,by show _=_;rw [HP.out];have:=fixB_take 8 n 4 (by omega);simp only [Nat.reduceSub,Nat.reduceAdd] at this;simp only [Int.reduceSub,Int.reduceNeg,Int.reduceToNat,this,List.append_assoc],p1,HK.out.trans p2⟩
   case measure=>simp [intOf]
  ·go_wp2_with (at_builtin;refine wpList_app_u8 rfl rfl rfl (HW.out.own.kp ((Kp.refl [] _).alloc _) (by simp)) 1 _ (src_one rfl _) (by omega) ?_;intro a2 c2 w1 hown hk2 hnew;have ho2:=Lib.hid hown;have hk2':=Lib.hid hk2;have hn2:=Lib.hid hnew;obtain ⟨d0,d1,d2,d3⟩:=HW.out.later ((Kp.refl [] _).alloc _) hk2;clear hown hk2 hnew)
   obtain ⟨p1,p2⟩:=HW.out.put' (t:=[(n / 256 ^ 5 % 256).toUInt8]) ((Kp.refl [] _).alloc _) (by rw [bC_byte _ (Nat.mod_lt _ (by omega))];exact own_cast (by omega) ho2.out) hk2'.out hn2.out
   go_roundw
   case rel=>exact ⟨4,c2,a2,pre++[(n / 256 ^ 5 % 256).toUInt8],rfl,by omega,by omega,by show _=_;rw [HP.out];have:=fixB_take 8 n 5 (by omega);simp only [Nat.reduceSub,Nat.reduceAdd] at this;simp only [Int.reduceSub,Int.reduceNeg,Int.reduceToNat,this,List.append_assoc],p1,HK.out.trans p2⟩
   case measure=>simp [intOf]
  ·go_wp2_with (at_builtin;refine wpList_app_u8 rfl rfl rfl (HW.out.own.kp ((Kp.refl [] _).alloc _) (by simp)) 1 _ (src_one rfl _) (by omega) ?_;intro a2 c2 w1 hown hk2 hnew;have ho2:=Lib.hid hown;have hk2':=Lib.hid hk2;have hn2:=Lib.hid hnew;obtain ⟨d0,d1,d2,d3⟩:=HW.out.later ((Kp.refl [] _).alloc _) hk2;clear hown hk2 hnew)
   obtain ⟨p1,p2⟩:=HW.out.put' (t:=[(n / 256 ^ 6 % 256).toUInt8]) ((Kp.refl [] _).alloc _) (by rw [bC_byte _ (Nat.mod_lt _ (by omega))];exact own_cast (by omega) ho2.out) hk2'.out hn2.out
   go_roundw
   case rel=>exact ⟨5,c2,a2,pre++[(n / 256 ^ 6 % 256).toUInt8],rfl,by omega,by omega,by show _=_;rw [HP.out];have:=fixB_take 8 n 6 (by omega);simp only [Nat.reduceSub,Nat.reduceAdd] at this;simp only [Int.reduceSub,Int.reduceNeg,Int.reduceToNat,this,List.append_assoc],p1,HK.out.trans p2⟩
   case measure=>simp [intOf]
  ·go_wp2_with (at_builtin;refine wpList_app_u8 rfl rfl rfl (HW.out.own.kp ((Kp.refl [] _).alloc _) (by simp)) 1 _ (src_one rfl _) (by omega) ?_;intro a2 c2 w1 hown hk2 hnew;have ho2:=Lib.hid hown;have hk2':=Lib.hid hk2;have hn2:=Lib.hid hnew;obtain ⟨d0,d1,d2,d3⟩:=HW.out.later ((Kp.refl [] _).alloc _) hk2;clear hown hk2 hnew)
   obtain ⟨p1,p2⟩:=HW.out.put' (t:=[(n / 256 ^ 7 % 256).toUInt8]) ((Kp.refl [] _).alloc _) (by rw [bC_byte _ (Nat.mod_lt _ (by omega))];exact own_cast (by omega) ho2.out) hk2'.out hn2.out
   go_roundw
   case rel=>exact ⟨6,c2,a2,pre++[(n / 256 ^ 7 % 256).toUInt8],rfl,by omega,by omega,by show _=_;rw [HP.out];have:=fixB_take 8 n 7 (by omega);simp only [Nat.reduceSub,Nat.reduceAdd] at this;simp only [Int.reduceSub,Int.reduceNeg,Int.reduceToNat,this,List.append_assoc],p1,HK.out.trans p2⟩
   case measure=>simp [intOf]

end Go.Proofs.YtgjaaffheanobaaGreat