/- The program's hash of a text: it is begun, and takes a text in. -/
import Derived.Test.YtgjaaffheanobaaGreatZ40
import Derived.Test.YtgjaaffheanobaaGreatZ23
import Derived.Test.YtgjaaffheanobaaGreatZ30
import Derived.Test.YtgjaaffheanobaaGreatZ10
import Derived.Test.YtgjaaffheanobaaGreatZ36
import Derived.Deep.RegionHeld3
namespace Go.Proofs.YtgjaaffheanobaaGreat
set_option maxHeartbeats 1000000
set_option maxRecDepth 100000
set_option linter.unusedVariables false
set_option linter.unusedSimpArgs false
open Go Go.RowKit

def hashC (v:V8) (r:Value) (n:Int):Array Value:=#[.bool true,.int .u32 (W v.a),.int .u32 (W v.b),.int .u32 (W v.c),.int .u32 (W v.d),.int .u32 (W v.e),.int .u32 (W v.f),.int .u32 (W v.g),.int .u32 (W v.h),r,.int .i64 n]

def bldH (v : Value) : Sem Next := execOp (Act.eval ⟨#[], []⟩) { dst := none, op := .build 219 #[(0, .const (.bool true)), (1, .const v)], type := 0, pos := "", after := #[], guard := none }
@[go_sem ↓] theorem exec_build_h (a:Act) (x:Operand) (dst:Option Tmp) (ty:TypeId) (pos:String) (after:Array Edge) (guard:Option (Nat×Bool)) (w:World) :
  (execOp a.eval { dst,op:=.build 219 #[(0,.const (.bool true)),(1,x)],type:=ty,pos,after,guard }).run Tryz.prog w=(bldH (a.eval x)).run Tryz.prog w:=by kernel_rfl
@[go_sem] theorem run_bldH (v:V8) (w:World):(bldH (.agg (wC v.l).toArray)).run Tryz.prog w=.ok (.value (.agg (hashC v (.slice none 0 0) 0))) w:=by kernel_rfl

def NewPost (w:World) (e:Ending) (w':World):Prop:=∃ H,e=.returned (.pointer (some ⟨H,0,none⟩))∧Blk w' H 219 (hashC shaH (.slice none 0 0) 0)∧Kp [] w w'∧w.heap.size≤H

theorem new_any (w:World):Calls Tryz.prog 94 #[] w (NewPost w):=by
 go_enter Tryz.func94,Tryz.ntmps94
 go_wp2_with (go_at_call 122;refine (begin_any _).mono ?_;rintro e w' ⟨rfl,bs,n,rfl⟩)
 go_ret
 exact ⟨_,rfl,(by have h:=Blk.new (ext w bs n) 219 (hashC shaH (.slice none 0 0) 0);simpa using h),((Kp.refl [] w).ext _ _).alloc _,by simp⟩

theorem hash_ext (v:V8) (r:Value) (n:Int):(hashC v r n).extract 1 (1+8)=(wC v.l).toArray:=rfl
theorem hash_size (v:V8) (r:Value) (n:Int):1+8≤(hashC v r n).size:=by show 9≤11;omega
theorem hash_spl (v u:V8) (r:Value) (n:Int):spl (hashC v r n) 1 (wC u.l).toArray=hashC u r n:=rfl

/-! What has been taken in. -/
theorem takeAll_app : ∀ (q : Nat) (h : V8) (x y : Bs), 64 * q ≤ x.length → takeAll q h (x ++ y) = takeAll q h x
 | 0, _, _, _, _ => rfl
 | q + 1, h, x, y, hl => by
  unfold takeAll
  rw [List.take_append_of_le_length (by omega), List.drop_append_of_le_length (by omega)]
  exact takeAll_app q _ _ _ (by simp; omega)
theorem takeAll_succ:∀ (q:Nat) (h:V8) (l:Bs),takeAll (q+1) h l=takeIn (takeAll q h l) ((l.drop (64*q)).take 64)
 | 0,_,_=>rfl
 | q+1,h,l=>by
  rw [takeAll,takeAll_succ q]
  rw [List.drop_drop,show 64+64*q=64*(q+1) by omega]
  rfl

def stV (d:Bs):V8:=takeAll (d.length / 64) shaH d
def stR (d:Bs):Bs:=d.drop (64*(d.length / 64))
theorem stR_len (d:Bs):(stR d).length=d.length % 64:=by simp [stR];omega
theorem st_few (d u:Bs) (h:(stR d).length+u.length<64):stV (d++u)=stV d∧stR (d++u)=stR d++u:=by
 rw [stR_len] at h
 have e:(d++u).length / 64=d.length / 64:=by rw [List.length_append];omega
 unfold stV stR
 rw [e,takeAll_app _ _ _ _ (by omega),List.drop_append_of_le_length (by omega)]
 exact ⟨rfl,rfl⟩
theorem st_full (d u:Bs) (h:(stR d).length+u.length=64):stV (d++u)=takeIn (stV d) (stR d++u)∧stR (d++u)=[]:=by
 rw [stR_len] at h
 have e:(d++u).length / 64=d.length / 64+1:=by rw [List.length_append];omega
 unfold stV stR
 rw [e,takeAll_succ,takeAll_app _ _ _ _ (by omega),List.drop_append_of_le_length (by omega)]
 refine ⟨?_,List.drop_of_length_le (by rw [List.length_append];omega)⟩
 rw [List.take_of_length_le (by simp;omega)]
structure HsI (w:World) (lo H:Nat) (d:Bs) (N:Int) (a:Option Addr) (c:Nat):Prop where
 blk:Blk w H 219 (hashC (stV d) (.slice a (stR d).length c) N)
 own:Own w 5 1 a (stR d).length c (bC (stR d))
 ne:H ∉ ab a
 lo:∀ g∈ab a,lo≤g

theorem HsI.facts {w:World} {lo H:Nat} {d:Bs} {N:Int} {a:Option Addr} {c:Nat} (h:HsI w lo H d N a c) :
  w.cell? ⟨H,0,none⟩=some (.bool true)∧w.cell? ⟨H,9,none⟩=some (.slice a (stR d).length c)∧w.cell? ⟨H,10,none⟩=some (.int .i64 N)∧w.frozen? ⟨H,9,none⟩=false∧w.frozen? ⟨H,10,none⟩=false∧H<w.heap.size:=
 ⟨h.blk.cell 0,h.blk.cell 9,h.blk.cell 10,h.blk.frozen 9,h.blk.frozen 10,h.blk.lt⟩

theorem hdead_any (H:Nat) (w:World) (h:w.cell? ⟨H,0,none⟩=some (.bool true)):Calls Tryz.prog 123 #[.pointer (some ⟨H,0,none⟩)] w fun e w'=>e=.returned (.bool false)∧w=w':=by
 go_enter Tryz.func123,Tryz.ntmps123
 go_wp2
 go_ret
 exact ⟨rfl,rfl⟩

@[go_sem] theorem run_arrayAt64 (a:Addr) (n c:Nat) (w:World) (h:64≤n):(Instr.arrayAt 221 (.slice (some a) n c)).run Tryz.prog w=.ok (.pointer (some a)) w:=by
 have hn:¬ n<64:=by omega
 simp [Instr.arrayAt,Sem.run_bind,run_underlying Tryz.underlying221,hn]

def strLen:Value→Nat
 | .string b=>b.size
 | _=>0

theorem step_app_u8 {w:World} {ops:Array Oper} {o:Oper} {A:Act} {K:Act→World→Prop} {Q:Exit→Act→World→Prop} {E:Prop} (hgd:o.guard=none) {s x:Operand} {tx:TypeId}
  (ho:o.op=.call { callee:=.builtin .append,args:=#[s,x],argTypes:=#[114,tx] })
  {a:Option Addr} {n c:Nat} {xs:List Value} (hs:A.eval s=.slice a n c) (hown:Own w 5 1 a n c xs) (m:Nat) (news:List Value) {xv:Value} (hx:A.eval x=xv) (hsrc:Src Tryz.prog 1 tx xv m news w)
  (h63:n+m≤140737488355328)
  (h:∀ a' c' w',Own w' 5 1 a' (n+m) c' (xs++news)→Kp (ab a) w w'→(∀ g∈ab a',g∈ab a∨w.heap.size≤g)→K (A.put o.dst (.slice a' (n+m) c')) w') :
  if Region.wanted o (yielded ops A.tmps)=true then Oper.wp Tryz.prog o A w K Q else E:=by
 have hw:Region.wanted o (yielded ops A.tmps)=true:=by simp [Region.wanted,hgd]
 rw [if_pos hw]
 subst hx
 obtain ⟨i0,hi,hz0,hz1,hz2⟩:=info_parts Tryz.infoU8
 exact wp_app w s x 114 tx ho 5 i0 (.int .u8 0) 1 1 Tryz.underlying114 hi hz0 hz1 hz2 rfl a n c xs hs hown m news hsrc (by omega) (by unfold maxLen;omega) h

theorem str_take (s:Bs) (n:Nat):ByteArray.extract ⟨s.toArray⟩ 0 n=⟨(s.take n).toArray⟩:=by
 have:=ext_drop s 0 n
 simpa using this
theorem str_drop (s:Bs) (n:Nat):ByteArray.extract ⟨s.toArray⟩ n s.length=⟨(s.drop n).toArray⟩:=by
 have h:=ext_drop s n (s.length - n)
 by_cases hn:n≤s.length
 ·rw [show n+(s.length - n)=s.length by omega] at h
  rw [h,List.take_of_length_le (by simp)]
 ·rw [List.drop_of_length_le (by omega)]
  congr 1
  apply ByteArray.ext
  rw [ByteArray.data_extract]
  apply Array.ext'
  simp [List.extract_eq_take_drop]
  omega

theorem own_row {w:World} {g n c:Nat} {l:Bs} (h:Own w 5 1 (some ⟨g,0,none⟩) n c (bC l)) (hn:0<n):rowAt? w ⟨g,0,none⟩ n=some (bC l).toArray:=by
 have hl:(bC l).length=n:=by have:=h.block.1;omega
 refine row_of_cells hn hl (fun i hi=>?_)
 have h1:=h.cells rfl i ((bC l)[i]'(by omega)) (List.getElem?_eq_getElem (by omega))
 rw [Addr.add_lit] at h1
 rw [h1,List.getElem?_eq_getElem (by omega)]
theorem own_zero {w:World} {e:TypeId} {a:Option Addr} {n c:Nat} {xs:List Value} (h:Own w e 1 a n c xs):Own w e 1 a 0 c []:=by
 refine ⟨by simp,?_⟩
 rcases h.2 with ⟨h1,h2⟩ | ⟨g,cap,cur,h1,h2,h3,h4,h5,h6,h7⟩
 ·cases h1;exact .inl ⟨rfl,rfl⟩
 ·cases h1;exact .inr ⟨g,_,cur,rfl,h2,h3,Nat.zero_le _,h5,h6,by simp⟩
theorem own_at {w:World} {e:TypeId} {size:Nat} {a:Option Addr} {n c:Nat} {xs:List Value} (h:Own w e size a n c xs) (hn:0<n):∃ g,a=some ⟨g,0,none⟩∧n≤c∧g<w.heap.size:=by
 rcases h.block.2 with ⟨_,h1,_⟩ | ⟨g,cur,h1,hb,h2,_⟩
 ·omega
 ·exact ⟨g,h1,h2,hb.lt⟩

def WritePost (w:World) (H:Nat) (s:Bs) (e:Ending) (w':World):Prop:=∃ a c,e=.returned (.tuple #[])∧HsI w' w.heap.size H s s.length a c∧Kp [H] w w'

theorem write_any (H g:Nat) (s:Bs) (w:World) (h:Blk w H 219 (hashC shaH (.slice none 0 0) 0)) (hc:w.cell? ⟨g,0,none⟩=some (.string ⟨s.toArray⟩)) (hg:g≠H) (hs:s.length≤140737488355328) :
  Calls Tryz.prog 95 #[.pointer (some ⟨H,0,none⟩),.slice (some ⟨g,0,none⟩) 1 1] w (WritePost w H s):=by
 have h0:w.cell? ⟨H,0,none⟩=some (.bool true):=h.cell 0
 have hH:=Lib.hid h;have HC:=Lib.hid hc
 clear h hc
 go_enter Tryz.func95,Tryz.ntmps95
 go_wp2_with (go_at_call 123;refine (hdead_any H _ h0).mono ?_;rintro e w' ⟨rfl,rfl⟩)
 clear h0
 go_loopw [11] (fun i wr=>(i=.int .i64 0∧wr=w)∨(i=.int .i64 1∧∃ a c,Hid (HsI wr w.heap.size H s s.length a c)∧Hid (Kp [H] w wr))) (fun i _=>1 - (intOf i).toNat)
 case atStart=>exact .inl ⟨rfl,rfl⟩
 case round=>
  rcases hrel with ⟨rfl,rfl⟩ | ⟨rfl,a,c,hw,hk⟩
  ·have hc:=HC.out
   have q10:wr.cell? ⟨H,10,none⟩=some (.int .i64 0):=hH.out.cell 10
   have qf:wr.frozen? ⟨H,10,none⟩=false:=hH.out.frozen 10
   have ql:=hH.out.lt
   have i0:IntKind.i64.wrap (0+(s.length:Int))=s.length:=by rw [Int.zero_add];exact IntWalk.i64_in _ (by omega)
   have I0:Hid (HsI (wr.setCell ⟨H,10,none⟩ (.int .i64 (s.length:Int))) wr.heap.size H [] s.length none 0):=Lib.hid ⟨by have:=hH.out.set 10 (.int .i64 (s.length:Int));exact this,Own.nil _ _ _,by simp [ab],by simp [ab]⟩
   go_wp2_with fail
   clear hc q10 qf ql i0
   obtain ⟨wo,rfl⟩:∃ wo:World,wo=wr:=⟨_,rfl⟩
   have K1:Hid (Kp [H] wo (wo.setCell ⟨H,10,none⟩ (.int .i64 (s.length:Int)))):=Lib.hid ((Kp.refl [H] wo).setCell _ (.inr (by simp)))
   go_loopw [5] (fun p wx=>∃ (d u:Bs) (a:Option Addr) (c:Nat),p=.string ⟨u.toArray⟩∧Hid (d++u=s)∧Hid (HsI wx wo.heap.size H d s.length a c)∧Hid (Kp [H] wo wx)) (fun p _=>strLen p)
   case atStart=>exact ⟨[],s,none,0,rfl,rfl,I0,K1⟩
   case round=>
    clear I0 K1
    obtain ⟨d,u,a,c,rfl,HD,HI,HK⟩:=hrel
    obtain ⟨q0,q1,q2,q3,q4,q5⟩:=HI.out.facts
    have hm:(stR d).length<64:=by rw [stR_len];omega
    have hdl:d.length+u.length=s.length:=by rw [← HD.out];simp
    by_cases hu:u.length=0
    ·have HE:Hid (u=[]):=Lib.hid (List.eq_nil_of_length_eq_zero hu)
     go_wp2_with fail
     go_roundw
     case rel=>exact .inr ⟨rfl,a,c,(by have:=HD.out;rw [HE.out,List.append_nil] at this;rw [← this];have h:=HI;rw [← this] at h;exact h),HK⟩
     case measure=>simp [intOf]
    ·by_cases hf:64≤(stR d).length+u.length
     ·obtain ⟨kk,hkk⟩:∃ kk:Nat,kk+(stR d).length=64:=⟨64 - (stR d).length,by omega⟩
      have i1:IntKind.i64.wrap (64 - ((stR d).length:Int))=kk:=by rw [show (64:Int) - ((stR d).length:Int)=kk by omega];exact IntWalk.i64_in _ (by omega)
      have j1:¬ ((u.length:Int)<(kk:Int)):=by omega
      have j2:(kk:Int)≤(u.length:Int):=by omega
      obtain ⟨x,hx⟩:∃ x,u.take kk=x:=⟨_,rfl⟩
      obtain ⟨y,hy⟩:∃ y,u.drop kk=y:=⟨_,rfl⟩
      have hxl:x.length=kk:=by rw [← hx,List.length_take];omega
      have hxy:x++y=u:=by rw [← hx,← hy,List.take_append_drop]
      have st:ByteArray.extract ⟨u.toArray⟩ 0 kk=⟨x.toArray⟩:=by rw [str_take,hx]
      have sd:ByteArray.extract ⟨u.toArray⟩ kk u.length=⟨y.toArray⟩:=by rw [str_drop,hy]
      have HLEN:Hid ((stR d).length+x.length=64):=Lib.hid (by omega)
      have HXY:=Lib.hid hxy
      have hyl:y.length+kk=u.length:=by rw [← hxy,List.length_append];omega
      have hxk:x.length=kk:=hxl
      clear hx hy hxl hxy
      go_wp2_with fail
      go_region_law (first | (refine step_app_u8 rfl rfl (by simp [Act.eval,Act.put]) (HI.out.own.kp (by first | exact (Kp.refl [] _).drew | exact Kp.refl [] _) (by simp)) x.length (bC x) (by simp [Act.eval,Act.put]) (src_str x) (by omega) ?_;intro a2 c2 w2 o2 k2 n2;rw [HLEN.out];have HO2:Hid (Own w2 5 1 a2 64 c2 (bC (stR d++x))):=Lib.hid (by rw [bC_app,← HLEN.out];exact o2);have HN2:=Lib.hid n2;have HK2:Hid (Kp (ab a) wr w2):=Lib.hid (by first | exact (((Kp.refl _ _).drew).trans k2) | exact k2);have HB2:=Lib.hid (HI.out.blk.kp HK2.out HI.out.ne);clear o2 k2 n2;have r0:w2.cell? ⟨H,9,none⟩=some (.slice a (stR d).length c):=HB2.out.cell 9;have r1:=HB2.out.frozen 9;have r2:=HB2.out.lt))
      all_goals go_wp2_with fail
      all_goals
       obtain ⟨g2,rfl,hc2,hg2⟩:=own_at HO2.out (by omega)
       have hne2:H ∉ ab (some ⟨g2,0,none⟩):=fun e=>by
        rcases HN2.out H e with h | h
        ·exact HI.out.ne h
        ·have h':wr.heap.size≤H:=h;omega
       have B3:Hid (Blk (w2.setCell ⟨H,9,none⟩ (.slice (some ⟨g2,0,none⟩) 64 c2)) H 219 (hashC (stV d) (.slice (some ⟨g2,0,none⟩) 64 c2) s.length)):=Lib.hid (HB2.out.set 9 (.slice (some ⟨g2,0,none⟩) 64 c2))
       have K3:Hid (Kp [H] w2 (w2.setCell ⟨H,9,none⟩ (.slice (some ⟨g2,0,none⟩) 64 c2))):=Lib.hid ((Kp.refl [H] w2).setCell _ (.inr (by simp)))
       have O3:=Lib.hid (HO2.out.kp K3.out (by intro g' hg';simp only [List.mem_cons,List.not_mem_nil,or_false];rintro rfl;exact hne2 hg'))
       generalize hw3:w2.setCell ⟨H,9,none⟩ (.slice (some ⟨g2,0,none⟩) 64 c2)=w3 at B3 K3 O3 ⊢
       have rg:=own_row O3.out (by omega)
       have s0:w3.cell? ⟨H,9,none⟩=some (.slice (some ⟨g2,0,none⟩) 64 c2):=B3.out.cell 9
       have s1:=B3.out.lt
       have s2:g2<w3.heap.size:=by have:=K3.out.size;omega
       have HNE:=Lib.hid hne2
       have hxl:(stR d++x).length=64:=by rw [List.length_append];exact HLEN.out
       have HXL:=Lib.hid hxl
       clear hw3 r0 r1 r2 q0 q1 q2 q3 q4 q5 i1 j1 j2 st sd hne2 hxl
       go_still_tail 9,(by kernel_rfl)
       change wpList _ _ _ _ _ w3.drew
       go_wp2_with fail
       refine (block_any H 1 219 _ (stV d) (stR d++x) _ B3.out.drew (hash_size _ _ _) (hash_ext _ _ _) HXL.out).mono ?_;rintro e w4 ⟨rfl,k4,b4⟩;rw [hash_spl] at b4;have K4:Hid (Kp [H] w3 w4):=Lib.hid (((Kp.refl _ _).drew).trans k4);have B4:=Lib.hid b4;clear k4 b4;have t0:w4.cell? ⟨H,9,none⟩=some (.slice (some ⟨g2,0,none⟩) 64 c2):=B4.out.cell 9;have t1:=B4.out.frozen 9;have t2:=B4.out.lt
       go_wp2_with fail
       clear rg s0 s1 s2
       have hst:=Lib.hid (st_full d x HLEN.out)
       have hzo:=HK.out.size
       have hlo:Hid (∀ g'∈ab (some (⟨g2,0,none⟩:Addr)),wo.heap.size≤g'):=Lib.hid (fun g' hg'=>by
        rcases HN2.out g' hg' with h | h
        ·exact HI.out.lo g' h
        ·have h':wr.heap.size≤g':=h;omega)
       have kwo:Hid (Kp [H] wo (w4.setCell ⟨H,9,none⟩ (.slice (some ⟨g2,0,none⟩) 0 c2))):=Lib.hid ((((HK.out.from HK2.out (fun g' hg'=>.inl (HI.out.lo g' hg'))).trans K3.out).trans K4.out).setCell _ (.inr (by simp)))
       go_roundw
       case rel=>exact ⟨d++x,y,some ⟨g2,0,none⟩,c2,rfl,Lib.hid (by rw [List.append_assoc,HXY.out,HD.out]),Lib.hid ⟨by rw [hst.out.1,hst.out.2];exact B4.out.set 9 _,by rw [hst.out.2];exact (own_zero (O3.out.kp K4.out (by intro g' hg';simp only [List.mem_cons,List.not_mem_nil,or_false];rintro rfl;exact HNE.out hg'))).kp ((Kp.refl [H] _).setCell _ (.inr (by simp))) (by intro g' hg';simp only [List.mem_cons,List.not_mem_nil,or_false];rintro rfl;exact HNE.out hg'),HNE.out,hlo.out⟩,kwo⟩
       case measure=>(show y.toArray.size<u.toArray.size;simp only [List.size_toArray];omega)
     ·have i1:IntKind.i64.wrap (64 - ((stR d).length:Int))=64 - (stR d).length:=IntWalk.i64_in _ (by omega)
      have j1:((u.length:Int)<64 - ((stR d).length:Int)):=by omega
      have hS:=st_few d u (by omega)
      have st:ByteArray.extract ⟨u.toArray⟩ 0 u.length=⟨u.toArray⟩:=by rw [str_take,List.take_of_length_le (Nat.le_refl _)]
      have sd:ByteArray.extract ⟨u.toArray⟩ u.length u.length=⟨([]:Bs).toArray⟩:=by rw [str_drop,List.drop_of_length_le (Nat.le_refl _)]
      have HLEN:Hid ((stR d).length+u.length=(stR (d++u)).length):=Lib.hid (by rw [hS.2,List.length_append])
      have hb:(((stR (d++u)).length:Int) == 64)=false:=by rw [← HLEN.out];simp only [beq_eq_false_iff_ne];omega
      have HS:=Lib.hid hS
      clear hS
      go_wp2_with fail
      go_region_law (first | (refine step_app_u8 rfl rfl (by simp [Act.eval,Act.put]) (HI.out.own.kp (by first | exact (Kp.refl [] _).drew | exact Kp.refl [] _) (by simp)) u.length (bC u) (by simp [Act.eval,Act.put]) (src_str u) (by omega) ?_;intro a2 c2 w2 o2 k2 n2;rw [HLEN.out];have HO2:Hid (Own w2 5 1 a2 (stR (d++u)).length c2 (bC (stR (d++u)))):=Lib.hid (by rw [HS.out.2,bC_app,← HS.out.2,← HLEN.out];exact o2);have HN2:=Lib.hid n2;have HK2:Hid (Kp (ab a) wr w2):=Lib.hid (by first | exact (((Kp.refl _ _).drew).trans k2) | exact k2);have HB2:=Lib.hid (HI.out.blk.kp HK2.out HI.out.ne);clear o2 k2 n2;have r0:w2.cell? ⟨H,9,none⟩=some (.slice a (stR d).length c):=HB2.out.cell 9;have r1:=HB2.out.frozen 9;have r2:=HB2.out.lt))
      all_goals go_wp2_with fail
      all_goals
       have hne2:H ∉ ab a2:=fun e=>by
        rcases HN2.out H e with h | h
        ·exact HI.out.ne h
        ·have h':wr.heap.size≤H:=h;omega
       have hzo:=HK.out.size
       have hlo:Hid (∀ g'∈ab a2,wo.heap.size≤g'):=Lib.hid (fun g' hg'=>by
        rcases HN2.out g' hg' with h | h
        ·exact HI.out.lo g' h
        ·have h':wr.heap.size≤g':=h;omega)
       have kwo:Hid (Kp [H] wo (w2.setCell ⟨H,9,none⟩ (.slice a2 (stR (d++u)).length c2))):=Lib.hid ((HK.out.from HK2.out (fun g' hg'=>.inl (HI.out.lo g' hg'))).setCell _ (.inr (by simp)))
       go_roundw
       case rel=>exact ⟨d++u,[],a2,c2,rfl,Lib.hid (by rw [List.append_nil,HD.out]),Lib.hid ⟨by rw [HS.out.1];exact HB2.out.set 9 _,HO2.out.kp ((Kp.refl [H] _).setCell _ (.inr (by simp))) (by intro g' hg';simp only [List.mem_cons,List.not_mem_nil,or_false];rintro rfl;exact hne2 hg'),hne2,hlo.out⟩,kwo⟩
       case measure=>(show ByteArray.empty.size<u.toArray.size;simp only [List.size_toArray,ByteArray.size_empty];omega)
  ·go_wp2_with fail
   go_end0
   exact ⟨a,c,rfl,hw.out,hk.out⟩


/-! The plain part: what is left over, padded. -/
def tailB (s : Bs) : Bs := stR s ++ padZ s.length ++ len8 s.length
theorem padZ_len (n:Nat):(padZ n).length=1+(119 - n % 64) % 64:=by simp [padZ];omega
theorem len8_len (n:Nat):(len8 n).length=8:=rfl
theorem tailB_len (s:Bs):∃ q,(tailB s).length=64*q:=by
 unfold tailB
 rw [List.length_append,List.length_append,stR_len,padZ_len,len8_len]
 exact ⟨(s.length % 64+(1+(119 - s.length % 64) % 64)+8) / 64,by omega⟩
theorem takeAll_add:∀ (q m:Nat) (h:V8) (l:Bs),takeAll (q+m) h l=takeAll m (takeAll q h l) (l.drop (64*q))
 | 0,m,h,l=>by simp [takeAll]
 | q+1,m,h,l=>by
  rw [show q+1+m=(q+m)+1 by omega,takeAll,takeAll_add q m,List.drop_drop,takeAll,show 64+64*q=64*(q+1) by omega]
theorem shaL_tail (s:Bs):shaL s=(takeAll ((tailB s).length / 64) (stV s) (tailB s)).bytes:=by
 have h0:padded s=s++(padZ s.length++len8 s.length):=by unfold padded;rw [List.append_assoc]
 have h1:(padded s).drop (64*(s.length / 64))=tailB s:=by
  rw [h0,List.drop_append_of_le_length (by omega)]
  unfold tailB stR
  rw [List.append_assoc]
 have h2:(padded s).length=64*(s.length / 64)+(tailB s).length:=by
  rw [← h1,List.length_drop,h0,List.length_append];omega
 unfold shaL
 rw [h2,show (64*(s.length / 64)+(tailB s).length) / 64=s.length / 64+(tailB s).length / 64 by omega,takeAll_add,h1]
 congr 2
 unfold stV
 rw [h0,takeAll_app _ _ _ _ (by omega)]
theorem bytes_len (v:V8):v.bytes.length=32:=rfl
theorem shaL_len (s:Bs):(shaL s).length=32:=bytes_len _
def sha (s:Bs):Dg:=⟨shaL s,shaL_len s⟩

def fillB (l:Bs):Bs:=l++List.replicate (32 - l.length) 0
theorem fillB_len {l:Bs} (h:l.length≤32):(fillB l).length=32:=by simp [fillB];omega
theorem bC_set (l:Bs) (i:Nat) (x:UInt8):(bC l).toArray.setIfInBounds i (.int .u8 (x.toNat:Int))=(bC (l.set i x)).toArray:=by
 simp [bC,List.map_set]
theorem fillB_set {l:Bs} {k:Nat} {x:UInt8} (h:k<32) (hk:(l.take k).length=k) (hx:l[k]?=some x):(fillB (l.take k)).set k x=fillB (l.take (k+1)):=by
 unfold fillB
 rw [List.set_append_right _ _ (by omega),hk,Nat.sub_self]
 obtain ⟨m,hm⟩:∃ m,32 - k=m+1:=⟨31 - k,by omega⟩
 rw [hm,List.replicate_succ,List.set_cons_zero,List.take_add_one,hx]
 have e:32 - (l.take k++(some x).toList).length=m:=by rw [List.length_append,hk];simp;omega
 rw [e,List.append_assoc]
 rfl
theorem bytes_get (v:V8) (i:Nat) (x:W32) (h:v.l[i]?=some x):v.bytes[4*i]?=some (x >>> 24).toUInt8∧v.bytes[4*i+1]?=some (x >>> 16).toUInt8∧v.bytes[4*i+2]?=some (x >>> 8).toUInt8∧v.bytes[4*i+3]?=some x.toUInt8:=by
 match i,h with
 | 0,h=>(simp [V8.l] at h;subst h;exact ⟨rfl,rfl,rfl,rfl⟩)
 | 1,h=>(simp [V8.l] at h;subst h;exact ⟨rfl,rfl,rfl,rfl⟩)
 | 2,h=>(simp [V8.l] at h;subst h;exact ⟨rfl,rfl,rfl,rfl⟩)
 | 3,h=>(simp [V8.l] at h;subst h;exact ⟨rfl,rfl,rfl,rfl⟩)
 | 4,h=>(simp [V8.l] at h;subst h;exact ⟨rfl,rfl,rfl,rfl⟩)
 | 5,h=>(simp [V8.l] at h;subst h;exact ⟨rfl,rfl,rfl,rfl⟩)
 | 6,h=>(simp [V8.l] at h;subst h;exact ⟨rfl,rfl,rfl,rfl⟩)
 | 7,h=>(simp [V8.l] at h;subst h;exact ⟨rfl,rfl,rfl,rfl⟩)
 | i+8,h=>simp [V8.l] at h
theorem W_b (x:W32) (k:Nat) (hk:k<32):(W x / (2 ^ k:Nat)) % (256:Int)=((x >>> (UInt32.ofNat k)).toUInt8.toNat:Int):=by
 have:=W_shr x k hk
 rw [this,UInt32.toNat_toUInt8]
 unfold W
 simp
theorem W_b24 (x:W32):IntKind.u8.wrap (W x / (16777216:Int))=((x >>> 24).toUInt8.toNat:Int):=by rw [IntKind.wrap_u8'];exact W_b x 24 (by omega)
theorem W_b16 (x:W32):IntKind.u8.wrap (W x / (65536:Int))=((x >>> 16).toUInt8.toNat:Int):=by rw [IntKind.wrap_u8'];exact W_b x 16 (by omega)
theorem W_b8 (x:W32):IntKind.u8.wrap (W x / (256:Int))=((x >>> 8).toUInt8.toNat:Int):=by rw [IntKind.wrap_u8'];exact W_b x 8 (by omega)
theorem W_b0 (x:W32):IntKind.u8.wrap (W x)=(x.toUInt8.toNat:Int):=by
 rw [IntKind.wrap_u8',UInt32.toNat_toUInt8];unfold W;simp

theorem run_index_st0 (v:V8) (w:World):(Instr.index 216 (.agg (wC v.l).toArray) (.int .i64 0)).run Tryz.prog w=.ok (.int .u32 (W v.a)) w:=by kernel_rfl
theorem run_index_st1 (v:V8) (w:World):(Instr.index 216 (.agg (wC v.l).toArray) (.int .i64 1)).run Tryz.prog w=.ok (.int .u32 (W v.b)) w:=by kernel_rfl
theorem run_index_st2 (v:V8) (w:World):(Instr.index 216 (.agg (wC v.l).toArray) (.int .i64 2)).run Tryz.prog w=.ok (.int .u32 (W v.c)) w:=by kernel_rfl
theorem run_index_st3 (v:V8) (w:World):(Instr.index 216 (.agg (wC v.l).toArray) (.int .i64 3)).run Tryz.prog w=.ok (.int .u32 (W v.d)) w:=by kernel_rfl
theorem run_index_st4 (v:V8) (w:World):(Instr.index 216 (.agg (wC v.l).toArray) (.int .i64 4)).run Tryz.prog w=.ok (.int .u32 (W v.e)) w:=by kernel_rfl
theorem run_index_st5 (v:V8) (w:World):(Instr.index 216 (.agg (wC v.l).toArray) (.int .i64 5)).run Tryz.prog w=.ok (.int .u32 (W v.f)) w:=by kernel_rfl
theorem run_index_st6 (v:V8) (w:World):(Instr.index 216 (.agg (wC v.l).toArray) (.int .i64 6)).run Tryz.prog w=.ok (.int .u32 (W v.g)) w:=by kernel_rfl
theorem run_index_st7 (v:V8) (w:World):(Instr.index 216 (.agg (wC v.l).toArray) (.int .i64 7)).run Tryz.prog w=.ok (.int .u32 (W v.h)) w:=by kernel_rfl
theorem run_index_st (v : V8) (k : Nat) (x : W32) (h : v.l[k]? = some x) (w : World) : (Instr.index 216 (.agg (wC v.l).toArray) (.int .i64 (k : Int))).run Tryz.prog w = .ok (.int .u32 (W x)) w := by
  match k, h with
  | 0, h => (have e : v.a = x := by simpa [V8.l] using h
             subst e; exact run_index_st0 v w)
  | 1, h => (have e : v.b = x := by simpa [V8.l] using h
             subst e; exact run_index_st1 v w)
  | 2, h => (have e : v.c = x := by simpa [V8.l] using h
             subst e; exact run_index_st2 v w)
  | 3, h => (have e : v.d = x := by simpa [V8.l] using h
             subst e; exact run_index_st3 v w)
  | 4, h => (have e : v.e = x := by simpa [V8.l] using h
             subst e; exact run_index_st4 v w)
  | 5, h => (have e : v.f = x := by simpa [V8.l] using h
             subst e; exact run_index_st5 v w)
  | 6, h => (have e : v.g = x := by simpa [V8.l] using h
             subst e; exact run_index_st6 v w)
  | 7, h => (have e : v.h = x := by simpa [V8.l] using h
             subst e; exact run_index_st7 v w)
  | k + 8, h => simp [V8.l] at h

theorem len8_get (n k:Nat) (hk:k<8):(len8 n)[k]?=some (UInt8.ofNat ((n*8) % 18446744073709551616 / 2 ^ (56 - 8*k))):=by
 have h8:k=0∨k=1∨k=2∨k=3∨k=4∨k=5∨k=6∨k=7:=by omega
 rcases h8 with rfl | rfl | rfl | rfl | rfl | rfl | rfl | rfl <;> rfl
theorem len_byte (n d:Nat) (h:n*8<18446744073709551616):IntKind.u8.wrap (((n:Int)*8) / (d:Int))=((UInt8.ofNat ((n*8) % 18446744073709551616 / d)).toNat:Int):=by
 rw [IntKind.wrap_u8',Nat.mod_eq_of_lt h,UInt8.toNat_ofNat']
 have e:((n:Int)*8) / (d:Int)=((n*8 / d:Nat):Int):=by rw [Int.natCast_ediv];simp
 rw [e];simp

theorem src_u8 {w:World} {a:Option Addr} {n c:Nat} {l:Bs} (h:Own w 5 1 a n c (bC l)):Src Tryz.prog 1 114 (.slice a n c) n (bC l) w:=by
 have hl:(bC l).length=n:=by have:=h.block.1;omega
 cases a with
 | none=>
  rcases h.block.2 with ⟨_,h1,_⟩ | ⟨g,cur,h1,_⟩
  ·subst h1
   have:bC l=[]:=List.eq_nil_of_length_eq_zero hl
   rw [this]
   exact Src.ofNil w Tryz.underlying114 c
  ·cases h1
 | some ad=>exact Src.ofSlice w Tryz.underlying114 ad n c (bC l) (by omega) (h.cells rfl) (bC_one l)

theorem len_mod (n d:Nat) (h:n*8<18446744073709551616):(((n:Int)*8) / (d:Int)) % 256=((UInt8.ofNat ((n*8) % 18446744073709551616 / d)).toNat:Int):=by
 rw [← len_byte n d h,IntKind.wrap_u8']
def slLen:Value→Nat
 | .slice _ n _=>n
 | _=>0
structure TlI (V wr:World) (t:Bs) (L:Nat) (a:Option Addr) (c:Nat):Prop where
 own:Own wr 5 1 a L c (bC t)
 kp:Kp [] V wr
 lo:∀ g∈ab a,V.heap.size≤g
theorem TlI.push {V wr w2:World} {t:Bs} {L:Nat} {a a2:Option Addr} {c c2:Nat} {o:Obj} {v:Value} (h:TlI V wr t L a c) (b:UInt8) (hv:v=.int .u8 (b.toNat:Int)) (o2:Own w2 5 1 a2 (L+1) c2 (bC t++[v])) (k2:Kp (ab a) (wr.alloc o) w2) (n2:∀ g∈ab a2,g∈ab a∨(wr.alloc o).heap.size≤g) :
  TlI V w2 (t++[b]) (L+1) a2 c2:=by
 subst hv
 have hz:=h.kp.size
 refine ⟨by rw [bC_app];exact o2,(h.kp.alloc o).from k2 (fun g hg=>.inl (h.lo g hg)),fun g hg=>?_⟩
 rcases n2 g hg with h1 | h1
 ·exact h.lo g h1
 ·simp at h1;omega
theorem TlI.len {V wr:World} {t:Bs} {L:Nat} {a:Option Addr} {c:Nat} (h:TlI V wr t L a c):t.length=L:=by
 have:=h.own.block.1;rw [bC_length] at this;omega
theorem pad_snoc (s:Bs) (j:Nat):stR s++0x80::List.replicate j 0++[0]=stR s++0x80::List.replicate (j+1) 0:=by
 rw [List.replicate_succ',List.append_assoc];rfl

theorem own_piece {w:World} {g n c q:Nat} {l:Bs} (h:Own w 5 1 (some ⟨g,0,none⟩) n c (bC l)) (hq:64*q+64≤n):rowAt? w ⟨g,64*q,none⟩ 64=some (bC ((l.drop (64*q)).take 64)).toArray:=by
 have h1:=own_row h (by omega)
 have h2:=rowAt?_sub h1 (64*q) 64 hq
 rw [Nat.zero_add] at h2
 rw [h2]
 congr 1
 simp only [List.extract_toArray,List.extract_eq_take_drop,show 64*q+64 - 64*q=64 by omega,bC,List.map_take,List.map_drop]
theorem spl_eq8 (v u:V8):spl (wC v.l).toArray 0 (wC u.l).toArray=(wC u.l).toArray:=spl_whole _ _ rfl
theorem ext_eq8 (v:V8):(wC v.l).toArray.extract 0 (0+8)=(wC v.l).toArray:=rfl

set_option maxHeartbeats 4000000 in
set_option maxRecDepth 100000 in
theorem hsum_any (lo H:Nat) (s:Bs) (a:Option Addr) (c:Nat) (w:World) (h:HsI w lo H s s.length a c) (hs:s.length≤140737488355000) :
  Calls Tryz.prog 96 #[.pointer (some ⟨H,0,none⟩)] w (Rets (.agg (sha s).c) w):=by
 obtain ⟨W0,hW0⟩:∃ W0,W0=(w.alloc (.cells Dg.zero.c 26)).alloc (.cells Dg.zero.c 26):=⟨_,rfl⟩
 have kw:Kp [] w W0:=by rw [hW0];exact ((Kp.refl [] w).alloc _).alloc _
 have b2:Blk W0 w.heap.size 26 Dg.zero.c:=by rw [hW0];exact (Blk.new w _ _).alloc _
 have b3:Blk W0 (w.heap.size+1) 26 Dg.zero.c:=by
  rw [hW0]
  have h:=Blk.new (w.alloc (.cells Dg.zero.c 26)) 26 Dg.zero.c
  simpa using h
 have KW:=Lib.hid kw;have B2:=Lib.hid b2;have B3:=Lib.hid b3
 have hz1:=b3.lt
 have hB:=Lib.hid (h.blk.kp kw (by simp));have hO:=Lib.hid (h.own.kp kw (by simp))
 have hH:H<w.heap.size:=h.blk.lt
 have HW0:=Lib.hid hW0
 have rl:=stR_len s
 have hm:(stR s).length<64:=by omega
 clear kw b2 b3 h hW0 rl
 have r0:W0.cell? ⟨H,0,none⟩=some (.bool true):=hB.out.cell 0
 have r9:W0.cell? ⟨H,9,none⟩=some (.slice a (stR s).length c):=hB.out.cell 9
 have r10:W0.cell? ⟨H,10,none⟩=some (.int .i64 (s.length:Int)):=hB.out.cell 10
 have rr:rowAt? W0 ⟨H,1,none⟩ 8=some (wC (stV s).l).toArray:=by
  have h:=hB.out
  unfold Blk at h
  unfold rowAt?
  rw [h]
  rfl
 have rH:=hB.out.lt
 go_enter Tryz.func96,Tryz.ntmps96
 go_wp2_with fail
 rw [← HW0.out]
 refine (hdead_any H _ r0).mono ?_
 rintro e w' ⟨rfl,rfl⟩
 have W1:Hid (Blk (W0.alloc (.cells (wC (stV s).l).toArray 216)) W0.heap.size 216 (wC (stV s).l).toArray):=Lib.hid (Blk.new _ _ _)
 have O1:=Lib.hid (hO.out.kp ((Kp.refl [] W0).alloc (.cells (wC (stV s).l).toArray 216)) (by simp))
 have K1:Hid (Kp [] W0 (W0.alloc (.cells (wC (stV s).l).toArray 216))):=Lib.hid ((Kp.refl [] W0).alloc _)
 have set1:spl (wC z8).toArray 0 (wC (stV s).l).toArray=(wC (stV s).l).toArray:=spl_whole _ _ (by simp [wC_v8,len_z8])
 have o2:=okCells_wC (stV s).l
 go_wp2_with (first
  | (at_builtin;refine wpList_app_u8 rfl rfl rfl (OT.out.kp ((Kp.refl [] w1).alloc (.cells #[.int .u8 128] 5)) (by simp)) 1 [.int .u8 128] (src_one rfl _) (by omega) ?_;intro a2 c2 w2 o2 k2 n2;have OT2:=Lib.hid o2;have KT2:=Lib.hid k2;have NT2:=Lib.hid n2;clear o2 k2 n2)
  | (at_builtin;refine wpList_app_u8 rfl rfl rfl (Own.nil _ _ _) (stR s).length (bC (stR s)) (src_u8 O1.out) (by omega) ?_;intro a1 c1 w1 o1 k1 n1;rw [Nat.zero_add,List.nil_append] at o1;rw [Nat.zero_add];have OT:=Lib.hid o1;have KT:=Lib.hid k1;have NT:=Lib.hid n1;clear o1 k1 n1))
 generalize hV:(W0.alloc (.cells (wC (stV s).l).toArray 216))=V at W1 O1 K1 OT KT NT
 have TI2:Hid (TlI V w2 (stR s++[0x80]) ((stR s).length+1) a2 c2):=Lib.hid (TlI.push ⟨OT.out,KT.out,fun g hg=>(NT.out g hg).resolve_left (by simp [ab])⟩ 0x80 rfl OT2.out KT2.out NT2.out)
 have hzV:V.heap.size=W0.heap.size+1:=by rw [← hV];simp
 have HZV:=Lib.hid hzV
 clear hV OT KT NT OT2 KT2 NT2 O1 set1 o2 r0 r9 rr hzV
 have hml:(stR s).length=s.length % 64:=stR_len s
 have HML:=Lib.hid hml
 have hJ:(119 - (stR s).length) % 64=(119 - s.length % 64) % 64:=by rw [hml]
 obtain ⟨J,hJ2⟩:∃ J,J=(119 - (stR s).length) % 64:=⟨_,rfl⟩
 have HJ:Hid (J=(119 - s.length % 64) % 64):=Lib.hid (by rw [hJ2,hJ])
 have hJ3:J≤63∧((stR s).length+1+J=56∨(stR s).length+1+J=120):=by omega
 clear hJ hJ2 hml
 go_loopw [5] (fun t wr=>∃ (j L:Nat) (a:Option Addr) (c:Nat),t=.slice a L c∧(L≤(stR s).length+1+j∧(stR s).length+1+j≤L)∧j≤J∧Hid (TlI V wr (stR s++0x80::List.replicate j 0) L a c)) (fun t _=>128 - slLen t)
 case atStart=>exact ⟨0,(stR s).length+1,a2,c2,rfl,by omega,by omega,TI2⟩
 case round=>
  clear TI2
  obtain ⟨j,L,a3,c3,rfl,⟨hL1,hL2⟩,hj,TI⟩:=hrel
  have hmod:((L:Nat):Int).tmod 64=(L:Int) % 64:=Int.tmod_eq_emod_of_nonneg (by omega)
  by_cases hlt:j<J
  ·have hb:(((L:Nat):Int) % 64 != 56)=true:=by simp only [bne_iff_ne];omega
   go_wp2_with (at_builtin;refine wpList_app_u8 rfl rfl rfl (TI.out.own.kp ((Kp.refl [] wr).alloc (.cells #[.int .u8 0] 5)) (by simp)) 1 [.int .u8 0] (src_one rfl _) (by omega) ?_;intro a4 c4 w4 o4 k4 n4;have T4:=Lib.hid (TI.out.push 0 rfl o4 k4 n4);clear o4 k4 n4)
   go_roundw
   case rel=>exact ⟨j+1,L+1,a4,c4,rfl,by omega,by omega,Lib.hid (by have:=T4.out;rwa [pad_snoc] at this)⟩
   case measure=>simp [slLen];omega
  ·have hb:(((L:Nat):Int) % 64 != 56)=false:=by simp only [bne_eq_false_iff_eq];omega
   obtain rfl:j=J:=by omega
   have e8:IntKind.u64.wrap (s.length:Int)=s.length:=by rw [wrap_u64];omega
   have e9:IntKind.u64.wrap ((s.length:Int)*8)=s.length*8:=by rw [wrap_u64];omega
   obtain ⟨wq,rfl⟩:∃ wq:World,wq=wr:=⟨_,rfl⟩
   have g10:wq.cell? ⟨H,10,none⟩=some (.int .i64 (s.length:Int)):=(TI.out.kp.cell (K1.out.cell r10 (by simp)) (by simp))
   have gH:H<wq.heap.size:=by have:=TI.out.kp.size;have:=K1.out.size;omega
   go_wp2_with fail
   clear hb hmod e8 e9 g10 gH
   have TI0:Hid (TlI V wq (stR s++0x80::List.replicate j 0++(len8 s.length).take 0) L a3 c3):=Lib.hid (by rw [List.take_zero,List.append_nil];exact TI.out)
   go_loopw [5,7] (fun t i wr=>∃ (k M:Nat) (z:Int) (a:Option Addr) (c:Nat),t=.slice a M c∧i=.int .i64 z∧(M≤L+k∧L+k≤M)∧k≤8∧(z≤56 - 8*k∧56 - 8*(k:Int)≤z)∧Hid (TlI V wr (stR s++0x80::List.replicate j 0++(len8 s.length).take k) M a c)) (fun _ i _=>(intOf i+8).toNat)
   case atStart=>exact ⟨0,L,56,a3,c3,rfl,rfl,by omega,by omega,by omega,TI0⟩
   case round=>
    clear TI0 TI
    obtain ⟨k,M,z,a5,c5,rfl,rfl,⟨hM1,hM2⟩,hk,⟨hz2,hz3⟩,TI⟩:=hrel
    by_cases hlt8:k<8
    ·have hg:=Lib.hid (len8_get s.length k hlt8)
     have h8:k=0∨k=1∨k=2∨k=3∨k=4∨k=5∨k=6∨k=7:=by omega
     have hn:s.length*8<18446744073709551616:=by omega
     rcases h8 with rfl | rfl | rfl | rfl | rfl | rfl | rfl | rfl
     case inl=>
      obtain rfl:z=56:=by omega
      have hmd:(((s.length:Int)*8) / (72057594037927936:Int)) % 256=_:=len_mod s.length (2 ^ 56) hn
      have HMD:=Lib.hid hmd
      clear hmd
      go_wp2_with (at_builtin;refine wpList_app_u8 rfl rfl rfl (TI.out.own.kp ((Kp.refl [] wr).alloc _) (by simp)) 1 [_] (src_one rfl _) (by omega) ?_;intro a4 c4 w4 o4 k4 n4;have T4:=Lib.hid (TI.out.push (UInt8.ofNat ((s.length*8) % 18446744073709551616 / 2 ^ 56)) (congrArg (Value.int .u8) (by first | exact HMD.out | (rw [← HMD.out];omega))) o4 k4 n4);clear o4 k4 n4)
      go_roundw
      case rel=>exact ⟨1,M+1,48,a4,c4,rfl,rfl,by omega,by omega,by omega,Lib.hid (by
       have:=T4.out
       rwa [List.append_assoc,show (len8 s.length).take 0++[UInt8.ofNat ((s.length*8) % 18446744073709551616 / 2 ^ 56)]=(len8 s.length).take 1 from rfl] at this)⟩
      case measure=>simp [intOf]
     case inr.inl=>
      obtain rfl:z=48:=by omega
      have hmd:(((s.length:Int)*8) / (281474976710656:Int)) % 256=_:=len_mod s.length (2 ^ 48) hn
      have HMD:=Lib.hid hmd
      clear hmd
      go_wp2_with (at_builtin;refine wpList_app_u8 rfl rfl rfl (TI.out.own.kp ((Kp.refl [] wr).alloc _) (by simp)) 1 [_] (src_one rfl _) (by omega) ?_;intro a4 c4 w4 o4 k4 n4;have T4:=Lib.hid (TI.out.push (UInt8.ofNat ((s.length*8) % 18446744073709551616 / 2 ^ 48)) (congrArg (Value.int .u8) (by first | exact HMD.out | (rw [← HMD.out];omega))) o4 k4 n4);clear o4 k4 n4)
      go_roundw
      case rel=>exact ⟨2,M+1,40,a4,c4,rfl,rfl,by omega,by omega,by omega,Lib.hid (by
       have:=T4.out
       rwa [List.append_assoc,show (len8 s.length).take 1++[UInt8.ofNat ((s.length*8) % 18446744073709551616 / 2 ^ 48)]=(len8 s.length).take 2 from rfl] at this)⟩
      case measure=>simp [intOf]
     case inr.inr.inl=>
      obtain rfl:z=40:=by omega
      have hmd:(((s.length:Int)*8) / (1099511627776:Int)) % 256=_:=len_mod s.length (2 ^ 40) hn
      have HMD:=Lib.hid hmd
      clear hmd
      go_wp2_with (at_builtin;refine wpList_app_u8 rfl rfl rfl (TI.out.own.kp ((Kp.refl [] wr).alloc _) (by simp)) 1 [_] (src_one rfl _) (by omega) ?_;intro a4 c4 w4 o4 k4 n4;have T4:=Lib.hid (TI.out.push (UInt8.ofNat ((s.length*8) % 18446744073709551616 / 2 ^ 40)) (congrArg (Value.int .u8) (by first | exact HMD.out | (rw [← HMD.out];omega))) o4 k4 n4);clear o4 k4 n4)
      go_roundw
      case rel=>exact ⟨3,M+1,32,a4,c4,rfl,rfl,by omega,by omega,by omega,Lib.hid (by
       have:=T4.out
       rwa [List.append_assoc,show (len8 s.length).take 2++[UInt8.ofNat ((s.length*8) % 18446744073709551616 / 2 ^ 40)]=(len8 s.length).take 3 from rfl] at this)⟩
      case measure=>simp [intOf]
     case inr.inr.inr.inl=>
      obtain rfl:z=32:=by omega
      have hmd:(((s.length:Int)*8) / (4294967296:Int)) % 256=_:=len_mod s.length (2 ^ 32) hn
      have HMD:=Lib.hid hmd
      clear hmd
      go_wp2_with (at_builtin;refine wpList_app_u8 rfl rfl rfl (TI.out.own.kp ((Kp.refl [] wr).alloc _) (by simp)) 1 [_] (src_one rfl _) (by omega) ?_;intro a4 c4 w4 o4 k4 n4;have T4:=Lib.hid (TI.out.push (UInt8.ofNat ((s.length*8) % 18446744073709551616 / 2 ^ 32)) (congrArg (Value.int .u8) (by first | exact HMD.out | (rw [← HMD.out];omega))) o4 k4 n4);clear o4 k4 n4)
      go_roundw
      case rel=>exact ⟨4,M+1,24,a4,c4,rfl,rfl,by omega,by omega,by omega,Lib.hid (by
       have:=T4.out
       rwa [List.append_assoc,show (len8 s.length).take 3++[UInt8.ofNat ((s.length*8) % 18446744073709551616 / 2 ^ 32)]=(len8 s.length).take 4 from rfl] at this)⟩
      case measure=>simp [intOf]
     case inr.inr.inr.inr.inl=>
      obtain rfl:z=24:=by omega
      have hmd:(((s.length:Int)*8) / (16777216:Int)) % 256=_:=len_mod s.length (2 ^ 24) hn
      have HMD:=Lib.hid hmd
      clear hmd
      go_wp2_with (at_builtin;refine wpList_app_u8 rfl rfl rfl (TI.out.own.kp ((Kp.refl [] wr).alloc _) (by simp)) 1 [_] (src_one rfl _) (by omega) ?_;intro a4 c4 w4 o4 k4 n4;have T4:=Lib.hid (TI.out.push (UInt8.ofNat ((s.length*8) % 18446744073709551616 / 2 ^ 24)) (congrArg (Value.int .u8) (by first | exact HMD.out | (rw [← HMD.out];omega))) o4 k4 n4);clear o4 k4 n4)
      go_roundw
      case rel=>exact ⟨5,M+1,16,a4,c4,rfl,rfl,by omega,by omega,by omega,Lib.hid (by
       have:=T4.out
       rwa [List.append_assoc,show (len8 s.length).take 4++[UInt8.ofNat ((s.length*8) % 18446744073709551616 / 2 ^ 24)]=(len8 s.length).take 5 from rfl] at this)⟩
      case measure=>simp [intOf]
     case inr.inr.inr.inr.inr.inl=>
      obtain rfl:z=16:=by omega
      have hmd:(((s.length:Int)*8) / (65536:Int)) % 256=_:=len_mod s.length (2 ^ 16) hn
      have HMD:=Lib.hid hmd
      clear hmd
      go_wp2_with (at_builtin;refine wpList_app_u8 rfl rfl rfl (TI.out.own.kp ((Kp.refl [] wr).alloc _) (by simp)) 1 [_] (src_one rfl _) (by omega) ?_;intro a4 c4 w4 o4 k4 n4;have T4:=Lib.hid (TI.out.push (UInt8.ofNat ((s.length*8) % 18446744073709551616 / 2 ^ 16)) (congrArg (Value.int .u8) (by first | exact HMD.out | (rw [← HMD.out];omega))) o4 k4 n4);clear o4 k4 n4)
      go_roundw
      case rel=>exact ⟨6,M+1,8,a4,c4,rfl,rfl,by omega,by omega,by omega,Lib.hid (by
       have:=T4.out
       rwa [List.append_assoc,show (len8 s.length).take 5++[UInt8.ofNat ((s.length*8) % 18446744073709551616 / 2 ^ 16)]=(len8 s.length).take 6 from rfl] at this)⟩
      case measure=>simp [intOf]
     case inr.inr.inr.inr.inr.inr.inl=>
      obtain rfl:z=8:=by omega
      have hmd:(((s.length:Int)*8) / (256:Int)) % 256=_:=len_mod s.length (2 ^ 8) hn
      have HMD:=Lib.hid hmd
      clear hmd
      go_wp2_with (at_builtin;refine wpList_app_u8 rfl rfl rfl (TI.out.own.kp ((Kp.refl [] wr).alloc _) (by simp)) 1 [_] (src_one rfl _) (by omega) ?_;intro a4 c4 w4 o4 k4 n4;have T4:=Lib.hid (TI.out.push (UInt8.ofNat ((s.length*8) % 18446744073709551616 / 2 ^ 8)) (congrArg (Value.int .u8) (by first | exact HMD.out | (rw [← HMD.out];omega))) o4 k4 n4);clear o4 k4 n4)
      go_roundw
      case rel=>exact ⟨7,M+1,0,a4,c4,rfl,rfl,by omega,by omega,by omega,Lib.hid (by
       have:=T4.out
       rwa [List.append_assoc,show (len8 s.length).take 6++[UInt8.ofNat ((s.length*8) % 18446744073709551616 / 2 ^ 8)]=(len8 s.length).take 7 from rfl] at this)⟩
      case measure=>simp [intOf]
     case inr.inr.inr.inr.inr.inr.inr=>
      obtain rfl:z=0:=by omega
      have hmd:(((s.length:Int)*8) / (1:Int)) % 256=_:=len_mod s.length (2 ^ 0) hn
      have HMD:=Lib.hid hmd
      clear hmd
      go_wp2_with (at_builtin;refine wpList_app_u8 rfl rfl rfl (TI.out.own.kp ((Kp.refl [] wr).alloc _) (by simp)) 1 [_] (src_one rfl _) (by omega) ?_;intro a4 c4 w4 o4 k4 n4;have T4:=Lib.hid (TI.out.push (UInt8.ofNat ((s.length*8) % 18446744073709551616 / 2 ^ 0)) (congrArg (Value.int .u8) (by first | exact HMD.out | (rw [← HMD.out];omega))) o4 k4 n4);clear o4 k4 n4)
      go_roundw
      case rel=>exact ⟨8,M+1,-8,a4,c4,rfl,rfl,by omega,by omega,by omega,Lib.hid (by
       have:=T4.out
       rwa [List.append_assoc,show (len8 s.length).take 7++[UInt8.ofNat ((s.length*8) % 18446744073709551616 / 2 ^ 0)]=(len8 s.length).take 8 from rfl] at this)⟩
      case measure=>simp [intOf]
    ·obtain rfl:k=8:=by omega
     obtain rfl:z = -8:=by omega
     have HT:Hid (stR s++0x80::List.replicate j 0++(len8 s.length).take 8=tailB s):=Lib.hid (by
      unfold tailB padZ;rw [← HJ.out];rfl)
     have TB:Hid (TlI V wr (tailB s) M a5 c5):=Lib.hid (by have:=TI.out;rwa [HT.out] at this)
     obtain ⟨Q,hQ⟩:=tailB_len s
     have hMQ:M=64*Q:=by rw [← TB.out.len,hQ]
     obtain ⟨g5,rfl,hMc,hg5⟩:=own_at TB.out.own (by omega)
     have HLQ:Hid ((tailB s).length / 64=Q):=Lib.hid (by omega)
     have hM3:M≤64*Q:=by omega
     have hM4:64*Q≤M:=by omega
     obtain ⟨wp,rfl⟩:∃ wp:World,wp=wr:=⟨_,rfl⟩
     have B4:=Lib.hid (W1.out.kp TB.out.kp (by simp))
     have hne5:g5≠W0.heap.size:=by have:=TB.out.lo g5 (by simp [ab]);have:=HZV.out;omega
     have KVp:=Lib.hid TB.out.kp
     clear TI HT hQ hMQ hM1 hM2 hk hlt8 hz2 hz3 hL1 hL2 hj hlt
     go_wp2_with fail
     go_loopw [5] (fun t wr=>∃ (q n' c':Nat) (ad:Addr),t=.slice (some ad) n' c'∧(n'+64*q≤64*Q∧64*Q≤n'+64*q)∧(c'+64*q≤c5∧c5≤c'+64*q)∧Hid (q<Q→ad=⟨g5,64*q,none⟩)∧Hid (Kp [W0.heap.size] wp wr)∧Hid (Blk wr W0.heap.size 216 (wC (takeAll q (stV s) (tailB s)).l).toArray)) (fun t _=>slLen t)
     case atStart=>exact ⟨0,M,c5,⟨g5,0,none⟩,rfl,by omega,by omega,fun _=>rfl,Kp.refl _ _,B4⟩
     case round=>
      clear B4
      obtain ⟨q,n',c',ad,rfl,⟨hn1,hn2⟩,⟨hc1,hc2⟩,HAD,KQ,BQ⟩:=hrel
      by_cases hq:q<Q
      ·have had:=HAD.out hq
       subst had
       have rg:=rowAt?_kp KQ.out (own_piece (q:=q) TB.out.own (by omega)) (by simpa using hne5)
       have hg6:g5<wr.heap.size:=by have:=KQ.out.size;omega
       have hpl:((tailB s).drop (64*q)).length=n':=by rw [List.length_drop];have:=HLQ.out;have:=TB.out.len;omega
       obtain ⟨pc,hpc⟩:∃ pc,((tailB s).drop (64*q)).take 64=pc:=⟨_,rfl⟩
       have hpc64:pc.length=64:=by rw [← hpc,List.length_take,hpl];omega
       rw [hpc] at rg
       have HPC:=Lib.hid hpc;have HP64:=Lib.hid hpc64
       clear hpc hpc64 hpl
       have hn3:64≤n':=by omega
       have hc3:n'≤c':=by omega
       have hc4:64≤c':=by omega
       go_wp2_with fail
       refine (block_any W0.heap.size 0 216 _ (takeAll q (stV s) (tailB s)) pc wr BQ.out (by show 0+8≤8;omega) (ext_eq8 _) HP64.out).mono ?_
       rintro e w4 ⟨rfl,k4,b4⟩
       rw [spl_eq8] at b4
       have BQ2:Hid (Blk w4 W0.heap.size 216 (wC (takeAll (q+1) (stV s) (tailB s)).l).toArray):=Lib.hid (by rw [takeAll_succ,HPC.out];exact b4)
       have KQ2:Hid (Kp [W0.heap.size] wp w4):=Lib.hid (KQ.out.trans k4)
       clear k4 b4 rg
       by_cases hcap:c'=64
       ·have hQ1:q+1=Q:=by omega
        obtain rfl:n'=64:=by omega
        subst hcap
        clear hn1 hn2 hn3 hc3 hc4
        have HQ1:=Lib.hid hQ1;clear hQ1
        go_wp2_with fail
        go_roundw
        case rel=>exact ⟨q+1,0,0,_,rfl,by have:=HQ1.out;omega,by have:=HQ1.out;omega,Lib.hid (fun h=>by have:=HQ1.out;omega),KQ2,BQ2⟩
        case measure=>simp [slLen]
       ·have hcc:64<c':=by omega
        go_wp2_with fail
        go_roundw
        case rel=>exact ⟨q+1,n' - 64,c' - 64,_,rfl,by omega,by omega,Lib.hid (fun _=>by rw [show 64*(q+1)=64*q+64 by omega]),KQ2,BQ2⟩
        case measure=>simp [slLen];omega
      ·obtain rfl:q=Q:=by omega
       obtain rfl:n'=0:=by omega
       have BF:Hid (Blk wr W0.heap.size 216 (wC (takeAll ((tailB s).length / 64) (stV s) (tailB s)).l).toArray):=Lib.hid (by rw [HLQ.out];exact BQ.out)
       obtain ⟨vv,hvv⟩:∃ vv,takeAll ((tailB s).length / 64) (stV s) (tailB s)=vv:=⟨_,rfl⟩
       have HVV:Hid (shaL s=vv.bytes):=Lib.hid (by rw [shaL_tail,hvv])
       have BF2:Hid (Blk wr W0.heap.size 216 (wC vv.l).toArray):=Lib.hid (by have:=BF.out;rwa [hvv] at this)
       have KWR:Hid (Kp [] W0 wr):=Lib.hid ((K1.out.trans KVp.out).from KQ.out (fun x hx=>by simp at hx;subst hx;exact .inl (Nat.le_refl _)))
       obtain ⟨wy,rfl⟩:∃ wy:World,wy=wr:=⟨_,rfl⟩
       have rs:=rowAt?_blk BF2.out
       have hs8:(wC vv.l).toArray.size=8:=rfl
       rw [hs8] at rs
       have ls:=BF2.out.lt
       have D3:=Lib.hid (B3.out.kp KWR.out (by simp));have D2:=Lib.hid (B2.out.kp KWR.out (by simp))
       clear BF hvv BQ KQ HAD hn1 hn2 hc1 hc2 hs8 hq
       go_wp2_with fail
       go_loopw [61] (fun i wr=>∃ k:Nat,i=.int .i64 k∧k≤8∧Hid (Kp [w.heap.size+1] wy wr)∧Hid (Blk wr (w.heap.size+1) 26 (bC (fillB (vv.bytes.take (4*k)))).toArray)) (fun i _=>8 - (intOf i).toNat)
       case atStart=>exact ⟨0,rfl,by omega,Kp.refl _ _,D3⟩
       case round=>
        clear D3
        obtain ⟨k,rfl,hk,KO,BO⟩:=hrel
        by_cases hk8:k<8
        ·have hv8:vv.l.length=8:=rfl
         obtain ⟨x,hx⟩:∃ x,vv.l[k]?=some x:=⟨_,List.getElem?_eq_getElem (by omega)⟩
         have hidx:∀ w',(Instr.index 216 (.agg (wC vv.l).toArray) (.int .i64 (k:Int))).run Tryz.prog w'=.ok (.int .u32 (W x)) w':=fun w'=>run_index_st vv k x hx w'
         have HBY:=Lib.hid (bytes_get vv k x hx)
         clear hx hv8
         obtain ⟨wz,rfl⟩:∃ wz:World,wz=wr:=⟨_,rfl⟩
         go_wp2_with fail
         clear hidx
         go_loopw [65] (fun j wr=>∃ m:Nat,j=.int .i64 m∧m≤4∧Hid (Kp [w.heap.size+1] wy wr)∧Hid (Blk wr (w.heap.size+1) 26 (bC (fillB (vv.bytes.take (4*k+m)))).toArray)) (fun j _=>4 - (intOf j).toNat)
         case atStart=>exact ⟨0,rfl,by omega,KO,BO⟩
         case round=>
          clear KO BO
          obtain ⟨m,rfl,hm4,KI,BI⟩:=hrel
          by_cases hm5:m<4
          ·have h4:m=0∨m=1∨m=2∨m=3:=by omega
           rcases h4 with rfl | rfl | rfl | rfl
           case inl=>
            have hw:(W x / (16777216:Int)) % (256:Int)=(((x >>> 24).toUInt8).toNat:Int):=by have:=W_b24 x;rwa [IntKind.wrap_u8'] at this
            have HW:=Lib.hid hw
            have c1:∃ u,wr.cell? ⟨w.heap.size+1,4*k,none⟩=some u:=by
             rw [BI.out.cell,bC_get]
             have:=fillB_len (l:=vv.bytes.take (4*k+0)) (by rw [List.length_take];omega)
             rw [List.getElem?_eq_getElem (by omega)];exact ⟨_,rfl⟩
            obtain ⟨u,c1⟩:=c1
            have f1:wr.frozen? ⟨w.heap.size+1,4*k,none⟩=false:=BI.out.frozen _
            have g1:=BI.out.lt
            have hS:Hid (Blk (wr.setCell ⟨w.heap.size+1,4*k,none⟩ (.int .u8 (((x >>> 24).toUInt8).toNat:Int))) (w.heap.size+1) 26 (bC (fillB (vv.bytes.take (4*k+1)))).toArray):=Lib.hid (by
             have h:=BI.out.set (4*k) (.int .u8 (((x >>> 24).toUInt8).toNat:Int))
             rw [bC_set] at h
             have e:=fillB_set (l:=vv.bytes) (k:=4*k) (x:=(x >>> 24).toUInt8) (by omega) (by rw [List.length_take,bytes_len];omega) HBY.out.1
             have e2:4*k+0=4*k:=by omega
             rw [e2,e] at h
             exact h)
            have i1:IntKind.i64.wrap (4*(k:Int)+0)=4*k+0:=IntWalk.i64_in _ (by omega)
            have t1:(4*(k:Int)+0).toNat=4*k+0:=by omega
            have j1:(0:Int)≤4*(k:Int)+0∧4*(k:Int)+0<32:=by omega
            have i0:IntKind.i64.wrap (4*(k:Int))=4*k:=IntWalk.i64_in _ (by omega)
            have t0:(4*(k:Int)).toNat=4*k:=by omega
            have j0:(0:Int)≤4*(k:Int)∧4*(k:Int)<32:=by omega
            go_wp2_with fail
            go_roundw
            case rel=>exact ⟨1,rfl,by omega,Lib.hid (KI.out.setCell _ (.inr (by simp))),by first | exact hS | (rw [HW.out];exact hS)⟩
            case measure=>simp [intOf]
           case inr.inl=>
            have hw:(W x / (65536:Int)) % (256:Int)=(((x >>> 16).toUInt8).toNat:Int):=by have:=W_b16 x;rwa [IntKind.wrap_u8'] at this
            have HW:=Lib.hid hw
            have c1:∃ u,wr.cell? ⟨w.heap.size+1,4*k+1,none⟩=some u:=by
             rw [BI.out.cell,bC_get]
             have:=fillB_len (l:=vv.bytes.take (4*k+1)) (by rw [List.length_take];omega)
             rw [List.getElem?_eq_getElem (by omega)];exact ⟨_,rfl⟩
            obtain ⟨u,c1⟩:=c1
            have f1:wr.frozen? ⟨w.heap.size+1,4*k+1,none⟩=false:=BI.out.frozen _
            have g1:=BI.out.lt
            have hS:Hid (Blk (wr.setCell ⟨w.heap.size+1,4*k+1,none⟩ (.int .u8 (((x >>> 16).toUInt8).toNat:Int))) (w.heap.size+1) 26 (bC (fillB (vv.bytes.take (4*k+2)))).toArray):=Lib.hid (by
             have h:=BI.out.set (4*k+1) (.int .u8 (((x >>> 16).toUInt8).toNat:Int))
             rw [bC_set] at h
             have e:=fillB_set (l:=vv.bytes) (k:=4*k+1) (x:=(x >>> 16).toUInt8) (by omega) (by rw [List.length_take,bytes_len];omega) HBY.out.2.1
             have e2:4*k+1=4*k+1:=by omega
             rw [e2,e] at h
             exact h)
            have i1:IntKind.i64.wrap (4*(k:Int)+1)=4*k+1:=IntWalk.i64_in _ (by omega)
            have t1:(4*(k:Int)+1).toNat=4*k+1:=by omega
            have j1:(0:Int)≤4*(k:Int)+1∧4*(k:Int)+1<32:=by omega
            have i0:IntKind.i64.wrap (4*(k:Int))=4*k:=IntWalk.i64_in _ (by omega)
            have t0:(4*(k:Int)).toNat=4*k:=by omega
            have j0:(0:Int)≤4*(k:Int)∧4*(k:Int)<32:=by omega
            go_wp2_with fail
            go_roundw
            case rel=>exact ⟨2,rfl,by omega,Lib.hid (KI.out.setCell _ (.inr (by simp))),by first | exact hS | (rw [HW.out];exact hS)⟩
            case measure=>simp [intOf]
           case inr.inr.inl=>
            have hw:(W x / (256:Int)) % (256:Int)=(((x >>> 8).toUInt8).toNat:Int):=by have:=W_b8 x;rwa [IntKind.wrap_u8'] at this
            have HW:=Lib.hid hw
            have c1:∃ u,wr.cell? ⟨w.heap.size+1,4*k+2,none⟩=some u:=by
             rw [BI.out.cell,bC_get]
             have:=fillB_len (l:=vv.bytes.take (4*k+2)) (by rw [List.length_take];omega)
             rw [List.getElem?_eq_getElem (by omega)];exact ⟨_,rfl⟩
            obtain ⟨u,c1⟩:=c1
            have f1:wr.frozen? ⟨w.heap.size+1,4*k+2,none⟩=false:=BI.out.frozen _
            have g1:=BI.out.lt
            have hS:Hid (Blk (wr.setCell ⟨w.heap.size+1,4*k+2,none⟩ (.int .u8 (((x >>> 8).toUInt8).toNat:Int))) (w.heap.size+1) 26 (bC (fillB (vv.bytes.take (4*k+3)))).toArray):=Lib.hid (by
             have h:=BI.out.set (4*k+2) (.int .u8 (((x >>> 8).toUInt8).toNat:Int))
             rw [bC_set] at h
             have e:=fillB_set (l:=vv.bytes) (k:=4*k+2) (x:=(x >>> 8).toUInt8) (by omega) (by rw [List.length_take,bytes_len];omega) HBY.out.2.2.1
             have e2:4*k+2=4*k+2:=by omega
             rw [e2,e] at h
             exact h)
            have i1:IntKind.i64.wrap (4*(k:Int)+2)=4*k+2:=IntWalk.i64_in _ (by omega)
            have t1:(4*(k:Int)+2).toNat=4*k+2:=by omega
            have j1:(0:Int)≤4*(k:Int)+2∧4*(k:Int)+2<32:=by omega
            have i0:IntKind.i64.wrap (4*(k:Int))=4*k:=IntWalk.i64_in _ (by omega)
            have t0:(4*(k:Int)).toNat=4*k:=by omega
            have j0:(0:Int)≤4*(k:Int)∧4*(k:Int)<32:=by omega
            go_wp2_with fail
            go_roundw
            case rel=>exact ⟨3,rfl,by omega,Lib.hid (KI.out.setCell _ (.inr (by simp))),by first | exact hS | (rw [HW.out];exact hS)⟩
            case measure=>simp [intOf]
           case inr.inr.inr=>
            have hw:W x % (256:Int)=((x.toUInt8).toNat:Int):=by have:=W_b0 x;rwa [IntKind.wrap_u8'] at this
            have HW:=Lib.hid hw
            have c1:∃ u,wr.cell? ⟨w.heap.size+1,4*k+3,none⟩=some u:=by
             rw [BI.out.cell,bC_get]
             have:=fillB_len (l:=vv.bytes.take (4*k+3)) (by rw [List.length_take];omega)
             rw [List.getElem?_eq_getElem (by omega)];exact ⟨_,rfl⟩
            obtain ⟨u,c1⟩:=c1
            have f1:wr.frozen? ⟨w.heap.size+1,4*k+3,none⟩=false:=BI.out.frozen _
            have g1:=BI.out.lt
            have hS:Hid (Blk (wr.setCell ⟨w.heap.size+1,4*k+3,none⟩ (.int .u8 ((x.toUInt8).toNat:Int))) (w.heap.size+1) 26 (bC (fillB (vv.bytes.take (4*k+4)))).toArray):=Lib.hid (by
             have h:=BI.out.set (4*k+3) (.int .u8 ((x.toUInt8).toNat:Int))
             rw [bC_set] at h
             have e:=fillB_set (l:=vv.bytes) (k:=4*k+3) (x:=x.toUInt8) (by omega) (by rw [List.length_take,bytes_len];omega) HBY.out.2.2.2
             have e2:4*k+3=4*k+3:=by omega
             rw [e2,e] at h
             exact h)
            have i1:IntKind.i64.wrap (4*(k:Int)+3)=4*k+3:=IntWalk.i64_in _ (by omega)
            have t1:(4*(k:Int)+3).toNat=4*k+3:=by omega
            have j1:(0:Int)≤4*(k:Int)+3∧4*(k:Int)+3<32:=by omega
            have i0:IntKind.i64.wrap (4*(k:Int))=4*k:=IntWalk.i64_in _ (by omega)
            have t0:(4*(k:Int)).toNat=4*k:=by omega
            have j0:(0:Int)≤4*(k:Int)∧4*(k:Int)<32:=by omega
            go_wp2_with fail
            go_roundw
            case rel=>exact ⟨4,rfl,by omega,Lib.hid (KI.out.setCell _ (.inr (by simp))),by first | exact hS | (rw [HW.out];exact hS)⟩
            case measure=>simp [intOf]
          ·obtain rfl:m=4:=by omega
           go_wp2_with fail
           go_roundw
           case rel=>exact ⟨k+1,by go_num,by omega,KI,by have:=BI;rwa [show 4*k+4=4*(k+1) by omega] at this⟩
           case measure=>simp [intOf];omega
        ·obtain rfl:k=8:=by omega
         have e8:fillB (vv.bytes.take (4*8))=shaL s:=by
          rw [HVV.out,List.take_of_length_le (by rw [bytes_len];omega)]
          unfold fillB
          rw [bytes_len];simp
         have BE:Hid (Blk wr (w.heap.size+1) 26 (sha s).c):=Lib.hid (by have:=BO.out;rwa [e8] at this)
         have r3:rowAt? wr ⟨w.heap.size+1,0,none⟩ 32=some (sha s).c:=by have h:=rowAt?_blk BE.out;rwa [Dg.c_size] at h
         have D4:=D2.out.kp KO.out (by simp)
         have r2:=own?_blk D4
         have l2:=D4.lt
         have l3:=BE.out.lt
         have HD4:=Lib.hid D4
         clear D4 e8
         go_wp2_with fail
         refine row_ret w.heap.size (t:=26) (cs:=(sha s).c) rfl Tryz.underlying26 rfl (by rw [Dg.c_size];kernel_rfl) rfl (HD4.out.setRow _) rfl ?_
         exact ⟨rfl,Kp.to_ext (((KW.out.trans KWR.out).from KO.out (fun g hg=>by simp at hg;subst hg;exact .inl (by omega))).setRow _ _ (.inl (Nat.le_refl _)))⟩

theorem sum_any (s:Bs) (w:World) (hs:s.length≤140737488355000):Calls Tryz.prog 82 #[.string ⟨s.toArray⟩] w (Rets (.agg (sha s).c) w):=by
 have hb:Blk (w.alloc (.cells Dg.zero.c 26)) w.heap.size 26 Dg.zero.c:=Blk.new w _ _
 have HB:=Lib.hid hb;clear hb
 go_enter Tryz.func82,Tryz.ntmps82
 go_wp2_with fail
 refine (new_any _).mono ?_
 rintro e w1 ⟨H,rfl,b1,k1,h1⟩
 have HB1:=Lib.hid b1;have K1:=Lib.hid k1
 have l1:=b1.lt
 simp only [World.size_alloc] at h1
 clear b1 k1
 go_wp2_with fail
 refine (write_any H w1.heap.size s _ (HB1.out.alloc _) (by simp) (by omega) (by omega)).mono ?_
 rintro e w2 ⟨a,c,rfl,I2,k2⟩
 have HI2:=Lib.hid I2
 have K2:Hid (Kp [] (w.alloc (.cells Dg.zero.c 26)) w2):=Lib.hid ((K1.out.alloc (.cells #[.string ⟨s.toArray⟩] 9)).from k2 (fun g hg=>by simp at hg;subst hg;exact .inl (by simp;omega)))
 have b2:=HB.out.kp K2.out (by simp)
 have o2:=own?_blk b2
 have l2:=b2.lt
 have HB2:=Lib.hid b2
 clear b2 I2 k2
 go_wp2_with fail
 refine (hsum_any _ H s a c w2 HI2.out hs).mono ?_
 rintro e w3 ⟨rfl,bs,n,rfl⟩
 go_wp2_with fail
 refine row_ret w.heap.size (t:=26) (cs:=(sha s).c) rfl Tryz.underlying26 rfl (by rw [Dg.c_size];kernel_rfl) rfl ((HB2.out.setRow _).kp ((Kp.refl [] _).ext _ _) (by simp)) rfl ?_
 exact ⟨rfl,Kp.to_ext (((((Kp.refl [] w).alloc _).trans K2.out).setRow _ _ (.inl (Nat.le_refl _))).ext _ _)⟩


def WsAt (w:World) (a:Option Addr) (l:List W32):Prop:=∀ i x,l[i]?=some x→∃ b o,a=some ⟨b,o,none⟩∧b<w.heap.size∧w.cell? ⟨b,o+i,none⟩=some (.int .u32 (W x))
def ByAt (w:World) (a:Option Addr) (l:Bs):Prop:=∀ i x,l[i]?=some x→∃ b o,a=some ⟨b,o,none⟩∧b<w.heap.size∧w.cell? ⟨b,o+i,none⟩=some (.int .u8 (x.toNat:Int))
theorem WsAt.kp {S:List Nat} {w w':World} {a:Option Addr} {l:List W32} (h:WsAt w a l) (k:Kp S w w') (hs:∀ b∈ab a,b ∉ S):WsAt w' a l:=by
 intro i p hp
 obtain ⟨b,o,ha,hb,h1⟩:=h i p hp
 exact ⟨b,o,ha,Nat.lt_of_lt_of_le hb k.size,k.cell h1 (hs b (by simp [ab,ha]))⟩
theorem ByAt.kp {S:List Nat} {w w':World} {a:Option Addr} {l:Bs} (h:ByAt w a l) (k:Kp S w w') (hs:∀ b∈ab a,b ∉ S):ByAt w' a l:=by
 intro i p hp
 obtain ⟨b,o,ha,hb,h1⟩:=h i p hp
 exact ⟨b,o,ha,Nat.lt_of_lt_of_le hb k.size,k.cell h1 (hs b (by simp [ab,ha]))⟩
theorem WsAt.get {w:World} {b o:Nat} {l:List W32} (h:WsAt w (some ⟨b,o,none⟩) l) {i:Nat} {x:W32} (hx:l[i]?=some x):w.cell? ⟨b,o+i,none⟩=some (.int .u32 (W x)):=by
 obtain ⟨b',o',e,_,h1⟩:=h i x hx
 cases e;exact h1
theorem ByAt.get {w:World} {b o:Nat} {l:Bs} (h:ByAt w (some ⟨b,o,none⟩) l) {i:Nat} {x:UInt8} (hx:l[i]?=some x):w.cell? ⟨b,o+i,none⟩=some (.int .u8 (x.toNat:Int)):=by
 obtain ⟨b',o',e,_,h1⟩:=h i x hx
 cases e;exact h1
theorem Own.ws {w:World} {a:Option Addr} {n c:Nat} {l:List W32} (h:Own w 115 1 a n c (wC l)):WsAt w a l:=by
 intro i p hp
 have hi:i<l.length:=(List.getElem?_eq_some_iff.1 hp).1
 have hn:=h.block.1
 rw [wC_length] at hn
 obtain ⟨g,rfl,_,hb⟩:=own_at h (by omega)
 have hc:=h.cells rfl i (.int .u32 (W p)) (by simp [wC,hp])
 exact ⟨g,0,rfl,hb,by simpa [Addr.add_lit] using hc⟩

structure WlI (V wr:World) (l:List W32) (L:Nat) (a:Option Addr) (c:Nat):Prop where
 own:Own wr 115 1 a L c (wC l)
 kp:Kp [] V wr
 lo:∀ g∈ab a,V.heap.size≤g
theorem WlI.nil (V:World):WlI V V [] 0 none 0:=⟨Own.nil _ _ _,Kp.refl _ _,by simp [ab]⟩
theorem WlI.len {V wr:World} {t:List W32} {L:Nat} {a:Option Addr} {c:Nat} (h:WlI V wr t L a c):t.length=L:=by
 have:=h.own.block.1;rw [wC_length] at this;omega
theorem WlI.push {V wr wa w2:World} {t:List W32} {L:Nat} {a a2:Option Addr} {c c2:Nat} {x:W32} (h:WlI V wr t L a c) (k:Kp [] wr wa) (o2:Own w2 115 1 a2 (L+1) c2 (wC t++[.int .u32 (W x)])) (k2:Kp (ab a) wa w2) (n2:∀ g∈ab a2,g∈ab a∨wa.heap.size≤g) :
  WlI V w2 (t++[x]) (L+1) a2 c2:=by
 have hz:=h.kp.size
 have hz2:=k.size
 refine ⟨by simpa [wC] using o2,(h.kp.trans k).from k2 (fun g hg=>.inl (h.lo g hg)),fun g hg=>?_⟩
 rcases n2 g hg with h1 | h1
 ·exact h.lo g h1
 ·omega
end Go.Proofs.YtgjaaffheanobaaGreat