/- A block of 64 bytes is taken in, by the program. -/
import Derived.Test.YtgjaaffheanobaaGreatZ39
import Derived.StillTailTactics
import Derived.Deep.Cut
namespace Go.Proofs.YtgjaaffheanobaaGreat
set_option maxHeartbeats 1000000
set_option maxRecDepth 100000
set_option linter.unusedVariables false
set_option linter.unusedSimpArgs false
open Go Go.RowKit

def fillW (l:List W32):List W32:=l++List.replicate (64 - l.length) 0
theorem fillW_len {l:List W32} (h:l.length≤64):(fillW l).length=64:=by simp [fillW];omega
theorem fillW_set {l:List W32} (x:W32) (h:l.length<64):(fillW l).set l.length x=fillW (l++[x]):=by
 unfold fillW
 rw [List.set_append_right _ _ (by omega),Nat.sub_self]
 obtain ⟨m,hm⟩:∃ m,64 - l.length=m+1:=⟨63 - l.length,by omega⟩
 rw [hm,List.replicate_succ,List.set_cons_zero,List.append_assoc]
 simp
 omega
theorem fillW_get {l:List W32} {i:Nat} (h:i<l.length):(fillW l)[i]?=l[i]?:=by
 unfold fillW;rw [List.getElem?_append_left h]
theorem wC_set (l:List W32) (i:Nat) (x:W32):(wC l).toArray.setIfInBounds i (.int .u32 (W x))=(wC (l.set i x)).toArray:=by
 simp [wC,List.map_set]

theorem words_len:∀ (n:Nat) (l:Bs),l.length=4*n→(words l).length=n
 | 0,l,h=>by
  have:l=[]:=List.eq_nil_of_length_eq_zero (by omega)
  subst this;rfl
 | n+1,a::b::c::d::l,h=>by
  simp only [List.length_cons] at h
  simp only [words,List.length_cons,words_len n l (by omega)]
 | n+1,[],h=>by simp at h
 | n+1,[_],h=>by simp at h;omega
 | n+1,[_,_],h=>by simp at h;omega
 | n+1,[_,_,_],h=>by simp at h;omega
theorem words_get:∀ (n:Nat) (l:Bs) (k:Nat),l.length=4*n→k<n→∃ a b c d,l[4*k]?=some a∧l[4*k+1]?=some b∧l[4*k+2]?=some c∧l[4*k+3]?=some d∧(words l)[k]?=some (word a b c d)
 | 0,_,k,_,h=>by omega
 | n+1,a::b::c::d::l,0,h,_=>⟨a,b,c,d,rfl,rfl,rfl,rfl,rfl⟩
 | n+1,a::b::c::d::l,k+1,h,hk=>by
  simp only [List.length_cons] at h
  obtain ⟨x,y,z,u,h1,h2,h3,h4,h5⟩:=words_get n l k (by omega) (by omega)
  refine ⟨x,y,z,u,?_,?_,?_,?_,?_⟩
  ·rw [show 4*(k+1)=4*k+1+1+1+1 by omega];simpa using h1
  ·rw [show 4*(k+1)+1=4*k+1+1+1+1+1 by omega];simpa using h2
  ·rw [show 4*(k+1)+2=4*k+2+1+1+1+1 by omega];simpa using h3
  ·rw [show 4*(k+1)+3=4*k+3+1+1+1+1 by omega];simpa using h4
  ·simpa [words] using h5
 | n+1,[],_,h,_=>by simp at h
 | n+1,[_],_,h,_=>by simp at h;omega
 | n+1,[_,_],_,h,_=>by simp at h;omega
 | n+1,[_,_,_],_,h,_=>by simp at h;omega

theorem bC_get (l:Bs) (i:Nat):(bC l).toArray[i]?=(l[i]?).map fun b=>.int .u8 (b.toNat:Int):=by simp [bC]

theorem fill_next {wr:World} {B:Nat} {t:TypeId} {l:List W32} {k:Nat} {x:W32} (h:Blk wr B t (wC (fillW (l.take k))).toArray) (hk:(l.take k).length=k) (h64:k<64) (hx:l[k]?=some x) :
  Blk (wr.setCell ⟨B,k,none⟩ (.int .u32 (W x))) B t (wC (fillW (l.take (k+1)))).toArray:=by
 have:=h.set k (.int .u32 (W x))
 rw [wC_set] at this
 have e:=fillW_set (l:=l.take k) x (by omega)
 rw [hk] at e
 rw [e] at this
 rwa [List.take_add_one,hx]

theorem sched_snoc:∀ (n:Nat) (l:List W32),sched (n+1) l=sched n l++[wNext (sched n l)]
 | 0,l=>rfl
 | n+1,l=>by rw [sched,sched_snoc n (l++[wNext l])];rfl
theorem sched_len:∀ (n:Nat) (l:List W32),(sched n l).length=l.length+n
 | 0,l=>rfl
 | n+1,l=>by rw [sched,sched_len n];simp;omega

def sch (bs:Bs) (k:Nat):List W32:=sched (k - 16) (words bs)
theorem sch_len {bs:Bs} {k:Nat} (hl:bs.length=64) (hk:16≤k):(sch bs k).length=k:=by
 unfold sch;rw [sched_len,words_len 16 bs hl];omega
theorem sch_next {bs:Bs} {k:Nat} (hl:bs.length=64) (hk:16≤k):∃ a b c d,(sch bs k)[k - 16]?=some a∧(sch bs k)[k - 15]?=some b∧(sch bs k)[k - 7]?=some c∧(sch bs k)[k - 2]?=some d∧sch bs (k+1)=sch bs k++[wMix a b c d]:=by
 have h:=sch_len hl hk
 have key:∀ i,i<k→(sch bs k)[i]?=some ((sch bs k).getD i 0):=fun i hi=>by
  rw [List.getD_eq_getElem?_getD,List.getElem?_eq_getElem (by omega)];rfl
 refine ⟨_,_,_,_,key _ (by omega),key _ (by omega),key _ (by omega),key _ (by omega),?_⟩
 have e:sch bs (k+1)=sch bs k++[wNext (sch bs k)]:=by
  unfold sch;rw [show k+1 - 16=(k - 16)+1 by omega,sched_snoc]
 rw [e]
 unfold wNext
 rw [h]
theorem over_set {wr w2:World} {B:Nat} {t:TypeId} {l:List W32} {k:Nat} {x:W32} (h:Blk wr B t (wC l).toArray) (hk:k<l.length) {bs:List Obj} {n:Nat} (hw:(ext (wr.setCell ⟨B,k,none⟩ (.int .u32 (W x))) bs n).drew=w2) :
  Blk w2 B t (wC (l.set k x)).toArray∧Kp [B] wr w2∧w2.cell? ⟨B,k,none⟩=some (.int .u32 (W x))∧w2.frozen? ⟨B,k,none⟩=false∧B<w2.heap.size:=by
 subst hw
 have h1:=h.set k (.int .u32 (W x))
 rw [wC_set] at h1
 have h2:=(h1.kp ((Kp.refl [] _).ext bs n) (by simp)).drew
 refine ⟨h2,(((Kp.refl [B] _).setCell _ (.inr (by simp))).ext _ _).drew,?_,h2.frozen k,h2.lt⟩
 rw [h2.cell,wC_get]
 simp [hk]
theorem over_set2 {wr w2:World} {B:Nat} {t:TypeId} {l:List W32} {k:Nat} {x:W32} (h:Blk wr B t (wC l).toArray) (hk:k<l.length) (hw:(wr.setCell ⟨B,k,none⟩ (.int .u32 (W x))).drew=w2) :
  Blk w2 B t (wC (l.set k x)).toArray∧Kp [B] wr w2∧w2.cell? ⟨B,k,none⟩=some (.int .u32 (W x))∧w2.frozen? ⟨B,k,none⟩=false∧B<w2.heap.size:=
 over_set (bs:=[]) (n:=0) h hk (by rw [← hw,← ext_zero])
theorem wMix_eq (a b c d:W32):a+c+(ror b 7 ^^^ ror b 18 ^^^ b >>> 3)+(ror d 17 ^^^ ror d 19 ^^^ d >>> 10)=wMix a b c d:=by
 unfold wMix
 rw [UInt32.add_assoc a c,UInt32.add_comm c,← UInt32.add_assoc]

theorem shaK_len:shaK.length=64:=by decide
@[go_sem] theorem set_z8 (x0 x1 x2 x3 x4 x5 x6 x7:Value):(((((((((wC z8).set 0 x0).set 1 x1).set 2 x2).set 3 x3).set 4 x4).set 5 x5).set 6 x6).set 7 x7).toArray=#[x0,x1,x2,x3,x4,x5,x6,x7]:=rfl
@[go_sem] theorem len_z8:(wC z8).length=8:=rfl
@[go_sem] theorem ne_z8:(wC z8=[])=False:=by simp [wC,z8]
@[go_sem] theorem spl_v8 (v:V8) (x0 x1 x2 x3 x4 x5 x6 x7:Value):spl (wC v.l).toArray 0 #[x0,x1,x2,x3,x4,x5,x6,x7]=#[x0,x1,x2,x3,x4,x5,x6,x7]:=spl_whole _ _ rfl
@[go_sem] theorem wC_v8 (v:V8):(wC v.l).length=8:=rfl
@[go_sem] theorem okCells_8 (y0 y1 y2 y3 y4 y5 y6 y7:Int):okCells #[.int .u32 y0,.int .u32 y1,.int .u32 y2,.int .u32 y3,.int .u32 y4,.int .u32 y5,.int .u32 y6,.int .u32 y7]=true:=rfl
theorem one_eq (v:V8) (k w:W32):v.h+k+w+(ror v.e 6 ^^^ ror v.e 11 ^^^ ror v.e 25)+(v.e &&& v.f ^^^ ~~~v.e &&& v.g)=v.one k w:=by
 unfold V8.one
 generalize (ror v.e 6 ^^^ ror v.e 11 ^^^ ror v.e 25)=p
 generalize (v.e &&& v.f ^^^ ~~~v.e &&& v.g)=q
 apply UInt32.toNat_inj.1
 simp only [UInt32.toNat_add]
 first | done | omega
@[go_sem] theorem W_not (x:W32):bits .xor .u32 (if IntKind.u32.signed=true then -1 else IntKind.u32.max) (W x)=W (~~~x):=by
 have h:(if IntKind.u32.signed=true then -1 else IntKind.u32.max)=((4294967295:Nat):Int):=by decide
 rw [h]
 unfold W
 rw [u32_xor_nat _ _ (by decide) x.toNat_lt]
 congr 1
theorem step_c (v:V8) (k w:W32):#[Value.int .u32 (W (v.h+k+w+(ror v.e 6 ^^^ ror v.e 11 ^^^ ror v.e 25)+(v.e &&& v.f ^^^ ~~~v.e &&& v.g)+((ror v.a 2 ^^^ ror v.a 13 ^^^ ror v.a 22)+(v.a &&& v.b ^^^ v.a &&& v.c ^^^ v.b &&& v.c)))),
  .int .u32 (W v.a),.int .u32 (W v.b),.int .u32 (W v.c),.int .u32 (W (v.d+(v.h+k+w+(ror v.e 6 ^^^ ror v.e 11 ^^^ ror v.e 25)+(v.e &&& v.f ^^^ ~~~v.e &&& v.g)))),.int .u32 (W v.e),.int .u32 (W v.f),.int .u32 (W v.g)]=(wC (v.step k w).l).toArray:=by
 rw [one_eq];rfl
theorem spl_get {c cs:Array Value} {o k:Nat} (h:k<cs.size) (ho:o+cs.size≤c.size):(spl c o cs)[o+k]?=cs[k]?:=by
 unfold spl
 simp only [List.getElem?_toArray]
 rw [List.append_assoc,List.getElem?_append_right (by simp;omega)]
 simp only [List.length_take,Array.length_toList]
 rw [show min o c.size=o by omega,Nat.add_sub_cancel_left,List.getElem?_append_left (by simpa using h)]
 simp
theorem spl_set {c cs:Array Value} {o k:Nat} {x:Value} (h:k<cs.size) (ho:o+cs.size≤c.size):(spl c o cs).setIfInBounds (o+k) x=spl c o (cs.setIfInBounds k x):=by
 obtain ⟨l⟩:=c
 obtain ⟨m⟩:=cs
 simp only [List.size_toArray] at h ho
 unfold spl
 simp only [List.setIfInBounds_toArray,List.size_toArray,List.length_set]
 congr 1
 rw [List.append_assoc,List.append_assoc,List.set_append_right _ _ (by simp;omega)]
 simp only [List.length_take]
 rw [show min o l.length=o by omega,Nat.add_sub_cancel_left,List.set_append_left _ _ h]
theorem spl_self {c cs:Array Value} {o n:Nat} (h:c.extract o (o+n)=cs) (ho:o+n≤c.size):spl c o cs=c:=by
 obtain ⟨l⟩:=c
 subst h
 simp only [List.size_toArray] at ho
 unfold spl
 simp only [List.extract_toArray,List.size_toArray]
 congr 1
 rw [List.extract_eq_take_drop,show o+n - o=n by omega,List.length_take,List.length_drop,show min n (l.length - o)=n by omega,← List.drop_drop,List.append_assoc,List.take_append_drop,List.take_append_drop]
def mixL (x y:V8) (k:Nat):List W32:=(x.add y).l.take k++x.l.drop k
theorem mixL_len (x y:V8) (k:Nat) (h:k≤8):(mixL x y k).length=8:=by simp [mixL,V8.l];omega
theorem mixL_get (x y:V8) (k:Nat) (h:k<8):(mixL x y k)[k]?=x.l[k]?:=by
 unfold mixL
 rw [List.getElem?_append_right (by simp [V8.l];omega)]
 simp [V8.l];congr 1;omega
theorem add_get (x y:V8) (k:Nat) (a b:W32) (ha:x.l[k]?=some a) (hb:y.l[k]?=some b):(x.add y).l[k]?=some (a+b):=by
 have h:(x.add y).l=List.zipWith (·+·) x.l y.l:=rfl
 rw [h,List.getElem?_zipWith,ha,hb]
theorem mixL_set (x y:V8) (k:Nat) (z:W32) (h:k<8) (hz:(x.add y).l[k]?=some z):(mixL x y k).set k z=mixL x y (k+1):=by
 unfold mixL
 have h8:(x.add y).l.length=8:=rfl
 have h9:x.l.length=8:=rfl
 rw [List.set_append_right _ _ (by simp;omega),List.length_take,show min k (x.add y).l.length=k by omega,Nat.sub_self,List.drop_eq_getElem_cons (by omega),List.set_cons_zero,List.take_add_one,hz]
 simp

theorem rounds_snoc (v:V8) (l:List (W32×W32)) (k w:W32):rounds v (l++[(k,w)])=(rounds v l).step k w:=by
 induction l generalizing v with
 | nil=>rfl
 | cons x l ih=>obtain ⟨a,b⟩:=x;exact ih _

theorem rot_7 (x:W32) (w:World):Calls Tryz.prog 161 #[.int .u32 (W x),.int .i64 (-7)] w fun e w'=>e=.returned (.int .u32 (W (ror x 7)))∧w'=w:=(rotate_7 x w).mono fun _ _ h=>⟨h.1,h.2.symm⟩
theorem rot_18 (x:W32) (w:World):Calls Tryz.prog 161 #[.int .u32 (W x),.int .i64 (-18)] w fun e w'=>e=.returned (.int .u32 (W (ror x 18)))∧w'=w:=(rotate_18 x w).mono fun _ _ h=>⟨h.1,h.2.symm⟩
theorem rot_17 (x:W32) (w:World):Calls Tryz.prog 161 #[.int .u32 (W x),.int .i64 (-17)] w fun e w'=>e=.returned (.int .u32 (W (ror x 17)))∧w'=w:=(rotate_17 x w).mono fun _ _ h=>⟨h.1,h.2.symm⟩
theorem rot_19 (x:W32) (w:World):Calls Tryz.prog 161 #[.int .u32 (W x),.int .i64 (-19)] w fun e w'=>e=.returned (.int .u32 (W (ror x 19)))∧w'=w:=(rotate_19 x w).mono fun _ _ h=>⟨h.1,h.2.symm⟩

theorem block_any (g o:Nat) (t:TypeId) (c:Array Value) (v:V8) (bs:Bs) (w:World) (hb:Blk w g t c) (ho:o+8≤c.size) (hc:c.extract o (o+8)=(wC v.l).toArray) (hl:bs.length=64) :
  Calls Tryz.prog 124 #[.pointer (some ⟨g,o,none⟩),.agg (bC bs).toArray] w fun e w'=>e=.returned (.tuple #[])∧Kp [g] w w'∧Blk w' g t (spl c o (wC (takeIn v bs).l).toArray):=by
 obtain ⟨W0,hW0⟩:∃ W0,W0=(w.alloc (.cells (bC bs).toArray 221)).alloc (.cells (wC z64).toArray 258):=⟨_,rfl⟩
 have kw:Kp [] w W0:=by rw [hW0];exact ((Kp.refl [] w).alloc _).alloc _
 have b3:Blk W0 w.heap.size 221 (bC bs).toArray:=by rw [hW0];exact (Blk.new w _ _).alloc _
 have b4:Blk W0 (w.heap.size+1) 258 (wC z64).toArray:=by
  rw [hW0]
  have h:=Blk.new (w.alloc (.cells (bC bs).toArray 221)) 258 (wC z64).toArray
  simpa using h
 have KW:=Lib.hid kw;have B3:=Lib.hid b3;have B4:=Lib.hid b4;have HW0:=Lib.hid hW0;have HB:=Lib.hid (hb.kp kw (by simp));have HL:=Lib.hid hl;have HC:=Lib.hid hc
 have hg:g<w.heap.size:=hb.lt
 have hz:W0.heap.size=w.heap.size+2:=by rw [hW0];simp
 have HZ:=Lib.hid hz
 have hz1:w.heap.size+1<W0.heap.size:=by omega
 clear kw b3 b4 hW0 hb hl hc hz
 go_enter Tryz.func124,Tryz.ntmps124
 go_wp2_with fail
 rw [← HW0.out]
 go_loopw [18] (fun i wr=>∃ k:Nat,i=.int .i64 k∧k≤16∧Hid (Kp [w.heap.size+1] W0 wr)∧Hid (Blk wr (w.heap.size+1) 258 (wC (fillW ((words bs).take k))).toArray)) (fun i _=>16 - (intOf i).toNat)
 case atStart=>exact ⟨0,rfl,Nat.zero_le _,Kp.refl _ _,by show Blk _ _ _ _;simpa [fillW,z64] using B4.out⟩
 case round=>
  obtain ⟨k,rfl,hk,HK,HA⟩:=hrel
  by_cases hlt:k<16
  ·obtain ⟨b0,b1,b2,b3,e0,e1,e2,e3,e4⟩:=words_get 16 bs k (by rw [HL.out]) hlt
   have c0:wr.cell? ⟨w.heap.size,4*k,none⟩=some (.int .u8 (b0.toNat:Int)):=by rw [(B3.out.kp HK.out (by simp)).cell,bC_get,e0];rfl
   have c1:wr.cell? ⟨w.heap.size,4*k+1,none⟩=some (.int .u8 (b1.toNat:Int)):=by rw [(B3.out.kp HK.out (by simp)).cell,bC_get,e1];rfl
   have c2:wr.cell? ⟨w.heap.size,4*k+2,none⟩=some (.int .u8 (b2.toNat:Int)):=by rw [(B3.out.kp HK.out (by simp)).cell,bC_get,e2];rfl
   have c3:wr.cell? ⟨w.heap.size,4*k+3,none⟩=some (.int .u8 (b3.toNat:Int)):=by rw [(B3.out.kp HK.out (by simp)).cell,bC_get,e3];rfl
   have hkl:((words bs).take k).length=k:=by rw [List.length_take,words_len 16 bs (by rw [HL.out])];omega
   obtain ⟨x4,c4⟩:∃ x,wr.cell? ⟨w.heap.size+1,k,none⟩=some x:=by
    rw [HA.out.cell,wC_get]
    have:=fillW_len (l:=(words bs).take k) (by omega)
    rw [List.getElem?_eq_getElem (by omega)];exact ⟨_,rfl⟩
   have HKL:=Lib.hid hkl;clear hkl
   have hf:wr.frozen? ⟨w.heap.size+1,k,none⟩=false:=HA.out.frozen k
   have E4:=Lib.hid e4
   clear e0 e1 e2 e3 e4
   go_wp2_with fail
   have i0:IntKind.i64.wrap (4*(k:Int))=4*k:=IntWalk.i64_in _ (by omega)
   have i1:IntKind.i64.wrap (4*(k:Int)+1)=4*k+1:=IntWalk.i64_in _ (by omega)
   have i2:IntKind.i64.wrap (4*(k:Int)+2)=4*k+2:=IntWalk.i64_in _ (by omega)
   have i3:IntKind.i64.wrap (4*(k:Int)+3)=4*k+3:=IntWalk.i64_in _ (by omega)
   have j0:(0:Int)≤4*(k:Int)∧4*(k:Int)<64:=by omega
   have j1:(0:Int)≤4*(k:Int)+1∧4*(k:Int)+1<64:=by omega
   have j2:(0:Int)≤4*(k:Int)+2∧4*(k:Int)+2<64:=by omega
   have j3:(0:Int)≤4*(k:Int)+3∧4*(k:Int)+3<64:=by omega
   have t0:(4*(k:Int)).toNat=4*k:=by omega
   have t1:(4*(k:Int)+1).toNat=4*k+1:=by omega
   have t2:(4*(k:Int)+2).toNat=4*k+2:=by omega
   have t3:(4*(k:Int)+3).toNat=4*k+3:=by omega
   have j4:(0:Int)≤(k:Int)∧(k:Int)<64:=by omega
   go_still_tail 31,(by kernel_rfl)
   clear i0 i1 i2 i3 j0 j1 j2 j3 j4 t0 t1 t2 t3 c0 c1 c2 c3
   change wpList _ _ _ _ _ wr.drew
   go_wp2_with fail
   go_roundw
   case rel=>exact ⟨k+1,by go_num,by omega,Lib.hid ((HK.out.setCell _ (.inr (by simp))).drew),Lib.hid ((fill_next HA.out HKL.out (by omega) E4.out).drew)⟩
   case measure=>simp [intOf];omega
  ·obtain rfl:k=16:=by omega
   have HA':Hid (Blk wr (w.heap.size+1) 258 (wC (fillW (sch bs 16))).toArray):=Lib.hid (by
    have:=HA.out
    rwa [List.take_of_length_le (by rw [words_len 16 bs (by rw [HL.out])];omega)] at this)
   clear HA hk hlt
   obtain ⟨w1,rfl⟩:∃ w1:World,w1=wr:=⟨_,rfl⟩
   go_wp2_with fail
   go_loopw [6] (fun i wr=>∃ k:Nat,i=.int .i64 k∧16≤k∧k≤64∧Hid (Kp [w.heap.size+1] W0 wr)∧Hid (Blk wr (w.heap.size+1) 258 (wC (fillW (sch bs k))).toArray)) (fun i _=>64 - (intOf i).toNat)
   case atStart=>exact ⟨16,rfl,Nat.le_refl _,by omega,HK,HA'⟩
   case round=>
    clear HA' HK
    obtain ⟨k,rfl,hk1,hk2,HK,HA⟩:=hrel
    by_cases hlt:k<64
    ·obtain ⟨xa,xb,xc,xd,e1,e2,e3,e4,e5⟩:=sch_next (bs:=bs) (k:=k) (by rw [HL.out]) hk1
     have hkl:=sch_len (bs:=bs) (k:=k) (by rw [HL.out]) hk1
     have ca:wr.cell? ⟨w.heap.size+1,k - 16,none⟩=some (.int .u32 (W xa)):=by rw [HA.out.cell,wC_get,fillW_get (by omega),e1];rfl
     have cb:wr.cell? ⟨w.heap.size+1,k - 15,none⟩=some (.int .u32 (W xb)):=by rw [HA.out.cell,wC_get,fillW_get (by omega),e2];rfl
     have cc:wr.cell? ⟨w.heap.size+1,k - 7,none⟩=some (.int .u32 (W xc)):=by rw [HA.out.cell,wC_get,fillW_get (by omega),e3];rfl
     have cd:wr.cell? ⟨w.heap.size+1,k - 2,none⟩=some (.int .u32 (W xd)):=by rw [HA.out.cell,wC_get,fillW_get (by omega),e4];rfl
     obtain ⟨x4,c4⟩:∃ x,wr.cell? ⟨w.heap.size+1,k,none⟩=some x:=by
      rw [HA.out.cell,wC_get]
      have:=fillW_len (l:=sch bs k) (by omega)
      rw [List.getElem?_eq_getElem (by omega)];exact ⟨_,rfl⟩
     have hf:wr.frozen? ⟨w.heap.size+1,k,none⟩=false:=HA.out.frozen k
     have HKL:=Lib.hid hkl;have E5:=Lib.hid e5
     have hz9:w.heap.size+1<wr.heap.size:=HA.out.lt
     clear e1 e2 e3 e4 e5 hkl
     have i0:IntKind.i64.wrap ((k:Int) - 15)=k - 15:=IntWalk.i64_in _ (by omega)
     have i1:IntKind.i64.wrap ((k:Int) - 2)=k - 2:=IntWalk.i64_in _ (by omega)
     have i2:IntKind.i64.wrap ((k:Int) - 16)=k - 16:=IntWalk.i64_in _ (by omega)
     have i3:IntKind.i64.wrap ((k:Int) - 7)=k - 7:=IntWalk.i64_in _ (by omega)
     have j0:(0:Int)≤(k:Int) - 15∧(k:Int) - 15<64:=by omega
     have j1:(0:Int)≤(k:Int) - 2∧(k:Int) - 2<64:=by omega
     have j2:(0:Int)≤(k:Int) - 16∧(k:Int) - 16<64:=by omega
     have j3:(0:Int)≤(k:Int) - 7∧(k:Int) - 7<64:=by omega
     have j4:(0:Int)≤(k:Int)∧(k:Int)<64:=by omega
     have j5:(16:Int)≤(k:Int):=by omega
     have j6:(7:Int)≤(k:Int):=by omega
     have j7:(k:Int) - 16<64:=by omega
     have j8:(k:Int) - 7<64:=by omega
     have t0:((k:Int) - 15).toNat=k - 15:=by omega
     have t1:((k:Int) - 2).toNat=k - 2:=by omega
     have t2:((k:Int) - 16).toNat=k - 16:=by omega
     have t3:((k:Int) - 7).toNat=k - 7:=by omega
     go_wp2_with fail
     refine wp_region_ext (by kernel_rfl) (by kernel_rfl) ?_
     repeat (go_big_quiet_step (fail))
     (refine wpQuiet_nil ?_;intro _ hw';obtain ⟨⟨bsq,nq⟩,hw''⟩:=hw';subst hw'')
     go_wp2_with fail
     go_still_tail 11,(by kernel_rfl)
     change wpList _ _ _ _ _ (ext wr bsq nq).drew
     go_wp2_with fail
     generalize hw2:(ext (wr.setCell ⟨w.heap.size+1,k,none⟩ (.int .u32 (W (xa+xc)))) bsq nq).drew=w2
     obtain ⟨A2,K2,c5,f5,z5⟩:=over_set HA.out (by rw [fillW_len (by rw [HKL.out];omega)];exact hlt) hw2
     have HA2:=Lib.hid A2;have HK2:=Lib.hid K2
     clear hw2 A2 K2
     refine wp_region_still_tail 13 (by kernel_rfl) (by kernel_rfl) ?_
     simp only [List.take_succ_cons,List.take_zero,List.drop_succ_cons,List.drop_zero]
     repeat still_step
     still_call (rot_7 _ _)
     repeat still_step
     still_call (rot_18 _ _)
     repeat still_step
     refine wpStill_nil ?_
     change wpList _ _ _ _ _ w2.drew
     go_wp2_with fail
     generalize hw3:(w2.setCell ⟨w.heap.size+1,k,none⟩ (.int .u32 (W (xa+xc+(ror xb 7 ^^^ ror xb 18 ^^^ xb >>> 3))))).drew=w3
     obtain ⟨A3,K3,c6,f6,z6⟩:=over_set2 HA2.out (by rw [List.length_set,fillW_len (by rw [HKL.out];omega)];exact hlt) hw3
     have HA3:=Lib.hid A3;have HK3:=Lib.hid K3
     clear hw3 A3 K3 c5 f5 z5
     refine wp_region_still_tail 13 (by kernel_rfl) (by kernel_rfl) ?_
     simp only [List.take_succ_cons,List.take_zero,List.drop_succ_cons,List.drop_zero]
     repeat still_step
     still_call (rot_17 _ _)
     repeat still_step
     still_call (rot_19 _ _)
     repeat still_step
     refine wpStill_nil ?_
     change wpList _ _ _ _ _ w3.drew
     go_wp2_with fail
     generalize hw4:(w3.setCell ⟨w.heap.size+1,k,none⟩ (.int .u32 (W (xa+xc+(ror xb 7 ^^^ ror xb 18 ^^^ xb >>> 3)+(ror xd 17 ^^^ ror xd 19 ^^^ xd >>> 10))))).drew=w4
     obtain ⟨A4,K4,-,-,-⟩:=over_set2 HA3.out (by rw [List.length_set,List.length_set,fillW_len (by rw [HKL.out];omega)];exact hlt) hw4
     have HA4:Hid (Blk w4 (w.heap.size+1) 258 (wC (fillW (sch bs (k+1)))).toArray):=Lib.hid (by
      rw [List.set_set,List.set_set,wMix_eq] at A4
      have e:=fillW_set (l:=sch bs k) (wMix xa xb xc xd) (by rw [HKL.out];exact hlt)
      rw [HKL.out] at e
      rwa [e,← E5.out] at A4)
     have HK4:=Lib.hid K4
     clear hw4 A4 K4 c6 f6 z6
     go_roundw
     case rel=>((repeat apply Exists.intro);exact ⟨⟨k+1,by go_num,by omega,by omega,Lib.hid (((HK.out.trans HK2.out).trans HK3.out).trans HK4.out),HA4⟩,rfl⟩)
     case measure=>simp [intOf];omega
    ·obtain rfl:k=64:=by omega
     clear hk1 hk2 hlt
     obtain ⟨w5,rfl⟩:∃ w5:World,w5=wr:=⟨_,rfl⟩
     have hz5:=HK.out.size
     have HG5:=Lib.hid (HB.out.kp HK.out (by simp;omega))
     have HA5:Hid (Blk w5 (w.heap.size+1) 258 (wC (sch bs 64)).toArray):=Lib.hid (by
      have:=HA.out
      rwa [show fillW (sch bs 64)=sch bs 64 by unfold fillW;rw [sch_len (by rw [HL.out]) (by omega)];simp] at this)
     have rg:rowAt? w5 ⟨g,o,none⟩ 8=some (wC v.l).toArray:=by
      have h:=HG5.out
      unfold Blk at h
      unfold rowAt?
      rw [h]
      simp only [Option.isSome_none,Bool.false_eq_true,if_false]
      rw [if_pos ho,HC.out]
     have hg5:g<w5.heap.size:=by omega
     have l1:(wC z64).length=64:=by decide
     have l2:(wC shaK).length=64:=by decide
     have l3:(wC z8).length=8:=by decide
     have l4:(wC v.l).length=8:=by simp [wC,V8.l]
     have o1:=okCells_wC shaK
     have o2:=okCells_wC v.l
     have s1:spl (wC z64).toArray 0 (wC shaK).toArray=(wC shaK).toArray:=spl_whole _ _ (by simp [l1,l2])
     have s2:spl (wC z8).toArray 0 (wC v.l).toArray=(wC v.l).toArray:=spl_whole _ _ (by simp [l3,l4])
     clear HA
     go_wp2_with (go_at_call 162;refine (constants_any _).mono ?_;rintro e w' ⟨rfl,bsc,mc,rfl⟩)
     have hK0:Kp [] w5 (((ext w5 bsc mc).alloc (.cells (wC shaK).toArray 258)).alloc (.cells (wC v.l).toArray 216)):=(((Kp.refl [] w5).ext bsc mc).alloc _).alloc _
     have hA9:Blk (((ext w5 bsc mc).alloc (.cells (wC shaK).toArray 258)).alloc (.cells (wC v.l).toArray 216)) (w5.heap.size+bsc.length) 258 (wC shaK).toArray:=by
      have h:=(Blk.new (ext w5 bsc mc) 258 (wC shaK).toArray).alloc (.cells (wC v.l).toArray 216)
      simpa using h
     have hA10:Blk (((ext w5 bsc mc).alloc (.cells (wC shaK).toArray 258)).alloc (.cells (wC v.l).toArray 216)) (w5.heap.size+bsc.length+1) 216 (wC v.l).toArray:=by
      have h:=Blk.new ((ext w5 bsc mc).alloc (.cells (wC shaK).toArray 258)) 216 (wC v.l).toArray
      simpa using h
     have hle:w5.heap.size≤w5.heap.size+bsc.length:=by omega
     generalize hW5:(((ext w5 bsc mc).alloc (.cells (wC shaK).toArray 258)).alloc (.cells (wC v.l).toArray 216))=W5 at hK0 hA9 hA10 ⊢
     generalize hb9:w5.heap.size+bsc.length=b9 at hle hA9 hA10 ⊢
     clear hW5 hb9 s1 s2 o1 o2 l1 l2 l3 l4 rg
     have A4:=Lib.hid (HA5.out.kp hK0 (by simp));have G5:=Lib.hid (HG5.out.kp hK0 (by simp));have A9:=Lib.hid hA9
     have K5:=Lib.hid (HK.out.trans hK0.of_nil)
     have hz10:=hA10.lt
     have A10:=Lib.hid hA10
     clear hK0 hA9 hA10 HA5 HG5 HK
     obtain ⟨L,hL⟩:∃ L,L=shaK.zip (sch bs 64):=⟨_,rfl⟩
     have HLL:=Lib.hid hL;clear hL
     go_loopw [106] (fun i wr=>∃ (k:Nat) (vv:V8),i=.int .i64 k∧k≤64∧Hid (Kp [b9+1] W5 wr)∧Hid (Blk wr (b9+1) 216 (wC vv.l).toArray)∧Hid (vv=rounds v (L.take k))) (fun i _=>64 - (intOf i).toNat)
     case atStart=>exact ⟨0,v,rfl,by omega,Kp.refl _ _,A10,Lib.hid rfl⟩
     case round=>
      clear A10
      obtain ⟨k,vv,rfl,hk,KR,AR,HV⟩:=hrel
      by_cases hlt:k<64
      ·obtain ⟨kk,hkk⟩:∃ x,shaK[k]?=some x:=⟨_,List.getElem?_eq_getElem (by rw [shaK_len];exact hlt)⟩
       obtain ⟨ww,hww⟩:∃ x,(sch bs 64)[k]?=some x:=⟨_,List.getElem?_eq_getElem (by rw [sch_len (by rw [HL.out]) (by omega)];exact hlt)⟩
       have hnx:L.take (k+1)=L.take k++[(kk,ww)]:=by
        rw [List.take_add_one,HLL.out]
        rw [List.getElem?_zip_eq_some (z:=(kk,ww)) |>.2 ⟨hkk,hww⟩];rfl
       have ck:wr.cell? ⟨b9,k,none⟩=some (.int .u32 (W kk)):=by rw [(A9.out.kp KR.out (by simp)).cell,wC_get,hkk];rfl
       have cw:wr.cell? ⟨w.heap.size+1,k,none⟩=some (.int .u32 (W ww)):=by rw [(A4.out.kp KR.out (by simp;omega)).cell,wC_get,hww];rfl
       have q0:wr.cell? ⟨b9+1,0,none⟩=some (.int .u32 (W vv.a)):=AR.out.cell 0
       have q1:wr.cell? ⟨b9+1,1,none⟩=some (.int .u32 (W vv.b)):=AR.out.cell 1
       have q2:wr.cell? ⟨b9+1,2,none⟩=some (.int .u32 (W vv.c)):=AR.out.cell 2
       have q3:wr.cell? ⟨b9+1,3,none⟩=some (.int .u32 (W vv.d)):=AR.out.cell 3
       have q4:wr.cell? ⟨b9+1,4,none⟩=some (.int .u32 (W vv.e)):=AR.out.cell 4
       have q5:wr.cell? ⟨b9+1,5,none⟩=some (.int .u32 (W vv.f)):=AR.out.cell 5
       have q6:wr.cell? ⟨b9+1,6,none⟩=some (.int .u32 (W vv.g)):=AR.out.cell 6
       have q7:wr.cell? ⟨b9+1,7,none⟩=some (.int .u32 (W vv.h)):=AR.out.cell 7
       have qo:=own?_blk AR.out
       have zr:=AR.out.lt
       have zr4:w.heap.size+1<wr.heap.size:=by omega
       have zr9:b9<wr.heap.size:=by omega
       have HNX:=Lib.hid hnx
       have j4:(0:Int)≤(k:Int)∧(k:Int)<64:=by omega
       clear hkk hww hnx
       go_wp2_with fail
       refine wp_region_ext (by kernel_rfl) (by kernel_rfl) ?_
       repeat (go_big_quiet_step (fail))
       (refine wpQuiet_nil ?_;intro _ hw';obtain ⟨⟨bsq,nq⟩,hw''⟩:=hw';subst hw'')
       go_wp2_with fail
       refine wp_region_ext (by kernel_rfl) (by kernel_rfl) ?_
       repeat (go_big_quiet_step (fail))
       (refine wpQuiet_nil ?_;intro _ hw';obtain ⟨⟨bsq,nq⟩,hw''⟩:=hw';subst hw'')
       go_wp2_with (first
        | (with_reducible (go_at_call 161);with_reducible refine (rotate_6 _ _).mono ?_;rintro e w' ⟨rfl,rfl⟩)
        | (with_reducible (go_at_call 161);with_reducible refine (rotate_11 _ _).mono ?_;rintro e w' ⟨rfl,rfl⟩)
        | (with_reducible (go_at_call 161);with_reducible refine (rotate_25 _ _).mono ?_;rintro e w' ⟨rfl,rfl⟩)
        | (with_reducible (go_at_call 161);with_reducible refine (rotate_2 _ _).mono ?_;rintro e w' ⟨rfl,rfl⟩)
        | (with_reducible (go_at_call 161);with_reducible refine (rotate_13 _ _).mono ?_;rintro e w' ⟨rfl,rfl⟩)
        | (with_reducible (go_at_call 161);with_reducible refine (rotate_22 _ _).mono ?_;rintro e w' ⟨rfl,rfl⟩))
       go_roundw
       case rel=>exact ⟨k+1,vv.step kk ww,by go_num,by omega,Lib.hid ((KR.out.setRow _ _ (.inr (by simp))).ext _ _),Lib.hid (by rw [← step_c];exact (AR.out.setRow _).kp ((Kp.refl [] _).ext _ _) (by simp)),Lib.hid (by rw [HNX.out,rounds_snoc,← HV.out])⟩
       case measure=>simp [intOf];omega
      ·obtain rfl:k=64:=by omega
       have hle5:=KR.out.size
       have hv5:vv=rounds v L:=by
        rw [HV.out,List.take_of_length_le]
        rw [HLL.out,List.length_zip,shaK_len,sch_len (by rw [HL.out]) (by omega)];simp
       have HV5:=Lib.hid hv5
       obtain ⟨w6,rfl⟩:∃ w6:World,w6=wr:=⟨_,rfl⟩
       have G6:=Lib.hid (G5.out.kp KR.out (by simp;omega))
       have K6:=Lib.hid (K5.out.from KR.out (by simp;omega))
       clear hv5 hk hlt HV G5 K5 A4 A9
       go_wp2_with fail
       go_loopw [192] (fun i wr=>∃ k:Nat,i=.int .i64 k∧k≤8∧Hid (Kp [g] w6 wr)∧Hid (Blk wr g t (spl c o (wC (mixL v vv k)).toArray))) (fun i _=>8 - (intOf i).toNat)
       case atStart=>exact ⟨0,rfl,by omega,Kp.refl _ _,by show Blk _ _ _ _;rw [show mixL v vv 0=v.l from rfl,spl_self HC.out ho];exact G6.out⟩
       case round=>
        obtain ⟨k,rfl,hk,KK,AK⟩:=hrel
        by_cases hlt:k<8
        ·have h8:v.l.length=8:=rfl
         have h9:vv.l.length=8:=rfl
         obtain ⟨xa,ha⟩:∃ x,v.l[k]?=some x:=⟨_,List.getElem?_eq_getElem (by omega)⟩
         obtain ⟨xb,hb⟩:∃ x,vv.l[k]?=some x:=⟨_,List.getElem?_eq_getElem (by omega)⟩
         have hm:=mixL_len v vv k (by omega)
         have hms:(wC (mixL v vv k)).toArray.size=8:=by simp [wC,hm]
         have c1:wr.cell? ⟨g,o+k,none⟩=some (.int .u32 (W xa)):=by rw [AK.out.cell,spl_get (by omega) (by omega),wC_get,mixL_get v vv k hlt,ha];rfl
         have c2:wr.cell? ⟨b9+1,k,none⟩=some (.int .u32 (W xb)):=by rw [(AR.out.kp KK.out (by simp;omega)).cell,wC_get,hb];rfl
         have f1:wr.frozen? ⟨g,o+k,none⟩=false:=AK.out.frozen _
         have HS:Hid (Blk (wr.setCell ⟨g,o+k,none⟩ (.int .u32 (W (xa+xb)))) g t (spl c o (wC (mixL v vv (k+1))).toArray)):=Lib.hid (by
          have:=AK.out.set (o+k) (.int .u32 (W (xa+xb)))
          rwa [spl_set (by omega) (by omega),wC_set,mixL_set v vv k _ hlt (add_get v vv k xa xb ha hb)] at this)
         have zg:=AK.out.lt
         have j4:(0:Int)≤(k:Int)∧(k:Int)<8:=by omega
         clear ha hb hm hms h8 h9
         go_wp2_with fail
         go_still_tail 11,(by kernel_rfl)
         change wpList _ _ _ _ _ wr.drew
         go_wp2_with fail
         go_roundw
         case rel=>((repeat apply Exists.intro);exact ⟨⟨k+1,by go_num,by omega,Lib.hid ((KK.out.setCell _ (.inr (by simp))).drew),Lib.hid HS.out.drew⟩,rfl⟩)
         case measure=>simp [intOf];omega
        ·obtain rfl:k=8:=by omega
         go_wp2_with fail
         go_end0
         refine ⟨rfl,?_,?_⟩
         ·exact (KW.out.from K6.out (fun x hx=>by simp at hx;subst hx;exact .inl (by omega))).of_nil.trans KK.out
         ·have h:=AK.out
          rw [show mixL v vv 8=(v.add vv).l from rfl,HV5.out,HLL.out] at h
          exact h

end Go.Proofs.YtgjaaffheanobaaGreat