/- A world to which blocks have been added, and nothing else. -/
import Derived.Test.YtcaggadjkccbiaaGreatZ1
import Derived.Test.YtcaggadjkccbiaaGreatZ0
namespace Go.Proofs.YtcaggadjkccbiaaGreat
set_option linter.unusedVariables false
set_option linter.unusedSimpArgs false
open Go Go.RowKit

def ext (w:World) (bs:List Obj) (n:Nat):World:={ w with heap:=w.heap++bs.toArray,drawn:=w.drawn+n }

theorem ext_zero (w:World):w=ext w [] 0:=by simp [ext]
theorem ext_alloc (w:World) (bs:List Obj) (n:Nat) (o:Obj):(ext w bs n).alloc o=ext w (bs++[o]) n:=by
 have:(w.heap++bs.toArray).push o=w.heap++(bs++[o]).toArray:=by apply Array.ext';simp
 unfold ext World.alloc
 rw [← this]
theorem ext_drew (w:World) (bs:List Obj) (n:Nat):(ext w bs n).drew=ext w bs (n+1):=by unfold ext World.drew;simp only [Nat.add_assoc]
theorem ext_drewN (w:World) (bs:List Obj) (n m:Nat):(ext w bs n).drewN m=ext w bs (n+m):=by unfold ext World.drewN;simp only [Nat.add_assoc]
theorem alloc_ext (w:World) (o:Obj):w.alloc o=ext w [o] 0:=by
 have h:=ext_alloc w [] 0 o
 rw [← ext_zero] at h
 simpa using h
theorem drew_ext (w:World):w.drew=ext w [] 1:=by
 have h:=ext_drew w [] 0
 rwa [← ext_zero] at h
theorem drewN_ext (w:World) (n:Nat):w.drewN n=ext w [] n:=by
 have h:=ext_drewN w [] 0 n
 rw [← ext_zero] at h
 simpa using h
@[go_sem,simp] theorem ext_ext (w:World) (bs cs:List Obj) (n m:Nat):ext (ext w bs n) cs m=ext w (bs++cs) (n+m):=by
 simp [ext,Nat.add_assoc]
@[go_sem,simp] theorem ext_size (w:World) (bs:List Obj) (n:Nat):(ext w bs n).heap.size=w.heap.size+bs.length:=by simp [ext]
theorem ext_heap (w:World) (bs:List Obj) (n k:Nat) (h:k<w.heap.size):(ext w bs n).heap[k]?=w.heap[k]?:=by
 simp [ext,Array.getElem?_append,h]
@[go_sem] theorem ext_cell (w:World) (bs:List Obj) (n b o:Nat):(ext w bs n).cell? ⟨b,o,none⟩=if b<w.heap.size then w.cell? ⟨b,o,none⟩ else slowCell (ext w bs n) ⟨b,o,none⟩:=by
 split
 ·rename_i h;exact World.cell?_of_block (ext_heap w bs n b h)
 ·rfl
@[go_sem] theorem ext_frozen (w:World) (bs:List Obj) (n b o:Nat):(ext w bs n).frozen? ⟨b,o,none⟩=if b<w.heap.size then w.frozen? ⟨b,o,none⟩ else slowFroz (ext w bs n) ⟨b,o,none⟩:=by
 split
 ·rename_i h;exact World.frozen?_of_block (ext_heap w bs n b h)
 ·rfl
@[go_sem] theorem ext_rowAt (w:World) (bs:List Obj) (n b o m:Nat):rowAt? (ext w bs n) ⟨b,o,none⟩ m=if b<w.heap.size then rowAt? w ⟨b,o,none⟩ m else slowRow (ext w bs n) ⟨b,o,none⟩ m:=by
 split
 ·rename_i h;unfold rowAt?;rw [ext_heap w bs n b h]
 ·rfl
@[go_sem] theorem ext_own (w:World) (bs:List Obj) (n b:Nat):own? (ext w bs n) b=if b<w.heap.size then own? w b else slowOwn (ext w bs n) b:=by
 split
 ·rename_i h;unfold own?;rw [ext_heap w bs n b h]
 ·rfl
theorem setCell_ext (w:World) (bs:List Obj) (n b o:Nat) (v:Value) (h:b<w.heap.size):(ext w bs n).setCell ⟨b,o,none⟩ v=ext (w.setCell ⟨b,o,none⟩ v) bs n:=by
 unfold ext World.setCell
 congr 1
 apply Array.ext_getElem?
 intro k
 simp only [Array.getElem?_modify,Array.getElem?_append,Array.size_modify]
 by_cases hk:k<w.heap.size
 ·simp [hk]
 ·have:¬ b=k:=by omega
  simp [hk,this]
@[go_sem] theorem setCell_ext_if (w:World) (bs:List Obj) (n b o:Nat) (v:Value):(ext w bs n).setCell ⟨b,o,none⟩ v=if b<w.heap.size then ext (w.setCell ⟨b,o,none⟩ v) bs n else slowSetCell (ext w bs n) ⟨b,o,none⟩ v:=by
 split
 ·rename_i h;exact setCell_ext w bs n b o v h
 ·rfl
theorem setRow_ext (w:World) (bs:List Obj) (n b:Nat) (cs:Array Value) (h:b<w.heap.size):(ext w bs n).setRow b cs=ext (w.setRow b cs) bs n:=by
 unfold ext World.setRow
 congr 1
 apply Array.ext_getElem?
 intro k
 simp only [Array.getElem?_modify,Array.getElem?_append,Array.size_modify]
 by_cases hk:k<w.heap.size
 ·simp [hk]
 ·have:¬ b=k:=by omega
  simp [hk,this]
@[go_sem] theorem setRow_ext_if (w:World) (bs:List Obj) (n b:Nat) (cs:Array Value):(ext w bs n).setRow b cs=if b<w.heap.size then ext (w.setRow b cs) bs n else slowSetRow (ext w bs n) b cs:=by
 split
 ·rename_i h;exact setRow_ext w bs n b cs h
 ·rfl
theorem Kp.ext {S:List Nat} {a w:World} (h:Kp S a w) (bs:List Obj) (n:Nat):Kp S a (ext w bs n):=
 h.trans ⟨rfl,rfl,rfl,by simp,fun k hk _=>ext_heap w bs n k hk,Nat.le_add_right _ _⟩
theorem ext_kp (w:World) (bs:List Obj) (n:Nat):Kp [] w (ext w bs n):=(Kp.refl _ _).ext bs n

theorem Kp.to_ext {w w':World} (h:Kp [] w w'):∃ bs n,w'=Proofs.YtcaggadjkccbiaaGreat.ext w bs n:=by
 refine ⟨w'.heap.toList.drop w.heap.size,w'.drawn - w.drawn,?_⟩
 have hh:w'.heap=w.heap++(w'.heap.toList.drop w.heap.size).toArray:=by
  apply Array.ext_getElem?
  intro k
  rw [Array.getElem?_append]
  split
  ·rename_i hk;exact h.block k hk (by simp)
  ·rename_i hk
   simp only [List.getElem?_toArray,List.getElem?_drop,Array.getElem?_toList]
   congr 1
   omega
 have hd:w'.drawn=w.drawn+(w'.drawn - w.drawn):=by have:=h.drawn;omega
 have h1:=h.os;have h2:=h.tape;have h3:=h.output
 obtain ⟨hp',tp',dr',os',ou'⟩:=w'
 simp only at *
 subst h1 h2 h3
 unfold Proofs.YtcaggadjkccbiaaGreat.ext
 rw [← hh,← hd]
def Rets (v:Value) (w:World) (e:Ending) (w':World):Prop:=e=.returned v∧∃ bs n,w'=ext w bs n
theorem Rets.mk {v:Value} {w:World} {bs:List Obj} {n:Nat}:Rets v w (.returned v) (Proofs.YtcaggadjkccbiaaGreat.ext w bs n):=⟨rfl,bs,n,rfl⟩
theorem Rets.same {v:Value} {w:World}:Rets v w (.returned v) w:=⟨rfl,[],0,ext_zero w⟩

structure Q where
 bs:List Obj
 n:Nat

instance:Nonempty Q:=⟨⟨[],0⟩⟩

theorem wp_region_ext {P:Program} {id:Nat} {R:Exit→Act→World→Prop} {a:Act} {w:World} {l:List Oper} (hm:P.follows .mixedOrders=true) (hB:Region.lexB .any l.toArray=true)
  (h:wpQuiet P l.toArray (fun w'=>∃ q:Q,w'=ext w q.bs q.n) (fun a'=>∀ w',(∃ q:Q,w'=ext w q.bs q.n)→R .normal a' w') l a):(Code.region id l.toArray true).wp P R a w:=
 wp_region_quiet (C:=fun w'=>∃ q:Q,w'=ext w q.bs q.n) hm hB ⟨⟨[],1⟩,drew_ext w⟩ (by simpa using h)

theorem Calls.quiet_ext {P:Program} {f:FuncId} {args:Array Value} {w:World} {bs:List Obj} {n:Nat} {v:Value}
  (h:Calls P f args (Proofs.YtcaggadjkccbiaaGreat.ext w bs n) (Rets v (Proofs.YtcaggadjkccbiaaGreat.ext w bs n))):Calls P f args (Proofs.YtcaggadjkccbiaaGreat.ext w bs n) fun e w''=>e=.returned v∧∃ q:Q,w''=Proofs.YtcaggadjkccbiaaGreat.ext w q.bs q.n:=
 h.mono fun _ _ ⟨he,bs',m,hm⟩=>⟨he,⟨bs++bs',n+m⟩,by rw [hm,ext_ext]⟩

theorem Calls.quiet_pure {P:Program} {f:FuncId} {args:Array Value} {w:World} {bs:List Obj} {n:Nat} {v:Value}
  (h:Calls P f args (Proofs.YtcaggadjkccbiaaGreat.ext w bs n) fun e w'=>e=.returned v∧Proofs.YtcaggadjkccbiaaGreat.ext w bs n=w'):Calls P f args (Proofs.YtcaggadjkccbiaaGreat.ext w bs n) fun e w''=>e=.returned v∧∃ q:Q,w''=Proofs.YtcaggadjkccbiaaGreat.ext w q.bs q.n:=
 h.mono fun _ _ ⟨he,hm⟩=>⟨he,⟨bs,n⟩,hm.symm⟩

set_option maxHeartbeats 1000000
set_option maxRecDepth 100000

theorem maxKey_any (p wd:Int) (w:World) (h0:0≤p) (h1:p≤1000000):Calls Tryz.prog 116 #[.agg #[.int .i64 p,.int .i64 wd]] w (Rets (.int .i64 (p / 16)) w):=by
 go_enter Tryz.func116,Tryz.ntmps116
 go_wp2
 go_ret
 exact ⟨rfl,by (try simp only [alloc_ext,drew_ext,drewN_ext,ext_ext]);exact ⟨_,_,rfl⟩⟩

theorem maxVal_any (p wd:Int) (w:World) (h0:0≤p) (h1:p≤1000000):Calls Tryz.prog 136 #[.agg #[.int .i64 p,.int .i64 wd]] w (Rets (.int .i64 (p / 8)) w):=by
 go_enter Tryz.func136,Tryz.ntmps136
 go_wp2
 go_ret
 exact ⟨rfl,by (try simp only [alloc_ext,drew_ext,drewN_ext,ext_ext]);exact ⟨_,_,rfl⟩⟩

theorem room_any (p wd:Int) (w:World) (h0:0≤p) (h1:p≤1000000):Calls Tryz.prog 143 #[.agg #[.int .i64 p,.int .i64 wd]] w (Rets (.int .i64 (p - 32)) w):=by
 go_enter Tryz.func143,Tryz.ntmps143
 go_wp2
 go_ret
 exact ⟨rfl,by (try simp only [alloc_ext,drew_ext,drewN_ext,ext_ext]);exact ⟨_,_,rfl⟩⟩

theorem ret_bool {a b:Bool} (h:a=b):Ending.returned (.bool a)=.returned (.bool b):=by rw [h]

def cntN (n:Nat):Nat:=if h:n<128 then 1 else cntN (n / 128)+1
termination_by n
decreasing_by omega
theorem cntN_small {n:Nat} (h:n<128):cntN n=1:=by rw [cntN];simp [h]
theorem cntN_big {n:Nat} (h:¬ n<128):cntN n=cntN (n / 128)+1:=by rw [cntN];simp [h]
theorem cntN_le:∀ (k n:Nat),n<128 ^ k→0<k→cntN n≤k
 | 0,n,_,h=>absurd h (by omega)
 | k+1,n,h,_=>by
  rw [cntN]
  split
  ·omega
  ·by_cases hk:k=0
   ·subst hk;simp at h;omega
   ·have:n / 128<128 ^ k:=by
     rw [Nat.pow_succ] at h
     exact Nat.div_lt_of_lt_mul (by omega)
    have:=cntN_le k (n / 128) this (by omega)
    omega
theorem cntN_pos (n:Nat):1≤cntN n:=by rw [cntN];split <;> omega
theorem cntN_le9 (n:Nat) (h:n<9223372036854775808):cntN n≤9:=cntN_le 9 n (by omega) (by omega)

theorem count_any (n:Nat) (w:World) (hn:n≤9223372036854775807):Calls Tryz.prog 167 #[.int .i64 n] w fun e w'=>e=.returned (.int .i64 (cntN n:Nat))∧w=w':=by
 have hl:=cntN_le9 n (by omega)
 have HL:=Lib.hid hl;clear hl
 go_enter Tryz.func167,Tryz.ntmps167
 go_wp2
 go_loop [0,3] (fun x k=>∃ m j:Nat,x=.int .i64 m∧k=.int .i64 j∧m≤n∧1≤j∧Hid (j - 1+cntN m=cntN n)) (fun x _=>(intOf x).toNat)
 case atStart=>exact ⟨n,1,rfl,rfl,Nat.le_refl _,Nat.le_refl _,by show _=_;omega⟩
 case round=>
  obtain ⟨m,j,rfl,rfl,hm,hj,HJ⟩:=hrel
  have hj9:j≤9:=by have:=HJ.out;have:=HL.out;have:=cntN_pos m;omega
  by_cases hs:m<128
  ·go_wp2
   go_ret
   exact ⟨ret_int (by have:=HJ.out;rw [cntN_small hs] at this;omega),rfl⟩
  ·go_wp2
   go_round
   case rel=>exact ⟨m / 128,j+1,by go_num,by go_num,by omega,by omega,by show _=_;have:=HJ.out;rw [cntN_big hs] at this;omega⟩
   case measure=>simp [intOf];omega

def txN (t:Bs):Nat:=cntN t.length+t.length

theorem text_any (t:Bs) (w:World) (hn:t.length≤140737488351232):Calls Tryz.prog 168 #[.string ⟨t.toArray⟩] w fun e w'=>e=.returned (.int .i64 (txN t:Nat))∧w=w':=by
 have hl:=cntN_le9 t.length (by omega)
 go_enter Tryz.func168,Tryz.ntmps168
 go_wp2_with (go_at_call 167;refine (count_any _ _ (by omega)).mono ?_;rintro e w' ⟨rfl,rfl⟩)
 go_ret
 exact ⟨ret_int (by simp [txN]),rfl⟩

theorem wide_any (n:Int) (w:World):Calls Tryz.prog 53 #[.int .i64 n] w fun e w'=>e=.returned (.bool (decide (1≤n∧n≤32)))∧w=w':=by
 by_cases h1:1≤n
 ·go_enter Tryz.func53,Tryz.ntmps53
  go_wp2
  go_ret
  exact ⟨ret_bool (by rw [Bool.eq_iff_iff];simp;omega),rfl⟩
 ·go_enter Tryz.func53,Tryz.ntmps53
  go_wp2
  go_ret
  exact ⟨ret_bool (by rw [Bool.eq_iff_iff];simp;omega),rfl⟩

theorem isLeaf_any (pa sa ka:Option Addr) (pn sn kn pc sc kc:Nat) (w:World) :
  Calls Tryz.prog 129 #[.agg #[.slice pa pn pc,.slice sa sn sc,.slice ka kn kc]] w (Rets (.bool (decide (sn=0∧kn=0))) w):=by
 by_cases h1:sn=0
 ·have hb:((sn:Int) == 0)=true:=by simp;omega
  go_enter Tryz.func129,Tryz.ntmps129
  go_wp2
  go_ret
  exact ⟨ret_bool (by rw [Bool.eq_iff_iff];simp;omega),(by (try simp only [alloc_ext,drew_ext,drewN_ext,ext_ext]);exact ⟨_,_,rfl⟩)⟩
 ·have hb:((sn:Int) == 0)=false:=by simp;omega
  go_enter Tryz.func129,Tryz.ntmps129
  go_wp2
  go_ret
  exact ⟨ret_bool (by rw [Bool.eq_iff_iff];simp;omega),(by (try simp only [alloc_ext,drew_ext,drewN_ext,ext_ext]);exact ⟨_,_,rfl⟩)⟩

end Go.Proofs.YtcaggadjkccbiaaGreat