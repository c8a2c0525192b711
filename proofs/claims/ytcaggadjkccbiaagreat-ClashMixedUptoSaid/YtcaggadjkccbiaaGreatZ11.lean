/- Digests are cut; they fit a width. -/
import Derived.Test.YtcaggadjkccbiaaGreatZ4
import Derived.Test.YtcaggadjkccbiaaGreatZ10
import Derived.Laws.ResultCell
import Derived.Test.YtcaggadjkccbiaaGreatZ3
namespace Go.Proofs.YtcaggadjkccbiaaGreat
set_option maxHeartbeats 1000000
set_option maxRecDepth 100000
set_option linter.unusedVariables false
set_option linter.unusedSimpArgs false
open Go Go.RowKit

theorem dg_ret2 {fn:Func} {R:Ending→World→Prop} {a:Act} {w:World} {p u:Tmp} {g:Nat} {d:Dg} {v:Value} (hr:fn.results=#[.cell p 36,.tmp u]) (hp:a.tmps.getD p undef=.pointer (some ⟨g,0,none⟩)) (hv:a.tmps.getD u undef=v) (hg:rowAt? w ⟨g,0,none⟩ 32=some d.c) (hd:a.defers=[]) (hR:R (.returned (.tuple #[.agg d.c,v])) w) :
  bodyPost Tryz.prog fn R .ret a w:=by
 refine bodyPost_ret (v:=.tuple #[.agg d.c,v]) ?_ hd hR
 rw [results_cell_tmp hr,hp,hv]
 have h1:=run_loadVar_big Tryz.prog 36 32 _ Tryz.underlying36 rfl (by kernel_rfl) ⟨g,0,none⟩ w
 rw [hg] at h1
 simp [asAddr,h1,Result.andThen]

def Dg.cut (n:Nat) (d:Dg):Dg:=Dg.pad (d.l.take n)

theorem cut_bad (n:Int) (d:Dg) (w:World) (h:¬ (1≤n∧n≤32)):Calls Tryz.prog 83 #[.int .i64 n,.agg d.c] w (Rets (.tuple #[.agg Dg.zero.c,.int .i64 2]) w):=by
 have hb:decide (1≤n∧n≤32)=false:=decide_eq_false h
 clear h
 go_enter Tryz.func83,Tryz.ntmps83
 go_wp2_with (go_at_call 53;refine (wide_any _ _).mono ?_;rintro e w' ⟨rfl,rfl⟩)
 refine dg_ret2 rfl rfl rfl (d:=Dg.zero) ?_ rfl ?_
 ·simp [go_sem]
 ·exact ⟨rfl,by (try simp only [alloc_ext,drew_ext,drewN_ext,ext_ext]);exact ⟨_,_,rfl⟩⟩

@[go_sem] theorem extract_take (d:Dg) (n:Nat):d.c.extract 0 n=(bC (d.l.take n)).toArray:=by
 apply Array.ext'
 simp [Dg.c,bC,List.extract_eq_take_drop]
@[go_sem] theorem take32 (d:Dg):d.l.take 32=d.l:=List.take_of_length_le (by rw [d.h];omega)
@[go_sem] theorem bC_l (d:Dg):(bC d.l).toArray=d.c:=rfl
@[go_sem] theorem okCells_bC (l:Bs):okCells (bC l).toArray=true:=okCells_of (by simpa using bC_one l)
@[go_sem] theorem spl_cut (d:Dg) (n:Nat) (h:n≤32):spl Dg.zero.c 0 (bC (d.l.take n)).toArray=(Dg.cut n d).c:=by
 have:=spl_pad (d.l.take n)
 rw [List.take_of_length_le (by simp;omega)] at this
 exact this

theorem cut_any (n:Nat) (d:Dg) (w:World) (h1:1≤n) (h2:n≤32):Calls Tryz.prog 83 #[.int .i64 n,.agg d.c] w (Rets (.tuple #[.agg (Dg.cut n d).c,.int .i64 0]) w):=by
 have hb:decide ((1:Int)≤n∧(n:Int)≤32)=true:=decide_eq_true (by omega)
 go_enter Tryz.func83,Tryz.ntmps83
 go_wp2_with (go_at_call 53;refine (wide_any _ _).mono ?_;rintro e w' ⟨rfl,rfl⟩)
 go_region_held3 (fun _=>True) (trivial) (fail)
 go_wp2
 refine dg_ret2 rfl rfl rfl (d:=Dg.cut n d) ?_ rfl ?_
 ·simp [go_sem]
 ·exact ⟨rfl,by (try simp only [alloc_ext,drew_ext,drewN_ext,ext_ext]);exact ⟨_,_,rfl⟩⟩


def fitB (n:Int) (d:Dg):Bool:=decide (1≤n∧n≤32) && decide (Dg.cut n.toNat d=d)

theorem fits_any (n:Int) (d:Dg) (w:World):Calls Tryz.prog 48 #[.int .i64 n,.agg d.c] w (Rets (.bool (fitB n d)) w):=by
 by_cases h:1≤n∧n≤32
 ·obtain ⟨m,rfl⟩:=Int.eq_ofNat_of_zero_le (show 0≤n by omega)
  have hf:Hid (fitB m d=decide (Dg.cut m d=d)):=by show _=_;unfold fitB;rw [decide_eq_true h];rfl
  obtain ⟨h1,h2⟩:=h
  have h1':1≤m:=by omega
  have h2':m≤32:=by omega
  go_enter Tryz.func48,Tryz.ntmps48
  go_wp2_with (go_at_call 83;refine (cut_any _ _ _ h1' h2').mono ?_;rintro e w' ⟨rfl,bs,nn,rfl⟩)
  go_ret
  rw [hf.out]
  exact ⟨rfl,by (try simp only [alloc_ext,drew_ext,drewN_ext,ext_ext]);exact ⟨_,_,rfl⟩⟩
 ·have hf:Hid (fitB n d=false):=by show _=_;unfold fitB;rw [decide_eq_false h];rfl
  have H:=Lib.hid h;clear h
  go_enter Tryz.func48,Tryz.ntmps48
  go_wp2_with (go_at_call 83;refine (cut_bad _ _ _ H.out).mono ?_;rintro e w' ⟨rfl,bs,nn,rfl⟩)
  go_ret
  rw [hf.out]
  exact ⟨rfl,by (try simp only [alloc_ext,drew_ext,drewN_ext,ext_ext]);exact ⟨_,_,rfl⟩⟩

/-! The frame. -/
def IndexPost (xs : List Int) (v : Int) (w : World) (e : Ending) (w' : World) : Prop := (∃ r : Int, e = .returned (.int .i64 r) ∧ (0 ≤ r ↔ v ∈ xs)) ∧ w = w'

theorem index_any (b:Nat) (xs:List Int) (v:Int) (w:World) (hl:xs.length≤1000) (hc:∀ i x,xs[i]?=some x→w.cell? ⟨b,i,none⟩=some (.int .i64 x)) :
  Calls Tryz.prog 94 #[.slice (some ⟨b,0,none⟩) xs.length xs.length,.int .i64 v] w (IndexPost xs v w):=by
 have HC:=Lib.hid hc;clear hc
 go_enter Tryz.func94,Tryz.ntmps94
 go_wp2
 go_loop [5,8] (fun _ i=>∃ k:Nat,k≤xs.length∧i=.int .i64 k∧Hid (v ∉ xs.take k)) (fun _ i=>xs.length - (intOf i).toNat)
 case atStart=>exact ⟨0,by omega,rfl,by simp [Hid]⟩
 case round=>
  obtain ⟨k,hk,rfl,HN⟩:=hrel
  by_cases hlt:k<xs.length
  ·obtain ⟨x,hx⟩:∃ x,xs[k]?=some x:=⟨_,List.getElem?_eq_getElem hlt⟩
   have hc:=HC.out k x hx
   have HX:=Lib.hid hx;clear hx
   by_cases he:v=x
   ·have hb:(v == x)=true:=by simpa using he
    have HE:=Lib.hid he;clear he
    go_wp2
    go_ret
    exact ⟨⟨k,rfl,⟨fun _=>by rw [HE.out];exact List.mem_of_getElem? HX.out,fun _=>by omega⟩⟩,rfl⟩
   ·have hb:(v == x)=false:=by simpa using he
    have HE:=Lib.hid he;clear he
    go_wp2
    go_round
    case rel=>exact ⟨k+1,by omega,by go_num,by show ¬ _;rw [List.take_add_one,HX.out];simp;exact ⟨HN.out,HE.out⟩⟩
    case measure=>simp [intOf];omega
  ·go_wp2
   go_ret
   exact ⟨⟨-1,rfl,⟨fun h=>absurd h (by omega),fun h=>absurd h (by have:=HN.out;rwa [List.take_of_length_le (by omega)] at this)⟩⟩,rfl⟩

def memB (v:Int) (xs:List Int):Bool:=decide (v∈xs)

theorem contains_any (b:Nat) (xs:List Int) (v:Int) (w:World) (hl:xs.length≤1000) (hc:∀ i x,xs[i]?=some x→w.cell? ⟨b,i,none⟩=some (.int .i64 x)) :
  Calls Tryz.prog 55 #[.slice (some ⟨b,0,none⟩) xs.length xs.length,.int .i64 v] w fun e w'=>e=.returned (.bool (memB v xs))∧w=w':=by
 have HC:=Lib.hid hc;clear hc
 go_enter Tryz.func55,Tryz.ntmps55
 go_wp2_with fail
 refine (index_any _ _ _ _ hl HC.out).mono ?_
 rintro e w' ⟨⟨r,rfl,hr⟩,rfl⟩
 have HR:=Lib.hid hr;clear hr
 go_wp2_with fail
 go_ret
 exact ⟨ret_bool (by have:=HR.out;rw [Bool.eq_iff_iff];simpa [memB] using this),rfl⟩

def rightB (p wd:Int):Bool:=(decide (p=1024) || decide (p=2048) || decide (p=4096) || decide (p=8192)) && decide (1≤wd) && decide (wd≤32)
theorem rightB_iff {p wd:Int}:rightB p wd=true ↔ (p=1024∨p=2048∨p=4096∨p=8192)∧1≤wd∧wd≤32:=by
 simp [rightB,and_assoc,or_assoc]

theorem right_any (p wd:Int) (w:World):Calls Tryz.prog 24 #[.agg #[.int .i64 p,.int .i64 wd]] w (Rets (.bool (rightB p wd)) w):=by
 obtain ⟨m,hm⟩:∃ m,memB p [1024,2048,4096,8192]=m:=⟨_,rfl⟩
 have hr:rightB p wd=(m && decide (1≤wd) && decide (wd≤32)):=by
  rw [← hm,Bool.eq_iff_iff,rightB_iff];simp [memB,and_assoc]
 have HM:=Lib.hid hm;have HR:=Lib.hid hr;clear hm hr
 have hl:([1024,2048,4096,8192]:List Int).length≤1000:=by decide
 cases m
 ·go_enter Tryz.func24,Tryz.ntmps24
  go_wp2_with fail
  refine (contains_any _ [1024,2048,4096,8192] _ _ hl (by intro i x hx;match i,hx with | 0,hx=>(simp at hx;subst hx;simp [go_sem]) | 1,hx=>(simp at hx;subst hx;simp [go_sem]) | 2,hx=>(simp at hx;subst hx;simp [go_sem]) | 3,hx=>(simp at hx;subst hx;simp [go_sem]) | i+4,hx=>simp at hx)).mono ?_
  rintro e w' ⟨rfl,rfl⟩
  rw [HM.out]
  go_wp2_with fail
  go_ret
  rw [HR.out]
  exact ⟨rfl,by (try simp only [alloc_ext,drew_ext,drewN_ext,ext_ext]);exact ⟨_,_,rfl⟩⟩
 ·go_enter Tryz.func24,Tryz.ntmps24
  go_wp2_with fail
  refine (contains_any _ [1024,2048,4096,8192] _ _ hl (by intro i x hx;match i,hx with | 0,hx=>(simp at hx;subst hx;simp [go_sem]) | 1,hx=>(simp at hx;subst hx;simp [go_sem]) | 2,hx=>(simp at hx;subst hx;simp [go_sem]) | 3,hx=>(simp at hx;subst hx;simp [go_sem]) | i+4,hx=>simp at hx)).mono ?_
  rintro e w' ⟨rfl,rfl⟩
  rw [HM.out]
  go_wp2_with fail
  all_goals
   go_ret
   rw [HR.out]
   exact ⟨ret_bool (by rw [Bool.eq_iff_iff];simp;omega),(by (try simp only [alloc_ext,drew_ext,drewN_ext,ext_ext]);exact ⟨_,_,rfl⟩)⟩


structure Kd where
 page:Nat
 sum:Dg
deriving DecidableEq

def Kd.c (k:Kd):Array Value:=(.int .u32 (k.page:Int)::bC k.sum.l).toArray
@[simp,go_sem] theorem Kd.c_size (k:Kd):k.c.size=33:=by simp [Kd.c,bC,k.sum.h]
@[simp,go_sem] theorem okCells_kd (k:Kd):okCells k.c=true:=okCells_of (by
 intro v hv
 simp only [Kd.c,List.mem_cons] at hv
 rcases hv with rfl | hv
 ·rfl
 ·exact bC_one _ v hv)
@[go_sem] theorem Kd.get0 (k:Kd):k.c[0]?=some (.int .u32 (k.page:Int)):=by simp [Kd.c]
@[go_sem] theorem Kd.extract1 (k:Kd):k.c.extract 1 33=k.sum.c:=by
 apply Array.ext'
 simp [Kd.c,Dg.c,List.extract_eq_take_drop]
 exact List.take_of_length_le (by simp [bC,k.sum.h])
@[go_sem] theorem Kd.extract_all (k:Kd):k.c.extract 0 33=k.c:=by simp [Array.extract_eq_self_of_le]
@[go_sem] theorem spl_kd (d e:Kd):spl e.c 0 d.c=d.c:=spl_whole _ _ (by simp)
def Kd.zero:Kd:=⟨0,Dg.zero⟩
theorem zero33:Kd.zero.c=(.int .u32 0::Dg.zero.c.toList).toArray:=by simp [Kd.zero,Kd.c,Dg.c]
@[go_sem ↓] theorem zero_kd (w:World):(zeroValue 150).run Tryz.prog w=.ok (.agg Kd.zero.c) w:=by
 rw [zero33,zero32];kernel_rfl
@[go_sem ↓] theorem exec_load_kd (a:Act) (dst:Option Tmp) (x:Operand) (ty:TypeId) (pos:String) (after:Array Edge) (guard:Option (Nat×Bool)) :
  execOp a.eval { dst,op:=.load 150 x,type:=ty,pos,after,guard }=ldBig 150 (a.eval x):=rfl
@[go_sem ↓] theorem exec_store_kd (a:Act) (dst:Option Tmp) (x y:Operand) (ty:TypeId) (pos:String) (after:Array Edge) (guard:Option (Nat×Bool)) :
  execOp a.eval { dst,op:=.store 150 x y,type:=ty,pos,after,guard }=stBig 150 (a.eval x) (a.eval y):=rfl
@[go_sem] theorem run_load_kd (a:Addr) (w:World):(ldBig 150 (.pointer (some a))).run Tryz.prog w=match rowAt? w a 33 with | some cs=>.ok (.value (.agg cs)) w | none=>slowLd Tryz.prog 150 (.pointer (some a)) w:=
 run_ldBig Tryz.prog 150 33 _ Tryz.underlying150 rfl (by kernel_rfl) a w
@[go_sem] theorem run_store_kd (g o:Nat) (cs:Array Value) (w:World):(stBig 150 (.pointer (some ⟨g,o,none⟩)) (.agg cs)).run Tryz.prog w=match own? w g with | some c=>(if o+33≤c.size∧cs.size=33∧okCells cs=true then .ok .skip (w.setRow g (spl c o cs)) else slowSt Tryz.prog 150 (.pointer (some ⟨g,o,none⟩)) (.agg cs) w) | none=>slowSt Tryz.prog 150 (.pointer (some ⟨g,o,none⟩)) (.agg cs) w:=
 run_stBig Tryz.prog 150 33 (by kernel_rfl) g o cs w

abbrev Pr:=Bs×Bs
structure Nd where
 pairs:List Pr
 seps:List Bs
 kids:List Kd
deriving DecidableEq

def PsAt (w:World) (a:Option Addr) (ps:List Pr):Prop:=∀ i p,ps[i]?=some p→∃ b o,a=some ⟨b,o,none⟩∧b<w.heap.size∧w.cell? ⟨b,o+i*2,none⟩=some (.string ⟨p.1.toArray⟩)∧w.cell? ⟨b,o+i*2+1,none⟩=some (.string ⟨p.2.toArray⟩)
def SsAt (w:World) (a:Option Addr) (ss:List Bs):Prop:=∀ i p,ss[i]?=some p→∃ b o,a=some ⟨b,o,none⟩∧b<w.heap.size∧w.cell? ⟨b,o+i,none⟩=some (.string ⟨p.toArray⟩)
def KsAt (w:World) (a:Option Addr) (ks:List Kd):Prop:=∀ i k,ks[i]?=some k→∃ b o,a=some ⟨b,o,none⟩∧b<w.heap.size∧rowAt? w ⟨b,o+i*33,none⟩ 33=some k.c

theorem PsAt.nil (w:World) (a:Option Addr):PsAt w a []:=by intro i p h;simp at h
theorem SsAt.nil (w:World) (a:Option Addr):SsAt w a []:=by intro i p h;simp at h
theorem KsAt.nil (w:World) (a:Option Addr):KsAt w a []:=by intro i p h;simp at h
theorem PsAt.kp {S:List Nat} {w w':World} {a:Option Addr} {ps:List Pr} (h:PsAt w a ps) (k:Kp S w w') (hs:∀ b∈ab a,b ∉ S):PsAt w' a ps:=by
 intro i p hp
 obtain ⟨b,o,ha,hb,h1,h2⟩:=h i p hp
 have:b ∉ S:=hs b (by simp [ab,ha])
 exact ⟨b,o,ha,Nat.lt_of_lt_of_le hb k.size,k.cell h1 this,k.cell h2 this⟩
theorem SsAt.kp {S:List Nat} {w w':World} {a:Option Addr} {ps:List Bs} (h:SsAt w a ps) (k:Kp S w w') (hs:∀ b∈ab a,b ∉ S):SsAt w' a ps:=by
 intro i p hp
 obtain ⟨b,o,ha,hb,h1⟩:=h i p hp
 have:b ∉ S:=hs b (by simp [ab,ha])
 exact ⟨b,o,ha,Nat.lt_of_lt_of_le hb k.size,k.cell h1 this⟩
theorem KsAt.kp {S:List Nat} {w w':World} {a:Option Addr} {ps:List Kd} (h:KsAt w a ps) (k:Kp S w w') (hs:∀ b∈ab a,b ∉ S):KsAt w' a ps:=by
 intro i p hp
 obtain ⟨b,o,ha,hb,h1⟩:=h i p hp
 have:b ∉ S:=hs b (by simp [ab,ha])
 exact ⟨b,o,ha,Nat.lt_of_lt_of_le hb k.size,rowAt?_kp k h1 this⟩

structure NdOk (n:Nd):Prop where
 np:n.pairs.length≤4398046511104
 ns:n.seps.length≤8796093022208
 nk:n.kids.length≤3909374676453
 sp:∀ p∈n.pairs,p.1.length≤140737488351232∧p.2.length≤140737488351232
 ss:∀ p∈n.seps,p.length≤140737488351232
 pg:∀ k∈n.kids,k.page<4294967296

structure NdAt (w:World) (pa sa ka:Option Addr) (n:Nd):Prop where
 ps:PsAt w pa n.pairs
 ss:SsAt w sa n.seps
 ks:KsAt w ka n.kids

theorem NdAt.kp {S:List Nat} {w w':World} {pa sa ka:Option Addr} {n:Nd} (h:NdAt w pa sa ka n) (k:Kp S w w') (h1:∀ b∈ab pa,b ∉ S) (h2:∀ b∈ab sa,b ∉ S) (h3:∀ b∈ab ka,b ∉ S):NdAt w' pa sa ka n:=
 ⟨h.ps.kp k h1,h.ss.kp k h2,h.ks.kp k h3⟩
theorem NdAt.kp0 {w w':World} {pa sa ka:Option Addr} {n:Nd} (h:NdAt w pa sa ka n) (k:Kp [] w w'):NdAt w' pa sa ka n:=h.kp k (by simp) (by simp) (by simp)


def ixOf {α:Type} (pred:α→Bool) (l:List α):Int:=match l.findIdx? pred with | some i=>(i:Int) | none=>-1
theorem ixOf_yes {α:Type} {pred:α→Bool} {l:List α} {k:Nat} {x:α} (h:∀ y∈l.take k,pred y=false) (hx:l[k]?=some x) (hp:pred x=true):ixOf pred l=k:=by
 have:l.findIdx? pred=some k:=by
  rw [List.findIdx?_eq_some_iff_getElem]
  obtain ⟨hk,rfl⟩:=List.getElem?_eq_some_iff.1 hx
  refine ⟨hk,hp,fun j hj=>?_⟩
  have:=h (l[j]'(by omega)) (by rw [List.mem_take_iff_getElem];exact ⟨j,by omega,rfl⟩)
  simpa using this
 simp [ixOf,this]
theorem ixOf_no {α:Type} {pred:α→Bool} {l:List α} (h:∀ y∈l,pred y=false):ixOf pred l = -1:=by
 have:l.findIdx? pred=none:=by
  rw [List.findIdx?_eq_none_iff];exact h
 simp [ixOf,this]
theorem ixOf_any {α:Type} (pred:α→Bool) (l:List α):decide (0≤ixOf pred l)=l.any pred:=by
 unfold ixOf
 cases h:l.findIdx? pred with
 | none=>
  rw [List.findIdx?_eq_none_iff] at h
  have:l.any pred=false:=by simpa using h
  rw [this];rfl
 | some i=>
  rw [List.findIdx?_eq_some_iff_getElem] at h
  obtain ⟨hi,hp,_⟩:=h
  have:l.any pred=true:=by rw [List.any_eq_true];exact ⟨_,List.getElem_mem hi,hp⟩
  rw [this];simp

theorem ixf_pair (fid:FuncId) (cap:Array Value) (pred:Pr→Bool) (a:Option Addr) (c:Nat) (l:List Pr) (w:World) (hl:l.length≤8796093022208) (h:PsAt w a l) (hfn:∀ args w,(callFunc fid args).run Tryz.prog w=.ok (.enter fid args) w)
  (hf:∀ x∈l,∀ bs n,Calls Tryz.prog fid (#[.agg #[.string ⟨x.1.toArray⟩,.string ⟨x.2.toArray⟩]]++cap) (ext w bs n) (Rets (.bool (pred x)) (ext w bs n))) :
  Calls Tryz.prog 34 #[.slice a l.length c,.func (.func fid) #[] cap] w (Rets (.int .i64 (ixOf pred l)) w):=by
 have H:=Lib.hid h;clear h
 have HF:=Lib.hid hf;clear hf
 go_enter Tryz.func34,Tryz.ntmps34
 go_wp2
 go_loopw [5,8] (fun _ i wr=>∃ k bs n,i=.int .i64 (k:Nat)∧k≤l.length∧wr=ext w bs n∧Hid (∀ x∈l.take k,pred x=false)) (fun _ i _=>l.length - (intOf i).toNat)
 case atStart=>exact ⟨0,[],0,rfl,Nat.zero_le _,ext_zero _,by simp [Hid]⟩
 case round=>
  obtain ⟨k,bs,n,rfl,hk,rfl,HE⟩:=hrel
  by_cases hlt:k<l.length
  ·obtain ⟨x,hx⟩:∃ x,l[k]?=some x:=⟨_,List.getElem?_eq_getElem hlt⟩
   obtain ⟨b,o,rfl,hb,cf1,cf2⟩:=H.out k x hx
   have HX:=Lib.hid hx;clear hx
   have hcall:=HF.out x (List.mem_of_getElem? HX.out)
   have HC:=Lib.hid hcall;clear hcall
   rcases hp:pred x with _ | _
   ·have HP:=Lib.hid hp;clear hp
    go_wp2_with fail
    refine (HC.out _ _).mono ?_
    rintro e w' ⟨rfl,bs2,n2,rfl⟩
    rw [HP.out]
    go_wp2_with fail
    go_roundw
    case rel=>exact ⟨k+1,_,_,by go_num,by omega,by (try simp only [ext_alloc,ext_drew,ext_drewN,ext_ext]);rfl,by
     intro y hy
     rw [List.take_add_one,HX.out] at hy
     simp at hy
     rcases hy with hy | rfl
     ·exact HE.out y hy
     ·exact HP.out⟩
    case measure=>simp [intOf];omega
   ·have HP:=Lib.hid hp;clear hp
    go_wp2_with fail
    refine (HC.out _ _).mono ?_
    rintro e w' ⟨rfl,bs2,n2,rfl⟩
    rw [HP.out]
    go_wp2_with fail
    go_ret
    exact ⟨ret_int (ixOf_yes HE.out HX.out HP.out).symm,(by (try simp only [alloc_ext,drew_ext,drewN_ext,ext_ext]);exact ⟨_,_,rfl⟩)⟩
  ·go_wp2
   go_ret
   exact ⟨ret_int (ixOf_no (fun x hx=>HE.out x (by rwa [List.take_of_length_le (by omega)]))).symm,(by (try simp only [alloc_ext,drew_ext,drewN_ext,ext_ext]);exact ⟨_,_,rfl⟩)⟩

theorem ctf_pair (fid:FuncId) (cap:Array Value) (pred:Pr→Bool) (a:Option Addr) (c:Nat) (l:List Pr) (w:World) (hl:l.length≤8796093022208) (h:PsAt w a l) (hfn:∀ args w,(callFunc fid args).run Tryz.prog w=.ok (.enter fid args) w)
  (hf:∀ x∈l,∀ bs n,Calls Tryz.prog fid (#[.agg #[.string ⟨x.1.toArray⟩,.string ⟨x.2.toArray⟩]]++cap) (ext w bs n) (Rets (.bool (pred x)) (ext w bs n))) :
  Calls Tryz.prog 162 #[.slice a l.length c,.func (.func fid) #[] cap] w (Rets (.bool (l.any pred)) w):=by
 have H:=Lib.hid h;clear h
 have HF:=Lib.hid hf;clear hf
 have HFN:=Lib.hid hfn;clear hfn
 have hx:=ixOf_any pred l
 have HX:=Lib.hid hx;clear hx
 go_enter Tryz.func162,Tryz.ntmps162
 go_wp2_with fail
 refine (ixf_pair fid cap pred _ _ _ _ hl H.out HFN.out HF.out).mono ?_
 rintro e w' ⟨rfl,bs,n,rfl⟩
 go_wp2_with fail
 go_ret
 exact ⟨ret_bool HX.out,(by (try simp only [alloc_ext,drew_ext,drewN_ext,ext_ext]);exact ⟨_,_,rfl⟩)⟩

theorem ixf_kid (fid:FuncId) (cap:Array Value) (pred:Kd→Bool) (a:Option Addr) (c:Nat) (l:List Kd) (w:World) (hl:l.length≤8796093022208) (h:KsAt w a l) (hfn:∀ args w,(callFunc fid args).run Tryz.prog w=.ok (.enter fid args) w)
  (hf:∀ x∈l,∀ bs n,Calls Tryz.prog fid (#[.agg x.c]++cap) (ext w bs n) (Rets (.bool (pred x)) (ext w bs n))) :
  Calls Tryz.prog 188 #[.slice a l.length c,.func (.func fid) #[] cap] w (Rets (.int .i64 (ixOf pred l)) w):=by
 have H:=Lib.hid h;clear h
 have HF:=Lib.hid hf;clear hf
 go_enter Tryz.func188,Tryz.ntmps188
 go_wp2
 go_loopw [5,8] (fun _ i wr=>∃ k bs n,i=.int .i64 (k:Nat)∧k≤l.length∧wr=ext w bs n∧Hid (∀ x∈l.take k,pred x=false)) (fun _ i _=>l.length - (intOf i).toNat)
 case atStart=>exact ⟨0,[],0,rfl,Nat.zero_le _,ext_zero _,by simp [Hid]⟩
 case round=>
  obtain ⟨k,bs,n,rfl,hk,rfl,HE⟩:=hrel
  by_cases hlt:k<l.length
  ·obtain ⟨x,hx⟩:∃ x,l[k]?=some x:=⟨_,List.getElem?_eq_getElem hlt⟩
   obtain ⟨b,o,rfl,hb,cf1⟩:=H.out k x hx
   have HX:=Lib.hid hx;clear hx
   have hcall:=HF.out x (List.mem_of_getElem? HX.out)
   have HC:=Lib.hid hcall;clear hcall
   rcases hp:pred x with _ | _
   ·have HP:=Lib.hid hp;clear hp
    go_wp2_with fail
    refine (HC.out _ _).mono ?_
    rintro e w' ⟨rfl,bs2,n2,rfl⟩
    rw [HP.out]
    go_wp2_with fail
    go_roundw
    case rel=>exact ⟨k+1,_,_,by go_num,by omega,by (try simp only [ext_alloc,ext_drew,ext_drewN,ext_ext]);rfl,by
     intro y hy
     rw [List.take_add_one,HX.out] at hy
     simp at hy
     rcases hy with hy | rfl
     ·exact HE.out y hy
     ·exact HP.out⟩
    case measure=>simp [intOf];omega
   ·have HP:=Lib.hid hp;clear hp
    go_wp2_with fail
    refine (HC.out _ _).mono ?_
    rintro e w' ⟨rfl,bs2,n2,rfl⟩
    rw [HP.out]
    go_wp2_with fail
    go_ret
    exact ⟨ret_int (ixOf_yes HE.out HX.out HP.out).symm,(by (try simp only [alloc_ext,drew_ext,drewN_ext,ext_ext]);exact ⟨_,_,rfl⟩)⟩
  ·go_wp2
   go_ret
   exact ⟨ret_int (ixOf_no (fun x hx=>HE.out x (by rwa [List.take_of_length_le (by omega)]))).symm,(by (try simp only [alloc_ext,drew_ext,drewN_ext,ext_ext]);exact ⟨_,_,rfl⟩)⟩

theorem ctf_kid (fid:FuncId) (cap:Array Value) (pred:Kd→Bool) (a:Option Addr) (c:Nat) (l:List Kd) (w:World) (hl:l.length≤8796093022208) (h:KsAt w a l) (hfn:∀ args w,(callFunc fid args).run Tryz.prog w=.ok (.enter fid args) w)
  (hf:∀ x∈l,∀ bs n,Calls Tryz.prog fid (#[.agg x.c]++cap) (ext w bs n) (Rets (.bool (pred x)) (ext w bs n))) :
  Calls Tryz.prog 164 #[.slice a l.length c,.func (.func fid) #[] cap] w (Rets (.bool (l.any pred)) w):=by
 have H:=Lib.hid h;clear h
 have HF:=Lib.hid hf;clear hf
 have HFN:=Lib.hid hfn;clear hfn
 have hx:=ixOf_any pred l
 have HX:=Lib.hid hx;clear hx
 go_enter Tryz.func164,Tryz.ntmps164
 go_wp2_with fail
 refine (ixf_kid fid cap pred _ _ _ _ hl H.out HFN.out HF.out).mono ?_
 rintro e w' ⟨rfl,bs,n,rfl⟩
 go_wp2_with fail
 go_ret
 exact ⟨ret_bool HX.out,(by (try simp only [alloc_ext,drew_ext,drewN_ext,ext_ext]);exact ⟨_,_,rfl⟩)⟩

end Go.Proofs.YtcaggadjkccbiaaGreat