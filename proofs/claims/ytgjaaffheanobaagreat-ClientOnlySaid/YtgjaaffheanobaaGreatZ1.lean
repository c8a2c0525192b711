/- Digests and kids as values of many cells, each under one name. -/
import Derived.Test.YtgjaaffheanobaaGreatZ0
import Derived.Laws.CopyOwn
import Derived.KernelRfl
namespace Go.Proofs.YtgjaaffheanobaaGreat
set_option linter.unusedVariables false
set_option linter.unusedSimpArgs false
open Go Go.RowKit

structure Dg where
 l:Bs
 h:l.length=32
deriving DecidableEq

theorem Dg.ext' {a b:Dg} (h:a.l=b.l):a=b:=by cases a;cases b;simp_all

def bC (l:Bs):List Value:=l.map fun b=>.int .u8 b.toNat
theorem bC_length (l:Bs):(bC l).length=l.length:=by simp [bC]
theorem bC_app (a b:Bs):bC (a++b)=bC a++bC b:=by simp [bC]
theorem bC_one (l:Bs):∀ v∈bC l,v.oneCell'=true:=by
 intro v hv
 simp only [bC,List.mem_map] at hv
 obtain ⟨b,_,rfl⟩:=hv
 rfl

def Dg.c (d:Dg):Array Value:=(bC d.l).toArray
@[simp,go_sem] theorem Dg.c_size (d:Dg):d.c.size=32:=by simp [Dg.c,bC,d.h]
theorem Dg.c_one (d:Dg):∀ v∈d.c.toList,v.oneCell'=true:=by simpa [Dg.c] using bC_one d.l

def padB (l:Bs):Bs:=l.take 32++List.replicate (32 - l.length) 0
def Dg.pad (l:Bs):Dg:=⟨padB l,by simp [padB];omega⟩
def Dg.zero:Dg:=Dg.pad []

theorem zero32:Dg.zero.c=#[.int .u8 0,.int .u8 0,.int .u8 0,.int .u8 0,.int .u8 0,.int .u8 0,.int .u8 0,.int .u8 0,.int .u8 0,.int .u8 0,.int .u8 0,.int .u8 0,.int .u8 0,.int .u8 0,.int .u8 0,.int .u8 0,.int .u8 0,.int .u8 0,.int .u8 0,.int .u8 0,.int .u8 0,.int .u8 0,.int .u8 0,.int .u8 0,.int .u8 0,.int .u8 0,.int .u8 0,.int .u8 0,.int .u8 0,.int .u8 0,.int .u8 0,.int .u8 0]:=by kernel_rfl

@[go_sem ↓] theorem agg_zero32:Value.agg #[.int .u8 0,.int .u8 0,.int .u8 0,.int .u8 0,.int .u8 0,.int .u8 0,.int .u8 0,.int .u8 0,.int .u8 0,.int .u8 0,.int .u8 0,.int .u8 0,.int .u8 0,.int .u8 0,.int .u8 0,.int .u8 0,.int .u8 0,.int .u8 0,.int .u8 0,.int .u8 0,.int .u8 0,.int .u8 0,.int .u8 0,.int .u8 0,.int .u8 0,.int .u8 0,.int .u8 0,.int .u8 0,.int .u8 0,.int .u8 0,.int .u8 0,.int .u8 0]=.agg Dg.zero.c:=by rw [zero32]

def rowAt? (w:World) (a:Addr) (n:Nat):Option (Array Value):=
 match w.heap[a.block]? with
 | some (.cells c _ _)=>if a.spot.isSome then none else if a.off+n≤c.size then some (c.extract a.off (a.off+n)) else none
 | _=>none
def own? (w:World) (g:Nat):Option (Array Value):=
 match w.heap[g]? with
 | some (.cells c _ (0,0))=>some c
 | _=>none

theorem rowAt?_cell {w:World} {a:Addr} {n:Nat} {cs:Array Value} (h:rowAt? w a n=some cs):cs.size=n∧∀ j v,cs[j]?=some v→w.cell? (a.add j)=some v:=by
 unfold rowAt? at h
 split at h
 ·rename_i c e f hb
  split at h
  ·cases h
  ·rename_i hs
   split at h
   ·rename_i hle
    simp only [Option.some.injEq] at h
    subst h
    refine ⟨by simp;omega,fun j v hj=>?_⟩
    have hsp:a.spot=none:=by simpa using hs
    have ha:a.add j=⟨a.block,a.off+j,none⟩:=by
     unfold Addr.add;split
     ·subst_vars;cases a;simp_all
     ·simp [hsp]
    rw [ha]
    simp only [World.cell?,hb]
    simp only [Array.getElem?_extract] at hj
    split at hj
    ·simpa using hj
    ·cases hj
   ·cases h
 ·cases h

theorem rowAt?_blk {w:World} {b:Nat} {t:TypeId} {cs:Array Value} (h:Blk w b t cs):rowAt? w ⟨b,0,none⟩ cs.size=some cs:=by
 unfold Blk at h;simp [rowAt?,h]
theorem own?_blk {w:World} {b:Nat} {t:TypeId} {cs:Array Value} (h:Blk w b t cs):own? w b=some cs:=by
 unfold Blk at h;simp [own?,h]

@[simp,go_sem] theorem rowAt?_drew (w:World) (a:Addr) (n:Nat):rowAt? w.drew a n=rowAt? w a n:=rfl
@[simp,go_sem] theorem rowAt?_drewN (w:World) (m:Nat) (a:Addr) (n:Nat):rowAt? (w.drewN m) a n=rowAt? w a n:=rfl
@[simp,go_sem] theorem own?_drew (w:World) (g:Nat):own? w.drew g=own? w g:=rfl
@[simp,go_sem] theorem own?_drewN (w:World) (m g:Nat):own? (w.drewN m) g=own? w g:=rfl
theorem rowAt?_alloc_at (w:World) (c:Array Value) (t:TypeId) (g o n:Nat) (hg:g=w.heap.size):rowAt? (w.alloc (.cells c t)) ⟨g,o,none⟩ n=if o+n≤c.size then some (c.extract o (o+n)) else none:=by
 subst hg;unfold rowAt?;rw [heap_alloc_new];simp
theorem rowAt?_alloc_past (w:World) (x:Obj) (g o n:Nat) (hg:g<w.heap.size):rowAt? (w.alloc x) ⟨g,o,none⟩ n=rowAt? w ⟨g,o,none⟩ n:=by
 unfold rowAt?;rw [Below.heap_alloc w x g hg]
theorem own?_alloc_at (w:World) (c:Array Value) (t:TypeId) (g:Nat) (hg:g=w.heap.size):own? (w.alloc (.cells c t)) g=some c:=by
 subst hg;unfold own?;rw [heap_alloc_new];rfl
theorem own?_alloc_past (w:World) (x:Obj) (g:Nat) (hg:g<w.heap.size):own? (w.alloc x) g=own? w g:=by
 unfold own?;rw [Below.heap_alloc w x g hg]
def slowRow (w:World) (a:Addr) (n:Nat):Option (Array Value):=rowAt? w a n
def slowOwn (w:World) (g:Nat):Option (Array Value):=own? w g
def slowCell (w:World) (a:Addr):Option Value:=w.cell? a
def slowFroz (w:World) (a:Addr):Bool:=w.frozen? a
def slowSetRow (w:World) (g:Nat) (cs:Array Value):World:=w.setRow g cs
def slowSetCell (w:World) (a:Addr) (v:Value):World:=w.setCell a v
@[go_sem] theorem rowAt?_alloc_if (w:World) (c:Array Value) (t:TypeId) (g o n:Nat):rowAt? (w.alloc (.cells c t)) ⟨g,o,none⟩ n =
  if g<w.heap.size then rowAt? w ⟨g,o,none⟩ n else if g=w.heap.size then (if o+n≤c.size then some (c.extract o (o+n)) else none) else slowRow (w.alloc (.cells c t)) ⟨g,o,none⟩ n:=by
 split
 ·rename_i h;exact rowAt?_alloc_past w _ g o n h
 ·split
  ·rename_i h;rw [rowAt?_alloc_at w c t g o n h]
  ·rfl
@[go_sem] theorem own?_alloc_if (w:World) (c:Array Value) (t:TypeId) (g:Nat):own? (w.alloc (.cells c t)) g=if g<w.heap.size then own? w g else if g=w.heap.size then some c else slowOwn (w.alloc (.cells c t)) g:=by
 split
 ·rename_i h;exact own?_alloc_past w _ g h
 ·split
  ·rename_i h;rw [own?_alloc_at w c t g h]
  ·rfl
@[go_sem low] theorem cell?_alloc_if (w:World) (c:Array Value) (t:TypeId) (g o:Nat):(w.alloc (.cells c t)).cell? ⟨g,o,none⟩=if g<w.heap.size then w.cell? ⟨g,o,none⟩ else if g=w.heap.size then c[o]? else slowCell (w.alloc (.cells c t)) ⟨g,o,none⟩:=by
 split
 ·rename_i h;exact World.cell?_alloc_past _ _ _ h
 ·split
  ·rename_i h;exact World.cell?_alloc_at _ _ _ _ h
  ·rfl
@[go_sem low] theorem frozen?_alloc_if (w:World) (c:Array Value) (t:TypeId) (g o:Nat):(w.alloc (.cells c t)).frozen? ⟨g,o,none⟩=if g<w.heap.size then w.frozen? ⟨g,o,none⟩ else if g=w.heap.size then false else slowFroz (w.alloc (.cells c t)) ⟨g,o,none⟩:=by
 split
 ·rename_i h;exact World.frozen?_alloc_past _ _ _ h
 ·split
  ·rename_i h;exact World.frozen?_alloc_at _ _ _ _ h
  ·rfl
@[go_sem low] theorem setCell_alloc_if (w:World) (c:Array Value) (t:TypeId) (g o:Nat) (v:Value):(w.alloc (.cells c t)).setCell ⟨g,o,none⟩ v=if g<w.heap.size then (w.setCell ⟨g,o,none⟩ v).alloc (.cells c t) else if g=w.heap.size then w.alloc (.cells (c.setIfInBounds o v) t) else slowSetCell (w.alloc (.cells c t)) ⟨g,o,none⟩ v:=by
 split
 ·rename_i h;exact World.setCell_alloc_past _ _ _ _ h
 ·split
  ·rename_i h;exact World.setCell_alloc_at _ _ _ _ _ h
  ·rfl
theorem setRow_alloc_at (w:World) (c cs:Array Value) (t:TypeId) (g:Nat) (hg:g=w.heap.size):(w.alloc (.cells c t)).setRow g cs=w.alloc (.cells cs t):=by
 subst hg
 unfold World.setRow World.alloc
 congr 1
 apply Array.ext_getElem?
 intro k
 simp only [Array.getElem?_modify,Array.getElem?_push]
 by_cases hk:k=w.heap.size
 ·subst hk;simp
 ·simp [hk];intro h;exact absurd h.symm hk
theorem setRow_alloc_past (w:World) (x:Obj) (cs:Array Value) (g:Nat) (hg:g<w.heap.size):(w.alloc x).setRow g cs=(w.setRow g cs).alloc x:=by
 unfold World.setRow World.alloc
 congr 1
 apply Array.ext_getElem?
 intro k
 simp only [Array.getElem?_modify,Array.getElem?_push,Array.size_modify]
 by_cases hk:k=w.heap.size
 ·subst hk;simp [Nat.ne_of_lt hg]
 ·simp [hk]
@[go_sem] theorem setRow_alloc_if (w:World) (c cs:Array Value) (t:TypeId) (g:Nat):(w.alloc (.cells c t)).setRow g cs=if g<w.heap.size then (w.setRow g cs).alloc (.cells c t) else if g=w.heap.size then w.alloc (.cells cs t) else slowSetRow (w.alloc (.cells c t)) g cs:=by
 split
 ·rename_i h;exact setRow_alloc_past w _ cs g h
 ·split
  ·rename_i h;exact setRow_alloc_at w c cs t g h
  ·rfl
@[go_sem] theorem setRow_drew (w:World) (g:Nat) (cs:Array Value):w.drew.setRow g cs=(w.setRow g cs).drew:=rfl
@[go_sem] theorem setRow_drewN (w:World) (n g:Nat) (cs:Array Value):(w.drewN n).setRow g cs=(w.setRow g cs).drewN n:=rfl
@[go_sem] theorem rowAt?_setRow_same (w:World) (g o n:Nat) (cs:Array Value):rowAt? (w.setRow g cs) ⟨g,o,none⟩ n=match own? w g with | some _=>(if o+n≤cs.size then some (cs.extract o (o+n)) else none) | none=>slowRow (w.setRow g cs) ⟨g,o,none⟩ n:=by
 split
 ·rename_i c h
  unfold own? at h
  split at h
  ·rename_i c' e hb
   have:=setRow_heap w g c' cs e (0,0) hb
   unfold rowAt?
   rw [this];simp
  ·cases h
 ·rfl
@[go_sem] theorem rowAt?_setRow_other (w:World) (g g' o n:Nat) (cs:Array Value) (h:g'≠g):rowAt? (w.setRow g cs) ⟨g',o,none⟩ n=rowAt? w ⟨g',o,none⟩ n:=by
 unfold rowAt?;rw [setRow_other w g g' cs h]
@[go_sem] theorem own?_setRow_same (w:World) (g:Nat) (cs:Array Value):own? (w.setRow g cs) g=match own? w g with | some _=>some cs | none=>none:=by
 have hm:(w.setRow g cs).heap[g]?=(w.heap[g]?).map fun | .cells _ elem frozen=>.cells cs elem frozen | o=>o:=by
  show (w.heap.modify g _)[g]?=_
  rw [Array.getElem?_modify,if_pos rfl];rfl
 unfold own?
 rw [hm]
 generalize w.heap[g]?=x
 rcases x with _ | x
 ·rfl
 ·cases x <;> first | rfl | (rename_i c e f;obtain ⟨a,b⟩:=f;cases a <;> cases b <;> rfl)
@[go_sem] theorem own?_setRow_other (w:World) (g g':Nat) (cs:Array Value) (h:g'≠g):own? (w.setRow g cs) g'=own? w g':=by
 unfold own?;rw [setRow_other w g g' cs h]
@[go_sem] theorem cell?_setRow_same (w:World) (g o:Nat) (cs:Array Value):(w.setRow g cs).cell? ⟨g,o,none⟩=match own? w g with | some _=>cs[o]? | none=>slowCell (w.setRow g cs) ⟨g,o,none⟩:=by
 split
 ·rename_i c h
  unfold own? at h
  split at h
  ·rename_i c' e hb
   have:=setRow_heap w g c' cs e (0,0) hb
   simp [World.cell?,this]
  ·cases h
 ·rfl
theorem Blk.setRow {w:World} {g:Nat} {t:TypeId} {c:Array Value} (h:Blk w g t c) (cs:Array Value):Blk (w.setRow g cs) g t cs:=setRow_heap w g c cs t (0,0) h
theorem Blk.setRow_other {w:World} {g b:Nat} {t:TypeId} {c:Array Value} (h:Blk w b t c) (cs:Array Value) (hne:b≠g):Blk (w.setRow g cs) b t c:=(Go.setRow_other w g b cs hne).trans h
theorem Kp.setRow {S:List Nat} {a w:World} (h:Kp S a w) (g:Nat) (cs:Array Value) (hg:a.heap.size≤g∨g∈S):Kp S a (w.setRow g cs):=
 ⟨h.os,h.tape,h.output,by simp;exact h.size,fun k hk hs=>(Go.setRow_other w g k cs (fun e=>by rcases hg with hg | hg;omega;exact hs (e ▸ hg))).trans (h.block k hk hs),h.drawn⟩
theorem rowAt?_kp {S:List Nat} {w w':World} (k:Kp S w w') {a:Addr} {n:Nat} {cs:Array Value} (h:rowAt? w a n=some cs) (hs:a.block ∉ S):rowAt? w' a n=some cs:=by
 have hlt:a.block<w.heap.size:=by
  rcases Nat.lt_or_ge a.block w.heap.size with h' | h'
  ·exact h'
  ·simp [rowAt?,Array.getElem?_eq_none h'] at h
 unfold rowAt? at *
 rw [k.block _ hlt hs];exact h

@[go_sem] theorem Dg.extract_c (d:Dg):d.c.extract 0 32=d.c:=by simp [Array.extract_eq_self_of_le]

def slowLoad (P:Program) (t:TypeId) (a:Addr) (w:World):Result Value:=(loadVar t a).run P w
theorem run_loadVar_big (P:Program) (t:TypeId) (n:Nat) (d:TypeDesc) (hu:P.underlying t=some d) (hd:(match d with | .struct _ | .array _ _=>true | _=>false)=true) (hi:(P.info? t).map (·.size)=some n) (a:Addr) (w:World) :
  (loadVar t a).run P w=match rowAt? w a n with | some cs=>.ok (.agg cs) w | none=>slowLoad P t a w:=by
 split
 ·rename_i cs h
  obtain ⟨hsz,hc⟩:=rowAt?_cell h
  have hl:=run_loadCells_list (P:=P) w a cs.toList (fun j v hv=>hc j v (by simpa using hv))
  cases hq:P.info? t with
  | none=>simp [hq] at hi
  | some i=>
   have hs:i.size=n:=by simpa [hq] using hi
   have hagg:(isAgg t).run P w=.ok true w:=by
    unfold isAgg
    rw [Sem.run_bind,run_underlying hu w]
    cases d <;> simp_all
   simp only [Array.length_toList,Array.toArray_toList,hsz] at hl
   simp [loadVar,Sem.run_bind,hagg,sizeOf,typeInfo,hq,hs,hl]
 ·rfl

def slowStore (P:Program) (t:TypeId) (a:Addr) (v:Value) (w:World):Result Unit:=(storeVar t a v).run P w
def spl (c:Array Value) (o:Nat) (cs:Array Value):Array Value:=(c.toList.take o++cs.toList++c.toList.drop (o+cs.size)).toArray
theorem spl_whole (c cs:Array Value) (h:c.size=cs.size):spl c 0 cs=cs:=by
 apply Array.ext'
 simp [spl,h.symm]
theorem run_storeVar_big (P:Program) (t:TypeId) (n:Nat) (hi:(P.info? t).map (·.size)=some n) (g o:Nat) (cs:Array Value) (hn:cs.size=n) (h1:∀ v∈cs.toList,v.oneCell'=true) (w:World) :
  (storeVar t ⟨g,o,none⟩ (.agg cs)).run P w=match own? w g with | some c=>(if o+n≤c.size then .ok () (w.setRow g (spl c o cs)) else slowStore P t ⟨g,o,none⟩ (.agg cs) w) | none=>slowStore P t ⟨g,o,none⟩ (.agg cs) w:=by
 split
 ·rename_i c h
  unfold own? at h
  split at h
  ·rename_i c' e hb
   simp only [Option.some.injEq] at h
   subst h
   split
   ·rename_i hle
    cases hq:P.info? t with
    | none=>simp [hq] at hi
    | some i=>
     have hs:i.size=n:=by simpa [hq] using hi
     have hst:=run_storeCells_at P g o e cs.toList 0 c' w hb (by simpa [hn] using hle) h1
     simp only [Nat.add_zero,Array.length_toList] at hst
     simp [storeVar,Sem.run_bind,sizeOf,typeInfo,hq,hs,Value.cells,hn,hst,spl]
   ·rfl
  ·cases h
 ·rfl

def okCells (cs:Array Value):Bool:=cs.toList.all fun v=>match v with | .agg _ | .tuple _=>false | _=>true
theorem okCells_one {cs:Array Value} (h:okCells cs=true):∀ v∈cs.toList,v.oneCell'=true:=by
 intro v hv
 have:=List.all_eq_true.1 h v hv
 cases v <;> first | rfl | simp at this
theorem okCells_of {cs:Array Value} (h:∀ v∈cs.toList,v.oneCell'=true):okCells cs=true:=by
 refine List.all_eq_true.2 fun v hv=>?_
 have:=h v hv
 cases v <;> first | rfl | (simp [Value.oneCell'] at this)
@[simp,go_sem] theorem okCells_dg (d:Dg):okCells d.c=true:=okCells_of d.c_one

def ldBig (t:TypeId) (v:Value):Sem Next:=do pure (.value (← Instr.loadAt t v))
def stBig (t:TypeId) (a v:Value):Sem Next:=do Instr.storeAt t a v;pure .skip
def slowLd (P:Program) (t:TypeId) (v:Value) (w:World):Result Next:=(ldBig t v).run P w
def slowSt (P:Program) (t:TypeId) (a v:Value) (w:World):Result Next:=(stBig t a v).run P w

theorem run_ldBig (P:Program) (t:TypeId) (n:Nat) (d:TypeDesc) (hu:P.underlying t=some d) (hd:(match d with | .struct _ | .array _ _=>true | _=>false)=true) (hi:(P.info? t).map (·.size)=some n) (a:Addr) (w:World) :
  (ldBig t (.pointer (some a))).run P w=match rowAt? w a n with | some cs=>.ok (.value (.agg cs)) w | none=>slowLd P t (.pointer (some a)) w:=by
 split
 ·rename_i cs h
  have hl:=run_loadVar_big P t n d hu hd hi a w
  rw [h] at hl
  simp [ldBig,Instr.loadAt,Instr.sureAddr,Sem.run_bind,hl]
 ·rfl
theorem run_stBig (P:Program) (t:TypeId) (n:Nat) (hi:(P.info? t).map (·.size)=some n) (g o:Nat) (cs:Array Value) (w:World) :
  (stBig t (.pointer (some ⟨g,o,none⟩)) (.agg cs)).run P w=match own? w g with | some c=>(if o+n≤c.size∧cs.size=n∧okCells cs=true then .ok .skip (w.setRow g (spl c o cs)) else slowSt P t (.pointer (some ⟨g,o,none⟩)) (.agg cs) w) | none=>slowSt P t (.pointer (some ⟨g,o,none⟩)) (.agg cs) w:=by
 split
 ·rename_i c h
  split
  ·rename_i hh
   obtain ⟨h1,h2,h3⟩:=hh
   have hl:=run_storeVar_big P t n hi g o cs h2 (okCells_one h3) w
   rw [h] at hl
   simp only [h1,if_true] at hl
   simp [stBig,Instr.storeAt,Instr.sureAddr,Sem.run_bind,hl]
  ·rfl
 ·rfl

@[go_sem ↓] theorem exec_load_dg (a:Act) (dst:Option Tmp) (x:Operand) (ty:TypeId) (pos:String) (after:Array Edge) (guard:Option (Nat×Bool)) :
  execOp a.eval { dst,op:=.load 26 x,type:=ty,pos,after,guard }=ldBig 26 (a.eval x):=rfl
@[go_sem ↓] theorem exec_store_dg (a:Act) (dst:Option Tmp) (x y:Operand) (ty:TypeId) (pos:String) (after:Array Edge) (guard:Option (Nat×Bool)) :
  execOp a.eval { dst,op:=.store 26 x y,type:=ty,pos,after,guard }=stBig 26 (a.eval x) (a.eval y):=rfl
@[go_sem] theorem run_load_dg (a:Addr) (w:World):(ldBig 26 (.pointer (some a))).run Tryz.prog w=match rowAt? w a 32 with | some cs=>.ok (.value (.agg cs)) w | none=>slowLd Tryz.prog 26 (.pointer (some a)) w:=
 run_ldBig Tryz.prog 26 32 _ Tryz.underlying26 rfl (by kernel_rfl) a w
@[go_sem] theorem run_store_dg (g o:Nat) (cs:Array Value) (w:World):(stBig 26 (.pointer (some ⟨g,o,none⟩)) (.agg cs)).run Tryz.prog w=match own? w g with | some c=>(if o+32≤c.size∧cs.size=32∧okCells cs=true then .ok .skip (w.setRow g (spl c o cs)) else slowSt Tryz.prog 26 (.pointer (some ⟨g,o,none⟩)) (.agg cs) w) | none=>slowSt Tryz.prog 26 (.pointer (some ⟨g,o,none⟩)) (.agg cs) w:=
 run_stBig Tryz.prog 26 32 (by kernel_rfl) g o cs w
@[go_sem] theorem spl_dg (d e:Dg):spl e.c 0 d.c=d.c:=spl_whole _ _ (by simp)
@[go_sem ↓] theorem zero_dg (w:World):(zeroValue 26).run Tryz.prog w=.ok (.agg Dg.zero.c) w:=by
 rw [zero32];kernel_rfl

@[go_sem] theorem spl_pad (t:Bs):spl Dg.zero.c 0 (bC (t.take 32)).toArray=(Dg.pad t).c:=by
 have hz:Dg.zero.c.toList=bC (List.replicate 32 0):=by simp [Dg.zero,Dg.pad,Dg.c,padB]
 unfold spl
 rw [hz]
 simp only [List.take_zero,List.nil_append,Nat.zero_add,List.size_toArray,bC_length,Dg.c,Dg.pad,padB,bC_app]
 congr 2
 simp only [bC,← List.map_drop,List.drop_replicate,List.length_take]
 congr 2
 omega

@[go_sem] theorem spl_nil (c:Array Value) (o:Nat):spl c o (bC []).toArray=c:=by simp [spl,bC]

def slowCopy (P:Program) (ats:Array TypeId) (ty:TypeId) (args:Array Value) (w:World):Result Value:=(Builtin.copy_ ats ty args).run P w
@[go_sem ↓] theorem copy_str (ty g o dLen dCap:Nat) (l:Bs) (w:World):(Builtin.copy_ #[114,9] ty #[.slice (some ⟨g,o,none⟩) dLen dCap,.string ⟨l.toArray⟩]).run Tryz.prog w =
  match own? w g with
  | some c=>(if o+(l.take dLen).length≤c.size then .ok (goInt ((l.take dLen).length:Nat)) (w.setRow g (spl c o (bC (l.take dLen)).toArray)) else slowCopy Tryz.prog #[114,9] ty #[.slice (some ⟨g,o,none⟩) dLen dCap,.string ⟨l.toArray⟩] w)
  | none=>slowCopy Tryz.prog #[114,9] ty #[.slice (some ⟨g,o,none⟩) dLen dCap,.string ⟨l.toArray⟩] w:=by
 split
 ·rename_i c h
  split
  ·rename_i hle
   unfold own? at h
   split at h
   ·rename_i c' e hb
    simp only [Option.some.injEq] at h
    subst h
    have hst:=run_storeCells_at Tryz.prog g o e (bC (l.take dLen)) 0 c' w hb (by simpa [bC_length] using hle) (bC_one _)
    simp only [Nat.add_zero] at hst
    have hlen:(ByteArray.size ⟨l.toArray⟩)=l.length:=rfl
    have hi:(Tryz.prog.info? 5).map (·.size)=some 1:=by kernel_rfl
    cases hq:Tryz.prog.info? 5 with
    | none=>simp [hq] at hi
    | some i=>
     have hmin:l.take (Nat.min l.length dLen)=l.take dLen:=by
      rw [List.take_eq_take_iff]
      show min (min l.length dLen) l.length=min dLen l.length
      omega
     simp [Builtin.copy_,run_underlying Tryz.underlying114,Builtin.lenOf,Builtin.firstCells,sizeOf,typeInfo,hq,hlen]
     have e1:List.take (l.length.min dLen) (List.map (fun (b:UInt8)=>Value.int .u8 b.toNat) l)=bC (l.take dLen):=by
      rw [← hmin,bC,List.map_take]
     rw [e1,hst]
     have e2:(l.length.min dLen)=min dLen l.length:=Nat.min_comm _ _
     rw [e2]
     simp [Result.andThen,spl]
   ·cases h
  ·rfl
 ·rfl

@[go_sem] theorem slice_dg_hi (g n:Nat) (w:World) (h:n≤32):(Instr.sliceAt 26 (.pointer (some ⟨g,0,none⟩)) none (some (.int .i64 (n:Int))) none).run Tryz.prog w=.ok (.slice (some ⟨g,0,none⟩) n 32) w:=by
 have h1:(0:Int)≤n∧(n:Int)≤32:=by omega
 have hu:∀ w,(underlying 26).run Tryz.prog w=.ok (.array 32 5) w:=fun w=>run_underlying Tryz.underlying26 w
 have hi:(Tryz.prog.info? 5).map (·.size)=some 1:=by kernel_rfl
 cases hq:Tryz.prog.info? 5 with
 | none=>simp [hq] at hi
 | some i=>
  simp only [Instr.sliceAt,Sem.run_bind,hu,Result.andThen_ok]
  simp [Instr.sliceBounds,Instr.sliceBound,Instr.sureAddr,asIntOf,Sem.run_bind,h1,sizeOf,typeInfo,hq,Addr.add]
  intro h2;exact absurd h (by omega)

@[go_sem] theorem copy_row (ty g o n c g' o' c':Nat) (w:World):(Builtin.copy_ #[114,114] ty #[.slice (some ⟨g,o,none⟩) n c,.slice (some ⟨g',o',none⟩) n c']).run Tryz.prog w =
  match own? w g,rowAt? w ⟨g',o',none⟩ n with
  | some d,some cs=>(if o+n≤d.size∧okCells cs=true then .ok (goInt (n:Nat)) (w.setRow g (spl d o cs)) else slowCopy Tryz.prog #[114,114] ty #[.slice (some ⟨g,o,none⟩) n c,.slice (some ⟨g',o',none⟩) n c'] w)
  | _,_=>slowCopy Tryz.prog #[114,114] ty #[.slice (some ⟨g,o,none⟩) n c,.slice (some ⟨g',o',none⟩) n c'] w:=by
 split
 ·rename_i d cs h1 h2
  split
  ·rename_i hle
   obtain ⟨hle,hok⟩:=hle
   unfold own? at h1
   split at h1
   ·rename_i cur e hb
    simp only [Option.some.injEq] at h1
    subst h1
    obtain ⟨hsz,hcs⟩:=rowAt?_cell h2
    have hr:=run_copy_row (P:=Tryz.prog) w 114 114 ty 5 g o n c ⟨g',o',none⟩ n c' _ e cs.toList Tryz.underlying114 (by kernel_rfl) hb (by simp [hsz]) (fun j v hv=>hcs j v (by simpa using hv)) (by simpa [hsz] using hle) (okCells_one hok)
    rw [hr]
    simp [spl,hsz]
   ·cases h1
  ·rfl
 ·rfl

theorem run_part_u8 {P:Program} (w:World) (e:Nat) (he:P.underlying e=some (.int .u8)) (l:Bs) (i:Nat) (h:i<l.length):(part e (bC l).toArray (i*1)).run P w=.ok (.int .u8 l[i].toNat) w:=by
 have hg:(bC l)[i]?=some (.int .u8 l[i].toNat):=by simp [bC,h]
 simp [part,isAgg,Sem.run_bind,run_underlying he,hg]

theorem run_equalIn_u8 {P:Program} (w:World) (d:Nat) (t:TypeId) (len e:Nat) (ht:P.underlying t=some (.array len e)) (he:P.underlying e=some (.int .u8)) (hsz:(P.info? e).map (·.size)=some 1) (a b:Bs) (ha:a.length=len) (hb:b.length=len) :
  (Op.equalIn (d+2) t (.agg (bC a).toArray) (.agg (bC b).toArray)).run P w=.ok (a == b) w:=by
 cases hq:P.info? e with
 | none=>simp [hq] at hsz
 | some i=>
  have hi:i.size=1:=by simpa [hq] using hsz
  have hE:∀ x y:Int,(Op.equalIn (d+1) e (.int .u8 x) (.int .u8 y)).run P w=.ok (x == y) w:=fun x y=>run_equalIn_int w d e .u8 .u8 x y he
  obtain ⟨d',hd⟩:∃ d',d'=d+1:=⟨_,rfl⟩
  rw [show d+2=d'+1 by omega]
  rw [← hd] at hE
  clear hd
  simp only [Op.equalIn,Sem.run_bind,run_underlying ht,Result.andThen_ok,sizeOf,typeInfo,run_program,hq,hi,Sem.run_pure]
  rw [Std.Legacy.Range.forIn_eq_forIn_range']
  have key:∀ n i,i+n=len→∀ (f:Nat→Option Bool×PUnit→Sem (ForInStep (Option Bool×PUnit))),(∀ j,f j (none,())=(do
    let x ← part e (bC a).toArray (j*1)
    let y ← part e (bC b).toArray (j*1)
    let r ← Op.equalIn d' e x y
    if (!r)=true then pure (ForInStep.done (some false,())) else do pure (ForInStep.yield (none,())))) →
    (forIn (List.range' i n 1) ((none,()):Option Bool×Unit) f).run P w=.ok (if a.drop i == b.drop i then (none,()) else (some false,())) w:=by
   intro n
   induction n with
   | zero=>
    intro i hi f _
    have h1:a.drop i=[]:=List.drop_of_length_le (by omega)
    have h2:b.drop i=[]:=List.drop_of_length_le (by omega)
    simp [h1,h2]
   | succ n ih=>
    intro i hi f hf
    have hia:i<a.length:=by omega
    have hib:i<b.length:=by omega
    have e1:(a.drop i == b.drop i)=(((a[i].toNat:Int) == (b[i].toNat:Int)) && (a.drop (i+1) == b.drop (i+1))):=by
     rw [← List.getElem_cons_drop hia,← List.getElem_cons_drop hib]
     rw [Bool.eq_iff_iff]
     simp only [beq_iff_eq,List.cons.injEq,Bool.and_eq_true,← UInt8.toNat_inj]
     constructor
     ·rintro ⟨h1,h2⟩;exact ⟨by omega,h2⟩
     ·rintro ⟨h1,h2⟩;exact ⟨by omega,h2⟩
    rw [List.range'_succ,List.forIn_cons,hf]
    simp only [Sem.run_bind,run_part_u8 w e he a i hia,run_part_u8 w e he b i hib,Result.andThen_ok,hE]
    rw [e1]
    cases h:((a[i].toNat:Int) == (b[i].toNat:Int))
    ·simp [Sem.run_pure]
    ·have:=ih (i+1) (by omega) f hf
     simp only [Bool.not_true,Bool.false_eq_true,if_false,Sem.run_pure,Result.andThen_ok,Bool.true_and]
     exact this
  simp only [Std.Legacy.Range.size,show (len - 0+1 - 1) / 1=len by omega]
  rw [key len 0 (by omega) _ (fun j=>rfl)]
  simp only [List.drop_zero,Result.andThen_ok]
  cases h:(a == b) <;> simp [Sem.run_pure]

@[go_sem ↓] theorem eq_dg (w:World) (a b:Dg):(Op.equalIn 10000 26 (.agg a.c) (.agg b.c)).run Tryz.prog w=.ok (decide (a=b)) w:=by
 have:=run_equalIn_u8 (P:=Tryz.prog) w 9998 26 32 5 Tryz.underlying26 Tryz.underlying5 (by kernel_rfl) a.l b.l a.h b.h
 rw [show (decide (a=b))=(a.l == b.l) by rw [Bool.eq_iff_iff];simp;exact ⟨fun h=>by rw [h],Dg.ext'⟩]
 exact this

@[go_sem] theorem guard_dg:Tryz.prog.eqGuardType Tryz.prog.depth 26=false:=by kernel_rfl

end Go.Proofs.YtgjaaffheanobaaGreat