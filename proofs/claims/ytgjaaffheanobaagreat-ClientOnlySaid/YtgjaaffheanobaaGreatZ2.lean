/- A world to which blocks have been added, and nothing else. -/
import Derived.Test.YtgjaaffheanobaaGreatZ1
namespace Go.Proofs.YtgjaaffheanobaaGreat
set_option linter.unusedVariables false
set_option linter.unusedSimpArgs false
open Go Go.RowKit

def ext (w:World) (bs:List Obj) (n:Nat):World:={ w with heap:=w.heap++bs.toArray,drawn:=w.drawn+n }

theorem ext_zero (w:World):w=ext w [] 0:=by simp [ext]
theorem ext_alloc (w:World) (bs:List Obj) (n:Nat) (o:Obj):(ext w bs n).alloc o=ext w (bs++[o]) n:=by
 have:(w.heap++bs.toArray).push o=w.heap++(bs++[o]).toArray:=by apply Array.ext';simp
 unfold ext World.alloc
 rw [← this]
theorem ext_drew (w:World) (bs:List Obj) (n:Nat):(ext w bs n).drew=ext w bs (n+1):=by unfold ext World.drew;simp only [Nat.add_assoc]
theorem ext_drewN (w:World) (bs:List Obj) (n m:Nat):(ext w bs n).drewN m=ext w bs (n+m):=by unfold ext World.drewN;simp only [Nat.add_assoc]
theorem alloc_ext (w:World) (o:Obj):w.alloc o=ext w [o] 0:=by
 have h:=ext_alloc w [] 0 o
 rw [← ext_zero] at h
 simpa using h
theorem drew_ext (w:World):w.drew=ext w [] 1:=by
 have h:=ext_drew w [] 0
 rwa [← ext_zero] at h
theorem drewN_ext (w:World) (n:Nat):w.drewN n=ext w [] n:=by
 have h:=ext_drewN w [] 0 n
 rw [← ext_zero] at h
 simpa using h
@[go_sem,simp] theorem ext_ext (w:World) (bs cs:List Obj) (n m:Nat):ext (ext w bs n) cs m=ext w (bs++cs) (n+m):=by
 simp [ext,Nat.add_assoc]
@[go_sem,simp] theorem ext_size (w:World) (bs:List Obj) (n:Nat):(ext w bs n).heap.size=w.heap.size+bs.length:=by simp [ext]
theorem ext_heap (w:World) (bs:List Obj) (n k:Nat) (h:k<w.heap.size):(ext w bs n).heap[k]?=w.heap[k]?:=by
 simp [ext,Array.getElem?_append,h]
@[go_sem] theorem ext_cell (w:World) (bs:List Obj) (n b o:Nat):(ext w bs n).cell? ⟨b,o,none⟩=if b<w.heap.size then w.cell? ⟨b,o,none⟩ else slowCell (ext w bs n) ⟨b,o,none⟩:=by
 split
 ·rename_i h;exact World.cell?_of_block (ext_heap w bs n b h)
 ·rfl
@[go_sem] theorem ext_frozen (w:World) (bs:List Obj) (n b o:Nat):(ext w bs n).frozen? ⟨b,o,none⟩=if b<w.heap.size then w.frozen? ⟨b,o,none⟩ else slowFroz (ext w bs n) ⟨b,o,none⟩:=by
 split
 ·rename_i h;exact World.frozen?_of_block (ext_heap w bs n b h)
 ·rfl
@[go_sem] theorem ext_rowAt (w:World) (bs:List Obj) (n b o m:Nat):rowAt? (ext w bs n) ⟨b,o,none⟩ m=if b<w.heap.size then rowAt? w ⟨b,o,none⟩ m else slowRow (ext w bs n) ⟨b,o,none⟩ m:=by
 split
 ·rename_i h;unfold rowAt?;rw [ext_heap w bs n b h]
 ·rfl
@[go_sem] theorem ext_own (w:World) (bs:List Obj) (n b:Nat):own? (ext w bs n) b=if b<w.heap.size then own? w b else slowOwn (ext w bs n) b:=by
 split
 ·rename_i h;unfold own?;rw [ext_heap w bs n b h]
 ·rfl
theorem setCell_ext (w:World) (bs:List Obj) (n b o:Nat) (v:Value) (h:b<w.heap.size):(ext w bs n).setCell ⟨b,o,none⟩ v=ext (w.setCell ⟨b,o,none⟩ v) bs n:=by
 unfold ext World.setCell
 congr 1
 apply Array.ext_getElem?
 intro k
 simp only [Array.getElem?_modify,Array.getElem?_append,Array.size_modify]
 by_cases hk:k<w.heap.size
 ·simp [hk]
 ·have:¬ b=k:=by omega
  simp [hk,this]
@[go_sem] theorem setCell_ext_if (w:World) (bs:List Obj) (n b o:Nat) (v:Value):(ext w bs n).setCell ⟨b,o,none⟩ v=if b<w.heap.size then ext (w.setCell ⟨b,o,none⟩ v) bs n else slowSetCell (ext w bs n) ⟨b,o,none⟩ v:=by
 split
 ·rename_i h;exact setCell_ext w bs n b o v h
 ·rfl
theorem setRow_ext (w:World) (bs:List Obj) (n b:Nat) (cs:Array Value) (h:b<w.heap.size):(ext w bs n).setRow b cs=ext (w.setRow b cs) bs n:=by
 unfold ext World.setRow
 congr 1
 apply Array.ext_getElem?
 intro k
 simp only [Array.getElem?_modify,Array.getElem?_append,Array.size_modify]
 by_cases hk:k<w.heap.size
 ·simp [hk]
 ·have:¬ b=k:=by omega
  simp [hk,this]
@[go_sem] theorem setRow_ext_if (w:World) (bs:List Obj) (n b:Nat) (cs:Array Value):(ext w bs n).setRow b cs=if b<w.heap.size then ext (w.setRow b cs) bs n else slowSetRow (ext w bs n) b cs:=by
 split
 ·rename_i h;exact setRow_ext w bs n b cs h
 ·rfl
theorem Kp.ext {S:List Nat} {a w:World} (h:Kp S a w) (bs:List Obj) (n:Nat):Kp S a (ext w bs n):=
 h.trans ⟨rfl,rfl,rfl,by simp,fun k hk _=>ext_heap w bs n k hk,Nat.le_add_right _ _⟩
theorem Kp.to_ext {w w':World} (h:Kp [] w w'):∃ bs n,w'=Proofs.YtgjaaffheanobaaGreat.ext w bs n:=by
 refine ⟨w'.heap.toList.drop w.heap.size,w'.drawn - w.drawn,?_⟩
 have hh:w'.heap=w.heap++(w'.heap.toList.drop w.heap.size).toArray:=by
  apply Array.ext_getElem?
  intro k
  rw [Array.getElem?_append]
  split
  ·rename_i hk;exact h.block k hk (by simp)
  ·rename_i hk
   simp only [List.getElem?_toArray,List.getElem?_drop,Array.getElem?_toList]
   congr 1
   omega
 have hd:w'.drawn=w.drawn+(w'.drawn - w.drawn):=by have:=h.drawn;omega
 have h1:=h.os;have h2:=h.tape;have h3:=h.output
 obtain ⟨hp',tp',dr',os',ou'⟩:=w'
 simp only at *
 subst h1 h2 h3
 unfold Proofs.YtgjaaffheanobaaGreat.ext
 rw [← hh,← hd]
def Rets (v:Value) (w:World) (e:Ending) (w':World):Prop:=e=.returned v∧∃ bs n,w'=ext w bs n
theorem Rets.mk {v:Value} {w:World} {bs:List Obj} {n:Nat}:Rets v w (.returned v) (Proofs.YtgjaaffheanobaaGreat.ext w bs n):=⟨rfl,bs,n,rfl⟩
theorem Rets.same {v:Value} {w:World}:Rets v w (.returned v) w:=⟨rfl,[],0,ext_zero w⟩

structure Q where
 bs:List Obj
 n:Nat

instance:Nonempty Q:=⟨⟨[],0⟩⟩

theorem wp_region_ext {P:Program} {id:Nat} {R:Exit→Act→World→Prop} {a:Act} {w:World} {l:List Oper} (hm:P.follows .mixedOrders=true) (hB:Region.lexB .any l.toArray=true)
  (h:wpQuiet P l.toArray (fun w'=>∃ q:Q,w'=ext w q.bs q.n) (fun a'=>∀ w',(∃ q:Q,w'=ext w q.bs q.n)→R .normal a' w') l a):(Code.region id l.toArray true).wp P R a w:=
 wp_region_quiet (C:=fun w'=>∃ q:Q,w'=ext w q.bs q.n) hm hB ⟨⟨[],1⟩,drew_ext w⟩ (by simpa using h)

end Go.Proofs.YtgjaaffheanobaaGreat