/- General words: which blocks of memory a call leaves alone; a reader's and a writer's block. -/
import Derived.Test.YtgjaaffheanobaaGreatProg
import Derived.WalkKit
import Derived.WalkSpells
import Derived.WalkLawsBesides
import Derived.Lib.Hide
import Derived.Deep.QuietTactic
import Derived.BigQuiet
namespace Go.Proofs.YtgjaaffheanobaaGreat
set_option linter.unusedVariables false
set_option linter.unusedSimpArgs false
open Go Go.RowKit

abbrev Bs:=List UInt8

theorem ret_int {k:IntKind} {a b:Int} (h:a=b):Ending.returned (.int k a)=.returned (.int k b):=by rw [h]
structure Kp (S:List Nat) (w w':World):Prop where
 os:w'.os=w.os
 tape:w'.tape=w.tape
 output:w'.output=w.output
 size:w.heap.size≤w'.heap.size
 block:∀ k,k<w.heap.size→k ∉ S→w'.heap[k]?=w.heap[k]?
 drawn:w.drawn≤w'.drawn

theorem Kp.refl (S:List Nat) (w:World):Kp S w w:=⟨rfl,rfl,rfl,Nat.le_refl _,fun _ _ _=>rfl,Nat.le_refl _⟩
theorem Kp.trans {S:List Nat} {a b c:World} (h:Kp S a b) (k:Kp S b c):Kp S a c:=
 ⟨k.os.trans h.os,k.tape.trans h.tape,k.output.trans h.output,Nat.le_trans h.size k.size,fun i hi hs=>(k.block i (Nat.lt_of_lt_of_le hi h.size) hs).trans (h.block i hi hs),Nat.le_trans h.drawn k.drawn⟩
theorem Kp.drew {S:List Nat} {a w:World} (h:Kp S a w):Kp S a w.drew:=⟨h.os,h.tape,h.output,h.size,h.block,Nat.le_trans h.drawn (Nat.le_succ _)⟩
theorem Kp.drewN {S:List Nat} {a w:World} (h:Kp S a w) (n:Nat):Kp S a (w.drewN n):=⟨h.os,h.tape,h.output,h.size,h.block,Nat.le_trans h.drawn (Nat.le_add_right _ _)⟩
theorem Kp.alloc {S:List Nat} {a w:World} (h:Kp S a w) (o:Obj):Kp S a (w.alloc o):=
 ⟨h.os,h.tape,h.output,by simp;have:=h.size;omega,fun k hk hs=>(Below.heap_alloc _ _ _ (Nat.lt_of_lt_of_le hk h.size)).trans (h.block k hk hs),h.drawn⟩
theorem Kp.setCell {S:List Nat} {b w:World} (h:Kp S b w) {a:Addr} (v:Value) (ha:b.heap.size≤a.block∨a.block∈S):Kp S b (w.setCell a v):=
 ⟨h.os,h.tape,h.output,by simp [World.setCell];exact h.size,fun k hk hs=>(Below.heap_setCell _ _ _ _ (fun e=>by rcases ha with ha | ha;(have:=h.size;omega);exact hs (e ▸ ha))).trans (h.block k hk hs),h.drawn⟩
theorem Kp.mono {S T:List Nat} {a w:World} (h:Kp S a w) (hs:∀ k,k<a.heap.size→k∈S→k∈T):Kp T a w:=
 ⟨h.os,h.tape,h.output,h.size,fun k hk hn=>h.block k hk (fun e=>hn (hs k hk e)),h.drawn⟩
theorem Kp.of_nil {T:List Nat} {a w:World} (h:Kp [] a w):Kp T a w:=h.mono (fun _ _ h=>by simp at h)
theorem Kp.below {a w:World} (h:Kp [] a w):Below a.heap.size a w:=⟨h.os,h.tape,h.output,h.size,fun k hk=>h.block k hk (by simp)⟩
theorem Kp.from {S T:List Nat} {a b c:World} (h:Kp S a b) (k:Kp T b c) (hT:∀ x,x∈T→a.heap.size≤x∨x∈S):Kp S a c:=
 ⟨k.os.trans h.os,k.tape.trans h.tape,k.output.trans h.output,Nat.le_trans h.size k.size,fun i hi hs=>
  (k.block i (Nat.lt_of_lt_of_le hi h.size) (fun e=>by rcases hT i e with h1 | h1;omega;exact hs h1)).trans (h.block i hi hs),Nat.le_trans h.drawn k.drawn⟩
theorem Kp.blk {S:List Nat} {w w':World} (h:Kp S w w') {k:Nat} {o:Obj} (hk:w.heap[k]?=some o) (hs:k ∉ S):w'.heap[k]?=some o:=
 (h.block k (lt_of_block hk) hs).trans hk
theorem Kp.cell {S:List Nat} {w w':World} (h:Kp S w w') {a:Addr} {v:Value} (hc:w.cell? a=some v) (hs:a.block ∉ S):w'.cell? a=some v:=
 (World.cell?_of_block (w:=w) (h.block a.block (World.block_lt_of_cell? w a hc) hs)).trans hc
theorem Kp.frozen {S:List Nat} {w w':World} (h:Kp S w w') {a:Addr} (ha:a.block<w.heap.size) (hs:a.block ∉ S):w'.frozen? a=w.frozen? a:=
 World.frozen?_of_block (w:=w) (h.block a.block ha hs)

def Blk (w:World) (b:Nat) (t:TypeId) (cs:Array Value):Prop:=w.heap[b]?=some (.cells cs t (0,0))
theorem Blk.lt {w b t cs} (h:Blk w b t cs):b<w.heap.size:=lt_of_block h
theorem Blk.cell {w b t cs} (h:Blk w b t cs) (i:Nat):w.cell? ⟨b,i,none⟩=cs[i]?:=by unfold Blk at h;simp [World.cell?,h]
theorem Blk.frozen {w b t cs} (h:Blk w b t cs) (i:Nat):w.frozen? ⟨b,i,none⟩=false:=by unfold Blk at h;simp [World.frozen?,h]
theorem Blk.kp {S:List Nat} {w w' b t cs} (h:Blk w b t cs) (k:Kp S w w') (hs:b ∉ S):Blk w' b t cs:=k.blk h hs
theorem Blk.set {w b t cs} (h:Blk w b t cs) (i:Nat) (v:Value):Blk (w.setCell ⟨b,i,none⟩ v) b t (cs.setIfInBounds i v):=by
 unfold Blk at *;simp [World.setCell,Array.getElem?_modify,h]
theorem Blk.alloc {w b t cs} (h:Blk w b t cs) (o:Obj):Blk (w.alloc o) b t cs:=(Below.heap_alloc _ _ _ h.lt).trans h
theorem Blk.drew {w b t cs} (h:Blk w b t cs):Blk w.drew b t cs:=h
theorem Blk.drewN {w b t cs} (h:Blk w b t cs) (n:Nat):Blk (w.drewN n) b t cs:=h
theorem Blk.new (w:World) (t:TypeId) (cs:Array Value):Blk (w.alloc (.cells cs t)) w.heap.size t cs:=heap_alloc_new w _

def RdAt (w:World) (b:Nat) (s:Bs) (p f:Int):Prop:=Blk w b 246 #[.bool true,.string ⟨s.toArray⟩,.int .i64 p,.int .i64 f]
def RdOk (w:World) (b:Nat) (s l:Bs):Prop:=∃ p:Nat,p+l.length=s.length∧l=s.drop p∧RdAt w b s p 0
def RdBad (w:World) (b:Nat) (s:Bs):Prop:=∃ (p:Nat) (f:Int),f≠0∧p≤s.length∧RdAt w b s p f

theorem RdAt.cells {w b s p f} (h:RdAt w b s p f):w.cell? ⟨b,0,none⟩=some (.bool true)∧w.cell? ⟨b,1,none⟩=some (.string ⟨s.toArray⟩)∧w.cell? ⟨b,2,none⟩=some (.int .i64 p)∧w.cell? ⟨b,3,none⟩=some (.int .i64 f):=
 ⟨Blk.cell h 0,Blk.cell h 1,Blk.cell h 2,Blk.cell h 3⟩
theorem RdOk.kp {S:List Nat} {w w' b s l} (h:RdOk w b s l) (k:Kp S w w') (hs:b ∉ S):RdOk w' b s l:=let ⟨p,h1,h2,h3⟩:=h;⟨p,h1,h2,Blk.kp h3 k hs⟩
theorem RdBad.kp {S:List Nat} {w w' b s} (h:RdBad w b s) (k:Kp S w w') (hs:b ∉ S):RdBad w' b s:=let ⟨p,f,h1,h2,h3⟩:=h;⟨p,f,h1,h2,Blk.kp h3 k hs⟩
theorem RdOk.lt {w b s l} (h:RdOk w b s l):b<w.heap.size:=let ⟨_,_,_,h3⟩:=h;Blk.lt h3
theorem RdBad.lt {w b s} (h:RdBad w b s):b<w.heap.size:=let ⟨_,_,_,_,h3⟩:=h;Blk.lt h3

end Go.Proofs.YtgjaaffheanobaaGreat