/- General words: which blocks of memory a call leaves alone; a reader's and a writer's block. -/
import Derived.Test.YtemicgccgcmmbaaGreatProg
import Derived.WalkKit
import Derived.WalkSpells
import Derived.WalkLawsBesides
import Derived.Lib.Hide
import Derived.Deep.QuietTactic
import Derived.BigQuiet
import Derived.Laws.CopyOwn
import Derived.KernelRfl
import Derived.Laws.BitsAllLaws
import Derived.Laws.BitsLemmas
import Derived.Deep.RegionHeld3
namespace Go.Proofs.YtemicgccgcmmbaaGreat
set_option linter.unusedVariables false
set_option linter.unusedSimpArgs false
open Go Go.RowKit

abbrev Bs := List UInt8

theorem ret_int {k : IntKind} {a b : Int} (h : a = b) : Ending.returned (.int k a) = .returned (.int k b) := by rw [h]
theorem ret_str {a b : Bs} (h : a = b) : Ending.returned (.string ⟨a.toArray⟩) = .returned (.string ⟨b.toArray⟩) := by rw [h]

/-- All blocks but those of S are as they were. -/
structure Kp (S : List Nat) (w w' : World) : Prop where
  os : w'.os = w.os
  tape : w'.tape = w.tape
  output : w'.output = w.output
  size : w.heap.size ≤ w'.heap.size
  block : ∀ k, k < w.heap.size → k ∉ S → w'.heap[k]? = w.heap[k]?
  drawn : w.drawn ≤ w'.drawn

theorem Kp.refl (S : List Nat) (w : World) : Kp S w w := ⟨rfl, rfl, rfl, Nat.le_refl _, fun _ _ _ => rfl, Nat.le_refl _⟩
theorem Kp.trans {S : List Nat} {a b c : World} (h : Kp S a b) (k : Kp S b c) : Kp S a c :=
  ⟨k.os.trans h.os, k.tape.trans h.tape, k.output.trans h.output, Nat.le_trans h.size k.size, fun i hi hs => (k.block i (Nat.lt_of_lt_of_le hi h.size) hs).trans (h.block i hi hs), Nat.le_trans h.drawn k.drawn⟩
theorem Kp.drew {S : List Nat} {a w : World} (h : Kp S a w) : Kp S a w.drew := ⟨h.os, h.tape, h.output, h.size, h.block, Nat.le_trans h.drawn (Nat.le_succ _)⟩
theorem Kp.drewN {S : List Nat} {a w : World} (h : Kp S a w) (n : Nat) : Kp S a (w.drewN n) := ⟨h.os, h.tape, h.output, h.size, h.block, Nat.le_trans h.drawn (Nat.le_add_right _ _)⟩
theorem Kp.alloc {S : List Nat} {a w : World} (h : Kp S a w) (o : Obj) : Kp S a (w.alloc o) :=
  ⟨h.os, h.tape, h.output, by simp; have := h.size; omega, fun k hk hs => (Below.heap_alloc _ _ _ (Nat.lt_of_lt_of_le hk h.size)).trans (h.block k hk hs), h.drawn⟩
theorem Kp.setCell {S : List Nat} {b w : World} (h : Kp S b w) {a : Addr} (v : Value) (ha : b.heap.size ≤ a.block ∨ a.block ∈ S) : Kp S b (w.setCell a v) :=
  ⟨h.os, h.tape, h.output, by simp [World.setCell]; exact h.size, fun k hk hs => (Below.heap_setCell _ _ _ _ (fun e => by rcases ha with ha | ha; (have := h.size; omega); exact hs (e ▸ ha))).trans (h.block k hk hs), h.drawn⟩
theorem Kp.mono {S T : List Nat} {a w : World} (h : Kp S a w) (hs : ∀ k, k < a.heap.size → k ∈ S → k ∈ T) : Kp T a w :=
  ⟨h.os, h.tape, h.output, h.size, fun k hk hn => h.block k hk (fun e => hn (hs k hk e)), h.drawn⟩
theorem Kp.of_nil {T : List Nat} {a w : World} (h : Kp [] a w) : Kp T a w := h.mono (fun _ _ h => by simp at h)
theorem Kp.below {a w : World} (h : Kp [] a w) : Below a.heap.size a w := ⟨h.os, h.tape, h.output, h.size, fun k hk => h.block k hk (by simp)⟩
/-- What is made or written beyond the blocks that were there at the beginning does not count. -/
theorem Kp.from {S T : List Nat} {a b c : World} (h : Kp S a b) (k : Kp T b c) (hT : ∀ x, x ∈ T → a.heap.size ≤ x ∨ x ∈ S) : Kp S a c :=
  ⟨k.os.trans h.os, k.tape.trans h.tape, k.output.trans h.output, Nat.le_trans h.size k.size, fun i hi hs =>
    (k.block i (Nat.lt_of_lt_of_le hi h.size) (fun e => by rcases hT i e with h1 | h1; omega; exact hs h1)).trans (h.block i hi hs), Nat.le_trans h.drawn k.drawn⟩
theorem Kp.blk {S : List Nat} {w w' : World} (h : Kp S w w') {k : Nat} {o : Obj} (hk : w.heap[k]? = some o) (hs : k ∉ S) : w'.heap[k]? = some o :=
  (h.block k (lt_of_block hk) hs).trans hk
theorem Kp.cell {S : List Nat} {w w' : World} (h : Kp S w w') {a : Addr} {v : Value} (hc : w.cell? a = some v) (hs : a.block ∉ S) : w'.cell? a = some v :=
  (World.cell?_of_block (w := w) (h.block a.block (World.block_lt_of_cell? w a hc) hs)).trans hc
theorem Kp.frozen {S : List Nat} {w w' : World} (h : Kp S w w') {a : Addr} (ha : a.block < w.heap.size) (hs : a.block ∉ S) : w'.frozen? a = w.frozen? a :=
  World.frozen?_of_block (w := w) (h.block a.block ha hs)

/-- A block of cells that are not frozen. -/
def Blk (w : World) (b : Nat) (t : TypeId) (cs : Array Value) : Prop := w.heap[b]? = some (.cells cs t (0, 0))
theorem Blk.lt {w b t cs} (h : Blk w b t cs) : b < w.heap.size := lt_of_block h
theorem Blk.cell {w b t cs} (h : Blk w b t cs) (i : Nat) : w.cell? ⟨b, i, none⟩ = cs[i]? := by unfold Blk at h; simp [World.cell?, h]
theorem Blk.frozen {w b t cs} (h : Blk w b t cs) (i : Nat) : w.frozen? ⟨b, i, none⟩ = false := by unfold Blk at h; simp [World.frozen?, h]
theorem Blk.kp {S : List Nat} {w w' b t cs} (h : Blk w b t cs) (k : Kp S w w') (hs : b ∉ S) : Blk w' b t cs := k.blk h hs
theorem Blk.set {w b t cs} (h : Blk w b t cs) (i : Nat) (v : Value) : Blk (w.setCell ⟨b, i, none⟩ v) b t (cs.setIfInBounds i v) := by
  unfold Blk at *; simp [World.setCell, Array.getElem?_modify, h]
theorem Blk.set_other {w b t cs} (h : Blk w b t cs) {a : Addr} (v : Value) (hne : a.block ≠ b) : Blk (w.setCell a v) b t cs :=
  (Below.heap_setCell _ _ _ _ (fun e => hne e.symm)).trans h
theorem Blk.alloc {w b t cs} (h : Blk w b t cs) (o : Obj) : Blk (w.alloc o) b t cs := (Below.heap_alloc _ _ _ h.lt).trans h
theorem Blk.drew {w b t cs} (h : Blk w b t cs) : Blk w.drew b t cs := h
theorem Blk.drewN {w b t cs} (h : Blk w b t cs) (n : Nat) : Blk (w.drewN n) b t cs := h
theorem Blk.new (w : World) (t : TypeId) (cs : Array Value) : Blk (w.alloc (.cells cs t)) w.heap.size t cs := heap_alloc_new w _

/-- A reader's block: its text, its place, its fault. -/
def RdAt (w : World) (b : Nat) (s : Bs) (p f : Int) : Prop := Blk w b 125 #[.bool true, .string ⟨s.toArray⟩, .int .i64 p, .int .i64 f]
/-- It reads on: l is what is left. -/
def RdOk (w : World) (b : Nat) (s l : Bs) : Prop := ∃ p : Nat, p + l.length = s.length ∧ l = s.drop p ∧ RdAt w b s p 0
/-- It reads no more. -/
def RdBad (w : World) (b : Nat) (s : Bs) : Prop := ∃ (p : Nat) (f : Int), f ≠ 0 ∧ p ≤ s.length ∧ RdAt w b s p f

theorem RdAt.cells {w b s p f} (h : RdAt w b s p f) : w.cell? ⟨b, 0, none⟩ = some (.bool true) ∧ w.cell? ⟨b, 1, none⟩ = some (.string ⟨s.toArray⟩) ∧ w.cell? ⟨b, 2, none⟩ = some (.int .i64 p) ∧ w.cell? ⟨b, 3, none⟩ = some (.int .i64 f) :=
  ⟨Blk.cell h 0, Blk.cell h 1, Blk.cell h 2, Blk.cell h 3⟩
theorem RdAt.setAt {w b s p f} (h : RdAt w b s p f) (q : Int) : RdAt (w.setCell ⟨b, 2, none⟩ (.int .i64 q)) b s q f := Blk.set h 2 _
theorem RdAt.setFault {w b s p f} (h : RdAt w b s p f) (q : Int) : RdAt (w.setCell ⟨b, 3, none⟩ (.int .i64 q)) b s p q := Blk.set h 3 _
theorem RdOk.kp {S : List Nat} {w w' b s l} (h : RdOk w b s l) (k : Kp S w w') (hs : b ∉ S) : RdOk w' b s l := let ⟨p, h1, h2, h3⟩ := h; ⟨p, h1, h2, Blk.kp h3 k hs⟩
theorem RdBad.kp {S : List Nat} {w w' b s} (h : RdBad w b s) (k : Kp S w w') (hs : b ∉ S) : RdBad w' b s := let ⟨p, f, h1, h2, h3⟩ := h; ⟨p, f, h1, h2, Blk.kp h3 k hs⟩
theorem RdOk.lt {w b s l} (h : RdOk w b s l) : b < w.heap.size := let ⟨_, _, _, h3⟩ := h; Blk.lt h3
theorem RdBad.lt {w b s} (h : RdBad w b s) : b < w.heap.size := let ⟨_, _, _, _, h3⟩ := h; Blk.lt h3

end Go.Proofs.YtemicgccgcmmbaaGreat

/- Digests and kids as values of many cells, each under one name. -/
namespace Go.Proofs.YtemicgccgcmmbaaGreat
set_option linter.unusedVariables false
set_option linter.unusedSimpArgs false
open Go Go.RowKit

/-- A digest: 32 bytes. -/
structure Dg where
  l : Bs
  h : l.length = 32
deriving DecidableEq

theorem Dg.ext' {a b : Dg} (h : a.l = b.l) : a = b := by cases a; cases b; simp_all

def bC (l : Bs) : List Value := l.map fun b => .int .u8 b.toNat
theorem bC_length (l : Bs) : (bC l).length = l.length := by simp [bC]
theorem bC_app (a b : Bs) : bC (a ++ b) = bC a ++ bC b := by simp [bC]
theorem bC_one (l : Bs) : ∀ v ∈ bC l, v.oneCell' = true := by
  intro v hv
  simp only [bC, List.mem_map] at hv
  obtain ⟨b, _, rfl⟩ := hv
  rfl

/-- Its cells. -/
def Dg.c (d : Dg) : Array Value := (bC d.l).toArray
@[simp, go_sem] theorem Dg.c_size (d : Dg) : d.c.size = 32 := by simp [Dg.c, bC, d.h]
theorem Dg.c_one (d : Dg) : ∀ v ∈ d.c.toList, v.oneCell' = true := by simpa [Dg.c] using bC_one d.l

def padB (l : Bs) : Bs := l.take 32 ++ List.replicate (32 - l.length) 0
def Dg.pad (l : Bs) : Dg := ⟨padB l, by simp [padB]; omega⟩
def Dg.zero : Dg := Dg.pad []

theorem zero32 : Dg.zero.c = #[.int .u8 0, .int .u8 0, .int .u8 0, .int .u8 0, .int .u8 0, .int .u8 0, .int .u8 0, .int .u8 0, .int .u8 0, .int .u8 0, .int .u8 0, .int .u8 0, .int .u8 0, .int .u8 0, .int .u8 0, .int .u8 0, .int .u8 0, .int .u8 0, .int .u8 0, .int .u8 0, .int .u8 0, .int .u8 0, .int .u8 0, .int .u8 0, .int .u8 0, .int .u8 0, .int .u8 0, .int .u8 0, .int .u8 0, .int .u8 0, .int .u8 0, .int .u8 0] := by kernel_rfl

@[go_sem ↓] theorem agg_zero32 : Value.agg #[.int .u8 0, .int .u8 0, .int .u8 0, .int .u8 0, .int .u8 0, .int .u8 0, .int .u8 0, .int .u8 0, .int .u8 0, .int .u8 0, .int .u8 0, .int .u8 0, .int .u8 0, .int .u8 0, .int .u8 0, .int .u8 0, .int .u8 0, .int .u8 0, .int .u8 0, .int .u8 0, .int .u8 0, .int .u8 0, .int .u8 0, .int .u8 0, .int .u8 0, .int .u8 0, .int .u8 0, .int .u8 0, .int .u8 0, .int .u8 0, .int .u8 0, .int .u8 0] = .agg Dg.zero.c := by rw [zero32]

/-- n cells from a place on. -/
def rowAt? (w : World) (a : Addr) (n : Nat) : Option (Array Value) :=
  match w.heap[a.block]? with
  | some (.cells c _ _) => if a.spot.isSome then none else if a.off + n ≤ c.size then some (c.extract a.off (a.off + n)) else none
  | _ => none
/-- All cells of a block that may be written. -/
def own? (w : World) (g : Nat) : Option (Array Value) :=
  match w.heap[g]? with
  | some (.cells c _ (0, 0)) => some c
  | _ => none

theorem rowAt?_cell {w : World} {a : Addr} {n : Nat} {cs : Array Value} (h : rowAt? w a n = some cs) : cs.size = n ∧ ∀ j v, cs[j]? = some v → w.cell? (a.add j) = some v := by
  unfold rowAt? at h
  split at h
  · rename_i c e f hb
    split at h
    · cases h
    · rename_i hs
      split at h
      · rename_i hle
        simp only [Option.some.injEq] at h
        subst h
        refine ⟨by simp; omega, fun j v hj => ?_⟩
        have hsp : a.spot = none := by simpa using hs
        have ha : a.add j = ⟨a.block, a.off + j, none⟩ := by
          unfold Addr.add; split
          · subst_vars; cases a; simp_all
          · simp [hsp]
        rw [ha]
        simp only [World.cell?, hb]
        simp only [Array.getElem?_extract] at hj
        split at hj
        · simpa using hj
        · cases hj
      · cases h
  · cases h

theorem rowAt?_blk {w : World} {b : Nat} {t : TypeId} {cs : Array Value} (h : Blk w b t cs) : rowAt? w ⟨b, 0, none⟩ cs.size = some cs := by
  unfold Blk at h; simp [rowAt?, h]
theorem own?_blk {w : World} {b : Nat} {t : TypeId} {cs : Array Value} (h : Blk w b t cs) : own? w b = some cs := by
  unfold Blk at h; simp [own?, h]

@[simp, go_sem] theorem rowAt?_drew (w : World) (a : Addr) (n : Nat) : rowAt? w.drew a n = rowAt? w a n := rfl
@[simp, go_sem] theorem rowAt?_drewN (w : World) (m : Nat) (a : Addr) (n : Nat) : rowAt? (w.drewN m) a n = rowAt? w a n := rfl
@[simp, go_sem] theorem own?_drew (w : World) (g : Nat) : own? w.drew g = own? w g := rfl
@[simp, go_sem] theorem own?_drewN (w : World) (m g : Nat) : own? (w.drewN m) g = own? w g := rfl
theorem rowAt?_alloc_at (w : World) (c : Array Value) (t : TypeId) (g o n : Nat) (hg : g = w.heap.size) : rowAt? (w.alloc (.cells c t)) ⟨g, o, none⟩ n = if o + n ≤ c.size then some (c.extract o (o + n)) else none := by
  subst hg; unfold rowAt?; rw [heap_alloc_new]; simp
theorem rowAt?_alloc_past (w : World) (x : Obj) (g o n : Nat) (hg : g < w.heap.size) : rowAt? (w.alloc x) ⟨g, o, none⟩ n = rowAt? w ⟨g, o, none⟩ n := by
  unfold rowAt?; rw [Below.heap_alloc w x g hg]
theorem own?_alloc_at (w : World) (c : Array Value) (t : TypeId) (g : Nat) (hg : g = w.heap.size) : own? (w.alloc (.cells c t)) g = some c := by
  subst hg; unfold own?; rw [heap_alloc_new]; rfl
theorem own?_alloc_past (w : World) (x : Obj) (g : Nat) (hg : g < w.heap.size) : own? (w.alloc x) g = own? w g := by
  unfold own?; rw [Below.heap_alloc w x g hg]
def slowRow (w : World) (a : Addr) (n : Nat) : Option (Array Value) := rowAt? w a n
def slowOwn (w : World) (g : Nat) : Option (Array Value) := own? w g
def slowCell (w : World) (a : Addr) : Option Value := w.cell? a
def slowFroz (w : World) (a : Addr) : Bool := w.frozen? a
def slowSetRow (w : World) (g : Nat) (cs : Array Value) : World := w.setRow g cs
def slowSetCell (w : World) (a : Addr) (v : Value) : World := w.setCell a v
@[go_sem] theorem rowAt?_alloc_if (w : World) (c : Array Value) (t : TypeId) (g o n : Nat) : rowAt? (w.alloc (.cells c t)) ⟨g, o, none⟩ n =
    if g < w.heap.size then rowAt? w ⟨g, o, none⟩ n else if g = w.heap.size then (if o + n ≤ c.size then some (c.extract o (o + n)) else none) else slowRow (w.alloc (.cells c t)) ⟨g, o, none⟩ n := by
  split
  · rename_i h; exact rowAt?_alloc_past w _ g o n h
  · split
    · rename_i h; rw [rowAt?_alloc_at w c t g o n h]
    · rfl
@[go_sem] theorem own?_alloc_if (w : World) (c : Array Value) (t : TypeId) (g : Nat) : own? (w.alloc (.cells c t)) g = if g < w.heap.size then own? w g else if g = w.heap.size then some c else slowOwn (w.alloc (.cells c t)) g := by
  split
  · rename_i h; exact own?_alloc_past w _ g h
  · split
    · rename_i h; rw [own?_alloc_at w c t g h]
    · rfl
@[go_sem low] theorem cell?_alloc_if (w : World) (c : Array Value) (t : TypeId) (g o : Nat) : (w.alloc (.cells c t)).cell? ⟨g, o, none⟩ = if g < w.heap.size then w.cell? ⟨g, o, none⟩ else if g = w.heap.size then c[o]? else slowCell (w.alloc (.cells c t)) ⟨g, o, none⟩ := by
  split
  · rename_i h; exact World.cell?_alloc_past _ _ _ h
  · split
    · rename_i h; exact World.cell?_alloc_at _ _ _ _ h
    · rfl
@[go_sem low] theorem frozen?_alloc_if (w : World) (c : Array Value) (t : TypeId) (g o : Nat) : (w.alloc (.cells c t)).frozen? ⟨g, o, none⟩ = if g < w.heap.size then w.frozen? ⟨g, o, none⟩ else if g = w.heap.size then false else slowFroz (w.alloc (.cells c t)) ⟨g, o, none⟩ := by
  split
  · rename_i h; exact World.frozen?_alloc_past _ _ _ h
  · split
    · rename_i h; exact World.frozen?_alloc_at _ _ _ _ h
    · rfl
@[go_sem low] theorem setCell_alloc_if (w : World) (c : Array Value) (t : TypeId) (g o : Nat) (v : Value) : (w.alloc (.cells c t)).setCell ⟨g, o, none⟩ v = if g < w.heap.size then (w.setCell ⟨g, o, none⟩ v).alloc (.cells c t) else if g = w.heap.size then w.alloc (.cells (c.setIfInBounds o v) t) else slowSetCell (w.alloc (.cells c t)) ⟨g, o, none⟩ v := by
  split
  · rename_i h; exact World.setCell_alloc_past _ _ _ _ h
  · split
    · rename_i h; exact World.setCell_alloc_at _ _ _ _ _ h
    · rfl
theorem setRow_alloc_at (w : World) (c cs : Array Value) (t : TypeId) (g : Nat) (hg : g = w.heap.size) : (w.alloc (.cells c t)).setRow g cs = w.alloc (.cells cs t) := by
  subst hg
  unfold World.setRow World.alloc
  congr 1
  apply Array.ext_getElem?
  intro k
  simp only [Array.getElem?_modify, Array.getElem?_push]
  by_cases hk : k = w.heap.size
  · subst hk; simp
  · simp [hk]; intro h; exact absurd h.symm hk
theorem setRow_alloc_past (w : World) (x : Obj) (cs : Array Value) (g : Nat) (hg : g < w.heap.size) : (w.alloc x).setRow g cs = (w.setRow g cs).alloc x := by
  unfold World.setRow World.alloc
  congr 1
  apply Array.ext_getElem?
  intro k
  simp only [Array.getElem?_modify, Array.getElem?_push, Array.size_modify]
  by_cases hk : k = w.heap.size
  · subst hk; simp [Nat.ne_of_lt hg]
  · simp [hk]
@[go_sem] theorem setRow_alloc_if (w : World) (c cs : Array Value) (t : TypeId) (g : Nat) : (w.alloc (.cells c t)).setRow g cs = if g < w.heap.size then (w.setRow g cs).alloc (.cells c t) else if g = w.heap.size then w.alloc (.cells cs t) else slowSetRow (w.alloc (.cells c t)) g cs := by
  split
  · rename_i h; exact setRow_alloc_past w _ cs g h
  · split
    · rename_i h; exact setRow_alloc_at w c cs t g h
    · rfl
@[go_sem] theorem setRow_drew (w : World) (g : Nat) (cs : Array Value) : w.drew.setRow g cs = (w.setRow g cs).drew := rfl
@[go_sem] theorem setRow_drewN (w : World) (n g : Nat) (cs : Array Value) : (w.drewN n).setRow g cs = (w.setRow g cs).drewN n := rfl
@[go_sem] theorem rowAt?_setRow_same (w : World) (g o n : Nat) (cs : Array Value) : rowAt? (w.setRow g cs) ⟨g, o, none⟩ n = match own? w g with | some _ => (if o + n ≤ cs.size then some (cs.extract o (o + n)) else none) | none => slowRow (w.setRow g cs) ⟨g, o, none⟩ n := by
  split
  · rename_i c h
    unfold own? at h
    split at h
    · rename_i c' e hb
      have := setRow_heap w g c' cs e (0, 0) hb
      unfold rowAt?
      rw [this]; simp
    · cases h
  · rfl
theorem setRow_other' (w : World) (g k : Nat) (cs : Array Value) (h : k ≠ g) : (w.setRow g cs).heap[k]? = w.heap[k]? := setRow_other w g k cs h
@[go_sem] theorem rowAt?_setRow_other (w : World) (g g' o n : Nat) (cs : Array Value) (h : g' ≠ g) : rowAt? (w.setRow g cs) ⟨g', o, none⟩ n = rowAt? w ⟨g', o, none⟩ n := by
  unfold rowAt?; rw [setRow_other w g g' cs h]
@[go_sem] theorem own?_setRow_same (w : World) (g : Nat) (cs : Array Value) : own? (w.setRow g cs) g = match own? w g with | some _ => some cs | none => none := by
  have hm : (w.setRow g cs).heap[g]? = (w.heap[g]?).map fun | .cells _ elem frozen => .cells cs elem frozen | o => o := by
    show (w.heap.modify g _)[g]? = _
    rw [Array.getElem?_modify, if_pos rfl]; rfl
  unfold own?
  rw [hm]
  generalize w.heap[g]? = x
  rcases x with _ | x
  · rfl
  · cases x <;> first | rfl | (rename_i c e f; obtain ⟨a, b⟩ := f; cases a <;> cases b <;> rfl)
@[go_sem] theorem own?_setRow_other (w : World) (g g' : Nat) (cs : Array Value) (h : g' ≠ g) : own? (w.setRow g cs) g' = own? w g' := by
  unfold own?; rw [setRow_other w g g' cs h]
@[go_sem] theorem cell?_setRow_same (w : World) (g o : Nat) (cs : Array Value) : (w.setRow g cs).cell? ⟨g, o, none⟩ = match own? w g with | some _ => cs[o]? | none => slowCell (w.setRow g cs) ⟨g, o, none⟩ := by
  split
  · rename_i c h
    unfold own? at h
    split at h
    · rename_i c' e hb
      have := setRow_heap w g c' cs e (0, 0) hb
      simp [World.cell?, this]
    · cases h
  · rfl
theorem Blk.setRow {w : World} {g : Nat} {t : TypeId} {c : Array Value} (h : Blk w g t c) (cs : Array Value) : Blk (w.setRow g cs) g t cs := setRow_heap w g c cs t (0, 0) h
theorem Blk.setRow_other {w : World} {g b : Nat} {t : TypeId} {c : Array Value} (h : Blk w b t c) (cs : Array Value) (hne : b ≠ g) : Blk (w.setRow g cs) b t c := (Go.setRow_other w g b cs hne).trans h
theorem Kp.setRow {S : List Nat} {a w : World} (h : Kp S a w) (g : Nat) (cs : Array Value) (hg : a.heap.size ≤ g ∨ g ∈ S) : Kp S a (w.setRow g cs) :=
  ⟨h.os, h.tape, h.output, by simp; exact h.size, fun k hk hs => (Go.setRow_other w g k cs (fun e => by rcases hg with hg | hg; omega; exact hs (e ▸ hg))).trans (h.block k hk hs), h.drawn⟩
theorem rowAt?_kp {S : List Nat} {w w' : World} (k : Kp S w w') {a : Addr} {n : Nat} {cs : Array Value} (h : rowAt? w a n = some cs) (hs : a.block ∉ S) : rowAt? w' a n = some cs := by
  have hlt : a.block < w.heap.size := by
    rcases Nat.lt_or_ge a.block w.heap.size with h' | h'
    · exact h'
    · simp [rowAt?, Array.getElem?_eq_none h'] at h
  unfold rowAt? at *
  rw [k.block _ hlt hs]; exact h

theorem extract_whole (c : Array Value) (n : Nat) (h : c.size = n) : c.extract 0 (0 + n) = c := by subst h; simp
@[go_sem] theorem Dg.extract_c (d : Dg) : d.c.extract 0 32 = d.c := by simp [Array.extract_eq_self_of_le]

def slowLoad (P : Program) (t : TypeId) (a : Addr) (w : World) : Result Value := (loadVar t a).run P w
theorem run_loadVar_big (P : Program) (t : TypeId) (n : Nat) (d : TypeDesc) (hu : P.underlying t = some d) (hd : (match d with | .struct _ | .array _ _ => true | _ => false) = true) (hi : (P.info? t).map (·.size) = some n) (a : Addr) (w : World) :
    (loadVar t a).run P w = match rowAt? w a n with | some cs => .ok (.agg cs) w | none => slowLoad P t a w := by
  split
  · rename_i cs h
    obtain ⟨hsz, hc⟩ := rowAt?_cell h
    have hl := run_loadCells_list (P := P) w a cs.toList (fun j v hv => hc j v (by simpa using hv))
    cases hq : P.info? t with
    | none => simp [hq] at hi
    | some i =>
      have hs : i.size = n := by simpa [hq] using hi
      have hagg : (isAgg t).run P w = .ok true w := by
        unfold isAgg
        rw [Sem.run_bind, run_underlying hu w]
        cases d <;> simp_all
      simp only [Array.length_toList, Array.toArray_toList, hsz] at hl
      simp [loadVar, Sem.run_bind, hagg, sizeOf, typeInfo, hq, hs, hl]
  · rfl

def slowStore (P : Program) (t : TypeId) (a : Addr) (v : Value) (w : World) : Result Unit := (storeVar t a v).run P w
def spl (c : Array Value) (o : Nat) (cs : Array Value) : Array Value := (c.toList.take o ++ cs.toList ++ c.toList.drop (o + cs.size)).toArray
theorem spl_size (c : Array Value) (o : Nat) (cs : Array Value) (h : o + cs.size ≤ c.size) : (spl c o cs).size = c.size := by
  simp [spl]; omega
theorem spl_whole (c cs : Array Value) (h : c.size = cs.size) : spl c 0 cs = cs := by
  apply Array.ext'
  simp [spl, h.symm]
theorem run_storeVar_big (P : Program) (t : TypeId) (n : Nat) (hi : (P.info? t).map (·.size) = some n) (g o : Nat) (cs : Array Value) (hn : cs.size = n) (h1 : ∀ v ∈ cs.toList, v.oneCell' = true) (w : World) :
    (storeVar t ⟨g, o, none⟩ (.agg cs)).run P w = match own? w g with | some c => (if o + n ≤ c.size then .ok () (w.setRow g (spl c o cs)) else slowStore P t ⟨g, o, none⟩ (.agg cs) w) | none => slowStore P t ⟨g, o, none⟩ (.agg cs) w := by
  split
  · rename_i c h
    unfold own? at h
    split at h
    · rename_i c' e hb
      simp only [Option.some.injEq] at h
      subst h
      split
      · rename_i hle
        cases hq : P.info? t with
        | none => simp [hq] at hi
        | some i =>
          have hs : i.size = n := by simpa [hq] using hi
          have hst := run_storeCells_at P g o e cs.toList 0 c' w hb (by simpa [hn] using hle) h1
          simp only [Nat.add_zero, Array.length_toList] at hst
          simp [storeVar, Sem.run_bind, sizeOf, typeInfo, hq, hs, Value.cells, hn, hst, spl]
      · rfl
    · cases h
  · rfl


def okCells (cs : Array Value) : Bool := cs.toList.all fun v => match v with | .agg _ | .tuple _ => false | _ => true
theorem okCells_one {cs : Array Value} (h : okCells cs = true) : ∀ v ∈ cs.toList, v.oneCell' = true := by
  intro v hv
  have := List.all_eq_true.1 h v hv
  cases v <;> first | rfl | simp at this
theorem okCells_of {cs : Array Value} (h : ∀ v ∈ cs.toList, v.oneCell' = true) : okCells cs = true := by
  refine List.all_eq_true.2 fun v hv => ?_
  have := h v hv
  cases v <;> first | rfl | (simp [Value.oneCell'] at this)
@[simp, go_sem] theorem okCells_dg (d : Dg) : okCells d.c = true := okCells_of d.c_one

def ldBig (t : TypeId) (v : Value) : Sem Next := do pure (.value (← Instr.loadAt t v))
def stBig (t : TypeId) (a v : Value) : Sem Next := do Instr.storeAt t a v; pure .skip
def slowLd (P : Program) (t : TypeId) (v : Value) (w : World) : Result Next := (ldBig t v).run P w
def slowSt (P : Program) (t : TypeId) (a v : Value) (w : World) : Result Next := (stBig t a v).run P w

theorem run_ldBig (P : Program) (t : TypeId) (n : Nat) (d : TypeDesc) (hu : P.underlying t = some d) (hd : (match d with | .struct _ | .array _ _ => true | _ => false) = true) (hi : (P.info? t).map (·.size) = some n) (a : Addr) (w : World) :
    (ldBig t (.pointer (some a))).run P w = match rowAt? w a n with | some cs => .ok (.value (.agg cs)) w | none => slowLd P t (.pointer (some a)) w := by
  split
  · rename_i cs h
    have hl := run_loadVar_big P t n d hu hd hi a w
    rw [h] at hl
    simp [ldBig, Instr.loadAt, Instr.sureAddr, Sem.run_bind, hl]
  · rfl
theorem run_stBig (P : Program) (t : TypeId) (n : Nat) (hi : (P.info? t).map (·.size) = some n) (g o : Nat) (cs : Array Value) (w : World) :
    (stBig t (.pointer (some ⟨g, o, none⟩)) (.agg cs)).run P w = match own? w g with | some c => (if o + n ≤ c.size ∧ cs.size = n ∧ okCells cs = true then .ok .skip (w.setRow g (spl c o cs)) else slowSt P t (.pointer (some ⟨g, o, none⟩)) (.agg cs) w) | none => slowSt P t (.pointer (some ⟨g, o, none⟩)) (.agg cs) w := by
  split
  · rename_i c h
    split
    · rename_i hh
      obtain ⟨h1, h2, h3⟩ := hh
      have hl := run_storeVar_big P t n hi g o cs h2 (okCells_one h3) w
      rw [h] at hl
      simp only [h1, if_true] at hl
      simp [stBig, Instr.storeAt, Instr.sureAddr, Sem.run_bind, hl]
    · rfl
  · rfl

@[go_sem ↓] theorem exec_load_dg (a : Act) (dst : Option Tmp) (x : Operand) (ty : TypeId) (pos : String) (after : Array Edge) (guard : Option (Nat × Bool)) :
    execOp a.eval { dst, op := .load 36 x, type := ty, pos, after, guard } = ldBig 36 (a.eval x) := rfl
@[go_sem ↓] theorem exec_store_dg (a : Act) (dst : Option Tmp) (x y : Operand) (ty : TypeId) (pos : String) (after : Array Edge) (guard : Option (Nat × Bool)) :
    execOp a.eval { dst, op := .store 36 x y, type := ty, pos, after, guard } = stBig 36 (a.eval x) (a.eval y) := rfl
@[go_sem] theorem run_load_dg (a : Addr) (w : World) : (ldBig 36 (.pointer (some a))).run Tryz.prog w = match rowAt? w a 32 with | some cs => .ok (.value (.agg cs)) w | none => slowLd Tryz.prog 36 (.pointer (some a)) w :=
  run_ldBig Tryz.prog 36 32 _ Tryz.underlying36 rfl (by kernel_rfl) a w
@[go_sem] theorem run_store_dg (g o : Nat) (cs : Array Value) (w : World) : (stBig 36 (.pointer (some ⟨g, o, none⟩)) (.agg cs)).run Tryz.prog w = match own? w g with | some c => (if o + 32 ≤ c.size ∧ cs.size = 32 ∧ okCells cs = true then .ok .skip (w.setRow g (spl c o cs)) else slowSt Tryz.prog 36 (.pointer (some ⟨g, o, none⟩)) (.agg cs) w) | none => slowSt Tryz.prog 36 (.pointer (some ⟨g, o, none⟩)) (.agg cs) w :=
  run_stBig Tryz.prog 36 32 (by kernel_rfl) g o cs w
@[go_sem] theorem spl_dg (d e : Dg) : spl e.c 0 d.c = d.c := spl_whole _ _ (by simp)
@[go_sem ↓] theorem zero_dg (w : World) : (zeroValue 36).run Tryz.prog w = .ok (.agg Dg.zero.c) w := by
  rw [zero32]; kernel_rfl

@[go_sem] theorem spl_pad (t : Bs) : spl Dg.zero.c 0 (bC (t.take 32)).toArray = (Dg.pad t).c := by
  have hz : Dg.zero.c.toList = bC (List.replicate 32 0) := by simp [Dg.zero, Dg.pad, Dg.c, padB]
  unfold spl
  rw [hz]
  simp only [List.take_zero, List.nil_append, Nat.zero_add, List.size_toArray, bC_length, Dg.c, Dg.pad, padB, bC_app]
  congr 2
  simp only [bC, ← List.map_drop, List.drop_replicate, List.length_take]
  congr 2
  omega

@[go_sem] theorem spl_nil (c : Array Value) (o : Nat) : spl c o (bC []).toArray = c := by simp [spl, bC]

def slowCopy (P : Program) (ats : Array TypeId) (ty : TypeId) (args : Array Value) (w : World) : Result Value := (Builtin.copy_ ats ty args).run P w
theorem bC_toArray (l : Bs) (n : Nat) : (Array.map (fun (b : UInt8) => Value.int .u8 b.toNat) (ByteArray.extract ⟨l.toArray⟩ 0 n).data).toList = bC (l.take n) := by
  simp [bC, ByteArray.data_extract, List.extract_eq_take_drop]
@[go_sem ↓] theorem copy_str (ty g o dLen dCap : Nat) (l : Bs) (w : World) : (Builtin.copy_ #[66, 9] ty #[.slice (some ⟨g, o, none⟩) dLen dCap, .string ⟨l.toArray⟩]).run Tryz.prog w =
    match own? w g with
    | some c => (if o + (l.take dLen).length ≤ c.size then .ok (goInt ((l.take dLen).length : Nat)) (w.setRow g (spl c o (bC (l.take dLen)).toArray)) else slowCopy Tryz.prog #[66, 9] ty #[.slice (some ⟨g, o, none⟩) dLen dCap, .string ⟨l.toArray⟩] w)
    | none => slowCopy Tryz.prog #[66, 9] ty #[.slice (some ⟨g, o, none⟩) dLen dCap, .string ⟨l.toArray⟩] w := by
  split
  · rename_i c h
    split
    · rename_i hle
      unfold own? at h
      split at h
      · rename_i c' e hb
        simp only [Option.some.injEq] at h
        subst h
        have hst := run_storeCells_at Tryz.prog g o e (bC (l.take dLen)) 0 c' w hb (by simpa [bC_length] using hle) (bC_one _)
        simp only [Nat.add_zero] at hst
        have hlen : (ByteArray.size ⟨l.toArray⟩) = l.length := rfl
        have hi : (Tryz.prog.info? 5).map (·.size) = some 1 := by kernel_rfl
        cases hq : Tryz.prog.info? 5 with
        | none => simp [hq] at hi
        | some i =>
          have hmin : l.take (Nat.min l.length dLen) = l.take dLen := by
            rw [List.take_eq_take_iff]
            show min (min l.length dLen) l.length = min dLen l.length
            omega
          simp [Builtin.copy_, run_underlying Tryz.underlying66, Builtin.lenOf, Builtin.firstCells, sizeOf, typeInfo, hq, hlen]
          have e1 : List.take (l.length.min dLen) (List.map (fun (b : UInt8) => Value.int .u8 b.toNat) l) = bC (l.take dLen) := by
            rw [← hmin, bC, List.map_take]
          rw [e1, hst]
          have e2 : (l.length.min dLen) = min dLen l.length := Nat.min_comm _ _
          rw [e2]
          simp [Result.andThen, spl]
      · cases h
    · rfl
  · rfl

@[go_sem] theorem slice_dg_hi (g n : Nat) (w : World) (h : n ≤ 32) : (Instr.sliceAt 36 (.pointer (some ⟨g, 0, none⟩)) none (some (.int .i64 (n : Int))) none).run Tryz.prog w = .ok (.slice (some ⟨g, 0, none⟩) n 32) w := by
  have h1 : (0 : Int) ≤ n ∧ (n : Int) ≤ 32 := by omega
  have hu : ∀ w, (underlying 36).run Tryz.prog w = .ok (.array 32 5) w := fun w => run_underlying Tryz.underlying36 w
  have hi : (Tryz.prog.info? 5).map (·.size) = some 1 := by kernel_rfl
  cases hq : Tryz.prog.info? 5 with
  | none => simp [hq] at hi
  | some i =>
    simp only [Instr.sliceAt, Sem.run_bind, hu, Result.andThen_ok]
    simp [Instr.sliceBounds, Instr.sliceBound, Instr.sureAddr, asIntOf, Sem.run_bind, h1, sizeOf, typeInfo, hq, Addr.add]
    intro h2; exact absurd h (by omega)

@[go_sem] theorem copy_row (ty g o n c g' o' c' : Nat) (w : World) : (Builtin.copy_ #[66, 66] ty #[.slice (some ⟨g, o, none⟩) n c, .slice (some ⟨g', o', none⟩) n c']).run Tryz.prog w =
    match own? w g, rowAt? w ⟨g', o', none⟩ n with
    | some d, some cs => (if o + n ≤ d.size ∧ okCells cs = true then .ok (goInt (n : Nat)) (w.setRow g (spl d o cs)) else slowCopy Tryz.prog #[66, 66] ty #[.slice (some ⟨g, o, none⟩) n c, .slice (some ⟨g', o', none⟩) n c'] w)
    | _, _ => slowCopy Tryz.prog #[66, 66] ty #[.slice (some ⟨g, o, none⟩) n c, .slice (some ⟨g', o', none⟩) n c'] w := by
  split
  · rename_i d cs h1 h2
    split
    · rename_i hle
      obtain ⟨hle, hok⟩ := hle
      unfold own? at h1
      split at h1
      · rename_i cur e hb
        simp only [Option.some.injEq] at h1
        subst h1
        obtain ⟨hsz, hcs⟩ := rowAt?_cell h2
        have hr := run_copy_row (P := Tryz.prog) w 66 66 ty 5 g o n c ⟨g', o', none⟩ n c' _ e cs.toList Tryz.underlying66 (by kernel_rfl) hb (by simp [hsz]) (fun j v hv => hcs j v (by simpa using hv)) (by simpa [hsz] using hle) (okCells_one hok)
        rw [hr]
        simp [spl, hsz]
      · cases h1
    · rfl
  · rfl

theorem bC_inj {a b : Bs} (h : bC a = bC b) : a = b := by
  induction a generalizing b with
  | nil => cases b with | nil => rfl | cons y t => simp [bC] at h
  | cons x s ih => cases b with
    | nil => simp [bC] at h
    | cons y t =>
      simp only [bC, List.map_cons, List.cons.injEq, Value.int.injEq, true_and] at h
      have : x = y := UInt8.toNat_inj.1 (by omega)
      rw [this, ih h.2]

theorem run_part_u8 {P : Program} (w : World) (e : Nat) (he : P.underlying e = some (.int .u8)) (l : Bs) (i : Nat) (h : i < l.length) : (part e (bC l).toArray (i * 1)).run P w = .ok (.int .u8 l[i].toNat) w := by
  have hg : (bC l)[i]? = some (.int .u8 l[i].toNat) := by simp [bC, h]
  simp [part, isAgg, Sem.run_bind, run_underlying he, hg]

theorem run_equalIn_u8 {P : Program} (w : World) (d : Nat) (t : TypeId) (len e : Nat) (ht : P.underlying t = some (.array len e)) (he : P.underlying e = some (.int .u8)) (hsz : (P.info? e).map (·.size) = some 1) (a b : Bs) (ha : a.length = len) (hb : b.length = len) :
    (Op.equalIn (d + 2) t (.agg (bC a).toArray) (.agg (bC b).toArray)).run P w = .ok (a == b) w := by
  cases hq : P.info? e with
  | none => simp [hq] at hsz
  | some i =>
    have hi : i.size = 1 := by simpa [hq] using hsz
    have hE : ∀ x y : Int, (Op.equalIn (d + 1) e (.int .u8 x) (.int .u8 y)).run P w = .ok (x == y) w := fun x y => run_equalIn_int w d e .u8 .u8 x y he
    obtain ⟨d', hd⟩ : ∃ d', d' = d + 1 := ⟨_, rfl⟩
    rw [show d + 2 = d' + 1 by omega]
    rw [← hd] at hE
    clear hd
    simp only [Op.equalIn, Sem.run_bind, run_underlying ht, Result.andThen_ok, sizeOf, typeInfo, run_program, hq, hi, Sem.run_pure]
    rw [Std.Legacy.Range.forIn_eq_forIn_range']
    have key : ∀ n i, i + n = len → ∀ (f : Nat → Option Bool × PUnit → Sem (ForInStep (Option Bool × PUnit))), (∀ j, f j (none, ()) = (do
        let x ← part e (bC a).toArray (j * 1)
        let y ← part e (bC b).toArray (j * 1)
        let r ← Op.equalIn d' e x y
        if (!r) = true then pure (ForInStep.done (some false, ())) else do pure (ForInStep.yield (none, ())))) →
        (forIn (List.range' i n 1) ((none, ()) : Option Bool × Unit) f).run P w = .ok (if a.drop i == b.drop i then (none, ()) else (some false, ())) w := by
      intro n
      induction n with
      | zero =>
        intro i hi f _
        have h1 : a.drop i = [] := List.drop_of_length_le (by omega)
        have h2 : b.drop i = [] := List.drop_of_length_le (by omega)
        simp [h1, h2]
      | succ n ih =>
        intro i hi f hf
        have hia : i < a.length := by omega
        have hib : i < b.length := by omega
        have e1 : (a.drop i == b.drop i) = (((a[i].toNat : Int) == (b[i].toNat : Int)) && (a.drop (i + 1) == b.drop (i + 1))) := by
          rw [← List.getElem_cons_drop hia, ← List.getElem_cons_drop hib]
          rw [Bool.eq_iff_iff]
          simp only [beq_iff_eq, List.cons.injEq, Bool.and_eq_true, ← UInt8.toNat_inj]
          constructor
          · rintro ⟨h1, h2⟩; exact ⟨by omega, h2⟩
          · rintro ⟨h1, h2⟩; exact ⟨by omega, h2⟩
        rw [List.range'_succ, List.forIn_cons, hf]
        simp only [Sem.run_bind, run_part_u8 w e he a i hia, run_part_u8 w e he b i hib, Result.andThen_ok, hE]
        rw [e1]
        cases h : ((a[i].toNat : Int) == (b[i].toNat : Int))
        · simp [Sem.run_pure]
        · have := ih (i + 1) (by omega) f hf
          simp only [Bool.not_true, Bool.false_eq_true, if_false, Sem.run_pure, Result.andThen_ok, Bool.true_and]
          exact this
    simp only [Std.Legacy.Range.size, show (len - 0 + 1 - 1) / 1 = len by omega]
    rw [key len 0 (by omega) _ (fun j => rfl)]
    simp only [List.drop_zero, Result.andThen_ok]
    cases h : (a == b) <;> simp [Sem.run_pure]

@[go_sem ↓] theorem eq_dg (w : World) (a b : Dg) : (Op.equalIn 10000 36 (.agg a.c) (.agg b.c)).run Tryz.prog w = .ok (decide (a = b)) w := by
  have := run_equalIn_u8 (P := Tryz.prog) w 9998 36 32 5 Tryz.underlying36 Tryz.underlying5 (by kernel_rfl) a.l b.l a.h b.h
  rw [show (decide (a = b)) = (a.l == b.l) by rw [Bool.eq_iff_iff]; simp; exact ⟨fun h => by rw [h], Dg.ext'⟩]
  exact this

@[go_sem] theorem guard_dg : Tryz.prog.eqGuardType Tryz.prog.depth 36 = false := by kernel_rfl

end Go.Proofs.YtemicgccgcmmbaaGreat

/- A world to which blocks have been added, and nothing else. -/
namespace Go.Proofs.YtemicgccgcmmbaaGreat
set_option linter.unusedVariables false
set_option linter.unusedSimpArgs false
open Go Go.RowKit

def ext (w : World) (bs : List Obj) (n : Nat) : World := { w with heap := w.heap ++ bs.toArray, drawn := w.drawn + n }

theorem ext_zero (w : World) : w = ext w [] 0 := by simp [ext]
theorem ext_alloc (w : World) (bs : List Obj) (n : Nat) (o : Obj) : (ext w bs n).alloc o = ext w (bs ++ [o]) n := by
  have : (w.heap ++ bs.toArray).push o = w.heap ++ (bs ++ [o]).toArray := by apply Array.ext'; simp
  unfold ext World.alloc
  rw [← this]
theorem ext_drew (w : World) (bs : List Obj) (n : Nat) : (ext w bs n).drew = ext w bs (n + 1) := by unfold ext World.drew; simp only [Nat.add_assoc]
theorem ext_drewN (w : World) (bs : List Obj) (n m : Nat) : (ext w bs n).drewN m = ext w bs (n + m) := by unfold ext World.drewN; simp only [Nat.add_assoc]
theorem alloc_ext (w : World) (o : Obj) : w.alloc o = ext w [o] 0 := by
  have h := ext_alloc w [] 0 o
  rw [← ext_zero] at h
  simpa using h
theorem drew_ext (w : World) : w.drew = ext w [] 1 := by
  have h := ext_drew w [] 0
  rwa [← ext_zero] at h
theorem drewN_ext (w : World) (n : Nat) : w.drewN n = ext w [] n := by
  have h := ext_drewN w [] 0 n
  rw [← ext_zero] at h
  simpa using h
@[go_sem, simp] theorem ext_ext (w : World) (bs cs : List Obj) (n m : Nat) : ext (ext w bs n) cs m = ext w (bs ++ cs) (n + m) := by
  simp [ext, Nat.add_assoc]
@[go_sem, simp] theorem ext_size (w : World) (bs : List Obj) (n : Nat) : (ext w bs n).heap.size = w.heap.size + bs.length := by simp [ext]
theorem ext_heap (w : World) (bs : List Obj) (n k : Nat) (h : k < w.heap.size) : (ext w bs n).heap[k]? = w.heap[k]? := by
  simp [ext, Array.getElem?_append, h]
@[go_sem] theorem ext_cell (w : World) (bs : List Obj) (n b o : Nat) : (ext w bs n).cell? ⟨b, o, none⟩ = if b < w.heap.size then w.cell? ⟨b, o, none⟩ else slowCell (ext w bs n) ⟨b, o, none⟩ := by
  split
  · rename_i h; exact World.cell?_of_block (ext_heap w bs n b h)
  · rfl
@[go_sem] theorem ext_frozen (w : World) (bs : List Obj) (n b o : Nat) : (ext w bs n).frozen? ⟨b, o, none⟩ = if b < w.heap.size then w.frozen? ⟨b, o, none⟩ else slowFroz (ext w bs n) ⟨b, o, none⟩ := by
  split
  · rename_i h; exact World.frozen?_of_block (ext_heap w bs n b h)
  · rfl
@[go_sem] theorem ext_rowAt (w : World) (bs : List Obj) (n b o m : Nat) : rowAt? (ext w bs n) ⟨b, o, none⟩ m = if b < w.heap.size then rowAt? w ⟨b, o, none⟩ m else slowRow (ext w bs n) ⟨b, o, none⟩ m := by
  split
  · rename_i h; unfold rowAt?; rw [ext_heap w bs n b h]
  · rfl
@[go_sem] theorem ext_own (w : World) (bs : List Obj) (n b : Nat) : own? (ext w bs n) b = if b < w.heap.size then own? w b else slowOwn (ext w bs n) b := by
  split
  · rename_i h; unfold own?; rw [ext_heap w bs n b h]
  · rfl
theorem setCell_ext (w : World) (bs : List Obj) (n b o : Nat) (v : Value) (h : b < w.heap.size) : (ext w bs n).setCell ⟨b, o, none⟩ v = ext (w.setCell ⟨b, o, none⟩ v) bs n := by
  unfold ext World.setCell
  congr 1
  apply Array.ext_getElem?
  intro k
  simp only [Array.getElem?_modify, Array.getElem?_append, Array.size_modify]
  by_cases hk : k < w.heap.size
  · simp [hk]
  · have : ¬ b = k := by omega
    simp [hk, this]
@[go_sem] theorem setCell_ext_if (w : World) (bs : List Obj) (n b o : Nat) (v : Value) : (ext w bs n).setCell ⟨b, o, none⟩ v = if b < w.heap.size then ext (w.setCell ⟨b, o, none⟩ v) bs n else slowSetCell (ext w bs n) ⟨b, o, none⟩ v := by
  split
  · rename_i h; exact setCell_ext w bs n b o v h
  · rfl
theorem setRow_ext (w : World) (bs : List Obj) (n b : Nat) (cs : Array Value) (h : b < w.heap.size) : (ext w bs n).setRow b cs = ext (w.setRow b cs) bs n := by
  unfold ext World.setRow
  congr 1
  apply Array.ext_getElem?
  intro k
  simp only [Array.getElem?_modify, Array.getElem?_append, Array.size_modify]
  by_cases hk : k < w.heap.size
  · simp [hk]
  · have : ¬ b = k := by omega
    simp [hk, this]
@[go_sem] theorem setRow_ext_if (w : World) (bs : List Obj) (n b : Nat) (cs : Array Value) : (ext w bs n).setRow b cs = if b < w.heap.size then ext (w.setRow b cs) bs n else slowSetRow (ext w bs n) b cs := by
  split
  · rename_i h; exact setRow_ext w bs n b cs h
  · rfl
theorem Kp.ext {S : List Nat} {a w : World} (h : Kp S a w) (bs : List Obj) (n : Nat) : Kp S a (ext w bs n) :=
  h.trans ⟨rfl, rfl, rfl, by simp, fun k hk _ => ext_heap w bs n k hk, Nat.le_add_right _ _⟩
theorem ext_kp (w : World) (bs : List Obj) (n : Nat) : Kp [] w (ext w bs n) := (Kp.refl _ _).ext bs n

/-- Where no block was touched, blocks were added and nothing else. -/
theorem Kp.to_ext {w w' : World} (h : Kp [] w w') : ∃ bs n, w' = Proofs.YtemicgccgcmmbaaGreat.ext w bs n := by
  refine ⟨w'.heap.toList.drop w.heap.size, w'.drawn - w.drawn, ?_⟩
  have hh : w'.heap = w.heap ++ (w'.heap.toList.drop w.heap.size).toArray := by
    apply Array.ext_getElem?
    intro k
    rw [Array.getElem?_append]
    split
    · rename_i hk; exact h.block k hk (by simp)
    · rename_i hk
      simp only [List.getElem?_toArray, List.getElem?_drop, Array.getElem?_toList]
      congr 1
      omega
  have hd : w'.drawn = w.drawn + (w'.drawn - w.drawn) := by have := h.drawn; omega
  have h1 := h.os; have h2 := h.tape; have h3 := h.output
  obtain ⟨hp', tp', dr', os', ou'⟩ := w'
  simp only at *
  subst h1 h2 h3
  unfold Proofs.YtemicgccgcmmbaaGreat.ext
  rw [← hh, ← hd]
theorem Kp.rets {w w' : World} {v : Value} (h : Kp [] w w') : (Ending.returned v = .returned v) ∧ ∃ bs n, w' = Proofs.YtemicgccgcmmbaaGreat.ext w bs n := ⟨rfl, h.to_ext⟩

/-- The post of a function that only reads: its value, in a world to which blocks were added. -/
def Rets (v : Value) (w : World) (e : Ending) (w' : World) : Prop := e = .returned v ∧ ∃ bs n, w' = ext w bs n
theorem Rets.mk {v : Value} {w : World} {bs : List Obj} {n : Nat} : Rets v w (.returned v) (Proofs.YtemicgccgcmmbaaGreat.ext w bs n) := ⟨rfl, bs, n, rfl⟩
theorem Rets.same {v : Value} {w : World} : Rets v w (.returned v) w := ⟨rfl, [], 0, ext_zero w⟩

/-- Blocks and draws, in one. -/
structure Q where
  bs : List Obj
  n : Nat

instance : Nonempty Q := ⟨⟨[], 0⟩⟩

/-- Many regions draw their order; one walk serves. -/
theorem wp_region_ext {P : Program} {id : Nat} {R : Exit → Act → World → Prop} {a : Act} {w : World} {l : List Oper} (hm : P.follows .mixedOrders = true) (hB : Region.lexB .any l.toArray = true)
    (h : wpQuiet P l.toArray (fun w' => ∃ q : Q, w' = ext w q.bs q.n) (fun a' => ∀ w', (∃ q : Q, w' = ext w q.bs q.n) → R .normal a' w') l a) : (Code.region id l.toArray true).wp P R a w :=
  wp_region_quiet (C := fun w' => ∃ q : Q, w' = ext w q.bs q.n) hm hB ⟨⟨[], 1⟩, drew_ext w⟩ (by simpa using h)

theorem Calls.quiet_ext {P : Program} {f : FuncId} {args : Array Value} {w : World} {bs : List Obj} {n : Nat} {v : Value}
    (h : Calls P f args (Proofs.YtemicgccgcmmbaaGreat.ext w bs n) (Rets v (Proofs.YtemicgccgcmmbaaGreat.ext w bs n))) : Calls P f args (Proofs.YtemicgccgcmmbaaGreat.ext w bs n) fun e w'' => e = .returned v ∧ ∃ q : Q, w'' = Proofs.YtemicgccgcmmbaaGreat.ext w q.bs q.n :=
  h.mono fun _ _ ⟨he, bs', m, hm⟩ => ⟨he, ⟨bs ++ bs', n + m⟩, by rw [hm, ext_ext]⟩

/-- A function that only looks at numbers. -/
theorem Calls.quiet_pure {P : Program} {f : FuncId} {args : Array Value} {w : World} {bs : List Obj} {n : Nat} {v : Value}
    (h : Calls P f args (Proofs.YtemicgccgcmmbaaGreat.ext w bs n) fun e w' => e = .returned v ∧ Proofs.YtemicgccgcmmbaaGreat.ext w bs n = w') : Calls P f args (Proofs.YtemicgccgcmmbaaGreat.ext w bs n) fun e w'' => e = .returned v ∧ ∃ q : Q, w'' = Proofs.YtemicgccgcmmbaaGreat.ext w q.bs q.n :=
  h.mono fun _ _ ⟨he, hm⟩ => ⟨he, ⟨bs, n⟩, hm.symm⟩

end Go.Proofs.YtemicgccgcmmbaaGreat

/- Plain words: numbers, texts and lists as bytes, read and laid. No program in sight. -/
namespace Go.Proofs.YtemicgccgcmmbaaGreat
set_option linter.unusedVariables false
set_option linter.unusedSimpArgs false
open Go

/-- A free number is read: shift k, what has been gathered n. -/
def vrd : List UInt8 → Nat → Nat → Option (Nat × List UInt8)
  | [], _, _ => none
  | b :: l, k, n => if (k = 63 ∧ 1 < b.toNat) ∨ (0 < k ∧ b.toNat = 0) then none else
    if b.toNat < 128 then some (n + b.toNat * 2 ^ k, l) else vrd l (k + 7) (n + b.toNat % 128 * 2 ^ k)

def freeP (m : Nat) (l : List UInt8) : Option (Nat × List UInt8) :=
  match vrd l 0 0 with
  | none => none
  | some (n, l') => if n ≤ m then some (n, l') else none

def rawP (n : Nat) (l : List UInt8) : Option (List UInt8 × List UInt8) := if n ≤ l.length then some (l.take n, l.drop n) else none

def textP (m : Nat) (l : List UInt8) : Option (List UInt8 × List UInt8) :=
  match freeP m l with
  | none => none
  | some (n, l') => rawP n l'

def be : List UInt8 → Nat → Nat
  | [], acc => acc
  | b :: l, acc => be l (acc * 256 + b.toNat)

def takeP (n : Nat) (l : List UInt8) : Option (Nat × List UInt8) := if n ≤ l.length then some (be (l.take n) 0, l.drop n) else none

theorem u8_and127 {x : Int} (h₀ : 0 ≤ x) (h₁ : x < 256) : bits .and .u8 x 127 = x % 128 := bits_mask .u8 8 (by decide) wraps_u8 7 (by decide) x h₀ h₁

theorem or_shift (n c k : Nat) (hn : n < 2 ^ k) : n ||| c * 2 ^ k = n + c * 2 ^ k := by
  rw [Nat.or_comm, Nat.mul_comm, ← Nat.two_pow_add_eq_or_of_lt hn, Nat.add_comm]

theorem wrap_u64 (n : Int) : IntKind.u64.wrap n = n % 18446744073709551616 := by simp [IntKind.wrap, IntKind.bits, IntKind.signed]

/-- What one round of the free number's loop gathers. -/
theorem gather (n c k : Nat) (hn : n < 2 ^ k) (h7 : k % 7 = 0) (hk : k ≤ 63) (hc : c < 256) (hc' : k = 63 → c ≤ 1) :
    bits .or .u64 (n : Int) (IntKind.u64.wrap (IntKind.u64.wrap (bits .and .u8 (c : Int) 127) * 2 ^ k)) = ((n + c % 128 * 2 ^ k : Nat) : Int) ∧ n + c % 128 * 2 ^ k < 18446744073709551616 := by
  have hm : c % 128 * 2 ^ k + 2 ^ k ≤ 18446744073709551616 := by
    by_cases h63 : k = 63
    · subst h63
      have := hc' rfl
      omega
    · have h57 : k ≤ 57 := by omega
      have h2 : (c % 128 + 1) * 2 ^ k ≤ 128 * 2 ^ k := Nat.mul_le_mul_right _ (by omega)
      have h3 : 2 ^ k ≤ 2 ^ 57 := Nat.pow_le_pow_right (by omega) h57
      rw [Nat.add_mul] at h2
      omega
  have e1 : IntKind.u64.wrap (bits .and .u8 (c : Int) 127) = ((c % 128 : Nat) : Int) := by
    rw [u8_and127 (by omega) (by omega)]
    rw [wrap_u64]
    omega
  have e2 : IntKind.u64.wrap (((c % 128 : Nat) : Int) * 2 ^ k) = ((c % 128 * 2 ^ k : Nat) : Int) := by
    have : ((c % 128 : Nat) : Int) * 2 ^ k = ((c % 128 * 2 ^ k : Nat) : Int) := by simp
    rw [this]
    generalize c % 128 * 2 ^ k = z at *
    rw [wrap_u64]
    omega
  rw [e1, e2, u64_or_nat _ _ (by omega) (by omega), or_shift _ _ _ hn]
  exact ⟨rfl, by omega⟩

theorem gather_lt (n c k : Nat) (hn : n < 2 ^ k) : n + c % 128 * 2 ^ k < 2 ^ (k + 7) := by
  have h2 : (c % 128 + 1) * 2 ^ k ≤ 128 * 2 ^ k := Nat.mul_le_mul_right _ (by omega)
  rw [Nat.add_mul] at h2
  rw [Nat.pow_add]
  omega

theorem vrd_rest : ∀ (l : List UInt8) (k n m : Nat) (l' : List UInt8), vrd l k n = some (m, l') → l' <:+ l ∧ l'.length < l.length
  | [], _, _, _, _, h => by simp [vrd] at h
  | b :: l, k, n, m, l', h => by
    unfold vrd at h
    split at h
    · cases h
    · split at h
      · simp only [Option.some.injEq, Prod.mk.injEq] at h
        obtain ⟨_, rfl⟩ := h
        exact ⟨List.suffix_cons b l, by simp⟩
      · obtain ⟨h1, h2⟩ := vrd_rest l _ _ _ _ h
        exact ⟨h1.trans (List.suffix_cons b l), by simp; omega⟩

theorem freeP_rest {m : Nat} {l : List UInt8} {n : Nat} {l' : List UInt8} (h : freeP m l = some (n, l')) : l' <:+ l ∧ l'.length < l.length ∧ n ≤ m := by
  unfold freeP at h
  split at h
  · cases h
  · rename_i n' l'' hv
    split at h
    · simp only [Option.some.injEq, Prod.mk.injEq] at h
      obtain ⟨rfl, rfl⟩ := h
      obtain ⟨h1, h2⟩ := vrd_rest _ _ _ _ _ hv
      exact ⟨h1, h2, by assumption⟩
    · cases h

end Go.Proofs.YtemicgccgcmmbaaGreat

/- Small functions of sums and node. -/
namespace Go.Proofs.YtemicgccgcmmbaaGreat
set_option linter.unusedVariables false
set_option linter.unusedSimpArgs false
open Go Go.RowKit

set_option maxHeartbeats 1000000 in set_option maxRecDepth 100000 in
theorem maxKey_any (p wd : Int) (w : World) (h0 : 0 ≤ p) (h1 : p ≤ 1000000) : Calls Tryz.prog 67 #[.agg #[.int .i64 p, .int .i64 wd]] w (Rets (.int .i64 (p / 16)) w) := by
  go_enter Tryz.func67, Tryz.ntmps67
  go_wp2
  go_ret
  exact ⟨rfl, by (try simp only [alloc_ext, drew_ext, drewN_ext, ext_ext]); exact ⟨_, _, rfl⟩⟩

set_option maxHeartbeats 1000000 in set_option maxRecDepth 100000 in
theorem maxVal_any (p wd : Int) (w : World) (h0 : 0 ≤ p) (h1 : p ≤ 1000000) : Calls Tryz.prog 51 #[.agg #[.int .i64 p, .int .i64 wd]] w (Rets (.int .i64 (p / 8)) w) := by
  go_enter Tryz.func51, Tryz.ntmps51
  go_wp2
  go_ret
  exact ⟨rfl, by (try simp only [alloc_ext, drew_ext, drewN_ext, ext_ext]); exact ⟨_, _, rfl⟩⟩

set_option maxHeartbeats 1000000 in set_option maxRecDepth 100000 in
theorem room_any (p wd : Int) (w : World) (h0 : 0 ≤ p) (h1 : p ≤ 1000000) : Calls Tryz.prog 73 #[.agg #[.int .i64 p, .int .i64 wd]] w (Rets (.int .i64 (p - 32)) w) := by
  go_enter Tryz.func73, Tryz.ntmps73
  go_wp2
  go_ret
  exact ⟨rfl, by (try simp only [alloc_ext, drew_ext, drewN_ext, ext_ext]); exact ⟨_, _, rfl⟩⟩

theorem ret_bool {a b : Bool} (h : a = b) : Ending.returned (.bool a) = .returned (.bool b) := by rw [h]

/-- How many bytes a free number has. -/
def cntN (n : Nat) : Nat := if h : n < 128 then 1 else cntN (n / 128) + 1
termination_by n
decreasing_by omega
theorem cntN_small {n : Nat} (h : n < 128) : cntN n = 1 := by rw [cntN]; simp [h]
theorem cntN_big {n : Nat} (h : ¬ n < 128) : cntN n = cntN (n / 128) + 1 := by rw [cntN]; simp [h]
theorem cntN_le : ∀ (k n : Nat), n < 128 ^ k → 0 < k → cntN n ≤ k
  | 0, n, _, h => absurd h (by omega)
  | k + 1, n, h, _ => by
    rw [cntN]
    split
    · omega
    · by_cases hk : k = 0
      · subst hk; simp at h; omega
      · have : n / 128 < 128 ^ k := by
          rw [Nat.pow_succ] at h
          exact Nat.div_lt_of_lt_mul (by omega)
        have := cntN_le k (n / 128) this (by omega)
        omega
theorem cntN_pos (n : Nat) : 1 ≤ cntN n := by rw [cntN]; split <;> omega
theorem cntN_le9 (n : Nat) (h : n < 9223372036854775808) : cntN n ≤ 9 := cntN_le 9 n (by omega) (by omega)

set_option maxHeartbeats 1000000 in set_option maxRecDepth 100000 in
theorem count_any (n : Nat) (w : World) (hn : n ≤ 9223372036854775807) : Calls Tryz.prog 103 #[.int .i64 n] w fun e w' => e = .returned (.int .i64 (cntN n : Nat)) ∧ w = w' := by
  have hl := cntN_le9 n (by omega)
  have HL := Lib.hid hl; clear hl
  go_enter Tryz.func103, Tryz.ntmps103
  go_wp2
  go_loop [0, 3] (fun x k => ∃ m j : Nat, x = .int .i64 m ∧ k = .int .i64 j ∧ m ≤ n ∧ 1 ≤ j ∧ Hid (j - 1 + cntN m = cntN n)) (fun x _ => (intOf x).toNat)
  case atStart => exact ⟨n, 1, rfl, rfl, Nat.le_refl _, Nat.le_refl _, by show _ = _; omega⟩
  case round =>
    obtain ⟨m, j, rfl, rfl, hm, hj, HJ⟩ := hrel
    have hj9 : j ≤ 9 := by have := HJ.out; have := HL.out; have := cntN_pos m; omega
    by_cases hs : m < 128
    · go_wp2
      go_ret
      exact ⟨ret_int (by have := HJ.out; rw [cntN_small hs] at this; omega), rfl⟩
    · go_wp2
      go_round
      case rel => exact ⟨m / 128, j + 1, by go_num, by go_num, by omega, by omega, by show _ = _; have := HJ.out; rw [cntN_big hs] at this; omega⟩
      case measure => simp [intOf]; omega

/-- How many bytes a text has. -/
def txN (t : Bs) : Nat := cntN t.length + t.length

set_option maxHeartbeats 1000000 in set_option maxRecDepth 100000 in
theorem text_any (t : Bs) (w : World) (hn : t.length ≤ 140737488351232) : Calls Tryz.prog 104 #[.string ⟨t.toArray⟩] w fun e w' => e = .returned (.int .i64 (txN t : Nat)) ∧ w = w' := by
  have hl := cntN_le9 t.length (by omega)
  go_enter Tryz.func104, Tryz.ntmps104
  go_wp2_with (go_at_call 103; refine (count_any _ _ (by omega)).mono ?_; rintro e w' ⟨rfl, rfl⟩)
  go_ret
  exact ⟨ret_int (by simp [txN]), rfl⟩

set_option maxHeartbeats 1000000 in set_option maxRecDepth 100000 in
theorem wide_any (n : Int) (w : World) : Calls Tryz.prog 78 #[.int .i64 n] w fun e w' => e = .returned (.bool (decide (1 ≤ n ∧ n ≤ 32))) ∧ w = w' := by
  by_cases h1 : 1 ≤ n
  · go_enter Tryz.func78, Tryz.ntmps78
    go_wp2
    go_ret
    exact ⟨ret_bool (by rw [Bool.eq_iff_iff]; simp; omega), rfl⟩
  · go_enter Tryz.func78, Tryz.ntmps78
    go_wp2
    go_ret
    exact ⟨ret_bool (by rw [Bool.eq_iff_iff]; simp; omega), rfl⟩

set_option maxHeartbeats 1000000 in set_option maxRecDepth 100000 in
theorem isLeaf_any (pa sa ka : Option Addr) (pn sn kn pc sc kc : Nat) (w : World) :
    Calls Tryz.prog 41 #[.agg #[.slice pa pn pc, .slice sa sn sc, .slice ka kn kc]] w (Rets (.bool (decide (sn = 0 ∧ kn = 0))) w) := by
  by_cases h1 : sn = 0
  · have hb : ((sn : Int) == 0) = true := by simp; omega
    go_enter Tryz.func41, Tryz.ntmps41
    go_wp2
    go_ret
    exact ⟨ret_bool (by rw [Bool.eq_iff_iff]; simp; omega), (by (try simp only [alloc_ext, drew_ext, drewN_ext, ext_ext]); exact ⟨_, _, rfl⟩)⟩
  · have hb : ((sn : Int) == 0) = false := by simp; omega
    go_enter Tryz.func41, Tryz.ntmps41
    go_wp2
    go_ret
    exact ⟨ret_bool (by rw [Bool.eq_iff_iff]; simp; omega), (by (try simp only [alloc_ext, drew_ext, drewN_ext, ext_ext]); exact ⟨_, _, rfl⟩)⟩

end Go.Proofs.YtemicgccgcmmbaaGreat

/- The reader's methods, each with what it hands back and where it leaves the reader. -/
namespace Go.Proofs.YtemicgccgcmmbaaGreat
set_option linter.unusedVariables false
set_option linter.unusedSimpArgs false
open Go Go.RowKit

set_option maxHeartbeats 400000 in
theorem rd_dead (b : Nat) (s : Bs) (p f : Int) (w : World) (h : RdAt w b s p f) :
    Calls Tryz.prog 105 #[.pointer (some ⟨b, 0, none⟩)] w fun e w' => e = .returned (.bool (f != 0)) ∧ w = w' := by
  obtain ⟨c0, c1, c2, c3⟩ := h.cells
  clear h
  go_enter Tryz.func105, Tryz.ntmps105
  go_wp2
  go_ret
  exact ⟨rfl, rfl⟩

theorem rd_dead0 {b : Nat} {s : Bs} {p : Int} {w : World} (h : RdAt w b s p 0) :
    Calls Tryz.prog 105 #[.pointer (some ⟨b, 0, none⟩)] w fun e w' => e = .returned (.bool false) ∧ w = w' := rd_dead b s p 0 w h

theorem rd_dead1 {b : Nat} {s : Bs} {p f : Int} {w : World} (h : RdAt w b s p f) (hf : f ≠ 0) :
    Calls Tryz.prog 105 #[.pointer (some ⟨b, 0, none⟩)] w fun e w' => e = .returned (.bool true) ∧ w = w' := by
  have := rd_dead b s p f w h
  rwa [show (f != 0) = true by simpa using hf] at this

set_option maxHeartbeats 400000 in
theorem rd_left (b : Nat) (s : Bs) (p : Nat) (f : Int) (w : World) (h : RdAt w b s p f) (hs : s.length ≤ 140737488351232) (h1 : p ≤ s.length) :
    Calls Tryz.prog 107 #[.pointer (some ⟨b, 0, none⟩)] w fun e w' => e = .returned (.int .i64 ((s.length : Int) - p)) ∧ ∃ n, w' = w.drewN n := by
  obtain ⟨c0, c1, c2, c3⟩ := h.cells
  clear h
  go_enter Tryz.func107, Tryz.ntmps107
  go_wp2
  go_quiet (fail)
  go_wp2
  go_ret
  exact ⟨rfl, _, rfl⟩

set_option maxHeartbeats 400000 in
theorem rd_fail (b : Nat) (s : Bs) (p f c : Int) (q : Int) (w : World) (h : RdAt w b s p f) :
    Calls Tryz.prog 108 #[.pointer (some ⟨b, 0, none⟩), .int .i64 c, .int .i64 q] w fun e w' => e = .returned (.tuple #[]) ∧ Kp [b] w w' ∧ RdAt w' b s q c := by
  obtain ⟨c0, c1, c2, c3⟩ := h.cells
  have f2 := Blk.frozen h 2
  have f3 := Blk.frozen h 3
  have H := Lib.hid h
  clear h
  go_enter Tryz.func108, Tryz.ntmps108
  go_wp2
  go_end0
  exact ⟨rfl, ((Kp.refl _ _).setCell _ (.inr (by simp))).setCell _ (.inr (by simp)), (H.out.setFault c).setAt q⟩

/-- Behind a fault. -/
theorem RdAt.bad {w : World} {b : Nat} {s : Bs} {p : Nat} {f : Int} (h : RdAt w b s p f) (hf : f ≠ 0) (hp : p ≤ s.length) : RdBad w b s := ⟨p, f, hf, hp, h⟩

def FreePost (w : World) (b : Nat) (s : Bs) (r : Option (Nat × Bs)) (e : Ending) (w' : World) : Prop :=
  match r with
  | some (n, l') => e = .returned (.int .u64 n) ∧ Kp [b] w w' ∧ RdOk w' b s l'
  | none => e = .returned (.int .u64 0) ∧ Kp [b] w w' ∧ RdBad w' b s

theorem drop_cons {s : Bs} {q : Nat} (h : q < s.length) : s.drop q = s[q] :: s.drop (q + 1) := (List.getElem_cons_drop h).symm

theorem free_none {l t : Bs} {m n' k' : Nat} {c : UInt8} (HV : vrd l 0 0 = vrd (c :: t) k' n') (ht : (k' = 63 ∧ 1 < c.toNat) ∨ (0 < k' ∧ c.toNat = 0)) : freeP m l = none := by
  unfold freeP; rw [HV]; simp [vrd, ht]
theorem free_some {l t : Bs} {m n' k' : Nat} {c : UInt8} (HV : vrd l 0 0 = vrd (c :: t) k' n') (ht : ¬ ((k' = 63 ∧ 1 < c.toNat) ∨ (0 < k' ∧ c.toNat = 0))) (hc : c.toNat < 128) :
    freeP m l = if n' + c.toNat % 128 * 2 ^ k' ≤ m then some (n' + c.toNat % 128 * 2 ^ k', t) else none := by
  unfold freeP; rw [HV]; simp only [vrd, ht, if_false, hc, if_true, Nat.mod_eq_of_lt hc]
theorem free_step {l t : Bs} {n' k' : Nat} {c : UInt8} (HV : vrd l 0 0 = vrd (c :: t) k' n') (ht : ¬ ((k' = 63 ∧ 1 < c.toNat) ∨ (0 < k' ∧ c.toNat = 0))) (hc : 128 ≤ c.toNat) :
    vrd l 0 0 = vrd t (k' + 7) (n' + c.toNat % 128 * 2 ^ k') := by
  rw [HV]; simp only [vrd, ht, if_false, show ¬ c.toNat < 128 from by omega]

theorem byte_at (s : Bs) (q : Nat) (h : q < s.length) : ∃ c : Nat, ((⟨s.toArray⟩ : ByteArray)[q]'h).toNat = c ∧ s[q].toNat = c ∧ c < 256 :=
  ⟨s[q].toNat, rfl, rfl, s[q].toNat_lt⟩

end Go.Proofs.YtemicgccgcmmbaaGreat

/- A free number is read. -/
namespace Go.Proofs.YtemicgccgcmmbaaGreat
set_option linter.unusedVariables false
set_option linter.unusedSimpArgs false
open Go Go.RowKit

set_option maxHeartbeats 2000000 in
set_option maxRecDepth 100000 in
theorem rd_free (b : Nat) (s l : Bs) (m : Nat) (w : World) (h : RdOk w b s l) (hs : s.length ≤ 140737488351232) (hm : m < 18446744073709551616) :
    Calls Tryz.prog 109 #[.pointer (some ⟨b, 0, none⟩), .int .u64 m] w (FreePost w b s (freeP m l)) := by
  obtain ⟨p, hp, hl, h⟩ := h
  obtain ⟨c0, c1, c2, c3⟩ := h.cells
  have f2 := Blk.frozen h 2
  have f3 := Blk.frozen h 3
  have H := Lib.hid h; clear h
  have HL := Lib.hid hl; clear hl
  have hp' : p ≤ s.length := by omega
  have HP := Lib.hid hp; clear hp
  go_enter Tryz.func109, Tryz.ntmps109
  go_wp2_with (go_at_call 105; refine (rd_dead0 H.out).mono ?_; rintro e w' ⟨rfl, rfl⟩)
  go_loop [5, 6, 7] (fun n q k => ∃ n' q' k' : Nat, n = .int .u64 n' ∧ q = .int .i64 q' ∧ k = .int .u64 k' ∧ k' ≤ 63 ∧ k' % 7 = 0 ∧ Hid (n' < 2 ^ k') ∧ p ≤ q' ∧ q' ≤ s.length ∧ Hid (vrd l 0 0 = vrd (s.drop q') k' n')) (fun _ q _ => s.length - (intOf q).toNat)
  case atStart => exact ⟨0, p, 0, rfl, rfl, rfl, by omega, by omega, by show 0 < 2 ^ 0; omega, by omega, hp', by show _ = _; rw [HL.out]⟩
  case round =>
    obtain ⟨n', q', k', rfl, rfl, rfl, hk, h7, HN, hq, hqs, HV⟩ := hrel
    by_cases he : q' = s.length
    · subst he
      go_wp2_with (go_at_call 108; refine (rd_fail _ _ _ _ _ _ _ H.out).mono ?_; rintro e w' ⟨rfl, hk1, hr1⟩)
      go_ret
      have : freeP m l = none := by unfold freeP; rw [HV.out]; simp [vrd]
      rw [this]
      exact ⟨rfl, hk1, hr1.bad (by decide) hp'⟩
    · have hlt : q' < s.length := by omega
      have hd := Lib.hid (drop_cons hlt)
      obtain ⟨c, hcell, hsc, hc⟩ := byte_at s q' hlt
      have HS := Lib.hid hsc; clear hsc
      by_cases ht : (k' = 63 ∧ 1 < c) ∨ (0 < k' ∧ c = 0)
      · have HO := Lib.hid (free_none (m := m) (HV.out.trans (by rw [hd.out])) (by rw [HS.out]; exact ht))
        rcases ht with ⟨rfl, ht⟩ | ⟨hk0, rfl⟩
        · go_wp2_with (go_at_call 108; refine (rd_fail _ _ _ _ _ _ _ H.out).mono ?_; rintro e w' ⟨rfl, hk1, hr1⟩)
          go_ret
          rw [HO.out]; exact ⟨rfl, hk1, hr1.bad (by decide) hp'⟩
        · have hk63 : k' = 63 ∨ k' < 63 := by omega
          rcases hk63 with rfl | hk63
          all_goals
            go_wp2_with (go_at_call 108; refine (rd_fail _ _ _ _ _ _ _ H.out).mono ?_; rintro e w' ⟨rfl, hk1, hr1⟩)
            go_ret
            rw [HO.out]; exact ⟨rfl, hk1, hr1.bad (by decide) hp'⟩
      · have HG := Lib.hid (gather n' c k' HN.out h7 hk hc (by omega))
        have HT := Lib.hid ht
        obtain ⟨z, hz⟩ : ∃ z, z = n' + c % 128 * 2 ^ k' := ⟨_, rfl⟩
        have HZ := Lib.hid hz; clear hz
        have hz64 : z < 18446744073709551616 := by rw [HZ.out]; exact HG.out.2
        have hor := HG.out.1
        rw [← HZ.out] at hor
        by_cases hlo : c < 128
        · have HF := Lib.hid (free_some (m := m) (HV.out.trans (by rw [hd.out])) (by rw [HS.out]; exact ht) (by rw [HS.out]; exact hlo))
          have h3 : (((k' : Int) == 63) = true ∧ c ≤ 1 ∧ 0 < c ∧ 0 < k') ∨ (((k' : Int) == 63) = false ∧ 0 < k' ∧ 0 < c) ∨ (((k' : Int) == 63) = false ∧ ¬ 0 < k') := by simp only [beq_iff_eq, beq_eq_false_iff_ne]; omega
          by_cases hzm : z ≤ m
          · rw [HS.out, ← HZ.out, if_pos hzm] at HF
            have hzm' : ¬ m < z := by omega
            rcases h3 with ⟨h4, h5, h6, h7'⟩ | ⟨h4, h5, h6⟩ | ⟨h4, h5⟩
            all_goals
              try (have h8 : ((c : Int) == 0) = false := by simp only [beq_eq_false_iff_ne]; omega)
              go_wp2_with fail
              go_ret
              rw [HF.out]
              exact ⟨rfl, (Kp.refl _ _).setCell _ (.inr (by simp)), q' + 1, by simp; omega, rfl, H.out.setAt _⟩
          · rw [HS.out, ← HZ.out, if_neg hzm] at HF
            have hzm' : m < z := by omega
            rcases h3 with ⟨h4, h5, h6, h7'⟩ | ⟨h4, h5, h6⟩ | ⟨h4, h5⟩
            all_goals
              try (have h8 : ((c : Int) == 0) = false := by simp only [beq_eq_false_iff_ne]; omega)
              go_wp2_with (go_at_call 108; refine (rd_fail _ _ _ _ _ _ _ H.out).mono ?_; rintro e w' ⟨rfl, hk1, hr1⟩)
              go_ret
              rw [HF.out]; exact ⟨rfl, hk1, hr1.bad (by decide) hp'⟩
        · have h3 : (((k' : Int) == 63) = false ∧ k' < 63 ∧ 0 < k' ∧ 0 < c) ∨ (((k' : Int) == 63) = false ∧ k' < 63 ∧ ¬ 0 < k') := by simp only [beq_iff_eq, beq_eq_false_iff_ne]; omega
          have HF := Lib.hid (free_step (HV.out.trans (by rw [hd.out])) (by rw [HS.out]; exact ht) (by rw [HS.out]; omega))
          have HX := Lib.hid (gather_lt n' c k' HN.out)
          rcases h3 with ⟨h4', h4, h5, h6⟩ | ⟨h4', h4, h5⟩
          all_goals
            go_wp2_with fail
            go_round
            case rel => exact ⟨z, q' + 1, k' + 7, rfl, by go_num, by go_num, by omega, by omega, by rw [HZ.out]; exact HX.out, by omega, by omega, by show _ = _; rw [HF.out, HS.out, HZ.out]⟩
            case measure => simp [intOf]; omega
end Go.Proofs.YtemicgccgcmmbaaGreat

/- The reader's further methods. -/
namespace Go.Proofs.YtemicgccgcmmbaaGreat
set_option linter.unusedVariables false
set_option linter.unusedSimpArgs false
open Go Go.RowKit

def StrPost (w : World) (b : Nat) (s : Bs) (r : Option (Bs × Bs)) (e : Ending) (w' : World) : Prop :=
  match r with
  | some (t, l') => e = .returned (.string ⟨t.toArray⟩) ∧ Kp [b] w w' ∧ RdOk w' b s l'
  | none => e = .returned (.string ⟨#[]⟩) ∧ Kp [b] w w' ∧ RdBad w' b s

theorem ext_drop (s : Bs) (p n : Nat) : ByteArray.extract ⟨s.toArray⟩ p (p + n) = ⟨((s.drop p).take n).toArray⟩ := by
  apply ByteArray.ext
  rw [ByteArray.data_extract]
  apply Array.ext'
  simp [List.extract_eq_take_drop]

set_option maxHeartbeats 400000 in
theorem rd_raw_bad (b : Nat) (s : Bs) (n : Int) (w : World) (h : RdBad w b s) :
    Calls Tryz.prog 110 #[.pointer (some ⟨b, 0, none⟩), .int .i64 n] w fun e w' => e = .returned (.string ⟨#[]⟩) ∧ w = w' := by
  obtain ⟨p, f, hf, hp, h⟩ := h
  have H := Lib.hid h; have HF := Lib.hid hf; clear h hf
  go_enter Tryz.func110, Tryz.ntmps110
  go_wp2_with (go_at_call 105; refine (rd_dead1 H.out HF.out).mono ?_; rintro e w' ⟨rfl, rfl⟩)
  go_ret
  exact ⟨rfl, rfl⟩

set_option maxHeartbeats 1000000 in
theorem rd_raw (b n : Nat) (s l : Bs) (w : World) (h : RdOk w b s l) (hs : s.length ≤ 140737488351232) (hn : n ≤ 9223372036854775807) :
    Calls Tryz.prog 110 #[.pointer (some ⟨b, 0, none⟩), .int .i64 n] w (StrPost w b s (rawP n l)) := by
  obtain ⟨p, hp, hl, h⟩ := h
  obtain ⟨c0, c1, c2, c3⟩ := h.cells
  have f2 := Blk.frozen h 2
  have f3 := Blk.frozen h 3
  have H := Lib.hid h; clear h
  have HL := Lib.hid hl; clear hl
  have hp' : p ≤ s.length := by omega
  by_cases h0 : n = 0
  · subst h0
    go_enter Tryz.func110, Tryz.ntmps110
    go_wp2_with (go_at_call 105; refine (rd_dead0 H.out).mono ?_; rintro e w' ⟨rfl, rfl⟩)
    go_ret
    exact ⟨rfl, Kp.refl _ _, p, by simpa using hp, by simpa using HL.out, H.out⟩
  · have h1 : 1 ≤ n := by omega
    by_cases hle : n ≤ l.length
    · have hr : Hid (rawP n l = some (l.take n, l.drop n)) := by show _ = _; simp [rawP, hle]
      have hpn : p + n ≤ s.length := by omega
      have HP := Lib.hid hp; clear hp
      have hlt : ¬ ((s.length : Int) - p < n) := by omega
      go_enter Tryz.func110, Tryz.ntmps110
      go_wp2_with (first | (go_at_call 105; refine (rd_dead0 H.out).mono ?_; rintro e w' ⟨rfl, rfl⟩) | (go_at_call 107; refine (rd_left _ _ _ _ _ H.out hs hp').mono ?_; rintro e w' ⟨rfl, nq, rfl⟩))
      go_quiet (fail)
      go_wp2
      go_ret
      rw [hr.out]
      refine ⟨?_, ((Kp.refl _ _).drewN _).setCell _ (.inr (by simp)), p + n, by simp; have := HP.out; omega, by rw [HL.out, List.drop_drop], ?_⟩
      · show Ending.returned (.string (ByteArray.extract ⟨s.toArray⟩ p (p + n))) = _
        rw [ext_drop, HL.out]
      · rw [Int.natCast_add]
        exact (RdAt.setAt (w := w.drewN _) (Blk.drewN H.out _) _)
    · have hr : Hid (rawP n l = none) := by show _ = _; simp [rawP, hle]
      have hlt : (s.length : Int) - p < n := by omega
      go_enter Tryz.func110, Tryz.ntmps110
      go_wp2_with (first | (go_at_call 105; refine (rd_dead0 H.out).mono ?_; rintro e w' ⟨rfl, rfl⟩) | (go_at_call 107; refine (rd_left _ _ _ _ _ H.out hs hp').mono ?_; rintro e w' ⟨rfl, nq, rfl⟩) | (go_at_call 108; refine (rd_fail _ _ _ _ _ _ _ (Blk.drewN H.out _)).mono ?_; rintro e w' ⟨rfl, hk1, hr1⟩))
      go_ret
      rw [hr.out]
      exact ⟨rfl, ((Kp.refl _ _).drewN _).trans hk1, hr1.bad (by decide) hp'⟩

set_option maxHeartbeats 400000 in
theorem rd_text_bad (b : Nat) (s : Bs) (n : Int) (w : World) (h : RdBad w b s) :
    Calls Tryz.prog 66 #[.pointer (some ⟨b, 0, none⟩), .int .i64 n] w fun e w' => e = .returned (.string ⟨#[]⟩) ∧ w = w' := by
  obtain ⟨p, f, hf, hp, h⟩ := h
  have H := Lib.hid h; have HF := Lib.hid hf; clear h hf
  go_enter Tryz.func66, Tryz.ntmps66
  go_wp2_with (go_at_call 105; refine (rd_dead1 H.out HF.out).mono ?_; rintro e w' ⟨rfl, rfl⟩)
  go_ret
  exact ⟨rfl, rfl⟩

set_option maxHeartbeats 1000000 in
theorem rd_text (b m : Nat) (s l : Bs) (w : World) (h : RdOk w b s l) (hs : s.length ≤ 140737488351232) (hm0 : 0 < m) (hm : m ≤ 9223372036854775807) :
    Calls Tryz.prog 66 #[.pointer (some ⟨b, 0, none⟩), .int .i64 m] w (StrPost w b s (textP m l)) := by
  have hm' : m < 18446744073709551616 := by omega
  have HO := Lib.hid h
  obtain ⟨p, hp, hl, h⟩ := h
  obtain ⟨c0, c1, c2, c3⟩ := h.cells
  have H := Lib.hid h; clear h
  have HL := Lib.hid hl; clear hl
  have hp' : p ≤ s.length := by omega
  have HP := Lib.hid hp; clear hp
  rcases hf : freeP m l with _ | ⟨n, l'⟩
  · have HF := Lib.hid hf; clear hf
    have HT : Hid (textP m l = none) := by show _ = _; unfold textP; rw [HF.out]
    go_enter Tryz.func66, Tryz.ntmps66
    go_wp2_with (first | (go_at_call 105; refine (rd_dead0 H.out).mono ?_; rintro e w' ⟨rfl, rfl⟩))
    refine (rd_free _ _ _ _ _ HO.out hs hm').mono ?_
    rintro e w1 h1
    rw [HF.out] at h1
    obtain ⟨rfl, hk1, hr1⟩ := h1
    have HR := Lib.hid hr1
    obtain ⟨p', f', hf', hp1, hr1⟩ := hr1
    have H1 := Lib.hid hr1; have HF1 := Lib.hid hf'; clear hr1 hf'
    go_wp2_with (first | (go_at_call 105; refine (rd_dead1 H1.out HF1.out).mono ?_; rintro e w' ⟨rfl, rfl⟩))
    go_ret
    rw [HT.out]
    exact ⟨rfl, hk1, HR.out⟩
  · have HF := Lib.hid hf
    obtain ⟨hsuf, hlen, hnm⟩ := freeP_rest hf
    clear hf
    go_enter Tryz.func66, Tryz.ntmps66
    go_wp2_with (first | (go_at_call 105; refine (rd_dead0 H.out).mono ?_; rintro e w' ⟨rfl, rfl⟩))
    refine (rd_free _ _ _ _ _ HO.out hs hm').mono ?_
    rintro e w1 h1
    rw [HF.out] at h1
    obtain ⟨rfl, hk1, hr1⟩ := h1
    have HR := Lib.hid hr1
    obtain ⟨p', hp1, hl1, hr1⟩ := hr1
    have H1 := Lib.hid hr1; clear hr1 hl1
    have hp1' : p' ≤ s.length := by omega
    by_cases hle : n ≤ l'.length
    · have HT : Hid (textP m l = rawP n l') := by show _ = _; unfold textP; rw [HF.out]
      have hlt : ¬ ((s.length : Int) - p' < n) := by omega
      have hn63 : n ≤ 9223372036854775807 := by omega
      have HP1 := Lib.hid hp1; clear hp1
      go_wp2_with (first | (go_at_call 105; refine (rd_dead0 H1.out).mono ?_; rintro e w' ⟨rfl, rfl⟩) | (go_at_call 107; refine (rd_left _ _ _ _ _ H1.out hs hp1').mono ?_; rintro e w' ⟨rfl, nq, rfl⟩))
      refine (rd_raw _ _ _ _ _ (HR.out.kp ((Kp.refl [] _).drewN _) (by simp)) hs hn63).mono ?_
      rintro e w2 h2
      have hr : rawP n l' = some (l'.take n, l'.drop n) := by simp [rawP, hle]
      rw [hr] at h2 HT
      obtain ⟨rfl, hk2, hr2⟩ := h2
      have HR2 := Lib.hid hr2; clear hr2 hr
      go_wp2_with fail
      go_ret
      rw [HT.out]
      exact ⟨rfl, (hk1.drewN _).trans hk2, HR2.out⟩
    · have HT : Hid (textP m l = none) := by show _ = _; unfold textP; rw [HF.out]; simp [rawP, hle]
      have hlt : ((s.length : Int) - p' < n) := by omega
      have HP1 := Lib.hid hp1; clear hp1
      go_wp2_with (first | (go_at_call 105; refine (rd_dead0 H1.out).mono ?_; rintro e w' ⟨rfl, rfl⟩) | (go_at_call 107; refine (rd_left _ _ _ _ _ H1.out hs hp1').mono ?_; rintro e w' ⟨rfl, nq, rfl⟩) | (go_at_call 108; refine (rd_fail _ _ _ _ _ _ _ (Blk.drewN H1.out _)).mono ?_; rintro e w' ⟨rfl, hk2, hr2⟩))
      go_ret
      rw [HT.out]
      exact ⟨rfl, (hk1.drewN _).trans hk2, hr2.bad (by decide) hp'⟩

end Go.Proofs.YtemicgccgcmmbaaGreat

/- Fixed numbers are read. -/
namespace Go.Proofs.YtemicgccgcmmbaaGreat
set_option linter.unusedVariables false
set_option linter.unusedSimpArgs false
open Go Go.RowKit

theorem be_app (a b : Bs) (acc : Nat) : be (a ++ b) acc = be b (be a acc) := by
  induction a generalizing acc with
  | nil => rfl
  | cons x t ih => exact ih _
theorem be_le : ∀ (l : Bs) (acc : Nat), be l acc < (acc + 1) * 256 ^ l.length
  | [], acc => by simp [be]
  | x :: t, acc => by
    have h := be_le t (acc * 256 + x.toNat)
    have hx := x.toNat_lt
    have h2 : (acc * 256 + x.toNat + 1) * 256 ^ t.length ≤ ((acc + 1) * 256) * 256 ^ t.length := Nat.mul_le_mul_right _ (by omega)
    rw [List.length_cons, Nat.pow_succ, Nat.mul_comm (256 ^ t.length) 256, ← Nat.mul_assoc]
    exact Nat.lt_of_lt_of_le h h2
theorem be_lt (l : Bs) : be l 0 < 256 ^ l.length := by simpa using be_le l 0

theorem pow_uint8 : ∀ k, k < 8 → ((2 : Int) ^ k % 256 != 0) = true := by decide
theorem dbl_uint8 (k : Nat) : (2 : Int) ^ k % 256 * 2 % 256 = 2 ^ (k + 1) % 256 := by rw [Int.pow_succ]; omega

set_option maxHeartbeats 1000000 in
theorem width_uint8 (w : World) : Calls Tryz.prog 106 #[] w fun e w' => e = .returned (.int .i64 1) ∧ w = w' := by
  go_enter Tryz.func106, Tryz.ntmps106
  go_wp2
  go_loop [1, 2] (fun n x => ∃ k : Nat, k ≤ 8 ∧ n = .int .i64 k ∧ x = .int .u8 ((2 : Int) ^ k % 256)) (fun n _ => 8 - (intOf n).toNat)
  case atStart => exact ⟨0, by omega, rfl, rfl⟩
  case round =>
    obtain ⟨k, hk, rfl, rfl⟩ := hrel
    by_cases h8 : k = 8
    · subst h8
      go_wp2
      go_ret
      exact ⟨rfl, rfl⟩
    · have hb := pow_uint8 k (by omega)
      go_wp2
      go_round
      case rel => exact ⟨k + 1, by omega, by go_num, by rw [← dbl_uint8]⟩
      case measure => simp [intOf]; omega

def TakePostuint8 (w : World) (b : Nat) (s : Bs) (r : Option (Nat × Bs)) (e : Ending) (w' : World) : Prop :=
  match r with
  | some (n, l') => e = .returned (.int .u8 n) ∧ Kp [b] w w' ∧ RdOk w' b s l'
  | none => e = .returned (.int .u8 0) ∧ Kp [b] w w' ∧ RdBad w' b s

set_option maxHeartbeats 400000 in
theorem take_bad_uint8 (b : Nat) (s : Bs) (w : World) (h : RdBad w b s) :
    Calls Tryz.prog 63 #[.pointer (some ⟨b, 0, none⟩)] w fun e w' => e = .returned (.int .u8 0) ∧ w = w' := by
  obtain ⟨p, f, hf, hp, h⟩ := h
  have H := Lib.hid h; have HF := Lib.hid hf; clear h hf
  go_enter Tryz.func63, Tryz.ntmps63
  go_wp2_with (go_at_call 105; refine (rd_dead1 H.out HF.out).mono ?_; rintro e w' ⟨rfl, rfl⟩)
  go_ret
  exact ⟨rfl, rfl⟩

set_option maxHeartbeats 2000000 in
set_option maxRecDepth 100000 in
theorem take_uint8 (b : Nat) (s l : Bs) (w : World) (h : RdOk w b s l) (hs : s.length ≤ 140737488351232) :
    Calls Tryz.prog 63 #[.pointer (some ⟨b, 0, none⟩)] w (TakePostuint8 w b s (takeP 1 l)) := by
  obtain ⟨p, hp, hl, h⟩ := h
  obtain ⟨c0, c1, c2, c3⟩ := h.cells
  have f2 := Blk.frozen h 2
  have f3 := Blk.frozen h 3
  have H := Lib.hid h; clear h
  have HL := Lib.hid hl; clear hl
  have hp' : p ≤ s.length := by omega
  by_cases hle : 1 ≤ l.length
  · have hr : Hid (takeP 1 l = some (be (l.take 1) 0, l.drop 1)) := by show _ = _; simp [takeP, hle]
    have hlt : ¬ ((s.length : Int) - p < 1) := by omega
    have hpn : p + 1 ≤ s.length := by omega
    have HP := Lib.hid hp; clear hp
    go_enter Tryz.func63, Tryz.ntmps63
    go_wp2_with (first | (go_at_call 105; refine (rd_dead0 H.out).mono ?_; rintro e w' ⟨rfl, rfl⟩) | (go_at_call 106; refine (width_uint8 _).mono ?_; rintro e w' ⟨rfl, rfl⟩) | (go_at_call 107; refine (rd_left _ _ _ _ _ H.out hs hp').mono ?_; rintro e w' ⟨rfl, nq, rfl⟩))
    go_loopw [4, 5, 20] (fun x _ i wr => ∃ k X : Nat, k ≤ 1 ∧ i = .int .i64 k ∧ x = .int .u64 X ∧ Hid (X = be ((s.drop p).take k) 0) ∧ ∃ nn, wr = w.drewN nn) (fun _ _ i _ => 1 - (intOf i).toNat)
    case atStart => exact ⟨0, 0, by omega, rfl, rfl, rfl, _, rfl⟩
    case round =>
      obtain ⟨k, X, hk, rfl, rfl, HX, nn, rfl⟩ := hrel
      have hb := be_lt ((s.drop p).take k)
      rw [← HX.out, List.length_take, List.length_drop, show min k (s.length - p) = k by omega] at hb
      have hX : X < 256 ^ 1 := Nat.lt_of_lt_of_le hb (Nat.pow_le_pow_right (by omega) hk)
      by_cases hkn : k = 1
      · subst hkn
        clear hb
        have hXb : X < 256 := by omega
        clear hX
        go_wp2
        go_ret
        rw [hr.out, HL.out, ← HX.out]
        exact ⟨rfl, ((Kp.refl _ _).drewN _).setCell _ (.inr (by simp)), p + 1, by simp; omega, by simp, RdAt.setAt (w := w.drewN _) (Blk.drewN H.out _) _⟩
      · have hkl : k < 1 := by omega
        have hX2 : X < 256 ^ 0 := Nat.lt_of_lt_of_le hb (Nat.pow_le_pow_right (by omega) (by omega))
        clear hb hX
        have e1 : IntKind.i64.wrap ((p : Int) + k) = p + k := IntWalk.i64_in _ (by omega)
        have e2 : (0 : Int) ≤ p + k := by omega
        have e3 : ((p : Int) + k).toNat = p + k := by omega
        have e4 : p + k < s.length := by omega
        obtain ⟨c, hcell, hsc, hc⟩ := byte_at s (p + k) e4
        have HS := Lib.hid hsc; clear hsc
        have e5 : bits .or .u64 ((X : Int) * 256) (c : Int) = ((X * 256 + c : Nat) : Int) := by
          have : X * 256 + 256 ≤ 256 := by omega
          rw [show (X : Int) * 256 = ((X * 2 ^ 8 : Nat) : Int) by omega, u64_or_nat _ _ (by omega) (by omega), Nat.or_comm, or_shift _ _ _ (by omega), Nat.add_comm]
        go_wp2
        go_quiet (fail)
        clear e1 e2 e3
        go_wp2
        go_roundw
        case rel => exact ⟨k + 1, X * 256 + c, by omega, by go_num, by first | rfl | rw [e5], by show _ = _; rw [HX.out, List.take_add_one, List.getElem?_drop, List.getElem?_eq_getElem e4, be_app, ← HS.out]; rfl, _, rfl⟩
        case measure => simp [intOf]; omega
  · have hr : Hid (takeP 1 l = none) := by show _ = _; simp [takeP, hle]
    have hlt : (s.length : Int) - p < 1 := by omega
    go_enter Tryz.func63, Tryz.ntmps63
    go_wp2_with (first | (go_at_call 105; refine (rd_dead0 H.out).mono ?_; rintro e w' ⟨rfl, rfl⟩) | (go_at_call 106; refine (width_uint8 _).mono ?_; rintro e w' ⟨rfl, rfl⟩) | (go_at_call 107; refine (rd_left _ _ _ _ _ H.out hs hp').mono ?_; rintro e w' ⟨rfl, nq, rfl⟩) | (go_at_call 108; refine (rd_fail _ _ _ _ _ _ _ (Blk.drewN H.out _)).mono ?_; rintro e w' ⟨rfl, hk1, hr1⟩))
    go_ret
    rw [hr.out]
    exact ⟨rfl, ((Kp.refl _ _).drewN _).trans hk1, hr1.bad (by decide) hp'⟩

theorem pow_uint32 : ∀ k, k < 32 → ((2 : Int) ^ k % 4294967296 != 0) = true := by decide
theorem dbl_uint32 (k : Nat) : (2 : Int) ^ k % 4294967296 * 2 % 4294967296 = 2 ^ (k + 1) % 4294967296 := by rw [Int.pow_succ]; omega

set_option maxHeartbeats 1000000 in
theorem width_uint32 (w : World) : Calls Tryz.prog 111 #[] w fun e w' => e = .returned (.int .i64 4) ∧ w = w' := by
  go_enter Tryz.func111, Tryz.ntmps111
  go_wp2
  go_loop [1, 2] (fun n x => ∃ k : Nat, k ≤ 32 ∧ n = .int .i64 k ∧ x = .int .u32 ((2 : Int) ^ k % 4294967296)) (fun n _ => 32 - (intOf n).toNat)
  case atStart => exact ⟨0, by omega, rfl, rfl⟩
  case round =>
    obtain ⟨k, hk, rfl, rfl⟩ := hrel
    by_cases h8 : k = 32
    · subst h8
      go_wp2
      go_ret
      exact ⟨rfl, rfl⟩
    · have hb := pow_uint32 k (by omega)
      go_wp2
      go_round
      case rel => exact ⟨k + 1, by omega, by go_num, by rw [← dbl_uint32]⟩
      case measure => simp [intOf]; omega

def TakePostuint32 (w : World) (b : Nat) (s : Bs) (r : Option (Nat × Bs)) (e : Ending) (w' : World) : Prop :=
  match r with
  | some (n, l') => e = .returned (.int .u32 n) ∧ Kp [b] w w' ∧ RdOk w' b s l'
  | none => e = .returned (.int .u32 0) ∧ Kp [b] w w' ∧ RdBad w' b s

set_option maxHeartbeats 400000 in
theorem take_bad_uint32 (b : Nat) (s : Bs) (w : World) (h : RdBad w b s) :
    Calls Tryz.prog 70 #[.pointer (some ⟨b, 0, none⟩)] w fun e w' => e = .returned (.int .u32 0) ∧ w = w' := by
  obtain ⟨p, f, hf, hp, h⟩ := h
  have H := Lib.hid h; have HF := Lib.hid hf; clear h hf
  go_enter Tryz.func70, Tryz.ntmps70
  go_wp2_with (go_at_call 105; refine (rd_dead1 H.out HF.out).mono ?_; rintro e w' ⟨rfl, rfl⟩)
  go_ret
  exact ⟨rfl, rfl⟩

set_option maxHeartbeats 2000000 in
set_option maxRecDepth 100000 in
theorem take_uint32 (b : Nat) (s l : Bs) (w : World) (h : RdOk w b s l) (hs : s.length ≤ 140737488351232) :
    Calls Tryz.prog 70 #[.pointer (some ⟨b, 0, none⟩)] w (TakePostuint32 w b s (takeP 4 l)) := by
  obtain ⟨p, hp, hl, h⟩ := h
  obtain ⟨c0, c1, c2, c3⟩ := h.cells
  have f2 := Blk.frozen h 2
  have f3 := Blk.frozen h 3
  have H := Lib.hid h; clear h
  have HL := Lib.hid hl; clear hl
  have hp' : p ≤ s.length := by omega
  by_cases hle : 4 ≤ l.length
  · have hr : Hid (takeP 4 l = some (be (l.take 4) 0, l.drop 4)) := by show _ = _; simp [takeP, hle]
    have hlt : ¬ ((s.length : Int) - p < 4) := by omega
    have hpn : p + 4 ≤ s.length := by omega
    have HP := Lib.hid hp; clear hp
    go_enter Tryz.func70, Tryz.ntmps70
    go_wp2_with (first | (go_at_call 105; refine (rd_dead0 H.out).mono ?_; rintro e w' ⟨rfl, rfl⟩) | (go_at_call 111; refine (width_uint32 _).mono ?_; rintro e w' ⟨rfl, rfl⟩) | (go_at_call 107; refine (rd_left _ _ _ _ _ H.out hs hp').mono ?_; rintro e w' ⟨rfl, nq, rfl⟩))
    go_loopw [4, 5, 20] (fun x _ i wr => ∃ k X : Nat, k ≤ 4 ∧ i = .int .i64 k ∧ x = .int .u64 X ∧ Hid (X = be ((s.drop p).take k) 0) ∧ ∃ nn, wr = w.drewN nn) (fun _ _ i _ => 4 - (intOf i).toNat)
    case atStart => exact ⟨0, 0, by omega, rfl, rfl, rfl, _, rfl⟩
    case round =>
      obtain ⟨k, X, hk, rfl, rfl, HX, nn, rfl⟩ := hrel
      have hb := be_lt ((s.drop p).take k)
      rw [← HX.out, List.length_take, List.length_drop, show min k (s.length - p) = k by omega] at hb
      have hX : X < 256 ^ 4 := Nat.lt_of_lt_of_le hb (Nat.pow_le_pow_right (by omega) hk)
      by_cases hkn : k = 4
      · subst hkn
        clear hb
        have hXb : X < 4294967296 := by omega
        clear hX
        go_wp2
        go_ret
        rw [hr.out, HL.out, ← HX.out]
        exact ⟨rfl, ((Kp.refl _ _).drewN _).setCell _ (.inr (by simp)), p + 4, by simp; omega, by simp, RdAt.setAt (w := w.drewN _) (Blk.drewN H.out _) _⟩
      · have hkl : k < 4 := by omega
        have hX2 : X < 256 ^ 3 := Nat.lt_of_lt_of_le hb (Nat.pow_le_pow_right (by omega) (by omega))
        clear hb hX
        have e1 : IntKind.i64.wrap ((p : Int) + k) = p + k := IntWalk.i64_in _ (by omega)
        have e2 : (0 : Int) ≤ p + k := by omega
        have e3 : ((p : Int) + k).toNat = p + k := by omega
        have e4 : p + k < s.length := by omega
        obtain ⟨c, hcell, hsc, hc⟩ := byte_at s (p + k) e4
        have HS := Lib.hid hsc; clear hsc
        have e5 : bits .or .u64 ((X : Int) * 256) (c : Int) = ((X * 256 + c : Nat) : Int) := by
          have : X * 256 + 256 ≤ 4294967296 := by omega
          rw [show (X : Int) * 256 = ((X * 2 ^ 8 : Nat) : Int) by omega, u64_or_nat _ _ (by omega) (by omega), Nat.or_comm, or_shift _ _ _ (by omega), Nat.add_comm]
        go_wp2
        go_quiet (fail)
        clear e1 e2 e3
        go_wp2
        go_roundw
        case rel => exact ⟨k + 1, X * 256 + c, by omega, by go_num, by first | rfl | rw [e5], by show _ = _; rw [HX.out, List.take_add_one, List.getElem?_drop, List.getElem?_eq_getElem e4, be_app, ← HS.out]; rfl, _, rfl⟩
        case measure => simp [intOf]; omega
  · have hr : Hid (takeP 4 l = none) := by show _ = _; simp [takeP, hle]
    have hlt : (s.length : Int) - p < 4 := by omega
    go_enter Tryz.func70, Tryz.ntmps70
    go_wp2_with (first | (go_at_call 105; refine (rd_dead0 H.out).mono ?_; rintro e w' ⟨rfl, rfl⟩) | (go_at_call 111; refine (width_uint32 _).mono ?_; rintro e w' ⟨rfl, rfl⟩) | (go_at_call 107; refine (rd_left _ _ _ _ _ H.out hs hp').mono ?_; rintro e w' ⟨rfl, nq, rfl⟩) | (go_at_call 108; refine (rd_fail _ _ _ _ _ _ _ (Blk.drewN H.out _)).mono ?_; rintro e w' ⟨rfl, hk1, hr1⟩))
    go_ret
    rw [hr.out]
    exact ⟨rfl, ((Kp.refl _ _).drewN _).trans hk1, hr1.bad (by decide) hp'⟩

end Go.Proofs.YtemicgccgcmmbaaGreat

/- A digest is read; what stands at a reader's end. -/
namespace Go.Proofs.YtemicgccgcmmbaaGreat
set_option linter.unusedVariables false
set_option linter.unusedSimpArgs false
open Go Go.RowKit

set_option maxHeartbeats 400000 in
theorem into_any (n : Int) (w : World) (h1 : 0 ≤ n) (h2 : n ≤ 32) : Calls Tryz.prog 112 #[.int .i64 n] w fun e w' => e = .returned (.int .i64 n) ∧ w = w' := by
  go_enter Tryz.func112, Tryz.ntmps112
  go_wp2
  all_goals
    go_ret
    exact ⟨ret_int (by omega), rfl⟩

def DgPost (w : World) (b : Nat) (s : Bs) (r : Option (Bs × Bs)) (e : Ending) (w' : World) : Prop :=
  match r with
  | some (t, l') => e = .returned (.agg (Dg.pad t).c) ∧ Kp [b] w w' ∧ RdOk w' b s l'
  | none => e = .returned (.agg Dg.zero.c) ∧ Kp [b] w w' ∧ RdBad w' b s

/-- A digest that stands in a block of its own is handed back. -/
theorem dg_ret {fn : Func} {R : Ending → World → Prop} {a : Act} {w : World} {p : Tmp} {g : Nat} {t : TypeId} {d : Dg} (hr : fn.results = #[.cell p 36]) (hp : a.tmps.getD p undef = .pointer (some ⟨g, 0, none⟩)) (hg : Blk w g t d.c) (hd : a.defers = []) (hR : R (.returned (.agg d.c)) w) :
    bodyPost Tryz.prog fn R .ret a w :=
  bodyPost_ret (results_cell_row hr a.tmps w g t d.c (0, 0) _ hp hg Tryz.underlying36 rfl (by rw [Dg.c_size]; kernel_rfl)) hd hR

theorem two_new (w : World) (t : TypeId) (c : Array Value) : Hid (Blk (((w.alloc (.cells c t)).alloc (.cells c t)).drew) w.heap.size t c) ∧ Hid (Blk (((w.alloc (.cells c t)).alloc (.cells c t)).drew) (w.heap.size + 1) t c) :=
  ⟨((Blk.new w t c).alloc _).drew, Blk.drew (by have := Blk.new (w.alloc (.cells c t)) t c; simpa using this)⟩

set_option maxHeartbeats 1000000 in
set_option maxRecDepth 100000 in
theorem rd_digest (b n : Nat) (s l : Bs) (w : World) (h : RdOk w b s l) (hs : s.length ≤ 140737488351232) (hn : n ≤ 32) :
    Calls Tryz.prog 71 #[.pointer (some ⟨b, 0, none⟩), .int .i64 n] w (DgPost w b s (rawP n l)) := by
  have hb := h.lt
  have H := Lib.hid h; clear h
  have hn' : n ≤ 9223372036854775807 := by omega
  obtain ⟨B4, B5⟩ := two_new w 36 Dg.zero.c
  rcases hr : rawP n l with _ | ⟨t, l'⟩
  · have HR := Lib.hid hr; clear hr
    go_enter Tryz.func71, Tryz.ntmps71
    go_wp2
    go_region_held3 (fun _ => True) (trivial) (first | (go_at_call 112; refine (into_any _ _ (by omega) (by omega)).mono ?_; rintro e w' ⟨rfl, rfl⟩) | (go_at_call 110; refine (rd_raw _ _ _ _ _ (H.out.kp ((((Kp.refl [] _).alloc _).alloc _).drew) (by simp)) hs hn').mono ?_; rintro e w1 h1; rw [HR.out] at h1; obtain ⟨rfl, hk1, hr1⟩ := h1; have HR1 := Lib.hid hr1; clear hr1; have b4 := Lib.hid (B4.out.kp hk1 (by simp; omega)); have b5 := Lib.hid (B5.out.kp hk1 (by simp; omega)); have o4 := own?_blk b4.out; have o5 := own?_blk b5.out; have hz : w.heap.size + 1 < w1.heap.size := by have := hk1.size; simp at this; omega))
    go_wp2
    refine dg_ret rfl rfl (((b4.out.setRow_other (g := w.heap.size + 1) _ (by omega)).setRow _)) rfl ⟨rfl, ?_, HR1.out.kp (((Kp.refl [w.heap.size, w.heap.size + 1] _).setRow _ _ (by simp)).setRow _ _ (by simp)) (by simp; omega)⟩
    exact (((((Kp.refl [b] w).alloc _).alloc _).drew.trans hk1).setRow _ _ (.inl (by omega))).setRow _ _ (.inl (by omega))
  · have HR := Lib.hid hr; clear hr
    go_enter Tryz.func71, Tryz.ntmps71
    go_wp2
    go_region_held3 (fun _ => True) (trivial) (first | (go_at_call 112; refine (into_any _ _ (by omega) (by omega)).mono ?_; rintro e w' ⟨rfl, rfl⟩) | (go_at_call 110; refine (rd_raw _ _ _ _ _ (H.out.kp ((((Kp.refl [] _).alloc _).alloc _).drew) (by simp)) hs hn').mono ?_; rintro e w1 h1; rw [HR.out] at h1; obtain ⟨rfl, hk1, hr1⟩ := h1; have HR1 := Lib.hid hr1; clear hr1; have b4 := Lib.hid (B4.out.kp hk1 (by simp; omega)); have b5 := Lib.hid (B5.out.kp hk1 (by simp; omega)); have o4 := own?_blk b4.out; have o5 := own?_blk b5.out; have hz : w.heap.size + 1 < w1.heap.size := by have := hk1.size; simp at this; omega))
    go_wp2
    refine dg_ret rfl rfl (((b4.out.setRow_other (g := w.heap.size + 1) _ (by omega)).setRow _)) rfl ⟨rfl, ?_, HR1.out.kp (((Kp.refl [w.heap.size, w.heap.size + 1] _).setRow _ _ (by simp)).setRow _ _ (by simp)) (by simp; omega)⟩
    exact (((((Kp.refl [b] w).alloc _).alloc _).drew.trans hk1).setRow _ _ (.inl (by omega))).setRow _ _ (.inl (by omega))

set_option maxHeartbeats 1000000 in
set_option maxRecDepth 100000 in
theorem rd_digest_bad (b n : Nat) (s : Bs) (w : World) (h : RdBad w b s) (hn : n ≤ 32) :
    Calls Tryz.prog 71 #[.pointer (some ⟨b, 0, none⟩), .int .i64 n] w fun e w' => e = .returned (.agg Dg.zero.c) ∧ Kp [] w w' := by
  have hb := h.lt
  have H := Lib.hid h; clear h
  obtain ⟨B4, B5⟩ := two_new w 36 Dg.zero.c
  go_enter Tryz.func71, Tryz.ntmps71
  go_wp2
  go_region_held3 (fun _ => True) (trivial) (first | (go_at_call 112; refine (into_any _ _ (by omega) (by omega)).mono ?_; rintro e w' ⟨rfl, rfl⟩) | (go_at_call 110; refine (rd_raw_bad _ _ _ _ (H.out.kp ((((Kp.refl [] _).alloc _).alloc _).drew) (by simp))).mono ?_; rintro e w1 ⟨rfl, rfl⟩))
  go_wp2
  exact dg_ret rfl rfl B4.out rfl ⟨rfl, ((((Kp.refl [] w).alloc _).alloc _).drew)⟩

end Go.Proofs.YtemicgccgcmmbaaGreat
