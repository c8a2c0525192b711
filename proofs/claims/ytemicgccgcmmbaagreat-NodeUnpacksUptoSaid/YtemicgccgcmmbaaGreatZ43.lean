/- Values without addresses: what a value stands for, whatever lies where in memory. -/
import Derived.Test.YtemicgccgcmmbaaGreatZ2
namespace Go.Proofs.YtemicgccgcmmbaaGreat
set_option linter.unusedVariables false
set_option linter.unusedSimpArgs false
open Go Go.RowKit

/-- What is known of a list's memory: nothing; it is nil; it ends where its memory ends; it begins block b, whose rest is its own. -/
inductive Tag where
  | none
  | nil
  | full
  | own (b : Nat) (t : TypeId) (z : Nat)

/-- A value without addresses. -/
inductive D where
  | v (x : Value)
  | dg (d : Dg)
  | agg (ds : List D)
  | sl (t : Tag) (es : List D)
  | pt (d : D)
  | tup (ds : List D)
  | any
instance : Inhabited D := ⟨.any⟩

mutual
def D.size : D → Nat
  | .v _ => 1
  | .dg _ => 32
  | .agg ds => D.sizes ds
  | .sl _ _ => 1
  | .pt _ => 1
  | .tup _ => 0
  | .any => 0
def D.sizes : List D → Nat
  | [] => 0
  | d :: ds => d.size + D.sizes ds
end

def CellsAt (w : World) (b o : Nat) (us : List Value) : Prop := ∀ j v, us[j]? = some v → w.cell? ⟨b, o + j, none⟩ = some v

/-- A list's memory, by its tag. -/
def TagOk (w : World) (a : Option Addr) (c : Nat) (es : List D) : Tag → Prop
  | .none => True
  | .nil => a = none
  | .full => c = es.length
  | .own b t z => a = some ⟨b, 0, Option.none⟩ ∧ (∃ cur, w.heap[b]? = some (.cells cur t (0, 0)) ∧ cur.size = c * z) ∧ c ≤ maxLen ∧ ∀ e ∈ es, e.size = z

mutual
/-- The cells us stand for d. I b e: what lies in block b ahead of e stays as it is. -/
def RV (w : World) (I : Nat → Nat → Prop) : D → List Value → Prop
  | .v x, us => us = [x] ∧ x.oneCell' = true
  | .dg d, us => us = bC d.l
  | .agg ds, us => RVs w I ds us
  | .sl t es, us => ∃ a n c, us = [.slice a n c] ∧ n = es.length ∧ n ≤ c ∧ TagOk w a c es t ∧
      ((a = Option.none ∧ es = [] ∧ c = 0) ∨ ∃ b o, a = some ⟨b, o, Option.none⟩ ∧ b < w.heap.size ∧ I b (o + D.sizes es) ∧ (∃ z, ∀ e ∈ es, e.size = z) ∧ REs w I b o es)
  | .pt d, us => ∃ b o ys, us = [.pointer (some ⟨b, o, Option.none⟩)] ∧ b < w.heap.size ∧ I b (o + d.size) ∧ RV w I d ys ∧ CellsAt w b o ys
  | .tup _, _ => False
  | .any, _ => False
def RVs (w : World) (I : Nat → Nat → Prop) : List D → List Value → Prop
  | [], us => us = []
  | d :: ds, us => ∃ xs ys, us = xs ++ ys ∧ RV w I d xs ∧ RVs w I ds ys
def REs (w : World) (I : Nat → Nat → Prop) (b : Nat) : Nat → List D → Prop
  | _, [] => True
  | o, e :: es => ∃ us, RV w I e us ∧ CellsAt w b o us ∧ REs w I b (o + e.size) es
end

mutual
theorem RV.len {w : World} {I : Nat → Nat → Prop} : ∀ (d : D) (us : List Value), RV w I d us → us.length = d.size
  | .v x, us, h => by unfold RV at h; rw [h.1]; rfl
  | .dg d, us, h => by unfold RV at h; rw [h, bC_length, d.h]; rfl
  | .agg ds, us, h => by unfold RV at h; unfold D.size; exact RVs.len ds us h
  | .sl t es, us, h => by unfold RV at h; obtain ⟨a, n, c, rfl, _⟩ := h; rfl
  | .pt d, us, h => by unfold RV at h; obtain ⟨b, o, ys, rfl, _⟩ := h; rfl
  | .tup _, us, h => by unfold RV at h; exact h.elim
  | .any, us, h => by unfold RV at h; exact h.elim
theorem RVs.len {w : World} {I : Nat → Nat → Prop} : ∀ (ds : List D) (us : List Value), RVs w I ds us → us.length = D.sizes ds
  | [], us, h => by unfold RVs at h; rw [h]; rfl
  | d :: ds, us, h => by
    unfold RVs at h
    obtain ⟨xs, ys, rfl, h1, h2⟩ := h
    rw [List.length_append, RV.len d xs h1, RVs.len ds ys h2]; rfl
end

/-- From one moment to a later one: what is to stay as it is does. -/
structure Evo (w : World) (I : Nat → Nat → Prop) (w' : World) (I' : Nat → Nat → Prop) : Prop where
  os : w'.os = w.os
  tape : w'.tape = w.tape
  output : w'.output = w.output
  size : w.heap.size ≤ w'.heap.size
  drawn : w.drawn ≤ w'.drawn
  imm : ∀ b e, b < w.heap.size → I b e → I' b e
  cell : ∀ b e, b < w.heap.size → I b e → ∀ o, o < e → w'.cell? ⟨b, o, none⟩ = w.cell? ⟨b, o, none⟩
  shape : ∀ b e, b < w.heap.size → I b e → ∀ cur t f, w.heap[b]? = some (.cells cur t f) → ∃ cur', w'.heap[b]? = some (.cells cur' t f) ∧ cur'.size = cur.size
  whole : ∀ b, b < w.heap.size → (∀ e, I b e) → w'.heap[b]? = w.heap[b]?

theorem Evo.refl (w : World) (I : Nat → Nat → Prop) : Evo w I w I :=
  ⟨rfl, rfl, rfl, Nat.le_refl _, Nat.le_refl _, fun _ _ _ h => h, fun _ _ _ _ _ _ => rfl, fun _ _ _ _ cur _ _ h => ⟨cur, h, rfl⟩, fun _ _ _ => rfl⟩
theorem Evo.trans {w w1 w2 : World} {I I1 I2 : Nat → Nat → Prop} (h : Evo w I w1 I1) (k : Evo w1 I1 w2 I2) : Evo w I w2 I2 :=
  ⟨k.os.trans h.os, k.tape.trans h.tape, k.output.trans h.output, Nat.le_trans h.size k.size, Nat.le_trans h.drawn k.drawn,
    fun b e hb hi => k.imm b e (Nat.lt_of_lt_of_le hb h.size) (h.imm b e hb hi),
    fun b e hb hi o ho => (k.cell b e (Nat.lt_of_lt_of_le hb h.size) (h.imm b e hb hi) o ho).trans (h.cell b e hb hi o ho),
    fun b e hb hi cur t f hc => by
      obtain ⟨c1, h1, s1⟩ := h.shape b e hb hi cur t f hc
      obtain ⟨c2, h2, s2⟩ := k.shape b e (Nat.lt_of_lt_of_le hb h.size) (h.imm b e hb hi) c1 t f h1
      exact ⟨c2, h2, s2.trans s1⟩,
    fun b hb hi => (k.whole b (Nat.lt_of_lt_of_le hb h.size) (fun e => h.imm b e hb (hi e))).trans (h.whole b hb hi)⟩
theorem Evo.mono {w w' : World} {I I1 I' : Nat → Nat → Prop} (h : Evo w I w' I1) (hi : ∀ b e, b < w.heap.size → I1 b e → I' b e) : Evo w I w' I' :=
  ⟨h.os, h.tape, h.output, h.size, h.drawn, fun b e hb x => hi b e hb (h.imm b e hb x), h.cell, h.shape, h.whole⟩
/-- Where all blocks but those of S are as they were. -/
theorem Kp.evo {S : List Nat} {w w' : World} {I I' : Nat → Nat → Prop} (k : Kp S w w') (hS : ∀ b e, b < w.heap.size → I b e → b ∉ S) (hI : ∀ b e, b < w.heap.size → I b e → I' b e) : Evo w I w' I' :=
  ⟨k.os, k.tape, k.output, k.size, k.drawn, hI, fun b e hb hi o _ => World.cell?_of_block (k.block b hb (hS b e hb hi)),
    fun b e hb hi cur t f hc => ⟨cur, (k.block b hb (hS b e hb hi)).trans hc, rfl⟩, fun b hb hi => k.block b hb (hS b 0 hb (hi 0))⟩

theorem CellsAt.evo {w w' : World} {I I' : Nat → Nat → Prop} (h : Evo w I w' I') {b o e : Nat} {us : List Value} (hc : CellsAt w b o us) (hb : b < w.heap.size) (hi : I b e) (he : o + us.length ≤ e) : CellsAt w' b o us := by
  intro j v hj
  have hlt : j < us.length := (List.getElem?_eq_some_iff.1 hj).1
  rw [h.cell b e hb hi (o + j) (by omega)]
  exact hc j v hj

theorem TagOk.evo {w w' : World} {I I' : Nat → Nat → Prop} (h : Evo w I w' I') {a : Option Addr} {c : Nat} {es : List D} {t : Tag} (ht : TagOk w a c es t) (ha : ∀ b o, a = some ⟨b, o, none⟩ → b < w.heap.size ∧ ∃ e, I b e) : TagOk w' a c es t := by
  cases t with
  | none => trivial
  | nil => exact ht
  | full => exact ht
  | own b t z =>
    obtain ⟨h1, ⟨cur, h2, h3⟩, h4, h5⟩ := ht
    obtain ⟨hb, e, hi⟩ := ha b 0 h1
    obtain ⟨c1, h6, h7⟩ := h.shape b e hb hi cur t _ h2
    exact ⟨h1, ⟨c1, h6, h7.trans h3⟩, h4, h5⟩

theorem D.sizes_app : ∀ (a b : List D), D.sizes (a ++ b) = D.sizes a + D.sizes b
  | [], b => by simp [D.sizes]
  | x :: a, b => by simp only [List.cons_append, D.sizes, D.sizes_app a b]; omega

mutual
theorem RV.evo {w w' : World} {I I' : Nat → Nat → Prop} (h : Evo w I w' I') : ∀ (d : D) (us : List Value), RV w I d us → RV w' I' d us
  | .v x, us, k => by unfold RV at *; exact k
  | .dg d, us, k => by unfold RV at *; exact k
  | .agg ds, us, k => by unfold RV at *; exact RVs.evo h ds us k
  | .sl t es, us, k => by
    unfold RV at *
    obtain ⟨a, n, c, rfl, h1, h2, h3, h4⟩ := k
    refine ⟨a, n, c, rfl, h1, h2, ?_, ?_⟩
    · refine h3.evo h (fun b o ha => ?_)
      rcases h4 with ⟨rfl, _⟩ | ⟨b', o', rfl, hb, hi, _⟩
      · cases ha
      · simp only [Option.some.injEq, Addr.mk.injEq, and_true] at ha
        obtain ⟨rfl, rfl⟩ := ha
        exact ⟨hb, _, hi⟩
    · rcases h4 with h4 | ⟨b', o', rfl, hb, hi, hz, hr⟩
      · exact .inl h4
      · exact .inr ⟨b', o', rfl, Nat.lt_of_lt_of_le hb h.size, h.imm _ _ hb hi, hz, REs.evo h b' (o' + D.sizes es) hb hi o' es (Nat.le_refl _) hr⟩
  | .pt d, us, k => by
    unfold RV at *
    obtain ⟨b, o, ys, rfl, hb, hi, hd, hc⟩ := k
    exact ⟨b, o, ys, rfl, Nat.lt_of_lt_of_le hb h.size, h.imm _ _ hb hi, RV.evo h d ys hd, hc.evo h hb hi (by rw [RV.len d ys hd]; exact Nat.le_refl _)⟩
  | .tup _, us, k => by unfold RV at k; exact k.elim
  | .any, us, k => by unfold RV at k; exact k.elim
theorem RVs.evo {w w' : World} {I I' : Nat → Nat → Prop} (h : Evo w I w' I') : ∀ (ds : List D) (us : List Value), RVs w I ds us → RVs w' I' ds us
  | [], us, k => by unfold RVs at *; exact k
  | d :: ds, us, k => by
    unfold RVs at *
    obtain ⟨xs, ys, rfl, h1, h2⟩ := k
    exact ⟨xs, ys, rfl, RV.evo h d xs h1, RVs.evo h ds ys h2⟩
theorem REs.evo {w w' : World} {I I' : Nat → Nat → Prop} (h : Evo w I w' I') (b e : Nat) (hb : b < w.heap.size) (hi : I b e) : ∀ (o : Nat) (es : List D), o + D.sizes es ≤ e → REs w I b o es → REs w' I' b o es
  | _, [], _, _ => by unfold REs; trivial
  | o, d :: ds, he, k => by
    unfold REs at *
    obtain ⟨us, h1, h2, h3⟩ := k
    unfold D.sizes at he
    exact ⟨us, RV.evo h d us h1, h2.evo h hb hi (by rw [RV.len d us h1]; omega), REs.evo h b e hb hi (o + d.size) ds (by omega) h3⟩
end

mutual
/-- A value stands for d. -/
def RVal (w : World) (I : Nat → Nat → Prop) : D → Value → Prop
  | .agg ds, x => ∃ us : List Value, x = .agg us.toArray ∧ RVs w I ds us
  | .dg d, x => x = .agg d.c
  | .tup ds, x => ∃ xs : List Value, x = .tuple xs.toArray ∧ RVals w I ds xs
  | .any, _ => True
  | .v y, x => x = y ∧ y.oneCell' = true
  | .sl t es, x => RV w I (.sl t es) [x]
  | .pt d, x => RV w I (.pt d) [x]
def RVals (w : World) (I : Nat → Nat → Prop) : List D → List Value → Prop
  | [], xs => xs = []
  | d :: ds, xs => ∃ y ys, xs = y :: ys ∧ RVal w I d y ∧ RVals w I ds ys
end

mutual
theorem RVal.evo {w w' : World} {I I' : Nat → Nat → Prop} (h : Evo w I w' I') : ∀ (d : D) (x : Value), RVal w I d x → RVal w' I' d x
  | .agg ds, x, k => by unfold RVal at *; obtain ⟨us, rfl, k⟩ := k; exact ⟨us, rfl, k.evo h ds us⟩
  | .dg d, x, k => by unfold RVal at *; exact k
  | .tup ds, x, k => by unfold RVal at *; obtain ⟨xs, rfl, k⟩ := k; exact ⟨xs, rfl, RVals.evo h ds xs k⟩
  | .any, x, k => by unfold RVal; trivial
  | .v y, x, k => by unfold RVal at *; exact k
  | .sl t es, x, k => by unfold RVal at *; exact k.evo h _ _
  | .pt d, x, k => by unfold RVal at *; exact k.evo h _ _
theorem RVals.evo {w w' : World} {I I' : Nat → Nat → Prop} (h : Evo w I w' I') : ∀ (ds : List D) (xs : List Value), RVals w I ds xs → RVals w' I' ds xs
  | [], xs, k => by unfold RVals at *; exact k
  | d :: ds, xs, k => by unfold RVals at *; obtain ⟨y, ys, rfl, h1, h2⟩ := k; exact ⟨y, ys, rfl, RVal.evo h d y h1, RVals.evo h ds ys h2⟩
end

/-- What lies in a block that may be written: all that is known, or that and so many cells behind it. -/
def D.front : D → D × Nat
  | .tup [d, .v (.int .i64 k)] => (d, k.toNat)
  | d => (d, 0)
def RVT (w : World) (I : Nat → Nat → Prop) (d : D) (us : List Value) : Prop := ∃ xs ys, us = xs ++ ys ∧ RV w I d.front.1 xs ∧ ys.length = d.front.2
theorem D.front_plain {d : D} (h : ∀ l, d ≠ .tup l) : d.front = (d, 0) := by
  cases d <;> first | rfl | exact absurd rfl (h _)
theorem RVT.of {w : World} {I : Nat → Nat → Prop} {d : D} {us : List Value} (h : RV w I d us) : RVT w I d us := by
  have hd : d.front = (d, 0) := D.front_plain (fun l e => by subst e; unfold RV at h; exact h)
  exact ⟨us, [], by simp, by rw [hd]; exact h, by rw [hd]; rfl⟩
theorem RVT.plain {w : World} {I : Nat → Nat → Prop} {d : D} {us : List Value} (h : RVT w I d us) (hd : ∀ l, d ≠ .tup l) : RV w I d us := by
  obtain ⟨xs, ys, rfl, h1, h2⟩ := h
  rw [D.front_plain hd] at h1 h2
  have : ys = [] := List.eq_nil_of_length_eq_zero h2
  subst this
  simpa using h1
theorem RVT.evo {w w' : World} {I I' : Nat → Nat → Prop} (h : Evo w I w' I') : ∀ (d : D) (us : List Value), RVT w I d us → RVT w' I' d us := fun d us ⟨xs, ys, e, h1, h2⟩ => ⟨xs, ys, e, RV.evo h _ _ h1, h2⟩

/-- What can lie in memory. -/
def D.lies : D → Bool
  | .tup _ => false
  | .any => false
  | _ => true

theorem RVal.cells {w : World} {I : Nat → Nat → Prop} {d : D} {x : Value} (h : RVal w I d x) (hl : d.lies = true) : RV w I d x.cells.toList := by
  cases d with
  | v y => unfold RVal at h; obtain ⟨rfl, h1⟩ := h; unfold RV; cases x <;> simp_all [Value.cells, Value.oneCell']
  | dg d => unfold RVal at h; subst h; unfold RV; simp [Value.cells, Dg.c]
  | agg ds => unfold RVal at h; obtain ⟨us, rfl, h1⟩ := h; unfold RV; simpa [Value.cells] using h1
  | sl t es =>
    unfold RVal at h
    have h0 := h
    unfold RV at h0; obtain ⟨a, n, c, e, _⟩ := h0; simp only [List.cons.injEq, and_true] at e; subst e; exact h
  | pt d =>
    unfold RVal at h
    have h0 := h
    unfold RV at h0; obtain ⟨b, o, ys, e, _⟩ := h0; simp only [List.cons.injEq, and_true] at e; subst e; exact h
  | tup ds => cases hl
  | any => cases hl

/-- Is it a value of many cells (a struct, an array)? -/
def D.isAgg : D → Bool
  | .agg _ => true
  | .dg _ => true
  | _ => false

/-- What is loaded from cells. -/
def ofCells (g : Bool) (us : List Value) : Value := if g then .agg us.toArray else us.headD undef
theorem RV.loaded {w : World} {I : Nat → Nat → Prop} {d : D} {us : List Value} (h : RV w I d us) : RVal w I d (ofCells d.isAgg us) := by
  cases d with
  | v y => unfold RV at h; obtain ⟨rfl, h1⟩ := h; unfold RVal; exact ⟨rfl, h1⟩
  | dg d => unfold RV at h; subst h; unfold RVal; rfl
  | agg ds => unfold RV at h; unfold RVal; exact ⟨us, rfl, h⟩
  | sl t es => have h0 := h; unfold RV at h0; obtain ⟨a, n, c, rfl, _⟩ := h0; unfold RVal; exact h
  | pt d => have h0 := h; unfold RV at h0; obtain ⟨b, o, ys, rfl, _⟩ := h0; unfold RVal; exact h
  | tup ds => unfold RV at h; exact h.elim
  | any => unfold RV at h; exact h.elim

end Go.Proofs.YtemicgccgcmmbaaGreat

/- Values without addresses: blocks that may be written, frames, and what an operation makes of them. -/
namespace Go.Proofs.YtemicgccgcmmbaaGreat
set_option linter.unusedVariables false
set_option linter.unusedSimpArgs false
open Go Go.RowKit

/-- Blocks that may be written; rows that may be appended to. -/
structure Sto where
  bk : List (Nat × TypeId × D)
  ow : List (Nat × Nat)

def Sto.I (S : Sto) (b e : Nat) : Prop := b ∉ S.bk.map (·.1) ∧ ∀ L, (b, L) ∈ S.ow → e ≤ L

structure StAt (w : World) (S : Sto) : Prop where
  nd : (S.bk.map (·.1) ++ S.ow.map (·.1)).Nodup
  mutAt : ∀ b t d, (b, t, d) ∈ S.bk → ∃ us : List Value, Blk w b t us.toArray ∧ RVT w S.I d us
  ownAt : ∀ b L, (b, L) ∈ S.ow → ∃ t cur, w.heap[b]? = some (.cells cur t (0, 0)) ∧ L ≤ cur.size

/-- Fewer blocks are looked at. -/
structure Sto.Sub (S' S : Sto) : Prop where
  m : List.Sublist S'.bk S.bk
  o : List.Sublist S'.ow S.ow
theorem Sto.Sub.refl (S : Sto) : S.Sub S := ⟨List.Sublist.refl _, List.Sublist.refl _⟩
theorem Sto.Sub.I {S' S : Sto} (h : S'.Sub S) {b e : Nat} (hi : S.I b e) : S'.I b e :=
  ⟨fun hm => hi.1 ((h.m.map (·.1)).subset hm), fun L hL => hi.2 L (h.o.subset hL)⟩
theorem Evo.imp {w : World} {I I' : Nat → Nat → Prop} (h : ∀ b e, I b e → I' b e) : Evo w I w I' := (Evo.refl w I).mono (fun b e _ => h b e)
theorem StAt.sub {w : World} {S S' : Sto} (h : StAt w S) (s : S'.Sub S) : StAt w S' :=
  ⟨((s.m.map _).append (s.o.map _)).nodup h.nd, fun b t d hm => by
    obtain ⟨us, h1, h2⟩ := h.mutAt b t d (s.m.subset hm)
    exact ⟨us, h1, h2.evo (Evo.imp (fun _ _ => s.I)) _ _⟩, fun b L hm => h.ownAt b L (s.o.subset hm)⟩

def getM : List (Nat × TypeId × D) → Nat → Option (TypeId × D)
  | [], _ => none
  | (b', t, d) :: l, b => if b = b' then some (t, d) else getM l b
def setM : List (Nat × TypeId × D) → Nat → D → List (Nat × TypeId × D)
  | [], _, _ => []
  | (b', t, d) :: l, b, x => if b = b' then (b', t, x) :: l else (b', t, d) :: setM l b x
theorem getM_mem : ∀ {l : List (Nat × TypeId × D)} {b : Nat} {t : TypeId} {d : D}, getM l b = some (t, d) → (b, t, d) ∈ l
  | (b', t', d') :: l, b, t, d, h => by
    unfold getM at h
    split at h
    · rename_i e; simp only [Option.some.injEq, Prod.mk.injEq] at h; obtain ⟨rfl, rfl⟩ := h; subst e; exact List.mem_cons_self
    · exact List.mem_cons_of_mem _ (getM_mem h)
theorem setM_keys : ∀ (l : List (Nat × TypeId × D)) (b : Nat) (x : D), (setM l b x).map (·.1) = l.map (·.1)
  | [], _, _ => rfl
  | (b', t, d) :: l, b, x => by unfold setM; split <;> simp [setM_keys l b x]
theorem setM_mem : ∀ {l : List (Nat × TypeId × D)} {b : Nat} {x : D} {t0 : TypeId} {d0 : D}, (l.map (·.1)).Nodup → getM l b = some (t0, d0) → ∀ {c : Nat} {t : TypeId} {d : D}, (c, t, d) ∈ setM l b x → (c = b ∧ t = t0 ∧ d = x) ∨ (c ≠ b ∧ (c, t, d) ∈ l)
  | (b', t', d') :: l, b, x, t0, d0, hn, hg, c, t, d, h => by
    simp only [List.map_cons, List.nodup_cons] at hn
    unfold getM at hg
    unfold setM at h
    split at h
    · rename_i e
      rw [if_pos e] at hg
      simp only [Option.some.injEq, Prod.mk.injEq] at hg
      obtain ⟨rfl, rfl⟩ := hg
      subst e
      rcases List.mem_cons.1 h with h | h
      · simp only [Prod.mk.injEq] at h; obtain ⟨rfl, rfl, rfl⟩ := h; exact .inl ⟨rfl, rfl, rfl⟩
      · exact .inr ⟨fun e => hn.1 (List.mem_map.2 ⟨_, h, e⟩), List.mem_cons_of_mem _ h⟩
    · rename_i e
      rw [if_neg e] at hg
      rcases List.mem_cons.1 h with h | h
      · simp only [Prod.mk.injEq] at h; obtain ⟨rfl, rfl, rfl⟩ := h; exact .inr ⟨fun e' => e e'.symm, List.mem_cons_self⟩
      · rcases setM_mem hn.2 hg h with h | ⟨h1, h2⟩
        · exact .inl h
        · exact .inr ⟨h1, List.mem_cons_of_mem _ h2⟩

mutual
/-- The part of d at cell o, of so many cells; g: of many cells. -/
def subD : D → Nat → Nat → Bool → Option D
  | .agg ds, o, n, g => if o = 0 ∧ D.sizes ds = n ∧ g = true then some (.agg ds) else subDs ds o n g
  | .dg d, o, n, g => if o = 0 ∧ n = 32 ∧ g = true then some (.dg d) else if n = 1 ∧ g = false then (d.l[o]?).map (fun b => .v (.int .u8 b.toNat)) else none
  | .tup _, _, _, _ => none
  | d, o, n, g => if o = 0 ∧ d.size = n ∧ d.isAgg = g then some d else none
def subDs : List D → Nat → Nat → Bool → Option D
  | [], _, _, _ => none
  | d :: ds, o, n, g => if o < d.size then subD d o n g else subDs ds (o - d.size) n g
end
def Dg.setB (d : Dg) (o k : Nat) : Dg := ⟨d.l.set o (UInt8.ofNat k), by simp [d.h]⟩
mutual
/-- d with x in the place of its part at cell o. -/
def putD : D → Nat → D → Option D
  | .agg ds, o, x => if o = 0 ∧ D.sizes ds = x.size ∧ x.isAgg = true then some x else (putDs ds o x).map .agg
  | .dg d, o, x => if o = 0 ∧ x.size = 32 ∧ x.isAgg = true then some x else
    match x with
    | .v (.int .u8 n) => if o < 32 ∧ 0 ≤ n ∧ n < 256 then some (.dg (d.setB o n.toNat)) else none
    | _ => none
  | .tup _, _, _ => none
  | d, o, x => if o = 0 ∧ d.size = x.size ∧ d.isAgg = x.isAgg then some x else none
def putDs : List D → Nat → D → Option (List D)
  | [], _, _ => none
  | d :: ds, o, x => if o < d.size then (putD d o x).map (· :: ds) else (putDs ds (o - d.size) x).map (d :: ·)
end

section
variable {w : World} {I : Nat → Nat → Prop}
theorem subD_leaf {d : D} (hl : ∀ ds, d ≠ .agg ds) (hg : ∀ x, d ≠ .dg x) {o n : Nat} {g : Bool} {e : D} (h : subD d o n g = some e) : o = 0 ∧ d.size = n ∧ d.isAgg = g ∧ d = e := by
  cases d <;> first | exact absurd rfl (hl _) | exact absurd rfl (hg _) | (unfold subD at h; cases h; done) | (unfold subD at h; split at h; (rename_i h1; simp only [Option.some.injEq] at h; exact ⟨h1.1, h1.2.1, h1.2.2, h⟩); cases h)
theorem putD_leaf {d : D} (hl : ∀ ds, d ≠ .agg ds) (hg : ∀ x, d ≠ .dg x) {o : Nat} {x e : D} (h : putD d o x = some e) : o = 0 ∧ d.size = x.size ∧ d.isAgg = x.isAgg ∧ x = e := by
  cases d <;> first | exact absurd rfl (hl _) | exact absurd rfl (hg _) | (unfold putD at h; cases h; done) | (unfold putD at h; split at h; (rename_i h1; simp only [Option.some.injEq] at h; exact ⟨h1.1, h1.2.1, h1.2.2, h⟩); cases h)
theorem subD_tup {d e : D} {o n : Nat} {g : Bool} (h : subD d o n g = some e) : ∀ l, d ≠ .tup l := fun l hd => by subst hd; unfold subD at h; cases h
theorem putD_tup {d x e : D} {o : Nat} (h : putD d o x = some e) : ∀ l, d ≠ .tup l := fun l hd => by subst hd; unfold putD at h; cases h
mutual
theorem subD_ok : ∀ (d : D) (us : List Value) (o n : Nat) (g : Bool) (e : D), RV w I d us → subD d o n g = some e → ∃ xs ys zs, us = xs ++ ys ++ zs ∧ xs.length = o ∧ RV w I e ys ∧ e.size = n ∧ e.isAgg = g
  | .agg ds, us, o, n, g, e, h, hs => by
    unfold subD at hs
    split at hs
    · rename_i h1
      obtain ⟨rfl, h2, rfl⟩ := h1
      simp only [Option.some.injEq] at hs
      subst hs
      exact ⟨[], us, [], by simp, rfl, h, h2, rfl⟩
    · unfold RV at h
      exact subDs_ok ds us o n g e h hs
  | .v x, us, o, n, g, e, h, hs => by obtain ⟨rfl, h2, h3, rfl⟩ := subD_leaf (by simp) (by simp) hs; exact ⟨[], us, [], by simp, rfl, h, h2, h3⟩
  | .dg x, us, o, n, g, e, h, hs => by
    unfold subD at hs
    split at hs
    · rename_i h1
      obtain ⟨rfl, rfl, rfl⟩ := h1
      simp only [Option.some.injEq] at hs
      subst hs
      exact ⟨[], us, [], by simp, rfl, h, rfl, rfl⟩
    · split at hs
      · rename_i h1
        obtain ⟨rfl, rfl⟩ := h1
        obtain ⟨u, hu, rfl⟩ := Option.map_eq_some_iff.1 hs
        unfold RV at h
        subst h
        have hlt : o < x.l.length := (List.getElem?_eq_some_iff.1 hu).1
        refine ⟨bC (x.l.take o), [.int .u8 u.toNat], bC (x.l.drop (o + 1)), ?_, by rw [bC_length, List.length_take]; omega, by unfold RV; exact ⟨rfl, rfl⟩, rfl, rfl⟩
        have e1 : x.l = x.l.take o ++ [u] ++ x.l.drop (o + 1) := by
          rw [List.append_assoc, List.singleton_append, ← (List.getElem?_eq_some_iff.1 hu).2, List.getElem_cons_drop, List.take_append_drop]
        have e2 := congrArg bC e1
        rw [bC_app, bC_app] at e2
        exact e2
      · cases hs
  | .sl _ x, us, o, n, g, e, h, hs => by obtain ⟨rfl, h2, h3, rfl⟩ := subD_leaf (by simp) (by simp) hs; exact ⟨[], us, [], by simp, rfl, h, h2, h3⟩
  | .pt x, us, o, n, g, e, h, hs => by obtain ⟨rfl, h2, h3, rfl⟩ := subD_leaf (by simp) (by simp) hs; exact ⟨[], us, [], by simp, rfl, h, h2, h3⟩
  | .tup x, us, o, n, g, e, h, hs => by unfold RV at h; exact h.elim
  | .any, us, o, n, g, e, h, hs => by unfold RV at h; exact h.elim
theorem subDs_ok : ∀ (ds : List D) (us : List Value) (o n : Nat) (g : Bool) (e : D), RVs w I ds us → subDs ds o n g = some e → ∃ xs ys zs, us = xs ++ ys ++ zs ∧ xs.length = o ∧ RV w I e ys ∧ e.size = n ∧ e.isAgg = g
  | [], us, o, n, g, e, h, hs => by unfold subDs at hs; cases hs
  | d :: ds, us, o, n, g, e, h, hs => by
    unfold RVs at h
    obtain ⟨pp, qq, rfl, h1, h2⟩ := h
    unfold subDs at hs
    split at hs
    · obtain ⟨xs, ys, zs, rfl, h3, h4, h5⟩ := subD_ok d pp o n g e h1 hs
      exact ⟨xs, ys, zs ++ qq, by simp, h3, h4, h5⟩
    · rename_i hlt
      obtain ⟨xs, ys, zs, rfl, h3, h4, h5⟩ := subDs_ok ds qq (o - d.size) n g e h2 hs
      exact ⟨pp ++ xs, ys, zs, by simp, by rw [List.length_append, RV.len d pp h1, h3]; omega, h4, h5⟩
end
mutual
theorem putD_ok : ∀ (d : D) (us : List Value) (o : Nat) (x e : D) (ys : List Value), RV w I d us → putD d o x = some e → RV w I x ys → ∃ xs ms zs, us = xs ++ ms ++ zs ∧ xs.length = o ∧ ms.length = ys.length ∧ RV w I e (xs ++ ys ++ zs)
  | .agg ds, us, o, x, e, ys, h, hs, hx => by
    unfold putD at hs
    split at hs
    · rename_i h1
      obtain ⟨rfl, h2, _⟩ := h1
      simp only [Option.some.injEq] at hs
      subst hs
      refine ⟨[], us, [], by simp, rfl, ?_, by simpa using hx⟩
      rw [RV.len _ _ h, RV.len _ _ hx, ← h2]; rfl
    · unfold RV at h
      cases hp : putDs ds o x with
      | none => rw [hp] at hs; cases hs
      | some es =>
        rw [hp] at hs
        simp only [Option.map_some, Option.some.injEq] at hs
        subst hs
        obtain ⟨xs, ms, zs, h1, h2, h3, h4⟩ := putDs_ok ds us o x es ys h hp hx
        exact ⟨xs, ms, zs, h1, h2, h3, by unfold RV; exact h4⟩
  | .v x, us, o, y, e, ys, h, hs, hx => by obtain ⟨rfl, h2, h3, rfl⟩ := putD_leaf (by simp) (by simp) hs; exact ⟨[], us, [], by simp, rfl, by rw [RV.len _ _ h, RV.len _ _ hx, h2], by simpa using hx⟩
  | .dg x, us, o, y, e, ys, h, hs, hx => by
    unfold putD at hs
    split at hs
    · rename_i h1
      obtain ⟨rfl, h2, _⟩ := h1
      simp only [Option.some.injEq] at hs
      subst hs
      exact ⟨[], us, [], by simp, rfl, by rw [RV.len _ _ h, RV.len _ _ hx, h2]; rfl, by simpa using hx⟩
    · split at hs
      · rename_i n _
        split at hs
        · rename_i h1
          obtain ⟨h1, h2, h3⟩ := h1
          simp only [Option.some.injEq] at hs
          subst hs
          unfold RV at h hx
          subst h
          obtain ⟨rfl, -⟩ := hx
          have hlt : o < x.l.length := by rw [x.h]; exact h1
          refine ⟨bC (x.l.take o), [.int .u8 (x.l[o]).toNat], bC (x.l.drop (o + 1)), ?_, by rw [bC_length, List.length_take]; omega, rfl, ?_⟩
          · have e1 : x.l = x.l.take o ++ [x.l[o]] ++ x.l.drop (o + 1) := by
              rw [List.append_assoc, List.singleton_append, List.getElem_cons_drop, List.take_append_drop]
            have e2 := congrArg bC e1
            rw [bC_app, bC_app] at e2
            exact e2
          · unfold RV
            have e1 : (x.setB o n.toNat).l = x.l.take o ++ [UInt8.ofNat n.toNat] ++ x.l.drop (o + 1) := by
              show x.l.set o _ = _
              rw [List.set_eq_take_append_cons_drop, if_pos hlt]; simp
            rw [e1, bC_app, bC_app]
            congr 2
            simp only [bC, List.map_cons, List.map_nil, UInt8.toNat_ofNat']
            congr 2
            omega
        · cases hs
      · cases hs
  | .sl _ x, us, o, y, e, ys, h, hs, hx => by obtain ⟨rfl, h2, h3, rfl⟩ := putD_leaf (by simp) (by simp) hs; exact ⟨[], us, [], by simp, rfl, by rw [RV.len _ _ h, RV.len _ _ hx, h2], by simpa using hx⟩
  | .pt x, us, o, y, e, ys, h, hs, hx => by obtain ⟨rfl, h2, h3, rfl⟩ := putD_leaf (by simp) (by simp) hs; exact ⟨[], us, [], by simp, rfl, by rw [RV.len _ _ h, RV.len _ _ hx, h2], by simpa using hx⟩
  | .tup x, us, o, y, e, ys, h, hs, hx => by unfold RV at h; exact h.elim
  | .any, us, o, y, e, ys, h, hs, hx => by unfold RV at h; exact h.elim
theorem putDs_ok : ∀ (ds : List D) (us : List Value) (o : Nat) (x : D) (es : List D) (ys : List Value), RVs w I ds us → putDs ds o x = some es → RV w I x ys → ∃ xs ms zs, us = xs ++ ms ++ zs ∧ xs.length = o ∧ ms.length = ys.length ∧ RVs w I es (xs ++ ys ++ zs)
  | [], us, o, x, es, ys, h, hs, hx => by unfold putDs at hs; cases hs
  | d :: ds, us, o, x, es, ys, h, hs, hx => by
    unfold RVs at h
    obtain ⟨pp, qq, rfl, h1, h2⟩ := h
    unfold putDs at hs
    split at hs
    · cases hp : putD d o x with
      | none => rw [hp] at hs; cases hs
      | some e =>
        rw [hp] at hs
        simp only [Option.map_some, Option.some.injEq] at hs
        subst hs
        obtain ⟨xs, ms, zs, rfl, h3, h4, h5⟩ := putD_ok d pp o x e ys h1 hp hx
        exact ⟨xs, ms, zs ++ qq, by simp, h3, h4, by unfold RVs; exact ⟨xs ++ ys ++ zs, qq, by simp, h5, h2⟩⟩
    · rename_i hlt
      cases hp : putDs ds (o - d.size) x with
      | none => rw [hp] at hs; cases hs
      | some es' =>
        rw [hp] at hs
        simp only [Option.map_some, Option.some.injEq] at hs
        subst hs
        obtain ⟨xs, ms, zs, rfl, h3, h4, h5⟩ := putDs_ok ds qq (o - d.size) x es' ys h2 hp hx
        exact ⟨pp ++ xs, ms, zs, by simp, by rw [List.length_append, RV.len d pp h1, h3]; omega, h4, by unfold RVs; exact ⟨pp, xs ++ ys ++ zs, by simp, h1, h5⟩⟩
end
theorem RV.one {d : D} {us : List Value} (h : RV w I d us) : ∀ v ∈ us, v.oneCell' = true := by
  have key : (∀ (d : D) (us : List Value), RV w I d us → ∀ v ∈ us, v.oneCell' = true) := by
    apply D.rec (motive_1 := fun d => ∀ (us : List Value), RV w I d us → ∀ v ∈ us, v.oneCell' = true) (motive_2 := fun ds => ∀ (us : List Value), RVs w I ds us → ∀ v ∈ us, v.oneCell' = true)
    · intro x us h v hv; unfold RV at h; obtain ⟨rfl, h⟩ := h; simp at hv; subst hv; exact h
    · intro d us h v hv; unfold RV at h; subst h; exact bC_one _ v hv
    · intro ds ih us h; unfold RV at h; exact ih us h
    · intro t es _ us h v hv; unfold RV at h; obtain ⟨a, n, c, rfl, _⟩ := h; simp at hv; subst hv; rfl
    · intro d _ us h v hv; unfold RV at h; obtain ⟨b, o, ys, rfl, _⟩ := h; simp at hv; subst hv; rfl
    · intro ds _ us h; unfold RV at h; exact h.elim
    · intro us h; unfold RV at h; exact h.elim
    · intro us h v hv; unfold RVs at h; subst h; cases hv
    · intro d ds ih1 ih2 us h v hv
      unfold RVs at h
      obtain ⟨xs, ys, rfl, h1, h2⟩ := h
      rcases List.mem_append.1 hv with hv | hv
      · exact ih1 xs h1 v hv
      · exact ih2 ys h2 v hv
  exact key d us h
theorem REs.get {b : Nat} : ∀ (o : Nat) (es : List D) (z : Nat), (∀ e ∈ es, e.size = z) → REs w I b o es → ∀ (i : Nat) (e : D), es[i]? = some e → ∃ us, RV w I e us ∧ CellsAt w b (o + i * z) us
  | o, [], z, hz, h, i, e, hi => by simp at hi
  | o, d :: ds, z, hz, h, i, e, hi => by
    unfold REs at h
    obtain ⟨us, h1, h2, h3⟩ := h
    have hd : d.size = z := hz d List.mem_cons_self
    cases i with
    | zero => simp only [List.getElem?_cons_zero, Option.some.injEq] at hi; subst hi; exact ⟨us, h1, by simpa using h2⟩
    | succ i =>
      simp only [List.getElem?_cons_succ] at hi
      obtain ⟨ys, h4, h5⟩ := REs.get (o + d.size) ds z (fun e he => hz e (List.mem_cons_of_mem _ he)) h3 i e hi
      exact ⟨ys, h4, by rw [hd] at h5; rw [show o + (i + 1) * z = o + z + i * z by rw [Nat.add_mul]; omega]; exact h5⟩
theorem sizes_const : ∀ (es : List D) (z : Nat), (∀ e ∈ es, e.size = z) → D.sizes es = es.length * z
  | [], z, _ => by simp [D.sizes]
  | d :: ds, z, h => by
    unfold D.sizes
    rw [h d List.mem_cons_self, sizes_const ds z (fun e he => h e (List.mem_cons_of_mem _ he))]
    simp [Nat.add_mul, Nat.add_comm]
theorem REs.drop {b : Nat} : ∀ (k o : Nat) (es : List D) (z : Nat), (∀ e ∈ es, e.size = z) → k ≤ es.length → REs w I b o es → REs w I b (o + k * z) (es.drop k)
  | 0, o, es, z, hz, hk, h => by simpa using h
  | k + 1, o, [], z, hz, hk, h => by simp at hk
  | k + 1, o, d :: ds, z, hz, hk, h => by
    unfold REs at h
    obtain ⟨us, h1, h2, h3⟩ := h
    have hd : d.size = z := hz d List.mem_cons_self
    have := REs.drop k (o + d.size) ds z (fun e he => hz e (List.mem_cons_of_mem _ he)) (by simpa using hk) h3
    rw [hd] at this
    simpa [show o + (k + 1) * z = o + z + k * z by rw [Nat.add_mul]; omega] using this
theorem REs.take {b : Nat} : ∀ (k o : Nat) (es : List D), REs w I b o es → REs w I b o (es.take k)
  | 0, o, es, h => by simp [REs]
  | k + 1, o, [], h => by simp [REs]
  | k + 1, o, d :: ds, h => by
    unfold REs at h
    obtain ⟨us, h1, h2, h3⟩ := h
    simp only [List.take_succ_cons]
    unfold REs
    exact ⟨us, h1, h2, REs.take k _ ds h3⟩
end

end Go.Proofs.YtemicgccgcmmbaaGreat

/- Values without addresses: types, operands, and what an operation makes of a frame. -/
namespace Go.Proofs.YtemicgccgcmmbaaGreat
set_option linter.unusedVariables false
set_option linter.unusedSimpArgs false
open Go Go.RowKit

theorem RV.size1 {w : World} {I : Nat → Nat → Prop} {d : D} {us : List Value} (h : RV w I d us) (hg : d.isAgg = false) : d.size = 1 := by
  cases d with
  | v x => rfl
  | dg d => cases hg
  | agg ds => cases hg
  | sl t es => rfl
  | pt d => rfl
  | tup ds => unfold RV at h; exact h.elim
  | any => unfold RV at h; exact h.elim

/-- What must be known of a type. -/
inductive Ty where
  | int (k : IntKind)
  | bool
  | str
  | slice (e : TypeId)
  | struct (zs : List D)
  | dig
  | ptr
  | fn
  | iface
  | other

def Ty.zero : Ty → D
  | .int k => .v (.int k 0)
  | .bool => .v (.bool false)
  | .str => .v (.string ⟨#[]⟩)
  | .slice _ => .sl .nil []
  | .struct zs => .agg zs
  | .dig => .dg Dg.zero
  | .ptr => .v (.pointer Option.none)
  | .fn => .v .nilFunc
  | .iface => .v .nilIface
  | .other => .any
def Ty.agg : Ty → Bool
  | .struct _ => true
  | .dig => true
  | _ => false

def aggDesc : TypeDesc → Bool
  | .struct _ => true
  | .array _ _ => true
  | _ => false

/-- The model's own words for it. -/
def Ty.isDesc (P : Program) : Ty → TypeDesc → Prop
  | .int k, d => d = .int k
  | .bool, d => d = .bool
  | .str, d => d = .string
  | .slice e, d => d = .slice e
  | .struct zs, d => ∃ F, d = .struct F ∧ F.size = zs.length ∧ ∀ k f, F[k]? = some f → ∃ z j dd, zs[k]? = some z ∧ f.offset = D.sizes (zs.take k) ∧ P.info? f.type = some j ∧ j.size = z.size ∧ j.size ≠ 0 ∧ P.underlying f.type = some dd ∧ aggDesc dd = z.isAgg
  | .dig, d => ∃ e, d = .array 32 e ∧ P.underlying e = some (.int .u8) ∧ (P.info? e).map (·.size) = some 1
  | .ptr, d => ∃ e, d = .pointer e
  | .fn, d => ∃ a b c, d = .func a b c
  | .iface, d => ∃ m, d = .interface m
  | .other, _ => True

structure TyOk (P : Program) (t : TypeId) (ty : Ty) : Prop where
  info : ∃ i z, P.info? t = some i ∧ i.size = ty.zero.size ∧ i.zero = some z ∧ ∀ w I, RVal w I ty.zero z
  desc : ∃ d, P.underlying t = some d ∧ ty.isDesc P d

/-- All types that are known. -/
def TysOk (P : Program) (T : TypeId → Ty) : Prop := ∀ t, T t ≠ .other → TyOk P t (T t)

section
variable {P : Program} {T : TypeId → Ty} {t : TypeId} {w : World} {I : Nat → Nat → Prop}
theorem TyOk.size {ty : Ty} (h : TyOk P t ty) : (P.info? t).map (·.size) = some ty.zero.size := by
  obtain ⟨i, z, h1, h2, _⟩ := h.info
  rw [h1, Option.map_some, h2]
theorem TyOk.run_size {ty : Ty} (h : TyOk P t ty) (w : World) : (sizeOf t).run P w = .ok ty.zero.size w := by
  obtain ⟨i, z, h1, h2, _⟩ := h.info
  simp [sizeOf, typeInfo, h1, h2]
theorem run_isAgg {d : TypeDesc} (h : P.underlying t = some d) (w : World) : (isAgg t).run P w = .ok (aggDesc d) w := by
  unfold isAgg
  rw [Sem.run_bind, run_underlying h]
  cases d <;> rfl
theorem TyOk.run_agg {ty : Ty} (h : TyOk P t ty) (ho : ty ≠ .other) (w : World) : (isAgg t).run P w = .ok ty.agg w := by
  obtain ⟨d, h1, h2⟩ := h.desc
  rw [run_isAgg h1]
  cases ty <;> simp only [Ty.isDesc] at h2 <;> first | (obtain ⟨_, rfl, _⟩ := h2; rfl) | (obtain ⟨_, rfl⟩ := h2; rfl) | (obtain ⟨_, _, _, rfl⟩ := h2; rfl) | (subst h2; rfl) | exact absurd rfl ho
theorem TyOk.run_zero {ty : Ty} (h : TyOk P t ty) (w : World) : ∃ z, (zeroValue t).run P w = .ok z w ∧ ∀ w I, RVal w I ty.zero z := by
  obtain ⟨i, z, h1, h2, h3, h4⟩ := h.info
  exact ⟨z, by simp [zeroValue, typeInfo, h1, h3], h4⟩

theorem run_load_cells (b o : Nat) (us : List Value) (g : Bool) (hg : (isAgg t).run P w = .ok g w) (hs : (sizeOf t).run P w = .ok us.length w) (h1 : g = false → us.length = 1) (hc : CellsAt w b o us) :
    (loadVar t ⟨b, o, none⟩).run P w = .ok (ofCells g us) w := by
  have hadd : ∀ j, (⟨b, o, none⟩ : Addr).add j = ⟨b, o + j, none⟩ := fun j => by unfold Addr.add; split <;> simp_all
  unfold loadVar
  rw [Sem.run_bind, hg, Result.andThen_ok]
  cases g with
  | true =>
    have hl := run_loadCells_list (P := P) w ⟨b, o, none⟩ us (fun j v hv => by rw [hadd]; exact hc j v hv)
    simp only [if_true, Sem.run_bind, hs, Result.andThen_ok, hl]
    simp [ofCells]
  | false =>
    have h2 := h1 rfl
    match us, h2 with
    | [u], _ =>
      have := hc 0 u rfl
      simp only [Nat.add_zero] at this
      simp [ofCells, run_load, this]

theorem run_store_blk (b o : Nat) (tb : TypeId) (cs : Array Value) (x : Value) (hb : Blk w b tb cs) (hs : (sizeOf t).run P w = .ok x.cells.size w) (h1 : ∀ v ∈ x.cells.toList, v.oneCell' = true) (hle : o + x.cells.size ≤ cs.size) :
    (storeVar t ⟨b, o, none⟩ x).run P w = .ok () (w.setRow b (spl cs o x.cells)) := by
  have hst := run_storeCells_at P b o tb x.cells.toList 0 cs w hb (by simpa using hle) h1
  simp only [Nat.add_zero, Array.length_toList] at hst
  simp [storeVar, Sem.run_bind, hs, hst, spl]
end

/-- A constant. -/
def dOf : Value → D
  | .slice a n c => if a = Option.none ∧ n = 0 ∧ c = 0 then .sl .nil [] else .v (.slice a n c)
  | .agg _ => .any
  | .tuple vs => if vs.size = 0 then .tup [] else .any
  | x => .v x

def evalO (A : List D) : Operand → D
  | .tmp t => A.getD t .any
  | .const x => dOf x
  | .global g => .v (.pointer (some ⟨g, 0, Option.none⟩))
  | .func f => .v (.func (.func f) #[] #[])

structure ActAt (w : World) (I : Nat → Nat → Prop) (A : List D) (a : Act) : Prop where
  size : A.length ≤ a.tmps.size
  val : ∀ i d, A[i]? = some d → RVal w I d (a.tmps.getD i undef)

section
variable {P : Program} {T : TypeId → Ty} {w : World} {I : Nat → Nat → Prop} {A : List D} {a : Act}
theorem RVal.any {x : Value} : RVal w I .any x := by unfold RVal; trivial
theorem RVal.vv {x : Value} (h : x.oneCell' = true) : RVal w I (.v x) x := by unfold RVal; exact ⟨rfl, h⟩
theorem RVal.nil {x : Value} : RVal w I (.sl .nil []) (.slice Option.none 0 0) := by
  unfold RVal RV; exact ⟨Option.none, 0, 0, rfl, rfl, Nat.le_refl _, rfl, .inl ⟨rfl, rfl, rfl⟩⟩
theorem RVal.undef : RVal w I (.tup []) Go.undef := by unfold RVal; exact ⟨[], rfl, by unfold RVals; rfl⟩
theorem dOf_ok (x : Value) : RVal w I (dOf x) x := by
  cases x with
  | slice a n c =>
    show RVal w I (if a = Option.none ∧ n = 0 ∧ c = 0 then .sl .nil [] else .v (.slice a n c)) _
    split
    · rename_i h
      obtain ⟨rfl, rfl, rfl⟩ := h
      exact RVal.nil (x := default)
    · exact RVal.vv rfl
  | agg cs => exact RVal.any
  | tuple vs =>
    show RVal w I (if vs.size = 0 then .tup [] else .any) _
    split
    · rename_i h
      have : vs = #[] := Array.eq_empty_of_size_eq_zero h
      subst this
      exact RVal.undef
    · exact RVal.any
  | _ => exact RVal.vv rfl
theorem evalO_ok (h : ActAt w I A a) (x : Operand) : RVal w I (evalO A x) (a.eval x) := by
  cases x with
  | tmp t =>
    show RVal w I (A.getD t .any) (a.tmps.getD t undef)
    cases hA : A[t]? with
    | none => rw [List.getD_eq_getElem?_getD, hA]; simp only [Option.getD_none]; unfold RVal; trivial
    | some d => rw [List.getD_eq_getElem?_getD, hA]; exact h.val t d hA
  | const x => exact dOf_ok x
  | global g => show RVal w I (.v _) _; unfold RVal; exact ⟨rfl, rfl⟩
  | func f => show RVal w I (.v _) _; unfold RVal; exact ⟨rfl, rfl⟩
theorem ActAt.evo {w' : World} {I' : Nat → Nat → Prop} (h : ActAt w I A a) (e : Evo w I w' I') : ActAt w' I' A a := ⟨h.size, fun i d hi => (h.val i d hi).evo e _ _⟩

def putA (A : List D) (dst : Option Tmp) (d : D) : List D :=
  match dst with
  | some t => A.set t d
  | Option.none => A
theorem ActAt.put (h : ActAt w I A a) (dst : Option Tmp) {d : D} {x : Value} (hx : RVal w I d x) : ActAt w I (putA A dst d) (a.put dst x) := by
  cases dst with
  | none => exact h
  | some t =>
    refine ⟨by simp [putA, Act.put]; exact h.size, fun i e hi => ?_⟩
    simp only [putA] at hi
    simp only [Act.put]
    rw [List.getElem?_set] at hi
    split at hi
    · rename_i hti
      subst hti
      split at hi
      · rename_i hlt
        simp only [Option.some.injEq] at hi
        subst hi
        have : t < a.tmps.size := Nat.lt_of_lt_of_le hlt h.size
        simpa [Array.getD, this] using hx
      · cases hi
    · rename_i hne
      have := h.val i e hi
      simpa [Array.getD_eq_getD_getElem?, Array.getElem?_setIfInBounds, hne] using this
end

/-- Do the guards let it run? -/
def wantedA (ops : Array Oper) (A : List D) (o : Oper) : Option Bool :=
  match o.guard with
  | Option.none => some true
  | some (j, want) =>
    match (ops[j]?).bind (·.dst) with
    | Option.none => some false
    | some t => match A[t]? with
      | some (.v (.bool b)) => some (b == want)
      | some (.tup []) => some false
      | _ => Option.none
theorem wantedA_ok {w : World} {I : Nat → Nat → Prop} {A : List D} {a : Act} (h : ActAt w I A a) {ops : Array Oper} {o : Oper} {r : Bool} (hr : wantedA ops A o = some r) : Region.wanted o (yielded ops a.tmps) = r := by
  unfold wantedA at hr
  unfold Region.wanted
  split at hr
  · rename_i hg; rw [hg]; simpa using hr
  · rename_i j want hg
    rw [hg]
    unfold yielded
    dsimp only
    split at hr
    · rename_i hd
      rw [hd]
      simp at hr ⊢; exact hr
    · rename_i t hd
      rw [hd]
      have hv : ∀ d, A[t]? = some d → ∃ x, a.tmps[t]? = some x ∧ RVal w I d x := fun d hA => by
        have hlt : t < a.tmps.size := Nat.lt_of_lt_of_le (List.getElem?_eq_some_iff.1 hA).1 h.size
        have := h.val t d hA
        simp only [Array.getD, hlt, dite_true] at this
        exact ⟨_, Array.getElem?_eq_getElem hlt, this⟩
      split at hr
      · rename_i b hA
        obtain ⟨x, h1, h2⟩ := hv _ hA
        unfold RVal at h2
        obtain ⟨rfl, _⟩ := h2
        simp only [Option.some.injEq] at hr
        simp [h1, ← hr]
      · rename_i hA
        obtain ⟨x, h1, h2⟩ := hv _ hA
        unfold RVal RVals at h2
        obtain ⟨xs, rfl, rfl⟩ := h2
        simp only [Option.some.injEq] at hr
        simp [h1, ← hr]
      · cases hr

end Go.Proofs.YtemicgccgcmmbaaGreat

/- Values without addresses: operations that leave memory alone. -/
namespace Go.Proofs.YtemicgccgcmmbaaGreat
set_option linter.unusedVariables false
set_option linter.unusedSimpArgs false
open Go Go.RowKit

/-- It yields a value that stands for d, and leaves the world alone. -/
def Yields (P : Program) (w : World) (I : Nat → Nat → Prop) (s : Sem Value) (d : D) : Prop := ∃ x, s.run P w = .ok x w ∧ RVal w I d x

def Ty.known : Ty → Bool
  | .other => false
  | _ => true
theorem Ty.known_ne {ty : Ty} (h : ty.known = true) : ty ≠ .other := by rintro rfl; cases h

def intV (op : BinOp) (k : IntKind) (a b : Int) : Option D :=
  match op with
  | .add => some (.v (.int k (k.wrap (a + b))))
  | .sub => some (.v (.int k (k.wrap (a - b))))
  | .mul => some (.v (.int k (k.wrap (a * b))))
  | .quo => if b = 0 then Option.none else some (.v (.int k (k.wrap (a.tdiv b))))
  | .rem => if b = 0 then Option.none else some (.v (.int k (a.tmod b)))
  | .eql => some (.v (.bool (a == b)))
  | .neq => some (.v (.bool (a != b)))
  | .lss => some (.v (.bool (decide (a < b))))
  | .leq => some (.v (.bool (decide (a ≤ b))))
  | .gtr => some (.v (.bool (decide (a > b))))
  | .geq => some (.v (.bool (decide (a ≥ b))))
  | _ => Option.none

def strV (op : BinOp) (a b : ByteArray) : Option D :=
  match op with
  | .add => if a.size + b.size ≤ 9223372036854775807 then some (.v (.string (a ++ b))) else Option.none
  | .eql => some (.v (.bool (a.toList == b.toList)))
  | .neq => some (.v (.bool (!(a.toList == b.toList))))
  | .lss => some (.v (.bool (Op.bytesLess a.toList b.toList)))
  | .leq => some (.v (.bool (Op.bytesLess a.toList b.toList || a.toList == b.toList)))
  | .gtr => some (.v (.bool (!(Op.bytesLess a.toList b.toList || a.toList == b.toList))))
  | .geq => some (.v (.bool (!(Op.bytesLess a.toList b.toList))))
  | _ => Option.none

/-- Are two values alike? -/
def eqV (ty : Ty) (x y : D) : Option Bool :=
  match ty, x, y with
  | .bool, .v (.bool a), .v (.bool b) => some (a == b)
  | .dig, .dg a, .dg b => some (decide (a = b))
  | .ptr, .v (.pointer Option.none), .v (.pointer b) => some b.isNone
  | .ptr, .v (.pointer (some _)), .v (.pointer Option.none) => some false
  | .ptr, .pt _, .v (.pointer Option.none) => some false
  | .ptr, .v (.pointer Option.none), .pt _ => some false
  | .iface, .v (.iface _ _), .v .nilIface => some false
  | .iface, .v .nilIface, .v (.iface _ _) => some false
  | .slice _, .sl .nil _, .sl .nil _ => some true
  | .slice _, .sl (.own _ _ _) _, .sl .nil _ => some false
  | _, _, _ => Option.none

def binV (T : TypeId → Ty) (op : BinOp) (t : TypeId) (x y : D) : Option D :=
  match op, x, y with
  | .shl, _, _ => Option.none
  | .shr, _, _ => Option.none
  | op, .v (.int k a), .v (.int k' b) => if k = k' then intV op k a b else Option.none
  | op, .v (.string a), .v (.string b) => strV op a b
  | .eql, x, y => (eqV (T t) x y).map fun b => .v (.bool b)
  | .neq, x, y => (eqV (T t) x y).map fun b => .v (.bool (!b))
  | _, _, _ => Option.none

section
variable {P : Program} {T : TypeId → Ty} {w : World} {I : Nat → Nat → Prop}

theorem intV_ok {op : BinOp} {k : IntKind} {a b : Int} {d : D} (h : intV op k a b = some d) {t : TypeId} (hs : op ≠ .shl ∧ op ≠ .shr) : Yields P w I (binOp op t (.int k a) (.int k b)) d := by
  cases op <;> simp only [intV, Option.some.injEq, reduceCtorEq] at h <;> first
    | (subst h; exact ⟨_, rfl, RVal.vv rfl⟩)
    | (split at h; cases h; rename_i hb; simp only [Option.some.injEq] at h; subst h; refine ⟨_, ?_, RVal.vv rfl⟩; simp [binOp, Op.intDiv, hb])
    | (subst h; refine ⟨_, ?_, RVal.vv rfl⟩; simp [binOp, Op.intArith, Op.intCmp]; done)

theorem strV_ok {op : BinOp} {a b : ByteArray} {d : D} (h : strV op a b = some d) {t : TypeId} : Yields P w I (binOp op t (.string a) (.string b)) d := by
  cases op <;> simp only [strV, Option.some.injEq, reduceCtorEq] at h <;> first
    | (subst h; exact ⟨_, rfl, RVal.vv rfl⟩)
    | (split at h
       · rename_i hb
         simp only [Option.some.injEq] at h
         subst h
         refine ⟨.string (a ++ b), ?_, RVal.vv rfl⟩
         have hn : ¬ ((a.size + b.size : Nat) : Int) > IntKind.i64.max := by
           have : IntKind.i64.max = 9223372036854775807 := by decide
           omega
         simp only [binOp, Op.stringOp, if_neg hn]
         rfl
       · cases h)

set_option maxHeartbeats 1000000 in
theorem eqV_ok (hT : TysOk P T) {t : TypeId} {x y : D} {r : Bool} (h : eqV (T t) x y = some r) {a b : Value} (ha : RVal w I x a) (hb : RVal w I y b) : (Op.equal t a b).run P w = .ok r w := by
  have hk : ∀ ty, T t = ty → ty ≠ .other → TyOk P t ty := fun ty e hne => e ▸ hT t (e ▸ hne)
  suffices key : ∀ n, (Op.equalIn (n + 2) t a b).run P w = .ok r w from key 9998
  intro n
  unfold eqV at h
  split at h
  · rename_i e
    obtain ⟨d, h1, h2⟩ := (hk _ e (by simp)).desc
    unfold RVal at ha hb
    obtain ⟨rfl, -⟩ := ha
    obtain ⟨rfl, -⟩ := hb
    simp only [Ty.isDesc] at h2
    subst h2
    simp only [Option.some.injEq] at h
    (rw [Op.equalIn, Sem.run_bind, run_underlying h1, Result.andThen_ok, ← h]; rfl)
  · rename_i e
    obtain ⟨d, h1, h2⟩ := (hk _ e (by simp)).desc
    unfold RVal at ha hb
    subst ha hb
    simp only [Ty.isDesc] at h2
    obtain ⟨e2, rfl, h3, h4⟩ := h2
    rename_i x y
    have := run_equalIn_u8 (P := P) w n t 32 e2 h1 h3 h4 x.l y.l x.h y.h
    simp only [Option.some.injEq] at h
    rw [← h, show (decide (x = y)) = (x.l == y.l) by rw [Bool.eq_iff_iff]; simp; exact ⟨fun h => by rw [h], Dg.ext'⟩]
    exact this
  all_goals first
    | (cases h; done)
    | skip
  all_goals
    rename_i e
    obtain ⟨d, h1, h2⟩ := (hk _ e (by simp)).desc
    simp only [Ty.isDesc] at h2
    simp only [Option.some.injEq, reduceCtorEq] at h
  · obtain ⟨e2, rfl⟩ := h2
    unfold RVal at ha hb
    obtain ⟨rfl, -⟩ := ha
    obtain ⟨rfl, -⟩ := hb
    (rw [Op.equalIn, Sem.run_bind, run_underlying h1, Result.andThen_ok, ← h]; rfl)
  · obtain ⟨e2, rfl⟩ := h2
    unfold RVal at ha hb
    obtain ⟨rfl, -⟩ := ha
    obtain ⟨rfl, -⟩ := hb
    (rw [Op.equalIn, Sem.run_bind, run_underlying h1, Result.andThen_ok, ← h]; rfl)
  · obtain ⟨e2, rfl⟩ := h2
    unfold RVal at ha hb
    obtain ⟨rfl, -⟩ := hb
    unfold RV at ha
    obtain ⟨b, o, ys, hx, -⟩ := ha
    simp only [List.cons.injEq, and_true] at hx
    subst hx
    (rw [Op.equalIn, Sem.run_bind, run_underlying h1, Result.andThen_ok, ← h]; rfl)
  · obtain ⟨e2, rfl⟩ := h2
    unfold RVal at ha hb
    obtain ⟨rfl, -⟩ := ha
    unfold RV at hb
    obtain ⟨b, o, ys, hx, -⟩ := hb
    simp only [List.cons.injEq, and_true] at hx
    subst hx
    (rw [Op.equalIn, Sem.run_bind, run_underlying h1, Result.andThen_ok, ← h]; rfl)
  · obtain ⟨e2, rfl⟩ := h2
    unfold RVal at ha hb
    obtain ⟨rfl, -⟩ := ha
    obtain ⟨rfl, -⟩ := hb
    (rw [Op.equalIn, Sem.run_bind, run_underlying h1, Result.andThen_ok, ← h]; rfl)
  · obtain ⟨e2, rfl⟩ := h2
    unfold RVal at ha hb
    obtain ⟨rfl, -⟩ := ha
    obtain ⟨rfl, -⟩ := hb
    (rw [Op.equalIn, Sem.run_bind, run_underlying h1, Result.andThen_ok, ← h]; rfl)
  · subst h2
    unfold RVal RV at ha hb
    obtain ⟨a1, n1, c1, hx, -, -, ht, -⟩ := ha
    obtain ⟨a2, n2, c2, hy, -, -, ht2, -⟩ := hb
    simp only [List.cons.injEq, and_true] at hx hy
    unfold TagOk at ht ht2
    subst hx hy ht ht2
    (rw [Op.equalIn, Sem.run_bind, run_underlying h1, Result.andThen_ok, ← h]; rfl)
  · subst h2
    unfold RVal RV at ha hb
    obtain ⟨a1, n1, c1, hx, -, -, ht, -⟩ := ha
    obtain ⟨a2, n2, c2, hy, -, -, ht2, -⟩ := hb
    simp only [List.cons.injEq, and_true] at hx hy
    unfold TagOk at ht ht2
    obtain ⟨ht, -⟩ := ht
    subst hx hy ht ht2
    (rw [Op.equalIn, Sem.run_bind, run_underlying h1, Result.andThen_ok, ← h]; rfl)
end

end Go.Proofs.YtemicgccgcmmbaaGreat

/- Values without addresses: structs are built, fields and elements are looked at. -/
namespace Go.Proofs.YtemicgccgcmmbaaGreat
set_option linter.unusedVariables false
set_option linter.unusedSimpArgs false
open Go Go.RowKit

theorem fold_set (off : Nat) : ∀ (l : List Value) (k : Nat) (cs : Array Value), off + k + l.length ≤ cs.size →
    ((l.zipIdx k).foldl (fun cs (x : Value × Nat) => cs.setIfInBounds (off + x.2) x.1) cs) = (cs.toList.take (off + k) ++ l ++ cs.toList.drop (off + k + l.length)).toArray
  | [], k, cs, h => by simp
  | v :: l, k, cs, h => by
    simp only [List.zipIdx_cons, List.foldl_cons]
    rw [fold_set off l (k + 1) _ (by simp at h ⊢; omega)]
    simp only [List.length_cons] at h
    apply Array.ext'
    simp only [Array.toList_setIfInBounds, List.length_cons]
    have hlt : off + k < cs.toList.length := by simp; omega
    rw [show off + (k + 1) = off + k + 1 by omega, List.take_add_one, List.getElem?_set_self hlt, List.take_set_of_le (by omega), List.drop_set_of_lt (by omega)]
    simp
    omega

section
variable {P : Program} {T : TypeId → Ty} {w : World} {I : Nat → Nat → Prop}
theorem RVs.set : ∀ (ds : List D) (us : List Value) (i : Nat) (e : D), RVs w I ds us → ds[i]? = some e → ∃ xs ys zs, us = xs ++ ys ++ zs ∧ xs.length = D.sizes (ds.take i) ∧ RV w I e ys ∧ ∀ d ys', RV w I d ys' → RVs w I (ds.set i d) (xs ++ ys' ++ zs)
  | [], us, i, e, h, hi => by simp at hi
  | x :: ds, us, 0, e, h, hi => by
    simp only [List.getElem?_cons_zero, Option.some.injEq] at hi
    subst hi
    unfold RVs at h
    obtain ⟨pp, qq, rfl, h1, h2⟩ := h
    exact ⟨[], pp, qq, by simp, by simp [D.sizes], h1, fun d ys' hd => by simp only [List.set_cons_zero, List.nil_append]; unfold RVs; exact ⟨ys', qq, rfl, hd, h2⟩⟩
  | x :: ds, us, i + 1, e, h, hi => by
    simp only [List.getElem?_cons_succ] at hi
    unfold RVs at h
    obtain ⟨pp, qq, rfl, h1, h2⟩ := h
    obtain ⟨xs, ys, zs, rfl, h3, h4, h5⟩ := RVs.set ds qq i e h2 hi
    exact ⟨pp ++ xs, ys, zs, by simp, by simp only [List.length_append, RV.len x pp h1, h3, List.take_succ_cons, D.sizes], h4, fun d ys' hd => by
      simp only [List.set_cons_succ]; unfold RVs; exact ⟨pp, xs ++ ys' ++ zs, by simp, h1, h5 d ys' hd⟩⟩

/-- A struct's parts are laid. -/
def layDs : List D → List (Nat × D) → Option (List D)
  | ds, [] => some ds
  | ds, (i, d) :: ps =>
    match ds[i]? with
    | some e => if e.size = d.size ∧ d.lies = true then layDs (ds.set i d) ps else Option.none
    | Option.none => Option.none

theorem sizes_set : ∀ (ds : List D) (i : Nat) (e d : D), ds[i]? = some e → e.size = d.size → ∀ k, D.sizes ((ds.set i d).take k) = D.sizes (ds.take k)
  | [], i, e, d, h, _, k => by simp at h
  | x :: ds, 0, e, d, h, hs, k => by
    simp only [List.getElem?_cons_zero, Option.some.injEq] at h
    subst h
    cases k with
    | zero => simp
    | succ k => simp only [List.set_cons_zero, List.take_succ_cons, D.sizes, hs]
  | x :: ds, i + 1, e, d, h, hs, k => by
    simp only [List.getElem?_cons_succ] at h
    cases k with
    | zero => simp
    | succ k => simp only [List.set_cons_succ, List.take_succ_cons, D.sizes, sizes_set ds i e d h hs k]

theorem fill_ok (place : Nat → Option (Nat × Nat)) : ∀ (ps : List (Nat × D)) (vs : List (Nat × Value)) (ds es : List D) (us : List Value), RVs w I ds us → layDs ds ps = some es → ps.length = vs.length →
    (∀ (j : Nat) (p : Nat × D) (v : Nat × Value), ps[j]? = some p → vs[j]? = some v → p.1 = v.1 ∧ RVal w I p.2 v.2) → (∀ k e, ds[k]? = some e → place k = some (D.sizes (ds.take k), e.size)) →
    ∃ ys : List Value, Instr.fill place us.toArray vs = some ys.toArray ∧ RVs w I es ys
  | [], [], ds, es, us, h, hl, _, _, _ => by
    simp only [layDs, Option.some.injEq] at hl
    subst hl
    exact ⟨us, rfl, h⟩
  | (i, d) :: ps, (j, v) :: vs, ds, es, us, h, hl, hn, hp, hpl => by
    have h0 := hp 0 (i, d) (j, v) rfl rfl
    obtain ⟨h01, h02⟩ := h0
    simp only at h01 h02
    subst h01
    unfold layDs at hl
    split at hl
    · rename_i e he
      split at hl
      · rename_i hc
        obtain ⟨hc1, hc2⟩ := hc
        obtain ⟨xs, ys, zs, rfl, h3, h4, h5⟩ := RVs.set ds us i e h he
        have hv := h02.cells hc2
        have hvl := RV.len _ _ hv
        have hyl := RV.len _ _ h4
        have hr := h5 d _ hv
        unfold Instr.fill
        rw [hpl i e he]
        simp only
        have hsz : v.cells.size = e.size := by rw [hc1, ← hvl]; simp
        have hle : ¬ ((decide (v.cells.size ≠ e.size) || decide (D.sizes (ds.take i) + v.cells.size > (xs ++ ys ++ zs).toArray.size)) = true) := by
          simp only [List.size_toArray, List.length_append, h3, hyl, hsz]
          simp
        rw [if_neg hle]
        have hfold : (v.cells.zipIdx.foldl (fun cs (x : Value × Nat) => cs.setIfInBounds (D.sizes (ds.take i) + x.2) x.1) (xs ++ ys ++ zs).toArray) = (xs ++ v.cells.toList ++ zs).toArray := by
          rw [← Array.foldl_toList, Array.toList_zipIdx, fold_set (D.sizes (ds.take i)) v.cells.toList 0 _ (by simp only [List.size_toArray, List.length_append, h3, hyl, Array.length_toList, hsz]; omega)]
          congr 1
          simp only [Nat.add_zero, ← h3, Array.length_toList, hsz, ← hyl, List.append_assoc, List.take_left, ← List.length_append]
          rw [← List.append_assoc xs ys zs, List.drop_left]
        have hfold' := hfold
        obtain ⟨ws, h6, h7⟩ := fill_ok place ps vs (ds.set i d) es _ hr hl (by simpa using hn) (fun j p v hpj hvj => hp (j + 1) p v (by simpa using hpj) (by simpa using hvj)) (fun k e' hk => by
          rw [sizes_set ds i e d he hc1 k]
          by_cases hki : k = i
          · subst hki
            have hlt : k < ds.length := (List.getElem?_eq_some_iff.1 he).1
            rw [List.getElem?_set_self hlt] at hk
            simp only [Option.some.injEq] at hk
            subst hk
            rw [hpl k e he, hc1]
          · rw [List.getElem?_set_ne (fun h => hki h.symm)] at hk
            exact hpl k e' hk)
        exact ⟨ws, by rw [← h6]; congr 1, h7⟩
      · cases hl
    · cases hl
  | [], _ :: _, _, _, _, _, _, hn, _, _ => by simp at hn
  | _ :: _, [], _, _, _, _, _, hn, _, _ => by simp at hn

/-- A struct is built of parts. -/
def buildV (ty : Ty) (ps : List (Nat × D)) : Option D :=
  match ty with
  | .struct zs => (layDs zs ps).map .agg
  | .dig => if ps.length = 0 then some (.dg Dg.zero) else Option.none
  | _ => Option.none

theorem mapM_run {α β : Type} (f : α → Sem β) (g : α → β) (l : List α) (h : ∀ a ∈ l, (f a).run P w = .ok (g a) w) : (l.mapM f).run P w = .ok (l.map g) w := by
  induction l with
  | nil => rfl
  | cons a l ih =>
    rw [List.mapM_cons, Sem.run_bind, h a List.mem_cons_self, Result.andThen_ok, Sem.run_bind, ih (fun b hb => h b (List.mem_cons_of_mem _ hb))]
    rfl

theorem buildV_ok (hT : TysOk P T) {t : TypeId} {ps : List (Nat × D)} {d : D} (h : buildV (T t) ps = some d) (vs : List (Nat × Value)) (hn : ps.length = vs.length)
    (hp : ∀ (j : Nat) (p : Nat × D) (v : Nat × Value), ps[j]? = some p → vs[j]? = some v → p.1 = v.1 ∧ RVal w I p.2 v.2) : Yields P w I (Instr.build t vs.toArray) d := by
  unfold buildV at h
  split at h
  · rename_i zs e
    have ok := hT t (by rw [e]; simp)
    rw [e] at ok
    obtain ⟨dd, h1, h2⟩ := ok.desc
    simp only [Ty.isDesc] at h2
    obtain ⟨F, rfl, h3, h4⟩ := h2
    obtain ⟨z, h5, h6⟩ := ok.run_zero w
    have h6' := h6 w I
    simp only [Ty.zero] at h6'
    unfold RVal at h6'
    obtain ⟨us, rfl, h7⟩ := h6'
    cases hl : layDs zs ps with
    | none => rw [hl] at h; cases h
    | some es =>
      rw [hl] at h
      simp only [Option.map_some, Option.some.injEq] at h
      subst h
      have hF : ∀ k (hk : k < F.size), ∃ z j, zs[k]? = some z ∧ F[k].offset = D.sizes (zs.take k) ∧ P.info? F[k].type = some j ∧ j.size = z.size := fun k hk => by
        obtain ⟨z, j, dd, a, b, c, d, _⟩ := h4 k F[k] (Array.getElem?_eq_getElem hk)
        exact ⟨z, j, a, b, c, d⟩
      let g : Field → Nat × Nat := fun f => (f.offset, ((P.info? f.type).map (·.size)).getD 0)
      have hm : (F.mapM fun (f : Field) => (do pure (f.offset, ← sizeOf f.type) : Sem (Nat × Nat))).run P w = .ok (F.map g) w := by
        rw [← Array.toArray_toList (xs := F), List.mapM_toArray]
        have : (F.toList.mapM fun (f : Field) => (do pure (f.offset, ← sizeOf f.type) : Sem (Nat × Nat))).run P w = .ok (F.toList.map g) w := by
          refine mapM_run _ g F.toList (fun f hf => ?_)
          obtain ⟨k, hk⟩ := List.getElem?_of_mem hf
          obtain ⟨z, j, dd, a, b, c, d, _⟩ := h4 k f (by simpa using hk)
          simp [g, c, sizeOf, typeInfo]
        rw [Sem.run_map, this]
        simp only [Result.andThen_ok]
        congr 1
        apply Array.ext'
        simp
      obtain ⟨ys, h8, h9⟩ := fill_ok (fun k => (F.map g)[k]?) ps vs zs es us h7 hl hn hp (fun k e' hk => by
        have hlt : k < F.size := by rw [h3]; exact (List.getElem?_eq_some_iff.1 hk).1
        obtain ⟨z, j, a, b, c, dd⟩ := hF k hlt
        rw [a] at hk
        simp only [Option.some.injEq] at hk
        subst hk
        simp only [Array.getElem?_map, Array.getElem?_eq_getElem hlt, Option.map_some, g, b, c, dd, Option.getD_some])
      refine ⟨.agg ys.toArray, ?_, by unfold RVal; exact ⟨ys, rfl, h9⟩⟩
      unfold Instr.build
      rw [Sem.run_bind, h5, Result.andThen_ok, Sem.run_bind, run_underlying h1, Result.andThen_ok]
      simp only [Sem.run_bind, Value.cells]
      rw [hm]
      simp only [Result.andThen_ok]
      rw [h8]
      rfl
  · rename_i e
    split at h
    · rename_i hn0
      simp only [Option.some.injEq] at h
      subst h
      have ok := hT t (by rw [e]; simp)
      rw [e] at ok
      obtain ⟨dd, h1, h2⟩ := ok.desc
      simp only [Ty.isDesc] at h2
      obtain ⟨ee, rfl, h3, h4⟩ := h2
      obtain ⟨z, h5, h6⟩ := ok.run_zero w
      have h6' := h6 w I
      simp only [Ty.zero] at h6'
      unfold RVal at h6'
      subst h6'
      have hv : vs = [] := by rw [hn0] at hn; exact List.length_eq_zero_iff.1 hn.symm
      subst hv
      refine ⟨.agg Dg.zero.c, ?_, by unfold RVal; rfl⟩
      cases hq : P.info? ee with
      | none => rw [hq] at h4; cases h4
      | some i =>
        unfold Instr.build
        rw [Sem.run_bind, h5, Result.andThen_ok, Sem.run_bind, run_underlying h1, Result.andThen_ok]
        simp [sizeOf, typeInfo, hq, Instr.fill, Value.cells]
    · cases h
  · cases h
end

end Go.Proofs.YtemicgccgcmmbaaGreat

/- Values without addresses: loads, fields, elements, cuts. -/
namespace Go.Proofs.YtemicgccgcmmbaaGreat
set_option linter.unusedVariables false
set_option linter.unusedSimpArgs false
open Go Go.RowKit

open Classical in
/-- A load. -/
noncomputable def loadV (T : TypeId → Ty) (bk : List (Nat × TypeId × D)) (t : TypeId) (x : D) : Option D :=
  match x with
  | .pt d => if (T t).known = true ∧ d.size = (T t).zero.size ∧ d.isAgg = (T t).agg then some d else Option.none
  | .v (.pointer (some ⟨b, o, Option.none⟩)) =>
    if (T t).known = true then
      match getM bk b with
      | some (_, d) => subD d o (T t).zero.size (T t).agg
      | Option.none => Option.none
    else Option.none
  | _ => Option.none

def szs (ds : List D) : List Nat := ds.map D.size
theorem szs_take (ds zs : List D) (h : szs ds = szs zs) (k : Nat) : D.sizes (ds.take k) = D.sizes (zs.take k) := by
  induction ds generalizing zs k with
  | nil => cases zs with | nil => rfl | cons z zs => simp [szs] at h
  | cons d ds ih =>
    cases zs with
    | nil => simp [szs] at h
    | cons z zs =>
      simp only [szs, List.map_cons, List.cons.injEq] at h
      cases k with
      | zero => rfl
      | succ k => simp only [List.take_succ_cons, D.sizes, h.1, ih zs h.2 k]

/-- A field's address. -/
def fieldAddrV (ty : Ty) (x : D) (k : Nat) : Option D :=
  match ty, x with
  | .struct zs, .pt (.agg ds) => if szs ds = szs zs then (ds[k]?).map .pt else Option.none
  | .struct zs, .v (.pointer (some ⟨b, o, Option.none⟩)) => if k < zs.length then some (.v (.pointer (some ⟨b, o + D.sizes (zs.take k), Option.none⟩))) else Option.none
  | _, _ => Option.none

/-- A field. -/
def fieldV (ty : Ty) (x : D) (k : Nat) : Option D :=
  match ty, x with
  | .struct zs, .agg ds => if szs ds = szs zs then (match ds[k]?, zs[k]? with | some d, some z => if d.isAgg = z.isAgg then some d else Option.none | _, _ => Option.none) else Option.none
  | _, _ => Option.none

/-- An element's address. -/
def indexAddrV (T : TypeId → Ty) (t : TypeId) (x i : D) : Option D :=
  match T t, x, i with
  | .slice e, .sl _ es, .v (.int _ n) =>
    if 0 ≤ n ∧ (T e).known = true then
      match es[n.toNat]? with
      | some d => if d.size = (T e).zero.size then some (.pt d) else Option.none
      | Option.none => Option.none
    else Option.none
  | .dig, .v (.pointer (some ⟨b, o, Option.none⟩)), .v (.int _ n) => if 0 ≤ n ∧ n < 32 then some (.v (.pointer (some ⟨b, o + n.toNat, Option.none⟩))) else Option.none
  | .dig, .pt (.dg d), .v (.int _ n) => if 0 ≤ n then (d.l[n.toNat]?).map (fun b => .pt (.v (.int .u8 b.toNat))) else Option.none
  | _, _, _ => Option.none

/-- A string's byte. -/
def indexV (ty : Ty) (x i : D) : Option D :=
  match ty, x, i with
  | .str, .v (.string s), .v (.int _ n) => if 0 ≤ n then (s.data.toList[n.toNat]?).map (fun b => .v (.int .u8 b.toNat)) else Option.none
  | _, _, _ => Option.none

def bndV (x : Option D) (d : Nat) : Option Nat :=
  match x with
  | Option.none => some d
  | some (.v (.int _ n)) => if 0 ≤ n then some n.toNat else Option.none
  | some _ => Option.none

open Classical in
/-- A cut. -/
noncomputable def sliceV (T : TypeId → Ty) (t : TypeId) (x : D) (lo hi mx : Option D) : Option D :=
  match T t, x with
  | .str, .v (.string s) =>
    match mx, bndV lo 0, bndV hi s.size with
    | Option.none, some l, some h => if l ≤ h ∧ h ≤ s.size then some (.v (.string (s.extract l h))) else Option.none
    | _, _, _ => Option.none
  | .slice e, .sl _ es =>
    match bndV lo 0, bndV hi es.length with
    | some l, some h =>
      if l ≤ h ∧ h ≤ es.length ∧ (T e).known = true ∧ ∀ d ∈ es, d.size = (T e).zero.size then
        match mx with
        | Option.none => some (.sl .none ((es.drop l).take (h - l)))
        | some m => if bndV (some m) 0 = some h ∧ hi ≠ Option.none then some (.sl .full ((es.drop l).take (h - l))) else Option.none
      else Option.none
    | _, _ => Option.none
  | _, _ => Option.none

def convV (a b : Ty) (x : D) : Option D :=
  match a, b, x with
  | .int _, .int k, .v (.int _ n) => some (.v (.int k (k.wrap n)))
  | .str, .str, .v (.string s) => some (.v (.string s))
  | _, _, _ => Option.none

section
variable {P : Program} {T : TypeId → Ty} {w : World} {S : Sto}

theorem loadV_ok (hT : TysOk P T) (hS : StAt w S) {t : TypeId} {x d : D} {y : Value} (h : loadV T S.bk t x = some d) (hx : RVal w S.I x y) : Yields P w S.I (Instr.loadAt t y) d := by
  unfold loadV at h
  split at h
  · rename_i e
    split at h
    · rename_i hc
      obtain ⟨h1, h2, h3⟩ := hc
      simp only [Option.some.injEq] at h
      subst h
      have ok := hT t (Ty.known_ne h1)
      unfold RVal RV at hx
      obtain ⟨b, o, us, he, hb, hi, hd, hc⟩ := hx
      simp only [List.cons.injEq, and_true] at he
      subst he
      have hl := RV.len _ _ hd
      refine ⟨_, ?_, hd.loaded⟩
      simp only [Instr.loadAt, Instr.sureAddr, Sem.run_bind, Sem.run_pure, Result.andThen_ok]
      refine run_load_cells b o us e.isAgg (by rw [ok.run_agg (Ty.known_ne h1), h3]) (by rw [ok.run_size, hl, h2]) (fun hg => ?_) hc
      rw [hl]; exact hd.size1 hg
    · cases h
  · rename_i b o
    split at h
    · rename_i h1
      have ok := hT t (Ty.known_ne h1)
      split at h
      · rename_i tb d0 hg
        obtain ⟨us, hb, hd⟩ := hS.mutAt _ _ _ (getM_mem hg)
        have hd := hd.plain (subD_tup h)
        unfold RVal at hx
        obtain ⟨rfl, -⟩ := hx
        obtain ⟨xs, ys, zs, rfl, h3, h4, h5, h6⟩ := subD_ok d0 us o _ _ d hd h
        have hl := RV.len _ _ h4
        refine ⟨_, ?_, h4.loaded⟩
        simp only [Instr.loadAt, Instr.sureAddr, Sem.run_bind, Sem.run_pure, Result.andThen_ok]
        refine run_load_cells b o ys d.isAgg (by rw [ok.run_agg (Ty.known_ne h1), h6]) (by rw [ok.run_size, hl, h5]) (fun hg => ?_) (fun j v hj => ?_)
        · rw [hl]; exact h4.size1 hg
        · rw [hb.cell (o + j)]
          have hlt : j < ys.length := (List.getElem?_eq_some_iff.1 hj).1
          simp only [List.getElem?_toArray, ← h3, List.append_assoc]
          rw [List.getElem?_append_right (by omega), Nat.add_sub_cancel_left, List.getElem?_append_left hlt]
          exact hj
      · cases h
    · cases h
  · cases h

theorem fieldAddrV_ok (hT : TysOk P T) {t : TypeId} {x d : D} {k : Nat} {y : Value} (h : fieldAddrV (T t) x k = some d) (hx : RVal w S.I x y) : Yields P w S.I (Instr.fieldAt t y k) d := by
  unfold fieldAddrV at h
  have hadd : ∀ b o j, (⟨b, o, Option.none⟩ : Addr).add j = ⟨b, o + j, Option.none⟩ := fun b o j => by unfold Addr.add; split <;> simp_all
  split at h
  · rename_i zs ds e
    have ok := hT t (by rw [e]; simp)
    rw [e] at ok
    obtain ⟨dd, h1, h2⟩ := ok.desc
    simp only [Ty.isDesc] at h2
    obtain ⟨F, rfl, h3, h4⟩ := h2
    split at h
    · rename_i hz
      cases hk : ds[k]? with
      | none => rw [hk] at h; cases h
      | some dk =>
        rw [hk] at h
        simp only [Option.map_some, Option.some.injEq] at h
        subst h
        have hlen : ds.length = zs.length := by have := congrArg List.length hz; simpa [szs] using this
        have hkl : k < F.size := by rw [h3, ← hlen]; exact (List.getElem?_eq_some_iff.1 hk).1
        obtain ⟨z, j, dd, a1, a2, a3, a4, a5, a6, a7⟩ := h4 k F[k] (Array.getElem?_eq_getElem hkl)
        unfold RVal RV at hx
        obtain ⟨b, o, us, he, hb, hi, hd, hc⟩ := hx
        simp only [List.cons.injEq, and_true] at he
        subst he
        unfold RV at hd
        obtain ⟨xs, ys, zz, rfl, h5, h6, -⟩ := RVs.set ds us k dk hd hk
        refine ⟨.pointer (some ⟨b, o + D.sizes (ds.take k), Option.none⟩), ?_, ?_⟩
        · simp only [Instr.fieldAt, Sem.run_bind, run_underlying h1, Result.andThen_ok, Array.getElem?_eq_getElem hkl, Instr.sureAddr, Sem.run_pure, fieldPlace, sizeOf, typeInfo, run_program, a3, a5, if_false, hadd, a2, szs_take ds zs hz k]
        · unfold RVal RV
          refine ⟨b, o + D.sizes (ds.take k), ys, rfl, hb, ?_, h6, fun j v hj => ?_⟩
          · have hle : D.sizes (ds.take k) + dk.size ≤ (D.agg ds).size := by
              have := RVs.len ds _ hd
              have hly := RV.len _ _ h6
              simp only [List.length_append, h5, hly] at this
              show _ ≤ D.sizes ds
              omega
            exact ⟨hi.1, fun L hL => Nat.le_trans (by omega) (hi.2 L hL)⟩
          · have hlt : j < ys.length := (List.getElem?_eq_some_iff.1 hj).1
            have := hc (D.sizes (ds.take k) + j) v (by rw [← h5, List.append_assoc, List.getElem?_append_right (by omega), Nat.add_sub_cancel_left, List.getElem?_append_left hlt]; exact hj)
            rw [← Nat.add_assoc] at this
            exact this
    · cases h
  · rename_i zs b o e
    have ok := hT t (by rw [e]; simp)
    rw [e] at ok
    obtain ⟨dd, h1, h2⟩ := ok.desc
    simp only [Ty.isDesc] at h2
    obtain ⟨F, rfl, h3, h4⟩ := h2
    split at h
    · rename_i hk
      simp only [Option.some.injEq] at h
      subst h
      have hkl : k < F.size := by omega
      obtain ⟨z, j, dd, a1, a2, a3, a4, a5, a6, a7⟩ := h4 k F[k] (Array.getElem?_eq_getElem hkl)
      unfold RVal at hx
      obtain ⟨rfl, -⟩ := hx
      refine ⟨_, ?_, RVal.vv rfl⟩
      simp only [Instr.fieldAt, Sem.run_bind, run_underlying h1, Result.andThen_ok, Array.getElem?_eq_getElem hkl, Instr.sureAddr, Sem.run_pure, fieldPlace, sizeOf, typeInfo, run_program, a3, a5, if_false, hadd, a2]
    · cases h
  · cases h

theorem fieldV_ok (hT : TysOk P T) {t : TypeId} {x d : D} {k : Nat} {y : Value} (h : fieldV (T t) x k = some d) (hx : RVal w S.I x y) : Yields P w S.I (Instr.field t y k) d := by
  unfold fieldV at h
  split at h
  · rename_i zs ds e
    have ok := hT t (by rw [e]; simp)
    rw [e] at ok
    obtain ⟨dd, h1, h2⟩ := ok.desc
    simp only [Ty.isDesc] at h2
    obtain ⟨F, rfl, h3, h4⟩ := h2
    split at h
    · rename_i hz
      split at h
      · rename_i d' z hk hzk
        split at h
        · rename_i hag
          simp only [Option.some.injEq] at h
          subst h
          have hlen : ds.length = zs.length := by have := congrArg List.length hz; simpa [szs] using this
          have hkl : k < F.size := by rw [h3, ← hlen]; exact (List.getElem?_eq_some_iff.1 hk).1
          obtain ⟨z', j, dd, a1, a2, a3, a4, a5, a6, a7⟩ := h4 k F[k] (Array.getElem?_eq_getElem hkl)
          rw [hzk] at a1
          simp only [Option.some.injEq] at a1
          subst a1
          unfold RVal at hx
          obtain ⟨us, rfl, hd⟩ := hx
          obtain ⟨xs, ys, zz, rfl, h5, h6, -⟩ := RVs.set ds us k d' hd hk
          have hly := RV.len _ _ h6
          have hds : d'.size = z.size := by
            have h1 : (szs ds)[k]? = (szs zs)[k]? := by rw [hz]
            simpa [szs, List.getElem?_map, hk, hzk] using h1
          refine ⟨_, ?_, h6.loaded⟩
          simp only [Instr.field, Sem.run_bind, run_underlying h1, Result.andThen_ok, Array.getElem?_eq_getElem hkl, asAgg, Sem.run_pure, part, run_isAgg a6, a7, ← hag, a2, ← szs_take ds zs hz k, ← h5]
          cases hg : d'.isAgg with
          | true =>
            simp only [if_true, Sem.run_bind, sizeOf, typeInfo, run_program, a3, Result.andThen_ok, Sem.run_pure, a4, ← hds, ← hly]
            simp [ofCells, List.extract_eq_take_drop]
          | false =>
            have hl1 : ys.length = 1 := by rw [hly]; exact h6.size1 hg
            match ys, hl1 with
            | [u], _ => simp [ofCells]
        · cases h
      · cases h
    · cases h
  · cases h

theorem indexAddrV_ok (hT : TysOk P T) {t : TypeId} {x i d : D} {y z : Value} (h : indexAddrV T t x i = some d) (hx : RVal w S.I x y) (hi : RVal w S.I i z) : Yields P w S.I (Instr.indexAt t y z) d := by
  unfold indexAddrV at h
  have hadd : ∀ b o j, (⟨b, o, Option.none⟩ : Addr).add j = ⟨b, o + j, Option.none⟩ := fun b o j => by unfold Addr.add; split <;> simp_all
  split at h
  · rename_i e tg es k n ht
    have ok := hT t (by rw [ht]; simp)
    rw [ht] at ok
    obtain ⟨dd, h1, h2⟩ := ok.desc
    simp only [Ty.isDesc] at h2
    subst h2
    split at h
    · rename_i hc
      obtain ⟨hn, hkn⟩ := hc
      have oke := hT e (Ty.known_ne hkn)
      split at h
      · rename_i d0 hd0
        split at h
        · rename_i hsz
          simp only [Option.some.injEq] at h
          subst h
          unfold RVal at hi
          obtain ⟨rfl, -⟩ := hi
          unfold RVal RV at hx
          obtain ⟨a, m, c, he, h3, h4, -, h5⟩ := hx
          simp only [List.cons.injEq, and_true] at he
          subst he
          have hlt : n.toNat < es.length := (List.getElem?_eq_some_iff.1 hd0).1
          rcases h5 with ⟨_, rfl, _⟩ | ⟨b, o, rfl, hb, hib, ⟨zz, hz⟩, hr⟩
          · simp at hlt
          · have hzz : d0.size = zz := hz d0 (List.mem_of_getElem? hd0)
            obtain ⟨us, h6, h7⟩ := REs.get o es zz hz hr n.toNat d0 hd0
            have hnm : n < m := by omega
            refine ⟨.pointer (some ⟨b, o + n.toNat * zz, Option.none⟩), ?_, ?_⟩
            · simp only [Instr.indexAt, Sem.run_bind, asIntOf, Sem.run_pure, Result.andThen_ok, run_underlying h1, hn, hnm, and_self, if_true, oke.run_size, ← hsz, hzz, hadd, Bool.and_false]
            · unfold RVal RV
              refine ⟨b, o + n.toNat * zz, us, rfl, hb, ?_, h6, h7⟩
              rw [sizes_const es zz hz] at hib
              have : (n.toNat + 1) * zz ≤ es.length * zz := Nat.mul_le_mul_right _ hlt
              rw [Nat.add_mul] at this
              exact ⟨hib.1, fun L hL => Nat.le_trans (by omega) (hib.2 L hL)⟩
        · cases h
      · cases h
    · cases h
  · rename_i b o k n ht
    have ok := hT t (by rw [ht]; simp)
    rw [ht] at ok
    obtain ⟨dd, h1, h2⟩ := ok.desc
    simp only [Ty.isDesc] at h2
    obtain ⟨e, rfl, h3, h4⟩ := h2
    split at h
    · rename_i hn
      simp only [Option.some.injEq] at h
      subst h
      unfold RVal at hx hi
      obtain ⟨rfl, -⟩ := hx
      obtain ⟨rfl, -⟩ := hi
      refine ⟨_, ?_, RVal.vv rfl⟩
      cases hq : P.info? e with
      | none => rw [hq] at h4; cases h4
      | some i =>
        have hi1 : i.size = 1 := by rw [hq] at h4; simpa using h4
        have hn' : 0 ≤ n ∧ n < ((32 : Nat) : Int) := hn
        simp only [Instr.indexAt, Sem.run_bind, asIntOf, Sem.run_pure, Result.andThen_ok, run_underlying h1, Instr.sureAddr, hn', and_self, if_true, sizeOf, typeInfo, run_program, hq, hi1, hadd, Nat.mul_one]
    · cases h
  · rename_i d0 k n ht
    have ok := hT t (by rw [ht]; simp)
    rw [ht] at ok
    obtain ⟨dd, h1, h2⟩ := ok.desc
    simp only [Ty.isDesc] at h2
    obtain ⟨e, rfl, h3, h4⟩ := h2
    split at h
    · rename_i hn
      obtain ⟨u, hu, rfl⟩ := Option.map_eq_some_iff.1 h
      have hlt : n.toNat < d0.l.length := (List.getElem?_eq_some_iff.1 hu).1
      have hlt32 := hlt
      rw [d0.h] at hlt32
      unfold RVal at hi
      obtain ⟨rfl, -⟩ := hi
      unfold RVal RV at hx
      obtain ⟨b, o, us, he, hb, hib, hd, hc⟩ := hx
      simp only [List.cons.injEq, and_true] at he
      subst he
      unfold RV at hd
      subst hd
      refine ⟨.pointer (some ⟨b, o + n.toNat, Option.none⟩), ?_, ?_⟩
      · cases hq : P.info? e with
        | none => rw [hq] at h4; cases h4
        | some i =>
          have hi1 : i.size = 1 := by rw [hq] at h4; simpa using h4
          have hn' : 0 ≤ n ∧ n < ((32 : Nat) : Int) := by omega
          simp only [Instr.indexAt, Sem.run_bind, asIntOf, Sem.run_pure, Result.andThen_ok, run_underlying h1, Instr.sureAddr, hn', and_self, if_true, sizeOf, typeInfo, run_program, hq, hi1, hadd, Nat.mul_one]
      · unfold RVal RV
        refine ⟨b, o + n.toNat, [.int .u8 u.toNat], rfl, hb, ?_, by unfold RV; exact ⟨rfl, rfl⟩, fun j v hj => ?_⟩
        · have : o + n.toNat + 1 ≤ o + 32 := by omega
          exact ⟨hib.1, fun L hL => Nat.le_trans this (hib.2 L hL)⟩
        · have hj0 : j = 0 := by have := (List.getElem?_eq_some_iff.1 hj).1; simp at this; exact this
          subst hj0
          simp only [List.getElem?_cons_zero, Option.some.injEq] at hj
          subst hj
          exact hc n.toNat _ (by simp [bC, hu])
    · cases h
  · cases h

theorem indexV_ok (hT : TysOk P T) {t : TypeId} {x i d : D} {y z : Value} (h : indexV (T t) x i = some d) (hx : RVal w S.I x y) (hi : RVal w S.I i z) : Yields P w S.I (Instr.index t y z) d := by
  unfold indexV at h
  split at h
  · rename_i s k n ht
    have ok := hT t (by rw [ht]; simp)
    rw [ht] at ok
    obtain ⟨dd, h1, h2⟩ := ok.desc
    simp only [Ty.isDesc] at h2
    subst h2
    unfold RVal at hx hi
    obtain ⟨rfl, -⟩ := hx
    obtain ⟨rfl, -⟩ := hi
    split at h
    · rename_i hn
      cases hb : s.data.toList[n.toNat]? with
      | none => rw [hb] at h; cases h
      | some b =>
        rw [hb] at h
        simp only [Option.map_some, Option.some.injEq] at h
        subst h
        refine ⟨_, ?_, RVal.vv rfl⟩
        have hlt : n.toNat < s.size := by have := (List.getElem?_eq_some_iff.1 hb).1; simpa using this
        have hb' : s[n.toNat]? = some b := by
          rw [getElem?_pos s n.toNat hlt]
          have := (List.getElem?_eq_some_iff.1 hb).2
          rw [← this]; rfl
        simp only [Instr.index, Sem.run_bind, asIntOf, Sem.run_pure, Result.andThen_ok, run_underlying h1, hn, if_true, hb']
    · cases h
  · cases h

theorem convV_ok (hT : TysOk P T) {t u : TypeId} {x d : D} {y : Value} (h : convV (T t) (T u) x = some d) (hx : RVal w S.I x y) : Yields P w S.I (convert t u y) d := by
  unfold convV at h
  split at h
  · rename_i k0 k s n e1 e2
    have ok1 := hT t (by rw [e1]; simp)
    have ok2 := hT u (by rw [e2]; simp)
    rw [e1] at ok1
    rw [e2] at ok2
    obtain ⟨d1, h1, h2⟩ := ok1.desc
    obtain ⟨d2, h3, h4⟩ := ok2.desc
    simp only [Ty.isDesc] at h2 h4
    subst h2 h4
    unfold RVal at hx
    obtain ⟨rfl, -⟩ := hx
    simp only [Option.some.injEq] at h
    subst h
    exact ⟨_, by simp only [convert, Sem.run_bind, run_underlying h1, run_underlying h3, Result.andThen_ok]; rfl, RVal.vv rfl⟩
  · rename_i s e1 e2
    have ok1 := hT t (by rw [e1]; simp)
    have ok2 := hT u (by rw [e2]; simp)
    rw [e1] at ok1
    rw [e2] at ok2
    obtain ⟨d1, h1, h2⟩ := ok1.desc
    obtain ⟨d2, h3, h4⟩ := ok2.desc
    simp only [Ty.isDesc] at h2 h4
    subst h2 h4
    unfold RVal at hx
    obtain ⟨rfl, -⟩ := hx
    simp only [Option.some.injEq] at h
    subst h
    exact ⟨_, by simp only [convert, Sem.run_bind, run_underlying h1, run_underlying h3, Result.andThen_ok]; rfl, RVal.vv rfl⟩
  · cases h

theorem bndV_ok {x : Option D} {y : Option Value} (hxy : (x = Option.none ∧ y = Option.none) ∨ ∃ d v, x = some d ∧ y = some v ∧ RVal w S.I d v) {q n : Nat} (h : bndV x q = some n) :
    (y = Option.none ∧ n = q) ∨ ∃ (k : IntKind) (m : Int), y = some (.int k m) ∧ 0 ≤ m ∧ m.toNat = n := by
  rcases hxy with ⟨rfl, rfl⟩ | ⟨d, v, rfl, rfl, hv⟩
  · simp only [bndV, Option.some.injEq] at h; exact .inl ⟨rfl, h.symm⟩
  · unfold bndV at h
    split at h
    · rename_i e; cases e
    · rename_i k m e
      simp only [Option.some.injEq] at e
      subst e
      split at h
      · rename_i hm
        simp only [Option.some.injEq] at h
        unfold RVal at hv
        obtain ⟨rfl, -⟩ := hv
        exact .inr ⟨k, m, rfl, hm, h⟩
      · cases h
    · cases h


theorem I_le {b e e' : Nat} (h : S.I b e) (he : e' ≤ e) : S.I b e' := ⟨h.1, fun L hL => Nat.le_trans he (h.2 L hL)⟩

/-- A bound of a cut that is there. -/
theorem run_bound {y : Value} {k : IntKind} {m : Int} {n q : Nat} (hy : y = .int k m) (h0 : 0 ≤ m) (hn : m.toNat = n) (hq : n ≤ q) (c : BoundsCode) : (Instr.sliceBound y q c).run P w = .ok n w := by
  subst hy
  have : 0 ≤ m ∧ m ≤ q := by omega
  simp [Instr.sliceBound, Sem.run_bind, asIntOf, this, hn]

theorem sliceV_ok (hT : TysOk P T) {t : TypeId} {x d : D} {lo hi mx : Option D} {y : Value} {lo' hi' mx' : Option Value} (h : sliceV T t x lo hi mx = some d) (hx : RVal w S.I x y)
    (h1 : (lo = Option.none ∧ lo' = Option.none) ∨ ∃ d v, lo = some d ∧ lo' = some v ∧ RVal w S.I d v) (h2 : (hi = Option.none ∧ hi' = Option.none) ∨ ∃ d v, hi = some d ∧ hi' = some v ∧ RVal w S.I d v)
    (h3 : (mx = Option.none ∧ mx' = Option.none) ∨ ∃ d v, mx = some d ∧ mx' = some v ∧ RVal w S.I d v) : Yields P w S.I (Instr.sliceAt t y lo' hi' mx') d := by
  unfold sliceV at h
  split at h
  · rename_i s ht
    have ok := hT t (by rw [ht]; simp)
    rw [ht] at ok
    obtain ⟨dd, hu, hd⟩ := ok.desc
    simp only [Ty.isDesc] at hd
    subst hd
    unfold RVal at hx
    obtain ⟨rfl, -⟩ := hx
    split at h
    · rename_i l hh e1 e2
      obtain rfl : mx' = Option.none := by rcases h3 with h3 | ⟨d, v, e, _⟩; exact h3.2; cases e
      split at h
      · rename_i hc
        simp only [Option.some.injEq] at h
        subst h
        refine ⟨_, ?_, RVal.vv rfl⟩
        simp only [Instr.sliceAt, Sem.run_bind, run_underlying hu, Result.andThen_ok, Instr.slice, Option.isSome_none, Bool.false_eq_true, if_false, Instr.sliceBounds, Sem.run_pure, Sem.run_ite]
        rcases bndV_ok h2 e2 with ⟨rfl, rfl⟩ | ⟨k, m, rfl, hm, hn⟩
        · rcases bndV_ok h1 e1 with ⟨rfl, rfl⟩ | ⟨k, m, rfl, hm, hn⟩
          · simp [Sem.run_bind]
          · simp [Sem.run_bind, run_bound (P := P) (w := w) rfl hm hn hc.1]
        · rcases bndV_ok h1 e1 with ⟨rfl, rfl⟩ | ⟨k', m', rfl, hm', hn'⟩
          · simp [Sem.run_bind, run_bound (P := P) (w := w) rfl hm hn hc.2]
          · simp [Sem.run_bind, run_bound (P := P) (w := w) rfl hm hn hc.2, run_bound (P := P) (w := w) rfl hm' hn' hc.1]
      · cases h
    · cases h
  · rename_i e tg es ht
    have ok := hT t (by rw [ht]; simp)
    rw [ht] at ok
    obtain ⟨dd, hu, hd⟩ := ok.desc
    simp only [Ty.isDesc] at hd
    subst hd
    unfold RVal RV at hx
    obtain ⟨a, m, c, he, hm, hcap, htg, hx⟩ := hx
    simp only [List.cons.injEq, and_true] at he
    subst he
    split at h
    · rename_i l hh e1 e2
      split at h
      · rename_i hc
        obtain ⟨hc1, hc2, hk, hz⟩ := hc
        have oke := hT e (Ty.known_ne hk)
        have hres : ∀ M, hh ≤ M → M ≤ c → ∀ tg', (tg' = .none ∨ (tg' = .full ∧ M = hh)) → RVal w S.I (.sl tg' ((es.drop l).take (hh - l))) (.slice (if M = l then a else a.map (·.add (l * (T e).zero.size))) (hh - l) (M - l)) := by
          intro M hM hMc tg' htg'
          have hlen : ((es.drop l).take (hh - l)).length = hh - l := by rw [List.length_take, List.length_drop]; omega
          have hz' : ∀ d ∈ (es.drop l).take (hh - l), d.size = (T e).zero.size := fun d hd => hz d (List.mem_of_mem_drop (List.mem_of_mem_take hd))
          unfold RVal RV
          refine ⟨_, _, _, rfl, hlen.symm, by omega, ?_, ?_⟩
          · rcases htg' with rfl | ⟨rfl, rfl⟩
            · trivial
            · show _ = _; rw [hlen]
          · rcases hx with ⟨rfl, rfl, rfl⟩ | ⟨b, o, rfl, hb, hi, -, hr⟩
            · refine .inl ⟨by simp, by simp, by omega⟩
            · rw [sizes_const es _ hz] at hi
              have hsz : D.sizes ((es.drop l).take (hh - l)) = (hh - l) * (T e).zero.size := by rw [sizes_const _ _ hz', hlen]
              by_cases hMl : M = l
              · have : hh = l := by omega
                subst this
                refine .inr ⟨b, o, by simp [hMl], hb, I_le hi (by rw [hsz]; simp), ⟨_, hz'⟩, ?_⟩
                simp [REs]
              · refine .inr ⟨b, o + l * (T e).zero.size, ?_, hb, I_le hi ?_, ⟨_, hz'⟩, (REs.drop l o es _ hz (by omega) hr).take _⟩
                · simp only [hMl, if_false, Option.map_some, Option.some.injEq]
                  unfold Addr.add
                  split <;> simp_all
                · rw [hsz]
                  have : hh * (T e).zero.size ≤ es.length * (T e).zero.size := Nat.mul_le_mul_right _ hc2
                  have h5 : hh * (T e).zero.size = (hh - l) * (T e).zero.size + l * (T e).zero.size := by rw [← Nat.add_mul]; congr 1; omega
                  omega
        split at h
        · simp only [Option.some.injEq] at h
          subst h
          obtain rfl : mx' = Option.none := by rcases h3 with h3 | ⟨d, v, e, _⟩; exact h3.2; cases e
          refine ⟨_, ?_, hres c (by omega) (Nat.le_refl _) .none (.inl rfl)⟩
          simp only [Instr.sliceAt, Sem.run_bind, run_underlying hu, Result.andThen_ok, Instr.slice, Instr.sliceBounds, Sem.run_pure]
          rcases bndV_ok h2 e2 with ⟨rfl, rfl⟩ | ⟨k, m', rfl, hm', hn⟩
          · rcases bndV_ok h1 e1 with ⟨rfl, rfl⟩ | ⟨k, m', rfl, hm', hn⟩
            · subst hm; simp [Sem.run_bind, oke.run_size]
            · subst hm; simp [Sem.run_bind, run_bound (P := P) (w := w) rfl hm' hn hc1, oke.run_size]
          · rcases bndV_ok h1 e1 with ⟨rfl, rfl⟩ | ⟨k', m2, rfl, hm2, hn'⟩
            · simp [Sem.run_bind, run_bound (P := P) (w := w) (q := c) rfl hm' hn (by omega), oke.run_size]
            · simp [Sem.run_bind, run_bound (P := P) (w := w) (q := c) rfl hm' hn (by omega), run_bound (P := P) (w := w) rfl hm2 hn' hc1, oke.run_size]
        · rename_i m0
          split at h
          · rename_i hmm
            simp only [Option.some.injEq] at h
            subst h
            obtain ⟨hm1, hhi⟩ := hmm
            rcases bndV_ok h3 hm1 with ⟨rfl, -⟩ | ⟨k3, m3, rfl, hm3, hn3⟩
            · rcases h3 with ⟨e, _⟩ | ⟨_, _, _, e, _⟩ <;> cases e
            rcases bndV_ok h2 e2 with ⟨rfl, rfl⟩ | ⟨k, m', rfl, hm', hn⟩
            · rcases h2 with ⟨e, _⟩ | ⟨_, _, _, e, _⟩
              · exact absurd e hhi
              · cases e
            refine ⟨_, ?_, hres hh (Nat.le_refl _) (by omega) .full (.inr ⟨rfl, rfl⟩)⟩
            simp only [Instr.sliceAt, Sem.run_bind, run_underlying hu, Result.andThen_ok, Instr.slice, Instr.sliceBounds, Sem.run_pure]
            rcases bndV_ok h1 e1 with ⟨rfl, rfl⟩ | ⟨k', m2, rfl, hm2, hn'⟩
            · simp [Sem.run_bind, run_bound (P := P) (w := w) (q := c) rfl hm3 hn3 (by omega), run_bound (P := P) (w := w) rfl hm' hn (Nat.le_refl _), oke.run_size]
            · simp [Sem.run_bind, run_bound (P := P) (w := w) (q := c) rfl hm3 hn3 (by omega), run_bound (P := P) (w := w) rfl hm' hn (Nat.le_refl _), run_bound (P := P) (w := w) rfl hm2 hn' hc1, oke.run_size]
          · cases h
      · cases h
    · cases h
  · cases h
end

end Go.Proofs.YtemicgccgcmmbaaGreat

/- Values without addresses: any operation that leaves memory alone. -/
namespace Go.Proofs.YtemicgccgcmmbaaGreat
set_option linter.unusedVariables false
set_option linter.unusedSimpArgs false
open Go Go.RowKit

/-- The program, and what is known of its types. -/
structure Prg (P : Program) (T : TypeId → Ty) : Prop where
  ty : TysOk P T
  dig : ∀ t, T t = .dig → P.eqGuardType P.depth t = false
  mixed : P.follows .mixedOrders = true

def valsO (A : List D) : List Operand → Option (List Value)
  | [] => some []
  | x :: xs =>
    match evalO A x, valsO A xs with
    | .v y, some ys => some (y :: ys)
    | _, _ => Option.none

def lenV (ty : Ty) (x : D) : Option D :=
  match ty, x with
  | .str, .v (.string s) => some (.v (.int .i64 (s.size : Nat)))
  | .slice _, .sl _ es => some (.v (.int .i64 (es.length : Nat)))
  | _, _ => Option.none

def callV (T : TypeId → Ty) (c : Callee) (ds : List D) (ts : List TypeId) : Option D :=
  match c, ds, ts with
  | .builtin .len, [x], [t] => lenV (T t) x
  | .builtin .max, [x, y], _ => (match x, y with | .v (.int k a), .v (.int _ b) => some (.v (.int k (if b > a then b else a))) | _, _ => Option.none)
  | _, _, _ => Option.none
theorem map_two {α β : Type} {f : α → β} {l : List α} {x y : β} (h : l.map f = [x, y]) : ∃ a b, l = [a, b] ∧ f a = x ∧ f b = y := by
  match l, h with
  | [a, b], h => simp only [List.map_cons, List.map_nil, List.cons.injEq, and_true] at h; exact ⟨a, b, rfl, h.1, h.2⟩
theorem map_one {α β : Type} {f : α → β} {l : List α} {x : β} (h : l.map f = [x]) : ∃ a, l = [a] ∧ f a = x := by
  match l, h with
  | [a], h => simp only [List.map_cons, List.map_nil, List.cons.injEq, and_true] at h; exact ⟨a, rfl, h⟩

def isConstO : Operand → Bool
  | .const _ => true
  | _ => false

def nilV (x : D) : Option D :=
  match x with
  | .pt d => some (.pt d)
  | .v (.pointer (some a)) => some (.v (.pointer (some a)))
  | .v (.func (.func f) x y) => some (.v (.func (.func f) x y))
  | .v (.iface t v) => some (.v (.iface t v))
  | _ => Option.none

def ifaceV (ty : Ty) (t : TypeId) (x : D) : Option D :=
  match ty, x with
  | .iface, _ => Option.none
  | .other, _ => Option.none
  | _, .v y => some (.v (.iface t y))
  | _, .agg [] => some (.v (.iface t (.agg #[])))
  | _, _ => Option.none

/-- What an operation yields that leaves memory alone. -/
noncomputable def evalV (T : TypeId → Ty) (A : List D) (bk : List (Nat × TypeId × D)) (op : Op) : Option D :=
  match op with
  | .move x => some (evalO A x)
  | .assign x => some (evalO A x)
  | .pick c a b => (match evalO A c with | .v (.bool t) => some (if t = true then evalO A a else evalO A b) | _ => Option.none)
  | .build t ps => buildV (T t) (ps.toList.map fun p => (p.1, evalO A p.2))
  | .load t x => loadV T bk t (evalO A x)
  | .nilCheck x => nilV (evalO A x)
  | .binOp op t x y _ => (match op, T t, evalO A x, evalO A y with
    | .eql, .iface, .v .nilIface, .v .nilIface => if isConstO x = true ∨ isConstO y = true then some (.v (.bool true)) else Option.none
    | .neq, .iface, .v .nilIface, .v .nilIface => if isConstO x = true ∨ isConstO y = true then some (.v (.bool false)) else Option.none
    | op, _, dx, dy => binV T op t dx dy)
  | .unOp op _ x => (match op, evalO A x with
    | .not, .v (.bool b) => some (.v (.bool (!b)))
    | .neg, .v (.int k n) => some (.v (.int k (k.wrap (0 - n))))
    | _, _ => Option.none)
  | .convert a b x => convV (T a) (T b) (evalO A x)
  | .makeInterface t x => ifaceV (T t) t (evalO A x)
  | .makeFunc fn f c => (match valsO A f.toList, valsO A c.toList with | some f', some c' => some (.v (.func fn f'.toArray c'.toArray)) | _, _ => Option.none)
  | .slice t x lo hi mx => sliceV T t (evalO A x) (lo.map (evalO A)) (hi.map (evalO A)) (mx.map (evalO A))
  | .fieldAddr t x k => fieldAddrV (T t) (evalO A x) k
  | .field t x k => fieldV (T t) (evalO A x) k
  | .indexAddr t x i => indexAddrV T t (evalO A x) (evalO A i)
  | .index t x i => indexV (T t) (evalO A x) (evalO A i)
  | .extract x i => (match evalO A x with | .tup ds => ds[i]? | _ => Option.none)
  | .call c => callV T c.callee (c.args.toList.map (evalO A)) c.argTypes.toList
  | _ => Option.none

section
variable {P : Program} {T : TypeId → Ty} {w : World} {S : Sto} {A : List D} {a : Act}

theorem valsO_ok {I : Nat → Nat → Prop} (hA : ActAt w I A a) : ∀ {xs : List Operand} {ys : List Value}, valsO A xs = some ys → xs.map a.eval = ys
  | [], ys, h => by simp only [valsO, Option.some.injEq] at h; subst h; rfl
  | x :: xs, ys, h => by
    unfold valsO at h
    split at h
    · rename_i y ys' h1 h2
      simp only [Option.some.injEq] at h
      subst h
      have := evalO_ok hA x
      rw [h1] at this
      unfold RVal at this
      rw [List.map_cons, this.1, valsO_ok hA h2]
    · cases h

theorem RVals.get {I : Nat → Nat → Prop} : ∀ {ds : List D} {xs : List Value} {i : Nat} {d : D}, RVals w I ds xs → ds[i]? = some d → ∃ x, xs[i]? = some x ∧ RVal w I d x
  | [], xs, i, d, h, hi => by simp at hi
  | e :: ds, xs, 0, d, h, hi => by
    simp only [List.getElem?_cons_zero, Option.some.injEq] at hi
    subst hi
    unfold RVals at h
    obtain ⟨y, ys, rfl, h1, _⟩ := h
    exact ⟨y, rfl, h1⟩
  | e :: ds, xs, i + 1, d, h, hi => by
    simp only [List.getElem?_cons_succ] at hi
    unfold RVals at h
    obtain ⟨y, ys, rfl, _, h2⟩ := h
    obtain ⟨x, h3, h4⟩ := RVals.get h2 hi
    exact ⟨x, by simpa using h3, h4⟩

theorem Yields.op {s : Sem Value} {d : D} (h : Yields P w S.I s d) : ∃ y, (do pure (Next.value (← s)) : Sem Next).run P w = .ok (.value y) w ∧ RVal w S.I d y := by
  obtain ⟨y, h1, h2⟩ := h
  exact ⟨y, by rw [Sem.run_bind, h1]; rfl, h2⟩

theorem lenV_ok (hT : TysOk P T) {t ty : TypeId} {x d : D} {y : Value} {ats : Array TypeId} (hats : ats = #[t]) (h : lenV (T t) x = some d) (hx : RVal w S.I x y) : Yields P w S.I (Builtin.len_ ats ty #[y]) d := by
  subst hats
  unfold lenV at h
  split at h
  · rename_i s e
    have ok := hT t (by rw [e]; simp)
    rw [e] at ok
    obtain ⟨dd, h1, h2⟩ := ok.desc
    simp only [Ty.isDesc] at h2
    subst h2
    unfold RVal at hx
    obtain ⟨rfl, -⟩ := hx
    simp only [Option.some.injEq] at h
    subst h
    exact ⟨_, by simp [Builtin.len_, Sem.run_bind, run_underlying h1, goInt], RVal.vv rfl⟩
  · rename_i s e
    have ok := hT t (by rw [e]; simp)
    rw [e] at ok
    obtain ⟨dd, h1, h2⟩ := ok.desc
    simp only [Ty.isDesc] at h2
    subst h2
    unfold RVal RV at hx
    obtain ⟨b, n, c, he, rfl, -⟩ := hx
    simp only [List.cons.injEq, and_true] at he
    subst he
    simp only [Option.some.injEq] at h
    subst h
    exact ⟨_, by simp [Builtin.len_, Sem.run_bind, run_underlying h1, goInt], RVal.vv rfl⟩
  · cases h

theorem eqV_shape {I : Nat → Nat → Prop} {ty : Ty} {x y : D} {r : Bool} (h : eqV ty x y = some r) {u v : Value} (hx : RVal w I x u) (hy : RVal w I y v) (t : TypeId) :
    binOp .eql t u v = (do pure (.bool (← Op.equal t u v))) ∧ binOp .neq t u v = (do pure (.bool (!(← Op.equal t u v)))) ∧ (u ≠ .nilIface ∨ v ≠ .nilIface) ∧ ((∃ p q, u = .agg p ∧ v = .agg q) → ty = .dig) := by
  unfold eqV at h
  split at h
  · unfold RVal at hx hy
    obtain ⟨rfl, -⟩ := hx
    obtain ⟨rfl, -⟩ := hy
    exact ⟨rfl, rfl, by simp, by simp⟩
  · unfold RVal at hx hy
    subst hx hy
    exact ⟨rfl, rfl, by simp, fun _ => rfl⟩
  · unfold RVal at hx hy
    obtain ⟨rfl, -⟩ := hx
    obtain ⟨rfl, -⟩ := hy
    exact ⟨rfl, rfl, by simp, by simp⟩
  · unfold RVal at hx hy
    obtain ⟨rfl, -⟩ := hx
    obtain ⟨rfl, -⟩ := hy
    exact ⟨rfl, rfl, by simp, by simp⟩
  · unfold RVal at hx hy
    unfold RV at hx
    obtain ⟨b, o, ys, hx, -⟩ := hx
    simp only [List.cons.injEq, and_true] at hx
    obtain ⟨rfl, -⟩ := hy
    subst hx
    exact ⟨rfl, rfl, by simp, by simp⟩
  · unfold RVal at hx hy
    unfold RV at hy
    obtain ⟨b, o, ys, hy, -⟩ := hy
    simp only [List.cons.injEq, and_true] at hy
    obtain ⟨rfl, -⟩ := hx
    subst hy
    exact ⟨rfl, rfl, by simp, by simp⟩
  · unfold RVal at hx hy
    obtain ⟨rfl, -⟩ := hx
    obtain ⟨rfl, -⟩ := hy
    exact ⟨rfl, rfl, by simp, by simp⟩
  · unfold RVal at hx hy
    obtain ⟨rfl, -⟩ := hx
    obtain ⟨rfl, -⟩ := hy
    exact ⟨rfl, rfl, by simp, by simp⟩
  · unfold RVal RV at hx hy
    obtain ⟨b, o, ys, hy, -⟩ := hy
    simp only [List.cons.injEq, and_true] at hy
    obtain ⟨b, o, ys, hx, -⟩ := hx
    simp only [List.cons.injEq, and_true] at hx
    subst hy hx
    exact ⟨rfl, rfl, by simp, by simp⟩
  · unfold RVal RV at hx hy
    obtain ⟨b, o, ys, hy, -⟩ := hy
    simp only [List.cons.injEq, and_true] at hy
    obtain ⟨b, o, ys, hx, -⟩ := hx
    simp only [List.cons.injEq, and_true] at hx
    subst hy hx
    exact ⟨rfl, rfl, by simp, by simp⟩
  · cases h

theorem guard_plain {op : BinOp} {t : TypeId} {u v : Value} {ox oy : Operand} (h1 : (∃ p q, u = .agg p ∧ v = .agg q) → P.eqGuardType P.depth t = false) (h2 : u ≠ .nilIface ∨ v ≠ .nilIface) : (eqGuard op t ox oy u v).run P w = .ok () w := by
  have key : ∀ q : BinOp, (q = .eql ∨ q = .neq) → (eqGuard q t ox oy u v).run P w = .ok () w := by
    intro q hq
    cases u <;> cases v <;> first
      | exact absurd rfl (h2.resolve_left (fun h => h rfl))
      | (rcases hq with rfl | rfl <;> rfl)
      | (have h3 := h1 ⟨_, _, rfl, rfl⟩; rcases hq with rfl | rfl <;> simp [eqGuard, h3])
  cases op <;> first | exact key _ (.inl rfl) | exact key _ (.inr rfl) | rfl

theorem binV_ok (hP : Prg P T) {op : BinOp} {t : TypeId} {x y d : D} {u v : Value} {ox oy : Operand} (h : binV T op t x y = some d) (hx : RVal w S.I x u) (hy : RVal w S.I y v) :
    Yields P w S.I (do eqGuard op t ox oy u v; binOp op t u v) d := by
  have hg : ∀ s : Sem Value, ((eqGuard op t ox oy u v).run P w = .ok () w) → Yields P w S.I s d → Yields P w S.I (do eqGuard op t ox oy u v; s) d := by
    intro s h1 ⟨z, h2, h3⟩
    exact ⟨z, by rw [Sem.run_bind, h1, Result.andThen_ok, h2], h3⟩
  unfold binV at h
  split at h
  · cases h
  · cases h
  · rename_i op k a k' b h1 h2
    unfold RVal at hx hy
    obtain ⟨rfl, -⟩ := hx
    obtain ⟨rfl, -⟩ := hy
    split at h
    · rename_i e
      subst e
      exact hg _ (guard_plain (by simp) (by simp)) (intV_ok h ⟨fun e => h1 e, fun e => h2 e⟩)
    · cases h
  · rename_i op a b h1 h2
    unfold RVal at hx hy
    obtain ⟨rfl, -⟩ := hx
    obtain ⟨rfl, -⟩ := hy
    exact hg _ (guard_plain (by simp) (by simp)) (strV_ok h)
  · obtain ⟨r, hq, h⟩ := Option.map_eq_some_iff.1 h
    · subst h
      have he := eqV_ok hP.ty hq hx hy
      obtain ⟨e1, e2, e3, e4⟩ := eqV_shape hq hx hy t
      refine hg _ (guard_plain (fun h => hP.dig t (e4 h)) e3) ⟨.bool r, ?_, RVal.vv rfl⟩
      rw [e1, Sem.run_bind, he]; rfl
  · obtain ⟨r, hq, h⟩ := Option.map_eq_some_iff.1 h
    · subst h
      have he := eqV_ok hP.ty hq hx hy
      obtain ⟨e1, e2, e3, e4⟩ := eqV_shape hq hx hy t
      refine hg _ (guard_plain (fun h => hP.dig t (e4 h)) e3) ⟨.bool (!r), ?_, RVal.vv rfl⟩
      rw [e2, Sem.run_bind, he]; rfl
  · cases h

theorem opt_map_ok {I : Nat → Nat → Prop} (hA : ActAt w I A a) (o : Option Operand) : (o.map (evalO A) = Option.none ∧ o.map a.eval = Option.none) ∨ ∃ d v, o.map (evalO A) = some d ∧ o.map a.eval = some v ∧ RVal w I d v := by
  cases o with
  | none => exact .inl ⟨rfl, rfl⟩
  | some x => exact .inr ⟨_, _, rfl, rfl, evalO_ok hA x⟩

theorem evalV_ok (hP : Prg P T) (hS : StAt w S) (hA : ActAt w S.I A a) {o : Oper} {d : D} (h : evalV T A S.bk o.op = some d) : ∃ y, (execOp a.eval o).run P w = .ok (.value y) w ∧ RVal w S.I d y := by
  obtain ⟨dst, op, type, pos, after, guard⟩ := o
  simp only at h
  unfold evalV at h
  split at h
  · simp only [Option.some.injEq] at h; subst h; exact ⟨_, rfl, evalO_ok hA _⟩
  · simp only [Option.some.injEq] at h; subst h; exact ⟨_, rfl, evalO_ok hA _⟩
  · rename_i c x y
    split at h
    · rename_i t e
      simp only [Option.some.injEq] at h
      subst h
      have hc := evalO_ok hA c
      rw [e] at hc
      unfold RVal at hc
      obtain ⟨hc, -⟩ := hc
      refine ⟨if t = true then a.eval x else a.eval y, by simp [execOp, hc, Sem.run_bind, asBool], ?_⟩
      cases t
      · exact evalO_ok hA y
      · exact evalO_ok hA x
    · cases h
  · rename_i t ps
    have := buildV_ok (P := P) (w := w) (I := S.I) hP.ty h (ps.toList.map fun p => (p.1, a.eval p.2)) (by simp) (fun j p v hp hv => by
      simp only [List.getElem?_map, Option.map_eq_some_iff] at hp hv
      obtain ⟨q, hq, rfl⟩ := hp
      obtain ⟨q', hq', rfl⟩ := hv
      rw [hq] at hq'
      simp only [Option.some.injEq] at hq'
      subst hq'
      exact ⟨rfl, evalO_ok hA _⟩)
    have h2 := this.op
    have e : (List.map (fun p => (p.1, a.eval p.2)) ps.toList).toArray = ps.map fun (p : Nat × Operand) => (p.1, a.eval p.2) := by apply Array.ext'; simp
    rw [e] at h2
    exact h2
  · exact (loadV_ok hP.ty hS h (evalO_ok hA _)).op
  · rename_i x
    have hx := evalO_ok hA x
    unfold nilV at h
    split at h
    · rename_i d e
      rw [e] at hx
      simp only [Option.some.injEq] at h
      subst h
      refine ⟨a.eval x, ?_, hx⟩
      unfold RVal RV at hx
      obtain ⟨b, o, ys, hx, -⟩ := hx
      simp only [List.cons.injEq, and_true] at hx
      simp only [execOp, hx]
      rfl
    all_goals first
      | (rename_i e
         rw [e] at hx
         simp only [Option.some.injEq] at h
         subst h
         refine ⟨a.eval x, ?_, hx⟩
         unfold RVal at hx
         obtain ⟨hx, -⟩ := hx
         simp only [execOp, hx]
         rfl)
      | (cases h; done)
  · rename_i op t x y t2
    have hx := evalO_ok hA x
    have hy := evalO_ok hA y
    split at h
    · rename_i ht ex ey
      rw [ex] at hx
      rw [ey] at hy
      unfold RVal at hx hy
      obtain ⟨hx, -⟩ := hx
      obtain ⟨hy, -⟩ := hy
      split at h
      · rename_i hc
        simp only [Option.some.injEq] at h
        subst h
        have ok := hP.ty t (by rw [ht]; simp)
        rw [ht] at ok
        obtain ⟨dd, h1, h2⟩ := ok.desc
        simp only [Ty.isDesc] at h2
        obtain ⟨m, rfl⟩ := h2
        refine ⟨_, ?_, RVal.vv rfl⟩
        have hg : (eqGuard .eql t x y .nilIface .nilIface).run P w = .ok () w := by
          rcases hc with hc | hc
          · cases x <;> first | (simp [eqGuard]; done) | cases hc
          · cases y <;> first | (simp [eqGuard]; done) | cases hc
        have he : (Op.equal t .nilIface .nilIface).run P w = .ok true w := by
          suffices key : ∀ n, (Op.equalIn (n + 1) t .nilIface .nilIface).run P w = .ok true w from key 9999
          intro n
          rw [Op.equalIn, Sem.run_bind, run_underlying h1, Result.andThen_ok]; rfl
        simp only [execOp, hx, hy, Sem.run_bind, hg, Result.andThen_ok]
        rw [show binOp .eql t .nilIface .nilIface = (do pure (.bool (← Op.equal t .nilIface .nilIface))) from rfl, Sem.run_bind, he]
        rfl
      · cases h
    · rename_i ht ex ey
      rw [ex] at hx
      rw [ey] at hy
      unfold RVal at hx hy
      obtain ⟨hx, -⟩ := hx
      obtain ⟨hy, -⟩ := hy
      split at h
      · rename_i hc
        simp only [Option.some.injEq] at h
        subst h
        have ok := hP.ty t (by rw [ht]; simp)
        rw [ht] at ok
        obtain ⟨dd, h1, h2⟩ := ok.desc
        simp only [Ty.isDesc] at h2
        obtain ⟨m, rfl⟩ := h2
        refine ⟨_, ?_, RVal.vv rfl⟩
        have hg : (eqGuard .neq t x y .nilIface .nilIface).run P w = .ok () w := by
          rcases hc with hc | hc
          · cases x <;> first | (simp [eqGuard]; done) | cases hc
          · cases y <;> first | (simp [eqGuard]; done) | cases hc
        have he : (Op.equal t .nilIface .nilIface).run P w = .ok true w := by
          suffices key : ∀ n, (Op.equalIn (n + 1) t .nilIface .nilIface).run P w = .ok true w from key 9999
          intro n
          rw [Op.equalIn, Sem.run_bind, run_underlying h1, Result.andThen_ok]; rfl
        simp only [execOp, hx, hy, Sem.run_bind, hg, Result.andThen_ok]
        rw [show binOp .neq t .nilIface .nilIface = (do pure (.bool (!(← Op.equal t .nilIface .nilIface)))) from rfl, Sem.run_bind, he]
        rfl
      · cases h
    · exact (binV_ok hP (ox := x) (oy := y) h hx hy).op
  · rename_i op t x
    have hx := evalO_ok hA x
    split at h
    · rename_i b e
      rw [e] at hx
      unfold RVal at hx
      obtain ⟨hx, -⟩ := hx
      simp only [Option.some.injEq] at h
      subst h
      exact ⟨_, by simp only [execOp, hx]; rfl, RVal.vv rfl⟩
    · rename_i k n e
      rw [e] at hx
      unfold RVal at hx
      obtain ⟨hx, -⟩ := hx
      simp only [Option.some.injEq] at h
      subst h
      exact ⟨_, by simp only [execOp, hx]; rfl, RVal.vv rfl⟩
    · cases h
  · exact (convV_ok hP.ty h (evalO_ok hA _)).op
  · rename_i t x
    have hx := evalO_ok hA x
    have key : ∀ y, (T t).known = true → (∀ e, T t ≠ e → True) → T t ≠ .iface → a.eval x = y → (execOp a.eval { dst, op := .makeInterface t x, type, pos, after, guard }).run P w = .ok (.value (.iface t y)) w := by
      intro y hk _ hi hy
      have ok := hP.ty t (Ty.known_ne hk)
      obtain ⟨dd, h1, h2⟩ := ok.desc
      have hc : P.concrete t = true := by
        unfold Program.concrete
        rw [h1]
        cases hty : T t <;> rw [hty] at h2 <;> simp only [Ty.isDesc] at h2 <;> first | (subst h2; rfl) | (obtain ⟨_, rfl, _⟩ := h2; rfl) | (obtain ⟨_, rfl⟩ := h2; first | rfl | exact absurd hty hi) | (obtain ⟨_, _, _, rfl⟩ := h2; rfl) | (rw [hty] at hk; cases hk)
      simp only [execOp, hy, Sem.run_bind, run_makeInterface w t y hc]
      rfl
    unfold ifaceV at h
    split at h
    · cases h
    · cases h
    · rename_i y e h1 h2
      rw [e] at hx
      unfold RVal at hx
      obtain ⟨hx, -⟩ := hx
      simp only [Option.some.injEq] at h
      subst h
      exact ⟨_, key y (by cases hty : T t <;> first | rfl | exact absurd hty h2) (fun _ _ => trivial) h1 hx, RVal.vv rfl⟩
    · rename_i e h1 h2
      rw [e] at hx
      unfold RVal RVs at hx
      obtain ⟨us, hx, rfl⟩ := hx
      simp only [Option.some.injEq] at h
      subst h
      exact ⟨_, key (.agg #[]) (by cases hty : T t <;> first | rfl | exact absurd hty h2) (fun _ _ => trivial) h1 hx, RVal.vv rfl⟩
    · cases h
  · rename_i fn f c
    split at h
    · rename_i f' c' h1 h2
      simp only [Option.some.injEq] at h
      subst h
      have e1 := valsO_ok hA h1
      have e2 := valsO_ok hA h2
      refine ⟨_, ?_, RVal.vv rfl⟩
      have e3 : f.map a.eval = f'.toArray := by apply Array.ext'; simpa using e1
      have e4 : c.map a.eval = c'.toArray := by apply Array.ext'; simpa using e2
      simp only [execOp, e3, e4]
      rfl
    · cases h
  · rename_i t x lo hi mx
    exact (sliceV_ok hP.ty h (evalO_ok hA x) (opt_map_ok hA lo) (opt_map_ok hA hi) (opt_map_ok hA mx)).op
  · exact (fieldAddrV_ok hP.ty h (evalO_ok hA _)).op
  · exact (fieldV_ok hP.ty h (evalO_ok hA _)).op
  · exact (indexAddrV_ok hP.ty h (evalO_ok hA _) (evalO_ok hA _)).op
  · exact (indexV_ok hP.ty h (evalO_ok hA _) (evalO_ok hA _)).op
  · rename_i x i
    split at h
    · rename_i ds e
      have hx := evalO_ok hA x
      rw [e] at hx
      unfold RVal at hx
      obtain ⟨xs, hx, hr⟩ := hx
      obtain ⟨y, h1, h2⟩ := hr.get h
      exact ⟨y, by simp [execOp, hx, Instr.extract, h1], h2⟩
    · cases h
  · rename_i c
    obtain ⟨callee, args, ats⟩ := c
    obtain ⟨args⟩ := args
    obtain ⟨ats⟩ := ats
    unfold callV at h
    simp only at h
    split at h
    · rename_i dx t e1
      obtain ⟨x, rfl, rfl⟩ := map_one e1
      obtain ⟨y, h1, h2⟩ := lenV_ok (P := P) (ty := type) hP.ty (ats := #[t]) rfl h (evalO_ok hA x)
      refine ⟨y, ?_, h2⟩
      simp only [execOp, resolve, Sem.run_bind, Sem.run_pure, Result.andThen_ok, invoke, builtin]
      simp only [List.map_toArray, List.map_cons, List.map_nil, h1, Result.andThen_ok]
    · rename_i dx dy e1
      obtain ⟨x, y, rfl, rfl, rfl⟩ := map_two e1
      have hx := evalO_ok hA x
      have hy := evalO_ok hA y
      split at h
      · rename_i k n k' m ex ey
        rw [ex] at hx
        rw [ey] at hy
        unfold RVal at hx hy
        obtain ⟨hx, -⟩ := hx
        obtain ⟨hy, -⟩ := hy
        simp only [Option.some.injEq] at h
        subst h
        refine ⟨_, ?_, RVal.vv rfl⟩
        simp only [execOp, resolve, Sem.run_bind, Sem.run_pure, Result.andThen_ok, invoke, builtin, List.map_toArray, List.map_cons, List.map_nil, hx, hy, Builtin.max_, List.foldlM_cons, List.foldlM_nil, Builtin.max2]
      · cases h
    · cases h
  · cases h
end

end Go.Proofs.YtemicgccgcmmbaaGreat
