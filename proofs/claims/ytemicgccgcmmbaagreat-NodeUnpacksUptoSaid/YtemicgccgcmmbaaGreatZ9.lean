/- Plain laws: what is laid is read, and what is read was laid: numbers, texts, digests, pairs. -/
import Derived.Test.YtemicgccgcmmbaaGreatZ8
import Derived.Test.YtemicgccgcmmbaaGreatZ4
import Derived.Test.YtemicgccgcmmbaaGreatZ0
import Derived.IntWalk
namespace Go.Proofs.YtemicgccgcmmbaaGreat
set_option linter.unusedVariables false
set_option linter.unusedSimpArgs false
open Go Go.RowKit

theorem byteN (n : Nat) (h : n < 256) : (n.toUInt8).toNat = n := by
  rw [Nat.toUInt8, UInt8.toNat_ofNat']; exact Nat.mod_eq_of_lt (by omega)
theorem nByte (b : UInt8) : b.toNat.toUInt8 = b := by simp
theorem freeB_pos (n : Nat) : 1 ≤ (freeB n).length := by rw [freeB_length]; exact cntN_pos n

/-- A free number that is laid is read. -/
theorem vrd_free : ∀ (n k acc : Nat) (l : Bs), (0 < k → 0 < n) → k ≤ 63 → k % 7 = 0 → n * 2 ^ k < 18446744073709551616 → vrd (freeB n ++ l) k acc = some (acc + n * 2 ^ k, l) := by
  intro n
  induction n using Nat.strongRecOn with
  | ind n ih =>
    intro k acc l h0 hk h7 hn
    by_cases h : n < 128
    · rw [freeB_small h]
      simp only [List.singleton_append]
      unfold vrd
      rw [byteN n (by omega), if_neg, if_pos h]
      rintro (⟨h1, h2⟩ | ⟨h1, h2⟩)
      · subst h1
        have : 2 * 2 ^ 63 ≤ n * 2 ^ 63 := Nat.mul_le_mul_right _ h2
        omega
      · have := h0 h1; omega
    · rw [freeB_big h]
      simp only [List.cons_append]
      unfold vrd
      have hk57 : k ≤ 56 := by
        rcases Nat.lt_or_ge 56 k with h1 | h1
        · have hk63 : k = 63 := by omega
          subst hk63
          have : 128 * 2 ^ 63 ≤ n * 2 ^ 63 := Nat.mul_le_mul_right _ (by omega)
          omega
        · exact h1
      have hm : n % 128 + 128 < 256 := by omega
      have hs : n * 2 ^ k = n % 128 * 2 ^ k + n / 128 * 2 ^ (k + 7) := by
        rw [Nat.pow_add, show n / 128 * (2 ^ k * 2 ^ 7) = (n / 128 * 128) * 2 ^ k by rw [Nat.mul_assoc, Nat.mul_comm (2 ^ k) (2 ^ 7)], ← Nat.add_mul]
        congr 1; omega
      rw [byteN _ hm, if_neg (by rintro (⟨h1, h2⟩ | ⟨h1, h2⟩) <;> omega), if_neg (by omega), ih (n / 128) (by omega) (k + 7) _ l (fun _ => by omega) (by omega) (by omega) (by omega)]
      rw [show (n % 128 + 128) % 128 = n % 128 by omega, Nat.add_assoc, ← hs]

theorem freeP_free {m n : Nat} {l : Bs} (h : n ≤ m) (h64 : n < 18446744073709551616) : freeP m (freeB n ++ l) = some (n, l) := by
  unfold freeP
  rw [vrd_free n 0 0 l (by omega) (by omega) (by omega) (by omega)]
  simp [h]

/-- A free number that is read was laid so. -/
theorem free_vrd : ∀ (l : Bs) (k acc m : Nat) (l' : Bs), vrd l k acc = some (m, l') → ∃ n, l = freeB n ++ l' ∧ m = acc + n * 2 ^ k ∧ (0 < k → 0 < n)
  | [], _, _, _, _, h => by simp [vrd] at h
  | b :: l, k, acc, m, l', h => by
    unfold vrd at h
    split at h
    · cases h
    · rename_i hc
      have hb := b.toNat_lt
      split at h
      · rename_i hlt
        simp only [Option.some.injEq, Prod.mk.injEq] at h
        obtain ⟨rfl, rfl⟩ := h
        refine ⟨b.toNat, ?_, rfl, fun h0 => ?_⟩
        · rw [freeB_small hlt, nByte]; rfl
        · omega
      · rename_i hge
        obtain ⟨n, rfl, hm, h0⟩ := free_vrd l _ _ _ _ h
        have h0' := h0 (by omega)
        have hb8 : 128 ≤ b.toNat := by omega
        refine ⟨b.toNat % 128 + 128 * n, ?_, ?_, fun _ => by clear hm; omega⟩
        · rw [freeB_big (n := b.toNat % 128 + 128 * n) (by omega)]
          have e1 : (b.toNat % 128 + 128 * n) % 128 + 128 = b.toNat := by omega
          have e2 : (b.toNat % 128 + 128 * n) / 128 = n := by omega
          rw [e1, e2, nByte]; rfl
        · rw [hm, Nat.pow_add, Nat.add_mul, Nat.add_assoc]
          congr 2
          rw [show n * (2 ^ k * 2 ^ 7) = 128 * n * 2 ^ k by rw [Nat.mul_comm (2 ^ k) (2 ^ 7), ← Nat.mul_assoc, Nat.mul_comm n (2 ^ 7)]]

theorem free_freeP {m n : Nat} {l l' : Bs} (h : freeP m l = some (n, l')) : l = freeB n ++ l' := by
  unfold freeP at h
  cases hv : vrd l 0 0 with
  | none => simp [hv] at h
  | some r =>
    obtain ⟨n', l''⟩ := r
    simp only [hv] at h
    split at h
    · simp only [Option.some.injEq, Prod.mk.injEq] at h
      obtain ⟨rfl, rfl⟩ := h
      obtain ⟨n, h1, h2, _⟩ := free_vrd _ _ _ _ _ hv
      simp at h2; subst h2; exact h1
    · cases h

theorem textP_text {m : Nat} {t l : Bs} (h : t.length ≤ m) (h64 : t.length < 18446744073709551616) : textP m (textB t ++ l) = some (t, l) := by
  unfold textP textB
  rw [List.append_assoc, freeP_free h h64]
  simp [rawP]
theorem text_textP {m : Nat} {t l l' : Bs} (h : textP m l = some (t, l')) : l = textB t ++ l' := by
  unfold textP at h
  cases hf : freeP m l with
  | none => simp [hf] at h
  | some r =>
    obtain ⟨n, l1⟩ := r
    simp only [hf, rawP] at h
    split at h
    · rename_i hle
      simp only [Option.some.injEq, Prod.mk.injEq] at h
      obtain ⟨rfl, rfl⟩ := h
      rw [free_freeP hf, textB, List.length_take, Nat.min_eq_left hle, List.append_assoc, List.take_append_drop]
    · cases h

theorem be_fix : ∀ (k n acc : Nat), be (fixB k n) acc = acc * 256 ^ k + n % 256 ^ k
  | 0, n, acc => by simp [fixB, be, Nat.mod_one]
  | k + 1, n, acc => by
    simp only [fixB, be]
    rw [be_fix k n, byteN _ (by omega), Nat.pow_succ, Nat.add_mul, Nat.mod_mul, Nat.mul_comm (256 ^ k) 256, Nat.mul_assoc, Nat.mul_comm (256 ^ k) (n / 256 ^ k % 256)]
    omega
theorem fix_be : ∀ (l : Bs) , fixB l.length (be l 0) = l := by
  have key : ∀ (l : Bs) (acc : Nat), fixB l.length (be l acc) = l := by
    intro l
    induction l with
    | nil => intro acc; rfl
    | cons b l ih =>
      intro acc
      simp only [be, List.length_cons, fixB]
      have h1 : be l (acc * 256 + b.toNat) = (acc * 256 + b.toNat) * 256 ^ l.length + be l 0 := by
        have h2 := be_le' l (acc * 256 + b.toNat)
        exact h2
      have hlt := be_lt l
      have hb := b.toNat_lt
      rw [ih]
      congr 1
      rw [h1, Nat.mul_comm, Nat.mul_add_div (Nat.pow_pos (by omega)), Nat.div_eq_of_lt hlt]
      rw [show (acc * 256 + b.toNat + 0) % 256 = b.toNat by omega, nByte]
  exact fun l => key l 0
where be_le' : ∀ (l : Bs) (acc : Nat), be l acc = acc * 256 ^ l.length + be l 0
  | [], acc => by simp [be]
  | b :: l, acc => by
    simp only [be, List.length_cons, Nat.zero_mul, Nat.zero_add]
    rw [be_le' l (acc * 256 + b.toNat), be_le' l b.toNat, Nat.pow_succ, Nat.add_mul]
    rw [Nat.mul_assoc, Nat.mul_comm 256]; omega

theorem takeP_fix {n : Nat} {l : Bs} (k : Nat) (h : n < 256 ^ k) : takeP k (fixB k n ++ l) = some (n, l) := by
  unfold takeP
  have hl := fixB_len k n
  rw [if_pos (by simp [hl]), List.take_append_of_le_length (by omega), List.take_of_length_le (by omega), be_fix, List.drop_append_of_le_length (by omega), List.drop_of_length_le (by omega)]
  simp [Nat.mod_eq_of_lt h]
theorem fix_takeP {k n : Nat} {l l' : Bs} (h : takeP k l = some (n, l')) : l = fixB k n ++ l' := by
  unfold takeP at h
  split at h
  · rename_i hk
    simp only [Option.some.injEq, Prod.mk.injEq] at h
    obtain ⟨rfl, rfl⟩ := h
    have := fix_be (l.take k)
    rw [List.length_take, Nat.min_eq_left hk] at this
    rw [this, List.take_append_drop]
  · cases h

theorem dgP_dg {wd : Nat} {d : Dg} {l : Bs} (h1 : wd ≤ 32) (h : Dg.cut wd d = d) : dgP wd (d.l.take wd ++ l) = some (d, l) := by
  have hd := d.h
  unfold dgP rawP
  rw [if_pos (by simp; omega)]
  have ht : (d.l.take wd ++ l).take wd = d.l.take wd := by rw [List.take_append_of_le_length (by simp; omega), List.take_take, Nat.min_self]
  have hdr : (d.l.take wd ++ l).drop wd = l := by rw [List.drop_append_of_le_length (by simp; omega), List.drop_of_length_le (by simp; omega)]; rfl
  rw [ht, hdr]
  exact congrArg (fun x => some (x, l)) h
theorem pad_take {wd : Nat} {l : Bs} (h : wd ≤ 32) (hl : wd ≤ l.length) : (Dg.pad (l.take wd)).l.take wd = l.take wd := by
  show (padB (l.take wd)).take wd = l.take wd
  unfold padB
  rw [List.take_take, Nat.min_eq_right h, List.take_append_of_le_length (by simp; omega), List.take_take, Nat.min_self]
theorem dg_dgP {wd : Nat} {d : Dg} {l l' : Bs} (h1 : wd ≤ 32) (h : dgP wd l = some (d, l')) : l = d.l.take wd ++ l' := by
  unfold dgP rawP at h
  split at h
  · rename_i hk
    simp only [Option.map_some, Option.some.injEq, Prod.mk.injEq] at h
    obtain ⟨rfl, rfl⟩ := h
    rw [pad_take h1 hk, List.take_append_drop]
  · simp at h

theorem pairP_pair {P : Nat} {x : Pr} {l : Bs} (h1 : x.1.length ≤ P / 16) (h2 : x.2.length ≤ P / 8) (hP : P ≤ 8192) : pairP P () (pairB x ++ l) = some ((), x, l) := by
  unfold pairP pairB
  rw [List.append_assoc, textP_text h1 (by omega)]
  simp only
  rw [textP_text h2 (by omega)]
theorem pair_pairP {P : Nat} {u u' : Unit} {x : Pr} {l l' : Bs} (h : pairP P u l = some (u', x, l')) : l = pairB x ++ l' := by
  unfold pairP at h
  cases h1 : textP (P / 16) l with
  | none => simp [h1] at h
  | some r =>
    obtain ⟨k, l1⟩ := r
    cases h2 : textP (P / 8) l1 with
    | none => simp [h1, h2] at h
    | some r2 =>
      obtain ⟨v, l2⟩ := r2
      simp only [h1, h2, Option.some.injEq, Prod.mk.injEq] at h
      obtain ⟨_, rfl, rfl⟩ := h
      rw [text_textP h1, text_textP h2, pairB, List.append_assoc]

theorem many_pairs {P : Nat} (hP : P ≤ 8192) : ∀ (ps : List Pr) (l : Bs), (∀ x ∈ ps, x.1.length ≤ P / 16 ∧ x.2.length ≤ P / 8) → manyP (pairP P) ps.length () (pairsB ps ++ l) = some ((), ps, l)
  | [], l, _ => rfl
  | x :: t, l, h => by
    have hx := h x (by simp)
    have ih := many_pairs hP t l (fun y hy => h y (by simp [hy]))
    show manyP (pairP P) (t.length + 1) () ((pairB x ++ pairsB t) ++ l) = _
    rw [List.append_assoc]
    unfold manyP
    rw [pairP_pair hx.1 hx.2 hP]
    simp only [ih]
theorem pairs_many {P : Nat} : ∀ (n : Nat) (ps : List Pr) (u : Unit) (l l' : Bs), manyP (pairP P) n () l = some (u, ps, l') → l = pairsB ps ++ l' ∧ ps.length = n
  | 0, ps, u, l, l', h => by
    simp only [manyP, Option.some.injEq, Prod.mk.injEq] at h
    obtain ⟨_, rfl, rfl⟩ := h; exact ⟨rfl, rfl⟩
  | n + 1, ps, u, l, l', h => by
    unfold manyP at h
    cases h1 : pairP P () l with
    | none => simp [h1] at h
    | some r =>
      obtain ⟨_, x, l1⟩ := r
      cases h2 : manyP (pairP P) n () l1 with
      | none => simp [h1, h2] at h
      | some r2 =>
        obtain ⟨_, ts, l2⟩ := r2
        simp only [h1, h2, Option.some.injEq, Prod.mk.injEq] at h
        obtain ⟨_, rfl, rfl⟩ := h
        obtain ⟨e1, e2⟩ := pairs_many n ts _ _ _ h2
        refine ⟨?_, by simp [e2]⟩
        rw [pair_pairP h1, e1, ← List.append_assoc]; rfl

theorem sum_ge {α : Type} (f : α → Nat) (B : Nat) : ∀ (l : List α), (∀ x ∈ l, B ≤ f x) → l.length * B ≤ (l.map f).sum
  | [], _ => by simp
  | x :: t, h => by
    have h1 := sum_ge f B t (fun y hy => h y (by simp [hy]))
    have h2 := h x (by simp)
    simp only [List.map_cons, List.sum_cons, List.length_cons, Nat.succ_mul]
    omega
theorem pairsB_ge (ps : List Pr) : ps.length ≤ (pairsB ps).length := by
  rw [pairsB_length]
  have := sum_ge prN 1 ps (fun x _ => by have := cntN_pos x.1.length; unfold prN txN; omega)
  omega

/-- All pairs that are laid are read. -/
theorem list_pairsB {P m : Nat} (hP : P ≤ 8192) {ps : List Pr} {l : Bs} (h : ∀ x ∈ ps, x.1.length ≤ P / 16 ∧ x.2.length ≤ P / 8) (hm : ps.length ≤ m) (h64 : ps.length < 18446744073709551616) :
    listP m (pairP P) () (freeB ps.length ++ pairsB ps ++ l) = some ((), ps, l) := by
  unfold listP
  rw [List.append_assoc, freeP_free hm h64]
  simp only
  rw [if_pos (by have := pairsB_ge ps; simp; omega), many_pairs hP ps l h]
theorem pairsB_list {P m : Nat} {ps : List Pr} {u : Unit} {l l' : Bs} (h : listP m (pairP P) () l = some (u, ps, l')) : l = freeB ps.length ++ pairsB ps ++ l' := by
  unfold listP at h
  cases hf : freeP m l with
  | none => simp [hf] at h
  | some r =>
    obtain ⟨n, l1⟩ := r
    simp only [hf] at h
    split at h
    · obtain ⟨e1, e2⟩ := pairs_many n ps u l1 l' h
      rw [free_freeP hf, e1, e2, List.append_assoc]
    · cases h

end Go.Proofs.YtemicgccgcmmbaaGreat

/- The document's reader (values without addresses). -/
namespace Go.Proofs.YtemicgccgcmmbaaGreat
set_option linter.unusedVariables false
set_option linter.unusedSimpArgs false
open Go Go.RowKit

/-- A reader: its bytes, its place, its fault. -/
@[go_sem] def rrD (s : Bs) (p c : Int) : D := .agg [sD s, iD p, iD c]
/-- What is left of the bytes; nothing: it has failed. -/
def RrIs (s : Bs) (o : Option Bs) (p c : Int) : Prop :=
  match o with
  | some l => c = 0 ∧ ∃ k : Nat, p = k ∧ k + l.length = s.length ∧ l = s.drop k
  | none => c ≠ 0 ∧ ∃ k : Nat, p = k ∧ k ≤ s.length
/-- A reader lies in block b. -/
def RrSt (S : Sto) (b : Nat) (s : Bs) (o : Option Bs) : Prop := ∃ t p c, getM S.bk b = some (t, rrD s p c) ∧ RrIs s o p c
/-- The reader in block b has gone on. -/
def RrTo (S : Sto) (b : Nat) (s : Bs) (o : Option Bs) (S' : Sto) : Prop := ∃ p c, S' = ⟨setM S.bk b (rrD s p c), S.ow⟩ ∧ RrIs s o p c
theorem RrTo.st {S S' : Sto} {b : Nat} {s : Bs} {o o' : Option Bs} (h : RrSt S b s o) (k : RrTo S b s o' S') : RrSt S' b s o' := by
  obtain ⟨t, p, c, h1, _⟩ := h
  obtain ⟨p', c', rfl, h2⟩ := k
  exact ⟨t, p', c', by rw [getM_setM, h1]; rfl, h2⟩
theorem RrTo.trans {S S1 S2 : Sto} {b : Nat} {s : Bs} {o1 o2 : Option Bs} (h : RrTo S b s o1 S1) (k : RrTo S1 b s o2 S2) : RrTo S b s o2 S2 := by
  obtain ⟨p, c, rfl, _⟩ := h
  obtain ⟨p', c', rfl, h2⟩ := k
  exact ⟨p', c', by rw [setM_setM], h2⟩
theorem RrTo.same {S : Sto} {b : Nat} {s : Bs} {o : Option Bs} (h : RrSt S b s o) : RrTo S b s o S := by
  obtain ⟨t, p, c, h1, h2⟩ := h
  exact ⟨p, c, by rw [setM_same h1], h2⟩

def gv {α : Type} (f : Bs → Option (α × Bs)) (d : α) (o : Option Bs) : α := ((o.bind f).map (·.1)).getD d
def gr {α : Type} (f : Bs → Option (α × Bs)) (o : Option Bs) : Option Bs := (o.bind f).map (·.2)

theorem gv_some {α : Type} {f : Bs → Option (α × Bs)} {d x : α} {l l' : Bs} (h : f l = some (x, l')) : gv f d (some l) = x := by simp [gv, h]
theorem gr_some {α : Type} {f : Bs → Option (α × Bs)} {x : α} {l l' : Bs} (h : f l = some (x, l')) : gr f (some l) = some l' := by simp [gr, h]
theorem gv_none {α : Type} {f : Bs → Option (α × Bs)} {d : α} {l : Bs} (h : f l = none) : gv f d (some l) = d := by simp [gv, h]
theorem gr_none {α : Type} {f : Bs → Option (α × Bs)} {l : Bs} (h : f l = none) : gr f (some l) = none := by simp [gr, h]

set_option maxHeartbeats 1000000 in set_option maxRecDepth 100000 in
theorem aLeft (b : Nat) (s : Bs) (p c : Int) (S : Sto) (t : TypeId) (hb : getM S.bk b = some (t, rrD s p c)) (h0 : 0 ≤ p) (h1 : p ≤ s.length) (hs : s.length ≤ 140737488351232) :
    ACalls Tryz.prog 114 [pD b] S (RetQ (iD (s.length - p)) S) := by
  have e : IntKind.i64.wrap ((s.length : Int) - p) = s.length - p := IntWalk.i64_in _ (by omega)
  refine acalls_of prg Tryz.func114 rfl (by kernel_rfl) (congrArg Array.toList Tryz.results114) Tryz.ntmps114 (fun B hB => ?_); simp only [List.length_cons, List.length_nil, Nat.reduceAdd, Nat.reduceSub, List.replicate_succ, List.replicate_zero, List.cons_append, List.nil_append]
  repeat (first | ((first | apply AOps.goP prg | apply ALex.goP prg); (case run => simp only [go_sem, Int.reduceEq, Int.reduceLT, Int.reduceBEq, Int.reduceBNe, Int.reduceNe, Nat.reduceLeDiff, Nat.reduceAdd, Nat.reduceSub, Nat.reduceLT, Nat.reduceEqDiff, Nat.reduceBEq, Int.reduceLE, Int.reduceToNat, hb, e]; rfl); (case mm => simp only [go_sem, Int.reduceEq, Int.reduceLT, Int.reduceBEq, Int.reduceBNe, Int.reduceNe, Nat.reduceLeDiff, Nat.reduceAdd, Nat.reduceSub, Nat.reduceLT, Nat.reduceEqDiff, Nat.reduceBEq, Int.reduceLE, Int.reduceToNat]; rfl); (case pr => rfl)) | (refine AW.seq ?_) | (refine AW.region ?_) | (refine AW.draw prg (by kernel_rfl) ?_) | (refine AOps.nil ?_; try dsimp only [AX.then, AX.inBlock]) | (refine ALex.nil ?_; try dsimp only [AX.then, AX.inBlock]) | (refine AW.condT (by rfl) ?_) | (refine AW.condF (by rfl) ?_) | (refine AW.skip ?_; try dsimp only [AX.then, AX.inBlock]) | (refine AW.ret ?_; try dsimp only [AX.then, AX.inBlock]) | (refine AW.block ?_) | (refine AW.exit ?_; simp only [AX.then, AX.inBlock, if_true, Nat.reduceEqDiff, if_false]))
  first | exact endq (by simp only [go_sem, Int.reduceEq, Int.reduceLT, Int.reduceBEq, Int.reduceBNe, Int.reduceNe, Nat.reduceLeDiff, Nat.reduceAdd, Nat.reduceSub, Nat.reduceLT, Nat.reduceEqDiff, Nat.reduceBEq, Int.reduceLE, Int.reduceToNat]; rfl) (by rfl) (Sto.Sub.refl _) | exact endn (by simp only [go_sem, Int.reduceEq, Int.reduceLT, Int.reduceBEq, Int.reduceBNe, Int.reduceNe, Nat.reduceLeDiff, Nat.reduceAdd, Nat.reduceSub, Nat.reduceLT, Nat.reduceEqDiff, Nat.reduceBEq, Int.reduceLE, Int.reduceToNat]; rfl) (by rfl) (Sto.Sub.refl _)

set_option maxHeartbeats 1000000 in set_option maxRecDepth 100000 in
theorem aFail (b : Nat) (s : Bs) (p c code at_ : Int) (S : Sto) (t : TypeId) (hb : getM S.bk b = some (t, rrD s p c)) :
    ACalls Tryz.prog 115 [pD b, iD code, iD at_] S (RetQ (.tup []) ⟨setM S.bk b (rrD s at_ code), S.ow⟩) := by
  refine acalls_of prg Tryz.func115 rfl (by kernel_rfl) (congrArg Array.toList Tryz.results115) Tryz.ntmps115 (fun B hB => ?_); simp only [List.length_cons, List.length_nil, Nat.reduceAdd, Nat.reduceSub, List.replicate_succ, List.replicate_zero, List.cons_append, List.nil_append]
  repeat (first | ((first | apply AOps.goP prg | apply ALex.goP prg); (case run => simp only [go_sem, Int.reduceEq, Int.reduceLT, Int.reduceBEq, Int.reduceBNe, Int.reduceNe, Nat.reduceLeDiff, Nat.reduceAdd, Nat.reduceSub, Nat.reduceLT, Nat.reduceEqDiff, Nat.reduceBEq, Int.reduceLE, Int.reduceToNat, hb]; rfl); (case mm => simp only [go_sem, Int.reduceEq, Int.reduceLT, Int.reduceBEq, Int.reduceBNe, Int.reduceNe, Nat.reduceLeDiff, Nat.reduceAdd, Nat.reduceSub, Nat.reduceLT, Nat.reduceEqDiff, Nat.reduceBEq, Int.reduceLE, Int.reduceToNat]; rfl); (case pr => rfl)) | (refine AW.seq ?_) | (refine AW.region ?_) | (refine AW.draw prg (by kernel_rfl) ?_) | (refine AOps.nil ?_; try dsimp only [AX.then, AX.inBlock]) | (refine ALex.nil ?_; try dsimp only [AX.then, AX.inBlock]) | (refine AW.condT (by rfl) ?_) | (refine AW.condF (by rfl) ?_) | (refine AW.skip ?_; try dsimp only [AX.then, AX.inBlock]) | (refine AW.ret ?_; try dsimp only [AX.then, AX.inBlock]) | (refine AW.block ?_) | (refine AW.exit ?_; simp only [AX.then, AX.inBlock, if_true, Nat.reduceEqDiff, if_false]))
  first | exact endq (by simp only [go_sem, Int.reduceEq, Int.reduceLT, Int.reduceBEq, Int.reduceBNe, Int.reduceNe, Nat.reduceLeDiff, Nat.reduceAdd, Nat.reduceSub, Nat.reduceLT, Nat.reduceEqDiff, Nat.reduceBEq, Int.reduceLE, Int.reduceToNat]; rfl) (by rfl) (Sto.Sub.refl _) | exact endn (by simp only [go_sem, Int.reduceEq, Int.reduceLT, Int.reduceBEq, Int.reduceBNe, Int.reduceNe, Nat.reduceLeDiff, Nat.reduceAdd, Nat.reduceSub, Nat.reduceLT, Nat.reduceEqDiff, Nat.reduceBEq, Int.reduceLE, Int.reduceToNat]; rfl) (by rfl) (Sto.Sub.refl _)

set_option maxHeartbeats 1000000 in set_option maxRecDepth 100000 in
theorem aRaw (b : Nat) (n : Int) (s : Bs) (o : Option Bs) (S : Sto) (h : RrSt S b s o) (hn : n ≤ 9223372036854775807) (hs : s.length ≤ 140737488351232) :
    ACalls Tryz.prog 118 [pD b, iD n] S (fun e S' => ∃ d, e = .ret d ∧ d = sD (gv (rawP n.toNat) [] o) ∧ RrTo S b s (gr (rawP n.toNat) o) S') := by
  have h0 := h
  obtain ⟨t, p, c, hb, hr⟩ := h
  refine acalls_of prg Tryz.func118 rfl (by kernel_rfl) (congrArg Array.toList Tryz.results118) Tryz.ntmps118 (fun B hB => ?_); simp only [List.length_cons, List.length_nil, Nat.reduceAdd, Nat.reduceSub, List.replicate_succ, List.replicate_zero, List.cons_append, List.nil_append]
  cases o with
  | none =>
    obtain ⟨hc, k, hp, hk⟩ := hr
    have h1 : (c != 0) = true := by simpa using hc
    repeat (first | ((first | apply AOps.goP prg | apply ALex.goP prg); (case run => simp only [go_sem, Int.reduceEq, Int.reduceLT, Int.reduceBEq, Int.reduceBNe, Int.reduceNe, Nat.reduceLeDiff, Nat.reduceAdd, Nat.reduceSub, Nat.reduceLT, Nat.reduceEqDiff, Nat.reduceBEq, Int.reduceLE, Int.reduceToNat, hb, h1]; rfl); (case mm => simp only [go_sem, Int.reduceEq, Int.reduceLT, Int.reduceBEq, Int.reduceBNe, Int.reduceNe, Nat.reduceLeDiff, Nat.reduceAdd, Nat.reduceSub, Nat.reduceLT, Nat.reduceEqDiff, Nat.reduceBEq, Int.reduceLE, Int.reduceToNat]; rfl); (case pr => rfl)) | (refine AW.seq ?_) | (refine AW.region ?_) | (refine AW.draw prg (by kernel_rfl) ?_) | (refine AOps.nil ?_; try dsimp only [AX.then, AX.inBlock]) | (refine ALex.nil ?_; try dsimp only [AX.then, AX.inBlock]) | (refine AW.condT (by rfl) ?_) | (refine AW.condF (by rfl) ?_) | (refine AW.skip ?_; try dsimp only [AX.then, AX.inBlock]) | (refine AW.ret ?_; try dsimp only [AX.then, AX.inBlock]) | (refine AW.block ?_) | (refine AW.exit ?_; simp only [AX.then, AX.inBlock, if_true, Nat.reduceEqDiff, if_false]))
    first | refine endx (by simp only [go_sem, Int.reduceEq, Int.reduceLT, Int.reduceBEq, Int.reduceBNe, Int.reduceNe, Nat.reduceLeDiff, Nat.reduceAdd, Nat.reduceSub, Nat.reduceLT, Nat.reduceEqDiff, Nat.reduceBEq, Int.reduceLE, Int.reduceToNat]; rfl) (by simp only [go_sem, Int.reduceEq, Int.reduceLT, Int.reduceBEq, Int.reduceBNe, Int.reduceNe, Nat.reduceLeDiff, Nat.reduceAdd, Nat.reduceSub, Nat.reduceLT, Nat.reduceEqDiff, Nat.reduceBEq, Int.reduceLE, Int.reduceToNat]; rfl) (Sto.Sub.refl _) ?_ | refine endnx (by simp only [go_sem, Int.reduceEq, Int.reduceLT, Int.reduceBEq, Int.reduceBNe, Int.reduceNe, Nat.reduceLeDiff, Nat.reduceAdd, Nat.reduceSub, Nat.reduceLT, Nat.reduceEqDiff, Nat.reduceBEq, Int.reduceLE, Int.reduceToNat]; rfl) (by simp only [go_sem, Int.reduceEq, Int.reduceLT, Int.reduceBEq, Int.reduceBNe, Int.reduceNe, Nat.reduceLeDiff, Nat.reduceAdd, Nat.reduceSub, Nat.reduceLT, Nat.reduceEqDiff, Nat.reduceBEq, Int.reduceLE, Int.reduceToNat]; rfl) (Sto.Sub.refl _) ?_
    exact ⟨rfl, RrTo.same h0⟩
  | some l =>
    obtain ⟨rfl, k, rfl, hk, hl⟩ := hr
    by_cases hn0 : n ≤ 0
    · have h1 : n.toNat = 0 := by omega
      have h2 : rawP 0 l = some ([], l) := by simp [rawP]
      have d1 : decide (n ≤ 0) = true := decide_eq_true hn0
      repeat (first | ((first | apply AOps.goP prg | apply ALex.goP prg); (case run => simp only [go_sem, Int.reduceEq, Int.reduceLT, Int.reduceBEq, Int.reduceBNe, Int.reduceNe, Nat.reduceLeDiff, Nat.reduceAdd, Nat.reduceSub, Nat.reduceLT, Nat.reduceEqDiff, Nat.reduceBEq, Int.reduceLE, Int.reduceToNat, hb, d1]; rfl); (case mm => simp only [go_sem, Int.reduceEq, Int.reduceLT, Int.reduceBEq, Int.reduceBNe, Int.reduceNe, Nat.reduceLeDiff, Nat.reduceAdd, Nat.reduceSub, Nat.reduceLT, Nat.reduceEqDiff, Nat.reduceBEq, Int.reduceLE, Int.reduceToNat]; rfl); (case pr => rfl)) | (refine AW.seq ?_) | (refine AW.region ?_) | (refine AW.draw prg (by kernel_rfl) ?_) | (refine AOps.nil ?_; try dsimp only [AX.then, AX.inBlock]) | (refine ALex.nil ?_; try dsimp only [AX.then, AX.inBlock]) | (refine AW.condT (by rfl) ?_) | (refine AW.condF (by rfl) ?_) | (refine AW.skip ?_; try dsimp only [AX.then, AX.inBlock]) | (refine AW.ret ?_; try dsimp only [AX.then, AX.inBlock]) | (refine AW.block ?_) | (refine AW.exit ?_; simp only [AX.then, AX.inBlock, if_true, Nat.reduceEqDiff, if_false]))
      first | refine endx (by simp only [go_sem, Int.reduceEq, Int.reduceLT, Int.reduceBEq, Int.reduceBNe, Int.reduceNe, Nat.reduceLeDiff, Nat.reduceAdd, Nat.reduceSub, Nat.reduceLT, Nat.reduceEqDiff, Nat.reduceBEq, Int.reduceLE, Int.reduceToNat]; rfl) (by simp only [go_sem, Int.reduceEq, Int.reduceLT, Int.reduceBEq, Int.reduceBNe, Int.reduceNe, Nat.reduceLeDiff, Nat.reduceAdd, Nat.reduceSub, Nat.reduceLT, Nat.reduceEqDiff, Nat.reduceBEq, Int.reduceLE, Int.reduceToNat]; rfl) (Sto.Sub.refl _) ?_ | refine endnx (by simp only [go_sem, Int.reduceEq, Int.reduceLT, Int.reduceBEq, Int.reduceBNe, Int.reduceNe, Nat.reduceLeDiff, Nat.reduceAdd, Nat.reduceSub, Nat.reduceLT, Nat.reduceEqDiff, Nat.reduceBEq, Int.reduceLE, Int.reduceToNat]; rfl) (by simp only [go_sem, Int.reduceEq, Int.reduceLT, Int.reduceBEq, Int.reduceBNe, Int.reduceNe, Nat.reduceLeDiff, Nat.reduceAdd, Nat.reduceSub, Nat.reduceLT, Nat.reduceEqDiff, Nat.reduceBEq, Int.reduceLE, Int.reduceToNat]; rfl) (Sto.Sub.refl _) ?_
      rw [h1]
      have h3 : gr (rawP 0) (some l) = some l := by simp [gr, h2]
      rw [h3]
      exact ⟨by simp [gv, h2], RrTo.same h0⟩
    · obtain ⟨m, rfl⟩ := Int.eq_ofNat_of_zero_le (show 0 ≤ n by omega)
      have d1 : decide ((m : Int) ≤ 0) = false := decide_eq_false hn0
      repeat (first | ((first | apply AOps.goP prg | apply ALex.goP prg); (case run => simp only [go_sem, Int.reduceEq, Int.reduceLT, Int.reduceBEq, Int.reduceBNe, Int.reduceNe, Nat.reduceLeDiff, Nat.reduceAdd, Nat.reduceSub, Nat.reduceLT, Nat.reduceEqDiff, Nat.reduceBEq, Int.reduceLE, Int.reduceToNat, hb, d1]; rfl); (case mm => simp only [go_sem, Int.reduceEq, Int.reduceLT, Int.reduceBEq, Int.reduceBNe, Int.reduceNe, Nat.reduceLeDiff, Nat.reduceAdd, Nat.reduceSub, Nat.reduceLT, Nat.reduceEqDiff, Nat.reduceBEq, Int.reduceLE, Int.reduceToNat]; rfl); (case pr => rfl)) | (refine AW.seq ?_) | (refine AW.region ?_) | (refine AW.draw prg (by kernel_rfl) ?_) | (refine AOps.nil ?_; try dsimp only [AX.then, AX.inBlock]) | (refine ALex.nil ?_; try dsimp only [AX.then, AX.inBlock]) | (refine AW.condT (by rfl) ?_) | (refine AW.condF (by rfl) ?_) | (refine AW.skip ?_; try dsimp only [AX.then, AX.inBlock]) | (refine AW.ret ?_; try dsimp only [AX.then, AX.inBlock]) | (refine AW.block ?_) | (refine AW.exit ?_; simp only [AX.then, AX.inBlock, if_true, Nat.reduceEqDiff, if_false]))
      (first | refine AOps.callq (by rfl) (by rfl) (by exact (aLeft b s k 0 S t hb (by omega) (by omega) hs)) ?_ | refine ALex.callq (by rfl) (by rfl) (by exact (aLeft b s k 0 S t hb (by omega) (by omega) hs)) ?_)
      by_cases hle : m ≤ l.length
      · have d2 : decide ((s.length : Int) - k < m) = false := decide_eq_false (by omega)
        have e1 : IntKind.i64.wrap ((k : Int) + m) = ((k + m : Nat) : Int) := IntWalk.i64_in _ (by omega)
        have e2 : rawP m l = some (l.take m, l.drop m) := by simp [rawP, hle]
        have e3 : k + m - k = m := by omega
        have c1 : (0 : Int) ≤ ((k + m : Nat) : Int) := by omega
        have c2 : (0 : Int) ≤ (k : Int) := by omega
        have c3 : k ≤ k + m ∧ k + m ≤ s.length := by omega
        repeat (first | ((first | apply AOps.goP prg | apply ALex.goP prg); (case run => simp only [go_sem, Int.reduceEq, Int.reduceLT, Int.reduceBEq, Int.reduceBNe, Int.reduceNe, Nat.reduceLeDiff, Nat.reduceAdd, Nat.reduceSub, Nat.reduceLT, Nat.reduceEqDiff, Nat.reduceBEq, Int.reduceLE, Int.reduceToNat, hb, d2, e1, e3, c1, c2, c3, Int.toNat_natCast]; rfl); (case mm => simp only [go_sem, Int.reduceEq, Int.reduceLT, Int.reduceBEq, Int.reduceBNe, Int.reduceNe, Nat.reduceLeDiff, Nat.reduceAdd, Nat.reduceSub, Nat.reduceLT, Nat.reduceEqDiff, Nat.reduceBEq, Int.reduceLE, Int.reduceToNat]; rfl); (case pr => rfl)) | (refine AW.seq ?_) | (refine AW.region ?_) | (refine AW.draw prg (by kernel_rfl) ?_) | (refine AOps.nil ?_; try dsimp only [AX.then, AX.inBlock]) | (refine ALex.nil ?_; try dsimp only [AX.then, AX.inBlock]) | (refine AW.condT (by rfl) ?_) | (refine AW.condF (by rfl) ?_) | (refine AW.skip ?_; try dsimp only [AX.then, AX.inBlock]) | (refine AW.ret ?_; try dsimp only [AX.then, AX.inBlock]) | (refine AW.block ?_) | (refine AW.exit ?_; simp only [AX.then, AX.inBlock, if_true, Nat.reduceEqDiff, if_false]))
        first | refine endx (by simp only [go_sem, Int.reduceEq, Int.reduceLT, Int.reduceBEq, Int.reduceBNe, Int.reduceNe, Nat.reduceLeDiff, Nat.reduceAdd, Nat.reduceSub, Nat.reduceLT, Nat.reduceEqDiff, Nat.reduceBEq, Int.reduceLE, Int.reduceToNat]; rfl) (by simp only [go_sem, Int.reduceEq, Int.reduceLT, Int.reduceBEq, Int.reduceBNe, Int.reduceNe, Nat.reduceLeDiff, Nat.reduceAdd, Nat.reduceSub, Nat.reduceLT, Nat.reduceEqDiff, Nat.reduceBEq, Int.reduceLE, Int.reduceToNat]; rfl) (Sto.Sub.refl _) ?_ | refine endnx (by simp only [go_sem, Int.reduceEq, Int.reduceLT, Int.reduceBEq, Int.reduceBNe, Int.reduceNe, Nat.reduceLeDiff, Nat.reduceAdd, Nat.reduceSub, Nat.reduceLT, Nat.reduceEqDiff, Nat.reduceBEq, Int.reduceLE, Int.reduceToNat]; rfl) (by simp only [go_sem, Int.reduceEq, Int.reduceLT, Int.reduceBEq, Int.reduceBNe, Int.reduceNe, Nat.reduceLeDiff, Nat.reduceAdd, Nat.reduceSub, Nat.reduceLT, Nat.reduceEqDiff, Nat.reduceBEq, Int.reduceLE, Int.reduceToNat]; rfl) (Sto.Sub.refl _) ?_
        rw [Int.toNat_natCast, gv_some e2, gr_some e2]
        exact ⟨by rw [hl], k + m, 0, rfl, rfl, k + m, rfl, by simp; omega, by rw [hl, List.drop_drop]⟩
      · have d2 : decide ((s.length : Int) - k < m) = true := decide_eq_true (by omega)
        have e2 : rawP m l = none := by simp [rawP, hle]
        repeat (first | ((first | apply AOps.goP prg | apply ALex.goP prg); (case run => simp only [go_sem, Int.reduceEq, Int.reduceLT, Int.reduceBEq, Int.reduceBNe, Int.reduceNe, Nat.reduceLeDiff, Nat.reduceAdd, Nat.reduceSub, Nat.reduceLT, Nat.reduceEqDiff, Nat.reduceBEq, Int.reduceLE, Int.reduceToNat, hb, d2]; rfl); (case mm => simp only [go_sem, Int.reduceEq, Int.reduceLT, Int.reduceBEq, Int.reduceBNe, Int.reduceNe, Nat.reduceLeDiff, Nat.reduceAdd, Nat.reduceSub, Nat.reduceLT, Nat.reduceEqDiff, Nat.reduceBEq, Int.reduceLE, Int.reduceToNat]; rfl); (case pr => rfl)) | (refine AW.seq ?_) | (refine AW.region ?_) | (refine AW.draw prg (by kernel_rfl) ?_) | (refine AOps.nil ?_; try dsimp only [AX.then, AX.inBlock]) | (refine ALex.nil ?_; try dsimp only [AX.then, AX.inBlock]) | (refine AW.condT (by rfl) ?_) | (refine AW.condF (by rfl) ?_) | (refine AW.skip ?_; try dsimp only [AX.then, AX.inBlock]) | (refine AW.ret ?_; try dsimp only [AX.then, AX.inBlock]) | (refine AW.block ?_) | (refine AW.exit ?_; simp only [AX.then, AX.inBlock, if_true, Nat.reduceEqDiff, if_false]))
        (first | refine AOps.callq (by rfl) (by rfl) (by exact (aFail b s k 0 10 k S t hb)) ?_ | refine ALex.callq (by rfl) (by rfl) (by exact (aFail b s k 0 10 k S t hb)) ?_)
        repeat (first | ((first | apply AOps.goP prg | apply ALex.goP prg); (case run => simp only [go_sem, Int.reduceEq, Int.reduceLT, Int.reduceBEq, Int.reduceBNe, Int.reduceNe, Nat.reduceLeDiff, Nat.reduceAdd, Nat.reduceSub, Nat.reduceLT, Nat.reduceEqDiff, Nat.reduceBEq, Int.reduceLE, Int.reduceToNat, hb]; rfl); (case mm => simp only [go_sem, Int.reduceEq, Int.reduceLT, Int.reduceBEq, Int.reduceBNe, Int.reduceNe, Nat.reduceLeDiff, Nat.reduceAdd, Nat.reduceSub, Nat.reduceLT, Nat.reduceEqDiff, Nat.reduceBEq, Int.reduceLE, Int.reduceToNat]; rfl); (case pr => rfl)) | (refine AW.seq ?_) | (refine AW.region ?_) | (refine AW.draw prg (by kernel_rfl) ?_) | (refine AOps.nil ?_; try dsimp only [AX.then, AX.inBlock]) | (refine ALex.nil ?_; try dsimp only [AX.then, AX.inBlock]) | (refine AW.condT (by rfl) ?_) | (refine AW.condF (by rfl) ?_) | (refine AW.skip ?_; try dsimp only [AX.then, AX.inBlock]) | (refine AW.ret ?_; try dsimp only [AX.then, AX.inBlock]) | (refine AW.block ?_) | (refine AW.exit ?_; simp only [AX.then, AX.inBlock, if_true, Nat.reduceEqDiff, if_false]))
        first | refine endx (by simp only [go_sem, Int.reduceEq, Int.reduceLT, Int.reduceBEq, Int.reduceBNe, Int.reduceNe, Nat.reduceLeDiff, Nat.reduceAdd, Nat.reduceSub, Nat.reduceLT, Nat.reduceEqDiff, Nat.reduceBEq, Int.reduceLE, Int.reduceToNat]; rfl) (by simp only [go_sem, Int.reduceEq, Int.reduceLT, Int.reduceBEq, Int.reduceBNe, Int.reduceNe, Nat.reduceLeDiff, Nat.reduceAdd, Nat.reduceSub, Nat.reduceLT, Nat.reduceEqDiff, Nat.reduceBEq, Int.reduceLE, Int.reduceToNat]; rfl) (Sto.Sub.refl _) ?_ | refine endnx (by simp only [go_sem, Int.reduceEq, Int.reduceLT, Int.reduceBEq, Int.reduceBNe, Int.reduceNe, Nat.reduceLeDiff, Nat.reduceAdd, Nat.reduceSub, Nat.reduceLT, Nat.reduceEqDiff, Nat.reduceBEq, Int.reduceLE, Int.reduceToNat]; rfl) (by simp only [go_sem, Int.reduceEq, Int.reduceLT, Int.reduceBEq, Int.reduceBNe, Int.reduceNe, Nat.reduceLeDiff, Nat.reduceAdd, Nat.reduceSub, Nat.reduceLT, Nat.reduceEqDiff, Nat.reduceBEq, Int.reduceLE, Int.reduceToNat]; rfl) (Sto.Sub.refl _) ?_
        rw [Int.toNat_natCast, gv_none e2, gr_none e2]
        exact ⟨rfl, k, 10, rfl, by omega, k, rfl, by omega⟩

set_option maxHeartbeats 1000000 in set_option maxRecDepth 100000 in
theorem aTake (b n : Nat) (s : Bs) (o : Option Bs) (S : Sto) (h : RrSt S b s o) (hs : s.length ≤ 140737488351232) (hn : n ≤ 4) (hn1 : 1 ≤ n) :
    ACalls Tryz.prog 74 [pD b, iD n] S (fun e S' => ∃ d, e = .ret d ∧ d = uD (gv (takeP n) 0 o : Nat) ∧ RrTo S b s (gr (takeP n) o) S') := by
  have h0 := h
  obtain ⟨t, p, c, hb, hr⟩ := h
  refine acalls_of prg Tryz.func74 rfl (by kernel_rfl) (congrArg Array.toList Tryz.results74) Tryz.ntmps74 (fun B hB => ?_); simp only [List.length_cons, List.length_nil, Nat.reduceAdd, Nat.reduceSub, List.replicate_succ, List.replicate_zero, List.cons_append, List.nil_append]
  cases o with
  | none =>
    obtain ⟨hc, k, hp, hk⟩ := hr
    have h1 : (c != 0) = true := by simpa using hc
    repeat (first | ((first | apply AOps.goP prg | apply ALex.goP prg); (case run => simp only [go_sem, Int.reduceEq, Int.reduceLT, Int.reduceBEq, Int.reduceBNe, Int.reduceNe, Nat.reduceLeDiff, Nat.reduceAdd, Nat.reduceSub, Nat.reduceLT, Nat.reduceEqDiff, Nat.reduceBEq, Int.reduceLE, Int.reduceToNat, hb, h1]; rfl); (case mm => simp only [go_sem, Int.reduceEq, Int.reduceLT, Int.reduceBEq, Int.reduceBNe, Int.reduceNe, Nat.reduceLeDiff, Nat.reduceAdd, Nat.reduceSub, Nat.reduceLT, Nat.reduceEqDiff, Nat.reduceBEq, Int.reduceLE, Int.reduceToNat]; rfl); (case pr => rfl)) | (refine AW.seq ?_) | (refine AW.region ?_) | (refine AW.draw prg (by kernel_rfl) ?_) | (refine AOps.nil ?_; try dsimp only [AX.then, AX.inBlock]) | (refine ALex.nil ?_; try dsimp only [AX.then, AX.inBlock]) | (refine AW.condT (by rfl) ?_) | (refine AW.condF (by rfl) ?_) | (refine AW.skip ?_; try dsimp only [AX.then, AX.inBlock]) | (refine AW.ret ?_; try dsimp only [AX.then, AX.inBlock]) | (refine AW.block ?_) | (refine AW.exit ?_; simp only [AX.then, AX.inBlock, if_true, Nat.reduceEqDiff, if_false]))
    first | refine endx (by simp only [go_sem, Int.reduceEq, Int.reduceLT, Int.reduceBEq, Int.reduceBNe, Int.reduceNe, Nat.reduceLeDiff, Nat.reduceAdd, Nat.reduceSub, Nat.reduceLT, Nat.reduceEqDiff, Nat.reduceBEq, Int.reduceLE, Int.reduceToNat]; rfl) (by simp only [go_sem, Int.reduceEq, Int.reduceLT, Int.reduceBEq, Int.reduceBNe, Int.reduceNe, Nat.reduceLeDiff, Nat.reduceAdd, Nat.reduceSub, Nat.reduceLT, Nat.reduceEqDiff, Nat.reduceBEq, Int.reduceLE, Int.reduceToNat]; rfl) (Sto.Sub.refl _) ?_ | refine endnx (by simp only [go_sem, Int.reduceEq, Int.reduceLT, Int.reduceBEq, Int.reduceBNe, Int.reduceNe, Nat.reduceLeDiff, Nat.reduceAdd, Nat.reduceSub, Nat.reduceLT, Nat.reduceEqDiff, Nat.reduceBEq, Int.reduceLE, Int.reduceToNat]; rfl) (by simp only [go_sem, Int.reduceEq, Int.reduceLT, Int.reduceBEq, Int.reduceBNe, Int.reduceNe, Nat.reduceLeDiff, Nat.reduceAdd, Nat.reduceSub, Nat.reduceLT, Nat.reduceEqDiff, Nat.reduceBEq, Int.reduceLE, Int.reduceToNat]; rfl) (Sto.Sub.refl _) ?_
    exact ⟨rfl, RrTo.same h0⟩
  | some l =>
    obtain ⟨rfl, k, rfl, hk, hl⟩ := hr
    have d0 : ((0 : Int) != 0) = false := rfl
    repeat (first | ((first | apply AOps.goP prg | apply ALex.goP prg); (case run => simp only [go_sem, Int.reduceEq, Int.reduceLT, Int.reduceBEq, Int.reduceBNe, Int.reduceNe, Nat.reduceLeDiff, Nat.reduceAdd, Nat.reduceSub, Nat.reduceLT, Nat.reduceEqDiff, Nat.reduceBEq, Int.reduceLE, Int.reduceToNat, hb, d0]; rfl); (case mm => simp only [go_sem, Int.reduceEq, Int.reduceLT, Int.reduceBEq, Int.reduceBNe, Int.reduceNe, Nat.reduceLeDiff, Nat.reduceAdd, Nat.reduceSub, Nat.reduceLT, Nat.reduceEqDiff, Nat.reduceBEq, Int.reduceLE, Int.reduceToNat]; rfl); (case pr => rfl)) | (refine AW.seq ?_) | (refine AW.region ?_) | (refine AW.draw prg (by kernel_rfl) ?_) | (refine AOps.nil ?_; try dsimp only [AX.then, AX.inBlock]) | (refine ALex.nil ?_; try dsimp only [AX.then, AX.inBlock]) | (refine AW.condT (by rfl) ?_) | (refine AW.condF (by rfl) ?_) | (refine AW.skip ?_; try dsimp only [AX.then, AX.inBlock]) | (refine AW.ret ?_; try dsimp only [AX.then, AX.inBlock]) | (refine AW.block ?_) | (refine AW.exit ?_; simp only [AX.then, AX.inBlock, if_true, Nat.reduceEqDiff, if_false]))
    (first | refine AOps.callq (by rfl) (by rfl) (by exact (aLeft b s k 0 S t hb (by omega) (by omega) hs)) ?_ | refine ALex.callq (by rfl) (by rfl) (by exact (aLeft b s k 0 S t hb (by omega) (by omega) hs)) ?_)
    by_cases hle : n ≤ l.length
    · have d2 : decide ((s.length : Int) - k < n) = false := decide_eq_false (by omega)
      repeat (first | ((first | apply AOps.goP prg | apply ALex.goP prg); (case run => simp only [go_sem, Int.reduceEq, Int.reduceLT, Int.reduceBEq, Int.reduceBNe, Int.reduceNe, Nat.reduceLeDiff, Nat.reduceAdd, Nat.reduceSub, Nat.reduceLT, Nat.reduceEqDiff, Nat.reduceBEq, Int.reduceLE, Int.reduceToNat, hb, d2]; rfl); (case mm => simp only [go_sem, Int.reduceEq, Int.reduceLT, Int.reduceBEq, Int.reduceBNe, Int.reduceNe, Nat.reduceLeDiff, Nat.reduceAdd, Nat.reduceSub, Nat.reduceLT, Nat.reduceEqDiff, Nat.reduceBEq, Int.reduceLE, Int.reduceToNat]; rfl); (case pr => rfl)) | (refine AW.seq ?_) | (refine AW.region ?_) | (refine AW.draw prg (by kernel_rfl) ?_) | (refine AOps.nil ?_; try dsimp only [AX.then, AX.inBlock]) | (refine ALex.nil ?_; try dsimp only [AX.then, AX.inBlock]) | (refine AW.condT (by rfl) ?_) | (refine AW.condF (by rfl) ?_) | (refine AW.skip ?_; try dsimp only [AX.then, AX.inBlock]) | (refine AW.ret ?_; try dsimp only [AX.then, AX.inBlock]) | (refine AW.block ?_) | (refine AW.exit ?_; simp only [AX.then, AX.inBlock, if_true, Nat.reduceEqDiff, if_false]))
      refine AW.loopS 7 [5, 6] (fun xs S' => ∃ j y : Nat, xs = [uD y, iD j] ∧ S = S' ∧ j ≤ n ∧ y < 4294967296 ∧ y = be (l.take j) 0) (fun xs _ => n - nI (xs.getD 1 .any)) [uD 0, iD 0] S ?_ (Sto.Sub.refl _) ⟨0, 0, rfl, rfl, by omega, by omega, by simp [be]⟩ ?_
      · simp only [go_sem, Int.reduceEq, Int.reduceLT, Int.reduceBEq, Int.reduceBNe, Int.reduceNe, Nat.reduceLeDiff, Nat.reduceAdd, Nat.reduceSub, Nat.reduceLT, Nat.reduceEqDiff, Nat.reduceBEq, Int.reduceLE, Int.reduceToNat, weakA, or_true, true_or, and_self]
      rintro xs S' ⟨j, y, rfl, rfl, hj, hy, hbe⟩
      apply AW.frame; case fr => (simp only [go_sem, Int.reduceEq, Int.reduceLT, Int.reduceBEq, Int.reduceBNe, Int.reduceNe, Nat.reduceLeDiff, Nat.reduceAdd, Nat.reduceSub, Nat.reduceLT, Nat.reduceEqDiff, Nat.reduceBEq, Int.reduceLE, Int.reduceToNat]; rfl)
      by_cases hjn : j < n
      · have d3 : decide ((j : Int) < n) = true := decide_eq_true (by omega)
        have hkj : k + j < s.length := by omega
        obtain ⟨u, hu⟩ : ∃ u, s[k + j]? = some u := ⟨_, List.getElem?_eq_getElem hkj⟩
        have hu2 : l[j]? = some u := by rw [hl, List.getElem?_drop]; exact hu
        have hN : be (l.take (j + 1)) 0 = y * 256 + u.toNat := by rw [List.take_add_one, hu2, hbe]; exact be_app (l.take j) [u] 0
        have hlt4 : be (l.take (j + 1)) 0 < 4294967296 := by
          have h1 := be_lt (l.take (j + 1))
          have hln : (l.take (j + 1)).length = j + 1 := by rw [List.length_take]; omega
          rw [hln] at h1
          have h2 : (256 : Nat) ^ (j + 1) ≤ 256 ^ 4 := Nat.pow_le_pow_right (by omega) (by omega)
          omega
        have hul := u.toNat_lt
        have f1 : IntKind.i64.wrap ((k : Int) + j) = ((k + j : Nat) : Int) := IntWalk.i64_in _ (by omega)
        have f2 : IntKind.u64.wrap ((y : Int) * 256) = (y : Int) * 256 := by rw [IntKind.wrap_u64]; omega
        have f3 : IntKind.u64.wrap (u.toNat : Int) = u.toNat := by rw [IntKind.wrap_u64]; omega
        have f4 : IntKind.u64.wrap ((y : Int) * 256 + u.toNat) = ((y * 256 + u.toNat : Nat) : Int) := by rw [IntKind.wrap_u64]; omega
        have f5 : IntKind.i64.wrap ((j : Int) + 1) = ((j + 1 : Nat) : Int) := IntWalk.i64_in _ (by omega)
        have f6 : (0 : Int) ≤ ((k + j : Nat) : Int) := by omega
        repeat (first | ((first | apply AOps.goP prg | apply ALex.goP prg); (case run => simp only [go_sem, Int.reduceEq, Int.reduceLT, Int.reduceBEq, Int.reduceBNe, Int.reduceNe, Nat.reduceLeDiff, Nat.reduceAdd, Nat.reduceSub, Nat.reduceLT, Nat.reduceEqDiff, Nat.reduceBEq, Int.reduceLE, Int.reduceToNat, hb, d3, f1, f2, f3, f4, f5, f6, Int.toNat_natCast, hu]; rfl); (case mm => simp only [go_sem, Int.reduceEq, Int.reduceLT, Int.reduceBEq, Int.reduceBNe, Int.reduceNe, Nat.reduceLeDiff, Nat.reduceAdd, Nat.reduceSub, Nat.reduceLT, Nat.reduceEqDiff, Nat.reduceBEq, Int.reduceLE, Int.reduceToNat]; rfl); (case pr => rfl)) | (refine AW.seq ?_) | (refine AW.region ?_) | (refine AW.draw prg (by kernel_rfl) ?_) | (refine AOps.nil ?_; try dsimp only [AX.then, AX.inBlock]) | (refine ALex.nil ?_; try dsimp only [AX.then, AX.inBlock]) | (refine AW.condT (by rfl) ?_) | (refine AW.condF (by rfl) ?_) | (refine AW.skip ?_; try dsimp only [AX.then, AX.inBlock]) | (refine AW.ret ?_; try dsimp only [AX.then, AX.inBlock]) | (refine AW.block ?_) | (refine AW.exit ?_; simp only [AX.then, AX.inBlock, if_true, Nat.reduceEqDiff, if_false]))
        refine ⟨[uD (y * 256 + u.toNat : Nat), iD (j + 1 : Nat)], S, ?_, Sto.Sub.refl _, ⟨j + 1, _, rfl, rfl, by omega, by rw [← hN]; exact hlt4, hN.symm⟩, ?_⟩
        · simp only [go_sem, Int.reduceEq, Int.reduceLT, Int.reduceBEq, Int.reduceBNe, Int.reduceNe, Nat.reduceLeDiff, Nat.reduceAdd, Nat.reduceSub, Nat.reduceLT, Nat.reduceEqDiff, Nat.reduceBEq, Int.reduceLE, Int.reduceToNat, weakA, or_true, true_or, and_self]
        · simp only [go_sem, Int.reduceEq, Int.reduceLT, Int.reduceBEq, Int.reduceBNe, Int.reduceNe, Nat.reduceLeDiff, Nat.reduceAdd, Nat.reduceSub, Nat.reduceLT, Nat.reduceEqDiff, Nat.reduceBEq, Int.reduceLE, Int.reduceToNat, Int.toNat_natCast]; omega
      · have d3 : decide ((j : Int) < n) = false := decide_eq_false (by omega)
        obtain rfl : j = n := by omega
        have f1 : IntKind.i64.wrap ((k : Int) + j) = ((k + j : Nat) : Int) := IntWalk.i64_in _ (by omega)
        have e2 : takeP j l = some (be (l.take j) 0, l.drop j) := by simp [takeP, hle]
        repeat (first | ((first | apply AOps.goP prg | apply ALex.goP prg); (case run => simp only [go_sem, Int.reduceEq, Int.reduceLT, Int.reduceBEq, Int.reduceBNe, Int.reduceNe, Nat.reduceLeDiff, Nat.reduceAdd, Nat.reduceSub, Nat.reduceLT, Nat.reduceEqDiff, Nat.reduceBEq, Int.reduceLE, Int.reduceToNat, hb, d3, f1]; rfl); (case mm => simp only [go_sem, Int.reduceEq, Int.reduceLT, Int.reduceBEq, Int.reduceBNe, Int.reduceNe, Nat.reduceLeDiff, Nat.reduceAdd, Nat.reduceSub, Nat.reduceLT, Nat.reduceEqDiff, Nat.reduceBEq, Int.reduceLE, Int.reduceToNat]; rfl); (case pr => rfl)) | (refine AW.seq ?_) | (refine AW.region ?_) | (refine AW.draw prg (by kernel_rfl) ?_) | (refine AOps.nil ?_; try dsimp only [AX.then, AX.inBlock]) | (refine ALex.nil ?_; try dsimp only [AX.then, AX.inBlock]) | (refine AW.condT (by rfl) ?_) | (refine AW.condF (by rfl) ?_) | (refine AW.skip ?_; try dsimp only [AX.then, AX.inBlock]) | (refine AW.ret ?_; try dsimp only [AX.then, AX.inBlock]) | (refine AW.block ?_) | (refine AW.exit ?_; simp only [AX.then, AX.inBlock, if_true, Nat.reduceEqDiff, if_false]))
        first | refine endx (by simp only [go_sem, Int.reduceEq, Int.reduceLT, Int.reduceBEq, Int.reduceBNe, Int.reduceNe, Nat.reduceLeDiff, Nat.reduceAdd, Nat.reduceSub, Nat.reduceLT, Nat.reduceEqDiff, Nat.reduceBEq, Int.reduceLE, Int.reduceToNat]; rfl) (by simp only [go_sem, Int.reduceEq, Int.reduceLT, Int.reduceBEq, Int.reduceBNe, Int.reduceNe, Nat.reduceLeDiff, Nat.reduceAdd, Nat.reduceSub, Nat.reduceLT, Nat.reduceEqDiff, Nat.reduceBEq, Int.reduceLE, Int.reduceToNat]; rfl) (Sto.Sub.refl _) ?_ | refine endnx (by simp only [go_sem, Int.reduceEq, Int.reduceLT, Int.reduceBEq, Int.reduceBNe, Int.reduceNe, Nat.reduceLeDiff, Nat.reduceAdd, Nat.reduceSub, Nat.reduceLT, Nat.reduceEqDiff, Nat.reduceBEq, Int.reduceLE, Int.reduceToNat]; rfl) (by simp only [go_sem, Int.reduceEq, Int.reduceLT, Int.reduceBEq, Int.reduceBNe, Int.reduceNe, Nat.reduceLeDiff, Nat.reduceAdd, Nat.reduceSub, Nat.reduceLT, Nat.reduceEqDiff, Nat.reduceBEq, Int.reduceLE, Int.reduceToNat]; rfl) (Sto.Sub.refl _) ?_
        rw [gv_some e2, gr_some e2, ← hbe]
        exact ⟨rfl, _, 0, rfl, rfl, k + j, rfl, by simp; omega, by rw [hl, List.drop_drop]⟩
    · have d2 : decide ((s.length : Int) - k < n) = true := decide_eq_true (by omega)
      have e2 : takeP n l = none := by simp [takeP, hle]
      repeat (first | ((first | apply AOps.goP prg | apply ALex.goP prg); (case run => simp only [go_sem, Int.reduceEq, Int.reduceLT, Int.reduceBEq, Int.reduceBNe, Int.reduceNe, Nat.reduceLeDiff, Nat.reduceAdd, Nat.reduceSub, Nat.reduceLT, Nat.reduceEqDiff, Nat.reduceBEq, Int.reduceLE, Int.reduceToNat, hb, d2]; rfl); (case mm => simp only [go_sem, Int.reduceEq, Int.reduceLT, Int.reduceBEq, Int.reduceBNe, Int.reduceNe, Nat.reduceLeDiff, Nat.reduceAdd, Nat.reduceSub, Nat.reduceLT, Nat.reduceEqDiff, Nat.reduceBEq, Int.reduceLE, Int.reduceToNat]; rfl); (case pr => rfl)) | (refine AW.seq ?_) | (refine AW.region ?_) | (refine AW.draw prg (by kernel_rfl) ?_) | (refine AOps.nil ?_; try dsimp only [AX.then, AX.inBlock]) | (refine ALex.nil ?_; try dsimp only [AX.then, AX.inBlock]) | (refine AW.condT (by rfl) ?_) | (refine AW.condF (by rfl) ?_) | (refine AW.skip ?_; try dsimp only [AX.then, AX.inBlock]) | (refine AW.ret ?_; try dsimp only [AX.then, AX.inBlock]) | (refine AW.block ?_) | (refine AW.exit ?_; simp only [AX.then, AX.inBlock, if_true, Nat.reduceEqDiff, if_false]))
      (first | refine AOps.callq (by rfl) (by rfl) (by exact (aFail b s k 0 10 k S t hb)) ?_ | refine ALex.callq (by rfl) (by rfl) (by exact (aFail b s k 0 10 k S t hb)) ?_)
      repeat (first | ((first | apply AOps.goP prg | apply ALex.goP prg); (case run => simp only [go_sem, Int.reduceEq, Int.reduceLT, Int.reduceBEq, Int.reduceBNe, Int.reduceNe, Nat.reduceLeDiff, Nat.reduceAdd, Nat.reduceSub, Nat.reduceLT, Nat.reduceEqDiff, Nat.reduceBEq, Int.reduceLE, Int.reduceToNat, hb]; rfl); (case mm => simp only [go_sem, Int.reduceEq, Int.reduceLT, Int.reduceBEq, Int.reduceBNe, Int.reduceNe, Nat.reduceLeDiff, Nat.reduceAdd, Nat.reduceSub, Nat.reduceLT, Nat.reduceEqDiff, Nat.reduceBEq, Int.reduceLE, Int.reduceToNat]; rfl); (case pr => rfl)) | (refine AW.seq ?_) | (refine AW.region ?_) | (refine AW.draw prg (by kernel_rfl) ?_) | (refine AOps.nil ?_; try dsimp only [AX.then, AX.inBlock]) | (refine ALex.nil ?_; try dsimp only [AX.then, AX.inBlock]) | (refine AW.condT (by rfl) ?_) | (refine AW.condF (by rfl) ?_) | (refine AW.skip ?_; try dsimp only [AX.then, AX.inBlock]) | (refine AW.ret ?_; try dsimp only [AX.then, AX.inBlock]) | (refine AW.block ?_) | (refine AW.exit ?_; simp only [AX.then, AX.inBlock, if_true, Nat.reduceEqDiff, if_false]))
      first | refine endx (by simp only [go_sem, Int.reduceEq, Int.reduceLT, Int.reduceBEq, Int.reduceBNe, Int.reduceNe, Nat.reduceLeDiff, Nat.reduceAdd, Nat.reduceSub, Nat.reduceLT, Nat.reduceEqDiff, Nat.reduceBEq, Int.reduceLE, Int.reduceToNat]; rfl) (by simp only [go_sem, Int.reduceEq, Int.reduceLT, Int.reduceBEq, Int.reduceBNe, Int.reduceNe, Nat.reduceLeDiff, Nat.reduceAdd, Nat.reduceSub, Nat.reduceLT, Nat.reduceEqDiff, Nat.reduceBEq, Int.reduceLE, Int.reduceToNat]; rfl) (Sto.Sub.refl _) ?_ | refine endnx (by simp only [go_sem, Int.reduceEq, Int.reduceLT, Int.reduceBEq, Int.reduceBNe, Int.reduceNe, Nat.reduceLeDiff, Nat.reduceAdd, Nat.reduceSub, Nat.reduceLT, Nat.reduceEqDiff, Nat.reduceBEq, Int.reduceLE, Int.reduceToNat]; rfl) (by simp only [go_sem, Int.reduceEq, Int.reduceLT, Int.reduceBEq, Int.reduceBNe, Int.reduceNe, Nat.reduceLeDiff, Nat.reduceAdd, Nat.reduceSub, Nat.reduceLT, Nat.reduceEqDiff, Nat.reduceBEq, Int.reduceLE, Int.reduceToNat]; rfl) (Sto.Sub.refl _) ?_
      rw [gv_none e2, gr_none e2]
      exact ⟨rfl, k, 10, rfl, by omega, k, rfl, by omega⟩

end Go.Proofs.YtemicgccgcmmbaaGreat

/- The document's reader: a free number (values without addresses). -/
namespace Go.Proofs.YtemicgccgcmmbaaGreat
set_option linter.unusedVariables false
set_option linter.unusedSimpArgs false
open Go Go.RowKit

theorem vrd_nil (k n : Nat) : vrd [] k n = none := rfl
theorem vrd_cons (b : UInt8) (l : Bs) (k n : Nat) : vrd (b :: l) k n = if (k = 63 ∧ 1 < b.toNat) ∨ (0 < k ∧ b.toNat = 0) then none else if b.toNat < 128 then some (n + b.toNat * 2 ^ k, l) else vrd l (k + 7) (n + b.toNat % 128 * 2 ^ k) := rfl
theorem freeP_bad {m : Nat} {l : Bs} (h : vrd l 0 0 = none) : freeP m l = none := by unfold freeP; rw [h]
theorem freeP_big {m n : Nat} {l l' : Bs} (h : vrd l 0 0 = some (n, l')) (hn : m < n) : freeP m l = none := by
  unfold freeP; rw [h]; show (if n ≤ m then _ else _) = _; rw [if_neg (by omega)]
theorem freeP_fit {m n : Nat} {l l' : Bs} (h : vrd l 0 0 = some (n, l')) (hn : n ≤ m) : freeP m l = some (n, l') := by
  unfold freeP; rw [h]; show (if n ≤ m then _ else _) = _; rw [if_pos hn]
theorem pow7 (j : Nat) : (2 : Nat) ^ (7 * (j + 1)) = 2 ^ (7 * j) * 128 := by rw [Nat.mul_succ, Nat.pow_add]

set_option maxHeartbeats 1000000 in set_option maxRecDepth 100000 in
theorem aFree (b m : Nat) (s : Bs) (o : Option Bs) (S : Sto) (h : RrSt S b s o) (hs : s.length ≤ 140737488351232) (hm : m < 18446744073709551616) :
    ACalls Tryz.prog 116 [pD b, uD m] S (fun e S' => ∃ d, e = .ret d ∧ d = uD (gv (freeP m) 0 o : Nat) ∧ RrTo S b s (gr (freeP m) o) S') := by
  have h0 := h
  obtain ⟨t, p, c, hb, hr⟩ := h
  refine acalls_of prg Tryz.func116 rfl (by kernel_rfl) (congrArg Array.toList Tryz.results116) Tryz.ntmps116 (fun B hB => ?_); simp only [List.length_cons, List.length_nil, Nat.reduceAdd, Nat.reduceSub, List.replicate_succ, List.replicate_zero, List.cons_append, List.nil_append]
  cases o with
  | none =>
    obtain ⟨hc, k, hp, hk⟩ := hr
    have h1 : (c != 0) = true := by simpa using hc
    repeat (first | ((first | apply AOps.goP prg | apply ALex.goP prg); (case run => simp only [go_sem, Int.reduceEq, Int.reduceLT, Int.reduceBEq, Int.reduceBNe, Int.reduceNe, Nat.reduceLeDiff, Nat.reduceAdd, Nat.reduceSub, Nat.reduceLT, Nat.reduceEqDiff, Nat.reduceBEq, Int.reduceLE, Int.reduceToNat, hb, h1]; rfl); (case mm => simp only [go_sem, Int.reduceEq, Int.reduceLT, Int.reduceBEq, Int.reduceBNe, Int.reduceNe, Nat.reduceLeDiff, Nat.reduceAdd, Nat.reduceSub, Nat.reduceLT, Nat.reduceEqDiff, Nat.reduceBEq, Int.reduceLE, Int.reduceToNat]; rfl); (case pr => rfl)) | (refine AW.seq ?_) | (refine AW.region ?_) | (refine AW.draw prg (by kernel_rfl) ?_) | (refine AOps.nil ?_; try dsimp only [AX.then, AX.inBlock]) | (refine ALex.nil ?_; try dsimp only [AX.then, AX.inBlock]) | (refine AW.condT (by rfl) ?_) | (refine AW.condF (by rfl) ?_) | (refine AW.skip ?_; try dsimp only [AX.then, AX.inBlock]) | (refine AW.ret ?_; try dsimp only [AX.then, AX.inBlock]) | (refine AW.block ?_) | (refine AW.exit ?_; simp only [AX.then, AX.inBlock, if_true, Nat.reduceEqDiff, if_false]))
    first | refine endx (by simp only [go_sem, Int.reduceEq, Int.reduceLT, Int.reduceBEq, Int.reduceBNe, Int.reduceNe, Nat.reduceLeDiff, Nat.reduceAdd, Nat.reduceSub, Nat.reduceLT, Nat.reduceEqDiff, Nat.reduceBEq, Int.reduceLE, Int.reduceToNat]; rfl) (by simp only [go_sem, Int.reduceEq, Int.reduceLT, Int.reduceBEq, Int.reduceBNe, Int.reduceNe, Nat.reduceLeDiff, Nat.reduceAdd, Nat.reduceSub, Nat.reduceLT, Nat.reduceEqDiff, Nat.reduceBEq, Int.reduceLE, Int.reduceToNat]; rfl) (Sto.Sub.refl _) ?_ | refine endnx (by simp only [go_sem, Int.reduceEq, Int.reduceLT, Int.reduceBEq, Int.reduceBNe, Int.reduceNe, Nat.reduceLeDiff, Nat.reduceAdd, Nat.reduceSub, Nat.reduceLT, Nat.reduceEqDiff, Nat.reduceBEq, Int.reduceLE, Int.reduceToNat]; rfl) (by simp only [go_sem, Int.reduceEq, Int.reduceLT, Int.reduceBEq, Int.reduceBNe, Int.reduceNe, Nat.reduceLeDiff, Nat.reduceAdd, Nat.reduceSub, Nat.reduceLT, Nat.reduceEqDiff, Nat.reduceBEq, Int.reduceLE, Int.reduceToNat]; rfl) (Sto.Sub.refl _) ?_
    exact ⟨rfl, RrTo.same h0⟩
  | some l =>
    obtain ⟨rfl, k, rfl, hk, hl⟩ := hr
    repeat (first | ((first | apply AOps.goP prg | apply ALex.goP prg); (case run => simp only [go_sem, Int.reduceEq, Int.reduceLT, Int.reduceBEq, Int.reduceBNe, Int.reduceNe, Nat.reduceLeDiff, Nat.reduceAdd, Nat.reduceSub, Nat.reduceLT, Nat.reduceEqDiff, Nat.reduceBEq, Int.reduceLE, Int.reduceToNat, hb]; rfl); (case mm => simp only [go_sem, Int.reduceEq, Int.reduceLT, Int.reduceBEq, Int.reduceBNe, Int.reduceNe, Nat.reduceLeDiff, Nat.reduceAdd, Nat.reduceSub, Nat.reduceLT, Nat.reduceEqDiff, Nat.reduceBEq, Int.reduceLE, Int.reduceToNat]; rfl); (case pr => rfl)) | (refine AW.seq ?_) | (refine AW.region ?_) | (refine AW.draw prg (by kernel_rfl) ?_) | (refine AOps.nil ?_; try dsimp only [AX.then, AX.inBlock]) | (refine ALex.nil ?_; try dsimp only [AX.then, AX.inBlock]) | (refine AW.condT (by rfl) ?_) | (refine AW.condF (by rfl) ?_) | (refine AW.skip ?_; try dsimp only [AX.then, AX.inBlock]) | (refine AW.ret ?_; try dsimp only [AX.then, AX.inBlock]) | (refine AW.block ?_) | (refine AW.exit ?_; simp only [AX.then, AX.inBlock, if_true, Nat.reduceEqDiff, if_false]))
    refine AW.loopS 10 [6, 7, 8, 9] (fun xs S' => ∃ j y : Nat, xs = [uD y, uD (2 ^ (7 * j) : Nat), iD j, .any] ∧ S' = ⟨setM S.bk b (rrD s (k + j : Nat) 0), S.ow⟩ ∧ j ≤ 9 ∧ j ≤ l.length ∧ y < 2 ^ (7 * j) ∧ vrd l 0 0 = vrd (l.drop j) (7 * j) y) (fun xs _ => 9 - nI (xs.getD 2 .any)) [uD 0, uD 1, iD 0, .any] S ?_ (Sto.Sub.refl _) ⟨0, 0, rfl, by rw [Nat.add_zero, setM_same hb], by omega, by omega, by simp, rfl⟩ ?_
    · simp only [go_sem, Int.reduceEq, Int.reduceLT, Int.reduceBEq, Int.reduceBNe, Int.reduceNe, Nat.reduceLeDiff, Nat.reduceAdd, Nat.reduceSub, Nat.reduceLT, Nat.reduceEqDiff, Nat.reduceBEq, Int.reduceLE, Int.reduceToNat, weakA, or_true, true_or, and_self]
    rintro xs S' ⟨j, y, rfl, hS', hj, hjl, hy, HV⟩
    apply AW.frame; case fr => (simp only [go_sem, Int.reduceEq, Int.reduceLT, Int.reduceBEq, Int.reduceBNe, Int.reduceNe, Nat.reduceLeDiff, Nat.reduceAdd, Nat.reduceSub, Nat.reduceLT, Nat.reduceEqDiff, Nat.reduceBEq, Int.reduceLE, Int.reduceToNat]; rfl)
    have hb2 : getM S'.bk b = some (t, rrD s (k + j : Nat) 0) := by rw [hS', getM_setM, hb]; rfl
    have hfail : ∀ c p : Int, (⟨setM S'.bk b (rrD s p c), S'.ow⟩ : Sto) = ⟨setM S.bk b (rrD s p c), S.ow⟩ := fun c p => by rw [hS']; simp only [setM_setM]
    by_cases hjn : j < l.length
    · have hkj : k + j < s.length := by omega
      obtain ⟨u, hu⟩ : ∃ u, s[k + j]? = some u := ⟨_, List.getElem?_eq_getElem hkj⟩
      have hdr : l.drop j = u :: l.drop (j + 1) := by
        rw [List.drop_eq_getElem_cons hjn]
        congr 1
        have h1 : l[j]? = some u := by rw [hl, List.getElem?_drop]; exact hu
        rw [List.getElem?_eq_getElem hjn] at h1
        exact Option.some.inj h1
      rw [hdr, vrd_cons] at HV
      have hul : u.toNat < 256 := u.toNat_lt
      have b1 : (((k + j : Nat) : Int) == (s.length : Int)) = false := by rw [beq_eq_false_iff_ne]; omega
      have f3 : IntKind.u64.wrap (u.toNat : Int) = u.toNat := by rw [IntKind.wrap_u64]; omega
      have f6 : (0 : Int) ≤ ((k + j : Nat) : Int) := by omega
      have f5 : IntKind.i64.wrap (((k + j : Nat) : Int) + 1) = ((k + (j + 1) : Nat) : Int) := by rw [show ((k + j : Nat) : Int) + 1 = ((k + (j + 1) : Nat) : Int) by omega]; exact IntWalk.i64_in _ (by omega)
      by_cases hbad : j = 9 ∧ 1 < u.toNat
      · obtain ⟨rfl, hc1⟩ := hbad
        rw [if_pos (.inl ⟨rfl, hc1⟩)] at HV
        have e2 := freeP_bad (m := m) HV
        have d1 : decide ((u.toNat : Int) > 1) = true := decide_eq_true (by omega)
        have d2 : (((9 : Nat) : Int) == 9) = true := rfl
        repeat (first | ((first | apply AOps.goP prg | apply ALex.goP prg); (case run => simp only [go_sem, Int.reduceEq, Int.reduceLT, Int.reduceBEq, Int.reduceBNe, Int.reduceNe, Nat.reduceLeDiff, Nat.reduceAdd, Nat.reduceSub, Nat.reduceLT, Nat.reduceEqDiff, Nat.reduceBEq, Int.reduceLE, Int.reduceToNat, hb2, b1, f3, f6, hu, d1, d2, Int.toNat_natCast]; rfl); (case mm => simp only [go_sem, Int.reduceEq, Int.reduceLT, Int.reduceBEq, Int.reduceBNe, Int.reduceNe, Nat.reduceLeDiff, Nat.reduceAdd, Nat.reduceSub, Nat.reduceLT, Nat.reduceEqDiff, Nat.reduceBEq, Int.reduceLE, Int.reduceToNat]; rfl); (case pr => rfl)) | (refine AW.seq ?_) | (refine AW.region ?_) | (refine AW.draw prg (by kernel_rfl) ?_) | (refine AOps.nil ?_; try dsimp only [AX.then, AX.inBlock]) | (refine ALex.nil ?_; try dsimp only [AX.then, AX.inBlock]) | (refine AW.condT (by rfl) ?_) | (refine AW.condF (by rfl) ?_) | (refine AW.skip ?_; try dsimp only [AX.then, AX.inBlock]) | (refine AW.ret ?_; try dsimp only [AX.then, AX.inBlock]) | (refine AW.block ?_) | (refine AW.exit ?_; simp only [AX.then, AX.inBlock, if_true, Nat.reduceEqDiff, if_false]))
        (first | refine AOps.callq (by rfl) (by rfl) (by exact (aFail b s _ 0 11 k S' t hb2)) ?_ | refine ALex.callq (by rfl) (by rfl) (by exact (aFail b s _ 0 11 k S' t hb2)) ?_)
        repeat (first | ((first | apply AOps.goP prg | apply ALex.goP prg); (case run => simp only [go_sem, Int.reduceEq, Int.reduceLT, Int.reduceBEq, Int.reduceBNe, Int.reduceNe, Nat.reduceLeDiff, Nat.reduceAdd, Nat.reduceSub, Nat.reduceLT, Nat.reduceEqDiff, Nat.reduceBEq, Int.reduceLE, Int.reduceToNat]; rfl); (case mm => simp only [go_sem, Int.reduceEq, Int.reduceLT, Int.reduceBEq, Int.reduceBNe, Int.reduceNe, Nat.reduceLeDiff, Nat.reduceAdd, Nat.reduceSub, Nat.reduceLT, Nat.reduceEqDiff, Nat.reduceBEq, Int.reduceLE, Int.reduceToNat]; rfl); (case pr => rfl)) | (refine AW.seq ?_) | (refine AW.region ?_) | (refine AW.draw prg (by kernel_rfl) ?_) | (refine AOps.nil ?_; try dsimp only [AX.then, AX.inBlock]) | (refine ALex.nil ?_; try dsimp only [AX.then, AX.inBlock]) | (refine AW.condT (by rfl) ?_) | (refine AW.condF (by rfl) ?_) | (refine AW.skip ?_; try dsimp only [AX.then, AX.inBlock]) | (refine AW.ret ?_; try dsimp only [AX.then, AX.inBlock]) | (refine AW.block ?_) | (refine AW.exit ?_; simp only [AX.then, AX.inBlock, if_true, Nat.reduceEqDiff, if_false]))
        first | refine endx (by simp only [go_sem, Int.reduceEq, Int.reduceLT, Int.reduceBEq, Int.reduceBNe, Int.reduceNe, Nat.reduceLeDiff, Nat.reduceAdd, Nat.reduceSub, Nat.reduceLT, Nat.reduceEqDiff, Nat.reduceBEq, Int.reduceLE, Int.reduceToNat]; rfl) (by simp only [go_sem, Int.reduceEq, Int.reduceLT, Int.reduceBEq, Int.reduceBNe, Int.reduceNe, Nat.reduceLeDiff, Nat.reduceAdd, Nat.reduceSub, Nat.reduceLT, Nat.reduceEqDiff, Nat.reduceBEq, Int.reduceLE, Int.reduceToNat]; rfl) (Sto.Sub.refl _) ?_ | refine endnx (by simp only [go_sem, Int.reduceEq, Int.reduceLT, Int.reduceBEq, Int.reduceBNe, Int.reduceNe, Nat.reduceLeDiff, Nat.reduceAdd, Nat.reduceSub, Nat.reduceLT, Nat.reduceEqDiff, Nat.reduceBEq, Int.reduceLE, Int.reduceToNat]; rfl) (by simp only [go_sem, Int.reduceEq, Int.reduceLT, Int.reduceBEq, Int.reduceBNe, Int.reduceNe, Nat.reduceLeDiff, Nat.reduceAdd, Nat.reduceSub, Nat.reduceLT, Nat.reduceEqDiff, Nat.reduceBEq, Int.reduceLE, Int.reduceToNat]; rfl) (Sto.Sub.refl _) ?_
        rw [gv_none e2, gr_none e2]
        exact ⟨rfl, k, 11, hfail _ _, by omega, k, rfl, by omega⟩
      · have b128 : IntKind.u64.wrap ((((u.toNat : Int).tmod 128)) * ((2 ^ (7 * j) : Nat) : Int)) = ((u.toNat % 128 * 2 ^ (7 * j) : Nat) : Int) ∧ IntKind.u64.wrap ((y : Int) + ((u.toNat % 128 * 2 ^ (7 * j) : Nat) : Int)) = ((y + u.toNat % 128 * 2 ^ (7 * j) : Nat) : Int) := by
          have hlt : y + u.toNat % 128 * 2 ^ (7 * j) < 18446744073709551616 := by
            by_cases h9 : j = 9
            · subst h9
              have : u.toNat ≤ 1 := by omega
              have h2 : u.toNat % 128 * 2 ^ (7 * 9) ≤ 1 * 2 ^ (7 * 9) := Nat.mul_le_mul_right _ (by omega)
              have h3 : (2 : Nat) ^ (7 * 9) = 9223372036854775808 := by decide
              rw [h3] at *
              omega
            · have h2 : u.toNat % 128 * 2 ^ (7 * j) ≤ 127 * 2 ^ (7 * j) := Nat.mul_le_mul_right _ (by omega)
              have h3 : (2 : Nat) ^ (7 * j) ≤ 2 ^ (7 * 8) := Nat.pow_le_pow_right (by omega) (by omega)
              have h4 : (2 : Nat) ^ (7 * 8) = 72057594037927936 := by decide
              rw [h4] at h3
              omega
          have ht : (u.toNat : Int).tmod 128 = ((u.toNat % 128 : Nat) : Int) := by rw [Int.tmod_eq_emod_of_nonneg (by omega)]; omega
          have hm' : ((u.toNat % 128 : Nat) : Int) * ((2 ^ (7 * j) : Nat) : Int) = ((u.toNat % 128 * 2 ^ (7 * j) : Nat) : Int) := by rw [← Int.natCast_mul]
          rw [ht, hm']
          generalize u.toNat % 128 * 2 ^ (7 * j) = z at *
          constructor
          · rw [IntKind.wrap_u64]; omega
          · rw [IntKind.wrap_u64]; omega
        obtain ⟨g1, g2⟩ := b128
        have hd9 : ((j : Int) == 9) = true → decide ((u.toNat : Int) > 1) = false := fun h => decide_eq_false (by
          have h3 : (j : Int) = 9 := by simpa using h
          intro h2; exact hbad ⟨by omega, by omega⟩)
        have hHV := HV
        by_cases hsm : u.toNat < 128
        · have d3 : decide ((u.toNat : Int) < 128) = true := decide_eq_true (by omega)
          have hmod : u.toNat % 128 = u.toNat := Nat.mod_eq_of_lt hsm
          by_cases hz : 0 < j ∧ u.toNat = 0
          · have d4 : ((u.toNat : Int) == 0) = true := by rw [beq_iff_eq]; omega
            have d5 : decide ((j : Int) > 0) = true := decide_eq_true (by omega)
            rw [if_pos (.inr ⟨by omega, hz.2⟩)] at HV
            have e2 := freeP_bad (m := m) HV
            cases d2 : ((j : Int) == 9)
            all_goals
              first | have d1 := hd9 d2 | have d1 : True := trivial
              repeat (first | ((first | apply AOps.goP prg | apply ALex.goP prg); (case run => simp only [go_sem, Int.reduceEq, Int.reduceLT, Int.reduceBEq, Int.reduceBNe, Int.reduceNe, Nat.reduceLeDiff, Nat.reduceAdd, Nat.reduceSub, Nat.reduceLT, Nat.reduceEqDiff, Nat.reduceBEq, Int.reduceLE, Int.reduceToNat, hb2, b1, f3, f5, f6, hu, d1, d2, d3, d4, d5, g1, g2, Int.toNat_natCast]; rfl); (case mm => simp only [go_sem, Int.reduceEq, Int.reduceLT, Int.reduceBEq, Int.reduceBNe, Int.reduceNe, Nat.reduceLeDiff, Nat.reduceAdd, Nat.reduceSub, Nat.reduceLT, Nat.reduceEqDiff, Nat.reduceBEq, Int.reduceLE, Int.reduceToNat]; rfl); (case pr => rfl)) | (refine AW.seq ?_) | (refine AW.region ?_) | (refine AW.draw prg (by kernel_rfl) ?_) | (refine AOps.nil ?_; try dsimp only [AX.then, AX.inBlock]) | (refine ALex.nil ?_; try dsimp only [AX.then, AX.inBlock]) | (refine AW.condT (by rfl) ?_) | (refine AW.condF (by rfl) ?_) | (refine AW.skip ?_; try dsimp only [AX.then, AX.inBlock]) | (refine AW.ret ?_; try dsimp only [AX.then, AX.inBlock]) | (refine AW.block ?_) | (refine AW.exit ?_; simp only [AX.then, AX.inBlock, if_true, Nat.reduceEqDiff, if_false]))
              (first | refine AOps.callq (by rfl) (by rfl) (by exact (aFail b s _ 0 11 k ⟨setM S'.bk b (rrD s (k + (j + 1) : Nat) 0), S'.ow⟩ t (by rw [getM_setM, hb2]; rfl))) ?_ | refine ALex.callq (by rfl) (by rfl) (by exact (aFail b s _ 0 11 k ⟨setM S'.bk b (rrD s (k + (j + 1) : Nat) 0), S'.ow⟩ t (by rw [getM_setM, hb2]; rfl))) ?_)
              repeat (first | ((first | apply AOps.goP prg | apply ALex.goP prg); (case run => simp only [go_sem, Int.reduceEq, Int.reduceLT, Int.reduceBEq, Int.reduceBNe, Int.reduceNe, Nat.reduceLeDiff, Nat.reduceAdd, Nat.reduceSub, Nat.reduceLT, Nat.reduceEqDiff, Nat.reduceBEq, Int.reduceLE, Int.reduceToNat]; rfl); (case mm => simp only [go_sem, Int.reduceEq, Int.reduceLT, Int.reduceBEq, Int.reduceBNe, Int.reduceNe, Nat.reduceLeDiff, Nat.reduceAdd, Nat.reduceSub, Nat.reduceLT, Nat.reduceEqDiff, Nat.reduceBEq, Int.reduceLE, Int.reduceToNat]; rfl); (case pr => rfl)) | (refine AW.seq ?_) | (refine AW.region ?_) | (refine AW.draw prg (by kernel_rfl) ?_) | (refine AOps.nil ?_; try dsimp only [AX.then, AX.inBlock]) | (refine ALex.nil ?_; try dsimp only [AX.then, AX.inBlock]) | (refine AW.condT (by rfl) ?_) | (refine AW.condF (by rfl) ?_) | (refine AW.skip ?_; try dsimp only [AX.then, AX.inBlock]) | (refine AW.ret ?_; try dsimp only [AX.then, AX.inBlock]) | (refine AW.block ?_) | (refine AW.exit ?_; simp only [AX.then, AX.inBlock, if_true, Nat.reduceEqDiff, if_false]))
              first | refine endx (by simp only [go_sem, Int.reduceEq, Int.reduceLT, Int.reduceBEq, Int.reduceBNe, Int.reduceNe, Nat.reduceLeDiff, Nat.reduceAdd, Nat.reduceSub, Nat.reduceLT, Nat.reduceEqDiff, Nat.reduceBEq, Int.reduceLE, Int.reduceToNat]; rfl) (by simp only [go_sem, Int.reduceEq, Int.reduceLT, Int.reduceBEq, Int.reduceBNe, Int.reduceNe, Nat.reduceLeDiff, Nat.reduceAdd, Nat.reduceSub, Nat.reduceLT, Nat.reduceEqDiff, Nat.reduceBEq, Int.reduceLE, Int.reduceToNat]; rfl) (Sto.Sub.refl _) ?_ | refine endnx (by simp only [go_sem, Int.reduceEq, Int.reduceLT, Int.reduceBEq, Int.reduceBNe, Int.reduceNe, Nat.reduceLeDiff, Nat.reduceAdd, Nat.reduceSub, Nat.reduceLT, Nat.reduceEqDiff, Nat.reduceBEq, Int.reduceLE, Int.reduceToNat]; rfl) (by simp only [go_sem, Int.reduceEq, Int.reduceLT, Int.reduceBEq, Int.reduceBNe, Int.reduceNe, Nat.reduceLeDiff, Nat.reduceAdd, Nat.reduceSub, Nat.reduceLT, Nat.reduceEqDiff, Nat.reduceBEq, Int.reduceLE, Int.reduceToNat]; rfl) (Sto.Sub.refl _) ?_
              rw [gv_none e2, gr_none e2]
              exact ⟨rfl, k, 11, hfail _ _, by omega, k, rfl, by omega⟩
          · rw [if_neg (by rintro (⟨h1, h2⟩ | ⟨h1, h2⟩)
                           · exact hbad ⟨by omega, h2⟩
                           · exact hz ⟨by omega, h2⟩), if_pos hsm] at HV
            rw [hmod] at g1 g2
            obtain ⟨n, hn⟩ : ∃ n, y + u.toNat * 2 ^ (7 * j) = n := ⟨_, rfl⟩
            rw [hn] at g2 HV
            have d4 : ((u.toNat : Int) == 0) = true → decide ((j : Int) > 0) = false := fun h => decide_eq_false (by
              have h3 : (u.toNat : Int) = 0 := by simpa using h
              intro h2; exact hz ⟨by omega, by omega⟩)
            by_cases hbig : m < n
            · have d6 : decide ((n : Int) > m) = true := decide_eq_true (by omega)
              have e2 := freeP_big HV hbig
              cases d2 : ((j : Int) == 9)
              all_goals
                first | have d1 := hd9 d2 | have d1 : True := trivial
                cases d5 : ((u.toNat : Int) == 0)
              all_goals
                first | have d7 := d4 d5 | have d7 : True := trivial
                repeat (first | ((first | apply AOps.goP prg | apply ALex.goP prg); (case run => simp only [go_sem, Int.reduceEq, Int.reduceLT, Int.reduceBEq, Int.reduceBNe, Int.reduceNe, Nat.reduceLeDiff, Nat.reduceAdd, Nat.reduceSub, Nat.reduceLT, Nat.reduceEqDiff, Nat.reduceBEq, Int.reduceLE, Int.reduceToNat, hb2, b1, f3, f5, f6, hu, d1, d2, d3, d5, d6, d7, g1, g2, Int.toNat_natCast]; rfl); (case mm => simp only [go_sem, Int.reduceEq, Int.reduceLT, Int.reduceBEq, Int.reduceBNe, Int.reduceNe, Nat.reduceLeDiff, Nat.reduceAdd, Nat.reduceSub, Nat.reduceLT, Nat.reduceEqDiff, Nat.reduceBEq, Int.reduceLE, Int.reduceToNat]; rfl); (case pr => rfl)) | (refine AW.seq ?_) | (refine AW.region ?_) | (refine AW.draw prg (by kernel_rfl) ?_) | (refine AOps.nil ?_; try dsimp only [AX.then, AX.inBlock]) | (refine ALex.nil ?_; try dsimp only [AX.then, AX.inBlock]) | (refine AW.condT (by rfl) ?_) | (refine AW.condF (by rfl) ?_) | (refine AW.skip ?_; try dsimp only [AX.then, AX.inBlock]) | (refine AW.ret ?_; try dsimp only [AX.then, AX.inBlock]) | (refine AW.block ?_) | (refine AW.exit ?_; simp only [AX.then, AX.inBlock, if_true, Nat.reduceEqDiff, if_false]))
                (first | refine AOps.callq (by rfl) (by rfl) (by exact (aFail b s _ 0 12 k ⟨setM S'.bk b (rrD s (k + (j + 1) : Nat) 0), S'.ow⟩ t (by rw [getM_setM, hb2]; rfl))) ?_ | refine ALex.callq (by rfl) (by rfl) (by exact (aFail b s _ 0 12 k ⟨setM S'.bk b (rrD s (k + (j + 1) : Nat) 0), S'.ow⟩ t (by rw [getM_setM, hb2]; rfl))) ?_)
                repeat (first | ((first | apply AOps.goP prg | apply ALex.goP prg); (case run => simp only [go_sem, Int.reduceEq, Int.reduceLT, Int.reduceBEq, Int.reduceBNe, Int.reduceNe, Nat.reduceLeDiff, Nat.reduceAdd, Nat.reduceSub, Nat.reduceLT, Nat.reduceEqDiff, Nat.reduceBEq, Int.reduceLE, Int.reduceToNat]; rfl); (case mm => simp only [go_sem, Int.reduceEq, Int.reduceLT, Int.reduceBEq, Int.reduceBNe, Int.reduceNe, Nat.reduceLeDiff, Nat.reduceAdd, Nat.reduceSub, Nat.reduceLT, Nat.reduceEqDiff, Nat.reduceBEq, Int.reduceLE, Int.reduceToNat]; rfl); (case pr => rfl)) | (refine AW.seq ?_) | (refine AW.region ?_) | (refine AW.draw prg (by kernel_rfl) ?_) | (refine AOps.nil ?_; try dsimp only [AX.then, AX.inBlock]) | (refine ALex.nil ?_; try dsimp only [AX.then, AX.inBlock]) | (refine AW.condT (by rfl) ?_) | (refine AW.condF (by rfl) ?_) | (refine AW.skip ?_; try dsimp only [AX.then, AX.inBlock]) | (refine AW.ret ?_; try dsimp only [AX.then, AX.inBlock]) | (refine AW.block ?_) | (refine AW.exit ?_; simp only [AX.then, AX.inBlock, if_true, Nat.reduceEqDiff, if_false]))
                first | refine endx (by simp only [go_sem, Int.reduceEq, Int.reduceLT, Int.reduceBEq, Int.reduceBNe, Int.reduceNe, Nat.reduceLeDiff, Nat.reduceAdd, Nat.reduceSub, Nat.reduceLT, Nat.reduceEqDiff, Nat.reduceBEq, Int.reduceLE, Int.reduceToNat]; rfl) (by simp only [go_sem, Int.reduceEq, Int.reduceLT, Int.reduceBEq, Int.reduceBNe, Int.reduceNe, Nat.reduceLeDiff, Nat.reduceAdd, Nat.reduceSub, Nat.reduceLT, Nat.reduceEqDiff, Nat.reduceBEq, Int.reduceLE, Int.reduceToNat]; rfl) (Sto.Sub.refl _) ?_ | refine endnx (by simp only [go_sem, Int.reduceEq, Int.reduceLT, Int.reduceBEq, Int.reduceBNe, Int.reduceNe, Nat.reduceLeDiff, Nat.reduceAdd, Nat.reduceSub, Nat.reduceLT, Nat.reduceEqDiff, Nat.reduceBEq, Int.reduceLE, Int.reduceToNat]; rfl) (by simp only [go_sem, Int.reduceEq, Int.reduceLT, Int.reduceBEq, Int.reduceBNe, Int.reduceNe, Nat.reduceLeDiff, Nat.reduceAdd, Nat.reduceSub, Nat.reduceLT, Nat.reduceEqDiff, Nat.reduceBEq, Int.reduceLE, Int.reduceToNat]; rfl) (Sto.Sub.refl _) ?_
                rw [gv_none e2, gr_none e2]
                exact ⟨rfl, k, 12, hfail _ _, by omega, k, rfl, by omega⟩
            · have d6 : decide ((n : Int) > m) = false := decide_eq_false (by omega)
              have e2 := freeP_fit HV (Nat.le_of_not_lt hbig)
              cases d2 : ((j : Int) == 9)
              all_goals
                first | have d1 := hd9 d2 | have d1 : True := trivial
                cases d5 : ((u.toNat : Int) == 0)
              all_goals
                first | have d7 := d4 d5 | have d7 : True := trivial
                repeat (first | ((first | apply AOps.goP prg | apply ALex.goP prg); (case run => simp only [go_sem, Int.reduceEq, Int.reduceLT, Int.reduceBEq, Int.reduceBNe, Int.reduceNe, Nat.reduceLeDiff, Nat.reduceAdd, Nat.reduceSub, Nat.reduceLT, Nat.reduceEqDiff, Nat.reduceBEq, Int.reduceLE, Int.reduceToNat, hb2, b1, f3, f5, f6, hu, d1, d2, d3, d5, d6, d7, g1, g2, Int.toNat_natCast]; rfl); (case mm => simp only [go_sem, Int.reduceEq, Int.reduceLT, Int.reduceBEq, Int.reduceBNe, Int.reduceNe, Nat.reduceLeDiff, Nat.reduceAdd, Nat.reduceSub, Nat.reduceLT, Nat.reduceEqDiff, Nat.reduceBEq, Int.reduceLE, Int.reduceToNat]; rfl); (case pr => rfl)) | (refine AW.seq ?_) | (refine AW.region ?_) | (refine AW.draw prg (by kernel_rfl) ?_) | (refine AOps.nil ?_; try dsimp only [AX.then, AX.inBlock]) | (refine ALex.nil ?_; try dsimp only [AX.then, AX.inBlock]) | (refine AW.condT (by rfl) ?_) | (refine AW.condF (by rfl) ?_) | (refine AW.skip ?_; try dsimp only [AX.then, AX.inBlock]) | (refine AW.ret ?_; try dsimp only [AX.then, AX.inBlock]) | (refine AW.block ?_) | (refine AW.exit ?_; simp only [AX.then, AX.inBlock, if_true, Nat.reduceEqDiff, if_false]))
                first | refine endx (by simp only [go_sem, Int.reduceEq, Int.reduceLT, Int.reduceBEq, Int.reduceBNe, Int.reduceNe, Nat.reduceLeDiff, Nat.reduceAdd, Nat.reduceSub, Nat.reduceLT, Nat.reduceEqDiff, Nat.reduceBEq, Int.reduceLE, Int.reduceToNat]; rfl) (by simp only [go_sem, Int.reduceEq, Int.reduceLT, Int.reduceBEq, Int.reduceBNe, Int.reduceNe, Nat.reduceLeDiff, Nat.reduceAdd, Nat.reduceSub, Nat.reduceLT, Nat.reduceEqDiff, Nat.reduceBEq, Int.reduceLE, Int.reduceToNat]; rfl) (Sto.Sub.refl _) ?_ | refine endnx (by simp only [go_sem, Int.reduceEq, Int.reduceLT, Int.reduceBEq, Int.reduceBNe, Int.reduceNe, Nat.reduceLeDiff, Nat.reduceAdd, Nat.reduceSub, Nat.reduceLT, Nat.reduceEqDiff, Nat.reduceBEq, Int.reduceLE, Int.reduceToNat]; rfl) (by simp only [go_sem, Int.reduceEq, Int.reduceLT, Int.reduceBEq, Int.reduceBNe, Int.reduceNe, Nat.reduceLeDiff, Nat.reduceAdd, Nat.reduceSub, Nat.reduceLT, Nat.reduceEqDiff, Nat.reduceBEq, Int.reduceLE, Int.reduceToNat]; rfl) (Sto.Sub.refl _) ?_
                rw [gv_some e2, gr_some e2]
                exact ⟨rfl, (k + (j + 1) : Nat), 0, hfail _ _, rfl, k + (j + 1), rfl, by simp; omega, by rw [hl, List.drop_drop]⟩
        · have d3 : decide ((u.toNat : Int) < 128) = false := decide_eq_false (by omega)
          have h9 : j ≠ 9 := fun h => hbad ⟨h, by omega⟩
          have d2 : ((j : Int) == 9) = false := by rw [beq_eq_false_iff_ne]; omega
          rw [if_neg (by rintro (⟨h1, h2⟩ | ⟨h1, h2⟩)
                         · exact hbad ⟨by omega, h2⟩
                         · omega), if_neg hsm] at HV
          have f7 : IntKind.u64.wrap (((2 ^ (7 * j) : Nat) : Int) * 128) = ((2 ^ (7 * (j + 1)) : Nat) : Int) := by
            rw [pow7]
            have h3 : (2 : Nat) ^ (7 * j) ≤ 2 ^ (7 * 8) := Nat.pow_le_pow_right (by omega) (by omega)
            have h4 : (2 : Nat) ^ (7 * 8) = 72057594037927936 := by decide
            rw [h4] at h3
            generalize 2 ^ (7 * j) = z at *
            rw [IntKind.wrap_u64]; omega
          have f8 : IntKind.i64.wrap ((j : Int) + 1) = ((j + 1 : Nat) : Int) := IntWalk.i64_in _ (by omega)
          have hlt : y + u.toNat % 128 * 2 ^ (7 * j) < 2 ^ (7 * (j + 1)) := by
            rw [pow7]
            have h2 : (u.toNat % 128 + 1) * 2 ^ (7 * j) ≤ 128 * 2 ^ (7 * j) := Nat.mul_le_mul_right _ (by omega)
            rw [Nat.add_mul] at h2
            omega
          repeat (first | ((first | apply AOps.goP prg | apply ALex.goP prg); (case run => simp only [go_sem, Int.reduceEq, Int.reduceLT, Int.reduceBEq, Int.reduceBNe, Int.reduceNe, Nat.reduceLeDiff, Nat.reduceAdd, Nat.reduceSub, Nat.reduceLT, Nat.reduceEqDiff, Nat.reduceBEq, Int.reduceLE, Int.reduceToNat, hb2, b1, f3, f5, f6, f7, f8, hu, d2, d3, g1, g2, Int.toNat_natCast]; rfl); (case mm => simp only [go_sem, Int.reduceEq, Int.reduceLT, Int.reduceBEq, Int.reduceBNe, Int.reduceNe, Nat.reduceLeDiff, Nat.reduceAdd, Nat.reduceSub, Nat.reduceLT, Nat.reduceEqDiff, Nat.reduceBEq, Int.reduceLE, Int.reduceToNat]; rfl); (case pr => rfl)) | (refine AW.seq ?_) | (refine AW.region ?_) | (refine AW.draw prg (by kernel_rfl) ?_) | (refine AOps.nil ?_; try dsimp only [AX.then, AX.inBlock]) | (refine ALex.nil ?_; try dsimp only [AX.then, AX.inBlock]) | (refine AW.condT (by rfl) ?_) | (refine AW.condF (by rfl) ?_) | (refine AW.skip ?_; try dsimp only [AX.then, AX.inBlock]) | (refine AW.ret ?_; try dsimp only [AX.then, AX.inBlock]) | (refine AW.block ?_) | (refine AW.exit ?_; simp only [AX.then, AX.inBlock, if_true, Nat.reduceEqDiff, if_false]))
          refine ⟨[uD (y + u.toNat % 128 * 2 ^ (7 * j) : Nat), uD (2 ^ (7 * (j + 1)) : Nat), iD (j + 1 : Nat), .any], _, ?_, Sto.Sub.refl _, ⟨j + 1, _, rfl, hfail _ _, by omega, by omega, hlt, HV⟩, ?_⟩
          · simp only [go_sem, Int.reduceEq, Int.reduceLT, Int.reduceBEq, Int.reduceBNe, Int.reduceNe, Nat.reduceLeDiff, Nat.reduceAdd, Nat.reduceSub, Nat.reduceLT, Nat.reduceEqDiff, Nat.reduceBEq, Int.reduceLE, Int.reduceToNat, weakA, or_true, true_or, and_self]
          · simp only [go_sem, Int.reduceEq, Int.reduceLT, Int.reduceBEq, Int.reduceBNe, Int.reduceNe, Nat.reduceLeDiff, Nat.reduceAdd, Nat.reduceSub, Nat.reduceLT, Nat.reduceEqDiff, Nat.reduceBEq, Int.reduceLE, Int.reduceToNat, Int.toNat_natCast]; omega
    · have hnil : l.drop j = [] := List.drop_eq_nil_of_le (by omega)
      rw [hnil, vrd_nil] at HV
      have e2 := freeP_bad (m := m) HV
      have b1 : (((k + j : Nat) : Int) == (s.length : Int)) = true := by rw [beq_iff_eq]; omega
      repeat (first | ((first | apply AOps.goP prg | apply ALex.goP prg); (case run => simp only [go_sem, Int.reduceEq, Int.reduceLT, Int.reduceBEq, Int.reduceBNe, Int.reduceNe, Nat.reduceLeDiff, Nat.reduceAdd, Nat.reduceSub, Nat.reduceLT, Nat.reduceEqDiff, Nat.reduceBEq, Int.reduceLE, Int.reduceToNat, hb2, b1]; rfl); (case mm => simp only [go_sem, Int.reduceEq, Int.reduceLT, Int.reduceBEq, Int.reduceBNe, Int.reduceNe, Nat.reduceLeDiff, Nat.reduceAdd, Nat.reduceSub, Nat.reduceLT, Nat.reduceEqDiff, Nat.reduceBEq, Int.reduceLE, Int.reduceToNat]; rfl); (case pr => rfl)) | (refine AW.seq ?_) | (refine AW.region ?_) | (refine AW.draw prg (by kernel_rfl) ?_) | (refine AOps.nil ?_; try dsimp only [AX.then, AX.inBlock]) | (refine ALex.nil ?_; try dsimp only [AX.then, AX.inBlock]) | (refine AW.condT (by rfl) ?_) | (refine AW.condF (by rfl) ?_) | (refine AW.skip ?_; try dsimp only [AX.then, AX.inBlock]) | (refine AW.ret ?_; try dsimp only [AX.then, AX.inBlock]) | (refine AW.block ?_) | (refine AW.exit ?_; simp only [AX.then, AX.inBlock, if_true, Nat.reduceEqDiff, if_false]))
      (first | refine AOps.callq (by rfl) (by rfl) (by exact (aFail b s _ 0 10 k S' t hb2)) ?_ | refine ALex.callq (by rfl) (by rfl) (by exact (aFail b s _ 0 10 k S' t hb2)) ?_)
      repeat (first | ((first | apply AOps.goP prg | apply ALex.goP prg); (case run => simp only [go_sem, Int.reduceEq, Int.reduceLT, Int.reduceBEq, Int.reduceBNe, Int.reduceNe, Nat.reduceLeDiff, Nat.reduceAdd, Nat.reduceSub, Nat.reduceLT, Nat.reduceEqDiff, Nat.reduceBEq, Int.reduceLE, Int.reduceToNat]; rfl); (case mm => simp only [go_sem, Int.reduceEq, Int.reduceLT, Int.reduceBEq, Int.reduceBNe, Int.reduceNe, Nat.reduceLeDiff, Nat.reduceAdd, Nat.reduceSub, Nat.reduceLT, Nat.reduceEqDiff, Nat.reduceBEq, Int.reduceLE, Int.reduceToNat]; rfl); (case pr => rfl)) | (refine AW.seq ?_) | (refine AW.region ?_) | (refine AW.draw prg (by kernel_rfl) ?_) | (refine AOps.nil ?_; try dsimp only [AX.then, AX.inBlock]) | (refine ALex.nil ?_; try dsimp only [AX.then, AX.inBlock]) | (refine AW.condT (by rfl) ?_) | (refine AW.condF (by rfl) ?_) | (refine AW.skip ?_; try dsimp only [AX.then, AX.inBlock]) | (refine AW.ret ?_; try dsimp only [AX.then, AX.inBlock]) | (refine AW.block ?_) | (refine AW.exit ?_; simp only [AX.then, AX.inBlock, if_true, Nat.reduceEqDiff, if_false]))
      first | refine endx (by simp only [go_sem, Int.reduceEq, Int.reduceLT, Int.reduceBEq, Int.reduceBNe, Int.reduceNe, Nat.reduceLeDiff, Nat.reduceAdd, Nat.reduceSub, Nat.reduceLT, Nat.reduceEqDiff, Nat.reduceBEq, Int.reduceLE, Int.reduceToNat]; rfl) (by simp only [go_sem, Int.reduceEq, Int.reduceLT, Int.reduceBEq, Int.reduceBNe, Int.reduceNe, Nat.reduceLeDiff, Nat.reduceAdd, Nat.reduceSub, Nat.reduceLT, Nat.reduceEqDiff, Nat.reduceBEq, Int.reduceLE, Int.reduceToNat]; rfl) (Sto.Sub.refl _) ?_ | refine endnx (by simp only [go_sem, Int.reduceEq, Int.reduceLT, Int.reduceBEq, Int.reduceBNe, Int.reduceNe, Nat.reduceLeDiff, Nat.reduceAdd, Nat.reduceSub, Nat.reduceLT, Nat.reduceEqDiff, Nat.reduceBEq, Int.reduceLE, Int.reduceToNat]; rfl) (by simp only [go_sem, Int.reduceEq, Int.reduceLT, Int.reduceBEq, Int.reduceBNe, Int.reduceNe, Nat.reduceLeDiff, Nat.reduceAdd, Nat.reduceSub, Nat.reduceLT, Nat.reduceEqDiff, Nat.reduceBEq, Int.reduceLE, Int.reduceToNat]; rfl) (Sto.Sub.refl _) ?_
      rw [gv_none e2, gr_none e2]
      exact ⟨rfl, k, 10, hfail _ _, by omega, k, rfl, by omega⟩

end Go.Proofs.YtemicgccgcmmbaaGreat
