/- Plain laws: what is laid is read, and what is read was laid: numbers, texts, digests, pairs. -/
import Derived.Test.YtemicgccgcmmbaaGreatZ5
import Derived.Test.YtemicgccgcmmbaaGreatZ4
import Derived.Laws.BitsAllLaws
import Derived.Laws.BitsLemmas
import Derived.Test.YtemicgccgcmmbaaGreatZ0
import Derived.Test.YtemicgccgcmmbaaGreatZ1
namespace Go.Proofs.YtemicgccgcmmbaaGreat
set_option linter.unusedVariables false
set_option linter.unusedSimpArgs false
open Go Go.RowKit

theorem byteN (n : Nat) (h : n < 256) : (n.toUInt8).toNat = n := by
  rw [Nat.toUInt8, UInt8.toNat_ofNat']; exact Nat.mod_eq_of_lt (by omega)
theorem nByte (b : UInt8) : b.toNat.toUInt8 = b := by simp
theorem freeB_pos (n : Nat) : 1 ≤ (freeB n).length := by rw [freeB_length]; exact cntN_pos n

/-- A free number that is laid is read. -/
theorem vrd_free : ∀ (n k acc : Nat) (l : Bs), (0 < k → 0 < n) → k ≤ 63 → k % 7 = 0 → n * 2 ^ k < 18446744073709551616 → vrd (freeB n ++ l) k acc = some (acc + n * 2 ^ k, l) := by
  intro n
  induction n using Nat.strongRecOn with
  | ind n ih =>
    intro k acc l h0 hk h7 hn
    by_cases h : n < 128
    · rw [freeB_small h]
      simp only [List.singleton_append]
      unfold vrd
      rw [byteN n (by omega), if_neg, if_pos h]
      rintro (⟨h1, h2⟩ | ⟨h1, h2⟩)
      · subst h1
        have : 2 * 2 ^ 63 ≤ n * 2 ^ 63 := Nat.mul_le_mul_right _ h2
        omega
      · have := h0 h1; omega
    · rw [freeB_big h]
      simp only [List.cons_append]
      unfold vrd
      have hk57 : k ≤ 56 := by
        rcases Nat.lt_or_ge 56 k with h1 | h1
        · have hk63 : k = 63 := by omega
          subst hk63
          have : 128 * 2 ^ 63 ≤ n * 2 ^ 63 := Nat.mul_le_mul_right _ (by omega)
          omega
        · exact h1
      have hm : n % 128 + 128 < 256 := by omega
      have hs : n * 2 ^ k = n % 128 * 2 ^ k + n / 128 * 2 ^ (k + 7) := by
        rw [Nat.pow_add, show n / 128 * (2 ^ k * 2 ^ 7) = (n / 128 * 128) * 2 ^ k by rw [Nat.mul_assoc, Nat.mul_comm (2 ^ k) (2 ^ 7)], ← Nat.add_mul]
        congr 1; omega
      rw [byteN _ hm, if_neg (by rintro (⟨h1, h2⟩ | ⟨h1, h2⟩) <;> omega), if_neg (by omega), ih (n / 128) (by omega) (k + 7) _ l (fun _ => by omega) (by omega) (by omega) (by omega)]
      rw [show (n % 128 + 128) % 128 = n % 128 by omega, Nat.add_assoc, ← hs]

theorem freeP_free {m n : Nat} {l : Bs} (h : n ≤ m) (h64 : n < 18446744073709551616) : freeP m (freeB n ++ l) = some (n, l) := by
  unfold freeP
  rw [vrd_free n 0 0 l (by omega) (by omega) (by omega) (by omega)]
  simp [h]

/-- A free number that is read was laid so. -/
theorem free_vrd : ∀ (l : Bs) (k acc m : Nat) (l' : Bs), vrd l k acc = some (m, l') → ∃ n, l = freeB n ++ l' ∧ m = acc + n * 2 ^ k ∧ (0 < k → 0 < n)
  | [], _, _, _, _, h => by simp [vrd] at h
  | b :: l, k, acc, m, l', h => by
    unfold vrd at h
    split at h
    · cases h
    · rename_i hc
      have hb := b.toNat_lt
      split at h
      · rename_i hlt
        simp only [Option.some.injEq, Prod.mk.injEq] at h
        obtain ⟨rfl, rfl⟩ := h
        refine ⟨b.toNat, ?_, rfl, fun h0 => ?_⟩
        · rw [freeB_small hlt, nByte]; rfl
        · omega
      · rename_i hge
        obtain ⟨n, rfl, hm, h0⟩ := free_vrd l _ _ _ _ h
        have h0' := h0 (by omega)
        have hb8 : 128 ≤ b.toNat := by omega
        refine ⟨b.toNat % 128 + 128 * n, ?_, ?_, fun _ => by clear hm; omega⟩
        · rw [freeB_big (n := b.toNat % 128 + 128 * n) (by omega)]
          have e1 : (b.toNat % 128 + 128 * n) % 128 + 128 = b.toNat := by omega
          have e2 : (b.toNat % 128 + 128 * n) / 128 = n := by omega
          rw [e1, e2, nByte]; rfl
        · rw [hm, Nat.pow_add, Nat.add_mul, Nat.add_assoc]
          congr 2
          rw [show n * (2 ^ k * 2 ^ 7) = 128 * n * 2 ^ k by rw [Nat.mul_comm (2 ^ k) (2 ^ 7), ← Nat.mul_assoc, Nat.mul_comm n (2 ^ 7)]]

theorem free_freeP {m n : Nat} {l l' : Bs} (h : freeP m l = some (n, l')) : l = freeB n ++ l' := by
  unfold freeP at h
  cases hv : vrd l 0 0 with
  | none => simp [hv] at h
  | some r =>
    obtain ⟨n', l''⟩ := r
    simp only [hv] at h
    split at h
    · simp only [Option.some.injEq, Prod.mk.injEq] at h
      obtain ⟨rfl, rfl⟩ := h
      obtain ⟨n, h1, h2, _⟩ := free_vrd _ _ _ _ _ hv
      simp at h2; subst h2; exact h1
    · cases h

theorem textP_text {m : Nat} {t l : Bs} (h : t.length ≤ m) (h64 : t.length < 18446744073709551616) : textP m (textB t ++ l) = some (t, l) := by
  unfold textP textB
  rw [List.append_assoc, freeP_free h h64]
  simp [rawP]
theorem text_textP {m : Nat} {t l l' : Bs} (h : textP m l = some (t, l')) : l = textB t ++ l' := by
  unfold textP at h
  cases hf : freeP m l with
  | none => simp [hf] at h
  | some r =>
    obtain ⟨n, l1⟩ := r
    simp only [hf, rawP] at h
    split at h
    · rename_i hle
      simp only [Option.some.injEq, Prod.mk.injEq] at h
      obtain ⟨rfl, rfl⟩ := h
      rw [free_freeP hf, textB, List.length_take, Nat.min_eq_left hle, List.append_assoc, List.take_append_drop]
    · cases h

theorem be_fix : ∀ (k n acc : Nat), be (fixB k n) acc = acc * 256 ^ k + n % 256 ^ k
  | 0, n, acc => by simp [fixB, be, Nat.mod_one]
  | k + 1, n, acc => by
    simp only [fixB, be]
    rw [be_fix k n, byteN _ (by omega), Nat.pow_succ, Nat.add_mul, Nat.mod_mul, Nat.mul_comm (256 ^ k) 256, Nat.mul_assoc, Nat.mul_comm (256 ^ k) (n / 256 ^ k % 256)]
    omega
theorem fix_be : ∀ (l : Bs) , fixB l.length (be l 0) = l := by
  have key : ∀ (l : Bs) (acc : Nat), fixB l.length (be l acc) = l := by
    intro l
    induction l with
    | nil => intro acc; rfl
    | cons b l ih =>
      intro acc
      simp only [be, List.length_cons, fixB]
      have h1 : be l (acc * 256 + b.toNat) = (acc * 256 + b.toNat) * 256 ^ l.length + be l 0 := by
        have h2 := be_le' l (acc * 256 + b.toNat)
        exact h2
      have hlt := be_lt l
      have hb := b.toNat_lt
      rw [ih]
      congr 1
      rw [h1, Nat.mul_comm, Nat.mul_add_div (Nat.pow_pos (by omega)), Nat.div_eq_of_lt hlt]
      rw [show (acc * 256 + b.toNat + 0) % 256 = b.toNat by omega, nByte]
  exact fun l => key l 0
where be_le' : ∀ (l : Bs) (acc : Nat), be l acc = acc * 256 ^ l.length + be l 0
  | [], acc => by simp [be]
  | b :: l, acc => by
    simp only [be, List.length_cons, Nat.zero_mul, Nat.zero_add]
    rw [be_le' l (acc * 256 + b.toNat), be_le' l b.toNat, Nat.pow_succ, Nat.add_mul]
    rw [Nat.mul_assoc, Nat.mul_comm 256]; omega

theorem takeP_fix {n : Nat} {l : Bs} (k : Nat) (h : n < 256 ^ k) : takeP k (fixB k n ++ l) = some (n, l) := by
  unfold takeP
  have hl := fixB_len k n
  rw [if_pos (by simp [hl]), List.take_append_of_le_length (by omega), List.take_of_length_le (by omega), be_fix, List.drop_append_of_le_length (by omega), List.drop_of_length_le (by omega)]
  simp [Nat.mod_eq_of_lt h]
theorem fix_takeP {k n : Nat} {l l' : Bs} (h : takeP k l = some (n, l')) : l = fixB k n ++ l' := by
  unfold takeP at h
  split at h
  · rename_i hk
    simp only [Option.some.injEq, Prod.mk.injEq] at h
    obtain ⟨rfl, rfl⟩ := h
    have := fix_be (l.take k)
    rw [List.length_take, Nat.min_eq_left hk] at this
    rw [this, List.take_append_drop]
  · cases h

theorem dgP_dg {wd : Nat} {d : Dg} {l : Bs} (h1 : wd ≤ 32) (h : Dg.cut wd d = d) : dgP wd (d.l.take wd ++ l) = some (d, l) := by
  have hd := d.h
  unfold dgP rawP
  rw [if_pos (by simp; omega)]
  have ht : (d.l.take wd ++ l).take wd = d.l.take wd := by rw [List.take_append_of_le_length (by simp; omega), List.take_take, Nat.min_self]
  have hdr : (d.l.take wd ++ l).drop wd = l := by rw [List.drop_append_of_le_length (by simp; omega), List.drop_of_length_le (by simp; omega)]; rfl
  rw [ht, hdr]
  exact congrArg (fun x => some (x, l)) h
theorem pad_take {wd : Nat} {l : Bs} (h : wd ≤ 32) (hl : wd ≤ l.length) : (Dg.pad (l.take wd)).l.take wd = l.take wd := by
  show (padB (l.take wd)).take wd = l.take wd
  unfold padB
  rw [List.take_take, Nat.min_eq_right h, List.take_append_of_le_length (by simp; omega), List.take_take, Nat.min_self]
theorem dg_dgP {wd : Nat} {d : Dg} {l l' : Bs} (h1 : wd ≤ 32) (h : dgP wd l = some (d, l')) : l = d.l.take wd ++ l' := by
  unfold dgP rawP at h
  split at h
  · rename_i hk
    simp only [Option.map_some, Option.some.injEq, Prod.mk.injEq] at h
    obtain ⟨rfl, rfl⟩ := h
    rw [pad_take h1 hk, List.take_append_drop]
  · simp at h

theorem pairP_pair {P : Nat} {x : Pr} {l : Bs} (h1 : x.1.length ≤ P / 16) (h2 : x.2.length ≤ P / 8) (hP : P ≤ 8192) : pairP P () (pairB x ++ l) = some ((), x, l) := by
  unfold pairP pairB
  rw [List.append_assoc, textP_text h1 (by omega)]
  simp only
  rw [textP_text h2 (by omega)]
theorem pair_pairP {P : Nat} {u u' : Unit} {x : Pr} {l l' : Bs} (h : pairP P u l = some (u', x, l')) : l = pairB x ++ l' := by
  unfold pairP at h
  cases h1 : textP (P / 16) l with
  | none => simp [h1] at h
  | some r =>
    obtain ⟨k, l1⟩ := r
    cases h2 : textP (P / 8) l1 with
    | none => simp [h1, h2] at h
    | some r2 =>
      obtain ⟨v, l2⟩ := r2
      simp only [h1, h2, Option.some.injEq, Prod.mk.injEq] at h
      obtain ⟨_, rfl, rfl⟩ := h
      rw [text_textP h1, text_textP h2, pairB, List.append_assoc]

theorem many_pairs {P : Nat} (hP : P ≤ 8192) : ∀ (ps : List Pr) (l : Bs), (∀ x ∈ ps, x.1.length ≤ P / 16 ∧ x.2.length ≤ P / 8) → manyP (pairP P) ps.length () (pairsB ps ++ l) = some ((), ps, l)
  | [], l, _ => rfl
  | x :: t, l, h => by
    have hx := h x (by simp)
    have ih := many_pairs hP t l (fun y hy => h y (by simp [hy]))
    show manyP (pairP P) (t.length + 1) () ((pairB x ++ pairsB t) ++ l) = _
    rw [List.append_assoc]
    unfold manyP
    rw [pairP_pair hx.1 hx.2 hP]
    simp only [ih]
theorem pairs_many {P : Nat} : ∀ (n : Nat) (ps : List Pr) (u : Unit) (l l' : Bs), manyP (pairP P) n () l = some (u, ps, l') → l = pairsB ps ++ l' ∧ ps.length = n
  | 0, ps, u, l, l', h => by
    simp only [manyP, Option.some.injEq, Prod.mk.injEq] at h
    obtain ⟨_, rfl, rfl⟩ := h; exact ⟨rfl, rfl⟩
  | n + 1, ps, u, l, l', h => by
    unfold manyP at h
    cases h1 : pairP P () l with
    | none => simp [h1] at h
    | some r =>
      obtain ⟨_, x, l1⟩ := r
      cases h2 : manyP (pairP P) n () l1 with
      | none => simp [h1, h2] at h
      | some r2 =>
        obtain ⟨_, ts, l2⟩ := r2
        simp only [h1, h2, Option.some.injEq, Prod.mk.injEq] at h
        obtain ⟨_, rfl, rfl⟩ := h
        obtain ⟨e1, e2⟩ := pairs_many n ts _ _ _ h2
        refine ⟨?_, by simp [e2]⟩
        rw [pair_pairP h1, e1, ← List.append_assoc]; rfl

theorem sum_ge {α : Type} (f : α → Nat) (B : Nat) : ∀ (l : List α), (∀ x ∈ l, B ≤ f x) → l.length * B ≤ (l.map f).sum
  | [], _ => by simp
  | x :: t, h => by
    have h1 := sum_ge f B t (fun y hy => h y (by simp [hy]))
    have h2 := h x (by simp)
    simp only [List.map_cons, List.sum_cons, List.length_cons, Nat.succ_mul]
    omega
theorem pairsB_ge (ps : List Pr) : ps.length ≤ (pairsB ps).length := by
  rw [pairsB_length]
  have := sum_ge prN 1 ps (fun x _ => by have := cntN_pos x.1.length; unfold prN txN; omega)
  omega

/-- All pairs that are laid are read. -/
theorem list_pairsB {P m : Nat} (hP : P ≤ 8192) {ps : List Pr} {l : Bs} (h : ∀ x ∈ ps, x.1.length ≤ P / 16 ∧ x.2.length ≤ P / 8) (hm : ps.length ≤ m) (h64 : ps.length < 18446744073709551616) :
    listP m (pairP P) () (freeB ps.length ++ pairsB ps ++ l) = some ((), ps, l) := by
  unfold listP
  rw [List.append_assoc, freeP_free hm h64]
  simp only
  rw [if_pos (by have := pairsB_ge ps; simp; omega), many_pairs hP ps l h]
theorem pairsB_list {P m : Nat} {ps : List Pr} {u : Unit} {l l' : Bs} (h : listP m (pairP P) () l = some (u, ps, l')) : l = freeB ps.length ++ pairsB ps ++ l' := by
  unfold listP at h
  cases hf : freeP m l with
  | none => simp [hf] at h
  | some r =>
    obtain ⟨n, l1⟩ := r
    simp only [hf] at h
    split at h
    · obtain ⟨e1, e2⟩ := pairs_many n ps u l1 l' h
      rw [free_freeP hf, e1, e2, List.append_assoc]
    · cases h

end Go.Proofs.YtemicgccgcmmbaaGreat

/- Plain laws: a node's form is read as that node, and what is read is that node's form. -/
namespace Go.Proofs.YtemicgccgcmmbaaGreat
set_option linter.unusedVariables false
set_option linter.unusedSimpArgs false
open Go Go.RowKit

/-- A kid's own bytes. -/
def kB (pages : Bool) (wd : Nat) (k : Kd) : Bs := (if pages = true then fixB 4 k.page else []) ++ k.sum.l.take wd
def kdP (pages : Bool) (k : Kd) : Kd := if pages = true then k else ⟨0, k.sum⟩
theorem kdP_true : kdP true = id := by funext k; rfl
theorem kdP_false : kdP false = fun k => ⟨0, k.sum⟩ := by funext k; rfl
/-- All kids behind the first, each behind its separator. -/
def kidsT (pages : Bool) (wd : Nat) : List Kd → List Bs → Bs
  | k :: ks, s :: ss => textB s ++ (kB pages wd k ++ kidsT pages wd ks ss)
  | _, _ => []

theorem kidsT_range (pages : Bool) (wd : Nat) : ∀ (ks : List Kd) (ss : List Bs), ks.length = ss.length → (List.range ks.length).flatMap (fun i => textB (ss.getD i []) ++ kB pages wd (ks.getD i Kd.zero)) = kidsT pages wd ks ss
  | [], [], _ => rfl
  | k :: ks, s :: ss, h => by
    rw [List.length_cons, List.range_succ_eq_map, List.flatMap_cons, List.flatMap_map]
    have ih := kidsT_range pages wd ks ss (by simpa using h)
    simp only [kidsT, List.getD_cons_zero, List.append_assoc]
    rw [← ih]
    rfl
theorem kidsB_T (pages : Bool) (wd : Nat) (ps : List Pr) (k : Kd) (ks : List Kd) (ss : List Bs) (h : ss.length + 1 = (k :: ks).length) : kidsB pages wd ⟨ps, ss, k :: ks⟩ (k :: ks).length = kB pages wd k ++ kidsT pages wd ks ss := by
  unfold kidsB
  rw [List.length_cons, List.range_succ_eq_map, List.flatMap_cons, List.flatMap_map, ← kidsT_range pages wd ks ss (by simp at h; omega)]
  congr 1
  
theorem kid_kidP {P wd : Nat} {pages : Bool} {x x' : Bool × List Bs} {l l1 : Bs} {k : Kd} (hs : sepP P x l = some (x', kB pages wd k ++ l1)) (hwd : wd ≤ 32) (hf : Dg.cut wd k.sum = k.sum) (hp : k.page < 4294967296) : kidP P wd pages x l = some (x', kdP pages k, l1) := by
  unfold kidP
  rw [hs]
  cases pages
  · simp only [kB, Bool.false_eq_true, if_false, List.nil_append, kdP]
    rw [dgP_dg hwd hf]
  · simp only [kB, if_true, kdP, List.append_assoc]
    rw [takeP_fix 4 (by omega)]
    simp only
    rw [dgP_dg hwd hf]
theorem kidP_kid {P wd : Nat} {pages : Bool} {x x' : Bool × List Bs} {l l' : Bs} {k : Kd} (hwd : wd ≤ 32) (h : kidP P wd pages x l = some (x', k, l')) : sepP P x l = some (x', kB pages wd k ++ l') ∧ (pages = false → k.page = 0) := by
  unfold kidP at h
  cases hs : sepP P x l with
  | none => simp [hs] at h
  | some r =>
    obtain ⟨x1, l1⟩ := r
    cases pages
    · simp only [hs, Bool.false_eq_true, if_false] at h
      cases hd : dgP wd l1 with
      | none => simp [hd] at h
      | some r3 =>
        obtain ⟨d, l3⟩ := r3
        simp only [hd, Option.some.injEq, Prod.mk.injEq] at h
        obtain ⟨rfl, rfl, rfl⟩ := h
        exact ⟨by rw [dg_dgP hwd hd]; rfl, fun _ => rfl⟩
    · simp only [hs, if_true] at h
      cases ht : takeP 4 l1 with
      | none => simp [ht] at h
      | some r2 =>
        obtain ⟨n, l2⟩ := r2
        cases hd : dgP wd l2 with
        | none => simp [ht, hd] at h
        | some r3 =>
          obtain ⟨d, l3⟩ := r3
          simp only [ht, hd, Option.some.injEq, Prod.mk.injEq] at h
          obtain ⟨rfl, rfl, rfl⟩ := h
          refine ⟨?_, by simp⟩
          rw [fix_takeP ht, dg_dgP hwd hd]
          simp [kB]

theorem sepP_false {P : Nat} {sp : List Bs} {s l : Bs} (h : s.length ≤ P / 16) (hP : P ≤ 8192) : sepP P (false, sp) (textB s ++ l) = some ((false, sp ++ [s]), l) := by
  unfold sepP
  rw [if_neg (by simp), textP_text h (by omega)]; rfl
theorem sepP_true {P : Nat} {sp : List Bs} {l : Bs} : sepP P (true, sp) l = some ((false, sp), l) := by simp [sepP]
theorem false_sepP {P : Nat} {sp : List Bs} {x : Bool × List Bs} {l l1 : Bs} (h : sepP P (false, sp) l = some (x, l1)) : ∃ s, x = (false, sp ++ [s]) ∧ l = textB s ++ l1 := by
  unfold sepP at h
  rw [if_neg (by simp)] at h
  cases ht : textP (P / 16) l with
  | none => simp [ht] at h
  | some r =>
    obtain ⟨t, l2⟩ := r
    simp only [ht, Option.map_some, Option.some.injEq, Prod.mk.injEq] at h
    obtain ⟨rfl, rfl⟩ := h
    exact ⟨t, rfl, text_textP ht⟩

theorem many_kids {P wd : Nat} {pages : Bool} (hP : P ≤ 8192) (hwd : wd ≤ 32) : ∀ (ks : List Kd) (ss sp : List Bs) (l : Bs), ks.length = ss.length → (∀ s ∈ ss, s.length ≤ P / 16) → (∀ k ∈ ks, Dg.cut wd k.sum = k.sum ∧ k.page < 4294967296) →
    manyP (kidP P wd pages) ks.length (false, sp) (kidsT pages wd ks ss ++ l) = some ((false, sp ++ ss), ks.map (kdP pages), l)
  | [], [], sp, l, _, _, _ => by simp [manyP, kidsT]
  | k :: ks, s :: ss, sp, l, hl, hs, hk => by
    have ih := many_kids (pages := pages) hP hwd ks ss (sp ++ [s]) l (by simpa using hl) (fun y hy => hs y (by simp [hy])) (fun y hy => hk y (by simp [hy]))
    have h1 := hk k (by simp)
    show manyP _ (ks.length + 1) _ ((textB s ++ (kB pages wd k ++ kidsT pages wd ks ss)) ++ l) = _
    rw [List.append_assoc, List.append_assoc]
    unfold manyP
    rw [kid_kidP (sepP_false (hs s (by simp)) hP) hwd h1.1 h1.2]
    simp only [ih, List.append_assoc, List.singleton_append, List.map_cons]
theorem kids_many {P wd : Nat} {pages : Bool} (hwd : wd ≤ 32) : ∀ (n : Nat) (ks : List Kd) (sp : List Bs) (x : Bool × List Bs) (l l' : Bs), manyP (kidP P wd pages) n (false, sp) l = some (x, ks, l') →
    ∃ ss, x = (false, sp ++ ss) ∧ ks.length = ss.length ∧ ks.length = n ∧ l = kidsT pages wd ks ss ++ l' ∧ (pages = false → ∀ k ∈ ks, k.page = 0)
  | 0, ks, sp, x, l, l', h => by
    simp only [manyP, Option.some.injEq, Prod.mk.injEq] at h
    obtain ⟨rfl, rfl, rfl⟩ := h
    exact ⟨[], by simp, rfl, rfl, rfl, by simp⟩
  | n + 1, ks, sp, x, l, l', h => by
    unfold manyP at h
    cases h1 : kidP P wd pages (false, sp) l with
    | none => simp [h1] at h
    | some r =>
      obtain ⟨x1, k, l1⟩ := r
      simp only [h1] at h
      obtain ⟨e1, e2⟩ := kidP_kid hwd h1
      obtain ⟨s, rfl, rfl⟩ := false_sepP e1
      cases h2 : manyP (kidP P wd pages) n (false, sp ++ [s]) l1 with
      | none => simp [h2] at h
      | some r2 =>
        obtain ⟨x2, ts, l2⟩ := r2
        simp only [h2, Option.some.injEq, Prod.mk.injEq] at h
        obtain ⟨rfl, rfl, rfl⟩ := h
        obtain ⟨ss, rfl, e3, e4, rfl, e5⟩ := kids_many hwd n ts _ _ _ _ h2
        refine ⟨s :: ss, by simp, by simpa using e3, by simpa using e4, by simp [kidsT], fun hp => ?_⟩
        intro y hy
        rcases List.mem_cons.1 hy with rfl | hy
        · exact e2 hp
        · exact e5 hp y hy

/-- All kids that are laid are read. -/
theorem list_kidsB {P wd m : Nat} {pages : Bool} (hP : P ≤ 8192) (hwd : wd ≤ 32) {k : Kd} {ks : List Kd} {ss : List Bs} {l : Bs} (hl : ks.length = ss.length) (hs : ∀ s ∈ ss, s.length ≤ P / 16) (hk : ∀ y ∈ k :: ks, Dg.cut wd y.sum = y.sum ∧ y.page < 4294967296)
    (hm : (k :: ks).length ≤ m) (h64 : (k :: ks).length < 18446744073709551616) (hlen : (k :: ks).length ≤ (kB pages wd k ++ kidsT pages wd ks ss ++ l).length) :
    listP m (kidP P wd pages) (true, []) (freeB (k :: ks).length ++ (kB pages wd k ++ kidsT pages wd ks ss) ++ l) = some ((false, ss), (k :: ks).map (kdP pages), l) := by
  unfold listP
  rw [List.append_assoc, freeP_free hm h64]
  simp only
  rw [if_pos hlen]
  have h1 := hk k (by simp)
  show manyP _ (ks.length + 1) _ _ = _
  rw [List.append_assoc]
  unfold manyP
  rw [kid_kidP sepP_true hwd h1.1 h1.2]
  simp only
  rw [many_kids hP hwd ks ss [] l hl hs (fun y hy => hk y (by simp [hy]))]
  rfl
theorem kidsB_list {P wd m : Nat} {pages : Bool} (hwd : wd ≤ 32) {ks : List Kd} {x : Bool × List Bs} {l l' : Bs} (h : listP m (kidP P wd pages) (true, []) l = some (x, ks, l')) (hne : ks ≠ []) :
    ∃ k ks' ss, ks = k :: ks' ∧ x = (false, ss) ∧ ks'.length = ss.length ∧ l = freeB ks.length ++ (kB pages wd k ++ kidsT pages wd ks' ss) ++ l' ∧ (pages = false → ∀ k ∈ ks, k.page = 0) := by
  unfold listP at h
  cases hf : freeP m l with
  | none => simp [hf] at h
  | some r =>
    obtain ⟨n, l1⟩ := r
    simp only [hf] at h
    split at h
    · cases n with
      | zero =>
        simp only [manyP, Option.some.injEq, Prod.mk.injEq] at h
        exact absurd h.2.1.symm hne
      | succ n =>
        unfold manyP at h
        cases h1 : kidP P wd pages (true, []) l1 with
        | none => simp [h1] at h
        | some r =>
          obtain ⟨x1, k, l2⟩ := r
          simp only [h1] at h
          obtain ⟨e1, e2⟩ := kidP_kid hwd h1
          rw [sepP_true] at e1
          simp only [Option.some.injEq, Prod.mk.injEq] at e1
          obtain ⟨rfl, rfl⟩ := e1
          cases h2 : manyP (kidP P wd pages) n (false, []) l2 with
          | none => simp [h2] at h
          | some r2 =>
            obtain ⟨x2, ts, l3⟩ := r2
            simp only [h2, Option.some.injEq, Prod.mk.injEq] at h
            obtain ⟨rfl, rfl, rfl⟩ := h
            obtain ⟨ss, rfl, e3, e4, rfl, e5⟩ := kids_many hwd n ts _ _ _ _ h2
            refine ⟨k, ts, ss, rfl, by simp, e3, ?_, fun hp => ?_⟩
            · rw [free_freeP hf, List.length_cons, e4]; simp
            · intro y hy
              rcases List.mem_cons.1 hy with rfl | hy
              · exact e2 hp
              · exact e5 hp y hy
    · cases h

def Nd.bare (n : Nd) : Nd := ⟨n.pairs, n.seps, n.kids.map fun k => ⟨0, k.sum⟩⟩
def pgN (pages : Bool) (n : Nd) : Nd := if pages = true then n else n.bare

theorem kidsT_ge (pages : Bool) (wd : Nat) : ∀ (ks : List Kd) (ss : List Bs), ks.length = ss.length → ks.length ≤ (kidsT pages wd ks ss).length
  | [], [], _ => by simp
  | k :: ks, s :: ss, h => by
    have ih := kidsT_ge pages wd ks ss (by simpa using h)
    have h1 := freeB_pos s.length
    simp only [kidsT, textB, List.length_append, List.length_cons]
    omega
theorem kB_len (pages : Bool) {wd : Nat} (k : Kd) (hwd : wd ≤ 32) : (kB pages wd k).length = (if pages = true then 4 else 0) + wd := by
  unfold kB
  rw [List.length_append, List.length_take, k.sum.h]
  cases pages <;> simp [fixB_len] <;> omega
theorem fitB_iff {wd : Nat} {d : Dg} : fitB wd d = true ↔ (1 ≤ wd ∧ wd ≤ 32) ∧ Dg.cut wd d = d := by
  simp [fitB]; omega

/-- What a good branch has. -/
theorem branch_good {P wd : Nat} {n : Nd} (h : shapedB P wd n = true) (hl : leafB n = false) : n.pairs = [] ∧ n.seps.length + 1 = n.kids.length ∧ (∀ s ∈ n.seps, 1 ≤ s.length ∧ s.length ≤ P / 16) ∧ ∀ k ∈ n.kids, Dg.cut wd k.sum = k.sum := by
  unfold shapedB at h
  rw [if_neg (by simp [hl])] at h
  simp only [Bool.and_eq_true, decide_eq_true_eq, Bool.not_eq_true'] at h
  obtain ⟨⟨⟨⟨h1, h2⟩, h3⟩, h4⟩, h5⟩ := h
  refine ⟨List.length_eq_zero_iff.1 h1, h3, rises_len _ _ _ h5, fun k hk => ?_⟩
  have := List.any_eq_false.1 h4 k hk
  simp only [Bool.not_eq_true', Bool.not_eq_false] at this
  exact (fitB_iff.1 this).2
theorem leaf_good {P : Nat} {wd : Int} {n : Nd} (h : shapedB P wd n = true) (hl : leafB n = true) : ∀ x ∈ n.pairs, (1 ≤ x.1.length ∧ x.1.length ≤ P / 16) ∧ x.2.length ≤ P / 8 := by
  unfold shapedB at h
  rw [if_pos hl] at h
  simp only [Bool.and_eq_true, Bool.not_eq_true'] at h
  intro x hx
  refine ⟨rises_len _ _ _ h.1 x.1 (List.mem_map.2 ⟨x, hx, rfl⟩), ?_⟩
  have := List.any_eq_false.1 h.2 x hx
  simpa using this

/-- A node's form is read as that node. -/
theorem parse_form {P wd : Nat} {pages : Bool} {n : Nd} (hc : checkE P wd n = 0) (ho : NdOk n) : parseP P wd pages (formB pages wd n) = some (pgN pages n) := by
  obtain ⟨hr, hs⟩ := checkE_ok hc
  have hr' := rightB_iff.1 hr
  have hP : P ≤ 8192 := by omega
  have hwd : wd ≤ 32 := by omega
  simp only [Int.toNat_natCast] at hs
  have h1 : ∀ (t : Nat) (l : Bs), t < 256 → takeP 1 (t.toUInt8 :: l) = some (t, l) := fun t l ht => by
    have := takeP_fix (n := t) (l := l) 1 (by omega)
    simpa [fixB, Nat.mod_eq_of_lt ht] using this
  cases hl : leafB n
  · obtain ⟨e1, e2, e3, e4⟩ := branch_good hs hl
    have hnk := ho.nk; have hpg := ho.pg
    obtain ⟨ps, ss, ks⟩ := n
    cases ks with
    | nil => simp at e2
    | cons k ks =>
      simp only at e1 e2 e3 e4 hnk hpg
      subst e1
      have hT := kidsB_T pages wd [] k ks ss e2
      unfold formB parseP
      rw [if_neg (by simp [hl])]
      simp only
      rw [hT, show (2 : UInt8) = (2 : Nat).toUInt8 from rfl, h1 2 _ (by omega)]
      simp only
      have e2' : ks.length = ss.length := by simp at e2; omega
      have hge := kidsT_ge pages wd ks ss e2'
      have hkB := kB_len pages k hwd
      have hL := list_kidsB (P := P) (m := (Nat.toUInt8 2 :: (freeB (k :: ks).length ++ (kB pages wd k ++ kidsT pages wd ks ss))).length) (pages := pages) (l := []) hP hwd e2' (fun s hs => (e3 s hs).2) (fun y hy => ⟨e4 y hy, hpg y hy⟩)
        (by simp; omega) (by omega) (by simp; split at hkB <;> omega)
      rw [List.append_nil] at hL
      rw [if_neg (by decide), if_pos trivial, hL]
      simp only [List.map_cons, if_true]
      rw [if_neg (by simp)]
      cases pages <;> simp [pgN, Nd.bare, kdP_true, kdP_false]
  · have hlg := leaf_good hs hl
    have hnp := ho.np
    obtain ⟨e1, e2⟩ := leafB_iff.1 hl
    obtain ⟨ps, ss, ks⟩ := n
    simp only at e1 e2 hlg hnp
    subst e1 e2
    unfold formB parseP
    rw [if_pos hl]
    simp only
    rw [show (1 : UInt8) = (1 : Nat).toUInt8 from rfl, h1 1 _ (by omega)]
    simp only
    have hge := pairsB_ge ps
    have hL := list_pairsB (P := P) (m := (Nat.toUInt8 1 :: (freeB ps.length ++ pairsB ps)).length) (l := []) hP (ps := ps) (fun x hx => ⟨(hlg x hx).1.2, (hlg x hx).2⟩) (by simp; omega) (by omega)
    rw [List.append_nil] at hL
    rw [if_pos trivial, hL]
    cases pages <;> simp [pgN, Nd.bare]

/-- What is read is that node's form. -/
theorem form_parse {P wd : Nat} {pages : Bool} {n : Nd} {s : Bs} (hwd : wd ≤ 32) (h : parseP P wd pages s = some n) : formB pages wd n = s ∧ (pages = false → ∀ k ∈ n.kids, k.page = 0) := by
  unfold parseP at h
  cases ht : takeP 1 s with
  | none => simp [ht] at h
  | some r =>
    obtain ⟨t, l⟩ := r
    have hs := fix_takeP ht
    simp only [ht] at h
    split at h
    · rename_i h1
      subst h1
      cases hp : listP s.length (pairP P) () l with
      | none => simp [hp] at h
      | some q =>
        obtain ⟨u, ps, l'⟩ := q
        simp only [hp] at h
        split at h
        · rename_i hn
          subst hn
          simp only [Option.some.injEq] at h
          subst h
          have := pairsB_list hp
          refine ⟨?_, by simp⟩
          rw [hs, this]
          simp [formB, leafB, fixB]
        · cases h
    · split at h
      · rename_i h1
        subst h1
        cases hp : listP s.length (kidP P wd pages) (true, []) l with
        | none => simp [hp] at h
        | some q =>
          obtain ⟨x, ks, l'⟩ := q
          simp only [hp] at h
          split at h
          · cases h
          · rename_i hne
            split at h
            · rename_i hn
              subst hn
              simp only [Option.some.injEq] at h
              subst h
              obtain ⟨k, ks', ss, rfl, rfl, e1, e2, e3⟩ := kidsB_list hwd hp hne
              refine ⟨?_, e3⟩
              have hT := kidsB_T pages wd [] k ks' ss (by simp; omega)
              rw [hs, e2]
              unfold formB
              rw [if_neg (by simp [leafB])]
              simp only
              rw [hT]
              simp [fixB]
            · cases h
      · cases h

theorem leafB_bare (n : Nd) : leafB n.bare = leafB n := by simp [leafB, Nd.bare]
theorem shapedB_bare (P : Nat) (wd : Int) (n : Nd) : shapedB P wd n.bare = shapedB P wd n := by
  unfold shapedB
  rw [leafB_bare]
  simp [Nd.bare, List.any_map, Function.comp_def]
theorem checkE_bare (p wd : Int) (n : Nd) : checkE p wd n.bare = checkE p wd n := by simp [checkE, shapedB_bare]
theorem sizeN_bare (wd : Nat) (n : Nd) : sizeN wd n.bare = sizeN wd n := by
  unfold sizeN; rw [leafB_bare]; simp [Nd.bare]
theorem mayE_bare (p wd : Int) (n : Nd) : mayE p wd n.bare = mayE p wd n := by simp [mayE, checkE_bare, sizeN_bare]

theorem packE_may {p wd : Int} {n : Nd} (h : packE p wd n = 0) : mayE p wd n = 0 := by
  unfold packE at h
  split at h
  · cases h
  · split at h
    · assumption
    · exact h
theorem may_packE {p wd : Int} {n : Nd} (h : mayE p wd n ≠ 0) : packE p wd n ≠ 0 := fun e => h (packE_may e)

/-- What is packed is unpacked. -/
theorem unpack_pack {p wd : Int} {n : Nd} (h : packE p wd n = 0) (ho : NdOk n) : unpackP p wd (packS p wd n) = some n := by
  have hm := packE_may h
  obtain ⟨hc, _⟩ := mayE_ok hm
  have hr := (checkE_ok hc).1
  have hr' := rightB_iff.1 hr
  obtain ⟨P, rfl⟩ := Int.eq_ofNat_of_zero_le (show 0 ≤ p by omega)
  obtain ⟨d, rfl⟩ := Int.eq_ofNat_of_zero_le (show 0 ≤ wd by omega)
  unfold unpackP packS
  rw [if_pos hr, if_pos h]
  have := parse_form (pages := true) hc ho
  simp only [Int.toNat_natCast] at this ⊢
  rw [this]
  simp only [pgN, if_true]
  simp [Option.filter, h]
/-- What is written without pages is read without them. -/
theorem read_plain {p wd : Int} {n : Nd} (h : mayE p wd n = 0) (ho : NdOk n) : readP p wd (plainS p wd n) = some n.bare := by
  obtain ⟨hc, _⟩ := mayE_ok h
  have hr := (checkE_ok hc).1
  have hr' := rightB_iff.1 hr
  obtain ⟨P, rfl⟩ := Int.eq_ofNat_of_zero_le (show 0 ≤ p by omega)
  obtain ⟨d, rfl⟩ := Int.eq_ofNat_of_zero_le (show 0 ≤ wd by omega)
  unfold readP plainS
  rw [if_pos hr, if_pos h]
  have := parse_form (pages := false) hc ho
  simp only [Int.toNat_natCast] at this ⊢
  rw [this]
  simp only [pgN, Bool.false_eq_true, if_false]
  have h2 := mayE_bare P d n
  simp [Option.filter, h2, h]

theorem kidsT_len {pages : Bool} {wd : Nat} (hwd : wd ≤ 32) : ∀ (ks : List Kd) (ss : List Bs), ks.length = ss.length → (kidsT pages wd ks ss).length = ks.length * ((if pages = true then 4 else 0) + wd) + (ss.map txN).sum
  | [], [], _ => by simp [kidsT]
  | k :: ks, s :: ss, h => by
    have ih := kidsT_len (pages := pages) hwd ks ss (by simpa using h)
    simp only [kidsT, List.length_append, textB_length, kB_len pages k hwd, ih, List.length_cons, Nat.succ_mul, List.map_cons, List.sum_cons]
    omega
/-- How long a form is. -/
theorem formB_len {P wd : Nat} {pages : Bool} {n : Nd} (hc : checkE P wd n = 0) : (formB pages wd n).length + (if pages = true then 0 else 4 * n.kids.length) = sizeN wd n := by
  obtain ⟨hr, hs⟩ := checkE_ok hc
  have hr' := rightB_iff.1 hr
  have hwd : wd ≤ 32 := by omega
  simp only [Int.toNat_natCast] at hs
  unfold formB sizeN
  cases hl : leafB n
  · obtain ⟨e1, e2, e3, e4⟩ := branch_good hs hl
    obtain ⟨ps, ss, ks⟩ := n
    cases ks with
    | nil => simp at e2
    | cons k ks =>
      simp only at e1 e2
      have e2' : ks.length = ss.length := by simp at e2; omega
      simp only [Bool.false_eq_true, if_false]
      rw [kidsB_T pages wd ps k ks ss e2]
      simp only [List.length_cons, List.length_append, freeB_length, kB_len pages k hwd, kidsT_len hwd ks ss e2', Nat.succ_mul]
      cases pages
      · simp only [Bool.false_eq_true, if_false, Nat.zero_add]
        simp only [Nat.mul_add]; omega
      · simp only [if_true, Nat.mul_add]; omega
  · obtain ⟨e1, e2⟩ := leafB_iff.1 hl
    simp only [if_true, List.length_cons, List.length_append, freeB_length, pairsB_length, e2, List.length_nil, Nat.mul_zero, ite_self]
    omega

theorem unpackP_ok {p wd : Int} {s : Bs} {n : Nd} (h : unpackP p wd s = some n) : rightB p wd = true ∧ packE p wd n = 0 ∧ parseP p.toNat wd.toNat true s = some n := by
  unfold unpackP at h
  split at h
  · rename_i hr
    obtain ⟨h1, h2⟩ := Option.filter_eq_some_iff.1 h
    exact ⟨hr, by simpa using h2, h1⟩
  · cases h
theorem readP_ok {p wd : Int} {s : Bs} {n : Nd} (h : readP p wd s = some n) : rightB p wd = true ∧ mayE p wd n = 0 ∧ parseP p.toNat wd.toNat false s = some n := by
  unfold readP at h
  split at h
  · rename_i hr
    obtain ⟨h1, h2⟩ := Option.filter_eq_some_iff.1 h
    exact ⟨hr, by simpa using h2, h1⟩
  · cases h
/-- What is unpacked packs to what it was. -/
theorem pack_unpack {p wd : Int} {s : Bs} {n : Nd} (h : unpackP p wd s = some n) : packE p wd n = 0 ∧ packS p wd n = s ∧ checkE p wd n = 0 := by
  obtain ⟨hr, he, hp⟩ := unpackP_ok h
  have hr' := rightB_iff.1 hr
  refine ⟨he, ?_, (mayE_ok (packE_may he)).1⟩
  unfold packS; rw [if_pos he]
  exact (form_parse (by omega) hp).1
theorem plain_read {p wd : Int} {s : Bs} {n : Nd} (h : readP p wd s = some n) : mayE p wd n = 0 ∧ plainS p wd n = s ∧ checkE p wd n = 0 ∧ ∀ k ∈ n.kids, k.page = 0 := by
  obtain ⟨hr, he, hp⟩ := readP_ok h
  have hr' := rightB_iff.1 hr
  obtain ⟨h1, h2⟩ := form_parse (by omega) hp
  refine ⟨he, ?_, (mayE_ok he).1, h2 rfl⟩
  unfold plainS; rw [if_pos he]
  exact h1

end Go.Proofs.YtemicgccgcmmbaaGreat

/- A copied node's kid is written; what is known of sizes. -/
namespace Go.Proofs.YtemicgccgcmmbaaGreat
set_option linter.unusedVariables false
set_option linter.unusedSimpArgs false
open Go Go.RowKit

theorem Own.set {w : World} {e : TypeId} {size g n c : Nat} {xs : List Value} (h : Own w e size (some ⟨g, 0, none⟩) n c xs) (j : Nat) (v : Value) : Own (w.setCell ⟨g, j, none⟩ v) e size (some ⟨g, 0, none⟩) n c (xs.set j v) := by
  rcases h.block with ⟨h0, ⟨h1, _⟩ | ⟨g', cur, h1, hb, h2, h3, h4, h5⟩⟩
  · cases h1
  · cases h1
    refine ⟨by rw [List.length_set]; exact h0, .inr ⟨g, c, cur.setIfInBounds j v, rfl, Nat.zero_le _, Blk.set hb j v, h2, h3, by simpa using h4, ?_⟩⟩
    rw [Array.toList_setIfInBounds, List.take_set, h5]
theorem flat_set {T : Type} (cells : T → List Value) (size : Nat) (hsz : ∀ x, (cells x).length = size) : ∀ (l : List T) (k r : Nat) (x y : T) (v : Value), l[k]? = some x → r < size → (cells x).set r v = cells y → (l.flatMap cells).set (k * size + r) v = (l.set k y).flatMap cells
  | [], k, r, x, y, v, h, _, _ => by simp at h
  | z :: t, 0, r, x, y, v, h, hr, hc => by
    simp at h; subst h
    rw [List.flatMap_cons, Nat.zero_mul, Nat.zero_add, List.set_append_left _ _ (by rw [hsz]; exact hr), hc, List.set_cons_zero, List.flatMap_cons]
  | z :: t, k + 1, r, x, y, v, h, hr, hc => by
    have ih := flat_set cells size hsz t k r x y v (by simpa using h) hr hc
    rw [List.flatMap_cons, List.set_append_right _ _ (by rw [hsz, Nat.succ_mul]; omega), hsz, List.set_cons_succ, List.flatMap_cons, ← ih]
    congr 2
    rw [Nat.succ_mul]; omega
theorem own_page {w : World} {g c k : Nat} {ks : List Kd} {x : Kd} (h : Own w 59 33 (some ⟨g, 0, none⟩) ks.length c (ks.flatMap csK)) (hx : ks[k]? = some x) (pg : Nat) :
    Own (w.setCell ⟨g, k * 33, none⟩ (.int .u32 (pg : Int))) 59 33 (some ⟨g, 0, none⟩) (ks.set k ⟨pg, x.sum⟩).length c ((ks.set k ⟨pg, x.sum⟩).flatMap csK) := by
  have := h.set (k * 33) (.int .u32 (pg : Int))
  rw [← Nat.add_zero (k * 33), flat_set csK 33 (fun x => by simp) ks k 0 x ⟨pg, x.sum⟩ _ hx (by omega) (by simp [csK, Kd.c]), Nat.add_zero] at this
  rwa [List.length_set]

/-- A node copied, its pages being written. -/
structure SzI (w wr : World) (lo B8 : Nat) (fr nd : Array Value) (pb sb kb : Option Addr) (pd sd kd : Nat) (n : Nd) (ks : List Kd) : Prop where
  kp : Kp [] w wr
  b0 : Blk wr w.heap.size 23 fr
  b1 : Blk wr (w.heap.size + 1) 28 nd
  b8 : Blk wr B8 28 #[.slice pb n.pairs.length pd, .slice sb n.seps.length sd, .slice kb n.kids.length kd]
  own : Own3 wr lo pb sb kb pd sd kd ⟨n.pairs, n.seps, ks⟩
  lw : w.heap.size + 1 < lo
  hi : ∀ g ∈ ab pb ++ ab sb ++ ab kb, g < B8
  sm : ks.map (kdP false) = n.kids.map (kdP false)
  pg : ∀ k ∈ ks, k.page < 4294967296

theorem SzI.len {w wr : World} {lo B8 : Nat} {fr nd : Array Value} {pb sb kb : Option Addr} {pd sd kd : Nat} {n : Nd} {ks : List Kd} (h : SzI w wr lo B8 fr nd pb sb kb pd sd kd n ks) : ks.length = n.kids.length := by
  have := congrArg List.length h.sm; simpa using this
theorem SzI.put {w wr : World} {lo B8 : Nat} {fr nd : Array Value} {pb sb : Option Addr} {g : Nat} {pd sd kd : Nat} {n : Nd} {ks : List Kd} (h : SzI w wr lo B8 fr nd pb sb (some ⟨g, 0, none⟩) pd sd kd n ks) {k : Nat} {x : Kd} (hx : ks[k]? = some x) (pg : Nat) (hp : pg < 4294967296) :
    SzI w (wr.setCell ⟨g, k * 33, none⟩ (.int .u32 (pg : Int))) lo B8 fr nd pb sb (some ⟨g, 0, none⟩) pd sd kd n (ks.set k ⟨pg, x.sum⟩) := by
  have hg := h.own.lo g (by simp [ab])
  have hg2 := h.hi g (by simp [ab])
  have hlw := h.lw
  have k1 : Kp [g] wr (wr.setCell ⟨g, k * 33, none⟩ (.int .u32 (pg : Int))) := (Kp.refl [g] wr).setCell _ (.inr (by simp))
  refine ⟨h.kp.from k1 (fun y hy => by simp at hy; subst hy; exact .inl (by omega)), h.b0.kp k1 (by simp; omega), h.b1.kp k1 (by simp; omega), h.b8.kp k1 (by simp; omega), ?_, hlw, h.hi, ?_, ?_⟩
  · refine ⟨h.own.ps.kp k1 (fun y hy => by have := (h.own.d1 y hy).2; simpa [ab] using this), h.own.ss.kp k1 (fun y hy => by have := h.own.d2 y hy; simpa [ab] using this), own_page h.own.ks hx pg, h.own.lo, h.own.d1, h.own.d2⟩
  · rw [← h.sm, List.map_set]
    refine List.ext_getElem? fun i => ?_
    have hlt : k < ks.length := (List.getElem?_eq_some_iff.1 hx).1
    rw [List.getElem?_set]
    by_cases he : k = i
    · subst he
      rw [if_pos rfl, if_pos (by simpa using hlt), List.getElem?_map, hx]
      rfl
    · rw [if_neg he]
  · intro y hy
    rcases List.mem_or_eq_of_mem_set hy with h1 | rfl
    · exact h.pg y h1
    · exact hp

theorem SzI.next {w wr : World} {lo B8 : Nat} {fr nd : Array Value} {pb sb kb : Option Addr} {pd sd kd : Nat} {n : Nd} {ks : List Kd} (h : SzI w wr lo B8 fr nd pb sb kb pd sd kd n ks) {w' : World} (k : Kp [] wr w') : SzI w w' lo B8 fr nd pb sb kb pd sd kd n ks :=
  ⟨h.kp.trans k, h.b0.kp k (by simp), h.b1.kp k (by simp), h.b8.kp k (by simp), h.own.kp k (by simp), h.lw, h.hi, h.sm, h.pg⟩

theorem SzI.start {w w1 : World} {fr : Array Value} {nd : Array Value} {pb sb kb : Option Addr} {pd sd kd : Nat} {n : Nd} {W : World} (ho : NdOk n) (h0 : Blk W w.heap.size 23 fr) (h1 : Blk W (w.heap.size + 1) 28 nd) (k0 : Kp [] w W) (k : Kp [] W w1) (ow : Own3 w1 W.heap.size pb sb kb pd sd kd n) :
    SzI w (w1.alloc (.cells #[.slice pb n.pairs.length pd, .slice sb n.seps.length sd, .slice kb n.kids.length kd] 28)) W.heap.size w1.heap.size fr nd pb sb kb pd sd kd n n.kids := by
  have ka : Kp [] w1 (w1.alloc (.cells #[.slice pb n.pairs.length pd, .slice sb n.seps.length sd, .slice kb n.kids.length kd] 28)) := (Kp.refl [] w1).alloc _
  refine ⟨(k0.trans k).trans ka, (h0.kp k (by simp)).kp ka (by simp), (h1.kp k (by simp)).kp ka (by simp), Blk.new w1 _ _, Own3.kp ow ka (by simp), h1.lt, ?_, rfl, ho.pg⟩
  intro g hg
  simp only [List.mem_append] at hg
  rcases hg with (hg | hg) | hg
  · exact ow.ps.lt g hg
  · exact ow.ss.lt g hg
  · exact ow.ks.lt g hg

/-! Sizes. -/
theorem size_bare (p wd : Int) (n : Nd) : SizeE p wd n.bare = SizeE p wd n := by
  unfold SizeE; rw [checkE_bare, sizeN_bare]
theorem size_pages {p wd : Int} {n : Nd} {ks : List Kd} (h : ks.map (kdP false) = n.kids.map (kdP false)) : SizeE p wd ⟨n.pairs, n.seps, ks⟩ = SizeE p wd n := by
  rw [← size_bare p wd ⟨n.pairs, n.seps, ks⟩, ← size_bare p wd n]
  congr 1
  simp only [Nd.bare, Nd.mk.injEq, true_and]
  rw [kdP_false] at h; exact h

theorem cntN_two {n : Nat} (h : n ≤ 8192) : cntN n ≤ 2 := cntN_le 2 n (by omega) (by omega)
theorem size_bounds {P wd : Nat} {n : Nd} (h : checkE P wd n = 0) (ho : NdOk n) : 2 ≤ SizeE P wd n ∧ SizeE P wd n ≤ 11 + n.pairs.length * (P / 16 + P / 8 + 4) + n.kids.length * (P / 16 + 6 + wd) := by
  obtain ⟨hr, hs⟩ := checkE_ok h
  have hr' := rightB_iff.1 hr
  simp only [Int.toNat_natCast] at hs
  have e : SizeE (P : Int) wd n = sizeN wd n := by unfold SizeE; rw [if_pos h]; simp
  rw [e]
  have hnp := ho.np; have hnk := ho.nk
  unfold sizeN
  cases hl : leafB n
  · obtain ⟨e1, e2, e3, e4⟩ := branch_good hs hl
    have h1 := sum_le txN (2 + P / 16) n.seps (fun s hs => by have := e3 s hs; have := cntN_two (n := s.length) (by omega); unfold txN; omega)
    have h2 := cntN_le9 n.kids.length (by omega)
    have h3 := cntN_pos n.kids.length
    simp only [Bool.false_eq_true, if_false]
    have h4 : n.seps.length * (2 + P / 16) ≤ n.kids.length * (2 + P / 16) := Nat.mul_le_mul_right _ (by omega)
    have h5 : n.kids.length * (P / 16 + 6 + wd) = n.kids.length * (2 + P / 16) + n.kids.length * (4 + wd) := by rw [← Nat.mul_add]; congr 1; omega
    omega
  · have hlg := leaf_good hs hl
    have h1 := sum_le prN (P / 16 + P / 8 + 4) n.pairs (fun x hx => by
      have := hlg x hx
      have h1 := cntN_two (n := x.1.length) (by omega); have h2 := cntN_two (n := x.2.length) (by omega)
      unfold prN txN; omega)
    have h2 := cntN_le9 n.pairs.length (by omega)
    have h3 := cntN_pos n.pairs.length
    simp only [if_true]
    omega

theorem rises_take : ∀ (l : List Bs) (m k : Nat) (pv : Option Bs), risesFrom m pv l = true → risesFrom m pv (l.take k) = true
  | [], m, k, pv, h => by simp [risesFrom]
  | x :: t, m, 0, pv, h => rfl
  | x :: t, m, k + 1, pv, h => by
    simp only [List.take_succ_cons]
    unfold risesFrom at h ⊢
    simp only [Bool.and_eq_true] at h ⊢
    exact ⟨h.1, rises_take t m k _ h.2⟩

/-- One pair less. -/
theorem size_less {P wd : Nat} {n : Nd} {ks : List Kd} {x : Pr} (h : checkE P wd n = 0) (hk : ks.map (kdP false) = n.kids.map (kdP false)) (h1 : n.pairs[n.pairs.length - 1]? = some x) (h2 : 0 < n.pairs.length) (h3 : n.pairs.length < 128) :
    ∃ d, SizeE P wd n = SizeE P wd ⟨n.pairs.take (n.pairs.length - 1), n.seps, ks⟩ + d ∧ x.1.length + x.2.length + 2 ≤ d ∧ d ≤ x.1.length + x.2.length + 4 := by
  obtain ⟨hr, hs⟩ := checkE_ok h
  have hr' := rightB_iff.1 hr
  simp only [Int.toNat_natCast] at hs
  have hl : leafB n = true := by
    cases hl : leafB n
    · have := (branch_good hs hl).1; rw [this] at h2; simp at h2
    · rfl
  obtain ⟨e1, e2⟩ := leafB_iff.1 hl
  have hks : ks = [] := by rw [e2] at hk; simpa using hk
  subst hks
  have hlg := leaf_good hs hl
  have hx := hlg x (List.mem_of_getElem? h1)
  have hl2 : leafB ⟨n.pairs.take (n.pairs.length - 1), n.seps, []⟩ = true := by rw [e1]; rfl
  have hc2 : checkE P wd ⟨n.pairs.take (n.pairs.length - 1), n.seps, []⟩ = 0 := by
    unfold checkE shapedB
    rw [if_pos hr, if_pos hl2, Int.toNat_natCast]
    unfold shapedB at hs
    rw [if_pos hl] at hs
    simp only [Bool.and_eq_true, Bool.not_eq_true'] at hs
    rw [if_pos]
    simp only [Bool.and_eq_true, Bool.not_eq_true']
    refine ⟨?_, ?_⟩
    · rw [List.map_take]; exact rises_take _ _ _ _ hs.1
    · rw [List.any_eq_false]
      intro y hy
      exact List.any_eq_false.1 hs.2 y (List.mem_of_mem_take hy)
  have s1 : SizeE (P : Int) wd n = sizeN wd n := by unfold SizeE; rw [if_pos h]; simp
  have s2 : SizeE (P : Int) wd ⟨n.pairs.take (n.pairs.length - 1), n.seps, []⟩ = sizeN wd ⟨n.pairs.take (n.pairs.length - 1), n.seps, []⟩ := by unfold SizeE; rw [if_pos hc2]; simp
  rw [s1, s2]
  unfold sizeN
  rw [if_pos hl, if_pos hl2]
  have ht := sum_take prN n.pairs (n.pairs.length - 1) x h1
  rw [show n.pairs.length - 1 + 1 = n.pairs.length by omega, List.take_length] at ht
  have c1 := cntN_small h3
  have c2 : cntN (n.pairs.take (n.pairs.length - 1)).length = 1 := cntN_small (by simp; omega)
  have k1 := cntN_two (n := x.1.length) (by omega); have k2 := cntN_two (n := x.2.length) (by omega)
  have j1 := cntN_pos x.1.length; have j2 := cntN_pos x.2.length
  refine ⟨prN x, ?_, ?_, ?_⟩
  · simp only [c1, c2, ht]; omega
  · unfold prN txN; omega
  · unfold prN txN; omega

theorem PsAt.take {w : World} {a : Option Addr} {l : List Pr} (h : PsAt w a l) (k : Nat) : PsAt w a (l.take k) := fun i p hp => by
  rw [List.getElem?_take] at hp
  split at hp
  · exact h i p hp
  · cases hp

end Go.Proofs.YtemicgccgcmmbaaGreat

/- The document's copy of a node. -/
namespace Go.Proofs.YtemicgccgcmmbaaGreat
set_option linter.unusedVariables false
set_option linter.unusedSimpArgs false
open Go Go.RowKit

/-- The same as one step of a region that draws its order. -/
theorem step_app_pair {w : World} {ops : Array Oper} {o : Oper} {A : Act} {K : Act → World → Prop} {Q : Exit → Act → World → Prop} {E : Prop} (hgd : o.guard = none) {s x : Operand} {tx : TypeId}
    (ho : o.op = .call { callee := .builtin .append, args := #[s, x], argTypes := #[24, tx] })
    {a : Option Addr} {n c : Nat} {xs : List Value} (hs : A.eval s = .slice a n c) (hown : Own w 56 2 a n c xs) (m : Nat) (news : List Value) {xv : Value} (hx : A.eval x = xv) (hsrc : Src Tryz.prog 2 tx xv m news w)
    (h63 : n + m ≤ 4398046511104)
    (h : ∀ a' c' w', Own w' 56 2 a' (n + m) c' (xs ++ news) → Kp (ab a) w w' → (∀ g ∈ ab a', g ∈ ab a ∨ w.heap.size ≤ g) → K (A.put o.dst (.slice a' (n + m) c')) w') :
    if Region.wanted o (yielded ops A.tmps) = true then Oper.wp Tryz.prog o A w K Q else E := by
  have hw : Region.wanted o (yielded ops A.tmps) = true := by simp [Region.wanted, hgd]
  rw [if_pos hw]
  subst hx
  obtain ⟨i0, hi, hz0, hz1, hz2⟩ := info_parts Tryz.infoPair
  exact wp_app w s x 24 tx ho 56 i0 (.agg #[.string ⟨#[]⟩, .string ⟨#[]⟩]) 2 32 Tryz.underlying24 hi hz0 hz1 hz2 rfl a n c xs hs hown m news hsrc (by omega) (by unfold maxLen; omega) h

/-- The same as one step of a region that draws its order. -/
theorem step_app_kid {w : World} {ops : Array Oper} {o : Oper} {A : Act} {K : Act → World → Prop} {Q : Exit → Act → World → Prop} {E : Prop} (hgd : o.guard = none) {s x : Operand} {tx : TypeId}
    (ho : o.op = .call { callee := .builtin .append, args := #[s, x], argTypes := #[26, tx] })
    {a : Option Addr} {n c : Nat} {xs : List Value} (hs : A.eval s = .slice a n c) (hown : Own w 59 33 a n c xs) (m : Nat) (news : List Value) {xv : Value} (hx : A.eval x = xv) (hsrc : Src Tryz.prog 33 tx xv m news w)
    (h63 : n + m ≤ 3909374676453)
    (h : ∀ a' c' w', Own w' 59 33 a' (n + m) c' (xs ++ news) → Kp (ab a) w w' → (∀ g ∈ ab a', g ∈ ab a ∨ w.heap.size ≤ g) → K (A.put o.dst (.slice a' (n + m) c')) w') :
    if Region.wanted o (yielded ops A.tmps) = true then Oper.wp Tryz.prog o A w K Q else E := by
  have hw : Region.wanted o (yielded ops A.tmps) = true := by simp [Region.wanted, hgd]
  rw [if_pos hw]
  subst hx
  obtain ⟨i0, hi, hz0, hz1, hz2⟩ := info_parts Tryz.infoKid
  exact wp_app w s x 26 tx ho 59 i0 (.agg Kd.zero.c) 33 36 Tryz.underlying26 hi hz0 hz1 hz2 (Kd.c_size Kd.zero) a n c xs hs hown m news hsrc (by omega) (by unfold maxLen; omega) h

theorem src_pairs' {w : World} {a : Option Addr} {l : List Pr} (h : PsAt w a l) (c : Nat) : Src Tryz.prog 2 24 (.slice a l.length c) l.length (l.flatMap csP) w := by
  cases a with
  | none =>
    cases l with
    | nil => exact Src.ofNil w Tryz.underlying24 c
    | cons x t => obtain ⟨b, o, ha, _⟩ := h 0 x rfl; cases ha
  | some ad => exact src_pairs h c
theorem src_texts' {w : World} {a : Option Addr} {l : List Bs} (h : SsAt w a l) (c : Nat) : Src Tryz.prog 1 25 (.slice a l.length c) l.length (l.flatMap csS) w := by
  cases a with
  | none =>
    cases l with
    | nil => exact Src.ofNil w Tryz.underlying25 c
    | cons x t => obtain ⟨b, o, ha, _⟩ := h 0 x rfl; cases ha
  | some ad => exact src_texts h c
theorem src_kids' {w : World} {a : Option Addr} {l : List Kd} (h : KsAt w a l) (c : Nat) : Src Tryz.prog 33 26 (.slice a l.length c) l.length (l.flatMap csK) w := by
  cases a with
  | none =>
    cases l with
    | nil => exact Src.ofNil w Tryz.underlying26 c
    | cons x t => obtain ⟨b, o, ha, _⟩ := h 0 x rfl; cases ha
  | some ad => exact src_kids h c

set_option maxHeartbeats 4000000 in
set_option maxRecDepth 100000 in
theorem refCopy_any (pa sa ka : Option Addr) (pc sc kc : Nat) (n : Nd) (w : World) (h : NdAt w pa sa ka n) (ho : NdOk n) :
    Calls Tryz.prog 14 #[.agg #[.slice pa n.pairs.length pc, .slice sa n.seps.length sc, .slice ka n.kids.length kc]] w (CopyPost n w) := by
  have hnp := ho.np; have hns := ho.ns; have hnk := ho.nk
  clear ho
  obtain ⟨W0, hW0⟩ : ∃ W0, W0 = (w.alloc (.cells #[.slice pa n.pairs.length pc, .slice sa n.seps.length sc, .slice ka n.kids.length kc] 28)).alloc (.cells #[.slice none 0 0, .slice none 0 0, .slice none 0 0] 28) := ⟨_, rfl⟩
  have kw : Kp [] w W0 := by rw [hW0]; exact ((Kp.refl [] w).alloc _).alloc _
  have b0 : Blk W0 w.heap.size 28 #[.slice pa n.pairs.length pc, .slice sa n.seps.length sc, .slice ka n.kids.length kc] := by rw [hW0]; exact (Blk.new w _ _).alloc _
  have b1 : Blk W0 (w.heap.size + 1) 28 #[.slice none 0 0, .slice none 0 0, .slice none 0 0] := by
    rw [hW0]
    have h := Blk.new (w.alloc (.cells #[.slice pa n.pairs.length pc, .slice sa n.seps.length sc, .slice ka n.kids.length kc] 28)) 28 #[.slice none 0 0, .slice none 0 0, .slice none 0 0]
    simpa using h
  have KW := Lib.hid kw; have B1 := Lib.hid b1; have HP := Lib.hid (PsAt.kp h.ps kw (by simp)); have HS := Lib.hid (SsAt.kp h.ss kw (by simp)); have HK := Lib.hid (KsAt.kp h.ks kw (by simp))
  have SK : Hid (∀ W : World, Kp [w.heap.size + 1] W0 W → (W.cell? ⟨w.heap.size, 0, none⟩ = some (.slice pa n.pairs.length pc) ∧ W.cell? ⟨w.heap.size, 1, none⟩ = some (.slice sa n.seps.length sc) ∧ W.cell? ⟨w.heap.size, 2, none⟩ = some (.slice ka n.kids.length kc))) := Lib.hid (fun W k =>
    have c0 := b0.kp k (by simp)
    ⟨c0.cell 0, c0.cell 1, c0.cell 2⟩)
  have SB : Hid (∀ W : World, Kp [] W0 W → W.cell? ⟨w.heap.size + 1, 0, none⟩ = some (.slice none 0 0) ∧ W.cell? ⟨w.heap.size + 1, 1, none⟩ = some (.slice none 0 0) ∧ W.cell? ⟨w.heap.size + 1, 2, none⟩ = some (.slice none 0 0) ∧
      W.frozen? ⟨w.heap.size + 1, 0, none⟩ = false ∧ W.frozen? ⟨w.heap.size + 1, 1, none⟩ = false ∧ W.frozen? ⟨w.heap.size + 1, 2, none⟩ = false ∧ w.heap.size + 1 < W.heap.size) := Lib.hid (fun W k =>
    have c1 := b1.kp k (by simp)
    ⟨c1.cell 0, c1.cell 1, c1.cell 2, c1.frozen 0, c1.frozen 1, c1.frozen 2, c1.lt⟩)
  have HZ : Hid (w.heap.size + 1 < W0.heap.size) := Lib.hid b1.lt
  clear h kw b0 b1
  have HW0 := Lib.hid hW0
  clear hW0
  go_enter Tryz.func14, Tryz.ntmps14
  go_wp2_with fail
  rw [← HW0.out]
  go_region_held3 (fun W => (W.cell? ⟨w.heap.size, 0, none⟩ = some (.slice pa n.pairs.length pc) ∧ W.cell? ⟨w.heap.size, 1, none⟩ = some (.slice sa n.seps.length sc) ∧ W.cell? ⟨w.heap.size, 2, none⟩ = some (.slice ka n.kids.length kc)))
    (first | exact SK.out _ ((((KT.out.of_nil (T := [w.heap.size + 1])).setCell _ (.inr (by simp))).setCell _ (.inr (by simp))).setCell _ (.inr (by simp))) | exact SK.out _ KT.out.of_nil | exact SK.out _ ((Kp.refl _ _).drew))
    (first
      | (refine step_app_pair rfl rfl (by simp [Act.eval, Act.put]) (Own.nil _ _ _) n.pairs.length (n.pairs.flatMap csP) (by simp [Act.eval, Act.put]) (src_pairs' (PsAt.kp HP.out (by first | exact KT.out | exact (Kp.refl [] _).drew) (by simp)) pc) (by omega) ?_; intro pb pd wP op kp0 np; have kp : Kp [] _ wP := kp0; have OP : Hid (Own wP 56 2 pb n.pairs.length pd (n.pairs.flatMap csP)) := Lib.hid (by simpa using op); have KP := Lib.hid kp; have NP := Lib.hid (fun g hg => (np g hg).resolve_left (by simp [ab])); have KT : Hid (Kp [] W0 wP) := Lib.hid (by first | exact KT.out.trans kp | exact ((Kp.refl [] _).drew).trans kp); have zP := kp.size; clear op kp kp0 np; obtain ⟨y0, y1, y2, y3, y4, y5, y6⟩ := SB.out _ KT.out)
      | (refine step_app_str rfl rfl (by simp [Act.eval, Act.put]) (Own.nil _ _ _) n.seps.length (n.seps.flatMap csS) (by simp [Act.eval, Act.put]) (src_texts' (SsAt.kp HS.out (by first | exact KT.out | exact (Kp.refl [] _).drew) (by simp)) sc) (by omega) ?_; intro sb sd wS op kp0 np; have kp : Kp [] _ wS := kp0; have OS : Hid (Own wS 9 1 sb n.seps.length sd (n.seps.flatMap csS)) := Lib.hid (by simpa using op); have KS := Lib.hid kp; have NS := Lib.hid (fun g hg => (np g hg).resolve_left (by simp [ab])); have KT : Hid (Kp [] W0 wS) := Lib.hid (by first | exact KT.out.trans kp | exact ((Kp.refl [] _).drew).trans kp); have zS := kp.size; clear op kp kp0 np; obtain ⟨y0, y1, y2, y3, y4, y5, y6⟩ := SB.out _ KT.out)
      | (refine step_app_kid rfl rfl (by simp [Act.eval, Act.put]) (Own.nil _ _ _) n.kids.length (n.kids.flatMap csK) (by simp [Act.eval, Act.put]) (src_kids' (KsAt.kp HK.out (by first | exact KT.out | exact (Kp.refl [] _).drew) (by simp)) kc) (by omega) ?_; intro kb kd wK op kp0 np; have kp : Kp [] _ wK := kp0; have OK : Hid (Own wK 59 33 kb n.kids.length kd (n.kids.flatMap csK)) := Lib.hid (by simpa using op); have KK := Lib.hid kp; have NK := Lib.hid (fun g hg => (np g hg).resolve_left (by simp [ab])); have KT : Hid (Kp [] W0 wK) := Lib.hid (by first | exact KT.out.trans kp | exact ((Kp.refl [] _).drew).trans kp); have zK := kp.size; clear op kp kp0 np; obtain ⟨y0, y1, y2, y3, y4, y5, y6⟩ := SB.out _ KT.out))
  all_goals go_wp2_with fail
  all_goals
    have hd : W0.drew.heap.size = W0.heap.size := rfl
    have hf := copy_fin (w := w) (W := W0) (B := w.heap.size + 1) (n := n) (pa := pb) (sa := sb) (ka := kb) (pc := pd) (sc := sd) (kc := kd) KW.out (by omega) HZ.out (B1.out.kp KT.out (by simp)) KT.out
      (by first | exact OP.out | exact Own.kp OP.out KS.out (by simp) | exact Own.kp OP.out KK.out (by simp) | exact Own.kp OP.out (KS.out.trans KK.out) (by simp) | exact Own.kp OP.out (KK.out.trans KS.out) (by simp))
      (by first | exact OS.out | exact Own.kp OS.out KP.out (by simp) | exact Own.kp OS.out KK.out (by simp) | exact Own.kp OS.out (KP.out.trans KK.out) (by simp) | exact Own.kp OS.out (KK.out.trans KP.out) (by simp))
      (by first | exact OK.out | exact Own.kp OK.out KP.out (by simp) | exact Own.kp OK.out KS.out (by simp) | exact Own.kp OK.out (KP.out.trans KS.out) (by simp) | exact Own.kp OK.out (KS.out.trans KP.out) (by simp))
      (by
        intro g hg
        simp only [List.mem_append] at hg
        rcases hg with (h | h) | h
        · have := NP.out g h; omega
        · have := NS.out g h; omega
        · have := NK.out g h; omega)
      (by
        intro g h
        have h1 := NP.out g h; have h2 := OP.out.lt g h
        exact ⟨fun h' => by have h3 := NS.out g h'; have h4 := OS.out.lt g h'; omega, fun h' => by have h3 := NK.out g h'; have h4 := OK.out.lt g h'; omega⟩)
      (by
        intro g h h'
        have h1 := NS.out g h; have h2 := OS.out.lt g h; have h3 := NK.out g h'; have h4 := OK.out.lt g h'
        omega)
      (a := .slice pb n.pairs.length pd) (b := .slice sb n.seps.length sd) (c := .slice kb n.kids.length kd) rfl
    exact nd_ret1 (w.heap.size + 1) rfl rfl hf.1 rfl ⟨pb, sb, kb, pd, sd, kd, rfl, hf.2.1, hf.2.2⟩

end Go.Proofs.YtemicgccgcmmbaaGreat

/- The plain hash: words of 32 bits, the schedule, the rounds, the padding. No program in sight. -/
namespace Go.Proofs.YtemicgccgcmmbaaGreat
set_option linter.unusedVariables false
set_option linter.unusedSimpArgs false
open Go

abbrev W32 := UInt32

/-- Turned to the right. -/
def ror (x : W32) (n : W32) : W32 := x >>> n ||| x <<< (32 - n)

/-- The next word of the schedule, by the words 16, 15, 7 and 2 places back. -/
def wMix (a b c d : W32) : W32 := a + (ror b 7 ^^^ ror b 18 ^^^ b >>> 3) + c + (ror d 17 ^^^ ror d 19 ^^^ d >>> 10)

def wNext (l : List W32) : W32 := wMix (l.getD (l.length - 16) 0) (l.getD (l.length - 15) 0) (l.getD (l.length - 7) 0) (l.getD (l.length - 2) 0)

def sched : Nat → List W32 → List W32
  | 0, l => l
  | n + 1, l => sched n (l ++ [wNext l])

/-- The eight words of a round. -/
structure V8 where
  a : W32
  b : W32
  c : W32
  d : W32
  e : W32
  f : W32
  g : W32
  h : W32
deriving DecidableEq

def V8.l (v : V8) : List W32 := [v.a, v.b, v.c, v.d, v.e, v.f, v.g, v.h]

def V8.one (v : V8) (k w : W32) : W32 := v.h + (ror v.e 6 ^^^ ror v.e 11 ^^^ ror v.e 25) + (v.e &&& v.f ^^^ ~~~v.e &&& v.g) + k + w
def V8.two (v : V8) : W32 := (ror v.a 2 ^^^ ror v.a 13 ^^^ ror v.a 22) + (v.a &&& v.b ^^^ v.a &&& v.c ^^^ v.b &&& v.c)
def V8.step (v : V8) (k w : W32) : V8 := ⟨v.one k w + v.two, v.a, v.b, v.c, v.d + v.one k w, v.e, v.f, v.g⟩
def V8.add (x y : V8) : V8 := ⟨x.a + y.a, x.b + y.b, x.c + y.c, x.d + y.d, x.e + y.e, x.f + y.f, x.g + y.g, x.h + y.h⟩

def rounds (v : V8) : List (W32 × W32) → V8
  | [] => v
  | (k, w) :: l => rounds (v.step k w) l

def shaK : List W32 := [
  0x428a2f98, 0x71374491, 0xb5c0fbcf, 0xe9b5dba5, 0x3956c25b, 0x59f111f1, 0x923f82a4, 0xab1c5ed5,
  0xd807aa98, 0x12835b01, 0x243185be, 0x550c7dc3, 0x72be5d74, 0x80deb1fe, 0x9bdc06a7, 0xc19bf174,
  0xe49b69c1, 0xefbe4786, 0x0fc19dc6, 0x240ca1cc, 0x2de92c6f, 0x4a7484aa, 0x5cb0a9dc, 0x76f988da,
  0x983e5152, 0xa831c66d, 0xb00327c8, 0xbf597fc7, 0xc6e00bf3, 0xd5a79147, 0x06ca6351, 0x14292967,
  0x27b70a85, 0x2e1b2138, 0x4d2c6dfc, 0x53380d13, 0x650a7354, 0x766a0abb, 0x81c2c92e, 0x92722c85,
  0xa2bfe8a1, 0xa81a664b, 0xc24b8b70, 0xc76c51a3, 0xd192e819, 0xd6990624, 0xf40e3585, 0x106aa070,
  0x19a4c116, 0x1e376c08, 0x2748774c, 0x34b0bcb5, 0x391c0cb3, 0x4ed8aa4a, 0x5b9cca4f, 0x682e6ff3,
  0x748f82ee, 0x78a5636f, 0x84c87814, 0x8cc70208, 0x90befffa, 0xa4506ceb, 0xbef9a3f7, 0xc67178f2]
def shaH : V8 := ⟨0x6a09e667, 0xbb67ae85, 0x3c6ef372, 0xa54ff53a, 0x510e527f, 0x9b05688c, 0x1f83d9ab, 0x5be0cd19⟩

/-- Four bytes as a word. -/
def word (a b c d : UInt8) : W32 := a.toUInt32 <<< 24 ||| b.toUInt32 <<< 16 ||| c.toUInt32 <<< 8 ||| d.toUInt32

def words : List UInt8 → List W32
  | a :: b :: c :: d :: l => word a b c d :: words l
  | _ => []

/-- A block of 64 bytes is taken in. -/
def takeIn (h : V8) (b : List UInt8) : V8 := h.add (rounds h (shaK.zip (sched 48 (words b))))

/-- Block by block, as many as there are. -/
def takeAll : Nat → V8 → List UInt8 → V8
  | 0, h, _ => h
  | n + 1, h, l => takeAll n (takeIn h (l.take 64)) (l.drop 64)

/-- What is laid behind so many bytes. -/
def padZ (n : Nat) : List UInt8 := 0x80 :: List.replicate ((119 - n % 64) % 64) 0
def len8 (n : Nat) : List UInt8 := [56, 48, 40, 32, 24, 16, 8, 0].map fun k => UInt8.ofNat ((n * 8) % 18446744073709551616 / 2 ^ k)
def padded (s : List UInt8) : List UInt8 := s ++ padZ s.length ++ len8 s.length

def bytes4 (w : W32) : List UInt8 := [(w >>> 24).toUInt8, (w >>> 16).toUInt8, (w >>> 8).toUInt8, w.toUInt8]
def V8.bytes (v : V8) : List UInt8 := v.l.flatMap bytes4

def shaL (s : List UInt8) : List UInt8 := (takeAll ((padded s).length / 64) shaH (padded s)).bytes

example : shaL [97, 98, 99] = [0xba,0x78,0x16,0xbf,0x8f,0x01,0xcf,0xea,0x41,0x41,0x40,0xde,0x5d,0xae,0x22,0x23,0xb0,0x03,0x61,0xa3,0x96,0x17,0x7a,0x9c,0xb4,0x10,0xff,0x61,0xf2,0x00,0x15,0xad] := by decide +kernel

end Go.Proofs.YtemicgccgcmmbaaGreat

/- Words of 32 bits as values; turning. -/
namespace Go.Proofs.YtemicgccgcmmbaaGreat
set_option linter.unusedVariables false
set_option linter.unusedSimpArgs false
open Go Go.RowKit

/-- A word's number. -/
def W (x : W32) : Int := (x.toNat : Int)
theorem W_lo (x : W32) : 0 ≤ W x := by unfold W; omega
theorem W_hi (x : W32) : W x < 4294967296 := by have := x.toNat_lt; unfold W; omega
theorem W_nat (x : W32) : (W x).toNat = x.toNat := by unfold W; omega
@[go_sem] theorem W_xor (x y : W32) : bits .xor .u32 (W x) (W y) = W (x ^^^ y) := by
  unfold W; rw [u32_xor_nat _ _ x.toNat_lt y.toNat_lt]; simp
@[go_sem] theorem W_and (x y : W32) : bits .and .u32 (W x) (W y) = W (x &&& y) := by
  unfold W; rw [u32_and_nat _ _ x.toNat_lt y.toNat_lt]; simp
@[go_sem] theorem W_or (x y : W32) : bits .or .u32 (W x) (W y) = W (x ||| y) := by
  unfold W; rw [u32_or_nat _ _ x.toNat_lt y.toNat_lt]; simp
@[go_sem] theorem W_add (x y : W32) : IntKind.u32.wrap (W x + W y) = W (x + y) := by
  unfold W; rw [IntKind.wrap_u32']; simp
theorem W_add' (x y : W32) : (W x + W y) % 4294967296 = W (x + y) := by unfold W; simp
theorem W_shr (x : W32) (k : Nat) (hk : k < 32) : W x / (2 ^ k : Nat) = W (x >>> (UInt32.ofNat k)) := by
  unfold W
  rw [UInt32.toNat_shiftRight, UInt32.toNat_ofNat_of_lt' (by simp [UInt32.size]; omega), Nat.mod_eq_of_lt hk, Nat.shiftRight_eq_div_pow]
  simp
theorem W_shl (x : W32) (k : Nat) (hk : k < 32) : W x * (2 ^ k : Nat) % 4294967296 = W (x <<< (UInt32.ofNat k)) := by
  unfold W
  rw [UInt32.toNat_shiftLeft, UInt32.toNat_ofNat_of_lt' (by simp [UInt32.size]; omega), Nat.mod_eq_of_lt hk, Nat.shiftLeft_eq]
  simp
@[go_sem] theorem W_u8 (b : UInt8) : IntKind.u32.wrap ((b.toNat : Nat) : Int) = W b.toUInt32 := by
  unfold W; rw [IntKind.wrap_u32', UInt8.toNat_toUInt32]; have := b.toNat_lt; omega
@[go_sem] theorem W_s24 (x : W32) : IntKind.u32.wrap (W x * (16777216 : Int)) = W (x <<< 24) := by rw [IntKind.wrap_u32']; exact W_shl x 24 (by omega)
@[go_sem] theorem W_s16 (x : W32) : IntKind.u32.wrap (W x * (65536 : Int)) = W (x <<< 16) := by rw [IntKind.wrap_u32']; exact W_shl x 16 (by omega)
@[go_sem] theorem W_s8 (x : W32) : IntKind.u32.wrap (W x * (256 : Int)) = W (x <<< 8) := by rw [IntKind.wrap_u32']; exact W_shl x 8 (by omega)
@[go_sem] theorem W_m24 (x : W32) : W x * (16777216 : Int) % (4294967296 : Int) = W (x <<< 24) := W_shl x 24 (by omega)
@[go_sem] theorem W_m16 (x : W32) : W x * (65536 : Int) % (4294967296 : Int) = W (x <<< 16) := W_shl x 16 (by omega)
@[go_sem] theorem W_m8 (x : W32) : W x * (256 : Int) % (4294967296 : Int) = W (x <<< 8) := W_shl x 8 (by omega)
@[go_sem] theorem W_addm (x y : W32) : (W x + W y) % (4294967296 : Int) = W (x + y) := by unfold W; simp
@[go_sem] theorem W_shr3 (x : W32) : W x / (8 : Int) = W (x >>> 3) := W_shr x 3 (by omega)
@[go_sem] theorem W_shr10 (x : W32) : W x / (1024 : Int) = W (x >>> 10) := W_shr x 10 (by omega)

theorem ror_2 (x : W32) : bits .or .u32 (W x / 4) (W x * 1073741824 % 4294967296) = W (ror x 2) := by
  have h1 : W x / (4 : Int) = W (x >>> 2) := W_shr x 2 (by omega)
  have h2 : W x * (1073741824 : Int) % (4294967296 : Int) = W (x <<< 30) := W_shl x 30 (by omega)
  rw [h1, h2, W_or]; rfl
theorem rol_2 (x : W32) : bits .or .u32 (W x * 1073741824 % 4294967296) (W x / 4) = W (ror x 2) := by
  have h1 : W x / (4 : Int) = W (x >>> 2) := W_shr x 2 (by omega)
  have h2 : W x * (1073741824 : Int) % (4294967296 : Int) = W (x <<< 30) := W_shl x 30 (by omega)
  rw [h1, h2, W_or, UInt32.or_comm]; rfl
theorem turn_2 (x : W32) (w : World) : Calls Tryz.prog 133 #[.int .u32 (W x), .int .i64 2] w fun e w' => e = .returned (.int .u32 (W (ror x 2))) ∧ w = w' := by
  have h0 := W_lo x; have h1 := W_hi x
  go_enter Tryz.func133, Tryz.ntmps133
  go_wp2
  go_ret
  exact ⟨ret_int (ror_2 x), rfl⟩
theorem rotate_2 (x : W32) (w : World) : Calls Tryz.prog 134 #[.int .u32 (W x), .int .i64 (-2)] w fun e w' => e = .returned (.int .u32 (W (ror x 2))) ∧ w = w' := by
  have h0 := W_lo x; have h1 := W_hi x
  have he : bits .and .u64 (IntKind.u64.wrap (-2)) 31 = 30 := by decide
  go_enter Tryz.func134, Tryz.ntmps134
  go_wp2
  go_ret
  exact ⟨ret_int (rol_2 x), rfl⟩

theorem ror_6 (x : W32) : bits .or .u32 (W x / 64) (W x * 67108864 % 4294967296) = W (ror x 6) := by
  have h1 : W x / (64 : Int) = W (x >>> 6) := W_shr x 6 (by omega)
  have h2 : W x * (67108864 : Int) % (4294967296 : Int) = W (x <<< 26) := W_shl x 26 (by omega)
  rw [h1, h2, W_or]; rfl
theorem rol_6 (x : W32) : bits .or .u32 (W x * 67108864 % 4294967296) (W x / 64) = W (ror x 6) := by
  have h1 : W x / (64 : Int) = W (x >>> 6) := W_shr x 6 (by omega)
  have h2 : W x * (67108864 : Int) % (4294967296 : Int) = W (x <<< 26) := W_shl x 26 (by omega)
  rw [h1, h2, W_or, UInt32.or_comm]; rfl
theorem turn_6 (x : W32) (w : World) : Calls Tryz.prog 133 #[.int .u32 (W x), .int .i64 6] w fun e w' => e = .returned (.int .u32 (W (ror x 6))) ∧ w = w' := by
  have h0 := W_lo x; have h1 := W_hi x
  go_enter Tryz.func133, Tryz.ntmps133
  go_wp2
  go_ret
  exact ⟨ret_int (ror_6 x), rfl⟩
theorem rotate_6 (x : W32) (w : World) : Calls Tryz.prog 134 #[.int .u32 (W x), .int .i64 (-6)] w fun e w' => e = .returned (.int .u32 (W (ror x 6))) ∧ w = w' := by
  have h0 := W_lo x; have h1 := W_hi x
  have he : bits .and .u64 (IntKind.u64.wrap (-6)) 31 = 26 := by decide
  go_enter Tryz.func134, Tryz.ntmps134
  go_wp2
  go_ret
  exact ⟨ret_int (rol_6 x), rfl⟩

theorem ror_7 (x : W32) : bits .or .u32 (W x / 128) (W x * 33554432 % 4294967296) = W (ror x 7) := by
  have h1 : W x / (128 : Int) = W (x >>> 7) := W_shr x 7 (by omega)
  have h2 : W x * (33554432 : Int) % (4294967296 : Int) = W (x <<< 25) := W_shl x 25 (by omega)
  rw [h1, h2, W_or]; rfl
theorem rol_7 (x : W32) : bits .or .u32 (W x * 33554432 % 4294967296) (W x / 128) = W (ror x 7) := by
  have h1 : W x / (128 : Int) = W (x >>> 7) := W_shr x 7 (by omega)
  have h2 : W x * (33554432 : Int) % (4294967296 : Int) = W (x <<< 25) := W_shl x 25 (by omega)
  rw [h1, h2, W_or, UInt32.or_comm]; rfl
theorem turn_7 (x : W32) (w : World) : Calls Tryz.prog 133 #[.int .u32 (W x), .int .i64 7] w fun e w' => e = .returned (.int .u32 (W (ror x 7))) ∧ w = w' := by
  have h0 := W_lo x; have h1 := W_hi x
  go_enter Tryz.func133, Tryz.ntmps133
  go_wp2
  go_ret
  exact ⟨ret_int (ror_7 x), rfl⟩
theorem rotate_7 (x : W32) (w : World) : Calls Tryz.prog 134 #[.int .u32 (W x), .int .i64 (-7)] w fun e w' => e = .returned (.int .u32 (W (ror x 7))) ∧ w = w' := by
  have h0 := W_lo x; have h1 := W_hi x
  have he : bits .and .u64 (IntKind.u64.wrap (-7)) 31 = 25 := by decide
  go_enter Tryz.func134, Tryz.ntmps134
  go_wp2
  go_ret
  exact ⟨ret_int (rol_7 x), rfl⟩

theorem ror_11 (x : W32) : bits .or .u32 (W x / 2048) (W x * 2097152 % 4294967296) = W (ror x 11) := by
  have h1 : W x / (2048 : Int) = W (x >>> 11) := W_shr x 11 (by omega)
  have h2 : W x * (2097152 : Int) % (4294967296 : Int) = W (x <<< 21) := W_shl x 21 (by omega)
  rw [h1, h2, W_or]; rfl
theorem rol_11 (x : W32) : bits .or .u32 (W x * 2097152 % 4294967296) (W x / 2048) = W (ror x 11) := by
  have h1 : W x / (2048 : Int) = W (x >>> 11) := W_shr x 11 (by omega)
  have h2 : W x * (2097152 : Int) % (4294967296 : Int) = W (x <<< 21) := W_shl x 21 (by omega)
  rw [h1, h2, W_or, UInt32.or_comm]; rfl
theorem turn_11 (x : W32) (w : World) : Calls Tryz.prog 133 #[.int .u32 (W x), .int .i64 11] w fun e w' => e = .returned (.int .u32 (W (ror x 11))) ∧ w = w' := by
  have h0 := W_lo x; have h1 := W_hi x
  go_enter Tryz.func133, Tryz.ntmps133
  go_wp2
  go_ret
  exact ⟨ret_int (ror_11 x), rfl⟩
theorem rotate_11 (x : W32) (w : World) : Calls Tryz.prog 134 #[.int .u32 (W x), .int .i64 (-11)] w fun e w' => e = .returned (.int .u32 (W (ror x 11))) ∧ w = w' := by
  have h0 := W_lo x; have h1 := W_hi x
  have he : bits .and .u64 (IntKind.u64.wrap (-11)) 31 = 21 := by decide
  go_enter Tryz.func134, Tryz.ntmps134
  go_wp2
  go_ret
  exact ⟨ret_int (rol_11 x), rfl⟩

theorem ror_13 (x : W32) : bits .or .u32 (W x / 8192) (W x * 524288 % 4294967296) = W (ror x 13) := by
  have h1 : W x / (8192 : Int) = W (x >>> 13) := W_shr x 13 (by omega)
  have h2 : W x * (524288 : Int) % (4294967296 : Int) = W (x <<< 19) := W_shl x 19 (by omega)
  rw [h1, h2, W_or]; rfl
theorem rol_13 (x : W32) : bits .or .u32 (W x * 524288 % 4294967296) (W x / 8192) = W (ror x 13) := by
  have h1 : W x / (8192 : Int) = W (x >>> 13) := W_shr x 13 (by omega)
  have h2 : W x * (524288 : Int) % (4294967296 : Int) = W (x <<< 19) := W_shl x 19 (by omega)
  rw [h1, h2, W_or, UInt32.or_comm]; rfl
theorem turn_13 (x : W32) (w : World) : Calls Tryz.prog 133 #[.int .u32 (W x), .int .i64 13] w fun e w' => e = .returned (.int .u32 (W (ror x 13))) ∧ w = w' := by
  have h0 := W_lo x; have h1 := W_hi x
  go_enter Tryz.func133, Tryz.ntmps133
  go_wp2
  go_ret
  exact ⟨ret_int (ror_13 x), rfl⟩
theorem rotate_13 (x : W32) (w : World) : Calls Tryz.prog 134 #[.int .u32 (W x), .int .i64 (-13)] w fun e w' => e = .returned (.int .u32 (W (ror x 13))) ∧ w = w' := by
  have h0 := W_lo x; have h1 := W_hi x
  have he : bits .and .u64 (IntKind.u64.wrap (-13)) 31 = 19 := by decide
  go_enter Tryz.func134, Tryz.ntmps134
  go_wp2
  go_ret
  exact ⟨ret_int (rol_13 x), rfl⟩

theorem ror_17 (x : W32) : bits .or .u32 (W x / 131072) (W x * 32768 % 4294967296) = W (ror x 17) := by
  have h1 : W x / (131072 : Int) = W (x >>> 17) := W_shr x 17 (by omega)
  have h2 : W x * (32768 : Int) % (4294967296 : Int) = W (x <<< 15) := W_shl x 15 (by omega)
  rw [h1, h2, W_or]; rfl
theorem rol_17 (x : W32) : bits .or .u32 (W x * 32768 % 4294967296) (W x / 131072) = W (ror x 17) := by
  have h1 : W x / (131072 : Int) = W (x >>> 17) := W_shr x 17 (by omega)
  have h2 : W x * (32768 : Int) % (4294967296 : Int) = W (x <<< 15) := W_shl x 15 (by omega)
  rw [h1, h2, W_or, UInt32.or_comm]; rfl
theorem turn_17 (x : W32) (w : World) : Calls Tryz.prog 133 #[.int .u32 (W x), .int .i64 17] w fun e w' => e = .returned (.int .u32 (W (ror x 17))) ∧ w = w' := by
  have h0 := W_lo x; have h1 := W_hi x
  go_enter Tryz.func133, Tryz.ntmps133
  go_wp2
  go_ret
  exact ⟨ret_int (ror_17 x), rfl⟩
theorem rotate_17 (x : W32) (w : World) : Calls Tryz.prog 134 #[.int .u32 (W x), .int .i64 (-17)] w fun e w' => e = .returned (.int .u32 (W (ror x 17))) ∧ w = w' := by
  have h0 := W_lo x; have h1 := W_hi x
  have he : bits .and .u64 (IntKind.u64.wrap (-17)) 31 = 15 := by decide
  go_enter Tryz.func134, Tryz.ntmps134
  go_wp2
  go_ret
  exact ⟨ret_int (rol_17 x), rfl⟩

theorem ror_18 (x : W32) : bits .or .u32 (W x / 262144) (W x * 16384 % 4294967296) = W (ror x 18) := by
  have h1 : W x / (262144 : Int) = W (x >>> 18) := W_shr x 18 (by omega)
  have h2 : W x * (16384 : Int) % (4294967296 : Int) = W (x <<< 14) := W_shl x 14 (by omega)
  rw [h1, h2, W_or]; rfl
theorem rol_18 (x : W32) : bits .or .u32 (W x * 16384 % 4294967296) (W x / 262144) = W (ror x 18) := by
  have h1 : W x / (262144 : Int) = W (x >>> 18) := W_shr x 18 (by omega)
  have h2 : W x * (16384 : Int) % (4294967296 : Int) = W (x <<< 14) := W_shl x 14 (by omega)
  rw [h1, h2, W_or, UInt32.or_comm]; rfl
theorem turn_18 (x : W32) (w : World) : Calls Tryz.prog 133 #[.int .u32 (W x), .int .i64 18] w fun e w' => e = .returned (.int .u32 (W (ror x 18))) ∧ w = w' := by
  have h0 := W_lo x; have h1 := W_hi x
  go_enter Tryz.func133, Tryz.ntmps133
  go_wp2
  go_ret
  exact ⟨ret_int (ror_18 x), rfl⟩
theorem rotate_18 (x : W32) (w : World) : Calls Tryz.prog 134 #[.int .u32 (W x), .int .i64 (-18)] w fun e w' => e = .returned (.int .u32 (W (ror x 18))) ∧ w = w' := by
  have h0 := W_lo x; have h1 := W_hi x
  have he : bits .and .u64 (IntKind.u64.wrap (-18)) 31 = 14 := by decide
  go_enter Tryz.func134, Tryz.ntmps134
  go_wp2
  go_ret
  exact ⟨ret_int (rol_18 x), rfl⟩

theorem ror_19 (x : W32) : bits .or .u32 (W x / 524288) (W x * 8192 % 4294967296) = W (ror x 19) := by
  have h1 : W x / (524288 : Int) = W (x >>> 19) := W_shr x 19 (by omega)
  have h2 : W x * (8192 : Int) % (4294967296 : Int) = W (x <<< 13) := W_shl x 13 (by omega)
  rw [h1, h2, W_or]; rfl
theorem rol_19 (x : W32) : bits .or .u32 (W x * 8192 % 4294967296) (W x / 524288) = W (ror x 19) := by
  have h1 : W x / (524288 : Int) = W (x >>> 19) := W_shr x 19 (by omega)
  have h2 : W x * (8192 : Int) % (4294967296 : Int) = W (x <<< 13) := W_shl x 13 (by omega)
  rw [h1, h2, W_or, UInt32.or_comm]; rfl
theorem turn_19 (x : W32) (w : World) : Calls Tryz.prog 133 #[.int .u32 (W x), .int .i64 19] w fun e w' => e = .returned (.int .u32 (W (ror x 19))) ∧ w = w' := by
  have h0 := W_lo x; have h1 := W_hi x
  go_enter Tryz.func133, Tryz.ntmps133
  go_wp2
  go_ret
  exact ⟨ret_int (ror_19 x), rfl⟩
theorem rotate_19 (x : W32) (w : World) : Calls Tryz.prog 134 #[.int .u32 (W x), .int .i64 (-19)] w fun e w' => e = .returned (.int .u32 (W (ror x 19))) ∧ w = w' := by
  have h0 := W_lo x; have h1 := W_hi x
  have he : bits .and .u64 (IntKind.u64.wrap (-19)) 31 = 13 := by decide
  go_enter Tryz.func134, Tryz.ntmps134
  go_wp2
  go_ret
  exact ⟨ret_int (rol_19 x), rfl⟩

theorem ror_22 (x : W32) : bits .or .u32 (W x / 4194304) (W x * 1024 % 4294967296) = W (ror x 22) := by
  have h1 : W x / (4194304 : Int) = W (x >>> 22) := W_shr x 22 (by omega)
  have h2 : W x * (1024 : Int) % (4294967296 : Int) = W (x <<< 10) := W_shl x 10 (by omega)
  rw [h1, h2, W_or]; rfl
theorem rol_22 (x : W32) : bits .or .u32 (W x * 1024 % 4294967296) (W x / 4194304) = W (ror x 22) := by
  have h1 : W x / (4194304 : Int) = W (x >>> 22) := W_shr x 22 (by omega)
  have h2 : W x * (1024 : Int) % (4294967296 : Int) = W (x <<< 10) := W_shl x 10 (by omega)
  rw [h1, h2, W_or, UInt32.or_comm]; rfl
theorem turn_22 (x : W32) (w : World) : Calls Tryz.prog 133 #[.int .u32 (W x), .int .i64 22] w fun e w' => e = .returned (.int .u32 (W (ror x 22))) ∧ w = w' := by
  have h0 := W_lo x; have h1 := W_hi x
  go_enter Tryz.func133, Tryz.ntmps133
  go_wp2
  go_ret
  exact ⟨ret_int (ror_22 x), rfl⟩
theorem rotate_22 (x : W32) (w : World) : Calls Tryz.prog 134 #[.int .u32 (W x), .int .i64 (-22)] w fun e w' => e = .returned (.int .u32 (W (ror x 22))) ∧ w = w' := by
  have h0 := W_lo x; have h1 := W_hi x
  have he : bits .and .u64 (IntKind.u64.wrap (-22)) 31 = 10 := by decide
  go_enter Tryz.func134, Tryz.ntmps134
  go_wp2
  go_ret
  exact ⟨ret_int (rol_22 x), rfl⟩

theorem ror_25 (x : W32) : bits .or .u32 (W x / 33554432) (W x * 128 % 4294967296) = W (ror x 25) := by
  have h1 : W x / (33554432 : Int) = W (x >>> 25) := W_shr x 25 (by omega)
  have h2 : W x * (128 : Int) % (4294967296 : Int) = W (x <<< 7) := W_shl x 7 (by omega)
  rw [h1, h2, W_or]; rfl
theorem rol_25 (x : W32) : bits .or .u32 (W x * 128 % 4294967296) (W x / 33554432) = W (ror x 25) := by
  have h1 : W x / (33554432 : Int) = W (x >>> 25) := W_shr x 25 (by omega)
  have h2 : W x * (128 : Int) % (4294967296 : Int) = W (x <<< 7) := W_shl x 7 (by omega)
  rw [h1, h2, W_or, UInt32.or_comm]; rfl
theorem turn_25 (x : W32) (w : World) : Calls Tryz.prog 133 #[.int .u32 (W x), .int .i64 25] w fun e w' => e = .returned (.int .u32 (W (ror x 25))) ∧ w = w' := by
  have h0 := W_lo x; have h1 := W_hi x
  go_enter Tryz.func133, Tryz.ntmps133
  go_wp2
  go_ret
  exact ⟨ret_int (ror_25 x), rfl⟩
theorem rotate_25 (x : W32) (w : World) : Calls Tryz.prog 134 #[.int .u32 (W x), .int .i64 (-25)] w fun e w' => e = .returned (.int .u32 (W (ror x 25))) ∧ w = w' := by
  have h0 := W_lo x; have h1 := W_hi x
  have he : bits .and .u64 (IntKind.u64.wrap (-25)) 31 = 7 := by decide
  go_enter Tryz.func134, Tryz.ntmps134
  go_wp2
  go_ret
  exact ⟨ret_int (rol_25 x), rfl⟩

end Go.Proofs.YtemicgccgcmmbaaGreat

/- The hash's constants; rows of words as values. -/
namespace Go.Proofs.YtemicgccgcmmbaaGreat
set_option linter.unusedVariables false
set_option linter.unusedSimpArgs false
open Go Go.RowKit

def wC (l : List W32) : List Value := l.map fun x => .int .u32 (W x)
theorem wC_length (l : List W32) : (wC l).length = l.length := by simp [wC]
theorem wC_one (l : List W32) : ∀ v ∈ wC l, v.oneCell' = true := by
  intro v hv
  simp only [wC, List.mem_map] at hv
  obtain ⟨b, _, rfl⟩ := hv
  rfl
@[go_sem] theorem okCells_wC (l : List W32) : okCells (wC l).toArray = true := okCells_of (by simpa using wC_one l)
theorem wC_get (l : List W32) (i : Nat) : (wC l).toArray[i]? = (l[i]?).map fun x => .int .u32 (W x) := by simp [wC]

def z64 : List W32 := List.replicate 64 0
@[go_sem ↓] theorem zero_k64 (w : World) : (zeroValue 155).run Tryz.prog w = .ok (.agg (wC z64).toArray) w := by kernel_rfl
def z8 : List W32 := List.replicate 8 0
@[go_sem ↓] theorem zero_st (w : World) : (zeroValue 147).run Tryz.prog w = .ok (.agg (wC z8).toArray) w := by kernel_rfl

@[go_sem ↓] theorem exec_load_st (a : Act) (dst : Option Tmp) (x : Operand) (ty : TypeId) (pos : String) (after : Array Edge) (guard : Option (Nat × Bool)) :
    execOp a.eval { dst, op := .load 147 x, type := ty, pos, after, guard } = ldBig 147 (a.eval x) := rfl
@[go_sem ↓] theorem exec_store_st (a : Act) (dst : Option Tmp) (x y : Operand) (ty : TypeId) (pos : String) (after : Array Edge) (guard : Option (Nat × Bool)) :
    execOp a.eval { dst, op := .store 147 x y, type := ty, pos, after, guard } = stBig 147 (a.eval x) (a.eval y) := rfl
@[go_sem] theorem run_load_st (a : Addr) (w : World) : (ldBig 147 (.pointer (some a))).run Tryz.prog w = match rowAt? w a 8 with | some cs => .ok (.value (.agg cs)) w | none => slowLd Tryz.prog 147 (.pointer (some a)) w :=
  run_ldBig Tryz.prog 147 8 _ Tryz.underlying147 rfl (by kernel_rfl) a w
@[go_sem] theorem run_store_st (g o : Nat) (cs : Array Value) (w : World) : (stBig 147 (.pointer (some ⟨g, o, none⟩)) (.agg cs)).run Tryz.prog w = match own? w g with | some c => (if o + 8 ≤ c.size ∧ cs.size = 8 ∧ okCells cs = true then .ok .skip (w.setRow g (spl c o cs)) else slowSt Tryz.prog 147 (.pointer (some ⟨g, o, none⟩)) (.agg cs) w) | none => slowSt Tryz.prog 147 (.pointer (some ⟨g, o, none⟩)) (.agg cs) w :=
  run_stBig Tryz.prog 147 8 (by kernel_rfl) g o cs w
@[go_sem ↓] theorem exec_load_k64 (a : Act) (dst : Option Tmp) (x : Operand) (ty : TypeId) (pos : String) (after : Array Edge) (guard : Option (Nat × Bool)) :
    execOp a.eval { dst, op := .load 155 x, type := ty, pos, after, guard } = ldBig 155 (a.eval x) := rfl
@[go_sem ↓] theorem exec_store_k64 (a : Act) (dst : Option Tmp) (x y : Operand) (ty : TypeId) (pos : String) (after : Array Edge) (guard : Option (Nat × Bool)) :
    execOp a.eval { dst, op := .store 155 x y, type := ty, pos, after, guard } = stBig 155 (a.eval x) (a.eval y) := rfl
@[go_sem] theorem run_load_k64 (a : Addr) (w : World) : (ldBig 155 (.pointer (some a))).run Tryz.prog w = match rowAt? w a 64 with | some cs => .ok (.value (.agg cs)) w | none => slowLd Tryz.prog 155 (.pointer (some a)) w :=
  run_ldBig Tryz.prog 155 64 _ Tryz.underlying155 rfl (by kernel_rfl) a w
@[go_sem] theorem run_store_k64 (g o : Nat) (cs : Array Value) (w : World) : (stBig 155 (.pointer (some ⟨g, o, none⟩)) (.agg cs)).run Tryz.prog w = match own? w g with | some c => (if o + 64 ≤ c.size ∧ cs.size = 64 ∧ okCells cs = true then .ok .skip (w.setRow g (spl c o cs)) else slowSt Tryz.prog 155 (.pointer (some ⟨g, o, none⟩)) (.agg cs) w) | none => slowSt Tryz.prog 155 (.pointer (some ⟨g, o, none⟩)) (.agg cs) w :=
  run_stBig Tryz.prog 155 64 (by kernel_rfl) g o cs w
@[go_sem ↓] theorem exec_load_b64 (a : Act) (dst : Option Tmp) (x : Operand) (ty : TypeId) (pos : String) (after : Array Edge) (guard : Option (Nat × Bool)) :
    execOp a.eval { dst, op := .load 152 x, type := ty, pos, after, guard } = ldBig 152 (a.eval x) := rfl
@[go_sem] theorem run_load_b64 (a : Addr) (w : World) : (ldBig 152 (.pointer (some a))).run Tryz.prog w = match rowAt? w a 64 with | some cs => .ok (.value (.agg cs)) w | none => slowLd Tryz.prog 152 (.pointer (some a)) w :=
  run_ldBig Tryz.prog 152 64 _ Tryz.underlying152 rfl (by kernel_rfl) a w

-- BUILD RULES
set_option maxRecDepth 100000 in
@[go_sem ↓] theorem exec_build_st (a : Act) (dst : Option Tmp) (ty : TypeId) (pos : String) (after : Array Edge) (guard : Option (Nat × Bool)) (w : World) :
    (execOp a.eval { dst, op := .build 147 #[(0, .const (.int .u32 1779033703)), (1, .const (.int .u32 3144134277)), (2, .const (.int .u32 1013904242)), (3, .const (.int .u32 2773480762)), (4, .const (.int .u32 1359893119)), (5, .const (.int .u32 2600822924)), (6, .const (.int .u32 528734635)), (7, .const (.int .u32 1541459225))], type := ty, pos, after, guard }).run Tryz.prog w = .ok (.value (.agg (wC shaH.l).toArray)) w := by kernel_rfl
set_option maxRecDepth 100000 in
@[go_sem ↓] theorem exec_build_k64 (a : Act) (dst : Option Tmp) (ty : TypeId) (pos : String) (after : Array Edge) (guard : Option (Nat × Bool)) (w : World) :
    (execOp a.eval { dst, op := .build 155 #[(0, .const (.int .u32 1116352408)), (1, .const (.int .u32 1899447441)), (2, .const (.int .u32 3049323471)), (3, .const (.int .u32 3921009573)), (4, .const (.int .u32 961987163)), (5, .const (.int .u32 1508970993)), (6, .const (.int .u32 2453635748)), (7, .const (.int .u32 2870763221)), (8, .const (.int .u32 3624381080)), (9, .const (.int .u32 310598401)), (10, .const (.int .u32 607225278)), (11, .const (.int .u32 1426881987)), (12, .const (.int .u32 1925078388)), (13, .const (.int .u32 2162078206)), (14, .const (.int .u32 2614888103)), (15, .const (.int .u32 3248222580)), (16, .const (.int .u32 3835390401)), (17, .const (.int .u32 4022224774)), (18, .const (.int .u32 264347078)), (19, .const (.int .u32 604807628)), (20, .const (.int .u32 770255983)), (21, .const (.int .u32 1249150122)), (22, .const (.int .u32 1555081692)), (23, .const (.int .u32 1996064986)), (24, .const (.int .u32 2554220882)), (25, .const (.int .u32 2821834349)), (26, .const (.int .u32 2952996808)), (27, .const (.int .u32 3210313671)), (28, .const (.int .u32 3336571891)), (29, .const (.int .u32 3584528711)), (30, .const (.int .u32 113926993)), (31, .const (.int .u32 338241895)), (32, .const (.int .u32 666307205)), (33, .const (.int .u32 773529912)), (34, .const (.int .u32 1294757372)), (35, .const (.int .u32 1396182291)), (36, .const (.int .u32 1695183700)), (37, .const (.int .u32 1986661051)), (38, .const (.int .u32 2177026350)), (39, .const (.int .u32 2456956037)), (40, .const (.int .u32 2730485921)), (41, .const (.int .u32 2820302411)), (42, .const (.int .u32 3259730800)), (43, .const (.int .u32 3345764771)), (44, .const (.int .u32 3516065817)), (45, .const (.int .u32 3600352804)), (46, .const (.int .u32 4094571909)), (47, .const (.int .u32 275423344)), (48, .const (.int .u32 430227734)), (49, .const (.int .u32 506948616)), (50, .const (.int .u32 659060556)), (51, .const (.int .u32 883997877)), (52, .const (.int .u32 958139571)), (53, .const (.int .u32 1322822218)), (54, .const (.int .u32 1537002063)), (55, .const (.int .u32 1747873779)), (56, .const (.int .u32 1955562222)), (57, .const (.int .u32 2024104815)), (58, .const (.int .u32 2227730452)), (59, .const (.int .u32 2361852424)), (60, .const (.int .u32 2428436474)), (61, .const (.int .u32 2756734187)), (62, .const (.int .u32 3204031479)), (63, .const (.int .u32 3329325298))], type := ty, pos, after, guard }).run Tryz.prog w = .ok (.value (.agg (wC shaK).toArray)) w := by kernel_rfl

set_option maxHeartbeats 4000000 in
set_option maxRecDepth 100000 in
theorem begin_any (w : World) : Calls Tryz.prog 130 #[] w (Rets (.agg (wC shaH.l).toArray) w) := by
  have h0 : (wC z8).length = 8 := by decide
  have h1 : (wC shaH.l).length = 8 := by decide
  have h2 := okCells_wC shaH.l
  go_enter Tryz.func130, Tryz.ntmps130
  go_wp2
  refine row_ret w.heap.size (t := 147) (cs := (wC shaH.l).toArray) rfl Tryz.underlying147 rfl (by kernel_rfl) rfl (by rw [spl_whole _ _ (by simp [h0, h1])]; exact Blk.new w _ _) rfl ?_
  exact ⟨rfl, by (try simp only [alloc_ext, drew_ext, drewN_ext, ext_ext]); exact ⟨_, _, rfl⟩⟩

set_option maxHeartbeats 4000000 in
set_option maxRecDepth 100000 in
theorem constants_any (w : World) : Calls Tryz.prog 135 #[] w (Rets (.agg (wC shaK).toArray) w) := by
  have h0 : (wC z64).length = 64 := by decide
  have h1 : (wC shaK).length = 64 := by decide
  have h2 := okCells_wC shaK
  go_enter Tryz.func135, Tryz.ntmps135
  go_wp2
  refine row_ret w.heap.size (t := 155) (cs := (wC shaK).toArray) rfl Tryz.underlying155 rfl (by kernel_rfl) rfl (by rw [spl_whole _ _ (by simp [h0, h1])]; exact Blk.new w _ _) rfl ?_
  exact ⟨rfl, by (try simp only [alloc_ext, drew_ext, drewN_ext, ext_ext]); exact ⟨_, _, rfl⟩⟩

end Go.Proofs.YtemicgccgcmmbaaGreat
