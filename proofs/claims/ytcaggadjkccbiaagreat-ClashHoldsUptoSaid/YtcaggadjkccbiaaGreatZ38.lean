/- Plain laws: a node's form is read as that node, and what is read is that node's form. -/
import Derived.Test.YtcaggadjkccbiaaGreatZ36
namespace Go.Proofs.YtcaggadjkccbiaaGreat
set_option linter.unusedVariables false
set_option linter.unusedSimpArgs false
open Go Go.RowKit

/-- A kid's own bytes. -/
def kB (pages : Bool) (wd : Nat) (k : Kd) : Bs := (if pages = true then fixB 4 k.page else []) ++ k.sum.l.take wd
/-- All kids behind the first, each behind its separator. -/
def kidsT (pages : Bool) (wd : Nat) : List Kd → List Bs → Bs
  | k :: ks, s :: ss => textB s ++ (kB pages wd k ++ kidsT pages wd ks ss)
  | _, _ => []

theorem kidsT_range (pages : Bool) (wd : Nat) : ∀ (ks : List Kd) (ss : List Bs), ks.length = ss.length → (List.range ks.length).flatMap (fun i => textB (ss.getD i []) ++ kB pages wd (ks.getD i Kd.zero)) = kidsT pages wd ks ss
  | [], [], _ => rfl
  | k :: ks, s :: ss, h => by
    rw [List.length_cons, List.range_succ_eq_map, List.flatMap_cons, List.flatMap_map]
    have ih := kidsT_range pages wd ks ss (by simpa using h)
    simp only [kidsT, List.getD_cons_zero, List.append_assoc]
    rw [← ih]
    rfl
theorem kidsB_T (pages : Bool) (wd : Nat) (ps : List Pr) (k : Kd) (ks : List Kd) (ss : List Bs) (h : ss.length + 1 = (k :: ks).length) : kidsB pages wd ⟨ps, ss, k :: ks⟩ (k :: ks).length = kB pages wd k ++ kidsT pages wd ks ss := by
  unfold kidsB
  rw [List.length_cons, List.range_succ_eq_map, List.flatMap_cons, List.flatMap_map, ← kidsT_range pages wd ks ss (by simp at h; omega)]
  congr 1
  
theorem kB_len (pages : Bool) {wd : Nat} (k : Kd) (hwd : wd ≤ 32) : (kB pages wd k).length = (if pages = true then 4 else 0) + wd := by
  unfold kB
  rw [List.length_append, List.length_take, k.sum.h]
  cases pages <;> simp [fixB_len] <;> omega
theorem fitB_iff {wd : Nat} {d : Dg} : fitB wd d = true ↔ (1 ≤ wd ∧ wd ≤ 32) ∧ Dg.cut wd d = d := by
  simp [fitB]; omega

/-- What a good branch has. -/
theorem branch_good {P wd : Nat} {n : Nd} (h : shapedB P wd n = true) (hl : leafB n = false) : n.pairs = [] ∧ n.seps.length + 1 = n.kids.length ∧ (∀ s ∈ n.seps, 1 ≤ s.length ∧ s.length ≤ P / 16) ∧ ∀ k ∈ n.kids, Dg.cut wd k.sum = k.sum := by
  unfold shapedB at h
  rw [if_neg (by simp [hl])] at h
  simp only [Bool.and_eq_true, decide_eq_true_eq, Bool.not_eq_true'] at h
  obtain ⟨⟨⟨⟨h1, h2⟩, h3⟩, h4⟩, h5⟩ := h
  refine ⟨List.length_eq_zero_iff.1 h1, h3, rises_len _ _ _ h5, fun k hk => ?_⟩
  have := List.any_eq_false.1 h4 k hk
  simp only [Bool.not_eq_true', Bool.not_eq_false] at this
  exact (fitB_iff.1 this).2
theorem kidsT_len {pages : Bool} {wd : Nat} (hwd : wd ≤ 32) : ∀ (ks : List Kd) (ss : List Bs), ks.length = ss.length → (kidsT pages wd ks ss).length = ks.length * ((if pages = true then 4 else 0) + wd) + (ss.map txN).sum
  | [], [], _ => by simp [kidsT]
  | k :: ks, s :: ss, h => by
    have ih := kidsT_len (pages := pages) hwd ks ss (by simpa using h)
    simp only [kidsT, List.length_append, textB_length, kB_len pages k hwd, ih, List.length_cons, Nat.succ_mul, List.map_cons, List.sum_cons]
    omega
/-- How long a form is. -/
theorem formB_len {P wd : Nat} {pages : Bool} {n : Nd} (hc : checkE P wd n = 0) : (formB pages wd n).length + (if pages = true then 0 else 4 * n.kids.length) = sizeN wd n := by
  obtain ⟨hr, hs⟩ := checkE_ok hc
  have hr' := rightB_iff.1 hr
  have hwd : wd ≤ 32 := by omega
  simp only [Int.toNat_natCast] at hs
  unfold formB sizeN
  cases hl : leafB n
  · obtain ⟨e1, e2, e3, e4⟩ := branch_good hs hl
    obtain ⟨ps, ss, ks⟩ := n
    cases ks with
    | nil => simp at e2
    | cons k ks =>
      simp only at e1 e2
      have e2' : ks.length = ss.length := by simp at e2; omega
      simp only [Bool.false_eq_true, if_false]
      rw [kidsB_T pages wd ps k ks ss e2]
      simp only [List.length_cons, List.length_append, freeB_length, kB_len pages k hwd, kidsT_len hwd ks ss e2', Nat.succ_mul]
      cases pages
      · simp only [Bool.false_eq_true, if_false, Nat.zero_add]
        simp only [Nat.mul_add]; omega
      · simp only [if_true, Nat.mul_add]; omega
  · obtain ⟨e1, e2⟩ := leafB_iff.1 hl
    simp only [if_true, List.length_cons, List.length_append, freeB_length, pairsB_length, e2, List.length_nil, Nat.mul_zero, ite_self]
    omega

theorem readP_ok {p wd : Int} {s : Bs} {n : Nd} (h : readP p wd s = some n) : rightB p wd = true ∧ mayE p wd n = 0 ∧ parseP p.toNat wd.toNat false s = some n := by
  unfold readP at h
  split at h
  · rename_i hr
    obtain ⟨h1, h2⟩ := Option.filter_eq_some_iff.1 h
    exact ⟨hr, by simpa using h2, h1⟩
  · cases h
end Go.Proofs.YtcaggadjkccbiaaGreat
