/- The document's Unpack and Read (values without addresses). -/
import Derived.Test.YtemicgccgcmmbaaGreatZ51
import Derived.Test.YtemicgccgcmmbaaGreatZ48
import Derived.Test.YtemicgccgcmmbaaGreatZ31
import Derived.Test.YtemicgccgcmmbaaGreatZ32
import Derived.Test.YtemicgccgcmmbaaGreatZ34
namespace Go.Proofs.YtemicgccgcmmbaaGreat
set_option linter.unusedVariables false
set_option linter.unusedSimpArgs false
open Go Go.RowKit

theorem Rets.kp {v : Value} {w : World} {e : Ending} {w' : World} (h : Rets v w e w') : e = .returned v ∧ Kp [] w w' := by
  obtain ⟨h1, bs, n, rfl⟩ := h
  exact ⟨h1, (Kp.refl [] _).ext _ _⟩
theorem RVal.of_int {w : World} {I : Nat → Nat → Prop} {k : IntKind} {n : Int} : RVal w I (.v (.int k n)) (.int k n) := by unfold RVal; exact ⟨rfl, rfl⟩
theorem RVal.of_str {w : World} {I : Nat → Nat → Prop} {s : Bs} : RVal w I (sD s) (.string ⟨s.toArray⟩) := by unfold RVal; exact ⟨rfl, rfl⟩
theorem RVal.of_bool {w : World} {I : Nat → Nat → Prop} {b : Bool} : RVal w I (bD b) (.bool b) := by unfold RVal; exact ⟨rfl, rfl⟩

theorem aRight (p wd : Int) (S : Sto) : ACalls Tryz.prog 30 [frD p wd] S (RetQ (bD (rightB p wd)) S) :=
  ACalls.liftq (callable Tryz.func30 rfl (by kernel_rfl)) fun w xs hS hx => by
    obtain ⟨x, ys, rfl, h1, h2⟩ := hx.cons
    obtain rfl := h2.nil
    obtain rfl := h1.frame
    exact (rright_any p wd w).mono fun e w' h => ⟨_, h.kp.1, h.kp.2, RVal.of_bool⟩
theorem aMost (P : Nat) (wd : Int) (S : Sto) (h : P ≤ 8192) (h0 : 1024 ≤ P) : ACalls Tryz.prog 36 [frD P wd] S (RetQ (iD ((P - 32 : Nat) : Int)) S) :=
  ACalls.liftq (callable Tryz.func36 rfl (by kernel_rfl)) fun w xs hS hx => by
    obtain ⟨x, ys, rfl, h1, h2⟩ := hx.cons
    obtain rfl := h2.nil
    obtain rfl := h1.frame
    exact (rmost_any P wd w h h0).mono fun e w' h => ⟨_, h.kp.1, h.kp.2, RVal.of_int⟩
theorem aPack (p wd : Int) (n : Nd) (S : Sto) (ho : NdOk n) : ACalls Tryz.prog 23 [frD p wd, ndA n] S (RetQ (.tup [sD (packS p wd n), iD (packE p wd n)]) S) :=
  ACalls.liftq (callable Tryz.func23 rfl (by kernel_rfl)) fun w xs hS hx => by
    obtain ⟨x, ys, rfl, h1, h2⟩ := hx.cons
    obtain ⟨y, zs, rfl, h3, h4⟩ := h2.cons
    obtain rfl := h4.nil
    obtain rfl := h1.frame
    obtain ⟨pa, sa, ka, pc, sc, kc, rfl, hn⟩ := h3.node
    exact (rpack_any p wd pa sa ka pc sc kc n w hn ho).mono fun e w' h => ⟨_, h.kp.1, h.kp.2, RVal.mk_tup (RVals.mk RVal.of_str (RVals.mk RVal.of_int RVals.mk0))⟩
theorem aPlain (p wd : Int) (n : Nd) (S : Sto) (ho : NdOk n) : ACalls Tryz.prog 24 [frD p wd, ndA n] S (RetQ (.tup [sD (plainS p wd n), iD (mayE p wd n)]) S) :=
  ACalls.liftq (callable Tryz.func24 rfl (by kernel_rfl)) fun w xs hS hx => by
    obtain ⟨x, ys, rfl, h1, h2⟩ := hx.cons
    obtain ⟨y, zs, rfl, h3, h4⟩ := h2.cons
    obtain rfl := h4.nil
    obtain rfl := h1.frame
    obtain ⟨pa, sa, ka, pc, sc, kc, rfl, hn⟩ := h3.node
    exact (rplain_any p wd pa sa ka pc sc kc n w hn ho).mono fun e w' h => ⟨_, h.kp.1, h.kp.2, RVal.mk_tup (RVals.mk RVal.of_str (RVals.mk RVal.of_int RVals.mk0))⟩

def okE (o : Option Nd) (c : Int) : Int := if o.isSome then 0 else c

set_option maxHeartbeats 1000000 in set_option maxRecDepth 100000 in
theorem aUnpack (p wd : Int) (s : Bs) (S : Sto) (hs : s.length ≤ 3909374676453) :
    ACalls Tryz.prog 8 [frD p wd, sD s] S (RetQ (.tup [ndA ((unpackP p wd s).getD noN), iD (okE (unpackP p wd s) (unpackE p wd))]) S) := by
  refine acalls_of prg Tryz.func8 rfl (by kernel_rfl) (congrArg Array.toList Tryz.results8) Tryz.ntmps8 (fun B hB => ?_); simp only [List.length_cons, List.length_nil, Nat.reduceAdd, Nat.reduceSub, List.replicate_succ, List.replicate_zero, List.cons_append, List.nil_append]
  cases hr : rightB p wd
  · have e1 : unpackE p wd = 2 := by simp [unpackE, hr]
    rw [unpack_arg hr, e1]
    have c := aRight p wd; rw [hr] at c
    (try clear F); have F := true_and; repeat (first | refine w1 ?_ | refine w2 ?_ | refine w3 ?_ | refine w4 ?_ | refine w5 ?_ | refine w6 ?_ | refine w7 ?_ | refine w8 ?_ | refine w9 ?_ | refine wa ?_ | refine wb ?_ | refine wc ?_ | refine wd ?_)
    refine wh ?_; rintro b4 ⟨k_b4, o_b4⟩; (try simp only [List.map_cons, List.mem_cons, not_or] at k_b4)
    (try clear F); have F := true_and; repeat (first | refine w1 ?_ | refine w2 ?_ | refine w3 ?_ | refine w4 ?_ | refine w5 ?_ | refine w6 ?_ | refine w7 ?_ | refine w8 ?_ | refine w9 ?_ | refine wa ?_ | refine wb ?_ | refine wc ?_ | refine wd ?_)
    (first | refine we (c := by exact (c _)) (k := ?_) | refine wf (c := by exact (c _)) (k := ?_))
    (try clear F); have F := true_and; repeat (first | refine w1 ?_ | refine w2 ?_ | refine w3 ?_ | refine w4 ?_ | refine w5 ?_ | refine w6 ?_ | refine w7 ?_ | refine w8 ?_ | refine w9 ?_ | refine wa ?_ | refine wb ?_ | refine wc ?_ | refine wd ?_)
    refine enduq (by simp only [go_sem, Int.reduceEq, Int.reduceLT, Int.reduceBEq, Int.reduceBNe, Int.reduceNe, Nat.reduceLeDiff, Nat.reduceAdd, Nat.reduceSub, Nat.reduceLT, Nat.reduceEqDiff, Nat.reduceBEq, Int.reduceLE, Int.reduceToNat]; rfl) (by rfl) (Sto.Sub.refl _).cons
  · have hr' := rightB_iff.1 hr
    obtain ⟨P, rfl⟩ := Int.eq_ofNat_of_zero_le (show 0 ≤ p by omega)
    have e1 : unpackE P wd = 73 := by simp [unpackE, hr]
    have c := aRight P wd; rw [hr] at c
    rw [e1]
    by_cases hm : P - 32 < s.length
    · have d1 : decide ((s.length : Int) > ((P - 32 : Nat) : Int)) = true := decide_eq_true (by omega)
      rw [unpack_long (by simpa using hm)]
      (try clear F); have F := true_and; repeat (first | refine w1 ?_ | refine w2 ?_ | refine w3 ?_ | refine w4 ?_ | refine w5 ?_ | refine w6 ?_ | refine w7 ?_ | refine w8 ?_ | refine w9 ?_ | refine wa ?_ | refine wb ?_ | refine wc ?_ | refine wd ?_)
      refine wh ?_; rintro b4 ⟨k_b4, o_b4⟩; (try simp only [List.map_cons, List.mem_cons, not_or] at k_b4)
      (try clear F); have F := true_and; repeat (first | refine w1 ?_ | refine w2 ?_ | refine w3 ?_ | refine w4 ?_ | refine w5 ?_ | refine w6 ?_ | refine w7 ?_ | refine w8 ?_ | refine w9 ?_ | refine wa ?_ | refine wb ?_ | refine wc ?_ | refine wd ?_)
      (first | refine we (c := by exact (c _)) (k := ?_) | refine wf (c := by exact (c _)) (k := ?_))
      (try clear F); have F := true_and; repeat (first | refine w1 ?_ | refine w2 ?_ | refine w3 ?_ | refine w4 ?_ | refine w5 ?_ | refine w6 ?_ | refine w7 ?_ | refine w8 ?_ | refine w9 ?_ | refine wa ?_ | refine wb ?_ | refine wc ?_ | refine wd ?_)
      (first | refine we (c := by exact (aMost P wd _ (by omega) (by omega))) (k := ?_) | refine wf (c := by exact (aMost P wd _ (by omega) (by omega))) (k := ?_))
      (try clear F); have F := And.intro d1 true_and; repeat (first | refine w1 ?_ | refine w2 ?_ | refine w3 ?_ | refine w4 ?_ | refine w5 ?_ | refine w6 ?_ | refine w7 ?_ | refine w8 ?_ | refine w9 ?_ | refine wa ?_ | refine wb ?_ | refine wc ?_ | refine wd ?_)
      refine enduq (by simp only [go_sem, Int.reduceEq, Int.reduceLT, Int.reduceBEq, Int.reduceBNe, Int.reduceNe, Nat.reduceLeDiff, Nat.reduceAdd, Nat.reduceSub, Nat.reduceLT, Nat.reduceEqDiff, Nat.reduceBEq, Int.reduceLE, Int.reduceToNat]; rfl) (by rfl) (Sto.Sub.refl _).cons
    · have d1 : decide ((s.length : Int) > ((P - 32 : Nat) : Int)) = false := decide_eq_false (by omega)
      have hu := unpack_loose hr hs
      have ho := looseP_ok (pg := true) (w := widN wd) hs
      obtain ⟨n, hn⟩ : ∃ n, looseP true (widN wd) s = n := ⟨_, rfl⟩
      have cl := aLoose P wd s true; rw [hn] at cl
      rw [hn] at hu ho
      rw [hu]
      obtain ⟨t, ht⟩ : ∃ t, packS P wd n = t := ⟨_, rfl⟩
      obtain ⟨k, hk⟩ : ∃ t, packE P wd n = t := ⟨_, rfl⟩
      have cp := fun S => aPack P wd n S ho
      rw [ht, hk] at cp
      rw [ht, hk]
      (try clear F); have F := true_and; repeat (first | refine w1 ?_ | refine w2 ?_ | refine w3 ?_ | refine w4 ?_ | refine w5 ?_ | refine w6 ?_ | refine w7 ?_ | refine w8 ?_ | refine w9 ?_ | refine wa ?_ | refine wb ?_ | refine wc ?_ | refine wd ?_)
      refine wh ?_; rintro b4 ⟨k_b4, o_b4⟩; (try simp only [List.map_cons, List.mem_cons, not_or] at k_b4)
      (try clear F); have F := true_and; repeat (first | refine w1 ?_ | refine w2 ?_ | refine w3 ?_ | refine w4 ?_ | refine w5 ?_ | refine w6 ?_ | refine w7 ?_ | refine w8 ?_ | refine w9 ?_ | refine wa ?_ | refine wb ?_ | refine wc ?_ | refine wd ?_)
      (first | refine we (c := by exact (c _)) (k := ?_) | refine wf (c := by exact (c _)) (k := ?_))
      (try clear F); have F := true_and; repeat (first | refine w1 ?_ | refine w2 ?_ | refine w3 ?_ | refine w4 ?_ | refine w5 ?_ | refine w6 ?_ | refine w7 ?_ | refine w8 ?_ | refine w9 ?_ | refine wa ?_ | refine wb ?_ | refine wc ?_ | refine wd ?_)
      (first | refine we (c := by exact (aMost P wd _ (by omega) (by omega))) (k := ?_) | refine wf (c := by exact (aMost P wd _ (by omega) (by omega))) (k := ?_))
      (try clear F); have F := And.intro d1 true_and; repeat (first | refine w1 ?_ | refine w2 ?_ | refine w3 ?_ | refine w4 ?_ | refine w5 ?_ | refine w6 ?_ | refine w7 ?_ | refine w8 ?_ | refine w9 ?_ | refine wa ?_ | refine wb ?_ | refine wc ?_ | refine wd ?_)
      refine wg (c := by exact (cl _ hs)) (k := ?_)
      rintro d S1 ⟨rfl, rfl⟩
      (try clear F); have F := true_and; repeat (first | refine w1 ?_ | refine w2 ?_ | refine w3 ?_ | refine w4 ?_ | refine w5 ?_ | refine w6 ?_ | refine w7 ?_ | refine w8 ?_ | refine w9 ?_ | refine wa ?_ | refine wb ?_ | refine wc ?_ | refine wd ?_)
      refine wh ?_; rintro b6 ⟨k_b6, o_b6⟩; (try simp only [List.map_cons, List.mem_cons, not_or] at k_b6)
      have hm46 := nes k_b6.1
      (try clear F); have F := And.intro hm46 (And.intro k_b6 true_and); repeat (first | refine w1 ?_ | refine w2 ?_ | refine w3 ?_ | refine w4 ?_ | refine w5 ?_ | refine w6 ?_ | refine w7 ?_ | refine w8 ?_ | refine w9 ?_ | refine wa ?_ | refine wb ?_ | refine wc ?_ | refine wd ?_)
      (first | refine we (c := by exact (cp _)) (k := ?_) | refine wf (c := by exact (cp _)) (k := ?_))
      by_cases h0 : k = 0
      · have b0 : (k == 0) = true := beq_iff_eq.2 h0
        have n0 : (k != 0) = false := by rw [bne, b0]; rfl
        by_cases h1 : t = s
        · have b1 : (t == s) = true := beq_iff_eq.2 h1
          rw [if_pos ⟨h0, h1⟩]
          (try clear F); have F := And.intro n0 (And.intro b0 (And.intro b1 (And.intro hm46 (And.intro k_b6 true_and)))); repeat (first | refine w1 ?_ | refine w2 ?_ | refine w3 ?_ | refine w4 ?_ | refine w5 ?_ | refine w6 ?_ | refine w7 ?_ | refine w8 ?_ | refine w9 ?_ | refine wa ?_ | refine wb ?_ | refine wc ?_ | refine wd ?_)
          refine enduq (by simp only [go_sem, Int.reduceEq, Int.reduceLT, Int.reduceBEq, Int.reduceBNe, Int.reduceNe, Nat.reduceLeDiff, Nat.reduceAdd, Nat.reduceSub, Nat.reduceLT, Nat.reduceEqDiff, Nat.reduceBEq, Int.reduceLE, Int.reduceToNat, hm46, k_b6]; rfl) (by rfl) (Sto.Sub.refl _).cons.cons
        · have b1 : (t == s) = false := beq_eq_false_iff_ne.2 h1
          rw [if_neg (fun h => h1 h.2)]
          (try clear F); have F := And.intro n0 (And.intro b0 (And.intro b1 (And.intro hm46 (And.intro k_b6 true_and)))); repeat (first | refine w1 ?_ | refine w2 ?_ | refine w3 ?_ | refine w4 ?_ | refine w5 ?_ | refine w6 ?_ | refine w7 ?_ | refine w8 ?_ | refine w9 ?_ | refine wa ?_ | refine wb ?_ | refine wc ?_ | refine wd ?_)
          refine enduq (by simp only [go_sem, Int.reduceEq, Int.reduceLT, Int.reduceBEq, Int.reduceBNe, Int.reduceNe, Nat.reduceLeDiff, Nat.reduceAdd, Nat.reduceSub, Nat.reduceLT, Nat.reduceEqDiff, Nat.reduceBEq, Int.reduceLE, Int.reduceToNat, hm46, k_b6]; rfl) (by rfl) (Sto.Sub.refl _).cons.cons
      · have b0 : (k == 0) = false := beq_eq_false_iff_ne.2 h0
        have n0 : (k != 0) = true := by rw [bne, b0]; rfl
        rw [if_neg (fun h => h0 h.1)]
        (try clear F); have F := And.intro n0 (And.intro b0 (And.intro hm46 (And.intro k_b6 true_and))); repeat (first | refine w1 ?_ | refine w2 ?_ | refine w3 ?_ | refine w4 ?_ | refine w5 ?_ | refine w6 ?_ | refine w7 ?_ | refine w8 ?_ | refine w9 ?_ | refine wa ?_ | refine wb ?_ | refine wc ?_ | refine wd ?_)
        refine enduq (by simp only [go_sem, Int.reduceEq, Int.reduceLT, Int.reduceBEq, Int.reduceBNe, Int.reduceNe, Nat.reduceLeDiff, Nat.reduceAdd, Nat.reduceSub, Nat.reduceLT, Nat.reduceEqDiff, Nat.reduceBEq, Int.reduceLE, Int.reduceToNat, hm46, k_b6]; rfl) (by rfl) (Sto.Sub.refl _).cons.cons

set_option maxHeartbeats 1000000 in set_option maxRecDepth 100000 in
theorem aRead (p wd : Int) (s : Bs) (S : Sto) (hs : s.length ≤ 3909374676453) :
    ACalls Tryz.prog 9 [frD p wd, sD s] S (RetQ (.tup [ndA ((readP p wd s).getD noN), iD (okE (readP p wd s) (unpackE p wd))]) S) := by
  refine acalls_of prg Tryz.func9 rfl (by kernel_rfl) (congrArg Array.toList Tryz.results9) Tryz.ntmps9 (fun B hB => ?_); simp only [List.length_cons, List.length_nil, Nat.reduceAdd, Nat.reduceSub, List.replicate_succ, List.replicate_zero, List.cons_append, List.nil_append]
  cases hr : rightB p wd
  · have e1 : unpackE p wd = 2 := by simp [unpackE, hr]
    rw [read_arg hr, e1]
    have c := aRight p wd; rw [hr] at c
    (try clear F); have F := true_and; repeat (first | refine w1 ?_ | refine w2 ?_ | refine w3 ?_ | refine w4 ?_ | refine w5 ?_ | refine w6 ?_ | refine w7 ?_ | refine w8 ?_ | refine w9 ?_ | refine wa ?_ | refine wb ?_ | refine wc ?_ | refine wd ?_)
    refine wh ?_; rintro b4 ⟨k_b4, o_b4⟩; (try simp only [List.map_cons, List.mem_cons, not_or] at k_b4)
    (try clear F); have F := true_and; repeat (first | refine w1 ?_ | refine w2 ?_ | refine w3 ?_ | refine w4 ?_ | refine w5 ?_ | refine w6 ?_ | refine w7 ?_ | refine w8 ?_ | refine w9 ?_ | refine wa ?_ | refine wb ?_ | refine wc ?_ | refine wd ?_)
    (first | refine we (c := by exact (c _)) (k := ?_) | refine wf (c := by exact (c _)) (k := ?_))
    (try clear F); have F := true_and; repeat (first | refine w1 ?_ | refine w2 ?_ | refine w3 ?_ | refine w4 ?_ | refine w5 ?_ | refine w6 ?_ | refine w7 ?_ | refine w8 ?_ | refine w9 ?_ | refine wa ?_ | refine wb ?_ | refine wc ?_ | refine wd ?_)
    refine enduq (by simp only [go_sem, Int.reduceEq, Int.reduceLT, Int.reduceBEq, Int.reduceBNe, Int.reduceNe, Nat.reduceLeDiff, Nat.reduceAdd, Nat.reduceSub, Nat.reduceLT, Nat.reduceEqDiff, Nat.reduceBEq, Int.reduceLE, Int.reduceToNat]; rfl) (by rfl) (Sto.Sub.refl _).cons
  · have hr' := rightB_iff.1 hr
    obtain ⟨P, rfl⟩ := Int.eq_ofNat_of_zero_le (show 0 ≤ p by omega)
    have e1 : unpackE P wd = 73 := by simp [unpackE, hr]
    have c := aRight P wd; rw [hr] at c
    rw [e1]
    by_cases hm : P - 32 < s.length
    · have d1 : decide ((s.length : Int) > ((P - 32 : Nat) : Int)) = true := decide_eq_true (by omega)
      rw [read_long (by simpa using hm)]
      (try clear F); have F := true_and; repeat (first | refine w1 ?_ | refine w2 ?_ | refine w3 ?_ | refine w4 ?_ | refine w5 ?_ | refine w6 ?_ | refine w7 ?_ | refine w8 ?_ | refine w9 ?_ | refine wa ?_ | refine wb ?_ | refine wc ?_ | refine wd ?_)
      refine wh ?_; rintro b4 ⟨k_b4, o_b4⟩; (try simp only [List.map_cons, List.mem_cons, not_or] at k_b4)
      (try clear F); have F := true_and; repeat (first | refine w1 ?_ | refine w2 ?_ | refine w3 ?_ | refine w4 ?_ | refine w5 ?_ | refine w6 ?_ | refine w7 ?_ | refine w8 ?_ | refine w9 ?_ | refine wa ?_ | refine wb ?_ | refine wc ?_ | refine wd ?_)
      (first | refine we (c := by exact (c _)) (k := ?_) | refine wf (c := by exact (c _)) (k := ?_))
      (try clear F); have F := true_and; repeat (first | refine w1 ?_ | refine w2 ?_ | refine w3 ?_ | refine w4 ?_ | refine w5 ?_ | refine w6 ?_ | refine w7 ?_ | refine w8 ?_ | refine w9 ?_ | refine wa ?_ | refine wb ?_ | refine wc ?_ | refine wd ?_)
      (first | refine we (c := by exact (aMost P wd _ (by omega) (by omega))) (k := ?_) | refine wf (c := by exact (aMost P wd _ (by omega) (by omega))) (k := ?_))
      (try clear F); have F := And.intro d1 true_and; repeat (first | refine w1 ?_ | refine w2 ?_ | refine w3 ?_ | refine w4 ?_ | refine w5 ?_ | refine w6 ?_ | refine w7 ?_ | refine w8 ?_ | refine w9 ?_ | refine wa ?_ | refine wb ?_ | refine wc ?_ | refine wd ?_)
      refine enduq (by simp only [go_sem, Int.reduceEq, Int.reduceLT, Int.reduceBEq, Int.reduceBNe, Int.reduceNe, Nat.reduceLeDiff, Nat.reduceAdd, Nat.reduceSub, Nat.reduceLT, Nat.reduceEqDiff, Nat.reduceBEq, Int.reduceLE, Int.reduceToNat]; rfl) (by rfl) (Sto.Sub.refl _).cons
    · have d1 : decide ((s.length : Int) > ((P - 32 : Nat) : Int)) = false := decide_eq_false (by omega)
      have hu := read_loose hr hs
      have ho := looseP_ok (pg := false) (w := widN wd) hs
      obtain ⟨n, hn⟩ : ∃ n, looseP false (widN wd) s = n := ⟨_, rfl⟩
      have cl := aLoose P wd s false; rw [hn] at cl
      rw [hn] at hu ho
      rw [hu]
      obtain ⟨t, ht⟩ : ∃ t, plainS P wd n = t := ⟨_, rfl⟩
      obtain ⟨k, hk⟩ : ∃ t, mayE P wd n = t := ⟨_, rfl⟩
      have cp := fun S => aPlain P wd n S ho
      rw [ht, hk] at cp
      rw [ht, hk]
      (try clear F); have F := true_and; repeat (first | refine w1 ?_ | refine w2 ?_ | refine w3 ?_ | refine w4 ?_ | refine w5 ?_ | refine w6 ?_ | refine w7 ?_ | refine w8 ?_ | refine w9 ?_ | refine wa ?_ | refine wb ?_ | refine wc ?_ | refine wd ?_)
      refine wh ?_; rintro b4 ⟨k_b4, o_b4⟩; (try simp only [List.map_cons, List.mem_cons, not_or] at k_b4)
      (try clear F); have F := true_and; repeat (first | refine w1 ?_ | refine w2 ?_ | refine w3 ?_ | refine w4 ?_ | refine w5 ?_ | refine w6 ?_ | refine w7 ?_ | refine w8 ?_ | refine w9 ?_ | refine wa ?_ | refine wb ?_ | refine wc ?_ | refine wd ?_)
      (first | refine we (c := by exact (c _)) (k := ?_) | refine wf (c := by exact (c _)) (k := ?_))
      (try clear F); have F := true_and; repeat (first | refine w1 ?_ | refine w2 ?_ | refine w3 ?_ | refine w4 ?_ | refine w5 ?_ | refine w6 ?_ | refine w7 ?_ | refine w8 ?_ | refine w9 ?_ | refine wa ?_ | refine wb ?_ | refine wc ?_ | refine wd ?_)
      (first | refine we (c := by exact (aMost P wd _ (by omega) (by omega))) (k := ?_) | refine wf (c := by exact (aMost P wd _ (by omega) (by omega))) (k := ?_))
      (try clear F); have F := And.intro d1 true_and; repeat (first | refine w1 ?_ | refine w2 ?_ | refine w3 ?_ | refine w4 ?_ | refine w5 ?_ | refine w6 ?_ | refine w7 ?_ | refine w8 ?_ | refine w9 ?_ | refine wa ?_ | refine wb ?_ | refine wc ?_ | refine wd ?_)
      refine wg (c := by exact (cl _ hs)) (k := ?_)
      rintro d S1 ⟨rfl, rfl⟩
      (try clear F); have F := true_and; repeat (first | refine w1 ?_ | refine w2 ?_ | refine w3 ?_ | refine w4 ?_ | refine w5 ?_ | refine w6 ?_ | refine w7 ?_ | refine w8 ?_ | refine w9 ?_ | refine wa ?_ | refine wb ?_ | refine wc ?_ | refine wd ?_)
      refine wh ?_; rintro b6 ⟨k_b6, o_b6⟩; (try simp only [List.map_cons, List.mem_cons, not_or] at k_b6)
      have hm46 := nes k_b6.1
      (try clear F); have F := And.intro hm46 (And.intro k_b6 true_and); repeat (first | refine w1 ?_ | refine w2 ?_ | refine w3 ?_ | refine w4 ?_ | refine w5 ?_ | refine w6 ?_ | refine w7 ?_ | refine w8 ?_ | refine w9 ?_ | refine wa ?_ | refine wb ?_ | refine wc ?_ | refine wd ?_)
      (first | refine we (c := by exact (cp _)) (k := ?_) | refine wf (c := by exact (cp _)) (k := ?_))
      by_cases h0 : k = 0
      · have b0 : (k == 0) = true := beq_iff_eq.2 h0
        have n0 : (k != 0) = false := by rw [bne, b0]; rfl
        by_cases h1 : t = s
        · have b1 : (t == s) = true := beq_iff_eq.2 h1
          rw [if_pos ⟨h0, h1⟩]
          (try clear F); have F := And.intro n0 (And.intro b0 (And.intro b1 (And.intro hm46 (And.intro k_b6 true_and)))); repeat (first | refine w1 ?_ | refine w2 ?_ | refine w3 ?_ | refine w4 ?_ | refine w5 ?_ | refine w6 ?_ | refine w7 ?_ | refine w8 ?_ | refine w9 ?_ | refine wa ?_ | refine wb ?_ | refine wc ?_ | refine wd ?_)
          refine enduq (by simp only [go_sem, Int.reduceEq, Int.reduceLT, Int.reduceBEq, Int.reduceBNe, Int.reduceNe, Nat.reduceLeDiff, Nat.reduceAdd, Nat.reduceSub, Nat.reduceLT, Nat.reduceEqDiff, Nat.reduceBEq, Int.reduceLE, Int.reduceToNat, hm46, k_b6]; rfl) (by rfl) (Sto.Sub.refl _).cons.cons
        · have b1 : (t == s) = false := beq_eq_false_iff_ne.2 h1
          rw [if_neg (fun h => h1 h.2)]
          (try clear F); have F := And.intro n0 (And.intro b0 (And.intro b1 (And.intro hm46 (And.intro k_b6 true_and)))); repeat (first | refine w1 ?_ | refine w2 ?_ | refine w3 ?_ | refine w4 ?_ | refine w5 ?_ | refine w6 ?_ | refine w7 ?_ | refine w8 ?_ | refine w9 ?_ | refine wa ?_ | refine wb ?_ | refine wc ?_ | refine wd ?_)
          refine enduq (by simp only [go_sem, Int.reduceEq, Int.reduceLT, Int.reduceBEq, Int.reduceBNe, Int.reduceNe, Nat.reduceLeDiff, Nat.reduceAdd, Nat.reduceSub, Nat.reduceLT, Nat.reduceEqDiff, Nat.reduceBEq, Int.reduceLE, Int.reduceToNat, hm46, k_b6]; rfl) (by rfl) (Sto.Sub.refl _).cons.cons
      · have b0 : (k == 0) = false := beq_eq_false_iff_ne.2 h0
        have n0 : (k != 0) = true := by rw [bne, b0]; rfl
        rw [if_neg (fun h => h0 h.1)]
        (try clear F); have F := And.intro n0 (And.intro b0 (And.intro hm46 (And.intro k_b6 true_and))); repeat (first | refine w1 ?_ | refine w2 ?_ | refine w3 ?_ | refine w4 ?_ | refine w5 ?_ | refine w6 ?_ | refine w7 ?_ | refine w8 ?_ | refine w9 ?_ | refine wa ?_ | refine wb ?_ | refine wc ?_ | refine wd ?_)
        refine enduq (by simp only [go_sem, Int.reduceEq, Int.reduceLT, Int.reduceBEq, Int.reduceBNe, Int.reduceNe, Nat.reduceLeDiff, Nat.reduceAdd, Nat.reduceSub, Nat.reduceLT, Nat.reduceEqDiff, Nat.reduceBEq, Int.reduceLE, Int.reduceToNat, hm46, k_b6]; rfl) (by rfl) (Sto.Sub.refl _).cons.cons

end Go.Proofs.YtemicgccgcmmbaaGreat
