/- The document's reader: digests, texts, counts (values without addresses). -/
import Derived.Test.YtemicgccgcmmbaaGreatZ9
import Derived.Test.YtemicgccgcmmbaaGreatZ4
import Derived.Test.YtemicgccgcmmbaaGreatZ1
namespace Go.Proofs.YtemicgccgcmmbaaGreat
set_option linter.unusedVariables false
set_option linter.unusedSimpArgs false
open Go Go.RowKit

/-- A width brought into 0 to 32. -/
def widN (w : Int) : Nat := if w < 0 then 0 else if 32 < w then 32 else w.toNat

set_option maxHeartbeats 1000000 in set_option maxRecDepth 100000 in
theorem aWidth (w : Int) (S : Sto) : ACalls Tryz.prog 119 [iD w] S (RetQ (iD (widN w : Nat)) S) := by
  refine acalls_of prg Tryz.func119 rfl (by kernel_rfl) (congrArg Array.toList Tryz.results119) Tryz.ntmps119 (fun B hB => ?_); simp only [List.length_cons, List.length_nil, Nat.reduceAdd, Nat.reduceSub, List.replicate_succ, List.replicate_zero, List.cons_append, List.nil_append]
  by_cases h1 : w < 0
  · have d1 : decide (w < 0) = true := decide_eq_true h1
    have e : widN w = 0 := by unfold widN; rw [if_pos h1]
    rw [e]
    repeat (first | ((first | apply AOps.goP prg | apply ALex.goP prg); (case run => simp only [go_sem, Int.reduceEq, Int.reduceLT, Int.reduceBEq, Int.reduceBNe, Int.reduceNe, Nat.reduceLeDiff, Nat.reduceAdd, Nat.reduceSub, Nat.reduceLT, Nat.reduceEqDiff, Nat.reduceBEq, Int.reduceLE, Int.reduceToNat, d1]; rfl); (case mm => simp only [go_sem, Int.reduceEq, Int.reduceLT, Int.reduceBEq, Int.reduceBNe, Int.reduceNe, Nat.reduceLeDiff, Nat.reduceAdd, Nat.reduceSub, Nat.reduceLT, Nat.reduceEqDiff, Nat.reduceBEq, Int.reduceLE, Int.reduceToNat]; rfl); (case pr => rfl)) | (refine AW.seq ?_) | (refine AW.region ?_) | (refine AW.draw prg (by kernel_rfl) ?_) | (refine AOps.nil ?_; try dsimp only [AX.then, AX.inBlock]) | (refine ALex.nil ?_; try dsimp only [AX.then, AX.inBlock]) | (refine AW.condT (by rfl) ?_) | (refine AW.condF (by rfl) ?_) | (refine AW.skip ?_; try dsimp only [AX.then, AX.inBlock]) | (refine AW.ret ?_; try dsimp only [AX.then, AX.inBlock]) | (refine AW.block ?_) | (refine AW.exit ?_; simp only [AX.then, AX.inBlock, if_true, Nat.reduceEqDiff, if_false]))
    first | exact endq (by simp only [go_sem, Int.reduceEq, Int.reduceLT, Int.reduceBEq, Int.reduceBNe, Int.reduceNe, Nat.reduceLeDiff, Nat.reduceAdd, Nat.reduceSub, Nat.reduceLT, Nat.reduceEqDiff, Nat.reduceBEq, Int.reduceLE, Int.reduceToNat]; rfl) (by rfl) (Sto.Sub.refl _) | exact endn (by simp only [go_sem, Int.reduceEq, Int.reduceLT, Int.reduceBEq, Int.reduceBNe, Int.reduceNe, Nat.reduceLeDiff, Nat.reduceAdd, Nat.reduceSub, Nat.reduceLT, Nat.reduceEqDiff, Nat.reduceBEq, Int.reduceLE, Int.reduceToNat]; rfl) (by rfl) (Sto.Sub.refl _)
  · have d1 : decide (w < 0) = false := decide_eq_false h1
    by_cases h2 : 32 < w
    · have d2 : decide (w > 32) = true := decide_eq_true h2
      have e : widN w = 32 := by unfold widN; rw [if_neg h1, if_pos h2]
      rw [e]
      repeat (first | ((first | apply AOps.goP prg | apply ALex.goP prg); (case run => simp only [go_sem, Int.reduceEq, Int.reduceLT, Int.reduceBEq, Int.reduceBNe, Int.reduceNe, Nat.reduceLeDiff, Nat.reduceAdd, Nat.reduceSub, Nat.reduceLT, Nat.reduceEqDiff, Nat.reduceBEq, Int.reduceLE, Int.reduceToNat, d1, d2]; rfl); (case mm => simp only [go_sem, Int.reduceEq, Int.reduceLT, Int.reduceBEq, Int.reduceBNe, Int.reduceNe, Nat.reduceLeDiff, Nat.reduceAdd, Nat.reduceSub, Nat.reduceLT, Nat.reduceEqDiff, Nat.reduceBEq, Int.reduceLE, Int.reduceToNat]; rfl); (case pr => rfl)) | (refine AW.seq ?_) | (refine AW.region ?_) | (refine AW.draw prg (by kernel_rfl) ?_) | (refine AOps.nil ?_; try dsimp only [AX.then, AX.inBlock]) | (refine ALex.nil ?_; try dsimp only [AX.then, AX.inBlock]) | (refine AW.condT (by rfl) ?_) | (refine AW.condF (by rfl) ?_) | (refine AW.skip ?_; try dsimp only [AX.then, AX.inBlock]) | (refine AW.ret ?_; try dsimp only [AX.then, AX.inBlock]) | (refine AW.block ?_) | (refine AW.exit ?_; simp only [AX.then, AX.inBlock, if_true, Nat.reduceEqDiff, if_false]))
      first | exact endq (by simp only [go_sem, Int.reduceEq, Int.reduceLT, Int.reduceBEq, Int.reduceBNe, Int.reduceNe, Nat.reduceLeDiff, Nat.reduceAdd, Nat.reduceSub, Nat.reduceLT, Nat.reduceEqDiff, Nat.reduceBEq, Int.reduceLE, Int.reduceToNat]; rfl) (by rfl) (Sto.Sub.refl _) | exact endn (by simp only [go_sem, Int.reduceEq, Int.reduceLT, Int.reduceBEq, Int.reduceBNe, Int.reduceNe, Nat.reduceLeDiff, Nat.reduceAdd, Nat.reduceSub, Nat.reduceLT, Nat.reduceEqDiff, Nat.reduceBEq, Int.reduceLE, Int.reduceToNat]; rfl) (by rfl) (Sto.Sub.refl _)
    · have d2 : decide (w > 32) = false := decide_eq_false h2
      have e : ((widN w : Nat) : Int) = w := by unfold widN; rw [if_neg h1, if_neg h2]; omega
      rw [e]
      repeat (first | ((first | apply AOps.goP prg | apply ALex.goP prg); (case run => simp only [go_sem, Int.reduceEq, Int.reduceLT, Int.reduceBEq, Int.reduceBNe, Int.reduceNe, Nat.reduceLeDiff, Nat.reduceAdd, Nat.reduceSub, Nat.reduceLT, Nat.reduceEqDiff, Nat.reduceBEq, Int.reduceLE, Int.reduceToNat, d1, d2]; rfl); (case mm => simp only [go_sem, Int.reduceEq, Int.reduceLT, Int.reduceBEq, Int.reduceBNe, Int.reduceNe, Nat.reduceLeDiff, Nat.reduceAdd, Nat.reduceSub, Nat.reduceLT, Nat.reduceEqDiff, Nat.reduceBEq, Int.reduceLE, Int.reduceToNat]; rfl); (case pr => rfl)) | (refine AW.seq ?_) | (refine AW.region ?_) | (refine AW.draw prg (by kernel_rfl) ?_) | (refine AOps.nil ?_; try dsimp only [AX.then, AX.inBlock]) | (refine ALex.nil ?_; try dsimp only [AX.then, AX.inBlock]) | (refine AW.condT (by rfl) ?_) | (refine AW.condF (by rfl) ?_) | (refine AW.skip ?_; try dsimp only [AX.then, AX.inBlock]) | (refine AW.ret ?_; try dsimp only [AX.then, AX.inBlock]) | (refine AW.block ?_) | (refine AW.exit ?_; simp only [AX.then, AX.inBlock, if_true, Nat.reduceEqDiff, if_false]))
      first | exact endq (by simp only [go_sem, Int.reduceEq, Int.reduceLT, Int.reduceBEq, Int.reduceBNe, Int.reduceNe, Nat.reduceLeDiff, Nat.reduceAdd, Nat.reduceSub, Nat.reduceLT, Nat.reduceEqDiff, Nat.reduceBEq, Int.reduceLE, Int.reduceToNat]; rfl) (by rfl) (Sto.Sub.refl _) | exact endn (by simp only [go_sem, Int.reduceEq, Int.reduceLT, Int.reduceBEq, Int.reduceBNe, Int.reduceNe, Nat.reduceLeDiff, Nat.reduceAdd, Nat.reduceSub, Nat.reduceLT, Nat.reduceEqDiff, Nat.reduceBEq, Int.reduceLE, Int.reduceToNat]; rfl) (by rfl) (Sto.Sub.refl _)

set_option maxHeartbeats 1000000 in set_option maxRecDepth 100000 in
theorem aBound (m : Nat) (S : Sto) (hm : m ≤ 9223372036854775807) : ACalls Tryz.prog 117 [iD m] S (RetQ (uD m) S) := by
  have d1 : decide ((m : Int) < 0) = false := decide_eq_false (by omega)
  have f1 : IntKind.u64.wrap (m : Int) = m := by rw [IntKind.wrap_u64]; omega
  refine acalls_of prg Tryz.func117 rfl (by kernel_rfl) (congrArg Array.toList Tryz.results117) Tryz.ntmps117 (fun B hB => ?_); simp only [List.length_cons, List.length_nil, Nat.reduceAdd, Nat.reduceSub, List.replicate_succ, List.replicate_zero, List.cons_append, List.nil_append]
  repeat (first | ((first | apply AOps.goP prg | apply ALex.goP prg); (case run => simp only [go_sem, Int.reduceEq, Int.reduceLT, Int.reduceBEq, Int.reduceBNe, Int.reduceNe, Nat.reduceLeDiff, Nat.reduceAdd, Nat.reduceSub, Nat.reduceLT, Nat.reduceEqDiff, Nat.reduceBEq, Int.reduceLE, Int.reduceToNat, d1, f1]; rfl); (case mm => simp only [go_sem, Int.reduceEq, Int.reduceLT, Int.reduceBEq, Int.reduceBNe, Int.reduceNe, Nat.reduceLeDiff, Nat.reduceAdd, Nat.reduceSub, Nat.reduceLT, Nat.reduceEqDiff, Nat.reduceBEq, Int.reduceLE, Int.reduceToNat]; rfl); (case pr => rfl)) | (refine AW.seq ?_) | (refine AW.region ?_) | (refine AW.draw prg (by kernel_rfl) ?_) | (refine AOps.nil ?_; try dsimp only [AX.then, AX.inBlock]) | (refine ALex.nil ?_; try dsimp only [AX.then, AX.inBlock]) | (refine AW.condT (by rfl) ?_) | (refine AW.condF (by rfl) ?_) | (refine AW.skip ?_; try dsimp only [AX.then, AX.inBlock]) | (refine AW.ret ?_; try dsimp only [AX.then, AX.inBlock]) | (refine AW.block ?_) | (refine AW.exit ?_; simp only [AX.then, AX.inBlock, if_true, Nat.reduceEqDiff, if_false]))
  first | exact endq (by simp only [go_sem, Int.reduceEq, Int.reduceLT, Int.reduceBEq, Int.reduceBNe, Int.reduceNe, Nat.reduceLeDiff, Nat.reduceAdd, Nat.reduceSub, Nat.reduceLT, Nat.reduceEqDiff, Nat.reduceBEq, Int.reduceLE, Int.reduceToNat]; rfl) (by rfl) (Sto.Sub.refl _) | exact endn (by simp only [go_sem, Int.reduceEq, Int.reduceLT, Int.reduceBEq, Int.reduceBNe, Int.reduceNe, Nat.reduceLeDiff, Nat.reduceAdd, Nat.reduceSub, Nat.reduceLT, Nat.reduceEqDiff, Nat.reduceBEq, Int.reduceLE, Int.reduceToNat]; rfl) (by rfl) (Sto.Sub.refl _)

set_option maxHeartbeats 1000000 in set_option maxRecDepth 100000 in
theorem aText (b m : Nat) (s : Bs) (o : Option Bs) (S : Sto) (h : RrSt S b s o) (hs : s.length ≤ 140737488351232) (hm : m ≤ 9223372036854775807) :
    ACalls Tryz.prog 76 [pD b, iD m] S (fun e S' => ∃ d, e = .ret d ∧ d = sD (gv (textP m) [] o) ∧ RrTo S b s (gr (textP m) o) S') := by
  have h0 := h
  obtain ⟨t, p, c, hb, hr⟩ := h
  refine acalls_of prg Tryz.func76 rfl (by kernel_rfl) (congrArg Array.toList Tryz.results76) Tryz.ntmps76 (fun B hB => ?_); simp only [List.length_cons, List.length_nil, Nat.reduceAdd, Nat.reduceSub, List.replicate_succ, List.replicate_zero, List.cons_append, List.nil_append]
  repeat (first | ((first | apply AOps.goP prg | apply ALex.goP prg); (case run => simp only [go_sem, Int.reduceEq, Int.reduceLT, Int.reduceBEq, Int.reduceBNe, Int.reduceNe, Nat.reduceLeDiff, Nat.reduceAdd, Nat.reduceSub, Nat.reduceLT, Nat.reduceEqDiff, Nat.reduceBEq, Int.reduceLE, Int.reduceToNat, hb]; rfl); (case mm => simp only [go_sem, Int.reduceEq, Int.reduceLT, Int.reduceBEq, Int.reduceBNe, Int.reduceNe, Nat.reduceLeDiff, Nat.reduceAdd, Nat.reduceSub, Nat.reduceLT, Nat.reduceEqDiff, Nat.reduceBEq, Int.reduceLE, Int.reduceToNat]; rfl); (case pr => rfl)) | (refine AW.seq ?_) | (refine AW.region ?_) | (refine AW.draw prg (by kernel_rfl) ?_) | (refine AOps.nil ?_; try dsimp only [AX.then, AX.inBlock]) | (refine ALex.nil ?_; try dsimp only [AX.then, AX.inBlock]) | (refine AW.condT (by rfl) ?_) | (refine AW.condF (by rfl) ?_) | (refine AW.skip ?_; try dsimp only [AX.then, AX.inBlock]) | (refine AW.ret ?_; try dsimp only [AX.then, AX.inBlock]) | (refine AW.block ?_) | (refine AW.exit ?_; simp only [AX.then, AX.inBlock, if_true, Nat.reduceEqDiff, if_false]))
  (first | refine AOps.callq (by rfl) (by rfl) (by exact (aBound m S hm)) ?_ | refine ALex.callq (by rfl) (by rfl) (by exact (aBound m S hm)) ?_)
  repeat (first | ((first | apply AOps.goP prg | apply ALex.goP prg); (case run => simp only [go_sem, Int.reduceEq, Int.reduceLT, Int.reduceBEq, Int.reduceBNe, Int.reduceNe, Nat.reduceLeDiff, Nat.reduceAdd, Nat.reduceSub, Nat.reduceLT, Nat.reduceEqDiff, Nat.reduceBEq, Int.reduceLE, Int.reduceToNat]; rfl); (case mm => simp only [go_sem, Int.reduceEq, Int.reduceLT, Int.reduceBEq, Int.reduceBNe, Int.reduceNe, Nat.reduceLeDiff, Nat.reduceAdd, Nat.reduceSub, Nat.reduceLT, Nat.reduceEqDiff, Nat.reduceBEq, Int.reduceLE, Int.reduceToNat]; rfl); (case pr => rfl)) | (refine AW.seq ?_) | (refine AW.region ?_) | (refine AW.draw prg (by kernel_rfl) ?_) | (refine AOps.nil ?_; try dsimp only [AX.then, AX.inBlock]) | (refine ALex.nil ?_; try dsimp only [AX.then, AX.inBlock]) | (refine AW.condT (by rfl) ?_) | (refine AW.condF (by rfl) ?_) | (refine AW.skip ?_; try dsimp only [AX.then, AX.inBlock]) | (refine AW.ret ?_; try dsimp only [AX.then, AX.inBlock]) | (refine AW.block ?_) | (refine AW.exit ?_; simp only [AX.then, AX.inBlock, if_true, Nat.reduceEqDiff, if_false]))
  refine AOps.callx (by rfl) (by rfl) (by exact (aFree b m s o S h0 hs (by omega))) ?_
  rintro d S1 ⟨rfl, hS1⟩
  have h1 := hS1.st h0
  obtain ⟨t1, p1, c1, hb1, hr1⟩ := h1
  cases o with
  | none =>
    have hn : gr (freeP m) none = none := rfl
    rw [hn] at hr1 hS1
    obtain ⟨hc, k, hp, hk⟩ := hr1
    have d1 : (c1 != 0) = true := by simpa using hc
    repeat (first | ((first | apply AOps.goP prg | apply ALex.goP prg); (case run => simp only [go_sem, Int.reduceEq, Int.reduceLT, Int.reduceBEq, Int.reduceBNe, Int.reduceNe, Nat.reduceLeDiff, Nat.reduceAdd, Nat.reduceSub, Nat.reduceLT, Nat.reduceEqDiff, Nat.reduceBEq, Int.reduceLE, Int.reduceToNat, hb1, d1]; rfl); (case mm => simp only [go_sem, Int.reduceEq, Int.reduceLT, Int.reduceBEq, Int.reduceBNe, Int.reduceNe, Nat.reduceLeDiff, Nat.reduceAdd, Nat.reduceSub, Nat.reduceLT, Nat.reduceEqDiff, Nat.reduceBEq, Int.reduceLE, Int.reduceToNat]; rfl); (case pr => rfl)) | (refine AW.seq ?_) | (refine AW.region ?_) | (refine AW.draw prg (by kernel_rfl) ?_) | (refine AOps.nil ?_; try dsimp only [AX.then, AX.inBlock]) | (refine ALex.nil ?_; try dsimp only [AX.then, AX.inBlock]) | (refine AW.condT (by rfl) ?_) | (refine AW.condF (by rfl) ?_) | (refine AW.skip ?_; try dsimp only [AX.then, AX.inBlock]) | (refine AW.ret ?_; try dsimp only [AX.then, AX.inBlock]) | (refine AW.block ?_) | (refine AW.exit ?_; simp only [AX.then, AX.inBlock, if_true, Nat.reduceEqDiff, if_false]))
    first | refine endx (by simp only [go_sem, Int.reduceEq, Int.reduceLT, Int.reduceBEq, Int.reduceBNe, Int.reduceNe, Nat.reduceLeDiff, Nat.reduceAdd, Nat.reduceSub, Nat.reduceLT, Nat.reduceEqDiff, Nat.reduceBEq, Int.reduceLE, Int.reduceToNat]; rfl) (by simp only [go_sem, Int.reduceEq, Int.reduceLT, Int.reduceBEq, Int.reduceBNe, Int.reduceNe, Nat.reduceLeDiff, Nat.reduceAdd, Nat.reduceSub, Nat.reduceLT, Nat.reduceEqDiff, Nat.reduceBEq, Int.reduceLE, Int.reduceToNat]; rfl) (Sto.Sub.refl _) ?_ | refine endnx (by simp only [go_sem, Int.reduceEq, Int.reduceLT, Int.reduceBEq, Int.reduceBNe, Int.reduceNe, Nat.reduceLeDiff, Nat.reduceAdd, Nat.reduceSub, Nat.reduceLT, Nat.reduceEqDiff, Nat.reduceBEq, Int.reduceLE, Int.reduceToNat]; rfl) (by simp only [go_sem, Int.reduceEq, Int.reduceLT, Int.reduceBEq, Int.reduceBNe, Int.reduceNe, Nat.reduceLeDiff, Nat.reduceAdd, Nat.reduceSub, Nat.reduceLT, Nat.reduceEqDiff, Nat.reduceBEq, Int.reduceLE, Int.reduceToNat]; rfl) (Sto.Sub.refl _) ?_
    exact ⟨rfl, hS1⟩
  | some l =>
    obtain ⟨rfl, k, rfl, hk, hl⟩ := hr
    cases hf : freeP m l with
    | none =>
      have e2 : textP m l = none := by unfold textP; rw [hf]
      rw [gr_none hf] at hr1 hS1
      obtain ⟨hc, k1, hp, hk1⟩ := hr1
      have d1 : (c1 != 0) = true := by simpa using hc
      repeat (first | ((first | apply AOps.goP prg | apply ALex.goP prg); (case run => simp only [go_sem, Int.reduceEq, Int.reduceLT, Int.reduceBEq, Int.reduceBNe, Int.reduceNe, Nat.reduceLeDiff, Nat.reduceAdd, Nat.reduceSub, Nat.reduceLT, Nat.reduceEqDiff, Nat.reduceBEq, Int.reduceLE, Int.reduceToNat, hb1, d1]; rfl); (case mm => simp only [go_sem, Int.reduceEq, Int.reduceLT, Int.reduceBEq, Int.reduceBNe, Int.reduceNe, Nat.reduceLeDiff, Nat.reduceAdd, Nat.reduceSub, Nat.reduceLT, Nat.reduceEqDiff, Nat.reduceBEq, Int.reduceLE, Int.reduceToNat]; rfl); (case pr => rfl)) | (refine AW.seq ?_) | (refine AW.region ?_) | (refine AW.draw prg (by kernel_rfl) ?_) | (refine AOps.nil ?_; try dsimp only [AX.then, AX.inBlock]) | (refine ALex.nil ?_; try dsimp only [AX.then, AX.inBlock]) | (refine AW.condT (by rfl) ?_) | (refine AW.condF (by rfl) ?_) | (refine AW.skip ?_; try dsimp only [AX.then, AX.inBlock]) | (refine AW.ret ?_; try dsimp only [AX.then, AX.inBlock]) | (refine AW.block ?_) | (refine AW.exit ?_; simp only [AX.then, AX.inBlock, if_true, Nat.reduceEqDiff, if_false]))
      first | refine endx (by simp only [go_sem, Int.reduceEq, Int.reduceLT, Int.reduceBEq, Int.reduceBNe, Int.reduceNe, Nat.reduceLeDiff, Nat.reduceAdd, Nat.reduceSub, Nat.reduceLT, Nat.reduceEqDiff, Nat.reduceBEq, Int.reduceLE, Int.reduceToNat]; rfl) (by simp only [go_sem, Int.reduceEq, Int.reduceLT, Int.reduceBEq, Int.reduceBNe, Int.reduceNe, Nat.reduceLeDiff, Nat.reduceAdd, Nat.reduceSub, Nat.reduceLT, Nat.reduceEqDiff, Nat.reduceBEq, Int.reduceLE, Int.reduceToNat]; rfl) (Sto.Sub.refl _) ?_ | refine endnx (by simp only [go_sem, Int.reduceEq, Int.reduceLT, Int.reduceBEq, Int.reduceBNe, Int.reduceNe, Nat.reduceLeDiff, Nat.reduceAdd, Nat.reduceSub, Nat.reduceLT, Nat.reduceEqDiff, Nat.reduceBEq, Int.reduceLE, Int.reduceToNat]; rfl) (by simp only [go_sem, Int.reduceEq, Int.reduceLT, Int.reduceBEq, Int.reduceBNe, Int.reduceNe, Nat.reduceLeDiff, Nat.reduceAdd, Nat.reduceSub, Nat.reduceLT, Nat.reduceEqDiff, Nat.reduceBEq, Int.reduceLE, Int.reduceToNat]; rfl) (Sto.Sub.refl _) ?_
      rw [gv_none e2, gr_none e2]
      exact ⟨rfl, hS1⟩
    | some r =>
      obtain ⟨n, l'⟩ := r
      have e2 : textP m l = rawP n l' := by unfold textP; rw [hf]
      have hnm := (freeP_rest hf).2.2
      rw [gr_some hf] at hr1 hS1
      rw [gv_some hf]
      have hst : RrSt S1 b s (some l') := ⟨t1, p1, c1, hb1, hr1⟩
      obtain ⟨rfl, k1, rfl, hk1, hl1⟩ := hr1
      have d1 : ((0 : Int) != 0) = false := rfl
      have f1 : IntKind.u64.wrap ((s.length : Int) - k1) = ((l'.length : Nat) : Int) := by rw [IntKind.wrap_u64]; omega
      repeat (first | ((first | apply AOps.goP prg | apply ALex.goP prg); (case run => simp only [go_sem, Int.reduceEq, Int.reduceLT, Int.reduceBEq, Int.reduceBNe, Int.reduceNe, Nat.reduceLeDiff, Nat.reduceAdd, Nat.reduceSub, Nat.reduceLT, Nat.reduceEqDiff, Nat.reduceBEq, Int.reduceLE, Int.reduceToNat, hb1, d1]; rfl); (case mm => simp only [go_sem, Int.reduceEq, Int.reduceLT, Int.reduceBEq, Int.reduceBNe, Int.reduceNe, Nat.reduceLeDiff, Nat.reduceAdd, Nat.reduceSub, Nat.reduceLT, Nat.reduceEqDiff, Nat.reduceBEq, Int.reduceLE, Int.reduceToNat]; rfl); (case pr => rfl)) | (refine AW.seq ?_) | (refine AW.region ?_) | (refine AW.draw prg (by kernel_rfl) ?_) | (refine AOps.nil ?_; try dsimp only [AX.then, AX.inBlock]) | (refine ALex.nil ?_; try dsimp only [AX.then, AX.inBlock]) | (refine AW.condT (by rfl) ?_) | (refine AW.condF (by rfl) ?_) | (refine AW.skip ?_; try dsimp only [AX.then, AX.inBlock]) | (refine AW.ret ?_; try dsimp only [AX.then, AX.inBlock]) | (refine AW.block ?_) | (refine AW.exit ?_; simp only [AX.then, AX.inBlock, if_true, Nat.reduceEqDiff, if_false]))
      (first | refine AOps.callq (by rfl) (by rfl) (by exact (aLeft b s k1 0 S1 t1 hb1 (by omega) (by omega) hs)) ?_ | refine ALex.callq (by rfl) (by rfl) (by exact (aLeft b s k1 0 S1 t1 hb1 (by omega) (by omega) hs)) ?_)
      by_cases hle : n ≤ l'.length
      · have d2 : decide ((n : Int) > ((l'.length : Nat) : Int)) = false := decide_eq_false (by omega)
        have f2 : IntKind.i64.wrap (n : Int) = n := IntWalk.i64_in _ (by omega)
        repeat (first | ((first | apply AOps.goP prg | apply ALex.goP prg); (case run => simp only [go_sem, Int.reduceEq, Int.reduceLT, Int.reduceBEq, Int.reduceBNe, Int.reduceNe, Nat.reduceLeDiff, Nat.reduceAdd, Nat.reduceSub, Nat.reduceLT, Nat.reduceEqDiff, Nat.reduceBEq, Int.reduceLE, Int.reduceToNat, hb1, f1, d2, f2]; rfl); (case mm => simp only [go_sem, Int.reduceEq, Int.reduceLT, Int.reduceBEq, Int.reduceBNe, Int.reduceNe, Nat.reduceLeDiff, Nat.reduceAdd, Nat.reduceSub, Nat.reduceLT, Nat.reduceEqDiff, Nat.reduceBEq, Int.reduceLE, Int.reduceToNat]; rfl); (case pr => rfl)) | (refine AW.seq ?_) | (refine AW.region ?_) | (refine AW.draw prg (by kernel_rfl) ?_) | (refine AOps.nil ?_; try dsimp only [AX.then, AX.inBlock]) | (refine ALex.nil ?_; try dsimp only [AX.then, AX.inBlock]) | (refine AW.condT (by rfl) ?_) | (refine AW.condF (by rfl) ?_) | (refine AW.skip ?_; try dsimp only [AX.then, AX.inBlock]) | (refine AW.ret ?_; try dsimp only [AX.then, AX.inBlock]) | (refine AW.block ?_) | (refine AW.exit ?_; simp only [AX.then, AX.inBlock, if_true, Nat.reduceEqDiff, if_false]))
        refine AOps.callx (by rfl) (by rfl) (by exact (aRaw b n s _ S1 hst (by omega) hs)) ?_
        rintro d S2 ⟨rfl, hS2⟩
        repeat (first | ((first | apply AOps.goP prg | apply ALex.goP prg); (case run => simp only [go_sem, Int.reduceEq, Int.reduceLT, Int.reduceBEq, Int.reduceBNe, Int.reduceNe, Nat.reduceLeDiff, Nat.reduceAdd, Nat.reduceSub, Nat.reduceLT, Nat.reduceEqDiff, Nat.reduceBEq, Int.reduceLE, Int.reduceToNat]; rfl); (case mm => simp only [go_sem, Int.reduceEq, Int.reduceLT, Int.reduceBEq, Int.reduceBNe, Int.reduceNe, Nat.reduceLeDiff, Nat.reduceAdd, Nat.reduceSub, Nat.reduceLT, Nat.reduceEqDiff, Nat.reduceBEq, Int.reduceLE, Int.reduceToNat]; rfl); (case pr => rfl)) | (refine AW.seq ?_) | (refine AW.region ?_) | (refine AW.draw prg (by kernel_rfl) ?_) | (refine AOps.nil ?_; try dsimp only [AX.then, AX.inBlock]) | (refine ALex.nil ?_; try dsimp only [AX.then, AX.inBlock]) | (refine AW.condT (by rfl) ?_) | (refine AW.condF (by rfl) ?_) | (refine AW.skip ?_; try dsimp only [AX.then, AX.inBlock]) | (refine AW.ret ?_; try dsimp only [AX.then, AX.inBlock]) | (refine AW.block ?_) | (refine AW.exit ?_; simp only [AX.then, AX.inBlock, if_true, Nat.reduceEqDiff, if_false]))
        first | refine endx (by simp only [go_sem, Int.reduceEq, Int.reduceLT, Int.reduceBEq, Int.reduceBNe, Int.reduceNe, Nat.reduceLeDiff, Nat.reduceAdd, Nat.reduceSub, Nat.reduceLT, Nat.reduceEqDiff, Nat.reduceBEq, Int.reduceLE, Int.reduceToNat]; rfl) (by simp only [go_sem, Int.reduceEq, Int.reduceLT, Int.reduceBEq, Int.reduceBNe, Int.reduceNe, Nat.reduceLeDiff, Nat.reduceAdd, Nat.reduceSub, Nat.reduceLT, Nat.reduceEqDiff, Nat.reduceBEq, Int.reduceLE, Int.reduceToNat]; rfl) (Sto.Sub.refl _) ?_ | refine endnx (by simp only [go_sem, Int.reduceEq, Int.reduceLT, Int.reduceBEq, Int.reduceBNe, Int.reduceNe, Nat.reduceLeDiff, Nat.reduceAdd, Nat.reduceSub, Nat.reduceLT, Nat.reduceEqDiff, Nat.reduceBEq, Int.reduceLE, Int.reduceToNat]; rfl) (by simp only [go_sem, Int.reduceEq, Int.reduceLT, Int.reduceBEq, Int.reduceBNe, Int.reduceNe, Nat.reduceLeDiff, Nat.reduceAdd, Nat.reduceSub, Nat.reduceLT, Nat.reduceEqDiff, Nat.reduceBEq, Int.reduceLE, Int.reduceToNat]; rfl) (Sto.Sub.refl _) ?_
        rw [Int.toNat_natCast] at *
        have e3 : rawP n l' = some (l'.take n, l'.drop n) := by simp [rawP, hle]
        rw [gv_some (e2.trans e3), gr_some (e2.trans e3)]
        rw [gr_some e3] at hS2
        exact ⟨by rw [gv_some e3], hS1.trans hS2⟩
      · have d2 : decide ((n : Int) > ((l'.length : Nat) : Int)) = true := decide_eq_true (by omega)
        have e3 : textP m l = none := by rw [e2]; simp [rawP, hle]
        repeat (first | ((first | apply AOps.goP prg | apply ALex.goP prg); (case run => simp only [go_sem, Int.reduceEq, Int.reduceLT, Int.reduceBEq, Int.reduceBNe, Int.reduceNe, Nat.reduceLeDiff, Nat.reduceAdd, Nat.reduceSub, Nat.reduceLT, Nat.reduceEqDiff, Nat.reduceBEq, Int.reduceLE, Int.reduceToNat, hb1, f1, d2]; rfl); (case mm => simp only [go_sem, Int.reduceEq, Int.reduceLT, Int.reduceBEq, Int.reduceBNe, Int.reduceNe, Nat.reduceLeDiff, Nat.reduceAdd, Nat.reduceSub, Nat.reduceLT, Nat.reduceEqDiff, Nat.reduceBEq, Int.reduceLE, Int.reduceToNat]; rfl); (case pr => rfl)) | (refine AW.seq ?_) | (refine AW.region ?_) | (refine AW.draw prg (by kernel_rfl) ?_) | (refine AOps.nil ?_; try dsimp only [AX.then, AX.inBlock]) | (refine ALex.nil ?_; try dsimp only [AX.then, AX.inBlock]) | (refine AW.condT (by rfl) ?_) | (refine AW.condF (by rfl) ?_) | (refine AW.skip ?_; try dsimp only [AX.then, AX.inBlock]) | (refine AW.ret ?_; try dsimp only [AX.then, AX.inBlock]) | (refine AW.block ?_) | (refine AW.exit ?_; simp only [AX.then, AX.inBlock, if_true, Nat.reduceEqDiff, if_false]))
        (first | refine AOps.callq (by rfl) (by rfl) (by exact (aFail b s _ 0 10 k S1 t1 hb1)) ?_ | refine ALex.callq (by rfl) (by rfl) (by exact (aFail b s _ 0 10 k S1 t1 hb1)) ?_)
        repeat (first | ((first | apply AOps.goP prg | apply ALex.goP prg); (case run => simp only [go_sem, Int.reduceEq, Int.reduceLT, Int.reduceBEq, Int.reduceBNe, Int.reduceNe, Nat.reduceLeDiff, Nat.reduceAdd, Nat.reduceSub, Nat.reduceLT, Nat.reduceEqDiff, Nat.reduceBEq, Int.reduceLE, Int.reduceToNat]; rfl); (case mm => simp only [go_sem, Int.reduceEq, Int.reduceLT, Int.reduceBEq, Int.reduceBNe, Int.reduceNe, Nat.reduceLeDiff, Nat.reduceAdd, Nat.reduceSub, Nat.reduceLT, Nat.reduceEqDiff, Nat.reduceBEq, Int.reduceLE, Int.reduceToNat]; rfl); (case pr => rfl)) | (refine AW.seq ?_) | (refine AW.region ?_) | (refine AW.draw prg (by kernel_rfl) ?_) | (refine AOps.nil ?_; try dsimp only [AX.then, AX.inBlock]) | (refine ALex.nil ?_; try dsimp only [AX.then, AX.inBlock]) | (refine AW.condT (by rfl) ?_) | (refine AW.condF (by rfl) ?_) | (refine AW.skip ?_; try dsimp only [AX.then, AX.inBlock]) | (refine AW.ret ?_; try dsimp only [AX.then, AX.inBlock]) | (refine AW.block ?_) | (refine AW.exit ?_; simp only [AX.then, AX.inBlock, if_true, Nat.reduceEqDiff, if_false]))
        first | refine endx (by simp only [go_sem, Int.reduceEq, Int.reduceLT, Int.reduceBEq, Int.reduceBNe, Int.reduceNe, Nat.reduceLeDiff, Nat.reduceAdd, Nat.reduceSub, Nat.reduceLT, Nat.reduceEqDiff, Nat.reduceBEq, Int.reduceLE, Int.reduceToNat]; rfl) (by simp only [go_sem, Int.reduceEq, Int.reduceLT, Int.reduceBEq, Int.reduceBNe, Int.reduceNe, Nat.reduceLeDiff, Nat.reduceAdd, Nat.reduceSub, Nat.reduceLT, Nat.reduceEqDiff, Nat.reduceBEq, Int.reduceLE, Int.reduceToNat]; rfl) (Sto.Sub.refl _) ?_ | refine endnx (by simp only [go_sem, Int.reduceEq, Int.reduceLT, Int.reduceBEq, Int.reduceBNe, Int.reduceNe, Nat.reduceLeDiff, Nat.reduceAdd, Nat.reduceSub, Nat.reduceLT, Nat.reduceEqDiff, Nat.reduceBEq, Int.reduceLE, Int.reduceToNat]; rfl) (by simp only [go_sem, Int.reduceEq, Int.reduceLT, Int.reduceBEq, Int.reduceBNe, Int.reduceNe, Nat.reduceLeDiff, Nat.reduceAdd, Nat.reduceSub, Nat.reduceLT, Nat.reduceEqDiff, Nat.reduceBEq, Int.reduceLE, Int.reduceToNat]; rfl) (Sto.Sub.refl _) ?_
        rw [gv_none e3, gr_none e3]
        exact ⟨rfl, hS1.trans ⟨k, 10, rfl, by omega, k, rfl, by omega⟩⟩

def countP (m : Nat) (l : Bs) : Option (Nat × Bs) :=
  match freeP m l with
  | none => none
  | some (n, l') => if n ≤ l'.length then some (n, l') else none

set_option maxHeartbeats 1000000 in set_option maxRecDepth 100000 in
theorem aCount (b m : Nat) (s : Bs) (o : Option Bs) (S : Sto) (h : RrSt S b s o) (hs : s.length ≤ 140737488351232) (hm : m ≤ 9223372036854775807) :
    ACalls Tryz.prog 75 [pD b, iD m] S (fun e S' => ∃ d, e = .ret d ∧ d = iD (gv (countP m) 0 o : Nat) ∧ RrTo S b s (gr (countP m) o) S') := by
  have h0 := h
  obtain ⟨t, p, c, hb, hr⟩ := h
  refine acalls_of prg Tryz.func75 rfl (by kernel_rfl) (congrArg Array.toList Tryz.results75) Tryz.ntmps75 (fun B hB => ?_); simp only [List.length_cons, List.length_nil, Nat.reduceAdd, Nat.reduceSub, List.replicate_succ, List.replicate_zero, List.cons_append, List.nil_append]
  repeat (first | ((first | apply AOps.goP prg | apply ALex.goP prg); (case run => simp only [go_sem, Int.reduceEq, Int.reduceLT, Int.reduceBEq, Int.reduceBNe, Int.reduceNe, Nat.reduceLeDiff, Nat.reduceAdd, Nat.reduceSub, Nat.reduceLT, Nat.reduceEqDiff, Nat.reduceBEq, Int.reduceLE, Int.reduceToNat, hb]; rfl); (case mm => simp only [go_sem, Int.reduceEq, Int.reduceLT, Int.reduceBEq, Int.reduceBNe, Int.reduceNe, Nat.reduceLeDiff, Nat.reduceAdd, Nat.reduceSub, Nat.reduceLT, Nat.reduceEqDiff, Nat.reduceBEq, Int.reduceLE, Int.reduceToNat]; rfl); (case pr => rfl)) | (refine AW.seq ?_) | (refine AW.region ?_) | (refine AW.draw prg (by kernel_rfl) ?_) | (refine AOps.nil ?_; try dsimp only [AX.then, AX.inBlock]) | (refine ALex.nil ?_; try dsimp only [AX.then, AX.inBlock]) | (refine AW.condT (by rfl) ?_) | (refine AW.condF (by rfl) ?_) | (refine AW.skip ?_; try dsimp only [AX.then, AX.inBlock]) | (refine AW.ret ?_; try dsimp only [AX.then, AX.inBlock]) | (refine AW.block ?_) | (refine AW.exit ?_; simp only [AX.then, AX.inBlock, if_true, Nat.reduceEqDiff, if_false]))
  (first | refine AOps.callq (by rfl) (by rfl) (by exact (aBound m S hm)) ?_ | refine ALex.callq (by rfl) (by rfl) (by exact (aBound m S hm)) ?_)
  repeat (first | ((first | apply AOps.goP prg | apply ALex.goP prg); (case run => simp only [go_sem, Int.reduceEq, Int.reduceLT, Int.reduceBEq, Int.reduceBNe, Int.reduceNe, Nat.reduceLeDiff, Nat.reduceAdd, Nat.reduceSub, Nat.reduceLT, Nat.reduceEqDiff, Nat.reduceBEq, Int.reduceLE, Int.reduceToNat]; rfl); (case mm => simp only [go_sem, Int.reduceEq, Int.reduceLT, Int.reduceBEq, Int.reduceBNe, Int.reduceNe, Nat.reduceLeDiff, Nat.reduceAdd, Nat.reduceSub, Nat.reduceLT, Nat.reduceEqDiff, Nat.reduceBEq, Int.reduceLE, Int.reduceToNat]; rfl); (case pr => rfl)) | (refine AW.seq ?_) | (refine AW.region ?_) | (refine AW.draw prg (by kernel_rfl) ?_) | (refine AOps.nil ?_; try dsimp only [AX.then, AX.inBlock]) | (refine ALex.nil ?_; try dsimp only [AX.then, AX.inBlock]) | (refine AW.condT (by rfl) ?_) | (refine AW.condF (by rfl) ?_) | (refine AW.skip ?_; try dsimp only [AX.then, AX.inBlock]) | (refine AW.ret ?_; try dsimp only [AX.then, AX.inBlock]) | (refine AW.block ?_) | (refine AW.exit ?_; simp only [AX.then, AX.inBlock, if_true, Nat.reduceEqDiff, if_false]))
  refine AOps.callx (by rfl) (by rfl) (by exact (aFree b m s o S h0 hs (by omega))) ?_
  rintro d S1 ⟨rfl, hS1⟩
  have h1 := hS1.st h0
  obtain ⟨t1, p1, c1, hb1, hr1⟩ := h1
  cases o with
  | none =>
    have hn : gr (freeP m) none = none := rfl
    rw [hn] at hr1 hS1
    obtain ⟨hc, k, hp, hk⟩ := hr1
    have d1 : (c1 != 0) = true := by simpa using hc
    repeat (first | ((first | apply AOps.goP prg | apply ALex.goP prg); (case run => simp only [go_sem, Int.reduceEq, Int.reduceLT, Int.reduceBEq, Int.reduceBNe, Int.reduceNe, Nat.reduceLeDiff, Nat.reduceAdd, Nat.reduceSub, Nat.reduceLT, Nat.reduceEqDiff, Nat.reduceBEq, Int.reduceLE, Int.reduceToNat, hb1, d1]; rfl); (case mm => simp only [go_sem, Int.reduceEq, Int.reduceLT, Int.reduceBEq, Int.reduceBNe, Int.reduceNe, Nat.reduceLeDiff, Nat.reduceAdd, Nat.reduceSub, Nat.reduceLT, Nat.reduceEqDiff, Nat.reduceBEq, Int.reduceLE, Int.reduceToNat]; rfl); (case pr => rfl)) | (refine AW.seq ?_) | (refine AW.region ?_) | (refine AW.draw prg (by kernel_rfl) ?_) | (refine AOps.nil ?_; try dsimp only [AX.then, AX.inBlock]) | (refine ALex.nil ?_; try dsimp only [AX.then, AX.inBlock]) | (refine AW.condT (by rfl) ?_) | (refine AW.condF (by rfl) ?_) | (refine AW.skip ?_; try dsimp only [AX.then, AX.inBlock]) | (refine AW.ret ?_; try dsimp only [AX.then, AX.inBlock]) | (refine AW.block ?_) | (refine AW.exit ?_; simp only [AX.then, AX.inBlock, if_true, Nat.reduceEqDiff, if_false]))
    first | refine endx (by simp only [go_sem, Int.reduceEq, Int.reduceLT, Int.reduceBEq, Int.reduceBNe, Int.reduceNe, Nat.reduceLeDiff, Nat.reduceAdd, Nat.reduceSub, Nat.reduceLT, Nat.reduceEqDiff, Nat.reduceBEq, Int.reduceLE, Int.reduceToNat]; rfl) (by simp only [go_sem, Int.reduceEq, Int.reduceLT, Int.reduceBEq, Int.reduceBNe, Int.reduceNe, Nat.reduceLeDiff, Nat.reduceAdd, Nat.reduceSub, Nat.reduceLT, Nat.reduceEqDiff, Nat.reduceBEq, Int.reduceLE, Int.reduceToNat]; rfl) (Sto.Sub.refl _) ?_ | refine endnx (by simp only [go_sem, Int.reduceEq, Int.reduceLT, Int.reduceBEq, Int.reduceBNe, Int.reduceNe, Nat.reduceLeDiff, Nat.reduceAdd, Nat.reduceSub, Nat.reduceLT, Nat.reduceEqDiff, Nat.reduceBEq, Int.reduceLE, Int.reduceToNat]; rfl) (by simp only [go_sem, Int.reduceEq, Int.reduceLT, Int.reduceBEq, Int.reduceBNe, Int.reduceNe, Nat.reduceLeDiff, Nat.reduceAdd, Nat.reduceSub, Nat.reduceLT, Nat.reduceEqDiff, Nat.reduceBEq, Int.reduceLE, Int.reduceToNat]; rfl) (Sto.Sub.refl _) ?_
    exact ⟨rfl, hS1⟩
  | some l =>
    obtain ⟨rfl, k, rfl, hk, hl⟩ := hr
    cases hf : freeP m l with
    | none =>
      have e2 : countP m l = none := by unfold countP; rw [hf]
      rw [gr_none hf] at hr1 hS1
      obtain ⟨hc, k1, hp, hk1⟩ := hr1
      have d1 : (c1 != 0) = true := by simpa using hc
      repeat (first | ((first | apply AOps.goP prg | apply ALex.goP prg); (case run => simp only [go_sem, Int.reduceEq, Int.reduceLT, Int.reduceBEq, Int.reduceBNe, Int.reduceNe, Nat.reduceLeDiff, Nat.reduceAdd, Nat.reduceSub, Nat.reduceLT, Nat.reduceEqDiff, Nat.reduceBEq, Int.reduceLE, Int.reduceToNat, hb1, d1]; rfl); (case mm => simp only [go_sem, Int.reduceEq, Int.reduceLT, Int.reduceBEq, Int.reduceBNe, Int.reduceNe, Nat.reduceLeDiff, Nat.reduceAdd, Nat.reduceSub, Nat.reduceLT, Nat.reduceEqDiff, Nat.reduceBEq, Int.reduceLE, Int.reduceToNat]; rfl); (case pr => rfl)) | (refine AW.seq ?_) | (refine AW.region ?_) | (refine AW.draw prg (by kernel_rfl) ?_) | (refine AOps.nil ?_; try dsimp only [AX.then, AX.inBlock]) | (refine ALex.nil ?_; try dsimp only [AX.then, AX.inBlock]) | (refine AW.condT (by rfl) ?_) | (refine AW.condF (by rfl) ?_) | (refine AW.skip ?_; try dsimp only [AX.then, AX.inBlock]) | (refine AW.ret ?_; try dsimp only [AX.then, AX.inBlock]) | (refine AW.block ?_) | (refine AW.exit ?_; simp only [AX.then, AX.inBlock, if_true, Nat.reduceEqDiff, if_false]))
      first | refine endx (by simp only [go_sem, Int.reduceEq, Int.reduceLT, Int.reduceBEq, Int.reduceBNe, Int.reduceNe, Nat.reduceLeDiff, Nat.reduceAdd, Nat.reduceSub, Nat.reduceLT, Nat.reduceEqDiff, Nat.reduceBEq, Int.reduceLE, Int.reduceToNat]; rfl) (by simp only [go_sem, Int.reduceEq, Int.reduceLT, Int.reduceBEq, Int.reduceBNe, Int.reduceNe, Nat.reduceLeDiff, Nat.reduceAdd, Nat.reduceSub, Nat.reduceLT, Nat.reduceEqDiff, Nat.reduceBEq, Int.reduceLE, Int.reduceToNat]; rfl) (Sto.Sub.refl _) ?_ | refine endnx (by simp only [go_sem, Int.reduceEq, Int.reduceLT, Int.reduceBEq, Int.reduceBNe, Int.reduceNe, Nat.reduceLeDiff, Nat.reduceAdd, Nat.reduceSub, Nat.reduceLT, Nat.reduceEqDiff, Nat.reduceBEq, Int.reduceLE, Int.reduceToNat]; rfl) (by simp only [go_sem, Int.reduceEq, Int.reduceLT, Int.reduceBEq, Int.reduceBNe, Int.reduceNe, Nat.reduceLeDiff, Nat.reduceAdd, Nat.reduceSub, Nat.reduceLT, Nat.reduceEqDiff, Nat.reduceBEq, Int.reduceLE, Int.reduceToNat]; rfl) (Sto.Sub.refl _) ?_
      rw [gv_none e2, gr_none e2]
      exact ⟨rfl, hS1⟩
    | some r =>
      obtain ⟨n, l'⟩ := r
      have e2 : countP m l = if n ≤ l'.length then some (n, l') else none := by unfold countP; rw [hf]
      have hnm := (freeP_rest hf).2.2
      rw [gr_some hf] at hr1 hS1
      rw [gv_some hf]
      obtain ⟨rfl, k1, rfl, hk1, hl1⟩ := hr1
      have d1 : ((0 : Int) != 0) = false := rfl
      have f1 : IntKind.u64.wrap ((s.length : Int) - k1) = ((l'.length : Nat) : Int) := by rw [IntKind.wrap_u64]; omega
      repeat (first | ((first | apply AOps.goP prg | apply ALex.goP prg); (case run => simp only [go_sem, Int.reduceEq, Int.reduceLT, Int.reduceBEq, Int.reduceBNe, Int.reduceNe, Nat.reduceLeDiff, Nat.reduceAdd, Nat.reduceSub, Nat.reduceLT, Nat.reduceEqDiff, Nat.reduceBEq, Int.reduceLE, Int.reduceToNat, hb1, d1]; rfl); (case mm => simp only [go_sem, Int.reduceEq, Int.reduceLT, Int.reduceBEq, Int.reduceBNe, Int.reduceNe, Nat.reduceLeDiff, Nat.reduceAdd, Nat.reduceSub, Nat.reduceLT, Nat.reduceEqDiff, Nat.reduceBEq, Int.reduceLE, Int.reduceToNat]; rfl); (case pr => rfl)) | (refine AW.seq ?_) | (refine AW.region ?_) | (refine AW.draw prg (by kernel_rfl) ?_) | (refine AOps.nil ?_; try dsimp only [AX.then, AX.inBlock]) | (refine ALex.nil ?_; try dsimp only [AX.then, AX.inBlock]) | (refine AW.condT (by rfl) ?_) | (refine AW.condF (by rfl) ?_) | (refine AW.skip ?_; try dsimp only [AX.then, AX.inBlock]) | (refine AW.ret ?_; try dsimp only [AX.then, AX.inBlock]) | (refine AW.block ?_) | (refine AW.exit ?_; simp only [AX.then, AX.inBlock, if_true, Nat.reduceEqDiff, if_false]))
      (first | refine AOps.callq (by rfl) (by rfl) (by exact (aLeft b s k1 0 S1 t1 hb1 (by omega) (by omega) hs)) ?_ | refine ALex.callq (by rfl) (by rfl) (by exact (aLeft b s k1 0 S1 t1 hb1 (by omega) (by omega) hs)) ?_)
      by_cases hle : n ≤ l'.length
      · have d2 : decide ((n : Int) > ((l'.length : Nat) : Int)) = false := decide_eq_false (by omega)
        have f2 : IntKind.i64.wrap (n : Int) = n := IntWalk.i64_in _ (by omega)
        rw [if_pos hle] at e2
        repeat (first | ((first | apply AOps.goP prg | apply ALex.goP prg); (case run => simp only [go_sem, Int.reduceEq, Int.reduceLT, Int.reduceBEq, Int.reduceBNe, Int.reduceNe, Nat.reduceLeDiff, Nat.reduceAdd, Nat.reduceSub, Nat.reduceLT, Nat.reduceEqDiff, Nat.reduceBEq, Int.reduceLE, Int.reduceToNat, hb1, f1, d2, f2]; rfl); (case mm => simp only [go_sem, Int.reduceEq, Int.reduceLT, Int.reduceBEq, Int.reduceBNe, Int.reduceNe, Nat.reduceLeDiff, Nat.reduceAdd, Nat.reduceSub, Nat.reduceLT, Nat.reduceEqDiff, Nat.reduceBEq, Int.reduceLE, Int.reduceToNat]; rfl); (case pr => rfl)) | (refine AW.seq ?_) | (refine AW.region ?_) | (refine AW.draw prg (by kernel_rfl) ?_) | (refine AOps.nil ?_; try dsimp only [AX.then, AX.inBlock]) | (refine ALex.nil ?_; try dsimp only [AX.then, AX.inBlock]) | (refine AW.condT (by rfl) ?_) | (refine AW.condF (by rfl) ?_) | (refine AW.skip ?_; try dsimp only [AX.then, AX.inBlock]) | (refine AW.ret ?_; try dsimp only [AX.then, AX.inBlock]) | (refine AW.block ?_) | (refine AW.exit ?_; simp only [AX.then, AX.inBlock, if_true, Nat.reduceEqDiff, if_false]))
        first | refine endx (by simp only [go_sem, Int.reduceEq, Int.reduceLT, Int.reduceBEq, Int.reduceBNe, Int.reduceNe, Nat.reduceLeDiff, Nat.reduceAdd, Nat.reduceSub, Nat.reduceLT, Nat.reduceEqDiff, Nat.reduceBEq, Int.reduceLE, Int.reduceToNat]; rfl) (by simp only [go_sem, Int.reduceEq, Int.reduceLT, Int.reduceBEq, Int.reduceBNe, Int.reduceNe, Nat.reduceLeDiff, Nat.reduceAdd, Nat.reduceSub, Nat.reduceLT, Nat.reduceEqDiff, Nat.reduceBEq, Int.reduceLE, Int.reduceToNat]; rfl) (Sto.Sub.refl _) ?_ | refine endnx (by simp only [go_sem, Int.reduceEq, Int.reduceLT, Int.reduceBEq, Int.reduceBNe, Int.reduceNe, Nat.reduceLeDiff, Nat.reduceAdd, Nat.reduceSub, Nat.reduceLT, Nat.reduceEqDiff, Nat.reduceBEq, Int.reduceLE, Int.reduceToNat]; rfl) (by simp only [go_sem, Int.reduceEq, Int.reduceLT, Int.reduceBEq, Int.reduceBNe, Int.reduceNe, Nat.reduceLeDiff, Nat.reduceAdd, Nat.reduceSub, Nat.reduceLT, Nat.reduceEqDiff, Nat.reduceBEq, Int.reduceLE, Int.reduceToNat]; rfl) (Sto.Sub.refl _) ?_
        rw [gv_some e2, gr_some e2]
        exact ⟨rfl, hS1⟩
      · have d2 : decide ((n : Int) > ((l'.length : Nat) : Int)) = true := decide_eq_true (by omega)
        rw [if_neg hle] at e2
        repeat (first | ((first | apply AOps.goP prg | apply ALex.goP prg); (case run => simp only [go_sem, Int.reduceEq, Int.reduceLT, Int.reduceBEq, Int.reduceBNe, Int.reduceNe, Nat.reduceLeDiff, Nat.reduceAdd, Nat.reduceSub, Nat.reduceLT, Nat.reduceEqDiff, Nat.reduceBEq, Int.reduceLE, Int.reduceToNat, hb1, f1, d2]; rfl); (case mm => simp only [go_sem, Int.reduceEq, Int.reduceLT, Int.reduceBEq, Int.reduceBNe, Int.reduceNe, Nat.reduceLeDiff, Nat.reduceAdd, Nat.reduceSub, Nat.reduceLT, Nat.reduceEqDiff, Nat.reduceBEq, Int.reduceLE, Int.reduceToNat]; rfl); (case pr => rfl)) | (refine AW.seq ?_) | (refine AW.region ?_) | (refine AW.draw prg (by kernel_rfl) ?_) | (refine AOps.nil ?_; try dsimp only [AX.then, AX.inBlock]) | (refine ALex.nil ?_; try dsimp only [AX.then, AX.inBlock]) | (refine AW.condT (by rfl) ?_) | (refine AW.condF (by rfl) ?_) | (refine AW.skip ?_; try dsimp only [AX.then, AX.inBlock]) | (refine AW.ret ?_; try dsimp only [AX.then, AX.inBlock]) | (refine AW.block ?_) | (refine AW.exit ?_; simp only [AX.then, AX.inBlock, if_true, Nat.reduceEqDiff, if_false]))
        (first | refine AOps.callq (by rfl) (by rfl) (by exact (aFail b s _ 0 12 k S1 t1 hb1)) ?_ | refine ALex.callq (by rfl) (by rfl) (by exact (aFail b s _ 0 12 k S1 t1 hb1)) ?_)
        repeat (first | ((first | apply AOps.goP prg | apply ALex.goP prg); (case run => simp only [go_sem, Int.reduceEq, Int.reduceLT, Int.reduceBEq, Int.reduceBNe, Int.reduceNe, Nat.reduceLeDiff, Nat.reduceAdd, Nat.reduceSub, Nat.reduceLT, Nat.reduceEqDiff, Nat.reduceBEq, Int.reduceLE, Int.reduceToNat]; rfl); (case mm => simp only [go_sem, Int.reduceEq, Int.reduceLT, Int.reduceBEq, Int.reduceBNe, Int.reduceNe, Nat.reduceLeDiff, Nat.reduceAdd, Nat.reduceSub, Nat.reduceLT, Nat.reduceEqDiff, Nat.reduceBEq, Int.reduceLE, Int.reduceToNat]; rfl); (case pr => rfl)) | (refine AW.seq ?_) | (refine AW.region ?_) | (refine AW.draw prg (by kernel_rfl) ?_) | (refine AOps.nil ?_; try dsimp only [AX.then, AX.inBlock]) | (refine ALex.nil ?_; try dsimp only [AX.then, AX.inBlock]) | (refine AW.condT (by rfl) ?_) | (refine AW.condF (by rfl) ?_) | (refine AW.skip ?_; try dsimp only [AX.then, AX.inBlock]) | (refine AW.ret ?_; try dsimp only [AX.then, AX.inBlock]) | (refine AW.block ?_) | (refine AW.exit ?_; simp only [AX.then, AX.inBlock, if_true, Nat.reduceEqDiff, if_false]))
        first | refine endx (by simp only [go_sem, Int.reduceEq, Int.reduceLT, Int.reduceBEq, Int.reduceBNe, Int.reduceNe, Nat.reduceLeDiff, Nat.reduceAdd, Nat.reduceSub, Nat.reduceLT, Nat.reduceEqDiff, Nat.reduceBEq, Int.reduceLE, Int.reduceToNat]; rfl) (by simp only [go_sem, Int.reduceEq, Int.reduceLT, Int.reduceBEq, Int.reduceBNe, Int.reduceNe, Nat.reduceLeDiff, Nat.reduceAdd, Nat.reduceSub, Nat.reduceLT, Nat.reduceEqDiff, Nat.reduceBEq, Int.reduceLE, Int.reduceToNat]; rfl) (Sto.Sub.refl _) ?_ | refine endnx (by simp only [go_sem, Int.reduceEq, Int.reduceLT, Int.reduceBEq, Int.reduceBNe, Int.reduceNe, Nat.reduceLeDiff, Nat.reduceAdd, Nat.reduceSub, Nat.reduceLT, Nat.reduceEqDiff, Nat.reduceBEq, Int.reduceLE, Int.reduceToNat]; rfl) (by simp only [go_sem, Int.reduceEq, Int.reduceLT, Int.reduceBEq, Int.reduceBNe, Int.reduceNe, Nat.reduceLeDiff, Nat.reduceAdd, Nat.reduceSub, Nat.reduceLT, Nat.reduceEqDiff, Nat.reduceBEq, Int.reduceLE, Int.reduceToNat]; rfl) (Sto.Sub.refl _) ?_
        rw [gv_none e2, gr_none e2]
        exact ⟨rfl, hS1.trans ⟨k, 12, rfl, by omega, k, rfl, by omega⟩⟩

/-- A digest of a width. -/
def digP (w : Nat) (l : Bs) : Option (Dg × Bs) := (rawP w l).map fun p => (Dg.pad p.1, p.2)
def padTo (s : Bs) (i : Nat) : Dg := Dg.pad (s.take i)
theorem padTo_set (s : Bs) (i : Nat) (u : UInt8) (hu : s[i]? = some u) (hi : i < 32) : (padTo s i).setB i u.toNat = padTo s (i + 1) := by
  have hlt : i < s.length := (List.getElem?_eq_some_iff.1 hu).1
  apply Dg.ext'
  show (padB (s.take i)).set i (UInt8.ofNat u.toNat) = padB (s.take (i + 1))
  have h1 : (s.take i).length = i := by rw [List.length_take]; omega
  have h2 : (s.take (i + 1)).length = i + 1 := by rw [List.length_take]; omega
  unfold padB
  rw [h1, h2, List.take_of_length_le (show (s.take i).length ≤ 32 by omega), List.take_of_length_le (show (s.take (i + 1)).length ≤ 32 by omega), UInt8.ofNat_toNat]
  have h3 : s.take (i + 1) = s.take i ++ [u] := by rw [List.take_add_one, hu]; rfl
  rw [h3]
  rw [show 32 - i = (32 - (i + 1)) + 1 by omega, List.replicate_succ]
  rw [List.set_append_right _ _ (by omega), h1, Nat.sub_self, List.set_cons_zero]
  simp

theorem RrSt.cons {S : Sto} {b c : Nat} {s : Bs} {o : Option Bs} {t : TypeId} {d : D} (h : RrSt S b s o) (hc : c ∉ S.bk.map (·.1)) : RrSt ⟨(c, t, d) :: S.bk, S.ow⟩ b s o := by
  obtain ⟨t', p, k, h1, h2⟩ := h
  exact ⟨t', p, k, by rw [getM_cons, if_neg (getM_ne h1 hc)]; exact h1, h2⟩
theorem RrSt.cons' {bk : List (Nat × TypeId × D)} {ow : List (Nat × Nat)} {b c : Nat} {s : Bs} {o : Option Bs} {t : TypeId} {d : D} (h : RrSt ⟨bk, ow⟩ b s o) (hc : c ∉ bk.map (·.1)) : RrSt ⟨(c, t, d) :: bk, ow⟩ b s o := h.cons hc
theorem RrTo.cons {S S1 : Sto} {b c : Nat} {s : Bs} {o : Option Bs} {t : TypeId} {d : D} (h : RrTo ⟨(c, t, d) :: S.bk, S.ow⟩ b s o S1) (hc : ¬ b = c) : ∃ S2, RrTo S b s o S2 ∧ S1 = ⟨(c, t, d) :: S2.bk, S2.ow⟩ := by
  obtain ⟨p, k, rfl, h2⟩ := h
  exact ⟨_, ⟨p, k, rfl, h2⟩, by simp only [setM_cons, if_neg hc]⟩
theorem RrTo.cons' {bk : List (Nat × TypeId × D)} {ow : List (Nat × Nat)} {S1 : Sto} {b c : Nat} {s : Bs} {o : Option Bs} {t : TypeId} {d : D} (h : RrTo ⟨(c, t, d) :: bk, ow⟩ b s o S1) (hc : ¬ b = c) : ∃ S2, RrTo ⟨bk, ow⟩ b s o S2 ∧ S1 = ⟨(c, t, d) :: S2.bk, S2.ow⟩ := RrTo.cons (S := ⟨bk, ow⟩) h hc
theorem RrSt.ne {S : Sto} {b c : Nat} {s : Bs} {o : Option Bs} (h : RrSt S b s o) (hc : c ∉ S.bk.map (·.1)) : ¬ b = c := by
  obtain ⟨t', p, k, h1, h2⟩ := h
  exact getM_ne h1 hc

set_option maxHeartbeats 1000000 in set_option maxRecDepth 100000 in
theorem aDigest (b : Nat) (w : Int) (s : Bs) (o : Option Bs) (S : Sto) (h : RrSt S b s o) (hs : s.length ≤ 140737488351232) :
    ACalls Tryz.prog 77 [pD b, iD w] S (fun e S' => ∃ d, e = .ret d ∧ d = .dg (gv (digP (widN w)) Dg.zero o) ∧ RrTo S b s (gr (digP (widN w)) o) S') := by
  have hw : widN w ≤ 32 := by unfold widN; split <;> (try split) <;> omega
  have hx1 : gv (digP (widN w)) Dg.zero o = Dg.pad (gv (rawP (widN w)) [] o) ∧ gr (digP (widN w)) o = gr (rawP (widN w)) o ∧ (gv (rawP (widN w)) [] o).length ≤ 32 := by
    cases o with
    | none => exact ⟨rfl, rfl, by simp [gv]⟩
    | some l =>
      cases hr : rawP (widN w) l with
      | none => exact ⟨by simp [gv, digP, hr, Dg.zero], by simp [gr, digP, hr], by simp [gv, hr]⟩
      | some q =>
        refine ⟨by simp [gv, digP, hr], by simp [gr, digP, hr], ?_⟩
        simp only [gv, Option.bind_some, hr, Option.map_some, Option.getD_some]
        unfold rawP at hr
        split at hr
        · simp only [Option.some.injEq] at hr; rw [← hr]; simp; omega
        · cases hr
  obtain ⟨hx1, hx2, hx3⟩ := hx1
  rw [hx1, hx2]
  refine acalls_of prg Tryz.func77 rfl (by kernel_rfl) (congrArg Array.toList Tryz.results77) Tryz.ntmps77 (fun B hB => ?_); simp only [List.length_cons, List.length_nil, Nat.reduceAdd, Nat.reduceSub, List.replicate_succ, List.replicate_zero, List.cons_append, List.nil_append]
  repeat (first | ((first | apply AOps.goP prg | apply ALex.goP prg); (case run => simp only [go_sem, Int.reduceEq, Int.reduceLT, Int.reduceBEq, Int.reduceBNe, Int.reduceNe, Nat.reduceLeDiff, Nat.reduceAdd, Nat.reduceSub, Nat.reduceLT, Nat.reduceEqDiff, Nat.reduceBEq, Int.reduceLE, Int.reduceToNat]; rfl); (case mm => simp only [go_sem, Int.reduceEq, Int.reduceLT, Int.reduceBEq, Int.reduceBNe, Int.reduceNe, Nat.reduceLeDiff, Nat.reduceAdd, Nat.reduceSub, Nat.reduceLT, Nat.reduceEqDiff, Nat.reduceBEq, Int.reduceLE, Int.reduceToNat]; rfl); (case pr => rfl)) | (refine AW.seq ?_) | (refine AW.region ?_) | (refine AW.draw prg (by kernel_rfl) ?_) | (refine AOps.nil ?_; try dsimp only [AX.then, AX.inBlock]) | (refine ALex.nil ?_; try dsimp only [AX.then, AX.inBlock]) | (refine AW.condT (by rfl) ?_) | (refine AW.condF (by rfl) ?_) | (refine AW.skip ?_; try dsimp only [AX.then, AX.inBlock]) | (refine AW.ret ?_; try dsimp only [AX.then, AX.inBlock]) | (refine AW.block ?_) | (refine AW.exit ?_; simp only [AX.then, AX.inBlock, if_true, Nat.reduceEqDiff, if_false]))
  refine AOps.alloc prg (by rfl) (by rfl) (by rfl) (by rfl) ?_; rintro b1 ⟨k_b1, o_b1⟩; (try simp only [List.map_cons, List.mem_cons, not_or] at k_b1)
  repeat (first | ((first | apply AOps.goP prg | apply ALex.goP prg); (case run => simp only [go_sem, Int.reduceEq, Int.reduceLT, Int.reduceBEq, Int.reduceBNe, Int.reduceNe, Nat.reduceLeDiff, Nat.reduceAdd, Nat.reduceSub, Nat.reduceLT, Nat.reduceEqDiff, Nat.reduceBEq, Int.reduceLE, Int.reduceToNat]; rfl); (case mm => simp only [go_sem, Int.reduceEq, Int.reduceLT, Int.reduceBEq, Int.reduceBNe, Int.reduceNe, Nat.reduceLeDiff, Nat.reduceAdd, Nat.reduceSub, Nat.reduceLT, Nat.reduceEqDiff, Nat.reduceBEq, Int.reduceLE, Int.reduceToNat]; rfl); (case pr => rfl)) | (refine AW.seq ?_) | (refine AW.region ?_) | (refine AW.draw prg (by kernel_rfl) ?_) | (refine AOps.nil ?_; try dsimp only [AX.then, AX.inBlock]) | (refine ALex.nil ?_; try dsimp only [AX.then, AX.inBlock]) | (refine AW.condT (by rfl) ?_) | (refine AW.condF (by rfl) ?_) | (refine AW.skip ?_; try dsimp only [AX.then, AX.inBlock]) | (refine AW.ret ?_; try dsimp only [AX.then, AX.inBlock]) | (refine AW.block ?_) | (refine AW.exit ?_; simp only [AX.then, AX.inBlock, if_true, Nat.reduceEqDiff, if_false]))
  (first | refine AOps.callq (by rfl) (by rfl) (by exact (aWidth w _)) ?_ | refine ALex.callq (by rfl) (by rfl) (by exact (aWidth w _)) ?_)
  repeat (first | ((first | apply AOps.goP prg | apply ALex.goP prg); (case run => simp only [go_sem, Int.reduceEq, Int.reduceLT, Int.reduceBEq, Int.reduceBNe, Int.reduceNe, Nat.reduceLeDiff, Nat.reduceAdd, Nat.reduceSub, Nat.reduceLT, Nat.reduceEqDiff, Nat.reduceBEq, Int.reduceLE, Int.reduceToNat]; rfl); (case mm => simp only [go_sem, Int.reduceEq, Int.reduceLT, Int.reduceBEq, Int.reduceBNe, Int.reduceNe, Nat.reduceLeDiff, Nat.reduceAdd, Nat.reduceSub, Nat.reduceLT, Nat.reduceEqDiff, Nat.reduceBEq, Int.reduceLE, Int.reduceToNat]; rfl); (case pr => rfl)) | (refine AW.seq ?_) | (refine AW.region ?_) | (refine AW.draw prg (by kernel_rfl) ?_) | (refine AOps.nil ?_; try dsimp only [AX.then, AX.inBlock]) | (refine ALex.nil ?_; try dsimp only [AX.then, AX.inBlock]) | (refine AW.condT (by rfl) ?_) | (refine AW.condF (by rfl) ?_) | (refine AW.skip ?_; try dsimp only [AX.then, AX.inBlock]) | (refine AW.ret ?_; try dsimp only [AX.then, AX.inBlock]) | (refine AW.block ?_) | (refine AW.exit ?_; simp only [AX.then, AX.inBlock, if_true, Nat.reduceEqDiff, if_false]))
  have hn1 := h.ne k_b1
  refine AOps.callx (by rfl) (by rfl) (by exact (aRaw b (widN w : Nat) s o _ (h.cons k_b1) (by omega) hs)) ?_
  rintro d S1 ⟨rfl, hS1⟩
  rw [Int.toNat_natCast] at *
  obtain ⟨x, hx⟩ : ∃ x, gv (rawP (widN w)) [] o = x := ⟨_, rfl⟩
  rw [hx] at hx3 ⊢
  obtain ⟨S2, hS2, rfl⟩ := hS1.cons hn1
  repeat (first | ((first | apply AOps.goP prg | apply ALex.goP prg); (case run => simp only [go_sem, Int.reduceEq, Int.reduceLT, Int.reduceBEq, Int.reduceBNe, Int.reduceNe, Nat.reduceLeDiff, Nat.reduceAdd, Nat.reduceSub, Nat.reduceLT, Nat.reduceEqDiff, Nat.reduceBEq, Int.reduceLE, Int.reduceToNat]; rfl); (case mm => simp only [go_sem, Int.reduceEq, Int.reduceLT, Int.reduceBEq, Int.reduceBNe, Int.reduceNe, Nat.reduceLeDiff, Nat.reduceAdd, Nat.reduceSub, Nat.reduceLT, Nat.reduceEqDiff, Nat.reduceBEq, Int.reduceLE, Int.reduceToNat]; rfl); (case pr => rfl)) | (refine AW.seq ?_) | (refine AW.region ?_) | (refine AW.draw prg (by kernel_rfl) ?_) | (refine AOps.nil ?_; try dsimp only [AX.then, AX.inBlock]) | (refine ALex.nil ?_; try dsimp only [AX.then, AX.inBlock]) | (refine AW.condT (by rfl) ?_) | (refine AW.condF (by rfl) ?_) | (refine AW.skip ?_; try dsimp only [AX.then, AX.inBlock]) | (refine AW.ret ?_; try dsimp only [AX.then, AX.inBlock]) | (refine AW.block ?_) | (refine AW.exit ?_; simp only [AX.then, AX.inBlock, if_true, Nat.reduceEqDiff, if_false]))
  refine AOps.alloc prg (by rfl) (by rfl) (by rfl) (by rfl) ?_; rintro b2 ⟨k_b2, o_b2⟩; (try simp only [List.map_cons, List.mem_cons, not_or] at k_b2)
  have hn2 : ¬ b1 = b2 := fun e => k_b2.1 e.symm
  repeat (first | ((first | apply AOps.goP prg | apply ALex.goP prg); (case run => simp only [go_sem, Int.reduceEq, Int.reduceLT, Int.reduceBEq, Int.reduceBNe, Int.reduceNe, Nat.reduceLeDiff, Nat.reduceAdd, Nat.reduceSub, Nat.reduceLT, Nat.reduceEqDiff, Nat.reduceBEq, Int.reduceLE, Int.reduceToNat]; rfl); (case mm => simp only [go_sem, Int.reduceEq, Int.reduceLT, Int.reduceBEq, Int.reduceBNe, Int.reduceNe, Nat.reduceLeDiff, Nat.reduceAdd, Nat.reduceSub, Nat.reduceLT, Nat.reduceEqDiff, Nat.reduceBEq, Int.reduceLE, Int.reduceToNat]; rfl); (case pr => rfl)) | (refine AW.seq ?_) | (refine AW.region ?_) | (refine AW.draw prg (by kernel_rfl) ?_) | (refine AOps.nil ?_; try dsimp only [AX.then, AX.inBlock]) | (refine ALex.nil ?_; try dsimp only [AX.then, AX.inBlock]) | (refine AW.condT (by rfl) ?_) | (refine AW.condF (by rfl) ?_) | (refine AW.skip ?_; try dsimp only [AX.then, AX.inBlock]) | (refine AW.ret ?_; try dsimp only [AX.then, AX.inBlock]) | (refine AW.block ?_) | (refine AW.exit ?_; simp only [AX.then, AX.inBlock, if_true, Nat.reduceEqDiff, if_false]))
  refine AW.loopS 8 [7] (fun xs S' => ∃ i : Nat, xs = [iD i] ∧ S' = ⟨(b2, 36, .dg (padTo x i)) :: (b1, 36, .dg Dg.zero) :: S2.bk, S2.ow⟩ ∧ i ≤ x.length) (fun xs _ => x.length - nI (xs.getD 0 .any)) [iD 0] _ ?_ (Sto.Sub.refl _) ⟨0, rfl, rfl, by omega⟩ ?_
  · simp only [go_sem, Int.reduceEq, Int.reduceLT, Int.reduceBEq, Int.reduceBNe, Int.reduceNe, Nat.reduceLeDiff, Nat.reduceAdd, Nat.reduceSub, Nat.reduceLT, Nat.reduceEqDiff, Nat.reduceBEq, Int.reduceLE, Int.reduceToNat, weakA, or_true, true_or, and_self]
  rintro xs S' ⟨i, rfl, rfl, hi⟩
  apply AW.frame; case fr => (simp only [go_sem, Int.reduceEq, Int.reduceLT, Int.reduceBEq, Int.reduceBNe, Int.reduceNe, Nat.reduceLeDiff, Nat.reduceAdd, Nat.reduceSub, Nat.reduceLT, Nat.reduceEqDiff, Nat.reduceBEq, Int.reduceLE, Int.reduceToNat]; rfl)
  by_cases hlt : i < x.length
  · have d1 : decide ((i : Int) < (x.length : Nat)) = true := decide_eq_true (by omega)
    obtain ⟨u, hu⟩ : ∃ u, x[i]? = some u := ⟨_, List.getElem?_eq_getElem hlt⟩
    have c1 : (0 : Int) ≤ (i : Int) := by omega
    have c2 : (0 : Int) ≤ (i : Int) ∧ (i : Int) < 32 := by omega
    have c3 : i < 32 ∧ (0 : Int) ≤ (u.toNat : Int) ∧ (u.toNat : Int) < 256 := by have := u.toNat_lt; omega
    have f1 : IntKind.i64.wrap ((i : Int) + 1) = ((i + 1 : Nat) : Int) := IntWalk.i64_in _ (by omega)
    have hset := padTo_set x i u hu (by omega)
    have c4 : ¬ (i = 0 ∧ 32 = 1 ∧ true = false) := by simp
    repeat (first | ((first | apply AOps.goP prg | apply ALex.goP prg); (case run => simp only [go_sem, Int.reduceEq, Int.reduceLT, Int.reduceBEq, Int.reduceBNe, Int.reduceNe, Nat.reduceLeDiff, Nat.reduceAdd, Nat.reduceSub, Nat.reduceLT, Nat.reduceEqDiff, Nat.reduceBEq, Int.reduceLE, Int.reduceToNat, d1, hu, c1, c2, c3, f1, hset, hn2, Int.toNat_natCast, Nat.zero_add]; rfl); (case mm => simp only [go_sem, Int.reduceEq, Int.reduceLT, Int.reduceBEq, Int.reduceBNe, Int.reduceNe, Nat.reduceLeDiff, Nat.reduceAdd, Nat.reduceSub, Nat.reduceLT, Nat.reduceEqDiff, Nat.reduceBEq, Int.reduceLE, Int.reduceToNat]; rfl); (case pr => rfl)) | (refine AW.seq ?_) | (refine AW.region ?_) | (refine AW.draw prg (by kernel_rfl) ?_) | (refine AOps.nil ?_; try dsimp only [AX.then, AX.inBlock]) | (refine ALex.nil ?_; try dsimp only [AX.then, AX.inBlock]) | (refine AW.condT (by rfl) ?_) | (refine AW.condF (by rfl) ?_) | (refine AW.skip ?_; try dsimp only [AX.then, AX.inBlock]) | (refine AW.ret ?_; try dsimp only [AX.then, AX.inBlock]) | (refine AW.block ?_) | (refine AW.exit ?_; simp only [AX.then, AX.inBlock, if_true, Nat.reduceEqDiff, if_false]))
    refine ⟨[iD (i + 1 : Nat)], _, ?_, Sto.Sub.refl _, ⟨i + 1, rfl, rfl, by omega⟩, ?_⟩
    · simp only [go_sem, Int.reduceEq, Int.reduceLT, Int.reduceBEq, Int.reduceBNe, Int.reduceNe, Nat.reduceLeDiff, Nat.reduceAdd, Nat.reduceSub, Nat.reduceLT, Nat.reduceEqDiff, Nat.reduceBEq, Int.reduceLE, Int.reduceToNat, weakA, or_true, true_or, and_self]
    · simp only [go_sem, Int.reduceEq, Int.reduceLT, Int.reduceBEq, Int.reduceBNe, Int.reduceNe, Nat.reduceLeDiff, Nat.reduceAdd, Nat.reduceSub, Nat.reduceLT, Nat.reduceEqDiff, Nat.reduceBEq, Int.reduceLE, Int.reduceToNat, Int.toNat_natCast]; omega
  · have d1 : decide ((i : Int) < (x.length : Nat)) = false := decide_eq_false (by omega)
    have hpad : padTo x i = Dg.pad x := by unfold padTo; rw [List.take_of_length_le (by omega)]
    rw [hpad]
    have hn3 : ¬ b2 = b1 := fun e => hn2 e.symm
    have hn4 : ¬ b1 = b2 := hn2
    repeat (first | ((first | apply AOps.goP prg | apply ALex.goP prg); (case run => simp only [go_sem, Int.reduceEq, Int.reduceLT, Int.reduceBEq, Int.reduceBNe, Int.reduceNe, Nat.reduceLeDiff, Nat.reduceAdd, Nat.reduceSub, Nat.reduceLT, Nat.reduceEqDiff, Nat.reduceBEq, Int.reduceLE, Int.reduceToNat, d1, hn3, hn4]; rfl); (case mm => simp only [go_sem, Int.reduceEq, Int.reduceLT, Int.reduceBEq, Int.reduceBNe, Int.reduceNe, Nat.reduceLeDiff, Nat.reduceAdd, Nat.reduceSub, Nat.reduceLT, Nat.reduceEqDiff, Nat.reduceBEq, Int.reduceLE, Int.reduceToNat]; rfl); (case pr => rfl)) | (refine AW.seq ?_) | (refine AW.region ?_) | (refine AW.draw prg (by kernel_rfl) ?_) | (refine AOps.nil ?_; try dsimp only [AX.then, AX.inBlock]) | (refine ALex.nil ?_; try dsimp only [AX.then, AX.inBlock]) | (refine AW.condT (by rfl) ?_) | (refine AW.condF (by rfl) ?_) | (refine AW.skip ?_; try dsimp only [AX.then, AX.inBlock]) | (refine AW.ret ?_; try dsimp only [AX.then, AX.inBlock]) | (refine AW.block ?_) | (refine AW.exit ?_; simp only [AX.then, AX.inBlock, if_true, Nat.reduceEqDiff, if_false]))
    refine endx (by simp only [go_sem, Int.reduceEq, Int.reduceLT, Int.reduceBEq, Int.reduceBNe, Int.reduceNe, Nat.reduceLeDiff, Nat.reduceAdd, Nat.reduceSub, Nat.reduceLT, Nat.reduceEqDiff, Nat.reduceBEq, Int.reduceLE, Int.reduceToNat, hn3, hn4]; rfl) (by rfl) (Sto.Sub.cons (Sto.Sub.cons (Sto.Sub.refl _))) ⟨rfl, hS2⟩

end Go.Proofs.YtemicgccgcmmbaaGreat

/- Values without addresses: lists that grow. -/
namespace Go.Proofs.YtemicgccgcmmbaaGreat
set_option linter.unusedVariables false
set_option linter.unusedSimpArgs false
open Go Go.RowKit

def tagB : Tag → Option Nat
  | .own b _ _ => some b
  | _ => Option.none

/-- A list that grows: nil and empty, or at the beginning of a row that is its own. -/
def Grw (ow : List (Nat × Nat)) (e : TypeId) (z : Nat) (tg : Tag) (es : List D) : Prop := (tg = .nil ∧ es = []) ∨ ∃ b, tg = .own b e z ∧ (b, es.length * z) ∈ ow
theorem Grw.may {S : Sto} {e : TypeId} {z : Nat} {tg : Tag} {es : List D} (h : Grw S.ow e z tg es) : mayApp S e z es tg := by
  rcases h with ⟨rfl, _⟩ | ⟨b, rfl, h⟩
  · trivial
  · exact ⟨rfl, rfl, h⟩
theorem Grw.nil (ow : List (Nat × Nat)) (e : TypeId) (z : Nat) : Grw ow e z .nil [] := .inl ⟨rfl, rfl⟩
theorem Grw.new {ow : List (Nat × Nat)} {e : TypeId} {z g : Nat} {es : List D} : Grw ((g, es.length * z) :: ow) e z (.own g e z) es := .inr ⟨g, rfl, List.mem_cons_self⟩
/-- Another list grew. -/
theorem Grw.keep {ow : List (Nat × Nat)} {e : TypeId} {z : Nat} {tg tg' : Tag} {es : List D} {g L : Nat} (h : Grw ow e z tg es) (hne : ∀ b, tagB tg = some b → tagB tg' ≠ some b) : Grw ((g, L) :: dropTok tg' ow) e z tg es := by
  rcases h with h | ⟨b, rfl, h⟩
  · exact .inl h
  · refine .inr ⟨b, rfl, List.mem_cons_of_mem _ ?_⟩
    have := hne b rfl
    unfold dropTok
    split
    · rename_i c _ _
      refine List.mem_filter.2 ⟨h, ?_⟩
      simp only [tagB, ne_eq, Option.some.injEq] at this
      simp only [bne_iff_ne, ne_eq]
      exact fun e => this e.symm
    · exact h
theorem Grw.fresh {ow : List (Nat × Nat)} {e : TypeId} {z : Nat} {tg tg' : Tag} {es : List D} {g : Nat} (h : Grw ow e z tg es) (hne : ∀ b, tagB tg = some b → tagB tg' ≠ some b) (hg : g ∉ (dropTok tg' ow).map (·.1)) : ∀ b, tagB tg = some b → g ≠ b := by
  intro b hb e'
  rcases Grw.keep (g := g) (L := 0) h hne with ⟨rfl, _⟩ | ⟨c, rfl, hc⟩
  · cases hb
  · simp only [tagB, Option.some.injEq] at hb
    subst hb
    rcases h with ⟨h, _⟩ | ⟨c', h, hm⟩
    · cases h
    · simp only [Tag.own.injEq, and_true] at h
      subst h
      subst e'
      refine hg (List.mem_map.2 ⟨(g, es.length * z), ?_, rfl⟩)
      have := hne g rfl
      unfold dropTok
      split
      · rename_i c'' _ _
        refine List.mem_filter.2 ⟨hm, ?_⟩
        simp only [tagB, ne_eq, Option.some.injEq] at this
        simp only [bne_iff_ne, ne_eq]
        exact fun e => this e.symm
      · exact hm
/-- What was there at the beginning is left. -/
theorem drop_keep {ow0 ow : List (Nat × Nat)} {tg : Tag} {p : Nat × Nat} (h : List.Sublist ow0 ow) (hb : ∀ b, tagB tg = some b → b ∉ ow0.map (·.1)) : List.Sublist ow0 (p :: dropTok tg ow) := by
  refine List.Sublist.cons _ ?_
  unfold dropTok
  split
  · rename_i b _ _
    have h1 : ow0.filter (fun p => p.1 != b) = ow0 := by
      refine List.filter_eq_self.2 (fun p hp => ?_)
      simp only [bne_iff_ne, ne_eq]
      exact fun e => hb b rfl (e ▸ List.mem_map.2 ⟨p, hp, rfl⟩)
    rw [← h1]
    exact h.filter _
  · exact h
theorem fresh_keep {ow0 ow : List (Nat × Nat)} {tg : Tag} {g : Nat} (h : List.Sublist ow0 ow) (hb : ∀ b, tagB tg = some b → b ∉ ow0.map (·.1)) (hg : g ∉ (dropTok tg ow).map (·.1)) : g ∉ ow0.map (·.1) := fun hm => by
  have h2 := drop_keep (p := (g, 0)) h hb
  have h3 : List.Sublist ow0 (dropTok tg ow) := by
    unfold dropTok at *
    split at h2
    · rename_i b _ _
      have h1 : ow0.filter (fun p => p.1 != b) = ow0 := by
        refine List.filter_eq_self.2 (fun p hp => ?_)
        simp only [bne_iff_ne, ne_eq]
        exact fun e => hb b rfl (e ▸ List.mem_map.2 ⟨p, hp, rfl⟩)
      rw [← h1]
      exact h.filter _
    · exact h
  exact hg ((h3.map (·.1)).subset hm)

section
variable {P : Program} {T : TypeId → Ty} {B : Bg} {Q : AX → List D → Sto → Prop} {A : List D} {S : Sto} {ops : Array Oper} {l : List Oper} {o : Oper}
/-- The first n operations alone. -/
theorem AOps.goN {T : TypeId → Ty} (hP : Prg P T) (n : Nat) {l : List Oper} {A A' : List D} {S S' : Sto} (run : runOps T ops (l.take n) A S = ([], A', S')) (k : AOps P B ops Q (l.drop n) A' S') : AOps P B ops Q l A S := by
  induction l generalizing n A S with
  | nil =>
    simp only [List.take_nil, runOps, Prod.mk.injEq, true_and] at run
    obtain ⟨rfl, rfl⟩ := run
    simpa using k
  | cons o l ih =>
    cases n with
    | zero =>
      simp only [List.take_zero, runOps, Prod.mk.injEq, true_and] at run
      obtain ⟨rfl, rfl⟩ := run
      simpa using k
    | succ n =>
      simp only [List.take_succ_cons, List.drop_succ_cons] at run k
      unfold runOps at run
      split at run
      · rename_i hw
        split at run
        · rename_i d S1 he
          exact AOps.step hP hw he (ih n run k)
        · simp at run
      · rename_i hw
        exact AOps.skip hw (ih n run k)
      · simp at run
/-- Blocks' numbers are all unlike. -/
theorem AW.nd {c : Code} (h : (S.bk.map (·.1) ++ S.ow.map (·.1)).Nodup → AW P B c Q A S) : AW P B c Q A S := fun a w k => h k.st.nd a w k
theorem AOps.nd (h : (S.bk.map (·.1) ++ S.ow.map (·.1)).Nodup → AOps P B ops Q l A S) : AOps P B ops Q l A S := fun a w k => h k.st.nd a w k
theorem AW.subS {c : Code} {S' : Sto} (hs : S'.Sub S) (h : AW P B c Q A S') : AW P B c Q A S := fun a w k => h a w (k.sub hs)
theorem AOps.subS {S' : Sto} (hs : S'.Sub S) (h : AOps P B ops Q l A S') : AOps P B ops Q l A S := fun a w k => h a w (k.sub hs)
/-- Ways meet: below m the frame is as it was, but the slots sl. -/
theorem AW.cutS {x y : Code} (m : Nat) (sl : List Nat) (J : List D → Sto → Prop) (h1 : AW P B x (AX.then (fun A' S'' => ∃ ys S3, weakA A' (frameL m sl A ys) ∧ S3.Sub S'' ∧ J ys S3) Q) A S)
    (h2 : ∀ ys S3, J ys S3 → AW P B y Q (frameL m sl A ys) S3) : AW P B (.seq x y) Q A S :=
  AW.seq (h1.mono (fun e A' S' q => by
    cases e with
    | normal =>
      obtain ⟨ys, S3, h3, h4, h5⟩ := q
      exact fun a w k => h2 ys S3 h5 a w ((k.weak h3).sub h4)
    | exit id => exact q
    | goto l => exact q
    | ret => exact q
    | panic d => exact q))
theorem AW.cutK {x y : Code} (m : Nat) (sl : List Nat) (J : List D → Sto → Prop) (h1 : AW P B x (AX.then (fun A' S'' => ∃ ys S3, weakA A' (frameL m sl A ys) ∧ S3.Sub S'' ∧ J ys S3) Q) A S)
    (h2 : ∀ ys S3, J ys S3 → AW P B y Q (frameL m sl A ys) S3) : AW P B x (AX.then (AW P B y Q) Q) A S :=
  h1.mono (fun e A' S' q => by
    cases e with
    | normal =>
      obtain ⟨ys, S3, h3, h4, h5⟩ := q
      exact fun a w k => h2 ys S3 h5 a w ((k.weak h3).sub h4)
    | exit id => exact q
    | goto l => exact q
    | ret => exact q
    | panic d => exact q)
theorem AW.weak {c : Code} {A' : List D} (weak : weakA A A') (h : AW P B c Q A' S) : AW P B c Q A S := fun a w k => h a w (k.weak weak)
end

end Go.Proofs.YtemicgccgcmmbaaGreat

/- Between contracts with addresses and contracts without. -/
namespace Go.Proofs.YtemicgccgcmmbaaGreat
set_option linter.unusedVariables false
set_option linter.unusedSimpArgs false
open Go Go.RowKit

@[go_sem] def prD (p : Pr) : D := .agg [sD p.1, sD p.2]
@[go_sem] def kdD (k : Kd) : D := .agg [.v (.int .u32 (k.page : Nat)), .dg k.sum]
/-- A node, its lists tagged. -/
@[go_sem] def ndT (tp ts tk : Tag) (n : Nd) : D := .agg [.sl tp (n.pairs.map prD), .sl ts (n.seps.map sD), .sl tk (n.kids.map kdD)]
@[go_sem] def ndA (n : Nd) : D := ndT .none .none .none n
@[go_sem] def frD (p w : Int) : D := .agg [iD p, iD w]

theorem StAt.kp {w w' : World} {S : Sto} (h : StAt w S) (k : Kp [] w w') : StAt w' S := by
  have e : Evo w S.I w' S.I := k.evo (fun _ _ _ _ => by simp) (fun _ _ _ h => h)
  exact ⟨h.nd, fun b t d hm => by obtain ⟨us, h1, h2⟩ := h.mutAt b t d hm; exact ⟨us, h1.kp k (by simp), h2.evo e _ _⟩, fun b L hm => by
    obtain ⟨t, cur, h1, h2⟩ := h.ownAt b L hm
    exact ⟨t, cur, k.blk h1 (by simp), h2⟩⟩
theorem Kp.evo0 {w w' : World} (k : Kp [] w w') (I : Nat → Nat → Prop) : Evo w I w' I := k.evo (fun _ _ _ _ => by simp) (fun _ _ _ h => h)

section
variable {P : Program} {f : FuncId} {ds : List D} {S : Sto}
/-- A contract of a function that only reads and makes memory. -/
theorem ACalls.lift (hc : Callable P f) (R : D → Prop) (h : ∀ w xs, StAt w S → RVals w S.I ds xs → Calls P f xs.toArray w (fun e w' => ∃ v d, e = .returned v ∧ Kp [] w w' ∧ RVal w' S.I d v ∧ R d)) : ACalls P f ds S (fun e S' => ∃ d, e = .ret d ∧ R d ∧ S' = S) :=
  ⟨hc, fun w xs hS hx => (h w xs hS hx).mono fun e w' ⟨v, d, he, hk, hv, hr⟩ => by
    subst he
    exact ⟨d, S, hS.kp hk, hk.evo0 _, hv, d, rfl, hr, rfl⟩⟩
theorem ACalls.liftq (hc : Callable P f) {d : D} (h : ∀ w xs, StAt w S → RVals w S.I ds xs → Calls P f xs.toArray w (fun e w' => ∃ v, e = .returned v ∧ Kp [] w w' ∧ RVal w' S.I d v)) : ACalls P f ds S (RetQ d S) :=
  ⟨hc, fun w xs hS hx => (h w xs hS hx).mono fun e w' ⟨v, he, hk, hv⟩ => by
    subst he
    exact ⟨d, S, hS.kp hk, hk.evo0 _, hv, rfl, rfl⟩⟩
/-- Back: where nothing may be written. -/
def noS : Sto := ⟨[], []⟩
theorem noS_at (w : World) : StAt w noS := ⟨List.nodup_nil, fun b t d h => by simp [noS] at h, fun b L h => by simp [noS] at h⟩
theorem noS_I (b e : Nat) : noS.I b e := ⟨by simp [noS], fun L h => by simp [noS] at h⟩
theorem Evo.kp {w w' : World} {I I' : Nat → Nat → Prop} (h : Evo w I w' I') (hI : ∀ b e, I b e) : Kp [] w w' := ⟨h.os, h.tape, h.output, h.size, fun b hb _ => h.whole b hb (hI b), h.drawn⟩
theorem ACalls.lower {R : D → Prop} (h : ACalls P f ds noS (fun e S' => ∃ d, e = .ret d ∧ R d ∧ S' = noS)) {w : World} {xs : List Value} (hx : RVals w noS.I ds xs) : Calls P f xs.toArray w (fun e w' => ∃ v d, e = .returned v ∧ Kp [] w w' ∧ RVal w' noS.I d v ∧ R d) :=
  (h.2 w xs (noS_at w) hx).mono fun e w' hp => by
    cases e with
    | returned v =>
      obtain ⟨d, S', h1, h2, h3, d', e1, e2, rfl⟩ := hp
      simp only [AEnd.ret.injEq] at e1
      subst e1
      exact ⟨v, d, rfl, h2.kp noS_I, h3, e2⟩
    | panicked ch => obtain ⟨d, v, S', _, _, _, _, d', e1, _⟩ := hp; cases e1
    | outgrown => exact hp.elim
theorem ACalls.lowerq {d : D} (h : ACalls P f ds noS (RetQ d noS)) {w : World} {xs : List Value} (hx : RVals w noS.I ds xs) : Calls P f xs.toArray w (fun e w' => ∃ v, e = .returned v ∧ Kp [] w w' ∧ RVal w' noS.I d v) :=
  (h.2 w xs (noS_at w) hx).mono fun e w' hp => by
    cases e with
    | returned v =>
      obtain ⟨d', S', h1, h2, h3, e1, rfl⟩ := hp
      simp only [AEnd.ret.injEq] at e1
      subst e1
      exact ⟨v, rfl, h2.kp noS_I, h3⟩
    | panicked ch => obtain ⟨d, v, S', _, _, _, _, e1, _⟩ := hp; cases e1
    | outgrown => exact hp.elim
end

section
variable {w : World} {I : Nat → Nat → Prop}
theorem RVal.str {s : Bs} {x : Value} (h : RVal w I (sD s) x) : x = .string ⟨s.toArray⟩ := by unfold RVal at h; exact h.1
theorem RVal.int {k : IntKind} {n : Int} {x : Value} (h : RVal w I (.v (.int k n)) x) : x = .int k n := by unfold RVal at h; exact h.1
theorem RVal.bool {b : Bool} {x : Value} (h : RVal w I (bD b) x) : x = .bool b := by unfold RVal at h; exact h.1
theorem RVal.dig {d : Dg} {x : Value} (h : RVal w I (.dg d) x) : x = .agg d.c := by unfold RVal at h; exact h
theorem RVals.cons {d : D} {ds : List D} {xs : List Value} (h : RVals w I (d :: ds) xs) : ∃ y ys, xs = y :: ys ∧ RVal w I d y ∧ RVals w I ds ys := by unfold RVals at h; exact h
theorem RVals.nil {xs : List Value} (h : RVals w I [] xs) : xs = [] := by unfold RVals at h; exact h
theorem RVal.frame {p wd : Int} {x : Value} (h : RVal w I (frD p wd) x) : x = .agg #[.int .i64 p, .int .i64 wd] := by
  unfold frD RVal at h
  obtain ⟨us, rfl, h⟩ := h
  unfold RVs at h
  obtain ⟨a, b, rfl, h1, h2⟩ := h
  unfold RVs at h2
  obtain ⟨c, d, rfl, h3, h4⟩ := h2
  unfold RV at h1 h3
  unfold RVs at h4
  rw [h1.1, h3.1, h4]; rfl
theorem RVal.of_frame (p wd : Int) : RVal w I (frD p wd) (.agg #[.int .i64 p, .int .i64 wd]) := by
  unfold frD RVal
  refine ⟨[.int .i64 p, .int .i64 wd], rfl, ?_⟩
  unfold RVs
  refine ⟨[_], [_], rfl, by unfold RV; exact ⟨rfl, rfl⟩, ?_⟩
  unfold RVs
  exact ⟨[_], [], rfl, by unfold RV; exact ⟨rfl, rfl⟩, by unfold RVs; rfl⟩
theorem RVals.mk1 {d : D} {x : Value} (h : RVal w I d x) : RVals w I [d] [x] := by unfold RVals; exact ⟨x, [], rfl, h, by unfold RVals; rfl⟩
theorem RVals.mk {d : D} {ds : List D} {x : Value} {xs : List Value} (h : RVal w I d x) (k : RVals w I ds xs) : RVals w I (d :: ds) (x :: xs) := by unfold RVals; exact ⟨x, xs, rfl, h, k⟩
theorem RVals.mk0 : RVals w I [] [] := by unfold RVals; rfl
theorem RVal.mk_tup {ds : List D} {xs : List Value} (h : RVals w I ds xs) : RVal w I (.tup ds) (.tuple xs.toArray) := by unfold RVal; exact ⟨xs, rfl, h⟩

theorem RVs.two {a b : D} {us : List Value} (h : RVs w I [a, b] us) : ∃ xs ys, us = xs ++ ys ∧ RV w I a xs ∧ RV w I b ys := by
  unfold RVs at h
  obtain ⟨xs, r, rfl, h1, h2⟩ := h
  unfold RVs at h2
  obtain ⟨ys, r, rfl, h3, h4⟩ := h2
  unfold RVs at h4
  subst h4
  exact ⟨xs, ys, by simp, h1, h3⟩
theorem RVs.mk2 {a b : D} {xs ys : List Value} (h1 : RV w I a xs) (h2 : RV w I b ys) : RVs w I [a, b] (xs ++ ys) := by
  unfold RVs; exact ⟨xs, ys, rfl, h1, by unfold RVs; exact ⟨ys, [], by simp, h2, by unfold RVs; rfl⟩⟩
theorem RVs.three {a b c : D} {us : List Value} (h : RVs w I [a, b, c] us) : ∃ xs ys zs, us = xs ++ ys ++ zs ∧ RV w I a xs ∧ RV w I b ys ∧ RV w I c zs := by
  unfold RVs at h
  obtain ⟨xs, r, rfl, h1, h2⟩ := h
  obtain ⟨ys, zs, rfl, h3, h4⟩ := RVs.two h2
  exact ⟨xs, ys, zs, by simp, h1, h3, h4⟩
theorem RVs.mk3 {a b c : D} {xs ys zs : List Value} (h1 : RV w I a xs) (h2 : RV w I b ys) (h3 : RV w I c zs) : RVs w I [a, b, c] (xs ++ (ys ++ zs)) := by
  unfold RVs; exact ⟨xs, ys ++ zs, rfl, h1, RVs.mk2 h2 h3⟩

theorem rowAt?_of {b o : Nat} {us : List Value} (h : CellsAt w b o us) (hn : us ≠ []) : rowAt? w ⟨b, o, none⟩ us.length = some us.toArray := by
  have hp : 0 < us.length := List.length_pos_iff.2 hn
  have hl := h (us.length - 1) (us[us.length - 1]) (List.getElem?_eq_getElem (by omega))
  unfold World.cell? at hl
  unfold rowAt?
  split at hl
  · rename_i c e f hb
    simp only at hl hb
    have hlt : o + (us.length - 1) < c.size := (Array.getElem?_eq_some_iff.1 (by simpa using hl)).1
    rw [hb]
    simp only [Option.isSome_none, Bool.false_eq_true, if_false]
    rw [if_pos (by omega)]
    congr 1
    apply Array.ext_getElem?
    intro j
    rw [Array.getElem?_extract]
    split
    · rename_i hj
      have hj' : j < us.length := by omega
      have h1 := h j us[j] (List.getElem?_eq_getElem hj')
      unfold World.cell? at h1
      simp only [hb, Option.isSome_none, Bool.false_eq_true, if_false] at h1
      rw [h1]
      simp [hj']
    · rename_i hj
      have : us.length ≤ j := by omega
      simp [this]
  · cases hl

/-- A list's address, and what stands there. -/
theorem RV.list {t : Tag} {es : List D} {us : List Value} (h : RV w I (.sl t es) us) : ∃ a c, us = [.slice a es.length c] ∧ es.length ≤ c ∧ TagOk w a c es t ∧ ∀ (i : Nat) (e : D), es[i]? = some e → ∃ b o vs, a = some ⟨b, o, none⟩ ∧ b < w.heap.size ∧ RV w I e vs ∧ CellsAt w b (o + i * e.size) vs := by
  unfold RV at h
  obtain ⟨a, n, c, rfl, rfl, hc, ht, h⟩ := h
  refine ⟨a, c, rfl, hc, ht, fun i e hi => ?_⟩
  rcases h with ⟨_, rfl, _⟩ | ⟨b, o, rfl, hb, _, ⟨z, hz⟩, hr⟩
  · simp at hi
  · obtain ⟨vs, h1, h2⟩ := REs.get o es z hz hr i e hi
    exact ⟨b, o, vs, rfl, hb, h1, by rw [hz e (List.mem_of_getElem? hi)]; exact h2⟩

theorem RVal.node {n : Nd} {x : Value} (h : RVal w I (ndA n) x) : ∃ (pa sa ka : Option Addr) (pc sc kc : Nat), x = .agg #[.slice pa n.pairs.length pc, .slice sa n.seps.length sc, .slice ka n.kids.length kc] ∧ NdAt w pa sa ka n := by
  unfold ndA ndT RVal at h
  obtain ⟨us, rfl, h⟩ := h
  obtain ⟨xs, ys, zs, rfl, h1, h2, h3⟩ := RVs.three h
  obtain ⟨pa, pc, rfl, _, _, hp⟩ := h1.list
  obtain ⟨sa, sc, rfl, _, _, hs⟩ := h2.list
  obtain ⟨ka, kc, rfl, _, _, hk⟩ := h3.list
  refine ⟨pa, sa, ka, pc, sc, kc, by simp, fun i p hi => ?_, fun i p hi => ?_, fun i k hi => ?_⟩
  · obtain ⟨b, o, vs, ha, hb, hr, hc⟩ := hp i (prD p) (by simp [hi])
    unfold prD RV at hr
    obtain ⟨a1, a2, rfl, r1, r2⟩ := RVs.two hr
    unfold RV at r1 r2
    obtain ⟨rfl, -⟩ := r1
    obtain ⟨rfl, -⟩ := r2
    exact ⟨b, o, ha, hb, hc 0 _ rfl, hc 1 _ rfl⟩
  · obtain ⟨b, o, vs, ha, hb, hr, hc⟩ := hs i (sD p) (by simp [hi])
    unfold RV at hr
    obtain ⟨rfl, -⟩ := hr
    have := hc 0 _ rfl
    exact ⟨b, o, ha, hb, by simpa [D.size] using this⟩
  · obtain ⟨b, o, vs, ha, hb, hr, hc⟩ := hk i (kdD k) (by simp [hi])
    unfold kdD RV at hr
    obtain ⟨a1, a2, rfl, r1, r2⟩ := RVs.two hr
    unfold RV at r1 r2
    obtain ⟨rfl, -⟩ := r1
    subst r2
    have := rowAt?_of hc (by simp)
    have hl : ([Value.int .u32 (k.page : Nat)] ++ bC k.sum.l).length = 33 := by simp [bC_length, k.sum.h]
    rw [hl] at this
    exact ⟨b, o, ha, hb, this⟩

theorem sizes_map {α : Type} (f : α → D) (z : Nat) (l : List α) (h : ∀ x, (f x).size = z) : D.sizes (l.map f) = l.length * z := by
  rw [sizes_const _ z (fun e he => by obtain ⟨x, _, rfl⟩ := List.mem_map.1 he; exact h x)]; simp

theorem rowAt?_cells {b o n : Nat} {cs : Array Value} (h : rowAt? w ⟨b, o, none⟩ n = some cs) : CellsAt w b o cs.toList := fun j v hj => by
  have := (rowAt?_cell h).2 j v (by simpa using hj)
  rwa [addr_add] at this

/-- Elements out of what is known of each place. -/
theorem REs.mk {b : Nat} : ∀ (es : List D) (o z : Nat), (∀ e ∈ es, e.size = z) → (∀ (i : Nat) (e : D), es[i]? = some e → ∃ us, RV w I e us ∧ CellsAt w b (o + i * z) us) → REs w I b o es
  | [], _, _, _, _ => by unfold REs; trivial
  | d :: ds, o, z, hz, h => by
    unfold REs
    obtain ⟨us, h1, h2⟩ := h 0 d rfl
    refine ⟨us, h1, by simpa using h2, ?_⟩
    rw [hz d List.mem_cons_self]
    refine REs.mk ds (o + z) z (fun e he => hz e (List.mem_cons_of_mem _ he)) (fun i e hi => ?_)
    obtain ⟨vs, h3, h4⟩ := h (i + 1) e (by simpa using hi)
    exact ⟨vs, h3, by rw [show o + z + i * z = o + (i + 1) * z by rw [Nat.add_mul]; omega]; exact h4⟩
theorem RV.mk_list {es : List D} {a : Option Addr} {c z : Nat} (hz : ∀ e ∈ es, e.size = z) (hc : es.length ≤ c) (h0 : a = none → es = [] ∧ c = 0) (hsp : ∀ x, a = some x → x.spot = none ∧ x.block < w.heap.size ∧ I x.block (x.off + es.length * z))
    (h : ∀ (i : Nat) (e : D), es[i]? = some e → ∃ b o us, a = some ⟨b, o, none⟩ ∧ RV w I e us ∧ CellsAt w b (o + i * z) us) : RV w I (.sl .none es) [.slice a es.length c] := by
  unfold RV
  refine ⟨a, _, c, rfl, rfl, hc, trivial, ?_⟩
  cases a with
  | none => obtain ⟨h1, h2⟩ := h0 rfl; exact .inl ⟨rfl, h1, h2⟩
  | some x =>
    obtain ⟨b, o, sp⟩ := x
    obtain ⟨h1, h2, h3⟩ := hsp _ rfl
    simp only at h1 h2 h3
    subst h1
    refine .inr ⟨b, o, rfl, h2, by rw [sizes_const es z hz]; exact h3, ⟨z, hz⟩, REs.mk es o z hz (fun i e hi => ?_)⟩
    obtain ⟨b', o', us, ha, hr, hcl⟩ := h i e hi
    simp only [Option.some.injEq, Addr.mk.injEq, and_true] at ha
    obtain ⟨rfl, rfl⟩ := ha
    exact ⟨us, hr, hcl⟩
end

end Go.Proofs.YtemicgccgcmmbaaGreat
