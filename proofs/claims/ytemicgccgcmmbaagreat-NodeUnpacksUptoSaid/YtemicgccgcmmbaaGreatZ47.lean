/- The document's reader (values without addresses). -/
import Derived.Test.YtemicgccgcmmbaaGreatZ45
import Derived.Test.YtemicgccgcmmbaaGreatZ46
import Derived.Test.YtemicgccgcmmbaaGreatZ0
import Derived.Test.YtemicgccgcmmbaaGreatZ4
import Derived.Test.YtemicgccgcmmbaaGreatZ27
import Derived.IntWalk
namespace Go.Proofs.YtemicgccgcmmbaaGreat
set_option linter.unusedVariables false
set_option linter.unusedSimpArgs false
open Go Go.RowKit

/-- A reader: its bytes, its place, its fault. -/
@[go_sem] def rrD (s : Bs) (p c : Int) : D := .agg [sD s, iD p, iD c]
/-- What is left of the bytes; nothing: it has failed. -/
def RrIs (s : Bs) (o : Option Bs) (p c : Int) : Prop :=
  match o with
  | some l => c = 0 ∧ ∃ k : Nat, p = k ∧ k + l.length = s.length ∧ l = s.drop k
  | none => c ≠ 0 ∧ ∃ k : Nat, p = k ∧ k ≤ s.length
/-- A reader lies in block b. -/
def RrSt (S : Sto) (b : Nat) (s : Bs) (o : Option Bs) : Prop := ∃ t p c, getM S.bk b = some (t, rrD s p c) ∧ RrIs s o p c
/-- The reader in block b has gone on. -/
def RrTo (S : Sto) (b : Nat) (s : Bs) (o : Option Bs) (S' : Sto) : Prop := ∃ p c, S' = ⟨setM S.bk b (rrD s p c), S.ow⟩ ∧ RrIs s o p c
theorem RrTo.st {S S' : Sto} {b : Nat} {s : Bs} {o o' : Option Bs} (h : RrSt S b s o) (k : RrTo S b s o' S') : RrSt S' b s o' := by
  obtain ⟨t, p, c, h1, _⟩ := h
  obtain ⟨p', c', rfl, h2⟩ := k
  exact ⟨t, p', c', by rw [getM_setM, h1]; rfl, h2⟩
theorem RrTo.trans {S S1 S2 : Sto} {b : Nat} {s : Bs} {o1 o2 : Option Bs} (h : RrTo S b s o1 S1) (k : RrTo S1 b s o2 S2) : RrTo S b s o2 S2 := by
  obtain ⟨p, c, rfl, _⟩ := h
  obtain ⟨p', c', rfl, h2⟩ := k
  exact ⟨p', c', by rw [setM_setM], h2⟩
theorem RrTo.same {S : Sto} {b : Nat} {s : Bs} {o : Option Bs} (h : RrSt S b s o) : RrTo S b s o S := by
  obtain ⟨t, p, c, h1, h2⟩ := h
  exact ⟨p, c, by rw [setM_same h1], h2⟩

def gv {α : Type} (f : Bs → Option (α × Bs)) (d : α) (o : Option Bs) : α := ((o.bind f).map (·.1)).getD d
def gr {α : Type} (f : Bs → Option (α × Bs)) (o : Option Bs) : Option Bs := (o.bind f).map (·.2)

theorem gv_some {α : Type} {f : Bs → Option (α × Bs)} {d x : α} {l l' : Bs} (h : f l = some (x, l')) : gv f d (some l) = x := by simp [gv, h]
theorem gr_some {α : Type} {f : Bs → Option (α × Bs)} {x : α} {l l' : Bs} (h : f l = some (x, l')) : gr f (some l) = some l' := by simp [gr, h]
theorem gv_none {α : Type} {f : Bs → Option (α × Bs)} {d : α} {l : Bs} (h : f l = none) : gv f d (some l) = d := by simp [gv, h]
theorem gr_none {α : Type} {f : Bs → Option (α × Bs)} {l : Bs} (h : f l = none) : gr f (some l) = none := by simp [gr, h]

set_option maxHeartbeats 1000000 in set_option maxRecDepth 100000 in
theorem aLeft (b : Nat) (s : Bs) (p c : Int) (S : Sto) (t : TypeId) (hb : getM S.bk b = some (t, rrD s p c)) (h0 : 0 ≤ p) (h1 : p ≤ s.length) (hs : s.length ≤ 140737488351232) :
    ACalls Tryz.prog 114 [pD b] S (RetQ (iD (s.length - p)) S) := by
  have e : IntKind.i64.wrap ((s.length : Int) - p) = s.length - p := IntWalk.i64_in _ (by omega)
  refine acalls_of prg Tryz.func114 rfl (by kernel_rfl) (congrArg Array.toList Tryz.results114) Tryz.ntmps114 (fun B hB => ?_); simp only [List.length_cons, List.length_nil, Nat.reduceAdd, Nat.reduceSub, List.replicate_succ, List.replicate_zero, List.cons_append, List.nil_append]
  repeat (first | ((first | apply AOps.goP prg | apply ALex.goP prg); (case run => simp only [go_sem, Int.reduceEq, Int.reduceLT, Int.reduceBEq, Int.reduceBNe, Int.reduceNe, Nat.reduceLeDiff, Nat.reduceAdd, Nat.reduceSub, Nat.reduceLT, Nat.reduceEqDiff, Nat.reduceBEq, Int.reduceLE, Int.reduceToNat, hb, e]; rfl); (case mm => simp only [go_sem, Int.reduceEq, Int.reduceLT, Int.reduceBEq, Int.reduceBNe, Int.reduceNe, Nat.reduceLeDiff, Nat.reduceAdd, Nat.reduceSub, Nat.reduceLT, Nat.reduceEqDiff, Nat.reduceBEq, Int.reduceLE, Int.reduceToNat]; rfl); (case pr => rfl)) | (refine AW.seq ?_) | (refine AW.region ?_) | (refine AW.draw prg (by kernel_rfl) ?_) | (refine AOps.nil ?_; try dsimp only [AX.then, AX.inBlock]) | (refine ALex.nil ?_; try dsimp only [AX.then, AX.inBlock]) | (refine AW.condT (by rfl) ?_) | (refine AW.condF (by rfl) ?_) | (refine AW.skip ?_; try dsimp only [AX.then, AX.inBlock]) | (refine AW.ret ?_; try dsimp only [AX.then, AX.inBlock]) | (refine AW.block ?_) | (refine AW.exit ?_; simp only [AX.then, AX.inBlock, if_true, Nat.reduceEqDiff, if_false]))
  first | exact endq (by simp only [go_sem, Int.reduceEq, Int.reduceLT, Int.reduceBEq, Int.reduceBNe, Int.reduceNe, Nat.reduceLeDiff, Nat.reduceAdd, Nat.reduceSub, Nat.reduceLT, Nat.reduceEqDiff, Nat.reduceBEq, Int.reduceLE, Int.reduceToNat]; rfl) (by rfl) (Sto.Sub.refl _) | exact endn (by simp only [go_sem, Int.reduceEq, Int.reduceLT, Int.reduceBEq, Int.reduceBNe, Int.reduceNe, Nat.reduceLeDiff, Nat.reduceAdd, Nat.reduceSub, Nat.reduceLT, Nat.reduceEqDiff, Nat.reduceBEq, Int.reduceLE, Int.reduceToNat]; rfl) (by rfl) (Sto.Sub.refl _)

set_option maxHeartbeats 1000000 in set_option maxRecDepth 100000 in
theorem aFail (b : Nat) (s : Bs) (p c code at_ : Int) (S : Sto) (t : TypeId) (hb : getM S.bk b = some (t, rrD s p c)) :
    ACalls Tryz.prog 115 [pD b, iD code, iD at_] S (RetQ (.tup []) ⟨setM S.bk b (rrD s at_ code), S.ow⟩) := by
  refine acalls_of prg Tryz.func115 rfl (by kernel_rfl) (congrArg Array.toList Tryz.results115) Tryz.ntmps115 (fun B hB => ?_); simp only [List.length_cons, List.length_nil, Nat.reduceAdd, Nat.reduceSub, List.replicate_succ, List.replicate_zero, List.cons_append, List.nil_append]
  repeat (first | ((first | apply AOps.goP prg | apply ALex.goP prg); (case run => simp only [go_sem, Int.reduceEq, Int.reduceLT, Int.reduceBEq, Int.reduceBNe, Int.reduceNe, Nat.reduceLeDiff, Nat.reduceAdd, Nat.reduceSub, Nat.reduceLT, Nat.reduceEqDiff, Nat.reduceBEq, Int.reduceLE, Int.reduceToNat, hb]; rfl); (case mm => simp only [go_sem, Int.reduceEq, Int.reduceLT, Int.reduceBEq, Int.reduceBNe, Int.reduceNe, Nat.reduceLeDiff, Nat.reduceAdd, Nat.reduceSub, Nat.reduceLT, Nat.reduceEqDiff, Nat.reduceBEq, Int.reduceLE, Int.reduceToNat]; rfl); (case pr => rfl)) | (refine AW.seq ?_) | (refine AW.region ?_) | (refine AW.draw prg (by kernel_rfl) ?_) | (refine AOps.nil ?_; try dsimp only [AX.then, AX.inBlock]) | (refine ALex.nil ?_; try dsimp only [AX.then, AX.inBlock]) | (refine AW.condT (by rfl) ?_) | (refine AW.condF (by rfl) ?_) | (refine AW.skip ?_; try dsimp only [AX.then, AX.inBlock]) | (refine AW.ret ?_; try dsimp only [AX.then, AX.inBlock]) | (refine AW.block ?_) | (refine AW.exit ?_; simp only [AX.then, AX.inBlock, if_true, Nat.reduceEqDiff, if_false]))
  first | exact endq (by simp only [go_sem, Int.reduceEq, Int.reduceLT, Int.reduceBEq, Int.reduceBNe, Int.reduceNe, Nat.reduceLeDiff, Nat.reduceAdd, Nat.reduceSub, Nat.reduceLT, Nat.reduceEqDiff, Nat.reduceBEq, Int.reduceLE, Int.reduceToNat]; rfl) (by rfl) (Sto.Sub.refl _) | exact endn (by simp only [go_sem, Int.reduceEq, Int.reduceLT, Int.reduceBEq, Int.reduceBNe, Int.reduceNe, Nat.reduceLeDiff, Nat.reduceAdd, Nat.reduceSub, Nat.reduceLT, Nat.reduceEqDiff, Nat.reduceBEq, Int.reduceLE, Int.reduceToNat]; rfl) (by rfl) (Sto.Sub.refl _)

set_option maxHeartbeats 1000000 in set_option maxRecDepth 100000 in
theorem aRaw (b : Nat) (n : Int) (s : Bs) (o : Option Bs) (S : Sto) (h : RrSt S b s o) (hn : n ≤ 9223372036854775807) (hs : s.length ≤ 140737488351232) :
    ACalls Tryz.prog 118 [pD b, iD n] S (fun e S' => ∃ d, e = .ret d ∧ d = sD (gv (rawP n.toNat) [] o) ∧ RrTo S b s (gr (rawP n.toNat) o) S') := by
  have h0 := h
  obtain ⟨t, p, c, hb, hr⟩ := h
  refine acalls_of prg Tryz.func118 rfl (by kernel_rfl) (congrArg Array.toList Tryz.results118) Tryz.ntmps118 (fun B hB => ?_); simp only [List.length_cons, List.length_nil, Nat.reduceAdd, Nat.reduceSub, List.replicate_succ, List.replicate_zero, List.cons_append, List.nil_append]
  cases o with
  | none =>
    obtain ⟨hc, k, hp, hk⟩ := hr
    have h1 : (c != 0) = true := by simpa using hc
    repeat (first | ((first | apply AOps.goP prg | apply ALex.goP prg); (case run => simp only [go_sem, Int.reduceEq, Int.reduceLT, Int.reduceBEq, Int.reduceBNe, Int.reduceNe, Nat.reduceLeDiff, Nat.reduceAdd, Nat.reduceSub, Nat.reduceLT, Nat.reduceEqDiff, Nat.reduceBEq, Int.reduceLE, Int.reduceToNat, hb, h1]; rfl); (case mm => simp only [go_sem, Int.reduceEq, Int.reduceLT, Int.reduceBEq, Int.reduceBNe, Int.reduceNe, Nat.reduceLeDiff, Nat.reduceAdd, Nat.reduceSub, Nat.reduceLT, Nat.reduceEqDiff, Nat.reduceBEq, Int.reduceLE, Int.reduceToNat]; rfl); (case pr => rfl)) | (refine AW.seq ?_) | (refine AW.region ?_) | (refine AW.draw prg (by kernel_rfl) ?_) | (refine AOps.nil ?_; try dsimp only [AX.then, AX.inBlock]) | (refine ALex.nil ?_; try dsimp only [AX.then, AX.inBlock]) | (refine AW.condT (by rfl) ?_) | (refine AW.condF (by rfl) ?_) | (refine AW.skip ?_; try dsimp only [AX.then, AX.inBlock]) | (refine AW.ret ?_; try dsimp only [AX.then, AX.inBlock]) | (refine AW.block ?_) | (refine AW.exit ?_; simp only [AX.then, AX.inBlock, if_true, Nat.reduceEqDiff, if_false]))
    first | refine endx (by simp only [go_sem, Int.reduceEq, Int.reduceLT, Int.reduceBEq, Int.reduceBNe, Int.reduceNe, Nat.reduceLeDiff, Nat.reduceAdd, Nat.reduceSub, Nat.reduceLT, Nat.reduceEqDiff, Nat.reduceBEq, Int.reduceLE, Int.reduceToNat]; rfl) (by simp only [go_sem, Int.reduceEq, Int.reduceLT, Int.reduceBEq, Int.reduceBNe, Int.reduceNe, Nat.reduceLeDiff, Nat.reduceAdd, Nat.reduceSub, Nat.reduceLT, Nat.reduceEqDiff, Nat.reduceBEq, Int.reduceLE, Int.reduceToNat]; rfl) (Sto.Sub.refl _) ?_ | refine endnx (by simp only [go_sem, Int.reduceEq, Int.reduceLT, Int.reduceBEq, Int.reduceBNe, Int.reduceNe, Nat.reduceLeDiff, Nat.reduceAdd, Nat.reduceSub, Nat.reduceLT, Nat.reduceEqDiff, Nat.reduceBEq, Int.reduceLE, Int.reduceToNat]; rfl) (by simp only [go_sem, Int.reduceEq, Int.reduceLT, Int.reduceBEq, Int.reduceBNe, Int.reduceNe, Nat.reduceLeDiff, Nat.reduceAdd, Nat.reduceSub, Nat.reduceLT, Nat.reduceEqDiff, Nat.reduceBEq, Int.reduceLE, Int.reduceToNat]; rfl) (Sto.Sub.refl _) ?_
    exact ⟨rfl, RrTo.same h0⟩
  | some l =>
    obtain ⟨rfl, k, rfl, hk, hl⟩ := hr
    by_cases hn0 : n ≤ 0
    · have h1 : n.toNat = 0 := by omega
      have h2 : rawP 0 l = some ([], l) := by simp [rawP]
      have d1 : decide (n ≤ 0) = true := decide_eq_true hn0
      repeat (first | ((first | apply AOps.goP prg | apply ALex.goP prg); (case run => simp only [go_sem, Int.reduceEq, Int.reduceLT, Int.reduceBEq, Int.reduceBNe, Int.reduceNe, Nat.reduceLeDiff, Nat.reduceAdd, Nat.reduceSub, Nat.reduceLT, Nat.reduceEqDiff, Nat.reduceBEq, Int.reduceLE, Int.reduceToNat, hb, d1]; rfl); (case mm => simp only [go_sem, Int.reduceEq, Int.reduceLT, Int.reduceBEq, Int.reduceBNe, Int.reduceNe, Nat.reduceLeDiff, Nat.reduceAdd, Nat.reduceSub, Nat.reduceLT, Nat.reduceEqDiff, Nat.reduceBEq, Int.reduceLE, Int.reduceToNat]; rfl); (case pr => rfl)) | (refine AW.seq ?_) | (refine AW.region ?_) | (refine AW.draw prg (by kernel_rfl) ?_) | (refine AOps.nil ?_; try dsimp only [AX.then, AX.inBlock]) | (refine ALex.nil ?_; try dsimp only [AX.then, AX.inBlock]) | (refine AW.condT (by rfl) ?_) | (refine AW.condF (by rfl) ?_) | (refine AW.skip ?_; try dsimp only [AX.then, AX.inBlock]) | (refine AW.ret ?_; try dsimp only [AX.then, AX.inBlock]) | (refine AW.block ?_) | (refine AW.exit ?_; simp only [AX.then, AX.inBlock, if_true, Nat.reduceEqDiff, if_false]))
      first | refine endx (by simp only [go_sem, Int.reduceEq, Int.reduceLT, Int.reduceBEq, Int.reduceBNe, Int.reduceNe, Nat.reduceLeDiff, Nat.reduceAdd, Nat.reduceSub, Nat.reduceLT, Nat.reduceEqDiff, Nat.reduceBEq, Int.reduceLE, Int.reduceToNat]; rfl) (by simp only [go_sem, Int.reduceEq, Int.reduceLT, Int.reduceBEq, Int.reduceBNe, Int.reduceNe, Nat.reduceLeDiff, Nat.reduceAdd, Nat.reduceSub, Nat.reduceLT, Nat.reduceEqDiff, Nat.reduceBEq, Int.reduceLE, Int.reduceToNat]; rfl) (Sto.Sub.refl _) ?_ | refine endnx (by simp only [go_sem, Int.reduceEq, Int.reduceLT, Int.reduceBEq, Int.reduceBNe, Int.reduceNe, Nat.reduceLeDiff, Nat.reduceAdd, Nat.reduceSub, Nat.reduceLT, Nat.reduceEqDiff, Nat.reduceBEq, Int.reduceLE, Int.reduceToNat]; rfl) (by simp only [go_sem, Int.reduceEq, Int.reduceLT, Int.reduceBEq, Int.reduceBNe, Int.reduceNe, Nat.reduceLeDiff, Nat.reduceAdd, Nat.reduceSub, Nat.reduceLT, Nat.reduceEqDiff, Nat.reduceBEq, Int.reduceLE, Int.reduceToNat]; rfl) (Sto.Sub.refl _) ?_
      rw [h1]
      have h3 : gr (rawP 0) (some l) = some l := by simp [gr, h2]
      rw [h3]
      exact ⟨by simp [gv, h2], RrTo.same h0⟩
    · obtain ⟨m, rfl⟩ := Int.eq_ofNat_of_zero_le (show 0 ≤ n by omega)
      have d1 : decide ((m : Int) ≤ 0) = false := decide_eq_false hn0
      repeat (first | ((first | apply AOps.goP prg | apply ALex.goP prg); (case run => simp only [go_sem, Int.reduceEq, Int.reduceLT, Int.reduceBEq, Int.reduceBNe, Int.reduceNe, Nat.reduceLeDiff, Nat.reduceAdd, Nat.reduceSub, Nat.reduceLT, Nat.reduceEqDiff, Nat.reduceBEq, Int.reduceLE, Int.reduceToNat, hb, d1]; rfl); (case mm => simp only [go_sem, Int.reduceEq, Int.reduceLT, Int.reduceBEq, Int.reduceBNe, Int.reduceNe, Nat.reduceLeDiff, Nat.reduceAdd, Nat.reduceSub, Nat.reduceLT, Nat.reduceEqDiff, Nat.reduceBEq, Int.reduceLE, Int.reduceToNat]; rfl); (case pr => rfl)) | (refine AW.seq ?_) | (refine AW.region ?_) | (refine AW.draw prg (by kernel_rfl) ?_) | (refine AOps.nil ?_; try dsimp only [AX.then, AX.inBlock]) | (refine ALex.nil ?_; try dsimp only [AX.then, AX.inBlock]) | (refine AW.condT (by rfl) ?_) | (refine AW.condF (by rfl) ?_) | (refine AW.skip ?_; try dsimp only [AX.then, AX.inBlock]) | (refine AW.ret ?_; try dsimp only [AX.then, AX.inBlock]) | (refine AW.block ?_) | (refine AW.exit ?_; simp only [AX.then, AX.inBlock, if_true, Nat.reduceEqDiff, if_false]))
      (first | refine AOps.callq (by rfl) (by rfl) (by exact (aLeft b s k 0 S t hb (by omega) (by omega) hs)) ?_ | refine ALex.callq (by rfl) (by rfl) (by exact (aLeft b s k 0 S t hb (by omega) (by omega) hs)) ?_)
      by_cases hle : m ≤ l.length
      · have d2 : decide ((s.length : Int) - k < m) = false := decide_eq_false (by omega)
        have e1 : IntKind.i64.wrap ((k : Int) + m) = ((k + m : Nat) : Int) := IntWalk.i64_in _ (by omega)
        have e2 : rawP m l = some (l.take m, l.drop m) := by simp [rawP, hle]
        have e3 : k + m - k = m := by omega
        have c1 : (0 : Int) ≤ ((k + m : Nat) : Int) := by omega
        have c2 : (0 : Int) ≤ (k : Int) := by omega
        have c3 : k ≤ k + m ∧ k + m ≤ s.length := by omega
        repeat (first | ((first | apply AOps.goP prg | apply ALex.goP prg); (case run => simp only [go_sem, Int.reduceEq, Int.reduceLT, Int.reduceBEq, Int.reduceBNe, Int.reduceNe, Nat.reduceLeDiff, Nat.reduceAdd, Nat.reduceSub, Nat.reduceLT, Nat.reduceEqDiff, Nat.reduceBEq, Int.reduceLE, Int.reduceToNat, hb, d2, e1, e3, c1, c2, c3, Int.toNat_natCast]; rfl); (case mm => simp only [go_sem, Int.reduceEq, Int.reduceLT, Int.reduceBEq, Int.reduceBNe, Int.reduceNe, Nat.reduceLeDiff, Nat.reduceAdd, Nat.reduceSub, Nat.reduceLT, Nat.reduceEqDiff, Nat.reduceBEq, Int.reduceLE, Int.reduceToNat]; rfl); (case pr => rfl)) | (refine AW.seq ?_) | (refine AW.region ?_) | (refine AW.draw prg (by kernel_rfl) ?_) | (refine AOps.nil ?_; try dsimp only [AX.then, AX.inBlock]) | (refine ALex.nil ?_; try dsimp only [AX.then, AX.inBlock]) | (refine AW.condT (by rfl) ?_) | (refine AW.condF (by rfl) ?_) | (refine AW.skip ?_; try dsimp only [AX.then, AX.inBlock]) | (refine AW.ret ?_; try dsimp only [AX.then, AX.inBlock]) | (refine AW.block ?_) | (refine AW.exit ?_; simp only [AX.then, AX.inBlock, if_true, Nat.reduceEqDiff, if_false]))
        first | refine endx (by simp only [go_sem, Int.reduceEq, Int.reduceLT, Int.reduceBEq, Int.reduceBNe, Int.reduceNe, Nat.reduceLeDiff, Nat.reduceAdd, Nat.reduceSub, Nat.reduceLT, Nat.reduceEqDiff, Nat.reduceBEq, Int.reduceLE, Int.reduceToNat]; rfl) (by simp only [go_sem, Int.reduceEq, Int.reduceLT, Int.reduceBEq, Int.reduceBNe, Int.reduceNe, Nat.reduceLeDiff, Nat.reduceAdd, Nat.reduceSub, Nat.reduceLT, Nat.reduceEqDiff, Nat.reduceBEq, Int.reduceLE, Int.reduceToNat]; rfl) (Sto.Sub.refl _) ?_ | refine endnx (by simp only [go_sem, Int.reduceEq, Int.reduceLT, Int.reduceBEq, Int.reduceBNe, Int.reduceNe, Nat.reduceLeDiff, Nat.reduceAdd, Nat.reduceSub, Nat.reduceLT, Nat.reduceEqDiff, Nat.reduceBEq, Int.reduceLE, Int.reduceToNat]; rfl) (by simp only [go_sem, Int.reduceEq, Int.reduceLT, Int.reduceBEq, Int.reduceBNe, Int.reduceNe, Nat.reduceLeDiff, Nat.reduceAdd, Nat.reduceSub, Nat.reduceLT, Nat.reduceEqDiff, Nat.reduceBEq, Int.reduceLE, Int.reduceToNat]; rfl) (Sto.Sub.refl _) ?_
        rw [Int.toNat_natCast, gv_some e2, gr_some e2]
        exact ⟨by rw [hl], k + m, 0, rfl, rfl, k + m, rfl, by simp; omega, by rw [hl, List.drop_drop]⟩
      · have d2 : decide ((s.length : Int) - k < m) = true := decide_eq_true (by omega)
        have e2 : rawP m l = none := by simp [rawP, hle]
        repeat (first | ((first | apply AOps.goP prg | apply ALex.goP prg); (case run => simp only [go_sem, Int.reduceEq, Int.reduceLT, Int.reduceBEq, Int.reduceBNe, Int.reduceNe, Nat.reduceLeDiff, Nat.reduceAdd, Nat.reduceSub, Nat.reduceLT, Nat.reduceEqDiff, Nat.reduceBEq, Int.reduceLE, Int.reduceToNat, hb, d2]; rfl); (case mm => simp only [go_sem, Int.reduceEq, Int.reduceLT, Int.reduceBEq, Int.reduceBNe, Int.reduceNe, Nat.reduceLeDiff, Nat.reduceAdd, Nat.reduceSub, Nat.reduceLT, Nat.reduceEqDiff, Nat.reduceBEq, Int.reduceLE, Int.reduceToNat]; rfl); (case pr => rfl)) | (refine AW.seq ?_) | (refine AW.region ?_) | (refine AW.draw prg (by kernel_rfl) ?_) | (refine AOps.nil ?_; try dsimp only [AX.then, AX.inBlock]) | (refine ALex.nil ?_; try dsimp only [AX.then, AX.inBlock]) | (refine AW.condT (by rfl) ?_) | (refine AW.condF (by rfl) ?_) | (refine AW.skip ?_; try dsimp only [AX.then, AX.inBlock]) | (refine AW.ret ?_; try dsimp only [AX.then, AX.inBlock]) | (refine AW.block ?_) | (refine AW.exit ?_; simp only [AX.then, AX.inBlock, if_true, Nat.reduceEqDiff, if_false]))
        (first | refine AOps.callq (by rfl) (by rfl) (by exact (aFail b s k 0 10 k S t hb)) ?_ | refine ALex.callq (by rfl) (by rfl) (by exact (aFail b s k 0 10 k S t hb)) ?_)
        repeat (first | ((first | apply AOps.goP prg | apply ALex.goP prg); (case run => simp only [go_sem, Int.reduceEq, Int.reduceLT, Int.reduceBEq, Int.reduceBNe, Int.reduceNe, Nat.reduceLeDiff, Nat.reduceAdd, Nat.reduceSub, Nat.reduceLT, Nat.reduceEqDiff, Nat.reduceBEq, Int.reduceLE, Int.reduceToNat, hb]; rfl); (case mm => simp only [go_sem, Int.reduceEq, Int.reduceLT, Int.reduceBEq, Int.reduceBNe, Int.reduceNe, Nat.reduceLeDiff, Nat.reduceAdd, Nat.reduceSub, Nat.reduceLT, Nat.reduceEqDiff, Nat.reduceBEq, Int.reduceLE, Int.reduceToNat]; rfl); (case pr => rfl)) | (refine AW.seq ?_) | (refine AW.region ?_) | (refine AW.draw prg (by kernel_rfl) ?_) | (refine AOps.nil ?_; try dsimp only [AX.then, AX.inBlock]) | (refine ALex.nil ?_; try dsimp only [AX.then, AX.inBlock]) | (refine AW.condT (by rfl) ?_) | (refine AW.condF (by rfl) ?_) | (refine AW.skip ?_; try dsimp only [AX.then, AX.inBlock]) | (refine AW.ret ?_; try dsimp only [AX.then, AX.inBlock]) | (refine AW.block ?_) | (refine AW.exit ?_; simp only [AX.then, AX.inBlock, if_true, Nat.reduceEqDiff, if_false]))
        first | refine endx (by simp only [go_sem, Int.reduceEq, Int.reduceLT, Int.reduceBEq, Int.reduceBNe, Int.reduceNe, Nat.reduceLeDiff, Nat.reduceAdd, Nat.reduceSub, Nat.reduceLT, Nat.reduceEqDiff, Nat.reduceBEq, Int.reduceLE, Int.reduceToNat]; rfl) (by simp only [go_sem, Int.reduceEq, Int.reduceLT, Int.reduceBEq, Int.reduceBNe, Int.reduceNe, Nat.reduceLeDiff, Nat.reduceAdd, Nat.reduceSub, Nat.reduceLT, Nat.reduceEqDiff, Nat.reduceBEq, Int.reduceLE, Int.reduceToNat]; rfl) (Sto.Sub.refl _) ?_ | refine endnx (by simp only [go_sem, Int.reduceEq, Int.reduceLT, Int.reduceBEq, Int.reduceBNe, Int.reduceNe, Nat.reduceLeDiff, Nat.reduceAdd, Nat.reduceSub, Nat.reduceLT, Nat.reduceEqDiff, Nat.reduceBEq, Int.reduceLE, Int.reduceToNat]; rfl) (by simp only [go_sem, Int.reduceEq, Int.reduceLT, Int.reduceBEq, Int.reduceBNe, Int.reduceNe, Nat.reduceLeDiff, Nat.reduceAdd, Nat.reduceSub, Nat.reduceLT, Nat.reduceEqDiff, Nat.reduceBEq, Int.reduceLE, Int.reduceToNat]; rfl) (Sto.Sub.refl _) ?_
        rw [Int.toNat_natCast, gv_none e2, gr_none e2]
        exact ⟨rfl, k, 10, rfl, by omega, k, rfl, by omega⟩

set_option maxHeartbeats 1000000 in set_option maxRecDepth 100000 in
theorem aTake (b n : Nat) (s : Bs) (o : Option Bs) (S : Sto) (h : RrSt S b s o) (hs : s.length ≤ 140737488351232) (hn : n ≤ 4) (hn1 : 1 ≤ n) :
    ACalls Tryz.prog 74 [pD b, iD n] S (fun e S' => ∃ d, e = .ret d ∧ d = uD (gv (takeP n) 0 o : Nat) ∧ RrTo S b s (gr (takeP n) o) S') := by
  have h0 := h
  obtain ⟨t, p, c, hb, hr⟩ := h
  refine acalls_of prg Tryz.func74 rfl (by kernel_rfl) (congrArg Array.toList Tryz.results74) Tryz.ntmps74 (fun B hB => ?_); simp only [List.length_cons, List.length_nil, Nat.reduceAdd, Nat.reduceSub, List.replicate_succ, List.replicate_zero, List.cons_append, List.nil_append]
  cases o with
  | none =>
    obtain ⟨hc, k, hp, hk⟩ := hr
    have h1 : (c != 0) = true := by simpa using hc
    repeat (first | ((first | apply AOps.goP prg | apply ALex.goP prg); (case run => simp only [go_sem, Int.reduceEq, Int.reduceLT, Int.reduceBEq, Int.reduceBNe, Int.reduceNe, Nat.reduceLeDiff, Nat.reduceAdd, Nat.reduceSub, Nat.reduceLT, Nat.reduceEqDiff, Nat.reduceBEq, Int.reduceLE, Int.reduceToNat, hb, h1]; rfl); (case mm => simp only [go_sem, Int.reduceEq, Int.reduceLT, Int.reduceBEq, Int.reduceBNe, Int.reduceNe, Nat.reduceLeDiff, Nat.reduceAdd, Nat.reduceSub, Nat.reduceLT, Nat.reduceEqDiff, Nat.reduceBEq, Int.reduceLE, Int.reduceToNat]; rfl); (case pr => rfl)) | (refine AW.seq ?_) | (refine AW.region ?_) | (refine AW.draw prg (by kernel_rfl) ?_) | (refine AOps.nil ?_; try dsimp only [AX.then, AX.inBlock]) | (refine ALex.nil ?_; try dsimp only [AX.then, AX.inBlock]) | (refine AW.condT (by rfl) ?_) | (refine AW.condF (by rfl) ?_) | (refine AW.skip ?_; try dsimp only [AX.then, AX.inBlock]) | (refine AW.ret ?_; try dsimp only [AX.then, AX.inBlock]) | (refine AW.block ?_) | (refine AW.exit ?_; simp only [AX.then, AX.inBlock, if_true, Nat.reduceEqDiff, if_false]))
    first | refine endx (by simp only [go_sem, Int.reduceEq, Int.reduceLT, Int.reduceBEq, Int.reduceBNe, Int.reduceNe, Nat.reduceLeDiff, Nat.reduceAdd, Nat.reduceSub, Nat.reduceLT, Nat.reduceEqDiff, Nat.reduceBEq, Int.reduceLE, Int.reduceToNat]; rfl) (by simp only [go_sem, Int.reduceEq, Int.reduceLT, Int.reduceBEq, Int.reduceBNe, Int.reduceNe, Nat.reduceLeDiff, Nat.reduceAdd, Nat.reduceSub, Nat.reduceLT, Nat.reduceEqDiff, Nat.reduceBEq, Int.reduceLE, Int.reduceToNat]; rfl) (Sto.Sub.refl _) ?_ | refine endnx (by simp only [go_sem, Int.reduceEq, Int.reduceLT, Int.reduceBEq, Int.reduceBNe, Int.reduceNe, Nat.reduceLeDiff, Nat.reduceAdd, Nat.reduceSub, Nat.reduceLT, Nat.reduceEqDiff, Nat.reduceBEq, Int.reduceLE, Int.reduceToNat]; rfl) (by simp only [go_sem, Int.reduceEq, Int.reduceLT, Int.reduceBEq, Int.reduceBNe, Int.reduceNe, Nat.reduceLeDiff, Nat.reduceAdd, Nat.reduceSub, Nat.reduceLT, Nat.reduceEqDiff, Nat.reduceBEq, Int.reduceLE, Int.reduceToNat]; rfl) (Sto.Sub.refl _) ?_
    exact ⟨rfl, RrTo.same h0⟩
  | some l =>
    obtain ⟨rfl, k, rfl, hk, hl⟩ := hr
    have d0 : ((0 : Int) != 0) = false := rfl
    repeat (first | ((first | apply AOps.goP prg | apply ALex.goP prg); (case run => simp only [go_sem, Int.reduceEq, Int.reduceLT, Int.reduceBEq, Int.reduceBNe, Int.reduceNe, Nat.reduceLeDiff, Nat.reduceAdd, Nat.reduceSub, Nat.reduceLT, Nat.reduceEqDiff, Nat.reduceBEq, Int.reduceLE, Int.reduceToNat, hb, d0]; rfl); (case mm => simp only [go_sem, Int.reduceEq, Int.reduceLT, Int.reduceBEq, Int.reduceBNe, Int.reduceNe, Nat.reduceLeDiff, Nat.reduceAdd, Nat.reduceSub, Nat.reduceLT, Nat.reduceEqDiff, Nat.reduceBEq, Int.reduceLE, Int.reduceToNat]; rfl); (case pr => rfl)) | (refine AW.seq ?_) | (refine AW.region ?_) | (refine AW.draw prg (by kernel_rfl) ?_) | (refine AOps.nil ?_; try dsimp only [AX.then, AX.inBlock]) | (refine ALex.nil ?_; try dsimp only [AX.then, AX.inBlock]) | (refine AW.condT (by rfl) ?_) | (refine AW.condF (by rfl) ?_) | (refine AW.skip ?_; try dsimp only [AX.then, AX.inBlock]) | (refine AW.ret ?_; try dsimp only [AX.then, AX.inBlock]) | (refine AW.block ?_) | (refine AW.exit ?_; simp only [AX.then, AX.inBlock, if_true, Nat.reduceEqDiff, if_false]))
    (first | refine AOps.callq (by rfl) (by rfl) (by exact (aLeft b s k 0 S t hb (by omega) (by omega) hs)) ?_ | refine ALex.callq (by rfl) (by rfl) (by exact (aLeft b s k 0 S t hb (by omega) (by omega) hs)) ?_)
    by_cases hle : n ≤ l.length
    · have d2 : decide ((s.length : Int) - k < n) = false := decide_eq_false (by omega)
      repeat (first | ((first | apply AOps.goP prg | apply ALex.goP prg); (case run => simp only [go_sem, Int.reduceEq, Int.reduceLT, Int.reduceBEq, Int.reduceBNe, Int.reduceNe, Nat.reduceLeDiff, Nat.reduceAdd, Nat.reduceSub, Nat.reduceLT, Nat.reduceEqDiff, Nat.reduceBEq, Int.reduceLE, Int.reduceToNat, hb, d2]; rfl); (case mm => simp only [go_sem, Int.reduceEq, Int.reduceLT, Int.reduceBEq, Int.reduceBNe, Int.reduceNe, Nat.reduceLeDiff, Nat.reduceAdd, Nat.reduceSub, Nat.reduceLT, Nat.reduceEqDiff, Nat.reduceBEq, Int.reduceLE, Int.reduceToNat]; rfl); (case pr => rfl)) | (refine AW.seq ?_) | (refine AW.region ?_) | (refine AW.draw prg (by kernel_rfl) ?_) | (refine AOps.nil ?_; try dsimp only [AX.then, AX.inBlock]) | (refine ALex.nil ?_; try dsimp only [AX.then, AX.inBlock]) | (refine AW.condT (by rfl) ?_) | (refine AW.condF (by rfl) ?_) | (refine AW.skip ?_; try dsimp only [AX.then, AX.inBlock]) | (refine AW.ret ?_; try dsimp only [AX.then, AX.inBlock]) | (refine AW.block ?_) | (refine AW.exit ?_; simp only [AX.then, AX.inBlock, if_true, Nat.reduceEqDiff, if_false]))
      refine AW.loopS 7 [5, 6] (fun xs S' => ∃ j y : Nat, xs = [uD y, iD j] ∧ S = S' ∧ j ≤ n ∧ y < 4294967296 ∧ y = be (l.take j) 0) (fun xs _ => n - nI (xs.getD 1 .any)) [uD 0, iD 0] S ?_ (Sto.Sub.refl _) ⟨0, 0, rfl, rfl, by omega, by omega, by simp [be]⟩ ?_
      · simp only [go_sem, Int.reduceEq, Int.reduceLT, Int.reduceBEq, Int.reduceBNe, Int.reduceNe, Nat.reduceLeDiff, Nat.reduceAdd, Nat.reduceSub, Nat.reduceLT, Nat.reduceEqDiff, Nat.reduceBEq, Int.reduceLE, Int.reduceToNat, weakA, or_true, true_or, and_self]
      rintro xs S' ⟨j, y, rfl, rfl, hj, hy, hbe⟩
      apply AW.frame; case fr => (simp only [go_sem, Int.reduceEq, Int.reduceLT, Int.reduceBEq, Int.reduceBNe, Int.reduceNe, Nat.reduceLeDiff, Nat.reduceAdd, Nat.reduceSub, Nat.reduceLT, Nat.reduceEqDiff, Nat.reduceBEq, Int.reduceLE, Int.reduceToNat]; rfl)
      by_cases hjn : j < n
      · have d3 : decide ((j : Int) < n) = true := decide_eq_true (by omega)
        have hkj : k + j < s.length := by omega
        obtain ⟨u, hu⟩ : ∃ u, s[k + j]? = some u := ⟨_, List.getElem?_eq_getElem hkj⟩
        have hu2 : l[j]? = some u := by rw [hl, List.getElem?_drop]; exact hu
        have hN : be (l.take (j + 1)) 0 = y * 256 + u.toNat := by rw [List.take_add_one, hu2, hbe]; exact be_app (l.take j) [u] 0
        have hlt4 : be (l.take (j + 1)) 0 < 4294967296 := by
          have h1 := be_lt (l.take (j + 1))
          have hln : (l.take (j + 1)).length = j + 1 := by rw [List.length_take]; omega
          rw [hln] at h1
          have h2 : (256 : Nat) ^ (j + 1) ≤ 256 ^ 4 := Nat.pow_le_pow_right (by omega) (by omega)
          omega
        have hul := u.toNat_lt
        have f1 : IntKind.i64.wrap ((k : Int) + j) = ((k + j : Nat) : Int) := IntWalk.i64_in _ (by omega)
        have f2 : IntKind.u64.wrap ((y : Int) * 256) = (y : Int) * 256 := by rw [IntKind.wrap_u64]; omega
        have f3 : IntKind.u64.wrap (u.toNat : Int) = u.toNat := by rw [IntKind.wrap_u64]; omega
        have f4 : IntKind.u64.wrap ((y : Int) * 256 + u.toNat) = ((y * 256 + u.toNat : Nat) : Int) := by rw [IntKind.wrap_u64]; omega
        have f5 : IntKind.i64.wrap ((j : Int) + 1) = ((j + 1 : Nat) : Int) := IntWalk.i64_in _ (by omega)
        have f6 : (0 : Int) ≤ ((k + j : Nat) : Int) := by omega
        repeat (first | ((first | apply AOps.goP prg | apply ALex.goP prg); (case run => simp only [go_sem, Int.reduceEq, Int.reduceLT, Int.reduceBEq, Int.reduceBNe, Int.reduceNe, Nat.reduceLeDiff, Nat.reduceAdd, Nat.reduceSub, Nat.reduceLT, Nat.reduceEqDiff, Nat.reduceBEq, Int.reduceLE, Int.reduceToNat, hb, d3, f1, f2, f3, f4, f5, f6, Int.toNat_natCast, hu]; rfl); (case mm => simp only [go_sem, Int.reduceEq, Int.reduceLT, Int.reduceBEq, Int.reduceBNe, Int.reduceNe, Nat.reduceLeDiff, Nat.reduceAdd, Nat.reduceSub, Nat.reduceLT, Nat.reduceEqDiff, Nat.reduceBEq, Int.reduceLE, Int.reduceToNat]; rfl); (case pr => rfl)) | (refine AW.seq ?_) | (refine AW.region ?_) | (refine AW.draw prg (by kernel_rfl) ?_) | (refine AOps.nil ?_; try dsimp only [AX.then, AX.inBlock]) | (refine ALex.nil ?_; try dsimp only [AX.then, AX.inBlock]) | (refine AW.condT (by rfl) ?_) | (refine AW.condF (by rfl) ?_) | (refine AW.skip ?_; try dsimp only [AX.then, AX.inBlock]) | (refine AW.ret ?_; try dsimp only [AX.then, AX.inBlock]) | (refine AW.block ?_) | (refine AW.exit ?_; simp only [AX.then, AX.inBlock, if_true, Nat.reduceEqDiff, if_false]))
        refine ⟨[uD (y * 256 + u.toNat : Nat), iD (j + 1 : Nat)], S, ?_, Sto.Sub.refl _, ⟨j + 1, _, rfl, rfl, by omega, by rw [← hN]; exact hlt4, hN.symm⟩, ?_⟩
        · simp only [go_sem, Int.reduceEq, Int.reduceLT, Int.reduceBEq, Int.reduceBNe, Int.reduceNe, Nat.reduceLeDiff, Nat.reduceAdd, Nat.reduceSub, Nat.reduceLT, Nat.reduceEqDiff, Nat.reduceBEq, Int.reduceLE, Int.reduceToNat, weakA, or_true, true_or, and_self]
        · simp only [go_sem, Int.reduceEq, Int.reduceLT, Int.reduceBEq, Int.reduceBNe, Int.reduceNe, Nat.reduceLeDiff, Nat.reduceAdd, Nat.reduceSub, Nat.reduceLT, Nat.reduceEqDiff, Nat.reduceBEq, Int.reduceLE, Int.reduceToNat, Int.toNat_natCast]; omega
      · have d3 : decide ((j : Int) < n) = false := decide_eq_false (by omega)
        obtain rfl : j = n := by omega
        have f1 : IntKind.i64.wrap ((k : Int) + j) = ((k + j : Nat) : Int) := IntWalk.i64_in _ (by omega)
        have e2 : takeP j l = some (be (l.take j) 0, l.drop j) := by simp [takeP, hle]
        repeat (first | ((first | apply AOps.goP prg | apply ALex.goP prg); (case run => simp only [go_sem, Int.reduceEq, Int.reduceLT, Int.reduceBEq, Int.reduceBNe, Int.reduceNe, Nat.reduceLeDiff, Nat.reduceAdd, Nat.reduceSub, Nat.reduceLT, Nat.reduceEqDiff, Nat.reduceBEq, Int.reduceLE, Int.reduceToNat, hb, d3, f1]; rfl); (case mm => simp only [go_sem, Int.reduceEq, Int.reduceLT, Int.reduceBEq, Int.reduceBNe, Int.reduceNe, Nat.reduceLeDiff, Nat.reduceAdd, Nat.reduceSub, Nat.reduceLT, Nat.reduceEqDiff, Nat.reduceBEq, Int.reduceLE, Int.reduceToNat]; rfl); (case pr => rfl)) | (refine AW.seq ?_) | (refine AW.region ?_) | (refine AW.draw prg (by kernel_rfl) ?_) | (refine AOps.nil ?_; try dsimp only [AX.then, AX.inBlock]) | (refine ALex.nil ?_; try dsimp only [AX.then, AX.inBlock]) | (refine AW.condT (by rfl) ?_) | (refine AW.condF (by rfl) ?_) | (refine AW.skip ?_; try dsimp only [AX.then, AX.inBlock]) | (refine AW.ret ?_; try dsimp only [AX.then, AX.inBlock]) | (refine AW.block ?_) | (refine AW.exit ?_; simp only [AX.then, AX.inBlock, if_true, Nat.reduceEqDiff, if_false]))
        first | refine endx (by simp only [go_sem, Int.reduceEq, Int.reduceLT, Int.reduceBEq, Int.reduceBNe, Int.reduceNe, Nat.reduceLeDiff, Nat.reduceAdd, Nat.reduceSub, Nat.reduceLT, Nat.reduceEqDiff, Nat.reduceBEq, Int.reduceLE, Int.reduceToNat]; rfl) (by simp only [go_sem, Int.reduceEq, Int.reduceLT, Int.reduceBEq, Int.reduceBNe, Int.reduceNe, Nat.reduceLeDiff, Nat.reduceAdd, Nat.reduceSub, Nat.reduceLT, Nat.reduceEqDiff, Nat.reduceBEq, Int.reduceLE, Int.reduceToNat]; rfl) (Sto.Sub.refl _) ?_ | refine endnx (by simp only [go_sem, Int.reduceEq, Int.reduceLT, Int.reduceBEq, Int.reduceBNe, Int.reduceNe, Nat.reduceLeDiff, Nat.reduceAdd, Nat.reduceSub, Nat.reduceLT, Nat.reduceEqDiff, Nat.reduceBEq, Int.reduceLE, Int.reduceToNat]; rfl) (by simp only [go_sem, Int.reduceEq, Int.reduceLT, Int.reduceBEq, Int.reduceBNe, Int.reduceNe, Nat.reduceLeDiff, Nat.reduceAdd, Nat.reduceSub, Nat.reduceLT, Nat.reduceEqDiff, Nat.reduceBEq, Int.reduceLE, Int.reduceToNat]; rfl) (Sto.Sub.refl _) ?_
        rw [gv_some e2, gr_some e2, ← hbe]
        exact ⟨rfl, _, 0, rfl, rfl, k + j, rfl, by simp; omega, by rw [hl, List.drop_drop]⟩
    · have d2 : decide ((s.length : Int) - k < n) = true := decide_eq_true (by omega)
      have e2 : takeP n l = none := by simp [takeP, hle]
      repeat (first | ((first | apply AOps.goP prg | apply ALex.goP prg); (case run => simp only [go_sem, Int.reduceEq, Int.reduceLT, Int.reduceBEq, Int.reduceBNe, Int.reduceNe, Nat.reduceLeDiff, Nat.reduceAdd, Nat.reduceSub, Nat.reduceLT, Nat.reduceEqDiff, Nat.reduceBEq, Int.reduceLE, Int.reduceToNat, hb, d2]; rfl); (case mm => simp only [go_sem, Int.reduceEq, Int.reduceLT, Int.reduceBEq, Int.reduceBNe, Int.reduceNe, Nat.reduceLeDiff, Nat.reduceAdd, Nat.reduceSub, Nat.reduceLT, Nat.reduceEqDiff, Nat.reduceBEq, Int.reduceLE, Int.reduceToNat]; rfl); (case pr => rfl)) | (refine AW.seq ?_) | (refine AW.region ?_) | (refine AW.draw prg (by kernel_rfl) ?_) | (refine AOps.nil ?_; try dsimp only [AX.then, AX.inBlock]) | (refine ALex.nil ?_; try dsimp only [AX.then, AX.inBlock]) | (refine AW.condT (by rfl) ?_) | (refine AW.condF (by rfl) ?_) | (refine AW.skip ?_; try dsimp only [AX.then, AX.inBlock]) | (refine AW.ret ?_; try dsimp only [AX.then, AX.inBlock]) | (refine AW.block ?_) | (refine AW.exit ?_; simp only [AX.then, AX.inBlock, if_true, Nat.reduceEqDiff, if_false]))
      (first | refine AOps.callq (by rfl) (by rfl) (by exact (aFail b s k 0 10 k S t hb)) ?_ | refine ALex.callq (by rfl) (by rfl) (by exact (aFail b s k 0 10 k S t hb)) ?_)
      repeat (first | ((first | apply AOps.goP prg | apply ALex.goP prg); (case run => simp only [go_sem, Int.reduceEq, Int.reduceLT, Int.reduceBEq, Int.reduceBNe, Int.reduceNe, Nat.reduceLeDiff, Nat.reduceAdd, Nat.reduceSub, Nat.reduceLT, Nat.reduceEqDiff, Nat.reduceBEq, Int.reduceLE, Int.reduceToNat, hb]; rfl); (case mm => simp only [go_sem, Int.reduceEq, Int.reduceLT, Int.reduceBEq, Int.reduceBNe, Int.reduceNe, Nat.reduceLeDiff, Nat.reduceAdd, Nat.reduceSub, Nat.reduceLT, Nat.reduceEqDiff, Nat.reduceBEq, Int.reduceLE, Int.reduceToNat]; rfl); (case pr => rfl)) | (refine AW.seq ?_) | (refine AW.region ?_) | (refine AW.draw prg (by kernel_rfl) ?_) | (refine AOps.nil ?_; try dsimp only [AX.then, AX.inBlock]) | (refine ALex.nil ?_; try dsimp only [AX.then, AX.inBlock]) | (refine AW.condT (by rfl) ?_) | (refine AW.condF (by rfl) ?_) | (refine AW.skip ?_; try dsimp only [AX.then, AX.inBlock]) | (refine AW.ret ?_; try dsimp only [AX.then, AX.inBlock]) | (refine AW.block ?_) | (refine AW.exit ?_; simp only [AX.then, AX.inBlock, if_true, Nat.reduceEqDiff, if_false]))
      first | refine endx (by simp only [go_sem, Int.reduceEq, Int.reduceLT, Int.reduceBEq, Int.reduceBNe, Int.reduceNe, Nat.reduceLeDiff, Nat.reduceAdd, Nat.reduceSub, Nat.reduceLT, Nat.reduceEqDiff, Nat.reduceBEq, Int.reduceLE, Int.reduceToNat]; rfl) (by simp only [go_sem, Int.reduceEq, Int.reduceLT, Int.reduceBEq, Int.reduceBNe, Int.reduceNe, Nat.reduceLeDiff, Nat.reduceAdd, Nat.reduceSub, Nat.reduceLT, Nat.reduceEqDiff, Nat.reduceBEq, Int.reduceLE, Int.reduceToNat]; rfl) (Sto.Sub.refl _) ?_ | refine endnx (by simp only [go_sem, Int.reduceEq, Int.reduceLT, Int.reduceBEq, Int.reduceBNe, Int.reduceNe, Nat.reduceLeDiff, Nat.reduceAdd, Nat.reduceSub, Nat.reduceLT, Nat.reduceEqDiff, Nat.reduceBEq, Int.reduceLE, Int.reduceToNat]; rfl) (by simp only [go_sem, Int.reduceEq, Int.reduceLT, Int.reduceBEq, Int.reduceBNe, Int.reduceNe, Nat.reduceLeDiff, Nat.reduceAdd, Nat.reduceSub, Nat.reduceLT, Nat.reduceEqDiff, Nat.reduceBEq, Int.reduceLE, Int.reduceToNat]; rfl) (Sto.Sub.refl _) ?_
      rw [gv_none e2, gr_none e2]
      exact ⟨rfl, k, 10, rfl, by omega, k, rfl, by omega⟩

end Go.Proofs.YtemicgccgcmmbaaGreat

/- The document's reader: a free number (values without addresses). -/
namespace Go.Proofs.YtemicgccgcmmbaaGreat
set_option linter.unusedVariables false
set_option linter.unusedSimpArgs false
open Go Go.RowKit

theorem vrd_nil (k n : Nat) : vrd [] k n = none := rfl
theorem vrd_cons (b : UInt8) (l : Bs) (k n : Nat) : vrd (b :: l) k n = if (k = 63 ∧ 1 < b.toNat) ∨ (0 < k ∧ b.toNat = 0) then none else if b.toNat < 128 then some (n + b.toNat * 2 ^ k, l) else vrd l (k + 7) (n + b.toNat % 128 * 2 ^ k) := rfl
theorem freeP_bad {m : Nat} {l : Bs} (h : vrd l 0 0 = none) : freeP m l = none := by unfold freeP; rw [h]
theorem freeP_big {m n : Nat} {l l' : Bs} (h : vrd l 0 0 = some (n, l')) (hn : m < n) : freeP m l = none := by
  unfold freeP; rw [h]; show (if n ≤ m then _ else _) = _; rw [if_neg (by omega)]
theorem freeP_fit {m n : Nat} {l l' : Bs} (h : vrd l 0 0 = some (n, l')) (hn : n ≤ m) : freeP m l = some (n, l') := by
  unfold freeP; rw [h]; show (if n ≤ m then _ else _) = _; rw [if_pos hn]
theorem pow7 (j : Nat) : (2 : Nat) ^ (7 * (j + 1)) = 2 ^ (7 * j) * 128 := by rw [Nat.mul_succ, Nat.pow_add]

set_option maxHeartbeats 1000000 in set_option maxRecDepth 100000 in
theorem aFree (b m : Nat) (s : Bs) (o : Option Bs) (S : Sto) (h : RrSt S b s o) (hs : s.length ≤ 140737488351232) (hm : m < 18446744073709551616) :
    ACalls Tryz.prog 116 [pD b, uD m] S (fun e S' => ∃ d, e = .ret d ∧ d = uD (gv (freeP m) 0 o : Nat) ∧ RrTo S b s (gr (freeP m) o) S') := by
  have h0 := h
  obtain ⟨t, p, c, hb, hr⟩ := h
  refine acalls_of prg Tryz.func116 rfl (by kernel_rfl) (congrArg Array.toList Tryz.results116) Tryz.ntmps116 (fun B hB => ?_); simp only [List.length_cons, List.length_nil, Nat.reduceAdd, Nat.reduceSub, List.replicate_succ, List.replicate_zero, List.cons_append, List.nil_append]
  cases o with
  | none =>
    obtain ⟨hc, k, hp, hk⟩ := hr
    have h1 : (c != 0) = true := by simpa using hc
    repeat (first | ((first | apply AOps.goP prg | apply ALex.goP prg); (case run => simp only [go_sem, Int.reduceEq, Int.reduceLT, Int.reduceBEq, Int.reduceBNe, Int.reduceNe, Nat.reduceLeDiff, Nat.reduceAdd, Nat.reduceSub, Nat.reduceLT, Nat.reduceEqDiff, Nat.reduceBEq, Int.reduceLE, Int.reduceToNat, hb, h1]; rfl); (case mm => simp only [go_sem, Int.reduceEq, Int.reduceLT, Int.reduceBEq, Int.reduceBNe, Int.reduceNe, Nat.reduceLeDiff, Nat.reduceAdd, Nat.reduceSub, Nat.reduceLT, Nat.reduceEqDiff, Nat.reduceBEq, Int.reduceLE, Int.reduceToNat]; rfl); (case pr => rfl)) | (refine AW.seq ?_) | (refine AW.region ?_) | (refine AW.draw prg (by kernel_rfl) ?_) | (refine AOps.nil ?_; try dsimp only [AX.then, AX.inBlock]) | (refine ALex.nil ?_; try dsimp only [AX.then, AX.inBlock]) | (refine AW.condT (by rfl) ?_) | (refine AW.condF (by rfl) ?_) | (refine AW.skip ?_; try dsimp only [AX.then, AX.inBlock]) | (refine AW.ret ?_; try dsimp only [AX.then, AX.inBlock]) | (refine AW.block ?_) | (refine AW.exit ?_; simp only [AX.then, AX.inBlock, if_true, Nat.reduceEqDiff, if_false]))
    first | refine endx (by simp only [go_sem, Int.reduceEq, Int.reduceLT, Int.reduceBEq, Int.reduceBNe, Int.reduceNe, Nat.reduceLeDiff, Nat.reduceAdd, Nat.reduceSub, Nat.reduceLT, Nat.reduceEqDiff, Nat.reduceBEq, Int.reduceLE, Int.reduceToNat]; rfl) (by simp only [go_sem, Int.reduceEq, Int.reduceLT, Int.reduceBEq, Int.reduceBNe, Int.reduceNe, Nat.reduceLeDiff, Nat.reduceAdd, Nat.reduceSub, Nat.reduceLT, Nat.reduceEqDiff, Nat.reduceBEq, Int.reduceLE, Int.reduceToNat]; rfl) (Sto.Sub.refl _) ?_ | refine endnx (by simp only [go_sem, Int.reduceEq, Int.reduceLT, Int.reduceBEq, Int.reduceBNe, Int.reduceNe, Nat.reduceLeDiff, Nat.reduceAdd, Nat.reduceSub, Nat.reduceLT, Nat.reduceEqDiff, Nat.reduceBEq, Int.reduceLE, Int.reduceToNat]; rfl) (by simp only [go_sem, Int.reduceEq, Int.reduceLT, Int.reduceBEq, Int.reduceBNe, Int.reduceNe, Nat.reduceLeDiff, Nat.reduceAdd, Nat.reduceSub, Nat.reduceLT, Nat.reduceEqDiff, Nat.reduceBEq, Int.reduceLE, Int.reduceToNat]; rfl) (Sto.Sub.refl _) ?_
    exact ⟨rfl, RrTo.same h0⟩
  | some l =>
    obtain ⟨rfl, k, rfl, hk, hl⟩ := hr
    repeat (first | ((first | apply AOps.goP prg | apply ALex.goP prg); (case run => simp only [go_sem, Int.reduceEq, Int.reduceLT, Int.reduceBEq, Int.reduceBNe, Int.reduceNe, Nat.reduceLeDiff, Nat.reduceAdd, Nat.reduceSub, Nat.reduceLT, Nat.reduceEqDiff, Nat.reduceBEq, Int.reduceLE, Int.reduceToNat, hb]; rfl); (case mm => simp only [go_sem, Int.reduceEq, Int.reduceLT, Int.reduceBEq, Int.reduceBNe, Int.reduceNe, Nat.reduceLeDiff, Nat.reduceAdd, Nat.reduceSub, Nat.reduceLT, Nat.reduceEqDiff, Nat.reduceBEq, Int.reduceLE, Int.reduceToNat]; rfl); (case pr => rfl)) | (refine AW.seq ?_) | (refine AW.region ?_) | (refine AW.draw prg (by kernel_rfl) ?_) | (refine AOps.nil ?_; try dsimp only [AX.then, AX.inBlock]) | (refine ALex.nil ?_; try dsimp only [AX.then, AX.inBlock]) | (refine AW.condT (by rfl) ?_) | (refine AW.condF (by rfl) ?_) | (refine AW.skip ?_; try dsimp only [AX.then, AX.inBlock]) | (refine AW.ret ?_; try dsimp only [AX.then, AX.inBlock]) | (refine AW.block ?_) | (refine AW.exit ?_; simp only [AX.then, AX.inBlock, if_true, Nat.reduceEqDiff, if_false]))
    refine AW.loopS 10 [6, 7, 8, 9] (fun xs S' => ∃ j y : Nat, xs = [uD y, uD (2 ^ (7 * j) : Nat), iD j, .any] ∧ S' = ⟨setM S.bk b (rrD s (k + j : Nat) 0), S.ow⟩ ∧ j ≤ 9 ∧ j ≤ l.length ∧ y < 2 ^ (7 * j) ∧ vrd l 0 0 = vrd (l.drop j) (7 * j) y) (fun xs _ => 9 - nI (xs.getD 2 .any)) [uD 0, uD 1, iD 0, .any] S ?_ (Sto.Sub.refl _) ⟨0, 0, rfl, by rw [Nat.add_zero, setM_same hb], by omega, by omega, by simp, rfl⟩ ?_
    · simp only [go_sem, Int.reduceEq, Int.reduceLT, Int.reduceBEq, Int.reduceBNe, Int.reduceNe, Nat.reduceLeDiff, Nat.reduceAdd, Nat.reduceSub, Nat.reduceLT, Nat.reduceEqDiff, Nat.reduceBEq, Int.reduceLE, Int.reduceToNat, weakA, or_true, true_or, and_self]
    rintro xs S' ⟨j, y, rfl, hS', hj, hjl, hy, HV⟩
    apply AW.frame; case fr => (simp only [go_sem, Int.reduceEq, Int.reduceLT, Int.reduceBEq, Int.reduceBNe, Int.reduceNe, Nat.reduceLeDiff, Nat.reduceAdd, Nat.reduceSub, Nat.reduceLT, Nat.reduceEqDiff, Nat.reduceBEq, Int.reduceLE, Int.reduceToNat]; rfl)
    have hb2 : getM S'.bk b = some (t, rrD s (k + j : Nat) 0) := by rw [hS', getM_setM, hb]; rfl
    have hfail : ∀ c p : Int, (⟨setM S'.bk b (rrD s p c), S'.ow⟩ : Sto) = ⟨setM S.bk b (rrD s p c), S.ow⟩ := fun c p => by rw [hS']; simp only [setM_setM]
    by_cases hjn : j < l.length
    · have hkj : k + j < s.length := by omega
      obtain ⟨u, hu⟩ : ∃ u, s[k + j]? = some u := ⟨_, List.getElem?_eq_getElem hkj⟩
      have hdr : l.drop j = u :: l.drop (j + 1) := by
        rw [List.drop_eq_getElem_cons hjn]
        congr 1
        have h1 : l[j]? = some u := by rw [hl, List.getElem?_drop]; exact hu
        rw [List.getElem?_eq_getElem hjn] at h1
        exact Option.some.inj h1
      rw [hdr, vrd_cons] at HV
      have hul : u.toNat < 256 := u.toNat_lt
      have b1 : (((k + j : Nat) : Int) == (s.length : Int)) = false := by rw [beq_eq_false_iff_ne]; omega
      have f3 : IntKind.u64.wrap (u.toNat : Int) = u.toNat := by rw [IntKind.wrap_u64]; omega
      have f6 : (0 : Int) ≤ ((k + j : Nat) : Int) := by omega
      have f5 : IntKind.i64.wrap (((k + j : Nat) : Int) + 1) = ((k + (j + 1) : Nat) : Int) := by rw [show ((k + j : Nat) : Int) + 1 = ((k + (j + 1) : Nat) : Int) by omega]; exact IntWalk.i64_in _ (by omega)
      by_cases hbad : j = 9 ∧ 1 < u.toNat
      · obtain ⟨rfl, hc1⟩ := hbad
        rw [if_pos (.inl ⟨rfl, hc1⟩)] at HV
        have e2 := freeP_bad (m := m) HV
        have d1 : decide ((u.toNat : Int) > 1) = true := decide_eq_true (by omega)
        have d2 : (((9 : Nat) : Int) == 9) = true := rfl
        repeat (first | ((first | apply AOps.goP prg | apply ALex.goP prg); (case run => simp only [go_sem, Int.reduceEq, Int.reduceLT, Int.reduceBEq, Int.reduceBNe, Int.reduceNe, Nat.reduceLeDiff, Nat.reduceAdd, Nat.reduceSub, Nat.reduceLT, Nat.reduceEqDiff, Nat.reduceBEq, Int.reduceLE, Int.reduceToNat, hb2, b1, f3, f6, hu, d1, d2, Int.toNat_natCast]; rfl); (case mm => simp only [go_sem, Int.reduceEq, Int.reduceLT, Int.reduceBEq, Int.reduceBNe, Int.reduceNe, Nat.reduceLeDiff, Nat.reduceAdd, Nat.reduceSub, Nat.reduceLT, Nat.reduceEqDiff, Nat.reduceBEq, Int.reduceLE, Int.reduceToNat]; rfl); (case pr => rfl)) | (refine AW.seq ?_) | (refine AW.region ?_) | (refine AW.draw prg (by kernel_rfl) ?_) | (refine AOps.nil ?_; try dsimp only [AX.then, AX.inBlock]) | (refine ALex.nil ?_; try dsimp only [AX.then, AX.inBlock]) | (refine AW.condT (by rfl) ?_) | (refine AW.condF (by rfl) ?_) | (refine AW.skip ?_; try dsimp only [AX.then, AX.inBlock]) | (refine AW.ret ?_; try dsimp only [AX.then, AX.inBlock]) | (refine AW.block ?_) | (refine AW.exit ?_; simp only [AX.then, AX.inBlock, if_true, Nat.reduceEqDiff, if_false]))
        (first | refine AOps.callq (by rfl) (by rfl) (by exact (aFail b s _ 0 11 k S' t hb2)) ?_ | refine ALex.callq (by rfl) (by rfl) (by exact (aFail b s _ 0 11 k S' t hb2)) ?_)
        repeat (first | ((first | apply AOps.goP prg | apply ALex.goP prg); (case run => simp only [go_sem, Int.reduceEq, Int.reduceLT, Int.reduceBEq, Int.reduceBNe, Int.reduceNe, Nat.reduceLeDiff, Nat.reduceAdd, Nat.reduceSub, Nat.reduceLT, Nat.reduceEqDiff, Nat.reduceBEq, Int.reduceLE, Int.reduceToNat]; rfl); (case mm => simp only [go_sem, Int.reduceEq, Int.reduceLT, Int.reduceBEq, Int.reduceBNe, Int.reduceNe, Nat.reduceLeDiff, Nat.reduceAdd, Nat.reduceSub, Nat.reduceLT, Nat.reduceEqDiff, Nat.reduceBEq, Int.reduceLE, Int.reduceToNat]; rfl); (case pr => rfl)) | (refine AW.seq ?_) | (refine AW.region ?_) | (refine AW.draw prg (by kernel_rfl) ?_) | (refine AOps.nil ?_; try dsimp only [AX.then, AX.inBlock]) | (refine ALex.nil ?_; try dsimp only [AX.then, AX.inBlock]) | (refine AW.condT (by rfl) ?_) | (refine AW.condF (by rfl) ?_) | (refine AW.skip ?_; try dsimp only [AX.then, AX.inBlock]) | (refine AW.ret ?_; try dsimp only [AX.then, AX.inBlock]) | (refine AW.block ?_) | (refine AW.exit ?_; simp only [AX.then, AX.inBlock, if_true, Nat.reduceEqDiff, if_false]))
        first | refine endx (by simp only [go_sem, Int.reduceEq, Int.reduceLT, Int.reduceBEq, Int.reduceBNe, Int.reduceNe, Nat.reduceLeDiff, Nat.reduceAdd, Nat.reduceSub, Nat.reduceLT, Nat.reduceEqDiff, Nat.reduceBEq, Int.reduceLE, Int.reduceToNat]; rfl) (by simp only [go_sem, Int.reduceEq, Int.reduceLT, Int.reduceBEq, Int.reduceBNe, Int.reduceNe, Nat.reduceLeDiff, Nat.reduceAdd, Nat.reduceSub, Nat.reduceLT, Nat.reduceEqDiff, Nat.reduceBEq, Int.reduceLE, Int.reduceToNat]; rfl) (Sto.Sub.refl _) ?_ | refine endnx (by simp only [go_sem, Int.reduceEq, Int.reduceLT, Int.reduceBEq, Int.reduceBNe, Int.reduceNe, Nat.reduceLeDiff, Nat.reduceAdd, Nat.reduceSub, Nat.reduceLT, Nat.reduceEqDiff, Nat.reduceBEq, Int.reduceLE, Int.reduceToNat]; rfl) (by simp only [go_sem, Int.reduceEq, Int.reduceLT, Int.reduceBEq, Int.reduceBNe, Int.reduceNe, Nat.reduceLeDiff, Nat.reduceAdd, Nat.reduceSub, Nat.reduceLT, Nat.reduceEqDiff, Nat.reduceBEq, Int.reduceLE, Int.reduceToNat]; rfl) (Sto.Sub.refl _) ?_
        rw [gv_none e2, gr_none e2]
        exact ⟨rfl, k, 11, hfail _ _, by omega, k, rfl, by omega⟩
      · have b128 : IntKind.u64.wrap ((((u.toNat : Int).tmod 128)) * ((2 ^ (7 * j) : Nat) : Int)) = ((u.toNat % 128 * 2 ^ (7 * j) : Nat) : Int) ∧ IntKind.u64.wrap ((y : Int) + ((u.toNat % 128 * 2 ^ (7 * j) : Nat) : Int)) = ((y + u.toNat % 128 * 2 ^ (7 * j) : Nat) : Int) := by
          have hlt : y + u.toNat % 128 * 2 ^ (7 * j) < 18446744073709551616 := by
            by_cases h9 : j = 9
            · subst h9
              have : u.toNat ≤ 1 := by omega
              have h2 : u.toNat % 128 * 2 ^ (7 * 9) ≤ 1 * 2 ^ (7 * 9) := Nat.mul_le_mul_right _ (by omega)
              have h3 : (2 : Nat) ^ (7 * 9) = 9223372036854775808 := by decide
              rw [h3] at *
              omega
            · have h2 : u.toNat % 128 * 2 ^ (7 * j) ≤ 127 * 2 ^ (7 * j) := Nat.mul_le_mul_right _ (by omega)
              have h3 : (2 : Nat) ^ (7 * j) ≤ 2 ^ (7 * 8) := Nat.pow_le_pow_right (by omega) (by omega)
              have h4 : (2 : Nat) ^ (7 * 8) = 72057594037927936 := by decide
              rw [h4] at h3
              omega
          have ht : (u.toNat : Int).tmod 128 = ((u.toNat % 128 : Nat) : Int) := by rw [Int.tmod_eq_emod_of_nonneg (by omega)]; omega
          have hm' : ((u.toNat % 128 : Nat) : Int) * ((2 ^ (7 * j) : Nat) : Int) = ((u.toNat % 128 * 2 ^ (7 * j) : Nat) : Int) := by rw [← Int.natCast_mul]
          rw [ht, hm']
          generalize u.toNat % 128 * 2 ^ (7 * j) = z at *
          constructor
          · rw [IntKind.wrap_u64]; omega
          · rw [IntKind.wrap_u64]; omega
        obtain ⟨g1, g2⟩ := b128
        have hd9 : ((j : Int) == 9) = true → decide ((u.toNat : Int) > 1) = false := fun h => decide_eq_false (by
          have h3 : (j : Int) = 9 := by simpa using h
          intro h2; exact hbad ⟨by omega, by omega⟩)
        have hHV := HV
        by_cases hsm : u.toNat < 128
        · have d3 : decide ((u.toNat : Int) < 128) = true := decide_eq_true (by omega)
          have hmod : u.toNat % 128 = u.toNat := Nat.mod_eq_of_lt hsm
          by_cases hz : 0 < j ∧ u.toNat = 0
          · have d4 : ((u.toNat : Int) == 0) = true := by rw [beq_iff_eq]; omega
            have d5 : decide ((j : Int) > 0) = true := decide_eq_true (by omega)
            rw [if_pos (.inr ⟨by omega, hz.2⟩)] at HV
            have e2 := freeP_bad (m := m) HV
            cases d2 : ((j : Int) == 9)
            all_goals
              first | have d1 := hd9 d2 | have d1 : True := trivial
              repeat (first | ((first | apply AOps.goP prg | apply ALex.goP prg); (case run => simp only [go_sem, Int.reduceEq, Int.reduceLT, Int.reduceBEq, Int.reduceBNe, Int.reduceNe, Nat.reduceLeDiff, Nat.reduceAdd, Nat.reduceSub, Nat.reduceLT, Nat.reduceEqDiff, Nat.reduceBEq, Int.reduceLE, Int.reduceToNat, hb2, b1, f3, f5, f6, hu, d1, d2, d3, d4, d5, g1, g2, Int.toNat_natCast]; rfl); (case mm => simp only [go_sem, Int.reduceEq, Int.reduceLT, Int.reduceBEq, Int.reduceBNe, Int.reduceNe, Nat.reduceLeDiff, Nat.reduceAdd, Nat.reduceSub, Nat.reduceLT, Nat.reduceEqDiff, Nat.reduceBEq, Int.reduceLE, Int.reduceToNat]; rfl); (case pr => rfl)) | (refine AW.seq ?_) | (refine AW.region ?_) | (refine AW.draw prg (by kernel_rfl) ?_) | (refine AOps.nil ?_; try dsimp only [AX.then, AX.inBlock]) | (refine ALex.nil ?_; try dsimp only [AX.then, AX.inBlock]) | (refine AW.condT (by rfl) ?_) | (refine AW.condF (by rfl) ?_) | (refine AW.skip ?_; try dsimp only [AX.then, AX.inBlock]) | (refine AW.ret ?_; try dsimp only [AX.then, AX.inBlock]) | (refine AW.block ?_) | (refine AW.exit ?_; simp only [AX.then, AX.inBlock, if_true, Nat.reduceEqDiff, if_false]))
              (first | refine AOps.callq (by rfl) (by rfl) (by exact (aFail b s _ 0 11 k ⟨setM S'.bk b (rrD s (k + (j + 1) : Nat) 0), S'.ow⟩ t (by rw [getM_setM, hb2]; rfl))) ?_ | refine ALex.callq (by rfl) (by rfl) (by exact (aFail b s _ 0 11 k ⟨setM S'.bk b (rrD s (k + (j + 1) : Nat) 0), S'.ow⟩ t (by rw [getM_setM, hb2]; rfl))) ?_)
              repeat (first | ((first | apply AOps.goP prg | apply ALex.goP prg); (case run => simp only [go_sem, Int.reduceEq, Int.reduceLT, Int.reduceBEq, Int.reduceBNe, Int.reduceNe, Nat.reduceLeDiff, Nat.reduceAdd, Nat.reduceSub, Nat.reduceLT, Nat.reduceEqDiff, Nat.reduceBEq, Int.reduceLE, Int.reduceToNat]; rfl); (case mm => simp only [go_sem, Int.reduceEq, Int.reduceLT, Int.reduceBEq, Int.reduceBNe, Int.reduceNe, Nat.reduceLeDiff, Nat.reduceAdd, Nat.reduceSub, Nat.reduceLT, Nat.reduceEqDiff, Nat.reduceBEq, Int.reduceLE, Int.reduceToNat]; rfl); (case pr => rfl)) | (refine AW.seq ?_) | (refine AW.region ?_) | (refine AW.draw prg (by kernel_rfl) ?_) | (refine AOps.nil ?_; try dsimp only [AX.then, AX.inBlock]) | (refine ALex.nil ?_; try dsimp only [AX.then, AX.inBlock]) | (refine AW.condT (by rfl) ?_) | (refine AW.condF (by rfl) ?_) | (refine AW.skip ?_; try dsimp only [AX.then, AX.inBlock]) | (refine AW.ret ?_; try dsimp only [AX.then, AX.inBlock]) | (refine AW.block ?_) | (refine AW.exit ?_; simp only [AX.then, AX.inBlock, if_true, Nat.reduceEqDiff, if_false]))
              first | refine endx (by simp only [go_sem, Int.reduceEq, Int.reduceLT, Int.reduceBEq, Int.reduceBNe, Int.reduceNe, Nat.reduceLeDiff, Nat.reduceAdd, Nat.reduceSub, Nat.reduceLT, Nat.reduceEqDiff, Nat.reduceBEq, Int.reduceLE, Int.reduceToNat]; rfl) (by simp only [go_sem, Int.reduceEq, Int.reduceLT, Int.reduceBEq, Int.reduceBNe, Int.reduceNe, Nat.reduceLeDiff, Nat.reduceAdd, Nat.reduceSub, Nat.reduceLT, Nat.reduceEqDiff, Nat.reduceBEq, Int.reduceLE, Int.reduceToNat]; rfl) (Sto.Sub.refl _) ?_ | refine endnx (by simp only [go_sem, Int.reduceEq, Int.reduceLT, Int.reduceBEq, Int.reduceBNe, Int.reduceNe, Nat.reduceLeDiff, Nat.reduceAdd, Nat.reduceSub, Nat.reduceLT, Nat.reduceEqDiff, Nat.reduceBEq, Int.reduceLE, Int.reduceToNat]; rfl) (by simp only [go_sem, Int.reduceEq, Int.reduceLT, Int.reduceBEq, Int.reduceBNe, Int.reduceNe, Nat.reduceLeDiff, Nat.reduceAdd, Nat.reduceSub, Nat.reduceLT, Nat.reduceEqDiff, Nat.reduceBEq, Int.reduceLE, Int.reduceToNat]; rfl) (Sto.Sub.refl _) ?_
              rw [gv_none e2, gr_none e2]
              exact ⟨rfl, k, 11, hfail _ _, by omega, k, rfl, by omega⟩
          · rw [if_neg (by rintro (⟨h1, h2⟩ | ⟨h1, h2⟩)
                           · exact hbad ⟨by omega, h2⟩
                           · exact hz ⟨by omega, h2⟩), if_pos hsm] at HV
            rw [hmod] at g1 g2
            obtain ⟨n, hn⟩ : ∃ n, y + u.toNat * 2 ^ (7 * j) = n := ⟨_, rfl⟩
            rw [hn] at g2 HV
            have d4 : ((u.toNat : Int) == 0) = true → decide ((j : Int) > 0) = false := fun h => decide_eq_false (by
              have h3 : (u.toNat : Int) = 0 := by simpa using h
              intro h2; exact hz ⟨by omega, by omega⟩)
            by_cases hbig : m < n
            · have d6 : decide ((n : Int) > m) = true := decide_eq_true (by omega)
              have e2 := freeP_big HV hbig
              cases d2 : ((j : Int) == 9)
              all_goals
                first | have d1 := hd9 d2 | have d1 : True := trivial
                cases d5 : ((u.toNat : Int) == 0)
              all_goals
                first | have d7 := d4 d5 | have d7 : True := trivial
                repeat (first | ((first | apply AOps.goP prg | apply ALex.goP prg); (case run => simp only [go_sem, Int.reduceEq, Int.reduceLT, Int.reduceBEq, Int.reduceBNe, Int.reduceNe, Nat.reduceLeDiff, Nat.reduceAdd, Nat.reduceSub, Nat.reduceLT, Nat.reduceEqDiff, Nat.reduceBEq, Int.reduceLE, Int.reduceToNat, hb2, b1, f3, f5, f6, hu, d1, d2, d3, d5, d6, d7, g1, g2, Int.toNat_natCast]; rfl); (case mm => simp only [go_sem, Int.reduceEq, Int.reduceLT, Int.reduceBEq, Int.reduceBNe, Int.reduceNe, Nat.reduceLeDiff, Nat.reduceAdd, Nat.reduceSub, Nat.reduceLT, Nat.reduceEqDiff, Nat.reduceBEq, Int.reduceLE, Int.reduceToNat]; rfl); (case pr => rfl)) | (refine AW.seq ?_) | (refine AW.region ?_) | (refine AW.draw prg (by kernel_rfl) ?_) | (refine AOps.nil ?_; try dsimp only [AX.then, AX.inBlock]) | (refine ALex.nil ?_; try dsimp only [AX.then, AX.inBlock]) | (refine AW.condT (by rfl) ?_) | (refine AW.condF (by rfl) ?_) | (refine AW.skip ?_; try dsimp only [AX.then, AX.inBlock]) | (refine AW.ret ?_; try dsimp only [AX.then, AX.inBlock]) | (refine AW.block ?_) | (refine AW.exit ?_; simp only [AX.then, AX.inBlock, if_true, Nat.reduceEqDiff, if_false]))
                (first | refine AOps.callq (by rfl) (by rfl) (by exact (aFail b s _ 0 12 k ⟨setM S'.bk b (rrD s (k + (j + 1) : Nat) 0), S'.ow⟩ t (by rw [getM_setM, hb2]; rfl))) ?_ | refine ALex.callq (by rfl) (by rfl) (by exact (aFail b s _ 0 12 k ⟨setM S'.bk b (rrD s (k + (j + 1) : Nat) 0), S'.ow⟩ t (by rw [getM_setM, hb2]; rfl))) ?_)
                repeat (first | ((first | apply AOps.goP prg | apply ALex.goP prg); (case run => simp only [go_sem, Int.reduceEq, Int.reduceLT, Int.reduceBEq, Int.reduceBNe, Int.reduceNe, Nat.reduceLeDiff, Nat.reduceAdd, Nat.reduceSub, Nat.reduceLT, Nat.reduceEqDiff, Nat.reduceBEq, Int.reduceLE, Int.reduceToNat]; rfl); (case mm => simp only [go_sem, Int.reduceEq, Int.reduceLT, Int.reduceBEq, Int.reduceBNe, Int.reduceNe, Nat.reduceLeDiff, Nat.reduceAdd, Nat.reduceSub, Nat.reduceLT, Nat.reduceEqDiff, Nat.reduceBEq, Int.reduceLE, Int.reduceToNat]; rfl); (case pr => rfl)) | (refine AW.seq ?_) | (refine AW.region ?_) | (refine AW.draw prg (by kernel_rfl) ?_) | (refine AOps.nil ?_; try dsimp only [AX.then, AX.inBlock]) | (refine ALex.nil ?_; try dsimp only [AX.then, AX.inBlock]) | (refine AW.condT (by rfl) ?_) | (refine AW.condF (by rfl) ?_) | (refine AW.skip ?_; try dsimp only [AX.then, AX.inBlock]) | (refine AW.ret ?_; try dsimp only [AX.then, AX.inBlock]) | (refine AW.block ?_) | (refine AW.exit ?_; simp only [AX.then, AX.inBlock, if_true, Nat.reduceEqDiff, if_false]))
                first | refine endx (by simp only [go_sem, Int.reduceEq, Int.reduceLT, Int.reduceBEq, Int.reduceBNe, Int.reduceNe, Nat.reduceLeDiff, Nat.reduceAdd, Nat.reduceSub, Nat.reduceLT, Nat.reduceEqDiff, Nat.reduceBEq, Int.reduceLE, Int.reduceToNat]; rfl) (by simp only [go_sem, Int.reduceEq, Int.reduceLT, Int.reduceBEq, Int.reduceBNe, Int.reduceNe, Nat.reduceLeDiff, Nat.reduceAdd, Nat.reduceSub, Nat.reduceLT, Nat.reduceEqDiff, Nat.reduceBEq, Int.reduceLE, Int.reduceToNat]; rfl) (Sto.Sub.refl _) ?_ | refine endnx (by simp only [go_sem, Int.reduceEq, Int.reduceLT, Int.reduceBEq, Int.reduceBNe, Int.reduceNe, Nat.reduceLeDiff, Nat.reduceAdd, Nat.reduceSub, Nat.reduceLT, Nat.reduceEqDiff, Nat.reduceBEq, Int.reduceLE, Int.reduceToNat]; rfl) (by simp only [go_sem, Int.reduceEq, Int.reduceLT, Int.reduceBEq, Int.reduceBNe, Int.reduceNe, Nat.reduceLeDiff, Nat.reduceAdd, Nat.reduceSub, Nat.reduceLT, Nat.reduceEqDiff, Nat.reduceBEq, Int.reduceLE, Int.reduceToNat]; rfl) (Sto.Sub.refl _) ?_
                rw [gv_none e2, gr_none e2]
                exact ⟨rfl, k, 12, hfail _ _, by omega, k, rfl, by omega⟩
            · have d6 : decide ((n : Int) > m) = false := decide_eq_false (by omega)
              have e2 := freeP_fit HV (Nat.le_of_not_lt hbig)
              cases d2 : ((j : Int) == 9)
              all_goals
                first | have d1 := hd9 d2 | have d1 : True := trivial
                cases d5 : ((u.toNat : Int) == 0)
              all_goals
                first | have d7 := d4 d5 | have d7 : True := trivial
                repeat (first | ((first | apply AOps.goP prg | apply ALex.goP prg); (case run => simp only [go_sem, Int.reduceEq, Int.reduceLT, Int.reduceBEq, Int.reduceBNe, Int.reduceNe, Nat.reduceLeDiff, Nat.reduceAdd, Nat.reduceSub, Nat.reduceLT, Nat.reduceEqDiff, Nat.reduceBEq, Int.reduceLE, Int.reduceToNat, hb2, b1, f3, f5, f6, hu, d1, d2, d3, d5, d6, d7, g1, g2, Int.toNat_natCast]; rfl); (case mm => simp only [go_sem, Int.reduceEq, Int.reduceLT, Int.reduceBEq, Int.reduceBNe, Int.reduceNe, Nat.reduceLeDiff, Nat.reduceAdd, Nat.reduceSub, Nat.reduceLT, Nat.reduceEqDiff, Nat.reduceBEq, Int.reduceLE, Int.reduceToNat]; rfl); (case pr => rfl)) | (refine AW.seq ?_) | (refine AW.region ?_) | (refine AW.draw prg (by kernel_rfl) ?_) | (refine AOps.nil ?_; try dsimp only [AX.then, AX.inBlock]) | (refine ALex.nil ?_; try dsimp only [AX.then, AX.inBlock]) | (refine AW.condT (by rfl) ?_) | (refine AW.condF (by rfl) ?_) | (refine AW.skip ?_; try dsimp only [AX.then, AX.inBlock]) | (refine AW.ret ?_; try dsimp only [AX.then, AX.inBlock]) | (refine AW.block ?_) | (refine AW.exit ?_; simp only [AX.then, AX.inBlock, if_true, Nat.reduceEqDiff, if_false]))
                first | refine endx (by simp only [go_sem, Int.reduceEq, Int.reduceLT, Int.reduceBEq, Int.reduceBNe, Int.reduceNe, Nat.reduceLeDiff, Nat.reduceAdd, Nat.reduceSub, Nat.reduceLT, Nat.reduceEqDiff, Nat.reduceBEq, Int.reduceLE, Int.reduceToNat]; rfl) (by simp only [go_sem, Int.reduceEq, Int.reduceLT, Int.reduceBEq, Int.reduceBNe, Int.reduceNe, Nat.reduceLeDiff, Nat.reduceAdd, Nat.reduceSub, Nat.reduceLT, Nat.reduceEqDiff, Nat.reduceBEq, Int.reduceLE, Int.reduceToNat]; rfl) (Sto.Sub.refl _) ?_ | refine endnx (by simp only [go_sem, Int.reduceEq, Int.reduceLT, Int.reduceBEq, Int.reduceBNe, Int.reduceNe, Nat.reduceLeDiff, Nat.reduceAdd, Nat.reduceSub, Nat.reduceLT, Nat.reduceEqDiff, Nat.reduceBEq, Int.reduceLE, Int.reduceToNat]; rfl) (by simp only [go_sem, Int.reduceEq, Int.reduceLT, Int.reduceBEq, Int.reduceBNe, Int.reduceNe, Nat.reduceLeDiff, Nat.reduceAdd, Nat.reduceSub, Nat.reduceLT, Nat.reduceEqDiff, Nat.reduceBEq, Int.reduceLE, Int.reduceToNat]; rfl) (Sto.Sub.refl _) ?_
                rw [gv_some e2, gr_some e2]
                exact ⟨rfl, (k + (j + 1) : Nat), 0, hfail _ _, rfl, k + (j + 1), rfl, by simp; omega, by rw [hl, List.drop_drop]⟩
        · have d3 : decide ((u.toNat : Int) < 128) = false := decide_eq_false (by omega)
          have h9 : j ≠ 9 := fun h => hbad ⟨h, by omega⟩
          have d2 : ((j : Int) == 9) = false := by rw [beq_eq_false_iff_ne]; omega
          rw [if_neg (by rintro (⟨h1, h2⟩ | ⟨h1, h2⟩)
                         · exact hbad ⟨by omega, h2⟩
                         · omega), if_neg hsm] at HV
          have f7 : IntKind.u64.wrap (((2 ^ (7 * j) : Nat) : Int) * 128) = ((2 ^ (7 * (j + 1)) : Nat) : Int) := by
            rw [pow7]
            have h3 : (2 : Nat) ^ (7 * j) ≤ 2 ^ (7 * 8) := Nat.pow_le_pow_right (by omega) (by omega)
            have h4 : (2 : Nat) ^ (7 * 8) = 72057594037927936 := by decide
            rw [h4] at h3
            generalize 2 ^ (7 * j) = z at *
            rw [IntKind.wrap_u64]; omega
          have f8 : IntKind.i64.wrap ((j : Int) + 1) = ((j + 1 : Nat) : Int) := IntWalk.i64_in _ (by omega)
          have hlt : y + u.toNat % 128 * 2 ^ (7 * j) < 2 ^ (7 * (j + 1)) := by
            rw [pow7]
            have h2 : (u.toNat % 128 + 1) * 2 ^ (7 * j) ≤ 128 * 2 ^ (7 * j) := Nat.mul_le_mul_right _ (by omega)
            rw [Nat.add_mul] at h2
            omega
          repeat (first | ((first | apply AOps.goP prg | apply ALex.goP prg); (case run => simp only [go_sem, Int.reduceEq, Int.reduceLT, Int.reduceBEq, Int.reduceBNe, Int.reduceNe, Nat.reduceLeDiff, Nat.reduceAdd, Nat.reduceSub, Nat.reduceLT, Nat.reduceEqDiff, Nat.reduceBEq, Int.reduceLE, Int.reduceToNat, hb2, b1, f3, f5, f6, f7, f8, hu, d2, d3, g1, g2, Int.toNat_natCast]; rfl); (case mm => simp only [go_sem, Int.reduceEq, Int.reduceLT, Int.reduceBEq, Int.reduceBNe, Int.reduceNe, Nat.reduceLeDiff, Nat.reduceAdd, Nat.reduceSub, Nat.reduceLT, Nat.reduceEqDiff, Nat.reduceBEq, Int.reduceLE, Int.reduceToNat]; rfl); (case pr => rfl)) | (refine AW.seq ?_) | (refine AW.region ?_) | (refine AW.draw prg (by kernel_rfl) ?_) | (refine AOps.nil ?_; try dsimp only [AX.then, AX.inBlock]) | (refine ALex.nil ?_; try dsimp only [AX.then, AX.inBlock]) | (refine AW.condT (by rfl) ?_) | (refine AW.condF (by rfl) ?_) | (refine AW.skip ?_; try dsimp only [AX.then, AX.inBlock]) | (refine AW.ret ?_; try dsimp only [AX.then, AX.inBlock]) | (refine AW.block ?_) | (refine AW.exit ?_; simp only [AX.then, AX.inBlock, if_true, Nat.reduceEqDiff, if_false]))
          refine ⟨[uD (y + u.toNat % 128 * 2 ^ (7 * j) : Nat), uD (2 ^ (7 * (j + 1)) : Nat), iD (j + 1 : Nat), .any], _, ?_, Sto.Sub.refl _, ⟨j + 1, _, rfl, hfail _ _, by omega, by omega, hlt, HV⟩, ?_⟩
          · simp only [go_sem, Int.reduceEq, Int.reduceLT, Int.reduceBEq, Int.reduceBNe, Int.reduceNe, Nat.reduceLeDiff, Nat.reduceAdd, Nat.reduceSub, Nat.reduceLT, Nat.reduceEqDiff, Nat.reduceBEq, Int.reduceLE, Int.reduceToNat, weakA, or_true, true_or, and_self]
          · simp only [go_sem, Int.reduceEq, Int.reduceLT, Int.reduceBEq, Int.reduceBNe, Int.reduceNe, Nat.reduceLeDiff, Nat.reduceAdd, Nat.reduceSub, Nat.reduceLT, Nat.reduceEqDiff, Nat.reduceBEq, Int.reduceLE, Int.reduceToNat, Int.toNat_natCast]; omega
    · have hnil : l.drop j = [] := List.drop_eq_nil_of_le (by omega)
      rw [hnil, vrd_nil] at HV
      have e2 := freeP_bad (m := m) HV
      have b1 : (((k + j : Nat) : Int) == (s.length : Int)) = true := by rw [beq_iff_eq]; omega
      repeat (first | ((first | apply AOps.goP prg | apply ALex.goP prg); (case run => simp only [go_sem, Int.reduceEq, Int.reduceLT, Int.reduceBEq, Int.reduceBNe, Int.reduceNe, Nat.reduceLeDiff, Nat.reduceAdd, Nat.reduceSub, Nat.reduceLT, Nat.reduceEqDiff, Nat.reduceBEq, Int.reduceLE, Int.reduceToNat, hb2, b1]; rfl); (case mm => simp only [go_sem, Int.reduceEq, Int.reduceLT, Int.reduceBEq, Int.reduceBNe, Int.reduceNe, Nat.reduceLeDiff, Nat.reduceAdd, Nat.reduceSub, Nat.reduceLT, Nat.reduceEqDiff, Nat.reduceBEq, Int.reduceLE, Int.reduceToNat]; rfl); (case pr => rfl)) | (refine AW.seq ?_) | (refine AW.region ?_) | (refine AW.draw prg (by kernel_rfl) ?_) | (refine AOps.nil ?_; try dsimp only [AX.then, AX.inBlock]) | (refine ALex.nil ?_; try dsimp only [AX.then, AX.inBlock]) | (refine AW.condT (by rfl) ?_) | (refine AW.condF (by rfl) ?_) | (refine AW.skip ?_; try dsimp only [AX.then, AX.inBlock]) | (refine AW.ret ?_; try dsimp only [AX.then, AX.inBlock]) | (refine AW.block ?_) | (refine AW.exit ?_; simp only [AX.then, AX.inBlock, if_true, Nat.reduceEqDiff, if_false]))
      (first | refine AOps.callq (by rfl) (by rfl) (by exact (aFail b s _ 0 10 k S' t hb2)) ?_ | refine ALex.callq (by rfl) (by rfl) (by exact (aFail b s _ 0 10 k S' t hb2)) ?_)
      repeat (first | ((first | apply AOps.goP prg | apply ALex.goP prg); (case run => simp only [go_sem, Int.reduceEq, Int.reduceLT, Int.reduceBEq, Int.reduceBNe, Int.reduceNe, Nat.reduceLeDiff, Nat.reduceAdd, Nat.reduceSub, Nat.reduceLT, Nat.reduceEqDiff, Nat.reduceBEq, Int.reduceLE, Int.reduceToNat]; rfl); (case mm => simp only [go_sem, Int.reduceEq, Int.reduceLT, Int.reduceBEq, Int.reduceBNe, Int.reduceNe, Nat.reduceLeDiff, Nat.reduceAdd, Nat.reduceSub, Nat.reduceLT, Nat.reduceEqDiff, Nat.reduceBEq, Int.reduceLE, Int.reduceToNat]; rfl); (case pr => rfl)) | (refine AW.seq ?_) | (refine AW.region ?_) | (refine AW.draw prg (by kernel_rfl) ?_) | (refine AOps.nil ?_; try dsimp only [AX.then, AX.inBlock]) | (refine ALex.nil ?_; try dsimp only [AX.then, AX.inBlock]) | (refine AW.condT (by rfl) ?_) | (refine AW.condF (by rfl) ?_) | (refine AW.skip ?_; try dsimp only [AX.then, AX.inBlock]) | (refine AW.ret ?_; try dsimp only [AX.then, AX.inBlock]) | (refine AW.block ?_) | (refine AW.exit ?_; simp only [AX.then, AX.inBlock, if_true, Nat.reduceEqDiff, if_false]))
      first | refine endx (by simp only [go_sem, Int.reduceEq, Int.reduceLT, Int.reduceBEq, Int.reduceBNe, Int.reduceNe, Nat.reduceLeDiff, Nat.reduceAdd, Nat.reduceSub, Nat.reduceLT, Nat.reduceEqDiff, Nat.reduceBEq, Int.reduceLE, Int.reduceToNat]; rfl) (by simp only [go_sem, Int.reduceEq, Int.reduceLT, Int.reduceBEq, Int.reduceBNe, Int.reduceNe, Nat.reduceLeDiff, Nat.reduceAdd, Nat.reduceSub, Nat.reduceLT, Nat.reduceEqDiff, Nat.reduceBEq, Int.reduceLE, Int.reduceToNat]; rfl) (Sto.Sub.refl _) ?_ | refine endnx (by simp only [go_sem, Int.reduceEq, Int.reduceLT, Int.reduceBEq, Int.reduceBNe, Int.reduceNe, Nat.reduceLeDiff, Nat.reduceAdd, Nat.reduceSub, Nat.reduceLT, Nat.reduceEqDiff, Nat.reduceBEq, Int.reduceLE, Int.reduceToNat]; rfl) (by simp only [go_sem, Int.reduceEq, Int.reduceLT, Int.reduceBEq, Int.reduceBNe, Int.reduceNe, Nat.reduceLeDiff, Nat.reduceAdd, Nat.reduceSub, Nat.reduceLT, Nat.reduceEqDiff, Nat.reduceBEq, Int.reduceLE, Int.reduceToNat]; rfl) (Sto.Sub.refl _) ?_
      rw [gv_none e2, gr_none e2]
      exact ⟨rfl, k, 10, hfail _ _, by omega, k, rfl, by omega⟩

end Go.Proofs.YtemicgccgcmmbaaGreat

/- The document's reader: digests, texts, counts (values without addresses). -/
namespace Go.Proofs.YtemicgccgcmmbaaGreat
set_option linter.unusedVariables false
set_option linter.unusedSimpArgs false
open Go Go.RowKit

/-- A width brought into 0 to 32. -/
def widN (w : Int) : Nat := if w < 0 then 0 else if 32 < w then 32 else w.toNat

set_option maxHeartbeats 1000000 in set_option maxRecDepth 100000 in
theorem aWidth (w : Int) (S : Sto) : ACalls Tryz.prog 119 [iD w] S (RetQ (iD (widN w : Nat)) S) := by
  refine acalls_of prg Tryz.func119 rfl (by kernel_rfl) (congrArg Array.toList Tryz.results119) Tryz.ntmps119 (fun B hB => ?_); simp only [List.length_cons, List.length_nil, Nat.reduceAdd, Nat.reduceSub, List.replicate_succ, List.replicate_zero, List.cons_append, List.nil_append]
  by_cases h1 : w < 0
  · have d1 : decide (w < 0) = true := decide_eq_true h1
    have e : widN w = 0 := by unfold widN; rw [if_pos h1]
    rw [e]
    repeat (first | ((first | apply AOps.goP prg | apply ALex.goP prg); (case run => simp only [go_sem, Int.reduceEq, Int.reduceLT, Int.reduceBEq, Int.reduceBNe, Int.reduceNe, Nat.reduceLeDiff, Nat.reduceAdd, Nat.reduceSub, Nat.reduceLT, Nat.reduceEqDiff, Nat.reduceBEq, Int.reduceLE, Int.reduceToNat, d1]; rfl); (case mm => simp only [go_sem, Int.reduceEq, Int.reduceLT, Int.reduceBEq, Int.reduceBNe, Int.reduceNe, Nat.reduceLeDiff, Nat.reduceAdd, Nat.reduceSub, Nat.reduceLT, Nat.reduceEqDiff, Nat.reduceBEq, Int.reduceLE, Int.reduceToNat]; rfl); (case pr => rfl)) | (refine AW.seq ?_) | (refine AW.region ?_) | (refine AW.draw prg (by kernel_rfl) ?_) | (refine AOps.nil ?_; try dsimp only [AX.then, AX.inBlock]) | (refine ALex.nil ?_; try dsimp only [AX.then, AX.inBlock]) | (refine AW.condT (by rfl) ?_) | (refine AW.condF (by rfl) ?_) | (refine AW.skip ?_; try dsimp only [AX.then, AX.inBlock]) | (refine AW.ret ?_; try dsimp only [AX.then, AX.inBlock]) | (refine AW.block ?_) | (refine AW.exit ?_; simp only [AX.then, AX.inBlock, if_true, Nat.reduceEqDiff, if_false]))
    first | exact endq (by simp only [go_sem, Int.reduceEq, Int.reduceLT, Int.reduceBEq, Int.reduceBNe, Int.reduceNe, Nat.reduceLeDiff, Nat.reduceAdd, Nat.reduceSub, Nat.reduceLT, Nat.reduceEqDiff, Nat.reduceBEq, Int.reduceLE, Int.reduceToNat]; rfl) (by rfl) (Sto.Sub.refl _) | exact endn (by simp only [go_sem, Int.reduceEq, Int.reduceLT, Int.reduceBEq, Int.reduceBNe, Int.reduceNe, Nat.reduceLeDiff, Nat.reduceAdd, Nat.reduceSub, Nat.reduceLT, Nat.reduceEqDiff, Nat.reduceBEq, Int.reduceLE, Int.reduceToNat]; rfl) (by rfl) (Sto.Sub.refl _)
  · have d1 : decide (w < 0) = false := decide_eq_false h1
    by_cases h2 : 32 < w
    · have d2 : decide (w > 32) = true := decide_eq_true h2
      have e : widN w = 32 := by unfold widN; rw [if_neg h1, if_pos h2]
      rw [e]
      repeat (first | ((first | apply AOps.goP prg | apply ALex.goP prg); (case run => simp only [go_sem, Int.reduceEq, Int.reduceLT, Int.reduceBEq, Int.reduceBNe, Int.reduceNe, Nat.reduceLeDiff, Nat.reduceAdd, Nat.reduceSub, Nat.reduceLT, Nat.reduceEqDiff, Nat.reduceBEq, Int.reduceLE, Int.reduceToNat, d1, d2]; rfl); (case mm => simp only [go_sem, Int.reduceEq, Int.reduceLT, Int.reduceBEq, Int.reduceBNe, Int.reduceNe, Nat.reduceLeDiff, Nat.reduceAdd, Nat.reduceSub, Nat.reduceLT, Nat.reduceEqDiff, Nat.reduceBEq, Int.reduceLE, Int.reduceToNat]; rfl); (case pr => rfl)) | (refine AW.seq ?_) | (refine AW.region ?_) | (refine AW.draw prg (by kernel_rfl) ?_) | (refine AOps.nil ?_; try dsimp only [AX.then, AX.inBlock]) | (refine ALex.nil ?_; try dsimp only [AX.then, AX.inBlock]) | (refine AW.condT (by rfl) ?_) | (refine AW.condF (by rfl) ?_) | (refine AW.skip ?_; try dsimp only [AX.then, AX.inBlock]) | (refine AW.ret ?_; try dsimp only [AX.then, AX.inBlock]) | (refine AW.block ?_) | (refine AW.exit ?_; simp only [AX.then, AX.inBlock, if_true, Nat.reduceEqDiff, if_false]))
      first | exact endq (by simp only [go_sem, Int.reduceEq, Int.reduceLT, Int.reduceBEq, Int.reduceBNe, Int.reduceNe, Nat.reduceLeDiff, Nat.reduceAdd, Nat.reduceSub, Nat.reduceLT, Nat.reduceEqDiff, Nat.reduceBEq, Int.reduceLE, Int.reduceToNat]; rfl) (by rfl) (Sto.Sub.refl _) | exact endn (by simp only [go_sem, Int.reduceEq, Int.reduceLT, Int.reduceBEq, Int.reduceBNe, Int.reduceNe, Nat.reduceLeDiff, Nat.reduceAdd, Nat.reduceSub, Nat.reduceLT, Nat.reduceEqDiff, Nat.reduceBEq, Int.reduceLE, Int.reduceToNat]; rfl) (by rfl) (Sto.Sub.refl _)
    · have d2 : decide (w > 32) = false := decide_eq_false h2
      have e : ((widN w : Nat) : Int) = w := by unfold widN; rw [if_neg h1, if_neg h2]; omega
      rw [e]
      repeat (first | ((first | apply AOps.goP prg | apply ALex.goP prg); (case run => simp only [go_sem, Int.reduceEq, Int.reduceLT, Int.reduceBEq, Int.reduceBNe, Int.reduceNe, Nat.reduceLeDiff, Nat.reduceAdd, Nat.reduceSub, Nat.reduceLT, Nat.reduceEqDiff, Nat.reduceBEq, Int.reduceLE, Int.reduceToNat, d1, d2]; rfl); (case mm => simp only [go_sem, Int.reduceEq, Int.reduceLT, Int.reduceBEq, Int.reduceBNe, Int.reduceNe, Nat.reduceLeDiff, Nat.reduceAdd, Nat.reduceSub, Nat.reduceLT, Nat.reduceEqDiff, Nat.reduceBEq, Int.reduceLE, Int.reduceToNat]; rfl); (case pr => rfl)) | (refine AW.seq ?_) | (refine AW.region ?_) | (refine AW.draw prg (by kernel_rfl) ?_) | (refine AOps.nil ?_; try dsimp only [AX.then, AX.inBlock]) | (refine ALex.nil ?_; try dsimp only [AX.then, AX.inBlock]) | (refine AW.condT (by rfl) ?_) | (refine AW.condF (by rfl) ?_) | (refine AW.skip ?_; try dsimp only [AX.then, AX.inBlock]) | (refine AW.ret ?_; try dsimp only [AX.then, AX.inBlock]) | (refine AW.block ?_) | (refine AW.exit ?_; simp only [AX.then, AX.inBlock, if_true, Nat.reduceEqDiff, if_false]))
      first | exact endq (by simp only [go_sem, Int.reduceEq, Int.reduceLT, Int.reduceBEq, Int.reduceBNe, Int.reduceNe, Nat.reduceLeDiff, Nat.reduceAdd, Nat.reduceSub, Nat.reduceLT, Nat.reduceEqDiff, Nat.reduceBEq, Int.reduceLE, Int.reduceToNat]; rfl) (by rfl) (Sto.Sub.refl _) | exact endn (by simp only [go_sem, Int.reduceEq, Int.reduceLT, Int.reduceBEq, Int.reduceBNe, Int.reduceNe, Nat.reduceLeDiff, Nat.reduceAdd, Nat.reduceSub, Nat.reduceLT, Nat.reduceEqDiff, Nat.reduceBEq, Int.reduceLE, Int.reduceToNat]; rfl) (by rfl) (Sto.Sub.refl _)

set_option maxHeartbeats 1000000 in set_option maxRecDepth 100000 in
theorem aBound (m : Nat) (S : Sto) (hm : m ≤ 9223372036854775807) : ACalls Tryz.prog 117 [iD m] S (RetQ (uD m) S) := by
  have d1 : decide ((m : Int) < 0) = false := decide_eq_false (by omega)
  have f1 : IntKind.u64.wrap (m : Int) = m := by rw [IntKind.wrap_u64]; omega
  refine acalls_of prg Tryz.func117 rfl (by kernel_rfl) (congrArg Array.toList Tryz.results117) Tryz.ntmps117 (fun B hB => ?_); simp only [List.length_cons, List.length_nil, Nat.reduceAdd, Nat.reduceSub, List.replicate_succ, List.replicate_zero, List.cons_append, List.nil_append]
  repeat (first | ((first | apply AOps.goP prg | apply ALex.goP prg); (case run => simp only [go_sem, Int.reduceEq, Int.reduceLT, Int.reduceBEq, Int.reduceBNe, Int.reduceNe, Nat.reduceLeDiff, Nat.reduceAdd, Nat.reduceSub, Nat.reduceLT, Nat.reduceEqDiff, Nat.reduceBEq, Int.reduceLE, Int.reduceToNat, d1, f1]; rfl); (case mm => simp only [go_sem, Int.reduceEq, Int.reduceLT, Int.reduceBEq, Int.reduceBNe, Int.reduceNe, Nat.reduceLeDiff, Nat.reduceAdd, Nat.reduceSub, Nat.reduceLT, Nat.reduceEqDiff, Nat.reduceBEq, Int.reduceLE, Int.reduceToNat]; rfl); (case pr => rfl)) | (refine AW.seq ?_) | (refine AW.region ?_) | (refine AW.draw prg (by kernel_rfl) ?_) | (refine AOps.nil ?_; try dsimp only [AX.then, AX.inBlock]) | (refine ALex.nil ?_; try dsimp only [AX.then, AX.inBlock]) | (refine AW.condT (by rfl) ?_) | (refine AW.condF (by rfl) ?_) | (refine AW.skip ?_; try dsimp only [AX.then, AX.inBlock]) | (refine AW.ret ?_; try dsimp only [AX.then, AX.inBlock]) | (refine AW.block ?_) | (refine AW.exit ?_; simp only [AX.then, AX.inBlock, if_true, Nat.reduceEqDiff, if_false]))
  first | exact endq (by simp only [go_sem, Int.reduceEq, Int.reduceLT, Int.reduceBEq, Int.reduceBNe, Int.reduceNe, Nat.reduceLeDiff, Nat.reduceAdd, Nat.reduceSub, Nat.reduceLT, Nat.reduceEqDiff, Nat.reduceBEq, Int.reduceLE, Int.reduceToNat]; rfl) (by rfl) (Sto.Sub.refl _) | exact endn (by simp only [go_sem, Int.reduceEq, Int.reduceLT, Int.reduceBEq, Int.reduceBNe, Int.reduceNe, Nat.reduceLeDiff, Nat.reduceAdd, Nat.reduceSub, Nat.reduceLT, Nat.reduceEqDiff, Nat.reduceBEq, Int.reduceLE, Int.reduceToNat]; rfl) (by rfl) (Sto.Sub.refl _)

set_option maxHeartbeats 1000000 in set_option maxRecDepth 100000 in
theorem aText (b m : Nat) (s : Bs) (o : Option Bs) (S : Sto) (h : RrSt S b s o) (hs : s.length ≤ 140737488351232) (hm : m ≤ 9223372036854775807) :
    ACalls Tryz.prog 76 [pD b, iD m] S (fun e S' => ∃ d, e = .ret d ∧ d = sD (gv (textP m) [] o) ∧ RrTo S b s (gr (textP m) o) S') := by
  have h0 := h
  obtain ⟨t, p, c, hb, hr⟩ := h
  refine acalls_of prg Tryz.func76 rfl (by kernel_rfl) (congrArg Array.toList Tryz.results76) Tryz.ntmps76 (fun B hB => ?_); simp only [List.length_cons, List.length_nil, Nat.reduceAdd, Nat.reduceSub, List.replicate_succ, List.replicate_zero, List.cons_append, List.nil_append]
  repeat (first | ((first | apply AOps.goP prg | apply ALex.goP prg); (case run => simp only [go_sem, Int.reduceEq, Int.reduceLT, Int.reduceBEq, Int.reduceBNe, Int.reduceNe, Nat.reduceLeDiff, Nat.reduceAdd, Nat.reduceSub, Nat.reduceLT, Nat.reduceEqDiff, Nat.reduceBEq, Int.reduceLE, Int.reduceToNat, hb]; rfl); (case mm => simp only [go_sem, Int.reduceEq, Int.reduceLT, Int.reduceBEq, Int.reduceBNe, Int.reduceNe, Nat.reduceLeDiff, Nat.reduceAdd, Nat.reduceSub, Nat.reduceLT, Nat.reduceEqDiff, Nat.reduceBEq, Int.reduceLE, Int.reduceToNat]; rfl); (case pr => rfl)) | (refine AW.seq ?_) | (refine AW.region ?_) | (refine AW.draw prg (by kernel_rfl) ?_) | (refine AOps.nil ?_; try dsimp only [AX.then, AX.inBlock]) | (refine ALex.nil ?_; try dsimp only [AX.then, AX.inBlock]) | (refine AW.condT (by rfl) ?_) | (refine AW.condF (by rfl) ?_) | (refine AW.skip ?_; try dsimp only [AX.then, AX.inBlock]) | (refine AW.ret ?_; try dsimp only [AX.then, AX.inBlock]) | (refine AW.block ?_) | (refine AW.exit ?_; simp only [AX.then, AX.inBlock, if_true, Nat.reduceEqDiff, if_false]))
  (first | refine AOps.callq (by rfl) (by rfl) (by exact (aBound m S hm)) ?_ | refine ALex.callq (by rfl) (by rfl) (by exact (aBound m S hm)) ?_)
  repeat (first | ((first | apply AOps.goP prg | apply ALex.goP prg); (case run => simp only [go_sem, Int.reduceEq, Int.reduceLT, Int.reduceBEq, Int.reduceBNe, Int.reduceNe, Nat.reduceLeDiff, Nat.reduceAdd, Nat.reduceSub, Nat.reduceLT, Nat.reduceEqDiff, Nat.reduceBEq, Int.reduceLE, Int.reduceToNat]; rfl); (case mm => simp only [go_sem, Int.reduceEq, Int.reduceLT, Int.reduceBEq, Int.reduceBNe, Int.reduceNe, Nat.reduceLeDiff, Nat.reduceAdd, Nat.reduceSub, Nat.reduceLT, Nat.reduceEqDiff, Nat.reduceBEq, Int.reduceLE, Int.reduceToNat]; rfl); (case pr => rfl)) | (refine AW.seq ?_) | (refine AW.region ?_) | (refine AW.draw prg (by kernel_rfl) ?_) | (refine AOps.nil ?_; try dsimp only [AX.then, AX.inBlock]) | (refine ALex.nil ?_; try dsimp only [AX.then, AX.inBlock]) | (refine AW.condT (by rfl) ?_) | (refine AW.condF (by rfl) ?_) | (refine AW.skip ?_; try dsimp only [AX.then, AX.inBlock]) | (refine AW.ret ?_; try dsimp only [AX.then, AX.inBlock]) | (refine AW.block ?_) | (refine AW.exit ?_; simp only [AX.then, AX.inBlock, if_true, Nat.reduceEqDiff, if_false]))
  refine AOps.callx (by rfl) (by rfl) (by exact (aFree b m s o S h0 hs (by omega))) ?_
  rintro d S1 ⟨rfl, hS1⟩
  have h1 := hS1.st h0
  obtain ⟨t1, p1, c1, hb1, hr1⟩ := h1
  cases o with
  | none =>
    have hn : gr (freeP m) none = none := rfl
    rw [hn] at hr1 hS1
    obtain ⟨hc, k, hp, hk⟩ := hr1
    have d1 : (c1 != 0) = true := by simpa using hc
    repeat (first | ((first | apply AOps.goP prg | apply ALex.goP prg); (case run => simp only [go_sem, Int.reduceEq, Int.reduceLT, Int.reduceBEq, Int.reduceBNe, Int.reduceNe, Nat.reduceLeDiff, Nat.reduceAdd, Nat.reduceSub, Nat.reduceLT, Nat.reduceEqDiff, Nat.reduceBEq, Int.reduceLE, Int.reduceToNat, hb1, d1]; rfl); (case mm => simp only [go_sem, Int.reduceEq, Int.reduceLT, Int.reduceBEq, Int.reduceBNe, Int.reduceNe, Nat.reduceLeDiff, Nat.reduceAdd, Nat.reduceSub, Nat.reduceLT, Nat.reduceEqDiff, Nat.reduceBEq, Int.reduceLE, Int.reduceToNat]; rfl); (case pr => rfl)) | (refine AW.seq ?_) | (refine AW.region ?_) | (refine AW.draw prg (by kernel_rfl) ?_) | (refine AOps.nil ?_; try dsimp only [AX.then, AX.inBlock]) | (refine ALex.nil ?_; try dsimp only [AX.then, AX.inBlock]) | (refine AW.condT (by rfl) ?_) | (refine AW.condF (by rfl) ?_) | (refine AW.skip ?_; try dsimp only [AX.then, AX.inBlock]) | (refine AW.ret ?_; try dsimp only [AX.then, AX.inBlock]) | (refine AW.block ?_) | (refine AW.exit ?_; simp only [AX.then, AX.inBlock, if_true, Nat.reduceEqDiff, if_false]))
    first | refine endx (by simp only [go_sem, Int.reduceEq, Int.reduceLT, Int.reduceBEq, Int.reduceBNe, Int.reduceNe, Nat.reduceLeDiff, Nat.reduceAdd, Nat.reduceSub, Nat.reduceLT, Nat.reduceEqDiff, Nat.reduceBEq, Int.reduceLE, Int.reduceToNat]; rfl) (by simp only [go_sem, Int.reduceEq, Int.reduceLT, Int.reduceBEq, Int.reduceBNe, Int.reduceNe, Nat.reduceLeDiff, Nat.reduceAdd, Nat.reduceSub, Nat.reduceLT, Nat.reduceEqDiff, Nat.reduceBEq, Int.reduceLE, Int.reduceToNat]; rfl) (Sto.Sub.refl _) ?_ | refine endnx (by simp only [go_sem, Int.reduceEq, Int.reduceLT, Int.reduceBEq, Int.reduceBNe, Int.reduceNe, Nat.reduceLeDiff, Nat.reduceAdd, Nat.reduceSub, Nat.reduceLT, Nat.reduceEqDiff, Nat.reduceBEq, Int.reduceLE, Int.reduceToNat]; rfl) (by simp only [go_sem, Int.reduceEq, Int.reduceLT, Int.reduceBEq, Int.reduceBNe, Int.reduceNe, Nat.reduceLeDiff, Nat.reduceAdd, Nat.reduceSub, Nat.reduceLT, Nat.reduceEqDiff, Nat.reduceBEq, Int.reduceLE, Int.reduceToNat]; rfl) (Sto.Sub.refl _) ?_
    exact ⟨rfl, hS1⟩
  | some l =>
    obtain ⟨rfl, k, rfl, hk, hl⟩ := hr
    cases hf : freeP m l with
    | none =>
      have e2 : textP m l = none := by unfold textP; rw [hf]
      rw [gr_none hf] at hr1 hS1
      obtain ⟨hc, k1, hp, hk1⟩ := hr1
      have d1 : (c1 != 0) = true := by simpa using hc
      repeat (first | ((first | apply AOps.goP prg | apply ALex.goP prg); (case run => simp only [go_sem, Int.reduceEq, Int.reduceLT, Int.reduceBEq, Int.reduceBNe, Int.reduceNe, Nat.reduceLeDiff, Nat.reduceAdd, Nat.reduceSub, Nat.reduceLT, Nat.reduceEqDiff, Nat.reduceBEq, Int.reduceLE, Int.reduceToNat, hb1, d1]; rfl); (case mm => simp only [go_sem, Int.reduceEq, Int.reduceLT, Int.reduceBEq, Int.reduceBNe, Int.reduceNe, Nat.reduceLeDiff, Nat.reduceAdd, Nat.reduceSub, Nat.reduceLT, Nat.reduceEqDiff, Nat.reduceBEq, Int.reduceLE, Int.reduceToNat]; rfl); (case pr => rfl)) | (refine AW.seq ?_) | (refine AW.region ?_) | (refine AW.draw prg (by kernel_rfl) ?_) | (refine AOps.nil ?_; try dsimp only [AX.then, AX.inBlock]) | (refine ALex.nil ?_; try dsimp only [AX.then, AX.inBlock]) | (refine AW.condT (by rfl) ?_) | (refine AW.condF (by rfl) ?_) | (refine AW.skip ?_; try dsimp only [AX.then, AX.inBlock]) | (refine AW.ret ?_; try dsimp only [AX.then, AX.inBlock]) | (refine AW.block ?_) | (refine AW.exit ?_; simp only [AX.then, AX.inBlock, if_true, Nat.reduceEqDiff, if_false]))
      first | refine endx (by simp only [go_sem, Int.reduceEq, Int.reduceLT, Int.reduceBEq, Int.reduceBNe, Int.reduceNe, Nat.reduceLeDiff, Nat.reduceAdd, Nat.reduceSub, Nat.reduceLT, Nat.reduceEqDiff, Nat.reduceBEq, Int.reduceLE, Int.reduceToNat]; rfl) (by simp only [go_sem, Int.reduceEq, Int.reduceLT, Int.reduceBEq, Int.reduceBNe, Int.reduceNe, Nat.reduceLeDiff, Nat.reduceAdd, Nat.reduceSub, Nat.reduceLT, Nat.reduceEqDiff, Nat.reduceBEq, Int.reduceLE, Int.reduceToNat]; rfl) (Sto.Sub.refl _) ?_ | refine endnx (by simp only [go_sem, Int.reduceEq, Int.reduceLT, Int.reduceBEq, Int.reduceBNe, Int.reduceNe, Nat.reduceLeDiff, Nat.reduceAdd, Nat.reduceSub, Nat.reduceLT, Nat.reduceEqDiff, Nat.reduceBEq, Int.reduceLE, Int.reduceToNat]; rfl) (by simp only [go_sem, Int.reduceEq, Int.reduceLT, Int.reduceBEq, Int.reduceBNe, Int.reduceNe, Nat.reduceLeDiff, Nat.reduceAdd, Nat.reduceSub, Nat.reduceLT, Nat.reduceEqDiff, Nat.reduceBEq, Int.reduceLE, Int.reduceToNat]; rfl) (Sto.Sub.refl _) ?_
      rw [gv_none e2, gr_none e2]
      exact ⟨rfl, hS1⟩
    | some r =>
      obtain ⟨n, l'⟩ := r
      have e2 : textP m l = rawP n l' := by unfold textP; rw [hf]
      have hnm := (freeP_rest hf).2.2
      rw [gr_some hf] at hr1 hS1
      rw [gv_some hf]
      have hst : RrSt S1 b s (some l') := ⟨t1, p1, c1, hb1, hr1⟩
      obtain ⟨rfl, k1, rfl, hk1, hl1⟩ := hr1
      have d1 : ((0 : Int) != 0) = false := rfl
      have f1 : IntKind.u64.wrap ((s.length : Int) - k1) = ((l'.length : Nat) : Int) := by rw [IntKind.wrap_u64]; omega
      repeat (first | ((first | apply AOps.goP prg | apply ALex.goP prg); (case run => simp only [go_sem, Int.reduceEq, Int.reduceLT, Int.reduceBEq, Int.reduceBNe, Int.reduceNe, Nat.reduceLeDiff, Nat.reduceAdd, Nat.reduceSub, Nat.reduceLT, Nat.reduceEqDiff, Nat.reduceBEq, Int.reduceLE, Int.reduceToNat, hb1, d1]; rfl); (case mm => simp only [go_sem, Int.reduceEq, Int.reduceLT, Int.reduceBEq, Int.reduceBNe, Int.reduceNe, Nat.reduceLeDiff, Nat.reduceAdd, Nat.reduceSub, Nat.reduceLT, Nat.reduceEqDiff, Nat.reduceBEq, Int.reduceLE, Int.reduceToNat]; rfl); (case pr => rfl)) | (refine AW.seq ?_) | (refine AW.region ?_) | (refine AW.draw prg (by kernel_rfl) ?_) | (refine AOps.nil ?_; try dsimp only [AX.then, AX.inBlock]) | (refine ALex.nil ?_; try dsimp only [AX.then, AX.inBlock]) | (refine AW.condT (by rfl) ?_) | (refine AW.condF (by rfl) ?_) | (refine AW.skip ?_; try dsimp only [AX.then, AX.inBlock]) | (refine AW.ret ?_; try dsimp only [AX.then, AX.inBlock]) | (refine AW.block ?_) | (refine AW.exit ?_; simp only [AX.then, AX.inBlock, if_true, Nat.reduceEqDiff, if_false]))
      (first | refine AOps.callq (by rfl) (by rfl) (by exact (aLeft b s k1 0 S1 t1 hb1 (by omega) (by omega) hs)) ?_ | refine ALex.callq (by rfl) (by rfl) (by exact (aLeft b s k1 0 S1 t1 hb1 (by omega) (by omega) hs)) ?_)
      by_cases hle : n ≤ l'.length
      · have d2 : decide ((n : Int) > ((l'.length : Nat) : Int)) = false := decide_eq_false (by omega)
        have f2 : IntKind.i64.wrap (n : Int) = n := IntWalk.i64_in _ (by omega)
        repeat (first | ((first | apply AOps.goP prg | apply ALex.goP prg); (case run => simp only [go_sem, Int.reduceEq, Int.reduceLT, Int.reduceBEq, Int.reduceBNe, Int.reduceNe, Nat.reduceLeDiff, Nat.reduceAdd, Nat.reduceSub, Nat.reduceLT, Nat.reduceEqDiff, Nat.reduceBEq, Int.reduceLE, Int.reduceToNat, hb1, f1, d2, f2]; rfl); (case mm => simp only [go_sem, Int.reduceEq, Int.reduceLT, Int.reduceBEq, Int.reduceBNe, Int.reduceNe, Nat.reduceLeDiff, Nat.reduceAdd, Nat.reduceSub, Nat.reduceLT, Nat.reduceEqDiff, Nat.reduceBEq, Int.reduceLE, Int.reduceToNat]; rfl); (case pr => rfl)) | (refine AW.seq ?_) | (refine AW.region ?_) | (refine AW.draw prg (by kernel_rfl) ?_) | (refine AOps.nil ?_; try dsimp only [AX.then, AX.inBlock]) | (refine ALex.nil ?_; try dsimp only [AX.then, AX.inBlock]) | (refine AW.condT (by rfl) ?_) | (refine AW.condF (by rfl) ?_) | (refine AW.skip ?_; try dsimp only [AX.then, AX.inBlock]) | (refine AW.ret ?_; try dsimp only [AX.then, AX.inBlock]) | (refine AW.block ?_) | (refine AW.exit ?_; simp only [AX.then, AX.inBlock, if_true, Nat.reduceEqDiff, if_false]))
        refine AOps.callx (by rfl) (by rfl) (by exact (aRaw b n s _ S1 hst (by omega) hs)) ?_
        rintro d S2 ⟨rfl, hS2⟩
        repeat (first | ((first | apply AOps.goP prg | apply ALex.goP prg); (case run => simp only [go_sem, Int.reduceEq, Int.reduceLT, Int.reduceBEq, Int.reduceBNe, Int.reduceNe, Nat.reduceLeDiff, Nat.reduceAdd, Nat.reduceSub, Nat.reduceLT, Nat.reduceEqDiff, Nat.reduceBEq, Int.reduceLE, Int.reduceToNat]; rfl); (case mm => simp only [go_sem, Int.reduceEq, Int.reduceLT, Int.reduceBEq, Int.reduceBNe, Int.reduceNe, Nat.reduceLeDiff, Nat.reduceAdd, Nat.reduceSub, Nat.reduceLT, Nat.reduceEqDiff, Nat.reduceBEq, Int.reduceLE, Int.reduceToNat]; rfl); (case pr => rfl)) | (refine AW.seq ?_) | (refine AW.region ?_) | (refine AW.draw prg (by kernel_rfl) ?_) | (refine AOps.nil ?_; try dsimp only [AX.then, AX.inBlock]) | (refine ALex.nil ?_; try dsimp only [AX.then, AX.inBlock]) | (refine AW.condT (by rfl) ?_) | (refine AW.condF (by rfl) ?_) | (refine AW.skip ?_; try dsimp only [AX.then, AX.inBlock]) | (refine AW.ret ?_; try dsimp only [AX.then, AX.inBlock]) | (refine AW.block ?_) | (refine AW.exit ?_; simp only [AX.then, AX.inBlock, if_true, Nat.reduceEqDiff, if_false]))
        first | refine endx (by simp only [go_sem, Int.reduceEq, Int.reduceLT, Int.reduceBEq, Int.reduceBNe, Int.reduceNe, Nat.reduceLeDiff, Nat.reduceAdd, Nat.reduceSub, Nat.reduceLT, Nat.reduceEqDiff, Nat.reduceBEq, Int.reduceLE, Int.reduceToNat]; rfl) (by simp only [go_sem, Int.reduceEq, Int.reduceLT, Int.reduceBEq, Int.reduceBNe, Int.reduceNe, Nat.reduceLeDiff, Nat.reduceAdd, Nat.reduceSub, Nat.reduceLT, Nat.reduceEqDiff, Nat.reduceBEq, Int.reduceLE, Int.reduceToNat]; rfl) (Sto.Sub.refl _) ?_ | refine endnx (by simp only [go_sem, Int.reduceEq, Int.reduceLT, Int.reduceBEq, Int.reduceBNe, Int.reduceNe, Nat.reduceLeDiff, Nat.reduceAdd, Nat.reduceSub, Nat.reduceLT, Nat.reduceEqDiff, Nat.reduceBEq, Int.reduceLE, Int.reduceToNat]; rfl) (by simp only [go_sem, Int.reduceEq, Int.reduceLT, Int.reduceBEq, Int.reduceBNe, Int.reduceNe, Nat.reduceLeDiff, Nat.reduceAdd, Nat.reduceSub, Nat.reduceLT, Nat.reduceEqDiff, Nat.reduceBEq, Int.reduceLE, Int.reduceToNat]; rfl) (Sto.Sub.refl _) ?_
        rw [Int.toNat_natCast] at *
        have e3 : rawP n l' = some (l'.take n, l'.drop n) := by simp [rawP, hle]
        rw [gv_some (e2.trans e3), gr_some (e2.trans e3)]
        rw [gr_some e3] at hS2
        exact ⟨by rw [gv_some e3], hS1.trans hS2⟩
      · have d2 : decide ((n : Int) > ((l'.length : Nat) : Int)) = true := decide_eq_true (by omega)
        have e3 : textP m l = none := by rw [e2]; simp [rawP, hle]
        repeat (first | ((first | apply AOps.goP prg | apply ALex.goP prg); (case run => simp only [go_sem, Int.reduceEq, Int.reduceLT, Int.reduceBEq, Int.reduceBNe, Int.reduceNe, Nat.reduceLeDiff, Nat.reduceAdd, Nat.reduceSub, Nat.reduceLT, Nat.reduceEqDiff, Nat.reduceBEq, Int.reduceLE, Int.reduceToNat, hb1, f1, d2]; rfl); (case mm => simp only [go_sem, Int.reduceEq, Int.reduceLT, Int.reduceBEq, Int.reduceBNe, Int.reduceNe, Nat.reduceLeDiff, Nat.reduceAdd, Nat.reduceSub, Nat.reduceLT, Nat.reduceEqDiff, Nat.reduceBEq, Int.reduceLE, Int.reduceToNat]; rfl); (case pr => rfl)) | (refine AW.seq ?_) | (refine AW.region ?_) | (refine AW.draw prg (by kernel_rfl) ?_) | (refine AOps.nil ?_; try dsimp only [AX.then, AX.inBlock]) | (refine ALex.nil ?_; try dsimp only [AX.then, AX.inBlock]) | (refine AW.condT (by rfl) ?_) | (refine AW.condF (by rfl) ?_) | (refine AW.skip ?_; try dsimp only [AX.then, AX.inBlock]) | (refine AW.ret ?_; try dsimp only [AX.then, AX.inBlock]) | (refine AW.block ?_) | (refine AW.exit ?_; simp only [AX.then, AX.inBlock, if_true, Nat.reduceEqDiff, if_false]))
        (first | refine AOps.callq (by rfl) (by rfl) (by exact (aFail b s _ 0 10 k S1 t1 hb1)) ?_ | refine ALex.callq (by rfl) (by rfl) (by exact (aFail b s _ 0 10 k S1 t1 hb1)) ?_)
        repeat (first | ((first | apply AOps.goP prg | apply ALex.goP prg); (case run => simp only [go_sem, Int.reduceEq, Int.reduceLT, Int.reduceBEq, Int.reduceBNe, Int.reduceNe, Nat.reduceLeDiff, Nat.reduceAdd, Nat.reduceSub, Nat.reduceLT, Nat.reduceEqDiff, Nat.reduceBEq, Int.reduceLE, Int.reduceToNat]; rfl); (case mm => simp only [go_sem, Int.reduceEq, Int.reduceLT, Int.reduceBEq, Int.reduceBNe, Int.reduceNe, Nat.reduceLeDiff, Nat.reduceAdd, Nat.reduceSub, Nat.reduceLT, Nat.reduceEqDiff, Nat.reduceBEq, Int.reduceLE, Int.reduceToNat]; rfl); (case pr => rfl)) | (refine AW.seq ?_) | (refine AW.region ?_) | (refine AW.draw prg (by kernel_rfl) ?_) | (refine AOps.nil ?_; try dsimp only [AX.then, AX.inBlock]) | (refine ALex.nil ?_; try dsimp only [AX.then, AX.inBlock]) | (refine AW.condT (by rfl) ?_) | (refine AW.condF (by rfl) ?_) | (refine AW.skip ?_; try dsimp only [AX.then, AX.inBlock]) | (refine AW.ret ?_; try dsimp only [AX.then, AX.inBlock]) | (refine AW.block ?_) | (refine AW.exit ?_; simp only [AX.then, AX.inBlock, if_true, Nat.reduceEqDiff, if_false]))
        first | refine endx (by simp only [go_sem, Int.reduceEq, Int.reduceLT, Int.reduceBEq, Int.reduceBNe, Int.reduceNe, Nat.reduceLeDiff, Nat.reduceAdd, Nat.reduceSub, Nat.reduceLT, Nat.reduceEqDiff, Nat.reduceBEq, Int.reduceLE, Int.reduceToNat]; rfl) (by simp only [go_sem, Int.reduceEq, Int.reduceLT, Int.reduceBEq, Int.reduceBNe, Int.reduceNe, Nat.reduceLeDiff, Nat.reduceAdd, Nat.reduceSub, Nat.reduceLT, Nat.reduceEqDiff, Nat.reduceBEq, Int.reduceLE, Int.reduceToNat]; rfl) (Sto.Sub.refl _) ?_ | refine endnx (by simp only [go_sem, Int.reduceEq, Int.reduceLT, Int.reduceBEq, Int.reduceBNe, Int.reduceNe, Nat.reduceLeDiff, Nat.reduceAdd, Nat.reduceSub, Nat.reduceLT, Nat.reduceEqDiff, Nat.reduceBEq, Int.reduceLE, Int.reduceToNat]; rfl) (by simp only [go_sem, Int.reduceEq, Int.reduceLT, Int.reduceBEq, Int.reduceBNe, Int.reduceNe, Nat.reduceLeDiff, Nat.reduceAdd, Nat.reduceSub, Nat.reduceLT, Nat.reduceEqDiff, Nat.reduceBEq, Int.reduceLE, Int.reduceToNat]; rfl) (Sto.Sub.refl _) ?_
        rw [gv_none e3, gr_none e3]
        exact ⟨rfl, hS1.trans ⟨k, 10, rfl, by omega, k, rfl, by omega⟩⟩

def countP (m : Nat) (l : Bs) : Option (Nat × Bs) :=
  match freeP m l with
  | none => none
  | some (n, l') => if n ≤ l'.length then some (n, l') else none

set_option maxHeartbeats 1000000 in set_option maxRecDepth 100000 in
theorem aCount (b m : Nat) (s : Bs) (o : Option Bs) (S : Sto) (h : RrSt S b s o) (hs : s.length ≤ 140737488351232) (hm : m ≤ 9223372036854775807) :
    ACalls Tryz.prog 75 [pD b, iD m] S (fun e S' => ∃ d, e = .ret d ∧ d = iD (gv (countP m) 0 o : Nat) ∧ RrTo S b s (gr (countP m) o) S') := by
  have h0 := h
  obtain ⟨t, p, c, hb, hr⟩ := h
  refine acalls_of prg Tryz.func75 rfl (by kernel_rfl) (congrArg Array.toList Tryz.results75) Tryz.ntmps75 (fun B hB => ?_); simp only [List.length_cons, List.length_nil, Nat.reduceAdd, Nat.reduceSub, List.replicate_succ, List.replicate_zero, List.cons_append, List.nil_append]
  repeat (first | ((first | apply AOps.goP prg | apply ALex.goP prg); (case run => simp only [go_sem, Int.reduceEq, Int.reduceLT, Int.reduceBEq, Int.reduceBNe, Int.reduceNe, Nat.reduceLeDiff, Nat.reduceAdd, Nat.reduceSub, Nat.reduceLT, Nat.reduceEqDiff, Nat.reduceBEq, Int.reduceLE, Int.reduceToNat, hb]; rfl); (case mm => simp only [go_sem, Int.reduceEq, Int.reduceLT, Int.reduceBEq, Int.reduceBNe, Int.reduceNe, Nat.reduceLeDiff, Nat.reduceAdd, Nat.reduceSub, Nat.reduceLT, Nat.reduceEqDiff, Nat.reduceBEq, Int.reduceLE, Int.reduceToNat]; rfl); (case pr => rfl)) | (refine AW.seq ?_) | (refine AW.region ?_) | (refine AW.draw prg (by kernel_rfl) ?_) | (refine AOps.nil ?_; try dsimp only [AX.then, AX.inBlock]) | (refine ALex.nil ?_; try dsimp only [AX.then, AX.inBlock]) | (refine AW.condT (by rfl) ?_) | (refine AW.condF (by rfl) ?_) | (refine AW.skip ?_; try dsimp only [AX.then, AX.inBlock]) | (refine AW.ret ?_; try dsimp only [AX.then, AX.inBlock]) | (refine AW.block ?_) | (refine AW.exit ?_; simp only [AX.then, AX.inBlock, if_true, Nat.reduceEqDiff, if_false]))
  (first | refine AOps.callq (by rfl) (by rfl) (by exact (aBound m S hm)) ?_ | refine ALex.callq (by rfl) (by rfl) (by exact (aBound m S hm)) ?_)
  repeat (first | ((first | apply AOps.goP prg | apply ALex.goP prg); (case run => simp only [go_sem, Int.reduceEq, Int.reduceLT, Int.reduceBEq, Int.reduceBNe, Int.reduceNe, Nat.reduceLeDiff, Nat.reduceAdd, Nat.reduceSub, Nat.reduceLT, Nat.reduceEqDiff, Nat.reduceBEq, Int.reduceLE, Int.reduceToNat]; rfl); (case mm => simp only [go_sem, Int.reduceEq, Int.reduceLT, Int.reduceBEq, Int.reduceBNe, Int.reduceNe, Nat.reduceLeDiff, Nat.reduceAdd, Nat.reduceSub, Nat.reduceLT, Nat.reduceEqDiff, Nat.reduceBEq, Int.reduceLE, Int.reduceToNat]; rfl); (case pr => rfl)) | (refine AW.seq ?_) | (refine AW.region ?_) | (refine AW.draw prg (by kernel_rfl) ?_) | (refine AOps.nil ?_; try dsimp only [AX.then, AX.inBlock]) | (refine ALex.nil ?_; try dsimp only [AX.then, AX.inBlock]) | (refine AW.condT (by rfl) ?_) | (refine AW.condF (by rfl) ?_) | (refine AW.skip ?_; try dsimp only [AX.then, AX.inBlock]) | (refine AW.ret ?_; try dsimp only [AX.then, AX.inBlock]) | (refine AW.block ?_) | (refine AW.exit ?_; simp only [AX.then, AX.inBlock, if_true, Nat.reduceEqDiff, if_false]))
  refine AOps.callx (by rfl) (by rfl) (by exact (aFree b m s o S h0 hs (by omega))) ?_
  rintro d S1 ⟨rfl, hS1⟩
  have h1 := hS1.st h0
  obtain ⟨t1, p1, c1, hb1, hr1⟩ := h1
  cases o with
  | none =>
    have hn : gr (freeP m) none = none := rfl
    rw [hn] at hr1 hS1
    obtain ⟨hc, k, hp, hk⟩ := hr1
    have d1 : (c1 != 0) = true := by simpa using hc
    repeat (first | ((first | apply AOps.goP prg | apply ALex.goP prg); (case run => simp only [go_sem, Int.reduceEq, Int.reduceLT, Int.reduceBEq, Int.reduceBNe, Int.reduceNe, Nat.reduceLeDiff, Nat.reduceAdd, Nat.reduceSub, Nat.reduceLT, Nat.reduceEqDiff, Nat.reduceBEq, Int.reduceLE, Int.reduceToNat, hb1, d1]; rfl); (case mm => simp only [go_sem, Int.reduceEq, Int.reduceLT, Int.reduceBEq, Int.reduceBNe, Int.reduceNe, Nat.reduceLeDiff, Nat.reduceAdd, Nat.reduceSub, Nat.reduceLT, Nat.reduceEqDiff, Nat.reduceBEq, Int.reduceLE, Int.reduceToNat]; rfl); (case pr => rfl)) | (refine AW.seq ?_) | (refine AW.region ?_) | (refine AW.draw prg (by kernel_rfl) ?_) | (refine AOps.nil ?_; try dsimp only [AX.then, AX.inBlock]) | (refine ALex.nil ?_; try dsimp only [AX.then, AX.inBlock]) | (refine AW.condT (by rfl) ?_) | (refine AW.condF (by rfl) ?_) | (refine AW.skip ?_; try dsimp only [AX.then, AX.inBlock]) | (refine AW.ret ?_; try dsimp only [AX.then, AX.inBlock]) | (refine AW.block ?_) | (refine AW.exit ?_; simp only [AX.then, AX.inBlock, if_true, Nat.reduceEqDiff, if_false]))
    first | refine endx (by simp only [go_sem, Int.reduceEq, Int.reduceLT, Int.reduceBEq, Int.reduceBNe, Int.reduceNe, Nat.reduceLeDiff, Nat.reduceAdd, Nat.reduceSub, Nat.reduceLT, Nat.reduceEqDiff, Nat.reduceBEq, Int.reduceLE, Int.reduceToNat]; rfl) (by simp only [go_sem, Int.reduceEq, Int.reduceLT, Int.reduceBEq, Int.reduceBNe, Int.reduceNe, Nat.reduceLeDiff, Nat.reduceAdd, Nat.reduceSub, Nat.reduceLT, Nat.reduceEqDiff, Nat.reduceBEq, Int.reduceLE, Int.reduceToNat]; rfl) (Sto.Sub.refl _) ?_ | refine endnx (by simp only [go_sem, Int.reduceEq, Int.reduceLT, Int.reduceBEq, Int.reduceBNe, Int.reduceNe, Nat.reduceLeDiff, Nat.reduceAdd, Nat.reduceSub, Nat.reduceLT, Nat.reduceEqDiff, Nat.reduceBEq, Int.reduceLE, Int.reduceToNat]; rfl) (by simp only [go_sem, Int.reduceEq, Int.reduceLT, Int.reduceBEq, Int.reduceBNe, Int.reduceNe, Nat.reduceLeDiff, Nat.reduceAdd, Nat.reduceSub, Nat.reduceLT, Nat.reduceEqDiff, Nat.reduceBEq, Int.reduceLE, Int.reduceToNat]; rfl) (Sto.Sub.refl _) ?_
    exact ⟨rfl, hS1⟩
  | some l =>
    obtain ⟨rfl, k, rfl, hk, hl⟩ := hr
    cases hf : freeP m l with
    | none =>
      have e2 : countP m l = none := by unfold countP; rw [hf]
      rw [gr_none hf] at hr1 hS1
      obtain ⟨hc, k1, hp, hk1⟩ := hr1
      have d1 : (c1 != 0) = true := by simpa using hc
      repeat (first | ((first | apply AOps.goP prg | apply ALex.goP prg); (case run => simp only [go_sem, Int.reduceEq, Int.reduceLT, Int.reduceBEq, Int.reduceBNe, Int.reduceNe, Nat.reduceLeDiff, Nat.reduceAdd, Nat.reduceSub, Nat.reduceLT, Nat.reduceEqDiff, Nat.reduceBEq, Int.reduceLE, Int.reduceToNat, hb1, d1]; rfl); (case mm => simp only [go_sem, Int.reduceEq, Int.reduceLT, Int.reduceBEq, Int.reduceBNe, Int.reduceNe, Nat.reduceLeDiff, Nat.reduceAdd, Nat.reduceSub, Nat.reduceLT, Nat.reduceEqDiff, Nat.reduceBEq, Int.reduceLE, Int.reduceToNat]; rfl); (case pr => rfl)) | (refine AW.seq ?_) | (refine AW.region ?_) | (refine AW.draw prg (by kernel_rfl) ?_) | (refine AOps.nil ?_; try dsimp only [AX.then, AX.inBlock]) | (refine ALex.nil ?_; try dsimp only [AX.then, AX.inBlock]) | (refine AW.condT (by rfl) ?_) | (refine AW.condF (by rfl) ?_) | (refine AW.skip ?_; try dsimp only [AX.then, AX.inBlock]) | (refine AW.ret ?_; try dsimp only [AX.then, AX.inBlock]) | (refine AW.block ?_) | (refine AW.exit ?_; simp only [AX.then, AX.inBlock, if_true, Nat.reduceEqDiff, if_false]))
      first | refine endx (by simp only [go_sem, Int.reduceEq, Int.reduceLT, Int.reduceBEq, Int.reduceBNe, Int.reduceNe, Nat.reduceLeDiff, Nat.reduceAdd, Nat.reduceSub, Nat.reduceLT, Nat.reduceEqDiff, Nat.reduceBEq, Int.reduceLE, Int.reduceToNat]; rfl) (by simp only [go_sem, Int.reduceEq, Int.reduceLT, Int.reduceBEq, Int.reduceBNe, Int.reduceNe, Nat.reduceLeDiff, Nat.reduceAdd, Nat.reduceSub, Nat.reduceLT, Nat.reduceEqDiff, Nat.reduceBEq, Int.reduceLE, Int.reduceToNat]; rfl) (Sto.Sub.refl _) ?_ | refine endnx (by simp only [go_sem, Int.reduceEq, Int.reduceLT, Int.reduceBEq, Int.reduceBNe, Int.reduceNe, Nat.reduceLeDiff, Nat.reduceAdd, Nat.reduceSub, Nat.reduceLT, Nat.reduceEqDiff, Nat.reduceBEq, Int.reduceLE, Int.reduceToNat]; rfl) (by simp only [go_sem, Int.reduceEq, Int.reduceLT, Int.reduceBEq, Int.reduceBNe, Int.reduceNe, Nat.reduceLeDiff, Nat.reduceAdd, Nat.reduceSub, Nat.reduceLT, Nat.reduceEqDiff, Nat.reduceBEq, Int.reduceLE, Int.reduceToNat]; rfl) (Sto.Sub.refl _) ?_
      rw [gv_none e2, gr_none e2]
      exact ⟨rfl, hS1⟩
    | some r =>
      obtain ⟨n, l'⟩ := r
      have e2 : countP m l = if n ≤ l'.length then some (n, l') else none := by unfold countP; rw [hf]
      have hnm := (freeP_rest hf).2.2
      rw [gr_some hf] at hr1 hS1
      rw [gv_some hf]
      obtain ⟨rfl, k1, rfl, hk1, hl1⟩ := hr1
      have d1 : ((0 : Int) != 0) = false := rfl
      have f1 : IntKind.u64.wrap ((s.length : Int) - k1) = ((l'.length : Nat) : Int) := by rw [IntKind.wrap_u64]; omega
      repeat (first | ((first | apply AOps.goP prg | apply ALex.goP prg); (case run => simp only [go_sem, Int.reduceEq, Int.reduceLT, Int.reduceBEq, Int.reduceBNe, Int.reduceNe, Nat.reduceLeDiff, Nat.reduceAdd, Nat.reduceSub, Nat.reduceLT, Nat.reduceEqDiff, Nat.reduceBEq, Int.reduceLE, Int.reduceToNat, hb1, d1]; rfl); (case mm => simp only [go_sem, Int.reduceEq, Int.reduceLT, Int.reduceBEq, Int.reduceBNe, Int.reduceNe, Nat.reduceLeDiff, Nat.reduceAdd, Nat.reduceSub, Nat.reduceLT, Nat.reduceEqDiff, Nat.reduceBEq, Int.reduceLE, Int.reduceToNat]; rfl); (case pr => rfl)) | (refine AW.seq ?_) | (refine AW.region ?_) | (refine AW.draw prg (by kernel_rfl) ?_) | (refine AOps.nil ?_; try dsimp only [AX.then, AX.inBlock]) | (refine ALex.nil ?_; try dsimp only [AX.then, AX.inBlock]) | (refine AW.condT (by rfl) ?_) | (refine AW.condF (by rfl) ?_) | (refine AW.skip ?_; try dsimp only [AX.then, AX.inBlock]) | (refine AW.ret ?_; try dsimp only [AX.then, AX.inBlock]) | (refine AW.block ?_) | (refine AW.exit ?_; simp only [AX.then, AX.inBlock, if_true, Nat.reduceEqDiff, if_false]))
      (first | refine AOps.callq (by rfl) (by rfl) (by exact (aLeft b s k1 0 S1 t1 hb1 (by omega) (by omega) hs)) ?_ | refine ALex.callq (by rfl) (by rfl) (by exact (aLeft b s k1 0 S1 t1 hb1 (by omega) (by omega) hs)) ?_)
      by_cases hle : n ≤ l'.length
      · have d2 : decide ((n : Int) > ((l'.length : Nat) : Int)) = false := decide_eq_false (by omega)
        have f2 : IntKind.i64.wrap (n : Int) = n := IntWalk.i64_in _ (by omega)
        rw [if_pos hle] at e2
        repeat (first | ((first | apply AOps.goP prg | apply ALex.goP prg); (case run => simp only [go_sem, Int.reduceEq, Int.reduceLT, Int.reduceBEq, Int.reduceBNe, Int.reduceNe, Nat.reduceLeDiff, Nat.reduceAdd, Nat.reduceSub, Nat.reduceLT, Nat.reduceEqDiff, Nat.reduceBEq, Int.reduceLE, Int.reduceToNat, hb1, f1, d2, f2]; rfl); (case mm => simp only [go_sem, Int.reduceEq, Int.reduceLT, Int.reduceBEq, Int.reduceBNe, Int.reduceNe, Nat.reduceLeDiff, Nat.reduceAdd, Nat.reduceSub, Nat.reduceLT, Nat.reduceEqDiff, Nat.reduceBEq, Int.reduceLE, Int.reduceToNat]; rfl); (case pr => rfl)) | (refine AW.seq ?_) | (refine AW.region ?_) | (refine AW.draw prg (by kernel_rfl) ?_) | (refine AOps.nil ?_; try dsimp only [AX.then, AX.inBlock]) | (refine ALex.nil ?_; try dsimp only [AX.then, AX.inBlock]) | (refine AW.condT (by rfl) ?_) | (refine AW.condF (by rfl) ?_) | (refine AW.skip ?_; try dsimp only [AX.then, AX.inBlock]) | (refine AW.ret ?_; try dsimp only [AX.then, AX.inBlock]) | (refine AW.block ?_) | (refine AW.exit ?_; simp only [AX.then, AX.inBlock, if_true, Nat.reduceEqDiff, if_false]))
        first | refine endx (by simp only [go_sem, Int.reduceEq, Int.reduceLT, Int.reduceBEq, Int.reduceBNe, Int.reduceNe, Nat.reduceLeDiff, Nat.reduceAdd, Nat.reduceSub, Nat.reduceLT, Nat.reduceEqDiff, Nat.reduceBEq, Int.reduceLE, Int.reduceToNat]; rfl) (by simp only [go_sem, Int.reduceEq, Int.reduceLT, Int.reduceBEq, Int.reduceBNe, Int.reduceNe, Nat.reduceLeDiff, Nat.reduceAdd, Nat.reduceSub, Nat.reduceLT, Nat.reduceEqDiff, Nat.reduceBEq, Int.reduceLE, Int.reduceToNat]; rfl) (Sto.Sub.refl _) ?_ | refine endnx (by simp only [go_sem, Int.reduceEq, Int.reduceLT, Int.reduceBEq, Int.reduceBNe, Int.reduceNe, Nat.reduceLeDiff, Nat.reduceAdd, Nat.reduceSub, Nat.reduceLT, Nat.reduceEqDiff, Nat.reduceBEq, Int.reduceLE, Int.reduceToNat]; rfl) (by simp only [go_sem, Int.reduceEq, Int.reduceLT, Int.reduceBEq, Int.reduceBNe, Int.reduceNe, Nat.reduceLeDiff, Nat.reduceAdd, Nat.reduceSub, Nat.reduceLT, Nat.reduceEqDiff, Nat.reduceBEq, Int.reduceLE, Int.reduceToNat]; rfl) (Sto.Sub.refl _) ?_
        rw [gv_some e2, gr_some e2]
        exact ⟨rfl, hS1⟩
      · have d2 : decide ((n : Int) > ((l'.length : Nat) : Int)) = true := decide_eq_true (by omega)
        rw [if_neg hle] at e2
        repeat (first | ((first | apply AOps.goP prg | apply ALex.goP prg); (case run => simp only [go_sem, Int.reduceEq, Int.reduceLT, Int.reduceBEq, Int.reduceBNe, Int.reduceNe, Nat.reduceLeDiff, Nat.reduceAdd, Nat.reduceSub, Nat.reduceLT, Nat.reduceEqDiff, Nat.reduceBEq, Int.reduceLE, Int.reduceToNat, hb1, f1, d2]; rfl); (case mm => simp only [go_sem, Int.reduceEq, Int.reduceLT, Int.reduceBEq, Int.reduceBNe, Int.reduceNe, Nat.reduceLeDiff, Nat.reduceAdd, Nat.reduceSub, Nat.reduceLT, Nat.reduceEqDiff, Nat.reduceBEq, Int.reduceLE, Int.reduceToNat]; rfl); (case pr => rfl)) | (refine AW.seq ?_) | (refine AW.region ?_) | (refine AW.draw prg (by kernel_rfl) ?_) | (refine AOps.nil ?_; try dsimp only [AX.then, AX.inBlock]) | (refine ALex.nil ?_; try dsimp only [AX.then, AX.inBlock]) | (refine AW.condT (by rfl) ?_) | (refine AW.condF (by rfl) ?_) | (refine AW.skip ?_; try dsimp only [AX.then, AX.inBlock]) | (refine AW.ret ?_; try dsimp only [AX.then, AX.inBlock]) | (refine AW.block ?_) | (refine AW.exit ?_; simp only [AX.then, AX.inBlock, if_true, Nat.reduceEqDiff, if_false]))
        (first | refine AOps.callq (by rfl) (by rfl) (by exact (aFail b s _ 0 12 k S1 t1 hb1)) ?_ | refine ALex.callq (by rfl) (by rfl) (by exact (aFail b s _ 0 12 k S1 t1 hb1)) ?_)
        repeat (first | ((first | apply AOps.goP prg | apply ALex.goP prg); (case run => simp only [go_sem, Int.reduceEq, Int.reduceLT, Int.reduceBEq, Int.reduceBNe, Int.reduceNe, Nat.reduceLeDiff, Nat.reduceAdd, Nat.reduceSub, Nat.reduceLT, Nat.reduceEqDiff, Nat.reduceBEq, Int.reduceLE, Int.reduceToNat]; rfl); (case mm => simp only [go_sem, Int.reduceEq, Int.reduceLT, Int.reduceBEq, Int.reduceBNe, Int.reduceNe, Nat.reduceLeDiff, Nat.reduceAdd, Nat.reduceSub, Nat.reduceLT, Nat.reduceEqDiff, Nat.reduceBEq, Int.reduceLE, Int.reduceToNat]; rfl); (case pr => rfl)) | (refine AW.seq ?_) | (refine AW.region ?_) | (refine AW.draw prg (by kernel_rfl) ?_) | (refine AOps.nil ?_; try dsimp only [AX.then, AX.inBlock]) | (refine ALex.nil ?_; try dsimp only [AX.then, AX.inBlock]) | (refine AW.condT (by rfl) ?_) | (refine AW.condF (by rfl) ?_) | (refine AW.skip ?_; try dsimp only [AX.then, AX.inBlock]) | (refine AW.ret ?_; try dsimp only [AX.then, AX.inBlock]) | (refine AW.block ?_) | (refine AW.exit ?_; simp only [AX.then, AX.inBlock, if_true, Nat.reduceEqDiff, if_false]))
        first | refine endx (by simp only [go_sem, Int.reduceEq, Int.reduceLT, Int.reduceBEq, Int.reduceBNe, Int.reduceNe, Nat.reduceLeDiff, Nat.reduceAdd, Nat.reduceSub, Nat.reduceLT, Nat.reduceEqDiff, Nat.reduceBEq, Int.reduceLE, Int.reduceToNat]; rfl) (by simp only [go_sem, Int.reduceEq, Int.reduceLT, Int.reduceBEq, Int.reduceBNe, Int.reduceNe, Nat.reduceLeDiff, Nat.reduceAdd, Nat.reduceSub, Nat.reduceLT, Nat.reduceEqDiff, Nat.reduceBEq, Int.reduceLE, Int.reduceToNat]; rfl) (Sto.Sub.refl _) ?_ | refine endnx (by simp only [go_sem, Int.reduceEq, Int.reduceLT, Int.reduceBEq, Int.reduceBNe, Int.reduceNe, Nat.reduceLeDiff, Nat.reduceAdd, Nat.reduceSub, Nat.reduceLT, Nat.reduceEqDiff, Nat.reduceBEq, Int.reduceLE, Int.reduceToNat]; rfl) (by simp only [go_sem, Int.reduceEq, Int.reduceLT, Int.reduceBEq, Int.reduceBNe, Int.reduceNe, Nat.reduceLeDiff, Nat.reduceAdd, Nat.reduceSub, Nat.reduceLT, Nat.reduceEqDiff, Nat.reduceBEq, Int.reduceLE, Int.reduceToNat]; rfl) (Sto.Sub.refl _) ?_
        rw [gv_none e2, gr_none e2]
        exact ⟨rfl, hS1.trans ⟨k, 12, rfl, by omega, k, rfl, by omega⟩⟩

/-- A digest of a width. -/
def digP (w : Nat) (l : Bs) : Option (Dg × Bs) := (rawP w l).map fun p => (Dg.pad p.1, p.2)
def padTo (s : Bs) (i : Nat) : Dg := Dg.pad (s.take i)
theorem padTo_set (s : Bs) (i : Nat) (u : UInt8) (hu : s[i]? = some u) (hi : i < 32) : (padTo s i).setB i u.toNat = padTo s (i + 1) := by
  have hlt : i < s.length := (List.getElem?_eq_some_iff.1 hu).1
  apply Dg.ext'
  show (padB (s.take i)).set i (UInt8.ofNat u.toNat) = padB (s.take (i + 1))
  have h1 : (s.take i).length = i := by rw [List.length_take]; omega
  have h2 : (s.take (i + 1)).length = i + 1 := by rw [List.length_take]; omega
  unfold padB
  rw [h1, h2, List.take_of_length_le (show (s.take i).length ≤ 32 by omega), List.take_of_length_le (show (s.take (i + 1)).length ≤ 32 by omega), UInt8.ofNat_toNat]
  have h3 : s.take (i + 1) = s.take i ++ [u] := by rw [List.take_add_one, hu]; rfl
  rw [h3]
  rw [show 32 - i = (32 - (i + 1)) + 1 by omega, List.replicate_succ]
  rw [List.set_append_right _ _ (by omega), h1, Nat.sub_self, List.set_cons_zero]
  simp

theorem RrSt.cons {S : Sto} {b c : Nat} {s : Bs} {o : Option Bs} {t : TypeId} {d : D} (h : RrSt S b s o) (hc : c ∉ S.bk.map (·.1)) : RrSt ⟨(c, t, d) :: S.bk, S.ow⟩ b s o := by
  obtain ⟨t', p, k, h1, h2⟩ := h
  exact ⟨t', p, k, by rw [getM_cons, if_neg (getM_ne h1 hc)]; exact h1, h2⟩
theorem RrSt.cons' {bk : List (Nat × TypeId × D)} {ow : List (Nat × Nat)} {b c : Nat} {s : Bs} {o : Option Bs} {t : TypeId} {d : D} (h : RrSt ⟨bk, ow⟩ b s o) (hc : c ∉ bk.map (·.1)) : RrSt ⟨(c, t, d) :: bk, ow⟩ b s o := h.cons hc
theorem RrTo.cons {S S1 : Sto} {b c : Nat} {s : Bs} {o : Option Bs} {t : TypeId} {d : D} (h : RrTo ⟨(c, t, d) :: S.bk, S.ow⟩ b s o S1) (hc : ¬ b = c) : ∃ S2, RrTo S b s o S2 ∧ S1 = ⟨(c, t, d) :: S2.bk, S2.ow⟩ := by
  obtain ⟨p, k, rfl, h2⟩ := h
  exact ⟨_, ⟨p, k, rfl, h2⟩, by simp only [setM_cons, if_neg hc]⟩
theorem RrTo.cons' {bk : List (Nat × TypeId × D)} {ow : List (Nat × Nat)} {S1 : Sto} {b c : Nat} {s : Bs} {o : Option Bs} {t : TypeId} {d : D} (h : RrTo ⟨(c, t, d) :: bk, ow⟩ b s o S1) (hc : ¬ b = c) : ∃ S2, RrTo ⟨bk, ow⟩ b s o S2 ∧ S1 = ⟨(c, t, d) :: S2.bk, S2.ow⟩ := RrTo.cons (S := ⟨bk, ow⟩) h hc
theorem RrSt.ne {S : Sto} {b c : Nat} {s : Bs} {o : Option Bs} (h : RrSt S b s o) (hc : c ∉ S.bk.map (·.1)) : ¬ b = c := by
  obtain ⟨t', p, k, h1, h2⟩ := h
  exact getM_ne h1 hc

set_option maxHeartbeats 1000000 in set_option maxRecDepth 100000 in
theorem aDigest (b : Nat) (w : Int) (s : Bs) (o : Option Bs) (S : Sto) (h : RrSt S b s o) (hs : s.length ≤ 140737488351232) :
    ACalls Tryz.prog 77 [pD b, iD w] S (fun e S' => ∃ d, e = .ret d ∧ d = .dg (gv (digP (widN w)) Dg.zero o) ∧ RrTo S b s (gr (digP (widN w)) o) S') := by
  have hw : widN w ≤ 32 := by unfold widN; split <;> (try split) <;> omega
  have hx1 : gv (digP (widN w)) Dg.zero o = Dg.pad (gv (rawP (widN w)) [] o) ∧ gr (digP (widN w)) o = gr (rawP (widN w)) o ∧ (gv (rawP (widN w)) [] o).length ≤ 32 := by
    cases o with
    | none => exact ⟨rfl, rfl, by simp [gv]⟩
    | some l =>
      cases hr : rawP (widN w) l with
      | none => exact ⟨by simp [gv, digP, hr, Dg.zero], by simp [gr, digP, hr], by simp [gv, hr]⟩
      | some q =>
        refine ⟨by simp [gv, digP, hr], by simp [gr, digP, hr], ?_⟩
        simp only [gv, Option.bind_some, hr, Option.map_some, Option.getD_some]
        unfold rawP at hr
        split at hr
        · simp only [Option.some.injEq] at hr; rw [← hr]; simp; omega
        · cases hr
  obtain ⟨hx1, hx2, hx3⟩ := hx1
  rw [hx1, hx2]
  refine acalls_of prg Tryz.func77 rfl (by kernel_rfl) (congrArg Array.toList Tryz.results77) Tryz.ntmps77 (fun B hB => ?_); simp only [List.length_cons, List.length_nil, Nat.reduceAdd, Nat.reduceSub, List.replicate_succ, List.replicate_zero, List.cons_append, List.nil_append]
  repeat (first | ((first | apply AOps.goP prg | apply ALex.goP prg); (case run => simp only [go_sem, Int.reduceEq, Int.reduceLT, Int.reduceBEq, Int.reduceBNe, Int.reduceNe, Nat.reduceLeDiff, Nat.reduceAdd, Nat.reduceSub, Nat.reduceLT, Nat.reduceEqDiff, Nat.reduceBEq, Int.reduceLE, Int.reduceToNat]; rfl); (case mm => simp only [go_sem, Int.reduceEq, Int.reduceLT, Int.reduceBEq, Int.reduceBNe, Int.reduceNe, Nat.reduceLeDiff, Nat.reduceAdd, Nat.reduceSub, Nat.reduceLT, Nat.reduceEqDiff, Nat.reduceBEq, Int.reduceLE, Int.reduceToNat]; rfl); (case pr => rfl)) | (refine AW.seq ?_) | (refine AW.region ?_) | (refine AW.draw prg (by kernel_rfl) ?_) | (refine AOps.nil ?_; try dsimp only [AX.then, AX.inBlock]) | (refine ALex.nil ?_; try dsimp only [AX.then, AX.inBlock]) | (refine AW.condT (by rfl) ?_) | (refine AW.condF (by rfl) ?_) | (refine AW.skip ?_; try dsimp only [AX.then, AX.inBlock]) | (refine AW.ret ?_; try dsimp only [AX.then, AX.inBlock]) | (refine AW.block ?_) | (refine AW.exit ?_; simp only [AX.then, AX.inBlock, if_true, Nat.reduceEqDiff, if_false]))
  refine AOps.alloc prg (by rfl) (by rfl) (by rfl) (by rfl) ?_; rintro b1 ⟨k_b1, o_b1⟩; (try simp only [List.map_cons, List.mem_cons, not_or] at k_b1)
  repeat (first | ((first | apply AOps.goP prg | apply ALex.goP prg); (case run => simp only [go_sem, Int.reduceEq, Int.reduceLT, Int.reduceBEq, Int.reduceBNe, Int.reduceNe, Nat.reduceLeDiff, Nat.reduceAdd, Nat.reduceSub, Nat.reduceLT, Nat.reduceEqDiff, Nat.reduceBEq, Int.reduceLE, Int.reduceToNat]; rfl); (case mm => simp only [go_sem, Int.reduceEq, Int.reduceLT, Int.reduceBEq, Int.reduceBNe, Int.reduceNe, Nat.reduceLeDiff, Nat.reduceAdd, Nat.reduceSub, Nat.reduceLT, Nat.reduceEqDiff, Nat.reduceBEq, Int.reduceLE, Int.reduceToNat]; rfl); (case pr => rfl)) | (refine AW.seq ?_) | (refine AW.region ?_) | (refine AW.draw prg (by kernel_rfl) ?_) | (refine AOps.nil ?_; try dsimp only [AX.then, AX.inBlock]) | (refine ALex.nil ?_; try dsimp only [AX.then, AX.inBlock]) | (refine AW.condT (by rfl) ?_) | (refine AW.condF (by rfl) ?_) | (refine AW.skip ?_; try dsimp only [AX.then, AX.inBlock]) | (refine AW.ret ?_; try dsimp only [AX.then, AX.inBlock]) | (refine AW.block ?_) | (refine AW.exit ?_; simp only [AX.then, AX.inBlock, if_true, Nat.reduceEqDiff, if_false]))
  (first | refine AOps.callq (by rfl) (by rfl) (by exact (aWidth w _)) ?_ | refine ALex.callq (by rfl) (by rfl) (by exact (aWidth w _)) ?_)
  repeat (first | ((first | apply AOps.goP prg | apply ALex.goP prg); (case run => simp only [go_sem, Int.reduceEq, Int.reduceLT, Int.reduceBEq, Int.reduceBNe, Int.reduceNe, Nat.reduceLeDiff, Nat.reduceAdd, Nat.reduceSub, Nat.reduceLT, Nat.reduceEqDiff, Nat.reduceBEq, Int.reduceLE, Int.reduceToNat]; rfl); (case mm => simp only [go_sem, Int.reduceEq, Int.reduceLT, Int.reduceBEq, Int.reduceBNe, Int.reduceNe, Nat.reduceLeDiff, Nat.reduceAdd, Nat.reduceSub, Nat.reduceLT, Nat.reduceEqDiff, Nat.reduceBEq, Int.reduceLE, Int.reduceToNat]; rfl); (case pr => rfl)) | (refine AW.seq ?_) | (refine AW.region ?_) | (refine AW.draw prg (by kernel_rfl) ?_) | (refine AOps.nil ?_; try dsimp only [AX.then, AX.inBlock]) | (refine ALex.nil ?_; try dsimp only [AX.then, AX.inBlock]) | (refine AW.condT (by rfl) ?_) | (refine AW.condF (by rfl) ?_) | (refine AW.skip ?_; try dsimp only [AX.then, AX.inBlock]) | (refine AW.ret ?_; try dsimp only [AX.then, AX.inBlock]) | (refine AW.block ?_) | (refine AW.exit ?_; simp only [AX.then, AX.inBlock, if_true, Nat.reduceEqDiff, if_false]))
  have hn1 := h.ne k_b1
  refine AOps.callx (by rfl) (by rfl) (by exact (aRaw b (widN w : Nat) s o _ (h.cons k_b1) (by omega) hs)) ?_
  rintro d S1 ⟨rfl, hS1⟩
  rw [Int.toNat_natCast] at *
  obtain ⟨x, hx⟩ : ∃ x, gv (rawP (widN w)) [] o = x := ⟨_, rfl⟩
  rw [hx] at hx3 ⊢
  obtain ⟨S2, hS2, rfl⟩ := hS1.cons hn1
  repeat (first | ((first | apply AOps.goP prg | apply ALex.goP prg); (case run => simp only [go_sem, Int.reduceEq, Int.reduceLT, Int.reduceBEq, Int.reduceBNe, Int.reduceNe, Nat.reduceLeDiff, Nat.reduceAdd, Nat.reduceSub, Nat.reduceLT, Nat.reduceEqDiff, Nat.reduceBEq, Int.reduceLE, Int.reduceToNat]; rfl); (case mm => simp only [go_sem, Int.reduceEq, Int.reduceLT, Int.reduceBEq, Int.reduceBNe, Int.reduceNe, Nat.reduceLeDiff, Nat.reduceAdd, Nat.reduceSub, Nat.reduceLT, Nat.reduceEqDiff, Nat.reduceBEq, Int.reduceLE, Int.reduceToNat]; rfl); (case pr => rfl)) | (refine AW.seq ?_) | (refine AW.region ?_) | (refine AW.draw prg (by kernel_rfl) ?_) | (refine AOps.nil ?_; try dsimp only [AX.then, AX.inBlock]) | (refine ALex.nil ?_; try dsimp only [AX.then, AX.inBlock]) | (refine AW.condT (by rfl) ?_) | (refine AW.condF (by rfl) ?_) | (refine AW.skip ?_; try dsimp only [AX.then, AX.inBlock]) | (refine AW.ret ?_; try dsimp only [AX.then, AX.inBlock]) | (refine AW.block ?_) | (refine AW.exit ?_; simp only [AX.then, AX.inBlock, if_true, Nat.reduceEqDiff, if_false]))
  refine AOps.alloc prg (by rfl) (by rfl) (by rfl) (by rfl) ?_; rintro b2 ⟨k_b2, o_b2⟩; (try simp only [List.map_cons, List.mem_cons, not_or] at k_b2)
  have hn2 : ¬ b1 = b2 := fun e => k_b2.1 e.symm
  repeat (first | ((first | apply AOps.goP prg | apply ALex.goP prg); (case run => simp only [go_sem, Int.reduceEq, Int.reduceLT, Int.reduceBEq, Int.reduceBNe, Int.reduceNe, Nat.reduceLeDiff, Nat.reduceAdd, Nat.reduceSub, Nat.reduceLT, Nat.reduceEqDiff, Nat.reduceBEq, Int.reduceLE, Int.reduceToNat]; rfl); (case mm => simp only [go_sem, Int.reduceEq, Int.reduceLT, Int.reduceBEq, Int.reduceBNe, Int.reduceNe, Nat.reduceLeDiff, Nat.reduceAdd, Nat.reduceSub, Nat.reduceLT, Nat.reduceEqDiff, Nat.reduceBEq, Int.reduceLE, Int.reduceToNat]; rfl); (case pr => rfl)) | (refine AW.seq ?_) | (refine AW.region ?_) | (refine AW.draw prg (by kernel_rfl) ?_) | (refine AOps.nil ?_; try dsimp only [AX.then, AX.inBlock]) | (refine ALex.nil ?_; try dsimp only [AX.then, AX.inBlock]) | (refine AW.condT (by rfl) ?_) | (refine AW.condF (by rfl) ?_) | (refine AW.skip ?_; try dsimp only [AX.then, AX.inBlock]) | (refine AW.ret ?_; try dsimp only [AX.then, AX.inBlock]) | (refine AW.block ?_) | (refine AW.exit ?_; simp only [AX.then, AX.inBlock, if_true, Nat.reduceEqDiff, if_false]))
  refine AW.loopS 8 [7] (fun xs S' => ∃ i : Nat, xs = [iD i] ∧ S' = ⟨(b2, 36, .dg (padTo x i)) :: (b1, 36, .dg Dg.zero) :: S2.bk, S2.ow⟩ ∧ i ≤ x.length) (fun xs _ => x.length - nI (xs.getD 0 .any)) [iD 0] _ ?_ (Sto.Sub.refl _) ⟨0, rfl, rfl, by omega⟩ ?_
  · simp only [go_sem, Int.reduceEq, Int.reduceLT, Int.reduceBEq, Int.reduceBNe, Int.reduceNe, Nat.reduceLeDiff, Nat.reduceAdd, Nat.reduceSub, Nat.reduceLT, Nat.reduceEqDiff, Nat.reduceBEq, Int.reduceLE, Int.reduceToNat, weakA, or_true, true_or, and_self]
  rintro xs S' ⟨i, rfl, rfl, hi⟩
  apply AW.frame; case fr => (simp only [go_sem, Int.reduceEq, Int.reduceLT, Int.reduceBEq, Int.reduceBNe, Int.reduceNe, Nat.reduceLeDiff, Nat.reduceAdd, Nat.reduceSub, Nat.reduceLT, Nat.reduceEqDiff, Nat.reduceBEq, Int.reduceLE, Int.reduceToNat]; rfl)
  by_cases hlt : i < x.length
  · have d1 : decide ((i : Int) < (x.length : Nat)) = true := decide_eq_true (by omega)
    obtain ⟨u, hu⟩ : ∃ u, x[i]? = some u := ⟨_, List.getElem?_eq_getElem hlt⟩
    have c1 : (0 : Int) ≤ (i : Int) := by omega
    have c2 : (0 : Int) ≤ (i : Int) ∧ (i : Int) < 32 := by omega
    have c3 : i < 32 ∧ (0 : Int) ≤ (u.toNat : Int) ∧ (u.toNat : Int) < 256 := by have := u.toNat_lt; omega
    have f1 : IntKind.i64.wrap ((i : Int) + 1) = ((i + 1 : Nat) : Int) := IntWalk.i64_in _ (by omega)
    have hset := padTo_set x i u hu (by omega)
    have c4 : ¬ (i = 0 ∧ 32 = 1 ∧ true = false) := by simp
    repeat (first | ((first | apply AOps.goP prg | apply ALex.goP prg); (case run => simp only [go_sem, Int.reduceEq, Int.reduceLT, Int.reduceBEq, Int.reduceBNe, Int.reduceNe, Nat.reduceLeDiff, Nat.reduceAdd, Nat.reduceSub, Nat.reduceLT, Nat.reduceEqDiff, Nat.reduceBEq, Int.reduceLE, Int.reduceToNat, d1, hu, c1, c2, c3, f1, hset, hn2, Int.toNat_natCast, Nat.zero_add]; rfl); (case mm => simp only [go_sem, Int.reduceEq, Int.reduceLT, Int.reduceBEq, Int.reduceBNe, Int.reduceNe, Nat.reduceLeDiff, Nat.reduceAdd, Nat.reduceSub, Nat.reduceLT, Nat.reduceEqDiff, Nat.reduceBEq, Int.reduceLE, Int.reduceToNat]; rfl); (case pr => rfl)) | (refine AW.seq ?_) | (refine AW.region ?_) | (refine AW.draw prg (by kernel_rfl) ?_) | (refine AOps.nil ?_; try dsimp only [AX.then, AX.inBlock]) | (refine ALex.nil ?_; try dsimp only [AX.then, AX.inBlock]) | (refine AW.condT (by rfl) ?_) | (refine AW.condF (by rfl) ?_) | (refine AW.skip ?_; try dsimp only [AX.then, AX.inBlock]) | (refine AW.ret ?_; try dsimp only [AX.then, AX.inBlock]) | (refine AW.block ?_) | (refine AW.exit ?_; simp only [AX.then, AX.inBlock, if_true, Nat.reduceEqDiff, if_false]))
    refine ⟨[iD (i + 1 : Nat)], _, ?_, Sto.Sub.refl _, ⟨i + 1, rfl, rfl, by omega⟩, ?_⟩
    · simp only [go_sem, Int.reduceEq, Int.reduceLT, Int.reduceBEq, Int.reduceBNe, Int.reduceNe, Nat.reduceLeDiff, Nat.reduceAdd, Nat.reduceSub, Nat.reduceLT, Nat.reduceEqDiff, Nat.reduceBEq, Int.reduceLE, Int.reduceToNat, weakA, or_true, true_or, and_self]
    · simp only [go_sem, Int.reduceEq, Int.reduceLT, Int.reduceBEq, Int.reduceBNe, Int.reduceNe, Nat.reduceLeDiff, Nat.reduceAdd, Nat.reduceSub, Nat.reduceLT, Nat.reduceEqDiff, Nat.reduceBEq, Int.reduceLE, Int.reduceToNat, Int.toNat_natCast]; omega
  · have d1 : decide ((i : Int) < (x.length : Nat)) = false := decide_eq_false (by omega)
    have hpad : padTo x i = Dg.pad x := by unfold padTo; rw [List.take_of_length_le (by omega)]
    rw [hpad]
    have hn3 : ¬ b2 = b1 := fun e => hn2 e.symm
    have hn4 : ¬ b1 = b2 := hn2
    repeat (first | ((first | apply AOps.goP prg | apply ALex.goP prg); (case run => simp only [go_sem, Int.reduceEq, Int.reduceLT, Int.reduceBEq, Int.reduceBNe, Int.reduceNe, Nat.reduceLeDiff, Nat.reduceAdd, Nat.reduceSub, Nat.reduceLT, Nat.reduceEqDiff, Nat.reduceBEq, Int.reduceLE, Int.reduceToNat, d1, hn3, hn4]; rfl); (case mm => simp only [go_sem, Int.reduceEq, Int.reduceLT, Int.reduceBEq, Int.reduceBNe, Int.reduceNe, Nat.reduceLeDiff, Nat.reduceAdd, Nat.reduceSub, Nat.reduceLT, Nat.reduceEqDiff, Nat.reduceBEq, Int.reduceLE, Int.reduceToNat]; rfl); (case pr => rfl)) | (refine AW.seq ?_) | (refine AW.region ?_) | (refine AW.draw prg (by kernel_rfl) ?_) | (refine AOps.nil ?_; try dsimp only [AX.then, AX.inBlock]) | (refine ALex.nil ?_; try dsimp only [AX.then, AX.inBlock]) | (refine AW.condT (by rfl) ?_) | (refine AW.condF (by rfl) ?_) | (refine AW.skip ?_; try dsimp only [AX.then, AX.inBlock]) | (refine AW.ret ?_; try dsimp only [AX.then, AX.inBlock]) | (refine AW.block ?_) | (refine AW.exit ?_; simp only [AX.then, AX.inBlock, if_true, Nat.reduceEqDiff, if_false]))
    refine endx (by simp only [go_sem, Int.reduceEq, Int.reduceLT, Int.reduceBEq, Int.reduceBNe, Int.reduceNe, Nat.reduceLeDiff, Nat.reduceAdd, Nat.reduceSub, Nat.reduceLT, Nat.reduceEqDiff, Nat.reduceBEq, Int.reduceLE, Int.reduceToNat, hn3, hn4]; rfl) (by rfl) (Sto.Sub.cons (Sto.Sub.cons (Sto.Sub.refl _))) ⟨rfl, hS2⟩

end Go.Proofs.YtemicgccgcmmbaaGreat
