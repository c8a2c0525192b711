/- A form of a key's proof is read (values without addresses). -/
import Derived.Test.YtcaggadjkccbiaaGreatZ51
import Derived.Test.YtcaggadjkccbiaaGreatZ52
import Derived.Test.YtcaggadjkccbiaaGreatZ42
namespace Go.Proofs.YtcaggadjkccbiaaGreat
set_option linter.unusedVariables false
set_option linter.unusedSimpArgs false
open Go Go.RowKit

@[go_sem] theorem optP_put (o : Option Bs) (s : Bs) : putD (optP o) 0 (.pt (sD s)) = some (.pt (sD s)) := by cases o <;> rfl

def inB (lo hi : Option Bs) (s : Bs) (sharp : Bool) : Bool := lowB lo s sharp && highB hi s
def keptB (lo hi : Option Bs) (n : Nd) : Bool := (n.pairs.all fun q => inB lo hi q.1 false) && (n.seps.all fun s => inB lo hi s true)
/-- What a form must be. -/
def goodB (p wid : Int) (first last : Bool) (r : Rg) (n : Nd) : Bool :=
  (sumN p wid n).2 == 0 && decide ((sumN p wid n).1 = r.want) && (n.kids.length == 0) == last && keptB r.lo r.hi n && (!last || (decide (0 < n.pairs.length) || first))
/-- What is known behind a form. -/
def nextR (key : Bs) (last : Bool) (r : Rg) (n : Nd) : Rg :=
  if last = true then (if (findL key n.pairs).2 = true then { r with ans := (n.pairs[(findL key n.pairs).1]?).map (·.2) } else r)
  else ⟨((n.kids[wayL key n.seps]?).map (·.sum)).getD Dg.zero, if 0 < wayL key n.seps then n.seps[wayL key n.seps - 1]? else r.lo, if wayL key n.seps < n.seps.length then n.seps[wayL key n.seps]? else r.hi, r.ans, r.ways ++ [wayL key n.seps]⟩
def formP (p wid : Int) (key s : Bs) (first last : Bool) (r : Rg) : Option Rg :=
  match readP p wid s with
  | none => none
  | some n => if goodB p wid first last r n = true then some (nextR key last r n) else none

theorem findL_some {key : Bs} : ∀ {l : List Pr}, (findL key l).2 = true → ∃ x, l[(findL key l).1]? = some x ∧ x.1 = key
  | [], h => by cases h
  | p :: l, h => by
    unfold findL at h ⊢
    split at h
    · rename_i hp
      rw [if_pos hp]
      obtain ⟨x, h1, h2⟩ := findL_some (l := l) h
      exact ⟨x, by simpa using h1, h2⟩
    · rename_i hp
      rw [if_neg hp]
      exact ⟨p, rfl, by simpa using h⟩

set_option maxHeartbeats 1000000 in set_option maxRecDepth 100000 in
theorem aForm (b : Nat) (p wid : Int) (key s : Bs) (depth : Nat) (last : Bool) (tw : Tag) (r : Rg) (S : Sto) (ow0 : List (Nat × Nat)) (hb : getM S.bk b = some (91, rgD p wid key tw r)) (hr : rightB p wid = true) (hs : s.length ≤ 3909374676453)
    (hg : G1 ow0 S.ow 3 1 tw (r.ways.map natD)) (hw : r.ways.length ≤ 1000) (hd : depth ≤ 1000) :
    ACalls Tryz.prog 82 [pD b, sD s, iD depth, bD last] S (fun e S' => match formP p wid key s (depth == 0) last r with
      | some r' => e = .ret (.tup []) ∧ ∃ tw', S'.bk = setM S.bk b (rgD p wid key tw' r') ∧ G1 ow0 S'.ow 3 1 tw' (r'.ways.map natD)
      | none => e = .pan refD ∧ S' = S) := by
  have e1 : unpackE p wid = 73 := by simp [unpackE, hr]
  have cr := fun S => aNRead p wid s S hs
  rw [e1] at cr
  cases hn : readP p wid s with
  | none =>
    rw [hn] at cr
    have hf : formP p wid key s (depth == 0) last r = none := by unfold formP; rw [hn]
    rw [hf]
    refine acalls_of prg Tryz.func82 rfl (by kernel_rfl) (congrArg Array.toList Tryz.results82) Tryz.ntmps82 (fun B hB => ?_); simp only [List.length_cons, List.length_nil, Nat.reduceAdd, Nat.reduceSub, List.replicate_succ, List.replicate_zero, List.cons_append, List.nil_append]
    (try clear F); have F := And.intro hb true_and; repeat (first | refine w1 ?_ | refine w2 ?_ | refine w3 ?_ | refine w4 ?_ | refine wk2 ?_ | refine wk5 ?_ | refine w6 ?_ | refine w7 ?_ | refine w8 ?_ | refine w9 ?_ | refine wa ?_ | refine wb ?_ | refine wc ?_ | refine wd ?_ | refine ws ?_ | refine wlb ?_)
    (first | refine we (c := by exact (cr _)) (k := ?_) | refine wf (c := by exact (cr _)) (k := ?_))
    (try clear F); have F := true_and; repeat (first | refine w1 ?_ | refine w2 ?_ | refine w3 ?_ | refine w4 ?_ | refine wk2 ?_ | refine wk5 ?_ | refine w6 ?_ | refine w7 ?_ | refine w8 ?_ | refine w9 ?_ | refine wa ?_ | refine wb ?_ | refine wc ?_ | refine wd ?_ | refine ws ?_ | refine wlb ?_)
    refine wh ?_; rintro b8 ⟨k_b8, o_b8⟩; (try simp only [List.map_cons, List.mem_cons, not_or] at k_b8)
    have m8 := getM_ne hb k_b8
    (try clear F); have F := And.intro k_b8 (And.intro m8 true_and); repeat (first | refine w1 ?_ | refine w2 ?_ | refine w3 ?_ | refine w4 ?_ | refine wk2 ?_ | refine wk5 ?_ | refine w6 ?_ | refine w7 ?_ | refine w8 ?_ | refine w9 ?_ | refine wa ?_ | refine wb ?_ | refine wc ?_ | refine wd ?_ | refine ws ?_ | refine wlb ?_)
    refine wpx (c := by exact (aMustF _)) (k := ?_)
    (try dsimp only [AX.then, AX.inBlock, AX.noGoto])
    exact endp (Sto.Sub.refl _).cons ⟨rfl, rfl⟩
  | some n =>
    have cr : ∀ S, ACalls Tryz.prog 58 [frD p wid, sD s] S (RetQ (.tup [ndA n, iD 0]) S) := fun S => by have := cr S; rw [hn] at this; exact this
    have ho : NdOk n := parseP_ok hs (readP_ok hn).2.2
    have cs := fun S => aNSum p wid n S ho
    obtain ⟨⟨dg, de⟩, hsum⟩ : ∃ x, sumN p wid n = x := ⟨_, rfl⟩
    have cs : ∀ S, ACalls Tryz.prog 90 [frD p wid, ndA n] S (RetQ (.tup [.dg dg, iD de]) S) := fun S => by have := cs S; rw [hsum] at this; exact this
    have hf : formP p wid key s (depth == 0) last r = if goodB p wid (depth == 0) last r n = true then some (nextR key last r n) else none := by unfold formP; rw [hn]
    rw [hf]
    refine acalls_of prg Tryz.func82 rfl (by kernel_rfl) (congrArg Array.toList Tryz.results82) Tryz.ntmps82 (fun B hB => ?_); simp only [List.length_cons, List.length_nil, Nat.reduceAdd, Nat.reduceSub, List.replicate_succ, List.replicate_zero, List.cons_append, List.nil_append]
    (try clear F); have F := And.intro hb true_and; repeat (first | refine w1 ?_ | refine w2 ?_ | refine w3 ?_ | refine w4 ?_ | refine wk2 ?_ | refine wk5 ?_ | refine w6 ?_ | refine w7 ?_ | refine w8 ?_ | refine w9 ?_ | refine wa ?_ | refine wb ?_ | refine wc ?_ | refine wd ?_ | refine ws ?_ | refine wlb ?_)
    (first | refine we (c := by exact (cr _)) (k := ?_) | refine wf (c := by exact (cr _)) (k := ?_))
    (try clear F); have F := true_and; repeat (first | refine w1 ?_ | refine w2 ?_ | refine w3 ?_ | refine w4 ?_ | refine wk2 ?_ | refine wk5 ?_ | refine w6 ?_ | refine w7 ?_ | refine w8 ?_ | refine w9 ?_ | refine wa ?_ | refine wb ?_ | refine wc ?_ | refine wd ?_ | refine ws ?_ | refine wlb ?_)
    refine wh ?_; rintro b8 ⟨k_b8, o_b8⟩; (try simp only [List.map_cons, List.mem_cons, not_or] at k_b8)
    have m8 := getM_ne hb k_b8
    (try clear F); have F := And.intro k_b8 (And.intro m8 true_and); repeat (first | refine w1 ?_ | refine w2 ?_ | refine w3 ?_ | refine w4 ?_ | refine wk2 ?_ | refine wk5 ?_ | refine w6 ?_ | refine w7 ?_ | refine w8 ?_ | refine w9 ?_ | refine wa ?_ | refine wb ?_ | refine wc ?_ | refine wd ?_ | refine ws ?_ | refine wlb ?_)
    (first | refine we (c := by exact (aMustT _)) (k := ?_) | refine wf (c := by exact (aMustT _)) (k := ?_))
    (try clear F); have F := true_and; repeat (first | refine w1 ?_ | refine w2 ?_ | refine w3 ?_ | refine w4 ?_ | refine wk2 ?_ | refine wk5 ?_ | refine w6 ?_ | refine w7 ?_ | refine w8 ?_ | refine w9 ?_ | refine wa ?_ | refine wb ?_ | refine wc ?_ | refine wd ?_ | refine ws ?_ | refine wlb ?_)
    refine vx ?_
    (try clear F); have F := And.intro hb (And.intro m8 (And.intro k_b8 true_and)); repeat (first | refine v1 ?_ | refine v2 ?_ | refine v3 ?_ | refine v0 ?_ | refine v5 ?_ | refine v6 ?_ | refine v7 ?_)
    refine v4 (c := by exact (cs)) (n := ?_)
    (try clear F); have F := And.intro hb (And.intro m8 (And.intro k_b8 true_and)); repeat (first | refine v1 ?_ | refine v2 ?_ | refine v3 ?_ | refine v0 ?_ | refine v5 ?_ | refine v6 ?_ | refine v7 ?_)
    rintro b10 ⟨k_b10, o_b10⟩
    simp only [List.map_cons, List.mem_cons, not_or] at k_b10
    have m10 := getM_ne hb k_b10.2
    have n10 := nes k_b10.1
    by_cases c1 : de = 0 ∧ dg = r.want
    case neg =>
      have hG : goodB p wid (depth == 0) last r n = false := by
        unfold goodB; rw [hsum]
        simp only [Bool.and_eq_false_iff, beq_eq_false_iff_ne, decide_eq_false_iff_not]
        by_cases h0 : de = 0
        · exact .inl (.inl (.inl (.inr (fun h => c1 ⟨h0, h⟩))))
        · exact .inl (.inl (.inl (.inl h0)))
      rw [hG]
      (try clear F); have F := And.intro hb (And.intro m8 (And.intro m10 (And.intro n10 (And.intro k_b8 (And.intro k_b10 true_and))))); repeat (first | refine v1 ?_ | refine v2 ?_ | refine v3 ?_ | refine v0 ?_ | refine v5 ?_ | refine v6 ?_ | refine v7 ?_)
      refine w3 ?_
      refine vz 10 ?_
      by_cases h0 : de = 0
      · have z0 : (de == 0) = true := beq_iff_eq.2 h0
        have z1 : decide (dg = r.want) = false := decide_eq_false (fun h => c1 ⟨h0, h⟩)
        (try clear F); have F := And.intro hb (And.intro m8 (And.intro m10 (And.intro n10 (And.intro k_b8 (And.intro k_b10 (And.intro z0 (And.intro z1 true_and))))))); repeat (first | refine w1 ?_ | refine w2 ?_ | refine w3 ?_ | refine w4 ?_ | refine wk2 ?_ | refine wk5 ?_ | refine w6 ?_ | refine w7 ?_ | refine w8 ?_ | refine w9 ?_ | refine wa ?_ | refine wb ?_ | refine wc ?_ | refine wd ?_ | refine ws ?_ | refine wlb ?_)
        refine wpx (c := by exact (aMustF _)) (k := ?_)
        (try dsimp only [AX.then, AX.inBlock, AX.noGoto])
        exact endp (Sto.Sub.refl _).cons.cons ⟨rfl, rfl⟩
      · have z0 : (de == 0) = false := beq_eq_false_iff_ne.2 h0
        (try clear F); have F := And.intro hb (And.intro m8 (And.intro m10 (And.intro n10 (And.intro k_b8 (And.intro k_b10 (And.intro z0 true_and)))))); repeat (first | refine w1 ?_ | refine w2 ?_ | refine w3 ?_ | refine w4 ?_ | refine wk2 ?_ | refine wk5 ?_ | refine w6 ?_ | refine w7 ?_ | refine w8 ?_ | refine w9 ?_ | refine wa ?_ | refine wb ?_ | refine wc ?_ | refine wd ?_ | refine ws ?_ | refine wlb ?_)
        refine wpx (c := by exact (aMustF _)) (k := ?_)
        (try dsimp only [AX.then, AX.inBlock, AX.noGoto])
        exact endp (Sto.Sub.refl _).cons.cons ⟨rfl, rfl⟩
    obtain ⟨rfl, rfl⟩ := c1
    have z0 : ((0 : Int) == 0) = true := rfl
    have z1 : decide (r.want = r.want) = true := decide_eq_true rfl
    (try clear F); have F := And.intro hb (And.intro m8 (And.intro m10 (And.intro n10 (And.intro k_b8 (And.intro k_b10 true_and))))); repeat (first | refine v1 ?_ | refine v2 ?_ | refine v3 ?_ | refine v0 ?_ | refine v5 ?_ | refine v6 ?_ | refine v7 ?_)
    (try clear F); have F := And.intro hb (And.intro m8 (And.intro m10 (And.intro n10 (And.intro k_b8 (And.intro k_b10 (And.intro z1 true_and)))))); repeat (first | refine w1 ?_ | refine w2 ?_ | refine w3 ?_ | refine w4 ?_ | refine wk2 ?_ | refine wk5 ?_ | refine w6 ?_ | refine w7 ?_ | refine w8 ?_ | refine w9 ?_ | refine wa ?_ | refine wb ?_ | refine wc ?_ | refine wd ?_ | refine ws ?_ | refine wlb ?_)
    (first | refine we (c := by exact (aMustT _)) (k := ?_) | refine wf (c := by exact (aMustT _)) (k := ?_))
    by_cases c2 : ((n.kids.length == 0) == last) = true
    case neg =>
      have c2' : ((n.kids.length == 0) == last) = false := by simpa using c2
      have hG : goodB p wid (depth == 0) last r n = false := by
        unfold goodB; rw [c2']; simp
      rw [hG]
      have z2 : (((n.kids.length : Int) == 0) == last) = false := by rw [← c2']; congr 1; rw [Bool.eq_iff_iff]; simp
      (try clear F); have F := And.intro hb (And.intro m8 (And.intro m10 (And.intro n10 (And.intro k_b8 (And.intro k_b10 (And.intro z2 true_and)))))); repeat (first | refine w1 ?_ | refine w2 ?_ | refine w3 ?_ | refine w4 ?_ | refine wk2 ?_ | refine wk5 ?_ | refine w6 ?_ | refine w7 ?_ | refine w8 ?_ | refine w9 ?_ | refine wa ?_ | refine wb ?_ | refine wc ?_ | refine wd ?_ | refine ws ?_ | refine wlb ?_)
      refine wpx (c := by exact (aMustF _)) (k := ?_)
      (try dsimp only [AX.then, AX.inBlock, AX.noGoto])
      exact endp (Sto.Sub.refl _).cons.cons ⟨rfl, rfl⟩
    have z2 : (((n.kids.length : Int) == 0) == last) = true := by rw [← c2]; congr 1; rw [Bool.eq_iff_iff]; simp
    (try clear F); have F := And.intro hb (And.intro m8 (And.intro m10 (And.intro n10 (And.intro k_b8 (And.intro k_b10 (And.intro z2 true_and)))))); repeat (first | refine w1 ?_ | refine w2 ?_ | refine w3 ?_ | refine w4 ?_ | refine wk2 ?_ | refine wk5 ?_ | refine w6 ?_ | refine w7 ?_ | refine w8 ?_ | refine w9 ?_ | refine wa ?_ | refine wb ?_ | refine wc ?_ | refine wd ?_ | refine ws ?_ | refine wlb ?_)
    (first | refine we (c := by exact (aMustT _)) (k := ?_) | refine wf (c := by exact (aMustT _)) (k := ?_))
    (try clear F); have F := And.intro hb (And.intro m8 (And.intro m10 (And.intro n10 (And.intro k_b8 (And.intro k_b10 true_and))))); repeat (first | refine w1 ?_ | refine w2 ?_ | refine w3 ?_ | refine w4 ?_ | refine wk2 ?_ | refine wk5 ?_ | refine w6 ?_ | refine w7 ?_ | refine w8 ?_ | refine w9 ?_ | refine wa ?_ | refine wb ?_ | refine wc ?_ | refine wd ?_ | refine ws ?_ | refine wlb ?_)
    have hb2 : getM ((b10, 36, D.dg r.want) :: (b8, 87, ndA n) :: S.bk) b = some (91, rgD p wid key tw r) := by rw [getM_cons, if_neg m10, getM_cons, if_neg m8]; exact hb
    refine AW.loopS 18 [12, 58, 59, 60] (fun xs S' => ∃ i : Nat, xs = [.any, .sl .none (n.pairs.map prD), iD n.pairs.length, iD i] ∧ S' = ⟨(b10, 36, D.dg r.want) :: (b8, 87, ndA n) :: S.bk, S.ow⟩ ∧ i ≤ n.pairs.length ∧ ∀ q ∈ n.pairs.take i, inB r.lo r.hi q.1 false = true) (fun xs _ => n.pairs.length - nI (xs.getD 3 .any)) [.any, .sl .none (n.pairs.map prD), iD n.pairs.length, iD 0] _ ?_ (Sto.Sub.refl _) ⟨0, rfl, rfl, by omega, by simp⟩ ?_
    · simp only [go_sem, Int.reduceEq, Int.reduceLT, Int.reduceBEq, Int.reduceBNe, Int.reduceNe, Nat.reduceLeDiff, Nat.reduceAdd, Nat.reduceSub, Nat.reduceLT, Nat.reduceEqDiff, Nat.reduceBEq, Int.reduceLE, Int.reduceToNat, weakA, or_true, true_or, and_self]
    rintro xs S' ⟨i, rfl, rfl, hi, hq⟩
    apply AW.frame; case fr => (simp only [go_sem, Int.reduceEq, Int.reduceLT, Int.reduceBEq, Int.reduceBNe, Int.reduceNe, Nat.reduceLeDiff, Nat.reduceAdd, Nat.reduceSub, Nat.reduceLT, Nat.reduceEqDiff, Nat.reduceBEq, Int.reduceLE, Int.reduceToNat]; rfl)
    by_cases hlt : i < n.pairs.length
    · obtain ⟨x, hx⟩ : ∃ x, n.pairs[i]? = some x := ⟨_, List.getElem?_eq_getElem hlt⟩
      have d1 : decide ((i : Int) < n.pairs.length) = true := decide_eq_true (by omega)
      have hgt : (n.pairs.map prD)[i]? = some (prD x) := by rw [List.getElem?_map, hx]; rfl
      have g0 : (0 : Int) ≤ i := by omega
      have f1 : IntKind.i64.wrap ((i : Int) + 1) = ((i + 1 : Nat) : Int) := IntWalk.i64_in _ (by have := ho.np; omega)
      (try clear F); have F := And.intro d1 (And.intro hgt (And.intro g0 (And.intro Int.toNat_natCast true_and))); repeat (first | refine w1 ?_ | refine w2 ?_ | refine w3 ?_ | refine w4 ?_ | refine wk2 ?_ | refine wk5 ?_ | refine w6 ?_ | refine w7 ?_ | refine w8 ?_ | refine w9 ?_ | refine wa ?_ | refine wb ?_ | refine wc ?_ | refine wd ?_ | refine ws ?_ | refine wlb ?_)
      refine wh ?_; rintro b12 ⟨k_b12, o_b12⟩; (try simp only [List.map_cons, List.mem_cons, not_or] at k_b12)
      have m12 := getM_ne hb2 (by simp only [List.map_cons, List.mem_cons, not_or]; exact k_b12)
      (try clear F); have F := And.intro k_b12 true_and; repeat (first | refine w1 ?_ | refine w2 ?_ | refine w3 ?_ | refine w4 ?_ | refine wk2 ?_ | refine wk5 ?_ | refine w6 ?_ | refine w7 ?_ | refine w8 ?_ | refine w9 ?_ | refine wa ?_ | refine wb ?_ | refine wc ?_ | refine wd ?_ | refine ws ?_ | refine wlb ?_)
      have hb3 : getM ((b12, 73, prD x) :: (b10, 36, D.dg r.want) :: (b8, 87, ndA n) :: S.bk) b = some (91, rgD p wid key tw r) := by rw [getM_cons, if_neg m12]; exact hb2
      by_cases hin : inB r.lo r.hi x.1 false = true
      · have hin' := hin
        unfold inB at hin'
        rw [Bool.and_eq_true] at hin'
        (first | refine we (c := by exact (aWithin b p wid key x.1 tw r false _ hb3 hin'.1 hin'.2)) (k := ?_) | refine wf (c := by exact (aWithin b p wid key x.1 tw r false _ hb3 hin'.1 hin'.2)) (k := ?_))
        (try clear F); have F := And.intro f1 true_and; repeat (first | refine w1 ?_ | refine w2 ?_ | refine w3 ?_ | refine w4 ?_ | refine wk2 ?_ | refine wk5 ?_ | refine w6 ?_ | refine w7 ?_ | refine w8 ?_ | refine w9 ?_ | refine wa ?_ | refine wb ?_ | refine wc ?_ | refine wd ?_ | refine ws ?_ | refine wlb ?_)
        refine ⟨[.any, .sl .none (n.pairs.map prD), iD n.pairs.length, iD (i + 1 : Nat)], ⟨(b10, 36, D.dg r.want) :: (b8, 87, ndA n) :: S.bk, S.ow⟩, ?_, (Sto.Sub.refl _).cons, ⟨i + 1, rfl, rfl, by omega, ?_⟩, ?_⟩
        · simp only [go_sem, Int.reduceEq, Int.reduceLT, Int.reduceBEq, Int.reduceBNe, Int.reduceNe, Nat.reduceLeDiff, Nat.reduceAdd, Nat.reduceSub, Nat.reduceLT, Nat.reduceEqDiff, Nat.reduceBEq, Int.reduceLE, Int.reduceToNat, weakA, or_true, true_or, and_self]
        · intro q hmem
          rw [List.take_add_one, hx] at hmem
          rcases List.mem_append.1 hmem with h | h
          · exact hq q h
          · simp only [Option.toList_some, List.mem_singleton] at h; subst h; exact hin
        · simp only [go_sem, Int.reduceEq, Int.reduceLT, Int.reduceBEq, Int.reduceBNe, Int.reduceNe, Nat.reduceLeDiff, Nat.reduceAdd, Nat.reduceSub, Nat.reduceLT, Nat.reduceEqDiff, Nat.reduceBEq, Int.reduceLE, Int.reduceToNat, Int.toNat_natCast]; omega
      · have hG : goodB p wid (depth == 0) last r n = false := by
          have : (n.pairs.all fun q => inB r.lo r.hi q.1 false) = false := by
            rw [List.all_eq_false]
            exact ⟨x, List.mem_of_getElem? hx, hin⟩
          unfold goodB keptB
          rw [this]; simp
        rw [hG]
        have hin' : inB r.lo r.hi x.1 false = false := by simpa using hin
        refine wpx (c := by exact (aWithinF b p wid key x.1 tw r false _ hb3 hin')) (k := ?_)
        (try dsimp only [AX.then, AX.inBlock, AX.noGoto])
        exact endp (Sto.Sub.refl _).cons.cons.cons ⟨rfl, rfl⟩
    obtain rfl : i = n.pairs.length := by omega
    rw [List.take_length] at hq
    have d1 : decide ((n.pairs.length : Int) < n.pairs.length) = false := decide_eq_false (by omega)
    (try clear F); have F := And.intro d1 (And.intro k_b8 (And.intro k_b10 (And.intro m8 (And.intro m10 (And.intro n10 true_and))))); repeat (first | refine w1 ?_ | refine w2 ?_ | refine w3 ?_ | refine w4 ?_ | refine wk2 ?_ | refine wk5 ?_ | refine w6 ?_ | refine w7 ?_ | refine w8 ?_ | refine w9 ?_ | refine wa ?_ | refine wb ?_ | refine wc ?_ | refine wd ?_ | refine ws ?_ | refine wlb ?_)
    refine AW.loopS 18 [14, 70, 71, 72] (fun xs S' => ∃ i : Nat, xs = [.any, .sl .none (n.seps.map sD), iD n.seps.length, iD i] ∧ S' = ⟨(b10, 36, D.dg r.want) :: (b8, 87, ndA n) :: S.bk, S.ow⟩ ∧ i ≤ n.seps.length ∧ ∀ q ∈ n.seps.take i, inB r.lo r.hi q true = true) (fun xs _ => n.seps.length - nI (xs.getD 3 .any)) [.any, .sl .none (n.seps.map sD), iD n.seps.length, iD 0] _ ?_ (Sto.Sub.refl _) ⟨0, rfl, rfl, by omega, by simp⟩ ?_
    · simp only [go_sem, Int.reduceEq, Int.reduceLT, Int.reduceBEq, Int.reduceBNe, Int.reduceNe, Nat.reduceLeDiff, Nat.reduceAdd, Nat.reduceSub, Nat.reduceLT, Nat.reduceEqDiff, Nat.reduceBEq, Int.reduceLE, Int.reduceToNat, weakA, or_true, true_or, and_self]
    rintro xs S' ⟨i, rfl, rfl, hi, hq2⟩
    apply AW.frame; case fr => (simp only [go_sem, Int.reduceEq, Int.reduceLT, Int.reduceBEq, Int.reduceBNe, Int.reduceNe, Nat.reduceLeDiff, Nat.reduceAdd, Nat.reduceSub, Nat.reduceLT, Nat.reduceEqDiff, Nat.reduceBEq, Int.reduceLE, Int.reduceToNat]; rfl)
    by_cases hlt : i < n.seps.length
    · obtain ⟨x, hx⟩ : ∃ x, n.seps[i]? = some x := ⟨_, List.getElem?_eq_getElem hlt⟩
      have d1 : decide ((i : Int) < n.seps.length) = true := decide_eq_true (by omega)
      have hgt : (n.seps.map sD)[i]? = some (sD x) := by rw [List.getElem?_map, hx]; rfl
      have g0 : (0 : Int) ≤ i := by omega
      have f1 : IntKind.i64.wrap ((i : Int) + 1) = ((i + 1 : Nat) : Int) := IntWalk.i64_in _ (by have := ho.ns; omega)
      (try clear F); have F := And.intro d1 (And.intro hgt (And.intro g0 (And.intro Int.toNat_natCast true_and))); repeat (first | refine w1 ?_ | refine w2 ?_ | refine w3 ?_ | refine w4 ?_ | refine wk2 ?_ | refine wk5 ?_ | refine w6 ?_ | refine w7 ?_ | refine w8 ?_ | refine w9 ?_ | refine wa ?_ | refine wb ?_ | refine wc ?_ | refine wd ?_ | refine ws ?_ | refine wlb ?_)
      by_cases hin : inB r.lo r.hi x true = true
      · have hin' := hin
        unfold inB at hin'
        rw [Bool.and_eq_true] at hin'
        (first | refine we (c := by exact (aWithin b p wid key x tw r true _ hb2 hin'.1 hin'.2)) (k := ?_) | refine wf (c := by exact (aWithin b p wid key x tw r true _ hb2 hin'.1 hin'.2)) (k := ?_))
        (try clear F); have F := And.intro f1 true_and; repeat (first | refine w1 ?_ | refine w2 ?_ | refine w3 ?_ | refine w4 ?_ | refine wk2 ?_ | refine wk5 ?_ | refine w6 ?_ | refine w7 ?_ | refine w8 ?_ | refine w9 ?_ | refine wa ?_ | refine wb ?_ | refine wc ?_ | refine wd ?_ | refine ws ?_ | refine wlb ?_)
        refine ⟨[.any, .sl .none (n.seps.map sD), iD n.seps.length, iD (i + 1 : Nat)], ⟨(b10, 36, D.dg r.want) :: (b8, 87, ndA n) :: S.bk, S.ow⟩, ?_, (Sto.Sub.refl _), ⟨i + 1, rfl, rfl, by omega, ?_⟩, ?_⟩
        · simp only [go_sem, Int.reduceEq, Int.reduceLT, Int.reduceBEq, Int.reduceBNe, Int.reduceNe, Nat.reduceLeDiff, Nat.reduceAdd, Nat.reduceSub, Nat.reduceLT, Nat.reduceEqDiff, Nat.reduceBEq, Int.reduceLE, Int.reduceToNat, weakA, or_true, true_or, and_self]
        · intro q hmem
          rw [List.take_add_one, hx] at hmem
          rcases List.mem_append.1 hmem with h | h
          · exact hq2 q h
          · simp only [Option.toList_some, List.mem_singleton] at h; subst h; exact hin
        · simp only [go_sem, Int.reduceEq, Int.reduceLT, Int.reduceBEq, Int.reduceBNe, Int.reduceNe, Nat.reduceLeDiff, Nat.reduceAdd, Nat.reduceSub, Nat.reduceLT, Nat.reduceEqDiff, Nat.reduceBEq, Int.reduceLE, Int.reduceToNat, Int.toNat_natCast]; omega
      · have hG : goodB p wid (depth == 0) last r n = false := by
          have : (n.seps.all fun q => inB r.lo r.hi q true) = false := by
            rw [List.all_eq_false]
            exact ⟨x, List.mem_of_getElem? hx, hin⟩
          unfold goodB keptB
          rw [this]; simp
        rw [hG]
        have hin' : inB r.lo r.hi x true = false := by simpa using hin
        refine wpx (c := by exact (aWithinF b p wid key x tw r true _ hb2 hin')) (k := ?_)
        (try dsimp only [AX.then, AX.inBlock, AX.noGoto])
        exact endp (Sto.Sub.refl _).cons.cons ⟨rfl, rfl⟩
    obtain rfl : i = n.seps.length := by omega
    rw [List.take_length] at hq2
    have d2 : decide ((n.seps.length : Int) < n.seps.length) = false := decide_eq_false (by omega)
    have hK : keptB r.lo r.hi n = true := by
      unfold keptB
      rw [Bool.and_eq_true, List.all_eq_true, List.all_eq_true]
      exact ⟨hq, hq2⟩
    have hGo : goodB p wid (depth == 0) last r n = (!last || (decide (0 < n.pairs.length) || (depth == 0))) := by
      unfold goodB; rw [hsum, c2, hK]; simp
    rw [hGo]
    have hbk : getM S.bk b = some (91, rgD p wid key tw r) := hb
    cases last with
    | true =>
      have hnp := ho.np
      have cf := fun S => aFind n key S (by omega)
      obtain ⟨⟨fi, fb⟩, hfd⟩ : ∃ x, findL key n.pairs = x := ⟨_, rfl⟩
      have cf : ∀ S, ACalls Tryz.prog 118 [ndA n, sD key] S (RetQ (.tup [iD fi, bD fb]) S) := fun S => by have := cf S; rw [hfd] at this; exact this
      (try clear F); have F := And.intro d2 true_and; repeat (first | refine w1 ?_ | refine w2 ?_ | refine w3 ?_ | refine w4 ?_ | refine wk2 ?_ | refine wk5 ?_ | refine w6 ?_ | refine w7 ?_ | refine w8 ?_ | refine w9 ?_ | refine wa ?_ | refine wb ?_ | refine wc ?_ | refine wd ?_ | refine ws ?_ | refine wlb ?_)
      by_cases c3 : 0 < n.pairs.length ∨ depth = 0
      case neg =>
        have k0 : decide ((n.pairs.length : Int) > 0) = false := decide_eq_false (fun h => c3 (.inl (by omega)))
        have k1 : ((depth : Int) == 0) = false := by rw [beq_eq_false_iff_ne]; intro h; exact c3 (.inr (by omega))
        have k2 : (!true || (decide (0 < n.pairs.length) || (depth == 0))) = false := by rw [decide_eq_false (fun h => c3 (.inl h)), beq_eq_false_iff_ne.2 (fun h => c3 (.inr h))]; rfl
        rw [k2]
        (try clear F); have F := And.intro k_b8 (And.intro k_b10 (And.intro n10 (And.intro k0 (And.intro k1 true_and)))); repeat (first | refine w1 ?_ | refine w2 ?_ | refine w3 ?_ | refine w4 ?_ | refine wk2 ?_ | refine wk5 ?_ | refine w6 ?_ | refine w7 ?_ | refine w8 ?_ | refine w9 ?_ | refine wa ?_ | refine wb ?_ | refine wc ?_ | refine wd ?_ | refine ws ?_ | refine wlb ?_)
        refine wpx (c := by exact (aMustF _)) (k := ?_)
        (try dsimp only [AX.then, AX.inBlock, AX.noGoto])
        exact endp (Sto.Sub.refl _).cons.cons ⟨rfl, rfl⟩
      have k2 : (!true || (decide (0 < n.pairs.length) || (depth == 0))) = true := by rcases c3 with h | h; (rw [decide_eq_true h]; rfl); (rw [h]; simp)
      rw [k2]
      have kk : decide ((n.pairs.length : Int) > 0) = true ∨ (decide ((n.pairs.length : Int) > 0) = false ∧ ((depth : Int) == 0) = true) := by
        by_cases h : 0 < n.pairs.length
        · exact .inl (decide_eq_true (by omega))
        · exact .inr ⟨decide_eq_false (by omega), by rw [beq_iff_eq]; omega⟩
      rcases kk with k0 | ⟨k0, k1⟩
      · (try clear F); have F := And.intro k_b8 (And.intro k_b10 (And.intro n10 (And.intro k0 true_and))); repeat (first | refine w1 ?_ | refine w2 ?_ | refine w3 ?_ | refine w4 ?_ | refine wk2 ?_ | refine wk5 ?_ | refine w6 ?_ | refine w7 ?_ | refine w8 ?_ | refine w9 ?_ | refine wa ?_ | refine wb ?_ | refine wc ?_ | refine wd ?_ | refine ws ?_ | refine wlb ?_)
        (first | refine we (c := by exact (aMustT _)) (k := ?_) | refine wf (c := by exact (aMustT _)) (k := ?_))
        (try clear F); have F := And.intro k_b8 (And.intro k_b10 (And.intro n10 (And.intro m8 (And.intro m10 (And.intro hb true_and))))); repeat (first | refine w1 ?_ | refine w2 ?_ | refine w3 ?_ | refine w4 ?_ | refine wk2 ?_ | refine wk5 ?_ | refine w6 ?_ | refine w7 ?_ | refine w8 ?_ | refine w9 ?_ | refine wa ?_ | refine wb ?_ | refine wc ?_ | refine wd ?_ | refine ws ?_ | refine wlb ?_)
        (first | refine we (c := by exact (cf _)) (k := ?_) | refine wf (c := by exact (cf _)) (k := ?_))
        cases hfb : fb with
        | false =>
          have hN : nextR key true r n = r := by unfold nextR; rw [if_pos rfl, hfd, if_neg (by rw [hfb]; simp)]
          rw [if_pos rfl, hN]
          (try clear F); have F := true_and; repeat (first | refine w1 ?_ | refine w2 ?_ | refine w3 ?_ | refine w4 ?_ | refine wk2 ?_ | refine wk5 ?_ | refine w6 ?_ | refine w7 ?_ | refine w8 ?_ | refine w9 ?_ | refine wa ?_ | refine wb ?_ | refine wc ?_ | refine wd ?_ | refine ws ?_ | refine wlb ?_)
          (try dsimp only [AX.then, AX.inBlock, AX.noGoto])
          refine endr (by simp only [go_sem, Int.reduceEq, Int.reduceLT, Int.reduceBEq, Int.reduceBNe, Int.reduceNe, Nat.reduceLeDiff, Nat.reduceAdd, Nat.reduceSub, Nat.reduceLT, Nat.reduceEqDiff, Nat.reduceBEq, Int.reduceLE, Int.reduceToNat]; rfl) (by rfl) (Sto.Sub.refl _).cons.cons ⟨rfl, tw, ?_, hg⟩
          rw [setM_same hbk]
        | true =>
          obtain ⟨x, hx, _⟩ := findL_some (key := key) (l := n.pairs) (by rw [hfd]; exact hfb)
          rw [hfd] at hx
          have hgt : (n.pairs.map prD)[fi]? = some (prD x) := by rw [List.getElem?_map]; simp only [hx]; rfl
          have g0 : (0 : Int) ≤ fi := by omega
          have hN : nextR key true r n = { r with ans := some x.2 } := by unfold nextR; rw [if_pos rfl, hfd, if_pos (by rw [hfb])]; simp only [hx]; rfl
          rw [if_pos rfl, hN]
          (try clear F); have F := And.intro k_b8 (And.intro k_b10 (And.intro m8 (And.intro m10 (And.intro n10 (And.intro hb (And.intro hgt (And.intro g0 (And.intro Int.toNat_natCast true_and)))))))); repeat (first | refine w1 ?_ | refine w2 ?_ | refine w3 ?_ | refine w4 ?_ | refine wk2 ?_ | refine wk5 ?_ | refine w6 ?_ | refine w7 ?_ | refine w8 ?_ | refine w9 ?_ | refine wa ?_ | refine wb ?_ | refine wc ?_ | refine wd ?_ | refine ws ?_ | refine wlb ?_)
          (try dsimp only [AX.then, AX.inBlock, AX.noGoto])
          refine endr (S' := ⟨setM S.bk b (rgD p wid key tw { r with ans := some x.2 }), S.ow⟩) (by simp only [go_sem, Int.reduceEq, Int.reduceLT, Int.reduceBEq, Int.reduceBNe, Int.reduceNe, Nat.reduceLeDiff, Nat.reduceAdd, Nat.reduceSub, Nat.reduceLT, Nat.reduceEqDiff, Nat.reduceBEq, Int.reduceLE, Int.reduceToNat]; rfl) (by rfl) ?_ ⟨rfl, tw, rfl, hg⟩
          exact (Sto.Sub.refl _).cons.cons
      · (try clear F); have F := And.intro k_b8 (And.intro k_b10 (And.intro n10 (And.intro k0 (And.intro k1 true_and)))); repeat (first | refine w1 ?_ | refine w2 ?_ | refine w3 ?_ | refine w4 ?_ | refine wk2 ?_ | refine wk5 ?_ | refine w6 ?_ | refine w7 ?_ | refine w8 ?_ | refine w9 ?_ | refine wa ?_ | refine wb ?_ | refine wc ?_ | refine wd ?_ | refine ws ?_ | refine wlb ?_)
        (first | refine we (c := by exact (aMustT _)) (k := ?_) | refine wf (c := by exact (aMustT _)) (k := ?_))
        (try clear F); have F := And.intro k_b8 (And.intro k_b10 (And.intro n10 (And.intro m8 (And.intro m10 (And.intro hb true_and))))); repeat (first | refine w1 ?_ | refine w2 ?_ | refine w3 ?_ | refine w4 ?_ | refine wk2 ?_ | refine wk5 ?_ | refine w6 ?_ | refine w7 ?_ | refine w8 ?_ | refine w9 ?_ | refine wa ?_ | refine wb ?_ | refine wc ?_ | refine wd ?_ | refine ws ?_ | refine wlb ?_)
        (first | refine we (c := by exact (cf _)) (k := ?_) | refine wf (c := by exact (cf _)) (k := ?_))
        cases hfb : fb with
        | false =>
          have hN : nextR key true r n = r := by unfold nextR; rw [if_pos rfl, hfd, if_neg (by rw [hfb]; simp)]
          rw [if_pos rfl, hN]
          (try clear F); have F := true_and; repeat (first | refine w1 ?_ | refine w2 ?_ | refine w3 ?_ | refine w4 ?_ | refine wk2 ?_ | refine wk5 ?_ | refine w6 ?_ | refine w7 ?_ | refine w8 ?_ | refine w9 ?_ | refine wa ?_ | refine wb ?_ | refine wc ?_ | refine wd ?_ | refine ws ?_ | refine wlb ?_)
          (try dsimp only [AX.then, AX.inBlock, AX.noGoto])
          refine endr (by simp only [go_sem, Int.reduceEq, Int.reduceLT, Int.reduceBEq, Int.reduceBNe, Int.reduceNe, Nat.reduceLeDiff, Nat.reduceAdd, Nat.reduceSub, Nat.reduceLT, Nat.reduceEqDiff, Nat.reduceBEq, Int.reduceLE, Int.reduceToNat]; rfl) (by rfl) (Sto.Sub.refl _).cons.cons ⟨rfl, tw, ?_, hg⟩
          rw [setM_same hbk]
        | true =>
          obtain ⟨x, hx, _⟩ := findL_some (key := key) (l := n.pairs) (by rw [hfd]; exact hfb)
          rw [hfd] at hx
          have hgt : (n.pairs.map prD)[fi]? = some (prD x) := by rw [List.getElem?_map]; simp only [hx]; rfl
          have g0 : (0 : Int) ≤ fi := by omega
          have hN : nextR key true r n = { r with ans := some x.2 } := by unfold nextR; rw [if_pos rfl, hfd, if_pos (by rw [hfb])]; simp only [hx]; rfl
          rw [if_pos rfl, hN]
          (try clear F); have F := And.intro k_b8 (And.intro k_b10 (And.intro m8 (And.intro m10 (And.intro n10 (And.intro hb (And.intro hgt (And.intro g0 (And.intro Int.toNat_natCast true_and)))))))); repeat (first | refine w1 ?_ | refine w2 ?_ | refine w3 ?_ | refine w4 ?_ | refine wk2 ?_ | refine wk5 ?_ | refine w6 ?_ | refine w7 ?_ | refine w8 ?_ | refine w9 ?_ | refine wa ?_ | refine wb ?_ | refine wc ?_ | refine wd ?_ | refine ws ?_ | refine wlb ?_)
          (try dsimp only [AX.then, AX.inBlock, AX.noGoto])
          refine endr (S' := ⟨setM S.bk b (rgD p wid key tw { r with ans := some x.2 }), S.ow⟩) (by simp only [go_sem, Int.reduceEq, Int.reduceLT, Int.reduceBEq, Int.reduceBNe, Int.reduceNe, Nat.reduceLeDiff, Nat.reduceAdd, Nat.reduceSub, Nat.reduceLT, Nat.reduceEqDiff, Nat.reduceBEq, Int.reduceLE, Int.reduceToNat]; rfl) (by rfl) ?_ ⟨rfl, tw, rfl, hg⟩
          exact (Sto.Sub.refl _).cons.cons
    | false =>
      have hns := ho.ns
      have cw := fun S => aWay n key S (by omega)
      obtain ⟨w, hw⟩ : ∃ x, wayL key n.seps = x := ⟨_, rfl⟩
      rw [hw] at cw
      (try clear F); have F := And.intro d2 (And.intro k_b8 (And.intro k_b10 (And.intro m8 (And.intro m10 (And.intro n10 (And.intro hb true_and)))))); repeat (first | refine w1 ?_ | refine w2 ?_ | refine w3 ?_ | refine w4 ?_ | refine wk2 ?_ | refine wk5 ?_ | refine w6 ?_ | refine w7 ?_ | refine w8 ?_ | refine w9 ?_ | refine wa ?_ | refine wb ?_ | refine wc ?_ | refine wd ?_ | refine ws ?_ | refine wlb ?_)
      (first | refine we (c := by exact (cw _)) (k := ?_) | refine wf (c := by exact (cw _)) (k := ?_))
      (try clear F); have F := And.intro k_b8 (And.intro k_b10 (And.intro m8 (And.intro m10 (And.intro n10 (And.intro hb true_and))))); repeat (first | refine w1 ?_ | refine w2 ?_ | refine w3 ?_ | refine w4 ?_ | refine wk2 ?_ | refine wk5 ?_ | refine w6 ?_ | refine w7 ?_ | refine w8 ?_ | refine w9 ?_ | refine wa ?_ | refine wb ?_ | refine wc ?_ | refine wd ?_ | refine ws ?_ | refine wlb ?_)
      have k2 : (!false || (decide (0 < n.pairs.length) || (depth == 0))) = true := rfl
      rw [k2]
      have hk0 : n.kids.length ≠ 0 := by simpa using c2
      have hsh := (checkE_ok (mayE_ok (readP_ok hn).2.1).1).2
      have hkl : n.seps.length + 1 = n.kids.length := by
        unfold shapedB at hsh
        rw [if_neg (by unfold leafB; simp; intro _ h; exact hk0 (by rw [h]; rfl))] at hsh
        simp only [Bool.and_eq_true, decide_eq_true_eq] at hsh
        exact hsh.1.1.2
      have hwl : w ≤ n.seps.length := by rw [← hw]; exact wayL_le _ _
      obtain ⟨kd, hkd⟩ : ∃ x, n.kids[w]? = some x := ⟨_, List.getElem?_eq_getElem (by omega)⟩
      have hgk : (n.kids.map kdD)[w]? = some (kdD kd) := by rw [List.getElem?_map, hkd]; rfl
      have g0 : (0 : Int) ≤ w := by omega
      refine wap 3 1 8 ?_ ?_ ?_ (fun g _ hgo => ?_)
      · exact sz_map (f := natD) (fun _ => rfl) (fun d hd => by simp only [List.mem_singleton] at hd; subst hd; rfl)
      · exact hg.may
      · rw [List.length_map]; simp only [List.length_singleton]; omega
      have hg2 := hg.add (ns := [iD w]) hgo
      by_cases h0 : 0 < w
      · obtain ⟨lo, hlo⟩ : ∃ x, n.seps[w - 1]? = some x := ⟨_, List.getElem?_eq_getElem (by omega)⟩
        have hgl : (n.seps.map sD)[w - 1]? = some (sD lo) := by rw [List.getElem?_map, hlo]; rfl
        have p0 : decide ((w : Int) > 0) = true := decide_eq_true (by omega)
        have f0 : IntKind.i64.wrap ((w : Int) - 1) = ((w - 1 : Nat) : Int) := by rw [IntWalk.i64_in _ (by omega)]; omega
        have g1 : (0 : Int) ≤ (w - 1 : Nat) := by omega
        by_cases h1 : w < n.seps.length
        · obtain ⟨hi, hhi⟩ : ∃ x, n.seps[w]? = some x := ⟨_, List.getElem?_eq_getElem h1⟩
          have hgh : (n.seps.map sD)[w]? = some (sD hi) := by rw [List.getElem?_map, hhi]; rfl
          have p1 : decide ((w : Int) < n.seps.length) = true := decide_eq_true (by omega)
          have hN : nextR key false r n = ⟨kd.sum, some lo, some hi, r.ans, r.ways ++ [w]⟩ := by
            unfold nextR
            rw [hw]
            simp only [Bool.false_eq_true, if_false, hkd, Option.map_some, Option.getD_some, if_pos h0, if_pos h1, hlo, hhi]
          rw [if_pos rfl, hN]
          (try clear F); have F := And.intro k_b8 (And.intro k_b10 (And.intro m8 (And.intro m10 (And.intro n10 (And.intro hb (And.intro hgk (And.intro g0 (And.intro Int.toNat_natCast (And.intro p0 (And.intro f0 (And.intro g1 (And.intro hgl (And.intro p1 (And.intro hgh true_and)))))))))))))); repeat (first | refine w1 ?_ | refine w2 ?_ | refine w3 ?_ | refine w4 ?_ | refine wk2 ?_ | refine wk5 ?_ | refine w6 ?_ | refine w7 ?_ | refine w8 ?_ | refine w9 ?_ | refine wa ?_ | refine wb ?_ | refine wc ?_ | refine wd ?_ | refine ws ?_ | refine wlb ?_)
          refine endrn (S' := ⟨setM S.bk b (rgD p wid key (.own g 3 1) ⟨kd.sum, some lo, some hi, r.ans, r.ways ++ [w]⟩), (g, (r.ways.map natD ++ [iD w]).length * 1) :: dropTok tw S.ow⟩) (by simp only [go_sem, Int.reduceEq, Int.reduceLT, Int.reduceBEq, Int.reduceBNe, Int.reduceNe, Nat.reduceLeDiff, Nat.reduceAdd, Nat.reduceSub, Nat.reduceLT, Nat.reduceEqDiff, Nat.reduceBEq, Int.reduceLE, Int.reduceToNat]; rfl) (by rfl) ?_ ⟨rfl, .own g 3 1, rfl, ?_⟩
          · simp only [rgD, List.map_append, List.map_cons, List.map_nil]
            exact (Sto.Sub.refl _).cons.cons
          · simp only [List.map_append, List.map_cons, List.map_nil]
            exact hg2
        · have p1 : decide ((w : Int) < n.seps.length) = false := decide_eq_false (by omega)
          have hN : nextR key false r n = ⟨kd.sum, some lo, r.hi, r.ans, r.ways ++ [w]⟩ := by
            unfold nextR
            rw [hw]
            simp only [Bool.false_eq_true, if_false, hkd, Option.map_some, Option.getD_some, if_pos h0, if_neg h1, hlo]
          rw [if_pos rfl, hN]
          (try clear F); have F := And.intro k_b8 (And.intro k_b10 (And.intro m8 (And.intro m10 (And.intro n10 (And.intro hb (And.intro hgk (And.intro g0 (And.intro Int.toNat_natCast (And.intro p0 (And.intro f0 (And.intro g1 (And.intro hgl (And.intro p1 true_and))))))))))))); repeat (first | refine w1 ?_ | refine w2 ?_ | refine w3 ?_ | refine w4 ?_ | refine wk2 ?_ | refine wk5 ?_ | refine w6 ?_ | refine w7 ?_ | refine w8 ?_ | refine w9 ?_ | refine wa ?_ | refine wb ?_ | refine wc ?_ | refine wd ?_ | refine ws ?_ | refine wlb ?_)
          refine endrn (S' := ⟨setM S.bk b (rgD p wid key (.own g 3 1) ⟨kd.sum, some lo, r.hi, r.ans, r.ways ++ [w]⟩), (g, (r.ways.map natD ++ [iD w]).length * 1) :: dropTok tw S.ow⟩) (by simp only [go_sem, Int.reduceEq, Int.reduceLT, Int.reduceBEq, Int.reduceBNe, Int.reduceNe, Nat.reduceLeDiff, Nat.reduceAdd, Nat.reduceSub, Nat.reduceLT, Nat.reduceEqDiff, Nat.reduceBEq, Int.reduceLE, Int.reduceToNat]; rfl) (by rfl) ?_ ⟨rfl, .own g 3 1, rfl, ?_⟩
          · simp only [rgD, List.map_append, List.map_cons, List.map_nil]
            exact (Sto.Sub.refl _).cons.cons
          · simp only [List.map_append, List.map_cons, List.map_nil]
            exact hg2
      · have p0 : decide ((w : Int) > 0) = false := decide_eq_false (by omega)
        by_cases h1 : w < n.seps.length
        · obtain ⟨hi, hhi⟩ : ∃ x, n.seps[w]? = some x := ⟨_, List.getElem?_eq_getElem h1⟩
          have hgh : (n.seps.map sD)[w]? = some (sD hi) := by rw [List.getElem?_map, hhi]; rfl
          have p1 : decide ((w : Int) < n.seps.length) = true := decide_eq_true (by omega)
          have hN : nextR key false r n = ⟨kd.sum, r.lo, some hi, r.ans, r.ways ++ [w]⟩ := by
            unfold nextR
            rw [hw]
            simp only [Bool.false_eq_true, if_false, hkd, Option.map_some, Option.getD_some, if_neg h0, if_pos h1, hhi]
          rw [if_pos rfl, hN]
          (try clear F); have F := And.intro k_b8 (And.intro k_b10 (And.intro m8 (And.intro m10 (And.intro n10 (And.intro hb (And.intro hgk (And.intro g0 (And.intro Int.toNat_natCast (And.intro p0 (And.intro p1 (And.intro hgh true_and))))))))))); repeat (first | refine w1 ?_ | refine w2 ?_ | refine w3 ?_ | refine w4 ?_ | refine wk2 ?_ | refine wk5 ?_ | refine w6 ?_ | refine w7 ?_ | refine w8 ?_ | refine w9 ?_ | refine wa ?_ | refine wb ?_ | refine wc ?_ | refine wd ?_ | refine ws ?_ | refine wlb ?_)
          refine endrn (S' := ⟨setM S.bk b (rgD p wid key (.own g 3 1) ⟨kd.sum, r.lo, some hi, r.ans, r.ways ++ [w]⟩), (g, (r.ways.map natD ++ [iD w]).length * 1) :: dropTok tw S.ow⟩) (by simp only [go_sem, Int.reduceEq, Int.reduceLT, Int.reduceBEq, Int.reduceBNe, Int.reduceNe, Nat.reduceLeDiff, Nat.reduceAdd, Nat.reduceSub, Nat.reduceLT, Nat.reduceEqDiff, Nat.reduceBEq, Int.reduceLE, Int.reduceToNat]; rfl) (by rfl) ?_ ⟨rfl, .own g 3 1, rfl, ?_⟩
          · simp only [rgD, List.map_append, List.map_cons, List.map_nil]
            exact (Sto.Sub.refl _).cons.cons
          · simp only [List.map_append, List.map_cons, List.map_nil]
            exact hg2
        · have p1 : decide ((w : Int) < n.seps.length) = false := decide_eq_false (by omega)
          have hN : nextR key false r n = ⟨kd.sum, r.lo, r.hi, r.ans, r.ways ++ [w]⟩ := by
            unfold nextR
            rw [hw]
            simp only [Bool.false_eq_true, if_false, hkd, Option.map_some, Option.getD_some, if_neg h0, if_neg h1]
          rw [if_pos rfl, hN]
          (try clear F); have F := And.intro k_b8 (And.intro k_b10 (And.intro m8 (And.intro m10 (And.intro n10 (And.intro hb (And.intro hgk (And.intro g0 (And.intro Int.toNat_natCast (And.intro p0 (And.intro p1 true_and)))))))))); repeat (first | refine w1 ?_ | refine w2 ?_ | refine w3 ?_ | refine w4 ?_ | refine wk2 ?_ | refine wk5 ?_ | refine w6 ?_ | refine w7 ?_ | refine w8 ?_ | refine w9 ?_ | refine wa ?_ | refine wb ?_ | refine wc ?_ | refine wd ?_ | refine ws ?_ | refine wlb ?_)
          refine endrn (S' := ⟨setM S.bk b (rgD p wid key (.own g 3 1) ⟨kd.sum, r.lo, r.hi, r.ans, r.ways ++ [w]⟩), (g, (r.ways.map natD ++ [iD w]).length * 1) :: dropTok tw S.ow⟩) (by simp only [go_sem, Int.reduceEq, Int.reduceLT, Int.reduceBEq, Int.reduceBNe, Int.reduceNe, Nat.reduceLeDiff, Nat.reduceAdd, Nat.reduceSub, Nat.reduceLT, Nat.reduceEqDiff, Nat.reduceBEq, Int.reduceLE, Int.reduceToNat]; rfl) (by rfl) ?_ ⟨rfl, .own g 3 1, rfl, ?_⟩
          · simp only [rgD, List.map_append, List.map_cons, List.map_nil]
            exact (Sto.Sub.refl _).cons.cons
          · simp only [List.map_append, List.map_cons, List.map_nil]
            exact hg2

end Go.Proofs.YtcaggadjkccbiaaGreat

/- A key's proof is read (values without addresses). -/
namespace Go.Proofs.YtcaggadjkccbiaaGreat
set_option linter.unusedVariables false
set_option linter.unusedSimpArgs false
open Go Go.RowKit

def keyedB (p : Int) (key : Bs) : Bool := !(key == []) && decide ((key.length : Int) ≤ p / 16)
set_option maxHeartbeats 1000000 in set_option maxRecDepth 100000 in
theorem aKeyed (p wid : Int) (key : Bs) (S : Sto) (h0 : 0 ≤ p) (h1 : p ≤ 1000000) : ACalls Tryz.prog 79 [frD p wid, sD key] S (RetQ (bD (keyedB p key)) S) := by
  have cm := fun S => aMaxKey p wid S h0 h1
  unfold keyedB
  refine acalls_of prg Tryz.func79 rfl (by kernel_rfl) (congrArg Array.toList Tryz.results79) Tryz.ntmps79 (fun B hB => ?_); simp only [List.length_cons, List.length_nil, Nat.reduceAdd, Nat.reduceSub, List.replicate_succ, List.replicate_zero, List.cons_append, List.nil_append]
  cases hk : (key == [])
  · (try clear F); have F := And.intro hk true_and; repeat (first | refine w1 ?_ | refine w2 ?_ | refine w3 ?_ | refine w4 ?_ | refine wk2 ?_ | refine wk5 ?_ | refine w6 ?_ | refine w7 ?_ | refine w8 ?_ | refine w9 ?_ | refine wa ?_ | refine wb ?_ | refine wc ?_ | refine wd ?_ | refine ws ?_ | refine wlb ?_)
    (first | refine we (c := by exact (cm _)) (k := ?_) | refine wf (c := by exact (cm _)) (k := ?_))
    (try clear F); have F := true_and; repeat (first | refine w1 ?_ | refine w2 ?_ | refine w3 ?_ | refine w4 ?_ | refine wk2 ?_ | refine wk5 ?_ | refine w6 ?_ | refine w7 ?_ | refine w8 ?_ | refine w9 ?_ | refine wa ?_ | refine wb ?_ | refine wc ?_ | refine wd ?_ | refine ws ?_ | refine wlb ?_)
    first | exact endq (by simp only [go_sem, Int.reduceEq, Int.reduceLT, Int.reduceBEq, Int.reduceBNe, Int.reduceNe, Nat.reduceLeDiff, Nat.reduceAdd, Nat.reduceSub, Nat.reduceLT, Nat.reduceEqDiff, Nat.reduceBEq, Int.reduceLE, Int.reduceToNat]; rfl) (by rfl) (Sto.Sub.refl _) | exact endn (by simp only [go_sem, Int.reduceEq, Int.reduceLT, Int.reduceBEq, Int.reduceBNe, Int.reduceNe, Nat.reduceLeDiff, Nat.reduceAdd, Nat.reduceSub, Nat.reduceLT, Nat.reduceEqDiff, Nat.reduceBEq, Int.reduceLE, Int.reduceToNat]; rfl) (by rfl) (Sto.Sub.refl _)
  · (try clear F); have F := And.intro hk true_and; repeat (first | refine w1 ?_ | refine w2 ?_ | refine w3 ?_ | refine w4 ?_ | refine wk2 ?_ | refine wk5 ?_ | refine w6 ?_ | refine w7 ?_ | refine w8 ?_ | refine w9 ?_ | refine wa ?_ | refine wb ?_ | refine wc ?_ | refine wd ?_ | refine ws ?_ | refine wlb ?_)
    first | exact endq (by simp only [go_sem, Int.reduceEq, Int.reduceLT, Int.reduceBEq, Int.reduceBNe, Int.reduceNe, Nat.reduceLeDiff, Nat.reduceAdd, Nat.reduceSub, Nat.reduceLT, Nat.reduceEqDiff, Nat.reduceBEq, Int.reduceLE, Int.reduceToNat]; rfl) (by rfl) (Sto.Sub.refl _) | exact endn (by simp only [go_sem, Int.reduceEq, Int.reduceLT, Int.reduceBEq, Int.reduceBNe, Int.reduceNe, Nat.reduceLeDiff, Nat.reduceAdd, Nat.reduceSub, Nat.reduceLT, Nat.reduceEqDiff, Nat.reduceBEq, Int.reduceLE, Int.reduceToNat]; rfl) (by rfl) (Sto.Sub.refl _)

/-- Nothing is known. -/
@[go_sem] def rg0 (root : Dg) : Rg := ⟨root, none, none, none, []⟩
set_option maxHeartbeats 1000000 in set_option maxRecDepth 100000 in
theorem aRec0 (S : Sto) (b8 b9 b10 : Nat) : ADefer Tryz.prog 80 [pD b8, pD b9, pD b10] S .returning (fun u S' => settle u = .returning ∧ S' = S) := by
  refine (adefer_rec prg Tryz.func80 rfl (by kernel_rfl) rfl rfl rfl rfl rfl rfl (congrArg Array.toList Tryz.results80) Tryz.ntmps80 (x := .nilIface) (u' := .returning) (.inl ⟨rfl, rfl, rfl⟩) rfl (by decide) (R := fun S' => S' = S) (fun B hB => ?_)).mono (fun u S' h => ⟨by rw [h.1]; rfl, h.2⟩)
  simp only [List.length_cons, List.length_nil, Nat.reduceAdd, Nat.reduceSub, List.replicate_succ, List.replicate_zero, List.cons_append, List.nil_append]
  (try clear F); have F := true_and; repeat (first | refine w1 ?_ | refine w2 ?_ | refine w3 ?_ | refine w4 ?_ | refine wk2 ?_ | refine wk5 ?_ | refine w6 ?_ | refine w7 ?_ | refine w8 ?_ | refine w9 ?_ | refine wa ?_ | refine wb ?_ | refine wc ?_ | refine wd ?_ | refine ws ?_ | refine wlb ?_)
  first | refine endx (by simp only [go_sem, Int.reduceEq, Int.reduceLT, Int.reduceBEq, Int.reduceBNe, Int.reduceNe, Nat.reduceLeDiff, Nat.reduceAdd, Nat.reduceSub, Nat.reduceLT, Nat.reduceEqDiff, Nat.reduceBEq, Int.reduceLE, Int.reduceToNat]; rfl) (by simp only [go_sem, Int.reduceEq, Int.reduceLT, Int.reduceBEq, Int.reduceBNe, Int.reduceNe, Nat.reduceLeDiff, Nat.reduceAdd, Nat.reduceSub, Nat.reduceLT, Nat.reduceEqDiff, Nat.reduceBEq, Int.reduceLE, Int.reduceToNat]; rfl) (Sto.Sub.refl _) ?_ | refine endnx (by simp only [go_sem, Int.reduceEq, Int.reduceLT, Int.reduceBEq, Int.reduceBNe, Int.reduceNe, Nat.reduceLeDiff, Nat.reduceAdd, Nat.reduceSub, Nat.reduceLT, Nat.reduceEqDiff, Nat.reduceBEq, Int.reduceLE, Int.reduceToNat]; rfl) (by simp only [go_sem, Int.reduceEq, Int.reduceLT, Int.reduceBEq, Int.reduceBNe, Int.reduceNe, Nat.reduceLeDiff, Nat.reduceAdd, Nat.reduceSub, Nat.reduceLT, Nat.reduceEqDiff, Nat.reduceBEq, Int.reduceLE, Int.reduceToNat]; rfl) (Sto.Sub.refl _) ?_
  rfl

set_option maxHeartbeats 1000000 in set_option maxRecDepth 100000 in
theorem aRec1 (S : Sto) (b8 b9 b10 : Nat) (d8 d9 d10 : D) (h8 : getM S.bk b8 = some (53, d8)) (h9 : getM S.bk b9 = some (91, d9)) (h10 : getM S.bk b10 = some (32, d10)) (n98 : ¬ b9 = b8) (n108 : ¬ b10 = b8) (n109 : ¬ b10 = b9)
    (z8 : d8.size = 1 ∧ d8.isAgg = false ∧ ∃ t es, d8 = .sl t es) (z9 : ∃ p wid key tw r, d9 = rgD p wid key tw r) (z10 : ∃ n, d10 = iD n) :
    ADefer Tryz.prog 80 [pD b8, pD b9, pD b10] S (.panicking [{ v := .iface 137 (.agg #[]), recovered := false }]) (fun u S' => settle u = .returning ∧ S' = ⟨setM (setM (setM S.bk b8 (.sl .nil [])) b9 (rgD 0 0 [] .nil (rg0 Dg.zero))) b10 (iD 150), S.ow⟩) := by
  refine (adefer_rec prg Tryz.func80 rfl (by kernel_rfl) rfl rfl rfl rfl rfl rfl (congrArg Array.toList Tryz.results80) Tryz.ntmps80 (x := .iface 137 (.agg #[])) (u' := .panicking [{ v := .iface 137 (.agg #[]), recovered := true }]) (.inr ⟨_, rfl, rfl, rfl⟩) rfl (by decide) (R := fun S' => S' = ⟨setM (setM (setM S.bk b8 (.sl .nil [])) b9 (rgD 0 0 [] .nil (rg0 Dg.zero))) b10 (iD 150), S.ow⟩) (fun B hB => ?_)).mono (fun u S' h => ⟨by rw [h.1]; rfl, h.2⟩)
  simp only [List.length_cons, List.length_nil, Nat.reduceAdd, Nat.reduceSub, List.replicate_succ, List.replicate_zero, List.cons_append, List.nil_append]
  obtain ⟨_, _, t8, e8, rfl⟩ := z8
  obtain ⟨p, wid, key, tw, r, rfl⟩ := z9
  obtain ⟨n, rfl⟩ := z10
  (try clear F); have F := true_and; repeat (first | refine w1 ?_ | refine w2 ?_ | refine w3 ?_ | refine w4 ?_ | refine wk2 ?_ | refine wk5 ?_ | refine w6 ?_ | refine w7 ?_ | refine w8 ?_ | refine w9 ?_ | refine wa ?_ | refine wb ?_ | refine wc ?_ | refine wd ?_ | refine ws ?_ | refine wlb ?_)
  refine wh ?_; rintro b4 ⟨k_b4, o_b4⟩; (try simp only [List.map_cons, List.mem_cons, not_or] at k_b4)
  have m8 := getM_ne h8 k_b4
  have m9 := getM_ne h9 k_b4
  have m10 := getM_ne h10 k_b4
  have q98 : ∀ bk x, getM (setM bk b8 x) b9 = getM bk b9 := fun _ _ => getM_setM_ne n98
  have q108 : ∀ bk x, getM (setM bk b8 x) b10 = getM bk b10 := fun _ _ => getM_setM_ne n108
  have q109 : ∀ bk x, getM (setM bk b9 x) b10 = getM bk b10 := fun _ _ => getM_setM_ne n109
  (try clear F); have F := And.intro k_b4 (And.intro m8 (And.intro m9 (And.intro m10 (And.intro h8 (And.intro h9 (And.intro h10 (And.intro q98 (And.intro q108 (And.intro q109 true_and))))))))); repeat (first | refine w1 ?_ | refine w2 ?_ | refine w3 ?_ | refine w4 ?_ | refine wk2 ?_ | refine wk5 ?_ | refine w6 ?_ | refine w7 ?_ | refine w8 ?_ | refine w9 ?_ | refine wa ?_ | refine wb ?_ | refine wc ?_ | refine wd ?_ | refine ws ?_ | refine wlb ?_)
  (try dsimp only [AX.then, AX.inBlock, AX.noGoto])
  refine endnx (S' := ⟨setM (setM (setM S.bk b8 (.sl .nil [])) b9 (rgD 0 0 [] .nil (rg0 Dg.zero))) b10 (iD 150), S.ow⟩) (by simp only [go_sem, Int.reduceEq, Int.reduceLT, Int.reduceBEq, Int.reduceBNe, Int.reduceNe, Nat.reduceLeDiff, Nat.reduceAdd, Nat.reduceSub, Nat.reduceLT, Nat.reduceEqDiff, Nat.reduceBEq, Int.reduceLE, Int.reduceToNat]; rfl) (by rfl) ?_ rfl
  exact (Sto.Sub.refl _).cons

theorem untags_sD : ∀ l : List Bs, untags (l.map sD) = l.map sD
  | [] => rfl
  | s :: l => by show untag (sD s) :: untags (l.map sD) = _; rw [untags_sD l]; rfl
def readF (p wid : Int) (key : Bs) : Nat → List Bs → Rg → Option Rg
  | _, [], r => some r
  | i, s :: l, r =>
    match formP p wid key s (i == 0) (l.length == 0) r with
    | none => none
    | some r' => readF p wid key (i + 1) l r'
/-- What a key's proof tells. -/
def proofP (p wid : Int) (root : Dg) (key s : Bs) : Option (List Bs × Rg) :=
  match splitP s with
  | none => none
  | some fs => if 0 < fs.length ∧ fs.length ≤ 33 then (readF p wid key 0 fs (rg0 root)).map fun r => (fs, r) else none
def argsB (p wid : Int) (root : Dg) (key : Bs) : Bool := rightB p wid && fitB wid root && keyedB p key
/-- What read answers. -/
def proofD (p wid : Int) (root : Dg) (key s : Bs) : D :=
  if argsB p wid root key = true then
    match proofP p wid root key s with
    | some (fs, r) => .tup [.sl .none (fs.map sD), rgD p wid key .none r, iD 0]
    | none => .tup [.sl .none [], rgD 0 0 [] .none (rg0 Dg.zero), iD 150]
  else .tup [.sl .none [], rgD 0 0 [] .none (rg0 Dg.zero), iD 2]

theorem vrd_shr : ∀ {l : Bs} {k n a : Nat} {l' : Bs}, vrd l k n = some (a, l') → l'.length ≤ l.length
  | [], k, n, a, l', h => by cases h
  | b :: l, k, n, a, l', h => by
    unfold vrd at h
    split at h
    · cases h
    · split at h
      · simp only [Option.some.injEq, Prod.mk.injEq] at h; rw [← h.2]; simp
      · have := vrd_shr h; simp only [List.length_cons]; omega
theorem freeP_shr {m : Nat} {l : Bs} {a : Nat} {l' : Bs} (h : freeP m l = some (a, l')) : l'.length ≤ l.length := by
  unfold freeP at h
  split at h
  · cases h
  · rename_i n l1 hv
    split at h
    · simp only [Option.some.injEq, Prod.mk.injEq] at h; rw [← h.2]; exact vrd_shr hv
    · cases h
theorem textP_shr {m : Nat} {l t l' : Bs} (h : textP m l = some (t, l')) : t.length ≤ l.length ∧ l'.length ≤ l.length := by
  unfold textP at h
  split at h
  · cases h
  · rename_i n l1 hf
    have := freeP_shr hf
    unfold rawP at h
    split at h
    · simp only [Option.some.injEq, Prod.mk.injEq] at h; rw [← h.1, ← h.2]; simp only [List.length_take, List.length_drop]; omega
    · cases h
theorem strsP_shr {m : Nat} : ∀ {n : Nat} {l : Bs} {ts : List Bs} {l' : Bs}, strsP m n l = some (ts, l') → ∀ t ∈ ts, t.length ≤ l.length
  | 0, l, ts, l', h => by
    simp only [strsP, Option.some.injEq, Prod.mk.injEq] at h; rw [← h.1]; intro t ht; cases ht
  | n + 1, l, ts, l', h => by
    unfold strsP at h
    split at h
    · cases h
    · rename_i t l1 h1
      have s1 := textP_shr h1
      cases h2 : strsP m n l1 with
      | none => rw [h2] at h; cases h
      | some r =>
        obtain ⟨us, l2⟩ := r
        rw [h2] at h
        simp only [Option.map_some, Option.some.injEq, Prod.mk.injEq] at h
        rw [← h.1]
        intro u hu
        rcases List.mem_cons.1 hu with rfl | hu
        · exact s1.1
        · exact Nat.le_trans (strsP_shr h2 u hu) s1.2
theorem splitP_shr {s : Bs} {ts : List Bs} (h : splitP s = some ts) : ∀ t ∈ ts, t.length ≤ s.length := by
  unfold splitP at h
  split at h
  · rename_i us hl
    simp only [Option.some.injEq] at h
    subst h
    unfold listS at hl
    split at hl
    · cases hl
    · rename_i n l1 hc
      have : l1.length ≤ s.length := by
        unfold countP at hc
        split at hc
        · cases hc
        · rename_i a l2 hf
          split at hc
          · simp only [Option.some.injEq, Prod.mk.injEq] at hc; rw [← hc.2]; exact freeP_shr hf
          · cases hc
      exact fun t ht => Nat.le_trans (strsP_shr hl t ht) this
  · cases h
theorem nextR_ways (key : Bs) (last : Bool) (r : Rg) (n : Nd) : (nextR key last r n).ways.length ≤ r.ways.length + 1 := by
  unfold nextR
  split
  · split <;> simp
  · simp

set_option maxHeartbeats 1000000 in set_option maxRecDepth 100000 in
theorem pread_pan {A : List D} {S : Sto} {ow : List (Nat × Nat)} {b8 b9 b10 : Nat} {d8 d9 d10 : D} (k9 : ¬ b9 = b8) (k10 : ¬ b10 = b9 ∧ ¬ b10 = b8) (hsub : List.Sublist S.ow ow) (h8 : A.getD 8 .any = pD b8) (h9 : A.getD 9 .any = pD b9) (h10 : A.getD 10 .any = pD b10)
    (z8 : d8.size = 1 ∧ d8.isAgg = false ∧ ∃ t es, d8 = .sl t es) (z9 : ∃ p wid key tw r, d9 = rgD p wid key tw r) (z10 : ∃ n, d10 = iD n) :
    EndD Tryz.prog tys [.cell 8 53, .cell 9 91, .cell 10 32] 80 [.pointer (some ⟨b8, 0, none⟩), .pointer (some ⟨b9, 0, none⟩), .pointer (some ⟨b10, 0, none⟩)] (RetQ (.tup [.sl .none [], rgD 0 0 [] .none (rg0 Dg.zero), iD 150]) S) (.panic refD) A ⟨(b10, 32, d10) :: (b9, 91, d9) :: (b8, 53, d8) :: S.bk, ow⟩ := by
  have n89 := nes k9
  have n810 := nes k10.2
  have n910 := nes k10.1
  have e8 : getM ((b10, 32, d10) :: (b9, 91, d9) :: (b8, 53, d8) :: S.bk) b8 = some (53, d8) := by rw [getM_cons, if_neg n810, getM_cons, if_neg n89, getM_cons, if_pos rfl]
  have e9 : getM ((b10, 32, d10) :: (b9, 91, d9) :: (b8, 53, d8) :: S.bk) b9 = some (91, d9) := by rw [getM_cons, if_neg n910, getM_cons, if_pos rfl]
  have e10 : getM ((b10, 32, d10) :: (b9, 91, d9) :: (b8, 53, d8) :: S.bk) b10 = some (32, d10) := by rw [getM_cons, if_pos rfl]
  refine ⟨_, rfl, (aRec1 ⟨(b10, 32, d10) :: (b9, 91, d9) :: (b8, 53, d8) :: S.bk, ow⟩ b8 b9 b10 d8 d9 d10 e8 e9 e10 k9 k10.2 k10.1 z8 z9 z10).mono (fun u S' h => ⟨h.1, ?_⟩)⟩
  obtain ⟨_, rfl⟩ := h
  refine ⟨[.sl .nil [], rgD 0 0 [] .nil (rg0 Dg.zero), iD 150], _, S, ?_, .inr rfl, ?_, rfl, rfl⟩
  · simp only [go_sem, Int.reduceEq, Int.reduceLT, Int.reduceBEq, Int.reduceBNe, Int.reduceNe, Nat.reduceLeDiff, Nat.reduceAdd, Nat.reduceSub, Nat.reduceLT, Nat.reduceEqDiff, Nat.reduceBEq, Int.reduceLE, Int.reduceToNat, h8, h9, h10, n89, n810, n910, k9, k10]
  · simp only [setM_cons, n89, n810, n910, k9, k10, if_true, if_false]
    exact ⟨((List.Sublist.refl _).cons _).cons _ |>.cons _, hsub⟩
set_option maxHeartbeats 1000000 in set_option maxRecDepth 100000 in
theorem pread_ret {A : List D} {S : Sto} {ow : List (Nat × Nat)} {b8 b9 b10 : Nat} {t8 tw : Tag} {es : List D} {p wid : Int} {key : Bs} {r : Rg} (k9 : ¬ b9 = b8) (k10 : ¬ b10 = b9 ∧ ¬ b10 = b8) (hsub : List.Sublist S.ow ow) (h8 : A.getD 8 .any = pD b8) (h9 : A.getD 9 .any = pD b9) (h10 : A.getD 10 .any = pD b10) (hes : untags es = es) :
    EndD Tryz.prog tys [.cell 8 53, .cell 9 91, .cell 10 32] 80 [.pointer (some ⟨b8, 0, none⟩), .pointer (some ⟨b9, 0, none⟩), .pointer (some ⟨b10, 0, none⟩)] (RetQ (.tup [.sl .none es, rgD p wid key .none r, iD 0]) S) .ret A ⟨(b10, 32, iD 0) :: (b9, 91, rgD p wid key tw r) :: (b8, 53, .sl t8 es) :: S.bk, ow⟩ := by
  have n89 := nes k9
  have n810 := nes k10.2
  have n910 := nes k10.1
  refine (aRec0 _ b8 b9 b10).mono (fun u S' h => ⟨h.1, ?_⟩)
  obtain ⟨_, rfl⟩ := h
  refine ⟨[.sl t8 es, rgD p wid key tw r, iD 0], _, S, ?_, .inr ?_, ?_, rfl, rfl⟩
  · simp only [go_sem, Int.reduceEq, Int.reduceLT, Int.reduceBEq, Int.reduceBNe, Int.reduceNe, Nat.reduceLeDiff, Nat.reduceAdd, Nat.reduceSub, Nat.reduceLT, Nat.reduceEqDiff, Nat.reduceBEq, Int.reduceLE, Int.reduceToNat, h8, h9, h10, n89, n810, n910, k9, k10]
  · obtain ⟨want, lo, hi, ans, ways⟩ := r
    cases lo <;> cases hi <;> rfl
  · exact ⟨((List.Sublist.refl _).cons _).cons _ |>.cons _, hsub⟩

set_option maxHeartbeats 1000000 in set_option maxRecDepth 100000 in
theorem aPRead (p wid : Int) (root : Dg) (key s : Bs) (S : Sto) (hs : s.length ≤ 1048576) :
    ACalls Tryz.prog 46 [frD p wid, .dg root, sD key, sD s] S (RetQ (proofD p wid root key s) S) := by
  refine acalls_of_defer prg Tryz.func46 rfl (by kernel_rfl) (congrArg Array.toList Tryz.results46) Tryz.ntmps46 (fun B Z hB hQ hD => ?_)
  simp only [List.length_cons, List.length_nil, Nat.reduceAdd, Nat.reduceSub, List.replicate_succ, List.replicate_zero, List.cons_append, List.nil_append]
  refine AWD.seq hQ ?_
  refine w4 ?_
  (try clear F); have F := true_and; repeat refine w1 ?_
  refine wh ?_; rintro b8 ⟨k_b8, o_b8⟩; (try simp only [List.map_cons, List.mem_cons, not_or] at k_b8)
  (try clear F); have F := true_and; repeat refine w1 ?_
  refine wh ?_; rintro b9 ⟨k_b9, o_b9⟩; (try simp only [List.map_cons, List.mem_cons, not_or] at k_b9)
  (try clear F); have F := true_and; repeat refine w1 ?_
  refine wh ?_; rintro b10 ⟨k_b10, o_b10⟩; (try simp only [List.map_cons, List.mem_cons, not_or] at k_b10)
  (try clear F); have F := true_and; repeat refine w1 ?_
  refine w6 ?_
  have n89 := nes k_b9.1
  have n810 := nes k_b10.2.1
  have n910 := nes k_b10.1
  refine AWD.seq hQ ?_
  have c1 := fun S => aNRight p wid S
  have c2 := fun S => aFits wid root S
  cases hr : rightB p wid
  case false =>
    have hP : proofD p wid root key s = .tup [.sl .none [], rgD 0 0 [] .none (rg0 Dg.zero), iD 2] := by unfold proofD argsB; rw [hr]; rfl
    rw [hr] at c1
    rw [hP]
    (try clear F); have F := true_and; repeat (first | refine w1 ?_ | refine w2 ?_ | refine w3 ?_ | refine w4 ?_ | refine wk2 ?_ | refine wk5 ?_ | refine w6 ?_ | refine w7 ?_ | refine w8 ?_ | refine w9 ?_ | refine wa ?_ | refine wb ?_ | refine wc ?_ | refine wd ?_ | refine ws ?_ | refine wlb ?_)
    (first | refine we (c := by exact (c1 _)) (k := ?_) | refine wf (c := by exact (c1 _)) (k := ?_))
    (try clear F); have F := And.intro k_b9 (And.intro k_b10 (And.intro n89 (And.intro n810 (And.intro n910 true_and)))); repeat (first | refine w1 ?_ | refine w2 ?_ | refine w3 ?_ | refine w4 ?_ | refine wk2 ?_ | refine wk5 ?_ | refine w6 ?_ | refine w7 ?_ | refine w8 ?_ | refine w9 ?_ | refine wa ?_ | refine wb ?_ | refine wc ?_ | refine wd ?_ | refine ws ?_ | refine wlb ?_)
    (try dsimp only [AX.then, AX.inBlock, AX.noGoto])
    refine enduq (S' := S) (by simp only [go_sem, Int.reduceEq, Int.reduceLT, Int.reduceBEq, Int.reduceBNe, Int.reduceNe, Nat.reduceLeDiff, Nat.reduceAdd, Nat.reduceSub, Nat.reduceLT, Nat.reduceEqDiff, Nat.reduceBEq, Int.reduceLE, Int.reduceToNat, k_b9, k_b10, n89, n810, n910]; rfl) (by rfl) (Sto.Sub.refl _).cons.cons.cons
  case true =>
    have hr' := rightB_iff.1 hr
    rw [hr] at c1
    have c3 := fun S => aKeyed p wid key S (by omega) (by omega)
    cases hf : fitB wid root
    case false =>
      have hP : proofD p wid root key s = .tup [.sl .none [], rgD 0 0 [] .none (rg0 Dg.zero), iD 2] := by unfold proofD argsB; rw [hr, hf]; rfl
      rw [hf] at c2
      rw [hP]
      (try clear F); have F := true_and; repeat (first | refine w1 ?_ | refine w2 ?_ | refine w3 ?_ | refine w4 ?_ | refine wk2 ?_ | refine wk5 ?_ | refine w6 ?_ | refine w7 ?_ | refine w8 ?_ | refine w9 ?_ | refine wa ?_ | refine wb ?_ | refine wc ?_ | refine wd ?_ | refine ws ?_ | refine wlb ?_)
      (first | refine we (c := by exact (c1 _)) (k := ?_) | refine wf (c := by exact (c1 _)) (k := ?_))
      (try clear F); have F := true_and; repeat (first | refine w1 ?_ | refine w2 ?_ | refine w3 ?_ | refine w4 ?_ | refine wk2 ?_ | refine wk5 ?_ | refine w6 ?_ | refine w7 ?_ | refine w8 ?_ | refine w9 ?_ | refine wa ?_ | refine wb ?_ | refine wc ?_ | refine wd ?_ | refine ws ?_ | refine wlb ?_)
      (first | refine we (c := by exact (c2 _)) (k := ?_) | refine wf (c := by exact (c2 _)) (k := ?_))
      (try clear F); have F := And.intro k_b9 (And.intro k_b10 (And.intro n89 (And.intro n810 (And.intro n910 true_and)))); repeat (first | refine w1 ?_ | refine w2 ?_ | refine w3 ?_ | refine w4 ?_ | refine wk2 ?_ | refine wk5 ?_ | refine w6 ?_ | refine w7 ?_ | refine w8 ?_ | refine w9 ?_ | refine wa ?_ | refine wb ?_ | refine wc ?_ | refine wd ?_ | refine ws ?_ | refine wlb ?_)
      (try dsimp only [AX.then, AX.inBlock, AX.noGoto])
      refine enduq (S' := S) (by simp only [go_sem, Int.reduceEq, Int.reduceLT, Int.reduceBEq, Int.reduceBNe, Int.reduceNe, Nat.reduceLeDiff, Nat.reduceAdd, Nat.reduceSub, Nat.reduceLT, Nat.reduceEqDiff, Nat.reduceBEq, Int.reduceLE, Int.reduceToNat, k_b9, k_b10, n89, n810, n910]; rfl) (by rfl) (Sto.Sub.refl _).cons.cons.cons
    case true =>
      rw [hf] at c2
      cases hk : keyedB p key
      case false =>
        have hP : proofD p wid root key s = .tup [.sl .none [], rgD 0 0 [] .none (rg0 Dg.zero), iD 2] := by unfold proofD argsB; rw [hr, hf, hk]; rfl
        rw [hk] at c3
        rw [hP]
        (try clear F); have F := true_and; repeat (first | refine w1 ?_ | refine w2 ?_ | refine w3 ?_ | refine w4 ?_ | refine wk2 ?_ | refine wk5 ?_ | refine w6 ?_ | refine w7 ?_ | refine w8 ?_ | refine w9 ?_ | refine wa ?_ | refine wb ?_ | refine wc ?_ | refine wd ?_ | refine ws ?_ | refine wlb ?_)
        (first | refine we (c := by exact (c1 _)) (k := ?_) | refine wf (c := by exact (c1 _)) (k := ?_))
        (try clear F); have F := true_and; repeat (first | refine w1 ?_ | refine w2 ?_ | refine w3 ?_ | refine w4 ?_ | refine wk2 ?_ | refine wk5 ?_ | refine w6 ?_ | refine w7 ?_ | refine w8 ?_ | refine w9 ?_ | refine wa ?_ | refine wb ?_ | refine wc ?_ | refine wd ?_ | refine ws ?_ | refine wlb ?_)
        (first | refine we (c := by exact (c2 _)) (k := ?_) | refine wf (c := by exact (c2 _)) (k := ?_))
        (try clear F); have F := true_and; repeat (first | refine w1 ?_ | refine w2 ?_ | refine w3 ?_ | refine w4 ?_ | refine wk2 ?_ | refine wk5 ?_ | refine w6 ?_ | refine w7 ?_ | refine w8 ?_ | refine w9 ?_ | refine wa ?_ | refine wb ?_ | refine wc ?_ | refine wd ?_ | refine ws ?_ | refine wlb ?_)
        (first | refine we (c := by exact (c3 _)) (k := ?_) | refine wf (c := by exact (c3 _)) (k := ?_))
        (try clear F); have F := And.intro k_b9 (And.intro k_b10 (And.intro n89 (And.intro n810 (And.intro n910 true_and)))); repeat (first | refine w1 ?_ | refine w2 ?_ | refine w3 ?_ | refine w4 ?_ | refine wk2 ?_ | refine wk5 ?_ | refine w6 ?_ | refine w7 ?_ | refine w8 ?_ | refine w9 ?_ | refine wa ?_ | refine wb ?_ | refine wc ?_ | refine wd ?_ | refine ws ?_ | refine wlb ?_)
        (try dsimp only [AX.then, AX.inBlock, AX.noGoto])
        refine enduq (S' := S) (by simp only [go_sem, Int.reduceEq, Int.reduceLT, Int.reduceBEq, Int.reduceBNe, Int.reduceNe, Nat.reduceLeDiff, Nat.reduceAdd, Nat.reduceSub, Nat.reduceLT, Nat.reduceEqDiff, Nat.reduceBEq, Int.reduceLE, Int.reduceToNat, k_b9, k_b10, n89, n810, n910]; rfl) (by rfl) (Sto.Sub.refl _).cons.cons.cons
      case true =>
        rw [hk] at c3
        have hP : proofD p wid root key s = match proofP p wid root key s with
          | some (fs, r) => .tup [.sl .none (fs.map sD), rgD p wid key .none r, iD 0]
          | none => .tup [.sl .none [], rgD 0 0 [] .none (rg0 Dg.zero), iD 150] := by unfold proofD argsB; rw [hr, hf, hk]; rfl
        (try clear F); have F := true_and; repeat (first | refine w1 ?_ | refine w2 ?_ | refine w3 ?_ | refine w4 ?_ | refine wk2 ?_ | refine wk5 ?_ | refine w6 ?_ | refine w7 ?_ | refine w8 ?_ | refine w9 ?_ | refine wa ?_ | refine wb ?_ | refine wc ?_ | refine wd ?_ | refine ws ?_ | refine wlb ?_)
        (first | refine we (c := by exact (c1 _)) (k := ?_) | refine wf (c := by exact (c1 _)) (k := ?_))
        (try clear F); have F := true_and; repeat (first | refine w1 ?_ | refine w2 ?_ | refine w3 ?_ | refine w4 ?_ | refine wk2 ?_ | refine wk5 ?_ | refine w6 ?_ | refine w7 ?_ | refine w8 ?_ | refine w9 ?_ | refine wa ?_ | refine wb ?_ | refine wc ?_ | refine wd ?_ | refine ws ?_ | refine wlb ?_)
        (first | refine we (c := by exact (c2 _)) (k := ?_) | refine wf (c := by exact (c2 _)) (k := ?_))
        (try clear F); have F := true_and; repeat (first | refine w1 ?_ | refine w2 ?_ | refine w3 ?_ | refine w4 ?_ | refine wk2 ?_ | refine wk5 ?_ | refine w6 ?_ | refine w7 ?_ | refine w8 ?_ | refine w9 ?_ | refine wa ?_ | refine wb ?_ | refine wc ?_ | refine wd ?_ | refine ws ?_ | refine wlb ?_)
        (first | refine we (c := by exact (c3 _)) (k := ?_) | refine wf (c := by exact (c3 _)) (k := ?_))
        (try clear F); have F := true_and; repeat (first | refine w1 ?_ | refine w2 ?_ | refine w3 ?_ | refine w4 ?_ | refine wk2 ?_ | refine wk5 ?_ | refine w6 ?_ | refine w7 ?_ | refine w8 ?_ | refine w9 ?_ | refine wa ?_ | refine wb ?_ | refine wc ?_ | refine wd ?_ | refine ws ?_ | refine wlb ?_)
        refine AWD.put_off prg (f := 80) (caps := #[.pointer (some ⟨b8, 0, none⟩), .pointer (some ⟨b9, 0, none⟩), .pointer (some ⟨b10, 0, none⟩)]) (by (simp only [go_sem, Int.reduceEq, Int.reduceLT, Int.reduceBEq, Int.reduceBNe, Int.reduceNe, Nat.reduceLeDiff, Nat.reduceAdd, Nat.reduceSub, Nat.reduceLT, Nat.reduceEqDiff, Nat.reduceBEq, Int.reduceLE, Int.reduceToNat]; try rfl)) rfl rfl rfl (by (simp only [go_sem, Int.reduceEq, Int.reduceLT, Int.reduceBEq, Int.reduceBNe, Int.reduceNe, Nat.reduceLeDiff, Nat.reduceAdd, Nat.reduceSub, Nat.reduceLT, Nat.reduceEqDiff, Nat.reduceBEq, Int.reduceLE, Int.reduceToNat]; try rfl)) ?_
        rw [hB]
        refine AWD.of (hD _ _ (by simp [Value.oneCell'])) ?_
        (try clear F); have F := true_and; repeat (first | refine w1 ?_ | refine w2 ?_ | refine w3 ?_ | refine w4 ?_ | refine wk2 ?_ | refine wk5 ?_ | refine w6 ?_ | refine w7 ?_ | refine w8 ?_ | refine w9 ?_ | refine wa ?_ | refine wb ?_ | refine wc ?_ | refine wd ?_ | refine ws ?_ | refine wlb ?_)
        refine wg (c := by exact (aSplit s _ (by omega))) (k := ?_)
        rintro d S1 ⟨hd, rfl⟩
        unfold splitD at hd
        cases hsp : splitP s with
        | none =>
          have hN : proofP p wid root key s = none := by unfold proofP; rw [hsp]
          rw [hP, hN]
          rw [hsp] at hd
          obtain ⟨x, y, rfl⟩ := hd
          (try clear F); have F := And.intro k_b9 (And.intro k_b10 (And.intro n89 (And.intro n810 (And.intro n910 true_and)))); repeat (first | refine w1 ?_ | refine w2 ?_ | refine w3 ?_ | refine w4 ?_ | refine wk2 ?_ | refine wk5 ?_ | refine w6 ?_ | refine w7 ?_ | refine w8 ?_ | refine w9 ?_ | refine wa ?_ | refine wb ?_ | refine wc ?_ | refine wd ?_ | refine ws ?_ | refine wlb ?_)
          refine wpx (c := by exact (aMustF _)) (k := ?_)
          (try dsimp only [AX.then, AX.inBlock, AX.noGoto])
          exact pread_pan k_b9.1 ⟨k_b10.1, k_b10.2.1⟩ (List.Sublist.refl _) rfl rfl rfl ⟨rfl, rfl, _, _, rfl⟩ ⟨0, 0, [], .nil, rg0 Dg.zero, rfl⟩ ⟨_, rfl⟩
        | some fs =>
          rw [hsp] at hd
          subst hd
          by_cases hl : 0 < fs.length ∧ fs.length ≤ 33
          case neg =>
            have hN : proofP p wid root key s = none := by unfold proofP; rw [hsp]; show (if 0 < fs.length ∧ fs.length ≤ 33 then _ else _) = _; rw [if_neg hl]
            rw [hP, hN]
            by_cases h0 : 0 < fs.length
            · have z0 : decide ((fs.length : Int) > 0) = true := decide_eq_true (by omega)
              have z1 : decide ((fs.length : Int) ≤ 33) = false := decide_eq_false (fun h => hl ⟨h0, by omega⟩)
              (try clear F); have F := And.intro k_b9 (And.intro k_b10 (And.intro n89 (And.intro n810 (And.intro n910 (And.intro z0 (And.intro z1 true_and)))))); repeat (first | refine w1 ?_ | refine w2 ?_ | refine w3 ?_ | refine w4 ?_ | refine wk2 ?_ | refine wk5 ?_ | refine w6 ?_ | refine w7 ?_ | refine w8 ?_ | refine w9 ?_ | refine wa ?_ | refine wb ?_ | refine wc ?_ | refine wd ?_ | refine ws ?_ | refine wlb ?_)
              refine wpx (c := by exact (aMustF _)) (k := ?_)
              (try dsimp only [AX.then, AX.inBlock, AX.noGoto])
              exact pread_pan k_b9.1 ⟨k_b10.1, k_b10.2.1⟩ (List.Sublist.refl _) rfl rfl rfl ⟨rfl, rfl, _, _, rfl⟩ ⟨0, 0, [], .nil, rg0 Dg.zero, rfl⟩ ⟨_, rfl⟩
            · have z0 : decide ((fs.length : Int) > 0) = false := decide_eq_false (by omega)
              (try clear F); have F := And.intro k_b9 (And.intro k_b10 (And.intro n89 (And.intro n810 (And.intro n910 (And.intro z0 true_and))))); repeat (first | refine w1 ?_ | refine w2 ?_ | refine w3 ?_ | refine w4 ?_ | refine wk2 ?_ | refine wk5 ?_ | refine w6 ?_ | refine w7 ?_ | refine w8 ?_ | refine w9 ?_ | refine wa ?_ | refine wb ?_ | refine wc ?_ | refine wd ?_ | refine ws ?_ | refine wlb ?_)
              refine wpx (c := by exact (aMustF _)) (k := ?_)
              (try dsimp only [AX.then, AX.inBlock, AX.noGoto])
              exact pread_pan k_b9.1 ⟨k_b10.1, k_b10.2.1⟩ (List.Sublist.refl _) rfl rfl rfl ⟨rfl, rfl, _, _, rfl⟩ ⟨0, 0, [], .nil, rg0 Dg.zero, rfl⟩ ⟨_, rfl⟩
          have z0 : decide ((fs.length : Int) > 0) = true := decide_eq_true (by omega)
          have z1 : decide ((fs.length : Int) ≤ 33) = true := decide_eq_true (by omega)
          have hN : proofP p wid root key s = (readF p wid key 0 fs (rg0 root)).map fun r => (fs, r) := by unfold proofP; rw [hsp]; show (if 0 < fs.length ∧ fs.length ≤ 33 then _ else _) = _; rw [if_pos hl]
          rw [hP, hN]
          (try clear F); have F := And.intro k_b9 (And.intro k_b10 (And.intro n89 (And.intro n810 (And.intro n910 (And.intro z0 (And.intro z1 true_and)))))); repeat (first | refine w1 ?_ | refine w2 ?_ | refine w3 ?_ | refine w4 ?_ | refine wk2 ?_ | refine wk5 ?_ | refine w6 ?_ | refine w7 ?_ | refine w8 ?_ | refine w9 ?_ | refine wa ?_ | refine wb ?_ | refine wc ?_ | refine wd ?_ | refine ws ?_ | refine wlb ?_)
          (first | refine we (c := by exact (aMustT _)) (k := ?_) | refine wf (c := by exact (aMustT _)) (k := ?_))
          (try clear F); have F := And.intro k_b9 (And.intro k_b10 (And.intro n89 (And.intro n810 (And.intro n910 true_and)))); repeat (first | refine w1 ?_ | refine w2 ?_ | refine w3 ?_ | refine w4 ?_ | refine wk2 ?_ | refine wk5 ?_ | refine w6 ?_ | refine w7 ?_ | refine w8 ?_ | refine w9 ?_ | refine wa ?_ | refine wb ?_ | refine wc ?_ | refine wd ?_ | refine ws ?_ | refine wlb ?_)
          have hsz := splitP_shr hsp
          obtain ⟨G, hG⟩ : ∃ G, readF p wid key 0 fs (rg0 root) = G := ⟨_, rfl⟩
          rw [hG]
          refine AW.loopS 14 [12, 13, 54, 55, 56] (fun xs S' => ∃ (i : Nat) (r : Rg) (tw : Tag) (ow : List (Nat × Nat)), xs = [.any, .any, .sl .none (fs.map sD), iD fs.length, iD i] ∧ S' = ⟨(b10, 32, iD 0) :: (b9, 91, rgD p wid key tw r) :: (b8, 53, .sl .none (fs.map sD)) :: S.bk, ow⟩ ∧ i ≤ fs.length ∧ readF p wid key i (fs.drop i) r = G ∧ G1 S.ow ow 3 1 tw (r.ways.map natD) ∧ r.ways.length ≤ i) (fun xs _ => fs.length - nI (xs.getD 4 .any)) [.any, .any, .sl .none (fs.map sD), iD fs.length, iD 0] _ ?_ (Sto.Sub.refl _) ⟨0, rg0 root, .nil, S.ow, rfl, rfl, by omega, hG, G1.nil _ _ _, by simp [rg0]⟩ ?_
          · simp only [go_sem, Int.reduceEq, Int.reduceLT, Int.reduceBEq, Int.reduceBNe, Int.reduceNe, Nat.reduceLeDiff, Nat.reduceAdd, Nat.reduceSub, Nat.reduceLT, Nat.reduceEqDiff, Nat.reduceBEq, Int.reduceLE, Int.reduceToNat, weakA, or_true, true_or, and_self]
          rintro xs S' ⟨i, r, tw, ow, rfl, rfl, hi, hrd, hg, hw⟩
          apply AW.frame; case fr => (simp only [go_sem, Int.reduceEq, Int.reduceLT, Int.reduceBEq, Int.reduceBNe, Int.reduceNe, Nat.reduceLeDiff, Nat.reduceAdd, Nat.reduceSub, Nat.reduceLT, Nat.reduceEqDiff, Nat.reduceBEq, Int.reduceLE, Int.reduceToNat]; rfl)
          by_cases hlt : i < fs.length
          · obtain ⟨x, hx⟩ : ∃ x, fs[i]? = some x := ⟨_, List.getElem?_eq_getElem hlt⟩
            have d1 : decide ((i : Int) < fs.length) = true := decide_eq_true (by omega)
            have hgt : (fs.map sD)[i]? = some (sD x) := by rw [List.getElem?_map, hx]; rfl
            have g0 : (0 : Int) ≤ i := by omega
            have f1 : IntKind.i64.wrap ((i : Int) + 1) = ((i + 1 : Nat) : Int) := IntWalk.i64_in _ (by omega)
            have f2 : IntKind.i64.wrap ((fs.length : Int) - 1) = ((fs.length - 1 : Nat) : Int) := by rw [IntWalk.i64_in _ (by omega)]; omega
            have hdr : fs.drop i = x :: fs.drop (i + 1) := by
              have hlt' := hlt
              rw [List.drop_eq_getElem_cons hlt]
              rw [List.getElem?_eq_getElem hlt, Option.some.injEq] at hx
              rw [hx]
            have hfl : ((i : Int) == ((fs.length - 1 : Nat) : Int)) = ((fs.drop (i + 1)).length == 0) := by
              rw [List.length_drop, Bool.eq_iff_iff, beq_iff_eq, beq_iff_eq]; omega
            have hb9 : getM ((b10, 32, iD 0) :: (b9, 91, rgD p wid key tw r) :: (b8, 53, .sl .none (fs.map sD)) :: S.bk) b9 = some (91, rgD p wid key tw r) := by rw [getM_cons, if_neg n910, getM_cons, if_pos rfl]
            have cF := aForm b9 p wid key x i ((fs.drop (i + 1)).length == 0) tw r ⟨(b10, 32, iD 0) :: (b9, 91, rgD p wid key tw r) :: (b8, 53, .sl .none (fs.map sD)) :: S.bk, ow⟩ S.ow hb9 hr (Nat.le_trans (hsz x (List.mem_of_getElem? hx)) (by omega)) hg (by omega) (by omega)
            rw [hdr] at hrd
            unfold readF at hrd
            (try clear F); have F := And.intro d1 (And.intro hgt (And.intro g0 (And.intro Int.toNat_natCast (And.intro f2 (And.intro hfl (And.intro k_b9 (And.intro k_b10 (And.intro n89 (And.intro n810 (And.intro n910 true_and)))))))))); repeat (first | refine w1 ?_ | refine w2 ?_ | refine w3 ?_ | refine w4 ?_ | refine wk2 ?_ | refine wk5 ?_ | refine w6 ?_ | refine w7 ?_ | refine w8 ?_ | refine w9 ?_ | refine wa ?_ | refine wb ?_ | refine wc ?_ | refine wd ?_ | refine ws ?_ | refine wlb ?_)
            cases hf : formP p wid key x (i == 0) ((fs.drop (i + 1)).length == 0) r with
            | none =>
              rw [hf] at cF hrd
              rw [← show none = G from hrd]
              refine wpx (c := by exact (cF.mono fun e S' h => h)) (k := ?_)
              (try dsimp only [AX.then, AX.inBlock, AX.noGoto])
              exact pread_pan k_b9.1 ⟨k_b10.1, k_b10.2.1⟩ hg.sub rfl rfl rfl ⟨rfl, rfl, _, _, rfl⟩ ⟨p, wid, key, tw, r, rfl⟩ ⟨_, rfl⟩
            | some r' =>
              rw [hf] at cF hrd
              have hrd : readF p wid key (i + 1) (fs.drop (i + 1)) r' = G := hrd
              have hw' : r'.ways.length ≤ i + 1 := by
                unfold formP at hf
                split at hf
                · cases hf
                · split at hf
                  · simp only [Option.some.injEq] at hf; rw [← hf]; exact Nat.le_trans (nextR_ways _ _ _ _) (by omega)
                  · cases hf
              have cG : ACalls _ _ _ _ (fun e S' => ∃ d, e = .ret d ∧ (d = .tup [] ∧ ∃ tw', S'.bk = setM _ b9 (rgD p wid key tw' r') ∧ G1 S.ow S'.ow 3 1 tw' (r'.ways.map natD))) := cF.mono fun e S' h => ⟨_, h.1, rfl, h.2⟩
              refine wg (c := by exact (cG)) (k := ?_)
              rintro d ⟨bk1, ow1⟩ ⟨rfl, tw', hbk, hg'⟩
              simp only [setM_cons, n910, if_true, if_false] at hbk
              subst hbk
              (try clear F); have F := And.intro f1 true_and; repeat (first | refine w1 ?_ | refine w2 ?_ | refine w3 ?_ | refine w4 ?_ | refine wk2 ?_ | refine wk5 ?_ | refine w6 ?_ | refine w7 ?_ | refine w8 ?_ | refine w9 ?_ | refine wa ?_ | refine wb ?_ | refine wc ?_ | refine wd ?_ | refine ws ?_ | refine wlb ?_)
              refine ⟨[.any, .any, .sl .none (fs.map sD), iD fs.length, iD (i + 1 : Nat)], ⟨_, ow1⟩, ?_, Sto.Sub.refl _, ⟨i + 1, r', tw', ow1, rfl, rfl, by omega, hrd, hg', hw'⟩, ?_⟩
              · simp only [go_sem, Int.reduceEq, Int.reduceLT, Int.reduceBEq, Int.reduceBNe, Int.reduceNe, Nat.reduceLeDiff, Nat.reduceAdd, Nat.reduceSub, Nat.reduceLT, Nat.reduceEqDiff, Nat.reduceBEq, Int.reduceLE, Int.reduceToNat, weakA, or_true, true_or, and_self]
              · simp only [go_sem, Int.reduceEq, Int.reduceLT, Int.reduceBEq, Int.reduceBNe, Int.reduceNe, Nat.reduceLeDiff, Nat.reduceAdd, Nat.reduceSub, Nat.reduceLT, Nat.reduceEqDiff, Nat.reduceBEq, Int.reduceLE, Int.reduceToNat, Int.toNat_natCast]; omega
          · obtain rfl : i = fs.length := by omega
            have d1 : decide ((fs.length : Int) < fs.length) = false := decide_eq_false (by omega)
            rw [List.drop_length] at hrd
            have hrd : some r = G := hrd
            rw [← hrd]
            (try clear F); have F := And.intro d1 true_and; repeat (first | refine w1 ?_ | refine w2 ?_ | refine w3 ?_ | refine w4 ?_ | refine w6 ?_ | refine w7 ?_ | refine w8 ?_ | refine w9 ?_ | refine wa ?_ | refine wb ?_ | refine wc ?_ | refine wd ?_ | refine ws ?_ | refine wlb ?_)
            have hes : untags (fs.map sD) = fs.map sD := untags_sD fs
            refine AW.drawM prg 0 (Nat.zero_le _) (by kernel_rfl) rfl ?_
            show AMix _ _ _ _ _ _ _ _
            refine AMix.branch [0, 1] (by kernel_rfl) (by decide) (fun j hj => ?_)
            simp only [List.mem_cons, List.mem_nil_iff, or_false] at hj
            rcases hj with rfl | rfl
            · refine ⟨_, by simp only [List.getElem?_toArray, List.getElem?_cons_succ, List.getElem?_cons_zero]; rfl, ?_⟩
              (try clear F); have F := And.intro k_b9 (And.intro k_b10 (And.intro n89 (And.intro n810 (And.intro n910 true_and)))); repeat (first | refine w1 ?_ | refine w2 ?_ | refine w3 ?_ | refine w4 ?_ | refine w6 ?_ | refine w7 ?_ | refine w8 ?_ | refine w9 ?_ | refine wa ?_ | refine wb ?_ | refine wc ?_ | refine wd ?_ | refine ws ?_ | refine wlb ?_)
              refine AMix.branch [1, 2] (by kernel_rfl) (by decide) (fun j hj => ?_)
              simp only [List.mem_cons, List.mem_nil_iff, or_false] at hj
              rcases hj with rfl | rfl
              · refine ⟨_, by simp only [List.getElem?_toArray, List.getElem?_cons_succ, List.getElem?_cons_zero]; rfl, ?_⟩
                (try clear F); have F := And.intro k_b9 (And.intro k_b10 (And.intro n89 (And.intro n810 (And.intro n910 true_and)))); repeat (first | refine w1 ?_ | refine w2 ?_ | refine w3 ?_ | refine w4 ?_ | refine w6 ?_ | refine w7 ?_ | refine w8 ?_ | refine w9 ?_ | refine wa ?_ | refine wb ?_ | refine wc ?_ | refine wd ?_ | refine ws ?_ | refine wlb ?_)
                refine AMix.branch [2] (by kernel_rfl) (by decide) (fun j hj => ?_)
                obtain rfl := List.mem_singleton.1 hj
                refine ⟨_, by simp only [List.getElem?_toArray, List.getElem?_cons_succ, List.getElem?_cons_zero]; rfl, ?_⟩
                (try clear F); have F := And.intro k_b9 (And.intro k_b10 (And.intro n89 (And.intro n810 (And.intro n910 true_and)))); repeat (first | refine w1 ?_ | refine w2 ?_ | refine w3 ?_ | refine w4 ?_ | refine w6 ?_ | refine w7 ?_ | refine w8 ?_ | refine w9 ?_ | refine wa ?_ | refine wb ?_ | refine wc ?_ | refine wd ?_ | refine ws ?_ | refine wlb ?_)
                refine AMix.branch [3] (by kernel_rfl) (by decide) (fun j hj => ?_)
                obtain rfl := List.mem_singleton.1 hj
                refine ⟨_, by simp only [List.getElem?_toArray, List.getElem?_cons_succ, List.getElem?_cons_zero]; rfl, ?_⟩
                (try clear F); have F := And.intro k_b9 (And.intro k_b10 (And.intro n89 (And.intro n810 (And.intro n910 true_and)))); repeat (first | refine w1 ?_ | refine w2 ?_ | refine w3 ?_ | refine w4 ?_ | refine w6 ?_ | refine w7 ?_ | refine w8 ?_ | refine w9 ?_ | refine wa ?_ | refine wb ?_ | refine wc ?_ | refine wd ?_ | refine ws ?_ | refine wlb ?_)
                refine AMix.branch [4] (by kernel_rfl) (by decide) (fun j hj => ?_)
                obtain rfl := List.mem_singleton.1 hj
                refine ⟨_, by simp only [List.getElem?_toArray, List.getElem?_cons_succ, List.getElem?_cons_zero]; rfl, ?_⟩
                (try clear F); have F := And.intro k_b9 (And.intro k_b10 (And.intro n89 (And.intro n810 (And.intro n910 true_and)))); repeat (first | refine w1 ?_ | refine w2 ?_ | refine w3 ?_ | refine w4 ?_ | refine w6 ?_ | refine w7 ?_ | refine w8 ?_ | refine w9 ?_ | refine wa ?_ | refine wb ?_ | refine wc ?_ | refine wd ?_ | refine ws ?_ | refine wlb ?_)
                refine AMix.end (by kernel_rfl) ?_
                (try dsimp only [AX.then, AX.inBlock, AX.noGoto])
                refine AW.ret ?_
                (try dsimp only [AX.then, AX.inBlock, AX.noGoto])
                exact pread_ret k_b9.1 ⟨k_b10.1, k_b10.2.1⟩ hg.sub rfl rfl rfl hes
              · refine ⟨_, by simp only [List.getElem?_toArray, List.getElem?_cons_succ, List.getElem?_cons_zero]; rfl, ?_⟩
                (try clear F); have F := And.intro k_b9 (And.intro k_b10 (And.intro n89 (And.intro n810 (And.intro n910 true_and)))); repeat (first | refine w1 ?_ | refine w2 ?_ | refine w3 ?_ | refine w4 ?_ | refine w6 ?_ | refine w7 ?_ | refine w8 ?_ | refine w9 ?_ | refine wa ?_ | refine wb ?_ | refine wc ?_ | refine wd ?_ | refine ws ?_ | refine wlb ?_)
                refine AMix.branch [1] (by kernel_rfl) (by decide) (fun j hj => ?_)
                obtain rfl := List.mem_singleton.1 hj
                refine ⟨_, by simp only [List.getElem?_toArray, List.getElem?_cons_succ, List.getElem?_cons_zero]; rfl, ?_⟩
                (try clear F); have F := And.intro k_b9 (And.intro k_b10 (And.intro n89 (And.intro n810 (And.intro n910 true_and)))); repeat (first | refine w1 ?_ | refine w2 ?_ | refine w3 ?_ | refine w4 ?_ | refine w6 ?_ | refine w7 ?_ | refine w8 ?_ | refine w9 ?_ | refine wa ?_ | refine wb ?_ | refine wc ?_ | refine wd ?_ | refine ws ?_ | refine wlb ?_)
                refine AMix.branch [3] (by kernel_rfl) (by decide) (fun j hj => ?_)
                obtain rfl := List.mem_singleton.1 hj
                refine ⟨_, by simp only [List.getElem?_toArray, List.getElem?_cons_succ, List.getElem?_cons_zero]; rfl, ?_⟩
                (try clear F); have F := And.intro k_b9 (And.intro k_b10 (And.intro n89 (And.intro n810 (And.intro n910 true_and)))); repeat (first | refine w1 ?_ | refine w2 ?_ | refine w3 ?_ | refine w4 ?_ | refine w6 ?_ | refine w7 ?_ | refine w8 ?_ | refine w9 ?_ | refine wa ?_ | refine wb ?_ | refine wc ?_ | refine wd ?_ | refine ws ?_ | refine wlb ?_)
                refine AMix.branch [4] (by kernel_rfl) (by decide) (fun j hj => ?_)
                obtain rfl := List.mem_singleton.1 hj
                refine ⟨_, by simp only [List.getElem?_toArray, List.getElem?_cons_succ, List.getElem?_cons_zero]; rfl, ?_⟩
                (try clear F); have F := And.intro k_b9 (And.intro k_b10 (And.intro n89 (And.intro n810 (And.intro n910 true_and)))); repeat (first | refine w1 ?_ | refine w2 ?_ | refine w3 ?_ | refine w4 ?_ | refine w6 ?_ | refine w7 ?_ | refine w8 ?_ | refine w9 ?_ | refine wa ?_ | refine wb ?_ | refine wc ?_ | refine wd ?_ | refine ws ?_ | refine wlb ?_)
                refine AMix.end (by kernel_rfl) ?_
                (try dsimp only [AX.then, AX.inBlock, AX.noGoto])
                refine AW.ret ?_
                (try dsimp only [AX.then, AX.inBlock, AX.noGoto])
                exact pread_ret k_b9.1 ⟨k_b10.1, k_b10.2.1⟩ hg.sub rfl rfl rfl hes
            · refine ⟨_, by simp only [List.getElem?_toArray, List.getElem?_cons_succ, List.getElem?_cons_zero]; rfl, ?_⟩
              (try clear F); have F := And.intro k_b9 (And.intro k_b10 (And.intro n89 (And.intro n810 (And.intro n910 true_and)))); repeat (first | refine w1 ?_ | refine w2 ?_ | refine w3 ?_ | refine w4 ?_ | refine w6 ?_ | refine w7 ?_ | refine w8 ?_ | refine w9 ?_ | refine wa ?_ | refine wb ?_ | refine wc ?_ | refine wd ?_ | refine ws ?_ | refine wlb ?_)
              refine AMix.branch [0] (by kernel_rfl) (by decide) (fun j hj => ?_)
              obtain rfl := List.mem_singleton.1 hj
              refine ⟨_, by simp only [List.getElem?_toArray, List.getElem?_cons_succ, List.getElem?_cons_zero]; rfl, ?_⟩
              (try clear F); have F := And.intro k_b9 (And.intro k_b10 (And.intro n89 (And.intro n810 (And.intro n910 true_and)))); repeat (first | refine w1 ?_ | refine w2 ?_ | refine w3 ?_ | refine w4 ?_ | refine w6 ?_ | refine w7 ?_ | refine w8 ?_ | refine w9 ?_ | refine wa ?_ | refine wb ?_ | refine wc ?_ | refine wd ?_ | refine ws ?_ | refine wlb ?_)
              refine AMix.branch [2] (by kernel_rfl) (by decide) (fun j hj => ?_)
              obtain rfl := List.mem_singleton.1 hj
              refine ⟨_, by simp only [List.getElem?_toArray, List.getElem?_cons_succ, List.getElem?_cons_zero]; rfl, ?_⟩
              (try clear F); have F := And.intro k_b9 (And.intro k_b10 (And.intro n89 (And.intro n810 (And.intro n910 true_and)))); repeat (first | refine w1 ?_ | refine w2 ?_ | refine w3 ?_ | refine w4 ?_ | refine w6 ?_ | refine w7 ?_ | refine w8 ?_ | refine w9 ?_ | refine wa ?_ | refine wb ?_ | refine wc ?_ | refine wd ?_ | refine ws ?_ | refine wlb ?_)
              refine AMix.branch [3] (by kernel_rfl) (by decide) (fun j hj => ?_)
              obtain rfl := List.mem_singleton.1 hj
              refine ⟨_, by simp only [List.getElem?_toArray, List.getElem?_cons_succ, List.getElem?_cons_zero]; rfl, ?_⟩
              (try clear F); have F := And.intro k_b9 (And.intro k_b10 (And.intro n89 (And.intro n810 (And.intro n910 true_and)))); repeat (first | refine w1 ?_ | refine w2 ?_ | refine w3 ?_ | refine w4 ?_ | refine w6 ?_ | refine w7 ?_ | refine w8 ?_ | refine w9 ?_ | refine wa ?_ | refine wb ?_ | refine wc ?_ | refine wd ?_ | refine ws ?_ | refine wlb ?_)
              refine AMix.branch [4] (by kernel_rfl) (by decide) (fun j hj => ?_)
              obtain rfl := List.mem_singleton.1 hj
              refine ⟨_, by simp only [List.getElem?_toArray, List.getElem?_cons_succ, List.getElem?_cons_zero]; rfl, ?_⟩
              (try clear F); have F := And.intro k_b9 (And.intro k_b10 (And.intro n89 (And.intro n810 (And.intro n910 true_and)))); repeat (first | refine w1 ?_ | refine w2 ?_ | refine w3 ?_ | refine w4 ?_ | refine w6 ?_ | refine w7 ?_ | refine w8 ?_ | refine w9 ?_ | refine wa ?_ | refine wb ?_ | refine wc ?_ | refine wd ?_ | refine ws ?_ | refine wlb ?_)
              refine AMix.end (by kernel_rfl) ?_
              (try dsimp only [AX.then, AX.inBlock, AX.noGoto])
              refine AW.ret ?_
              (try dsimp only [AX.then, AX.inBlock, AX.noGoto])
              exact pread_ret k_b9.1 ⟨k_b10.1, k_b10.2.1⟩ hg.sub rfl rfl rfl hes

end Go.Proofs.YtcaggadjkccbiaaGreat

/- A key's proof is read, its forms are shown (values without addresses). -/
namespace Go.Proofs.YtcaggadjkccbiaaGreat
set_option linter.unusedVariables false
set_option linter.unusedSimpArgs false
open Go Go.RowKit

def errP (p wid : Int) (root : Dg) (key s : Bs) : Int :=
  if argsB p wid root key = true then (match proofP p wid root key s with | some _ => 0 | none => 150) else 2
def ansP (p wid : Int) (root : Dg) (key s : Bs) : Option Bs :=
  if argsB p wid root key = true then (match proofP p wid root key s with | some (_, r) => r.ans | none => none) else none
def formsP (p wid : Int) (root : Dg) (key s : Bs) : List Bs :=
  if argsB p wid root key = true then (match proofP p wid root key s with | some (fs, _) => fs | none => []) else []
def waysP (p wid : Int) (root : Dg) (key s : Bs) : List Nat :=
  if argsB p wid root key = true then (match proofP p wid root key s with | some (_, r) => r.ways | none => []) else []
theorem proofD_eq (p wid : Int) (root : Dg) (key s : Bs) : ∃ (p' wid' : Int) (key' : Bs) (r : Rg), proofD p wid root key s = .tup [.sl .none ((formsP p wid root key s).map sD), rgD p' wid' key' .none r, iD (errP p wid root key s)] ∧ r.ans = ansP p wid root key s ∧ r.ways = waysP p wid root key s := by
  unfold proofD errP ansP formsP waysP
  split
  · cases proofP p wid root key s with
    | none => exact ⟨_, _, _, _, rfl, rfl, rfl⟩
    | some x => obtain ⟨fs, r⟩ := x; exact ⟨_, _, _, _, rfl, rfl, rfl⟩
  · exact ⟨_, _, _, _, rfl, rfl, rfl⟩

set_option maxHeartbeats 1000000 in set_option maxRecDepth 100000 in
theorem aProofRead (p wid : Int) (root : Dg) (key s : Bs) (S : Sto) (hs : s.length ≤ 1048576) :
    ACalls Tryz.prog 19 [frD p wid, .dg root, sD key, sD s] S (RetQ (.tup [ansD (ansP p wid root key s), iD (errP p wid root key s)]) S) := by
  have c := fun S => aPRead p wid root key s S hs
  obtain ⟨p', wid', key', r, h1, h2, h3⟩ := proofD_eq p wid root key s
  rw [h1] at c
  rw [← h2]
  refine acalls_of prg Tryz.func19 rfl (by kernel_rfl) (congrArg Array.toList Tryz.results19) Tryz.ntmps19 (fun B hB => ?_); simp only [List.length_cons, List.length_nil, Nat.reduceAdd, Nat.reduceSub, List.replicate_succ, List.replicate_zero, List.cons_append, List.nil_append]
  (try clear F); have F := true_and; repeat (first | refine w1 ?_ | refine w2 ?_ | refine w3 ?_ | refine w4 ?_ | refine wk2 ?_ | refine wk5 ?_ | refine w6 ?_ | refine w7 ?_ | refine w8 ?_ | refine w9 ?_ | refine wa ?_ | refine wb ?_ | refine wc ?_ | refine wd ?_ | refine ws ?_ | refine wlb ?_)
  refine wh ?_; rintro b8 ⟨k_b8, o_b8⟩; (try simp only [List.map_cons, List.mem_cons, not_or] at k_b8)
  (try clear F); have F := true_and; repeat (first | refine w1 ?_ | refine w2 ?_ | refine w3 ?_ | refine w4 ?_ | refine wk2 ?_ | refine wk5 ?_ | refine w6 ?_ | refine w7 ?_ | refine w8 ?_ | refine w9 ?_ | refine wa ?_ | refine wb ?_ | refine wc ?_ | refine wd ?_ | refine ws ?_ | refine wlb ?_)
  (first | refine we (c := by exact (c _)) (k := ?_) | refine wf (c := by exact (c _)) (k := ?_))
  (try clear F); have F := true_and; repeat (first | refine w1 ?_ | refine w2 ?_ | refine w3 ?_ | refine w4 ?_ | refine wk2 ?_ | refine wk5 ?_ | refine w6 ?_ | refine w7 ?_ | refine w8 ?_ | refine w9 ?_ | refine wa ?_ | refine wb ?_ | refine wc ?_ | refine wd ?_ | refine ws ?_ | refine wlb ?_)
  refine wh ?_; rintro b11 ⟨k_b11, o_b11⟩; (try simp only [List.map_cons, List.mem_cons, not_or] at k_b11)
  have n8 := nes k_b11.1
  (try clear F); have F := And.intro k_b11 (And.intro n8 true_and); repeat (first | refine w1 ?_ | refine w2 ?_ | refine w3 ?_ | refine w4 ?_ | refine wk2 ?_ | refine wk5 ?_ | refine w6 ?_ | refine w7 ?_ | refine w8 ?_ | refine w9 ?_ | refine wa ?_ | refine wb ?_ | refine wc ?_ | refine wd ?_ | refine ws ?_ | refine wlb ?_)
  refine enduq (S' := S) (by simp only [go_sem, Int.reduceEq, Int.reduceLT, Int.reduceBEq, Int.reduceBNe, Int.reduceNe, Nat.reduceLeDiff, Nat.reduceAdd, Nat.reduceSub, Nat.reduceLT, Nat.reduceEqDiff, Nat.reduceBEq, Int.reduceLE, Int.reduceToNat, k_b11, n8]; rfl) (by obtain ⟨want, lo, hi, ans, ways⟩ := r; cases ans <;> rfl) (Sto.Sub.refl _).cons.cons
end Go.Proofs.YtcaggadjkccbiaaGreat

/- Digests of texts, a clash holds (values without addresses). -/
namespace Go.Proofs.YtcaggadjkccbiaaGreat
set_option linter.unusedVariables false
set_option linter.unusedSimpArgs false
open Go Go.RowKit

theorem RVal.ss {w : World} {I : Nat → Nat → Prop} {t : Tag} {ss : List Bs} {x : Value} (h : RVal w I (.sl t (ss.map sD)) x) : ∃ a c, x = .slice a ss.length c ∧ SsAt w a ss := by
  have hx : RV w I (.sl t (ss.map sD)) [x] := by unfold RVal at h; exact h
  obtain ⟨a, c, he, _, _, hs⟩ := hx.list
  rw [List.length_map] at he
  simp only [List.cons.injEq, and_true] at he
  refine ⟨a, c, he, fun i p hi => ?_⟩
  obtain ⟨b, o, vs, ha, hb, hr, hc⟩ := hs i (sD p) (by simp [hi])
  unfold RV at hr
  obtain ⟨rfl, -⟩ := hr
  exact ⟨b, o, ha, hb, by simpa [D.size] using hc 0 _ rfl⟩
set_option maxHeartbeats 1000000 in set_option maxRecDepth 100000 in
theorem aOf (n : Int) (s : Bs) (S : Sto) (hs : s.length ≤ 140737488355000) : ACalls Tryz.prog 47 [iD n, sD s] S (RetQ (.tup [.dg (ofS n s).1, iD (ofS n s).2]) S) :=
  ACalls.liftq (callable Tryz.func47 rfl (by kernel_rfl)) fun w xs hS hx => by
    obtain ⟨x, ys, rfl, h1, h2⟩ := hx.cons
    obtain ⟨y, zs, rfl, h3, h4⟩ := h2.cons
    obtain rfl := h4.nil
    obtain rfl := h1.int
    obtain rfl := h3.str
    exact (of_any n s w hs).mono fun e w' h => ⟨_, h.kp.1, h.kp.2, RVal.mk_tup (RVals.mk (by unfold RVal; rfl) (RVals.mk RVal.of_int RVals.mk0))⟩
set_option maxHeartbeats 1000000 in set_option maxRecDepth 100000 in
theorem aDigest1 (n : Int) (tag : Bs) (parts : List Bs) (t : Tag) (S : Sto) (hT : (textT tag parts).length ≤ 140737488355000) (hn : parts.length ≤ 1000000000) :
    ACalls Tryz.prog 23 [iD n, sD tag, .sl t (parts.map sD)] S (RetQ (.tup [.dg (digS n tag parts).1, iD (digS n tag parts).2]) S) :=
  ACalls.liftq (callable Tryz.func23 rfl (by kernel_rfl)) fun w xs hS hx => by
    obtain ⟨x, ys, rfl, h1, h2⟩ := hx.cons
    obtain ⟨y, zs, rfl, h3, h4⟩ := h2.cons
    obtain ⟨z, us, rfl, h5, h6⟩ := h4.cons
    obtain rfl := h6.nil
    obtain rfl := h1.int
    obtain rfl := h3.str
    obtain ⟨a, c, rfl, hp⟩ := h5.ss
    exact (dig_any n tag parts a c w hp hT hn).mono fun e w' h => ⟨_, h.kp.1, h.kp.2, RVal.mk_tup (RVals.mk (by unfold RVal; rfl) (RVals.mk RVal.of_int RVals.mk0))⟩
theorem clashB_eq (n : Int) (s : Bs) : clashB n s s = false := by unfold clashB; simp
set_option maxHeartbeats 1000000 in set_option maxRecDepth 100000 in
theorem aSClash (n : Int) (s t : Bs) (S : Sto) (hs : s.length ≤ 140737488355000) (ht : t.length ≤ 140737488355000) : ACalls Tryz.prog 20 [iD n, sD s, sD t] S (RetQ (bD (clashB n s t)) S) := by
  have c1 := fun S => aOf n s S hs
  have c2 := fun S => aOf n t S ht
  by_cases hst : s = t
  · subst hst
    rw [clashB_eq]
    have e0 : (s == s) = true := by simp
    refine acalls_of prg Tryz.func20 rfl (by kernel_rfl) (congrArg Array.toList Tryz.results20) Tryz.ntmps20 (fun B hB => ?_); simp only [List.length_cons, List.length_nil, Nat.reduceAdd, Nat.reduceSub, List.replicate_succ, List.replicate_zero, List.cons_append, List.nil_append]
    (try clear F); have F := And.intro e0 true_and; repeat (first | refine w1 ?_ | refine w2 ?_ | refine w3 ?_ | refine w4 ?_ | refine wk2 ?_ | refine wk5 ?_ | refine w6 ?_ | refine w7 ?_ | refine w8 ?_ | refine w9 ?_ | refine wa ?_ | refine wb ?_ | refine wc ?_ | refine wd ?_ | refine ws ?_ | refine wlb ?_)
    first | exact endq (by simp only [go_sem, Int.reduceEq, Int.reduceLT, Int.reduceBEq, Int.reduceBNe, Int.reduceNe, Nat.reduceLeDiff, Nat.reduceAdd, Nat.reduceSub, Nat.reduceLT, Nat.reduceEqDiff, Nat.reduceBEq, Int.reduceLE, Int.reduceToNat]; rfl) (by rfl) (Sto.Sub.refl _) | exact endn (by simp only [go_sem, Int.reduceEq, Int.reduceLT, Int.reduceBEq, Int.reduceBNe, Int.reduceNe, Nat.reduceLeDiff, Nat.reduceAdd, Nat.reduceSub, Nat.reduceLT, Nat.reduceEqDiff, Nat.reduceBEq, Int.reduceLE, Int.reduceToNat]; rfl) (by rfl) (Sto.Sub.refl _)
  · have e0 : (s == t) = false := by simpa using hst
    obtain ⟨⟨d, e⟩, h1⟩ : ∃ x, ofS n s = x := ⟨_, rfl⟩
    obtain ⟨⟨d', e'⟩, h2⟩ : ∃ x, ofS n t = x := ⟨_, rfl⟩
    rw [show clashB n s t = decide (e = 0 ∧ s ≠ t ∧ d = d') by unfold clashB; rw [h1, h2]]
    rw [h1] at c1
    rw [h2] at c2
    refine acalls_of prg Tryz.func20 rfl (by kernel_rfl) (congrArg Array.toList Tryz.results20) Tryz.ntmps20 (fun B hB => ?_); simp only [List.length_cons, List.length_nil, Nat.reduceAdd, Nat.reduceSub, List.replicate_succ, List.replicate_zero, List.cons_append, List.nil_append]
    (try clear F); have F := And.intro e0 true_and; repeat (first | refine w1 ?_ | refine w2 ?_ | refine w3 ?_ | refine w4 ?_ | refine wk2 ?_ | refine wk5 ?_ | refine w6 ?_ | refine w7 ?_ | refine w8 ?_ | refine w9 ?_ | refine wa ?_ | refine wb ?_ | refine wc ?_ | refine wd ?_ | refine ws ?_ | refine wlb ?_)
    (first | refine we (c := by exact (c1 _)) (k := ?_) | refine wf (c := by exact (c1 _)) (k := ?_))
    (try clear F); have F := true_and; repeat (first | refine w1 ?_ | refine w2 ?_ | refine w3 ?_ | refine w4 ?_ | refine wk2 ?_ | refine wk5 ?_ | refine w6 ?_ | refine w7 ?_ | refine w8 ?_ | refine w9 ?_ | refine wa ?_ | refine wb ?_ | refine wc ?_ | refine wd ?_ | refine ws ?_ | refine wlb ?_)
    refine wh ?_; rintro b7 ⟨k_b7, o_b7⟩; (try simp only [List.map_cons, List.mem_cons, not_or] at k_b7)
    (try clear F); have F := true_and; repeat (first | refine w1 ?_ | refine w2 ?_ | refine w3 ?_ | refine w4 ?_ | refine wk2 ?_ | refine wk5 ?_ | refine w6 ?_ | refine w7 ?_ | refine w8 ?_ | refine w9 ?_ | refine wa ?_ | refine wb ?_ | refine wc ?_ | refine wd ?_ | refine ws ?_ | refine wlb ?_)
    (first | refine we (c := by exact (c2 _)) (k := ?_) | refine wf (c := by exact (c2 _)) (k := ?_))
    (try clear F); have F := true_and; repeat (first | refine w1 ?_ | refine w2 ?_ | refine w3 ?_ | refine w4 ?_ | refine wk2 ?_ | refine wk5 ?_ | refine w6 ?_ | refine w7 ?_ | refine w8 ?_ | refine w9 ?_ | refine wa ?_ | refine wb ?_ | refine wc ?_ | refine wd ?_ | refine ws ?_ | refine wlb ?_)
    refine wh ?_; rintro b9 ⟨k_b9, o_b9⟩; (try simp only [List.map_cons, List.mem_cons, not_or] at k_b9)
    have n7 := nes k_b9.1
    by_cases h0 : e = 0
    · subst h0
      have z0 : ((0 : Int) == 0) = true := rfl
      have z1 : decide ((0 : Int) = 0 ∧ s ≠ t ∧ d = d') = decide (d = d') := by simp only [true_and, ne_eq, hst, not_false_eq_true]
      rw [z1]
      (try clear F); have F := And.intro k_b9 (And.intro n7 (And.intro z0 true_and)); repeat (first | refine w1 ?_ | refine w2 ?_ | refine w3 ?_ | refine w4 ?_ | refine wk2 ?_ | refine wk5 ?_ | refine w6 ?_ | refine w7 ?_ | refine w8 ?_ | refine w9 ?_ | refine wa ?_ | refine wb ?_ | refine wc ?_ | refine wd ?_ | refine ws ?_ | refine wlb ?_)
      refine endq (S' := S) (by simp only [go_sem, Int.reduceEq, Int.reduceLT, Int.reduceBEq, Int.reduceBNe, Int.reduceNe, Nat.reduceLeDiff, Nat.reduceAdd, Nat.reduceSub, Nat.reduceLT, Nat.reduceEqDiff, Nat.reduceBEq, Int.reduceLE, Int.reduceToNat, k_b9, n7]; rfl) (by rfl) (Sto.Sub.refl _).cons.cons
    · have z0 : (e == 0) = false := beq_eq_false_iff_ne.2 h0
      have z1 : decide (e = 0 ∧ s ≠ t ∧ d = d') = false := decide_eq_false (fun h => h0 h.1)
      rw [z1]
      (try clear F); have F := And.intro k_b9 (And.intro n7 (And.intro z0 true_and)); repeat (first | refine w1 ?_ | refine w2 ?_ | refine w3 ?_ | refine w4 ?_ | refine wk2 ?_ | refine wk5 ?_ | refine w6 ?_ | refine w7 ?_ | refine w8 ?_ | refine w9 ?_ | refine wa ?_ | refine wb ?_ | refine wc ?_ | refine wd ?_ | refine ws ?_ | refine wlb ?_)
      refine endq (S' := S) (by simp only [go_sem, Int.reduceEq, Int.reduceLT, Int.reduceBEq, Int.reduceBNe, Int.reduceNe, Nat.reduceLeDiff, Nat.reduceAdd, Nat.reduceSub, Nat.reduceLT, Nat.reduceEqDiff, Nat.reduceBEq, Int.reduceLE, Int.reduceToNat, k_b9, n7]; rfl) (by rfl) (Sto.Sub.refl _).cons.cons

/-- Two texts of one digest, in a right frame. -/
def holdsB (p wid : Int) (s t : Bs) : Bool := rightB p wid && clashB wid s t
set_option maxHeartbeats 1000000 in set_option maxRecDepth 100000 in
theorem aHolds (p wid : Int) (s t : Bs) (S : Sto) (hs : s.length ≤ 140737488355000) (ht : t.length ≤ 140737488355000) : ACalls Tryz.prog 10 [frD p wid, .agg [sD s, sD t]] S (RetQ (bD (holdsB p wid s t)) S) := by
  have c1 := fun S => aNRight p wid S
  have c2 := fun S => aSClash wid s t S hs ht
  unfold holdsB
  cases hr : rightB p wid with
  | true =>
    rw [hr] at c1
    refine acalls_of prg Tryz.func10 rfl (by kernel_rfl) (congrArg Array.toList Tryz.results10) Tryz.ntmps10 (fun B hB => ?_); simp only [List.length_cons, List.length_nil, Nat.reduceAdd, Nat.reduceSub, List.replicate_succ, List.replicate_zero, List.cons_append, List.nil_append]
    (try clear F); have F := true_and; repeat (first | refine w1 ?_ | refine w2 ?_ | refine w3 ?_ | refine w4 ?_ | refine wk2 ?_ | refine wk5 ?_ | refine w6 ?_ | refine w7 ?_ | refine w8 ?_ | refine w9 ?_ | refine wa ?_ | refine wb ?_ | refine wc ?_ | refine wd ?_ | refine ws ?_ | refine wlb ?_)
    (first | refine we (c := by exact (c1 _)) (k := ?_) | refine wf (c := by exact (c1 _)) (k := ?_))
    (try clear F); have F := true_and; repeat (first | refine w1 ?_ | refine w2 ?_ | refine w3 ?_ | refine w4 ?_ | refine wk2 ?_ | refine wk5 ?_ | refine w6 ?_ | refine w7 ?_ | refine w8 ?_ | refine w9 ?_ | refine wa ?_ | refine wb ?_ | refine wc ?_ | refine wd ?_ | refine ws ?_ | refine wlb ?_)
    (first | refine we (c := by exact (c2 _)) (k := ?_) | refine wf (c := by exact (c2 _)) (k := ?_))
    (try clear F); have F := true_and; repeat (first | refine w1 ?_ | refine w2 ?_ | refine w3 ?_ | refine w4 ?_ | refine wk2 ?_ | refine wk5 ?_ | refine w6 ?_ | refine w7 ?_ | refine w8 ?_ | refine w9 ?_ | refine wa ?_ | refine wb ?_ | refine wc ?_ | refine wd ?_ | refine ws ?_ | refine wlb ?_)
    first | exact endq (by simp only [go_sem, Int.reduceEq, Int.reduceLT, Int.reduceBEq, Int.reduceBNe, Int.reduceNe, Nat.reduceLeDiff, Nat.reduceAdd, Nat.reduceSub, Nat.reduceLT, Nat.reduceEqDiff, Nat.reduceBEq, Int.reduceLE, Int.reduceToNat]; rfl) (by rfl) (Sto.Sub.refl _) | exact endn (by simp only [go_sem, Int.reduceEq, Int.reduceLT, Int.reduceBEq, Int.reduceBNe, Int.reduceNe, Nat.reduceLeDiff, Nat.reduceAdd, Nat.reduceSub, Nat.reduceLT, Nat.reduceEqDiff, Nat.reduceBEq, Int.reduceLE, Int.reduceToNat]; rfl) (by rfl) (Sto.Sub.refl _)
  | false =>
    rw [hr] at c1
    refine acalls_of prg Tryz.func10 rfl (by kernel_rfl) (congrArg Array.toList Tryz.results10) Tryz.ntmps10 (fun B hB => ?_); simp only [List.length_cons, List.length_nil, Nat.reduceAdd, Nat.reduceSub, List.replicate_succ, List.replicate_zero, List.cons_append, List.nil_append]
    (try clear F); have F := true_and; repeat (first | refine w1 ?_ | refine w2 ?_ | refine w3 ?_ | refine w4 ?_ | refine wk2 ?_ | refine wk5 ?_ | refine w6 ?_ | refine w7 ?_ | refine w8 ?_ | refine w9 ?_ | refine wa ?_ | refine wb ?_ | refine wc ?_ | refine wd ?_ | refine ws ?_ | refine wlb ?_)
    (first | refine we (c := by exact (c1 _)) (k := ?_) | refine wf (c := by exact (c1 _)) (k := ?_))
    (try clear F); have F := true_and; repeat (first | refine w1 ?_ | refine w2 ?_ | refine w3 ?_ | refine w4 ?_ | refine wk2 ?_ | refine wk5 ?_ | refine w6 ?_ | refine w7 ?_ | refine w8 ?_ | refine w9 ?_ | refine wa ?_ | refine wb ?_ | refine wc ?_ | refine wd ?_ | refine ws ?_ | refine wlb ?_)
    first | exact endq (by simp only [go_sem, Int.reduceEq, Int.reduceLT, Int.reduceBEq, Int.reduceBNe, Int.reduceNe, Nat.reduceLeDiff, Nat.reduceAdd, Nat.reduceSub, Nat.reduceLT, Nat.reduceEqDiff, Nat.reduceBEq, Int.reduceLE, Int.reduceToNat]; rfl) (by rfl) (Sto.Sub.refl _) | exact endn (by simp only [go_sem, Int.reduceEq, Int.reduceLT, Int.reduceBEq, Int.reduceBNe, Int.reduceNe, Nat.reduceLeDiff, Nat.reduceAdd, Nat.reduceSub, Nat.reduceLT, Nat.reduceEqDiff, Nat.reduceBEq, Int.reduceLE, Int.reduceToNat]; rfl) (by rfl) (Sto.Sub.refl _)

end Go.Proofs.YtcaggadjkccbiaaGreat

/- Where two proofs part: ahead of the walk; the law's awake (values without addresses). -/
namespace Go.Proofs.YtcaggadjkccbiaaGreat
set_option linter.unusedVariables false
set_option linter.unusedSimpArgs false
open Go Go.RowKit

abbrev clD (c : Bs × Bs) : D := .agg [sD c.1, sD c.2]
theorem ans_beq (a b : Option Bs) : ((a.isSome == b.isSome) && (a.getD [] == b.getD [])) = decide (a = b) := by
  rw [Bool.eq_iff_iff]
  cases a <;> cases b <;> simp
/-- What Points answers where it does not walk. -/
def shortP (p wid : Int) (root : Dg) (key x y : Bs) : Option Int :=
  if errP p wid root key x = 2 then some 2
  else if errP p wid root key x = 0 ∧ errP p wid root key y = 0 then (if ansP p wid root key x = ansP p wid root key y then some 171 else none)
  else some 170
set_option maxHeartbeats 1000000 in set_option maxRecDepth 100000 in
theorem aPointsS (p wid : Int) (root : Dg) (key x y : Bs) (S : Sto) (hx : x.length ≤ 1048576) (hy : y.length ≤ 1048576) (e : Int) (h : shortP p wid root key x y = some e) :
    ACalls Tryz.prog 12 [frD p wid, .dg root, sD key, sD x, sD y] S (RetQ (.tup [clD ([], []), iD e]) S) := by
  have c1 := fun S => aProofRead p wid root key x S hx
  have c2 := fun S => aProofRead p wid root key y S hy
  unfold shortP at h
  refine acalls_of prg Tryz.func12 rfl (by kernel_rfl) (congrArg Array.toList Tryz.results12) Tryz.ntmps12 (fun B hB => ?_); simp only [List.length_cons, List.length_nil, Nat.reduceAdd, Nat.reduceSub, List.replicate_succ, List.replicate_zero, List.cons_append, List.nil_append]
  (try clear F); have F := true_and; repeat (first | refine w1 ?_ | refine w2 ?_ | refine w3 ?_ | refine w4 ?_ | refine wk2 ?_ | refine wk5 ?_ | refine w6 ?_ | refine w7 ?_ | refine w8 ?_ | refine w9 ?_ | refine wa ?_ | refine wb ?_ | refine wc ?_ | refine wd ?_ | refine ws ?_ | refine wlb ?_)
  refine wh ?_; rintro b10 ⟨k_b10, o_b10⟩; (try simp only [List.map_cons, List.mem_cons, not_or] at k_b10)
  (try clear F); have F := true_and; repeat (first | refine w1 ?_ | refine w2 ?_ | refine w3 ?_ | refine w4 ?_ | refine wk2 ?_ | refine wk5 ?_ | refine w6 ?_ | refine w7 ?_ | refine w8 ?_ | refine w9 ?_ | refine wa ?_ | refine wb ?_ | refine wc ?_ | refine wd ?_ | refine ws ?_ | refine wlb ?_)
  (first | refine we (c := by exact (c1 _)) (k := ?_) | refine wf (c := by exact (c1 _)) (k := ?_))
  (try clear F); have F := true_and; repeat (first | refine w1 ?_ | refine w2 ?_ | refine w3 ?_ | refine w4 ?_ | refine wk2 ?_ | refine wk5 ?_ | refine w6 ?_ | refine w7 ?_ | refine w8 ?_ | refine w9 ?_ | refine wa ?_ | refine wb ?_ | refine wc ?_ | refine wd ?_ | refine ws ?_ | refine wlb ?_)
  refine wh ?_; rintro b12 ⟨k_b12, o_b12⟩; (try simp only [List.map_cons, List.mem_cons, not_or] at k_b12)
  have n10 := nes k_b12.1
  by_cases h2 : errP p wid root key x = 2
  · rw [if_pos h2, Option.some.injEq] at h
    subst h
    have z0 : (errP p wid root key x == 2) = true := beq_iff_eq.2 h2
    (try clear F); have F := And.intro k_b12 (And.intro n10 (And.intro z0 true_and)); repeat (first | refine w1 ?_ | refine w2 ?_ | refine w3 ?_ | refine w4 ?_ | refine wk2 ?_ | refine wk5 ?_ | refine w6 ?_ | refine w7 ?_ | refine w8 ?_ | refine w9 ?_ | refine wa ?_ | refine wb ?_ | refine wc ?_ | refine wd ?_ | refine ws ?_ | refine wlb ?_)
    rw [← h2]
    refine endq (S' := S) (by simp only [go_sem, Int.reduceEq, Int.reduceLT, Int.reduceBEq, Int.reduceBNe, Int.reduceNe, Nat.reduceLeDiff, Nat.reduceAdd, Nat.reduceSub, Nat.reduceLT, Nat.reduceEqDiff, Nat.reduceBEq, Int.reduceLE, Int.reduceToNat, k_b12, n10]; rfl) (by rfl) (Sto.Sub.refl _).cons.cons
  have z0 : (errP p wid root key x == 2) = false := beq_eq_false_iff_ne.2 h2
  rw [if_neg h2] at h
  (try clear F); have F := And.intro k_b12 (And.intro n10 (And.intro z0 true_and)); repeat (first | refine w1 ?_ | refine w2 ?_ | refine w3 ?_ | refine w4 ?_ | refine wk2 ?_ | refine wk5 ?_ | refine w6 ?_ | refine w7 ?_ | refine w8 ?_ | refine w9 ?_ | refine wa ?_ | refine wb ?_ | refine wc ?_ | refine wd ?_ | refine ws ?_ | refine wlb ?_)
  (first | refine we (c := by exact (c2 _)) (k := ?_) | refine wf (c := by exact (c2 _)) (k := ?_))
  (try clear F); have F := true_and; repeat (first | refine w1 ?_ | refine w2 ?_ | refine w3 ?_ | refine w4 ?_ | refine wk2 ?_ | refine wk5 ?_ | refine w6 ?_ | refine w7 ?_ | refine w8 ?_ | refine w9 ?_ | refine wa ?_ | refine wb ?_ | refine wc ?_ | refine wd ?_ | refine ws ?_ | refine wlb ?_)
  refine wh ?_; rintro b14 ⟨k_b14, o_b14⟩; (try simp only [List.map_cons, List.mem_cons, not_or] at k_b14)
  have n1 := nes k_b14.1
  have n2 := nes k_b14.2.1
  by_cases h3 : errP p wid root key x = 0
  case neg =>
    have z1 : (errP p wid root key x != 0) = true := bne_iff_ne.2 h3
    rw [if_neg (fun q => h3 q.1), Option.some.injEq] at h
    subst h
    (try clear F); have F := And.intro k_b12 (And.intro n10 (And.intro k_b14 (And.intro n1 (And.intro n2 (And.intro z1 true_and))))); repeat (first | refine w1 ?_ | refine w2 ?_ | refine w3 ?_ | refine w4 ?_ | refine wk2 ?_ | refine wk5 ?_ | refine w6 ?_ | refine w7 ?_ | refine w8 ?_ | refine w9 ?_ | refine wa ?_ | refine wb ?_ | refine wc ?_ | refine wd ?_ | refine ws ?_ | refine wlb ?_)
    refine endq (S' := S) (by simp only [go_sem, Int.reduceEq, Int.reduceLT, Int.reduceBEq, Int.reduceBNe, Int.reduceNe, Nat.reduceLeDiff, Nat.reduceAdd, Nat.reduceSub, Nat.reduceLT, Nat.reduceEqDiff, Nat.reduceBEq, Int.reduceLE, Int.reduceToNat, k_b12, n10, k_b14, n1, n2]; rfl) (by rfl) (Sto.Sub.refl _).cons.cons.cons
  have z1 : (errP p wid root key x != 0) = false := bne_eq_false_iff_eq.2 h3
  by_cases h4 : errP p wid root key y = 0
  case neg =>
    have z2 : (errP p wid root key y != 0) = true := bne_iff_ne.2 h4
    rw [if_neg (fun q => h4 q.2), Option.some.injEq] at h
    subst h
    (try clear F); have F := And.intro k_b12 (And.intro n10 (And.intro k_b14 (And.intro n1 (And.intro n2 (And.intro z1 (And.intro z2 true_and)))))); repeat (first | refine w1 ?_ | refine w2 ?_ | refine w3 ?_ | refine w4 ?_ | refine wk2 ?_ | refine wk5 ?_ | refine w6 ?_ | refine w7 ?_ | refine w8 ?_ | refine w9 ?_ | refine wa ?_ | refine wb ?_ | refine wc ?_ | refine wd ?_ | refine ws ?_ | refine wlb ?_)
    refine endq (S' := S) (by simp only [go_sem, Int.reduceEq, Int.reduceLT, Int.reduceBEq, Int.reduceBNe, Int.reduceNe, Nat.reduceLeDiff, Nat.reduceAdd, Nat.reduceSub, Nat.reduceLT, Nat.reduceEqDiff, Nat.reduceBEq, Int.reduceLE, Int.reduceToNat, k_b12, n10, k_b14, n1, n2]; rfl) (by rfl) (Sto.Sub.refl _).cons.cons.cons
  have z2 : (errP p wid root key y != 0) = false := bne_eq_false_iff_eq.2 h4
  rw [if_pos ⟨h3, h4⟩] at h
  by_cases h5 : ansP p wid root key x = ansP p wid root key y
  case neg => rw [if_neg h5] at h; cases h
  rw [if_pos h5, Option.some.injEq] at h
  subst h
  have z3 := ans_beq (ansP p wid root key x) (ansP p wid root key y)
  rw [decide_eq_true h5] at z3
  (try clear F); have F := And.intro k_b12 (And.intro n10 (And.intro k_b14 (And.intro n1 (And.intro n2 (And.intro z1 (And.intro z2 (And.intro z3 true_and))))))); repeat (first | refine w1 ?_ | refine w2 ?_ | refine w3 ?_ | refine w4 ?_ | refine wk2 ?_ | refine wk5 ?_ | refine w6 ?_ | refine w7 ?_ | refine w8 ?_ | refine w9 ?_ | refine wa ?_ | refine wb ?_ | refine wc ?_ | refine wd ?_ | refine ws ?_ | refine wlb ?_)
  refine endq (S' := S) (by simp only [go_sem, Int.reduceEq, Int.reduceLT, Int.reduceBEq, Int.reduceBNe, Int.reduceNe, Nat.reduceLeDiff, Nat.reduceAdd, Nat.reduceSub, Nat.reduceLT, Nat.reduceEqDiff, Nat.reduceBEq, Int.reduceLE, Int.reduceToNat, k_b12, n10, k_b14, n1, n2]; rfl) (by rfl) (Sto.Sub.refl _).cons.cons.cons

def dgA : Dg := (digS 1 [108, 101, 97, 102] [[1, 0]]).1
set_option maxRecDepth 100000 in
theorem dgA_ok : (digS 1 [108, 101, 97, 102] [[1, 0]]).2 = 0 := by decide +kernel
theorem awake1 : shortP 1024 1 dgA [97] [1, 2, 1, 0] [1, 2, 1, 0] = some 171 := by decide +kernel
theorem awake2 : shortP 1024 1 dgA [97] [1, 2, 1, 0] [] = some 170 := by decide +kernel
theorem awake3 : holdsB 1024 1 [5] [11] = true := by decide +kernel

set_option maxHeartbeats 1000000 in set_option maxRecDepth 100000 in
theorem aAwake (S : Sto) : ACalls Tryz.prog 9 [] S (RetQ (bD true) S) := by
  have c1 := fun S t => aDigest1 1 [108, 101, 97, 102] [[1, 0]] t S (by decide) (by decide)
  rw [dgA_ok] at c1
  rw [show (digS 1 [108, 101, 97, 102] [[1, 0]]).1 = dgA from rfl] at c1
  have c2 := fun S => aPointsS 1024 1 dgA [97] [1, 2, 1, 0] [1, 2, 1, 0] S (by decide) (by decide) _ awake1
  have c3 := fun S => aPointsS 1024 1 dgA [97] [1, 2, 1, 0] [] S (by decide) (by decide) _ awake2
  have c4 := fun S => aHolds 1024 1 [5] [11] S (by decide) (by decide)
  rw [awake3] at c4
  generalize dgA = d at c1 c2 c3
  refine acalls_of prg Tryz.func9 rfl (by kernel_rfl) (congrArg Array.toList Tryz.results9) Tryz.ntmps9 (fun B hB => ?_); simp only [List.length_cons, List.length_nil, Nat.reduceAdd, Nat.reduceSub, List.replicate_succ, List.replicate_zero, List.cons_append, List.nil_append]
  (try clear F); have F := true_and; repeat (first | refine w1 ?_ | refine w2 ?_ | refine w3 ?_ | refine w4 ?_ | refine wk2 ?_ | refine wk5 ?_ | refine w6 ?_ | refine w7 ?_ | refine w8 ?_ | refine w9 ?_ | refine wa ?_ | refine wb ?_ | refine wc ?_ | refine wd ?_ | refine ws ?_ | refine wlb ?_)
  refine wh ?_; rintro b1 ⟨k_b1, o_b1⟩; (try simp only [List.map_cons, List.mem_cons, not_or] at k_b1)
  (try clear F); have F := true_and; repeat (first | refine w1 ?_ | refine w2 ?_ | refine w3 ?_ | refine w4 ?_ | refine wk2 ?_ | refine wk5 ?_ | refine w6 ?_ | refine w7 ?_ | refine w8 ?_ | refine w9 ?_ | refine wa ?_ | refine wb ?_ | refine wc ?_ | refine wd ?_ | refine ws ?_ | refine wlb ?_)
  (first | refine we (c := by exact (c1 _ _)) (k := ?_) | refine wf (c := by exact (c1 _ _)) (k := ?_))
  (try clear F); have F := true_and; repeat (first | refine w1 ?_ | refine w2 ?_ | refine w3 ?_ | refine w4 ?_ | refine wk2 ?_ | refine wk5 ?_ | refine w6 ?_ | refine w7 ?_ | refine w8 ?_ | refine w9 ?_ | refine wa ?_ | refine wb ?_ | refine wc ?_ | refine wd ?_ | refine ws ?_ | refine wlb ?_)
  refine wh ?_; rintro b2 ⟨k_b2, o_b2⟩; (try simp only [List.map_cons, List.mem_cons, not_or] at k_b2)
  have n1 := nes k_b2.1
  (try clear F); have F := And.intro k_b2 (And.intro n1 true_and); repeat (first | refine w1 ?_ | refine w2 ?_ | refine w3 ?_ | refine w4 ?_ | refine wk2 ?_ | refine wk5 ?_ | refine w6 ?_ | refine w7 ?_ | refine w8 ?_ | refine w9 ?_ | refine wa ?_ | refine wb ?_ | refine wc ?_ | refine wd ?_ | refine ws ?_ | refine wlb ?_)
  (first | refine we (c := by exact (c2 _)) (k := ?_) | refine wf (c := by exact (c2 _)) (k := ?_))
  (try clear F); have F := true_and; repeat (first | refine w1 ?_ | refine w2 ?_ | refine w3 ?_ | refine w4 ?_ | refine wk2 ?_ | refine wk5 ?_ | refine w6 ?_ | refine w7 ?_ | refine w8 ?_ | refine w9 ?_ | refine wa ?_ | refine wb ?_ | refine wc ?_ | refine wd ?_ | refine ws ?_ | refine wlb ?_)
  refine wh ?_; rintro b5 ⟨k_b5, o_b5⟩; (try simp only [List.map_cons, List.mem_cons, not_or] at k_b5)
  have n2 := nes k_b5.1
  have n3 := nes k_b5.2.1
  (try clear F); have F := And.intro k_b2 (And.intro n1 (And.intro k_b5 (And.intro n2 (And.intro n3 true_and)))); repeat (first | refine w1 ?_ | refine w2 ?_ | refine w3 ?_ | refine w4 ?_ | refine wk2 ?_ | refine wk5 ?_ | refine w6 ?_ | refine w7 ?_ | refine w8 ?_ | refine w9 ?_ | refine wa ?_ | refine wb ?_ | refine wc ?_ | refine wd ?_ | refine ws ?_ | refine wlb ?_)
  (first | refine we (c := by exact (c3 _)) (k := ?_) | refine wf (c := by exact (c3 _)) (k := ?_))
  (try clear F); have F := true_and; repeat (first | refine w1 ?_ | refine w2 ?_ | refine w3 ?_ | refine w4 ?_ | refine wk2 ?_ | refine wk5 ?_ | refine w6 ?_ | refine w7 ?_ | refine w8 ?_ | refine w9 ?_ | refine wa ?_ | refine wb ?_ | refine wc ?_ | refine wd ?_ | refine ws ?_ | refine wlb ?_)
  refine wh ?_; rintro b7 ⟨k_b7, o_b7⟩; (try simp only [List.map_cons, List.mem_cons, not_or] at k_b7)
  have n4 := nes k_b7.1
  have n5 := nes k_b7.2.1
  have n6 := nes k_b7.2.2.1
  (try clear F); have F := And.intro k_b2 (And.intro n1 (And.intro k_b5 (And.intro n2 (And.intro n3 (And.intro k_b7 (And.intro n4 (And.intro n5 (And.intro n6 true_and)))))))); repeat (first | refine w1 ?_ | refine w2 ?_ | refine w3 ?_ | refine w4 ?_ | refine wk2 ?_ | refine wk5 ?_ | refine w6 ?_ | refine w7 ?_ | refine w8 ?_ | refine w9 ?_ | refine wa ?_ | refine wb ?_ | refine wc ?_ | refine wd ?_ | refine ws ?_ | refine wlb ?_)
  (first | refine we (c := by exact (c4 _)) (k := ?_) | refine wf (c := by exact (c4 _)) (k := ?_))
  (try clear F); have F := true_and; repeat (first | refine w1 ?_ | refine w2 ?_ | refine w3 ?_ | refine w4 ?_ | refine wk2 ?_ | refine wk5 ?_ | refine w6 ?_ | refine w7 ?_ | refine w8 ?_ | refine w9 ?_ | refine wa ?_ | refine wb ?_ | refine wc ?_ | refine wd ?_ | refine ws ?_ | refine wlb ?_)
  refine endq (S' := S) (by simp only [go_sem, Int.reduceEq, Int.reduceLT, Int.reduceBEq, Int.reduceBNe, Int.reduceNe, Nat.reduceLeDiff, Nat.reduceAdd, Nat.reduceSub, Nat.reduceLT, Nat.reduceEqDiff, Nat.reduceBEq, Int.reduceLE, Int.reduceToNat]; rfl) (by rfl) (Sto.Sub.refl _).cons.cons.cons.cons
end Go.Proofs.YtcaggadjkccbiaaGreat

/- The document's Holds; the law ClashHolds (values without addresses). -/
namespace Go.Proofs.YtcaggadjkccbiaaGreat
set_option linter.unusedVariables false
set_option linter.unusedSimpArgs false
open Go Go.RowKit

set_option maxHeartbeats 1000000 in set_option maxRecDepth 100000 in
theorem aRClash (n : Int) (s t : Bs) (S : Sto) (hs : s.length ≤ 140737488355000) (ht : t.length ≤ 140737488355000) : ACalls Tryz.prog 26 [iD n, sD s, sD t] S (RetQ (bD (clashB n s t)) S) :=
  ACalls.liftq (callable Tryz.func26 rfl (by kernel_rfl)) fun w xs hS hx => by
    obtain ⟨x, ys, rfl, h1, h2⟩ := hx.cons
    obtain ⟨y, zs, rfl, h3, h4⟩ := h2.cons
    obtain ⟨z, us, rfl, h5, h6⟩ := h4.cons
    obtain rfl := h6.nil
    obtain rfl := h1.int
    obtain rfl := h3.str
    obtain rfl := h5.str
    exact (clash_any n s t w hs ht).mono fun e w' h => ⟨_, h.kp.1, h.kp.2, RVal.of_bool⟩
set_option maxHeartbeats 1000000 in set_option maxRecDepth 100000 in
theorem aRHolds (p wid : Int) (s t : Bs) (S : Sto) (hs : s.length ≤ 140737488355000) (ht : t.length ≤ 140737488355000) : ACalls Tryz.prog 11 [frD p wid, .agg [sD s, sD t]] S (RetQ (bD (holdsB p wid s t)) S) := by
  have c1 := fun S => aRight p wid S
  have c2 := fun S => aRClash wid s t S hs ht
  unfold holdsB
  cases hr : rightB p wid with
  | true =>
    rw [hr] at c1
    refine acalls_of prg Tryz.func11 rfl (by kernel_rfl) (congrArg Array.toList Tryz.results11) Tryz.ntmps11 (fun B hB => ?_); simp only [List.length_cons, List.length_nil, Nat.reduceAdd, Nat.reduceSub, List.replicate_succ, List.replicate_zero, List.cons_append, List.nil_append]
    (try clear F); have F := true_and; repeat (first | refine w1 ?_ | refine w2 ?_ | refine w3 ?_ | refine w4 ?_ | refine wk2 ?_ | refine wk5 ?_ | refine w6 ?_ | refine w7 ?_ | refine w8 ?_ | refine w9 ?_ | refine wa ?_ | refine wb ?_ | refine wc ?_ | refine wd ?_ | refine ws ?_ | refine wlb ?_)
    (first | refine we (c := by exact (c1 _)) (k := ?_) | refine wf (c := by exact (c1 _)) (k := ?_))
    (try clear F); have F := true_and; repeat (first | refine w1 ?_ | refine w2 ?_ | refine w3 ?_ | refine w4 ?_ | refine wk2 ?_ | refine wk5 ?_ | refine w6 ?_ | refine w7 ?_ | refine w8 ?_ | refine w9 ?_ | refine wa ?_ | refine wb ?_ | refine wc ?_ | refine wd ?_ | refine ws ?_ | refine wlb ?_)
    (first | refine we (c := by exact (c2 _)) (k := ?_) | refine wf (c := by exact (c2 _)) (k := ?_))
    (try clear F); have F := true_and; repeat (first | refine w1 ?_ | refine w2 ?_ | refine w3 ?_ | refine w4 ?_ | refine wk2 ?_ | refine wk5 ?_ | refine w6 ?_ | refine w7 ?_ | refine w8 ?_ | refine w9 ?_ | refine wa ?_ | refine wb ?_ | refine wc ?_ | refine wd ?_ | refine ws ?_ | refine wlb ?_)
    first | exact endq (by simp only [go_sem, Int.reduceEq, Int.reduceLT, Int.reduceBEq, Int.reduceBNe, Int.reduceNe, Nat.reduceLeDiff, Nat.reduceAdd, Nat.reduceSub, Nat.reduceLT, Nat.reduceEqDiff, Nat.reduceBEq, Int.reduceLE, Int.reduceToNat]; rfl) (by rfl) (Sto.Sub.refl _) | exact endn (by simp only [go_sem, Int.reduceEq, Int.reduceLT, Int.reduceBEq, Int.reduceBNe, Int.reduceNe, Nat.reduceLeDiff, Nat.reduceAdd, Nat.reduceSub, Nat.reduceLT, Nat.reduceEqDiff, Nat.reduceBEq, Int.reduceLE, Int.reduceToNat]; rfl) (by rfl) (Sto.Sub.refl _)
  | false =>
    rw [hr] at c1
    refine acalls_of prg Tryz.func11 rfl (by kernel_rfl) (congrArg Array.toList Tryz.results11) Tryz.ntmps11 (fun B hB => ?_); simp only [List.length_cons, List.length_nil, Nat.reduceAdd, Nat.reduceSub, List.replicate_succ, List.replicate_zero, List.cons_append, List.nil_append]
    (try clear F); have F := true_and; repeat (first | refine w1 ?_ | refine w2 ?_ | refine w3 ?_ | refine w4 ?_ | refine wk2 ?_ | refine wk5 ?_ | refine w6 ?_ | refine w7 ?_ | refine w8 ?_ | refine w9 ?_ | refine wa ?_ | refine wb ?_ | refine wc ?_ | refine wd ?_ | refine ws ?_ | refine wlb ?_)
    (first | refine we (c := by exact (c1 _)) (k := ?_) | refine wf (c := by exact (c1 _)) (k := ?_))
    (try clear F); have F := true_and; repeat (first | refine w1 ?_ | refine w2 ?_ | refine w3 ?_ | refine w4 ?_ | refine wk2 ?_ | refine wk5 ?_ | refine w6 ?_ | refine w7 ?_ | refine w8 ?_ | refine w9 ?_ | refine wa ?_ | refine wb ?_ | refine wc ?_ | refine wd ?_ | refine ws ?_ | refine wlb ?_)
    first | exact endq (by simp only [go_sem, Int.reduceEq, Int.reduceLT, Int.reduceBEq, Int.reduceBNe, Int.reduceNe, Nat.reduceLeDiff, Nat.reduceAdd, Nat.reduceSub, Nat.reduceLT, Nat.reduceEqDiff, Nat.reduceBEq, Int.reduceLE, Int.reduceToNat]; rfl) (by rfl) (Sto.Sub.refl _) | exact endn (by simp only [go_sem, Int.reduceEq, Int.reduceLT, Int.reduceBEq, Int.reduceBNe, Int.reduceNe, Nat.reduceLeDiff, Nat.reduceAdd, Nat.reduceSub, Nat.reduceLT, Nat.reduceEqDiff, Nat.reduceBEq, Int.reduceLE, Int.reduceToNat]; rfl) (by rfl) (Sto.Sub.refl _)
set_option maxHeartbeats 1000000 in set_option maxRecDepth 100000 in
theorem aClashHolds (p wid : Int) (s t : Bs) (S : Sto) (hs : s.length ≤ 140737488355000) (ht : t.length ≤ 140737488355000) : ACalls Tryz.prog 4 [frD p wid, sD s, sD t] S (RetQ (bD true) S) := by
  have c1 := fun S => aHolds p wid s t S hs ht
  have c2 := fun S => aRHolds p wid s t S hs ht
  have c3 := fun S => aAwake S
  have z0 : (holdsB p wid s t == holdsB p wid s t) = true := by simp
  refine acalls_of prg Tryz.func4 rfl (by kernel_rfl) (congrArg Array.toList Tryz.results4) Tryz.ntmps4 (fun B hB => ?_); simp only [List.length_cons, List.length_nil, Nat.reduceAdd, Nat.reduceSub, List.replicate_succ, List.replicate_zero, List.cons_append, List.nil_append]
  (try clear F); have F := true_and; repeat (first | refine w1 ?_ | refine w2 ?_ | refine w3 ?_ | refine w4 ?_ | refine wk2 ?_ | refine wk5 ?_ | refine w6 ?_ | refine w7 ?_ | refine w8 ?_ | refine w9 ?_ | refine wa ?_ | refine wb ?_ | refine wc ?_ | refine wd ?_ | refine ws ?_ | refine wlb ?_)
  refine wh ?_; rintro b7 ⟨k_b7, o_b7⟩; (try simp only [List.map_cons, List.mem_cons, not_or] at k_b7)
  (try clear F); have F := And.intro k_b7 true_and; repeat (first | refine w1 ?_ | refine w2 ?_ | refine w3 ?_ | refine w4 ?_ | refine wk2 ?_ | refine wk5 ?_ | refine w6 ?_ | refine w7 ?_ | refine w8 ?_ | refine w9 ?_ | refine wa ?_ | refine wb ?_ | refine wc ?_ | refine wd ?_ | refine ws ?_ | refine wlb ?_)
  (first | refine we (c := by exact (c1 _)) (k := ?_) | refine wf (c := by exact (c1 _)) (k := ?_))
  (try clear F); have F := And.intro k_b7 true_and; repeat (first | refine w1 ?_ | refine w2 ?_ | refine w3 ?_ | refine w4 ?_ | refine wk2 ?_ | refine wk5 ?_ | refine w6 ?_ | refine w7 ?_ | refine w8 ?_ | refine w9 ?_ | refine wa ?_ | refine wb ?_ | refine wc ?_ | refine wd ?_ | refine ws ?_ | refine wlb ?_)
  (first | refine we (c := by exact (c2 _)) (k := ?_) | refine wf (c := by exact (c2 _)) (k := ?_))
  (try clear F); have F := And.intro k_b7 (And.intro z0 true_and); repeat (first | refine w1 ?_ | refine w2 ?_ | refine w3 ?_ | refine w4 ?_ | refine wk2 ?_ | refine wk5 ?_ | refine w6 ?_ | refine w7 ?_ | refine w8 ?_ | refine w9 ?_ | refine wa ?_ | refine wb ?_ | refine wc ?_ | refine wd ?_ | refine ws ?_ | refine wlb ?_)
  (first | refine we (c := by exact (c3 _)) (k := ?_) | refine wf (c := by exact (c3 _)) (k := ?_))
  (try clear F); have F := And.intro k_b7 true_and; repeat (first | refine w1 ?_ | refine w2 ?_ | refine w3 ?_ | refine w4 ?_ | refine wk2 ?_ | refine wk5 ?_ | refine w6 ?_ | refine w7 ?_ | refine w8 ?_ | refine w9 ?_ | refine wa ?_ | refine wb ?_ | refine wc ?_ | refine wd ?_ | refine ws ?_ | refine wlb ?_)
  refine endq (S' := S) (by simp only [go_sem, Int.reduceEq, Int.reduceLT, Int.reduceBEq, Int.reduceBNe, Int.reduceNe, Nat.reduceLeDiff, Nat.reduceAdd, Nat.reduceSub, Nat.reduceLT, Nat.reduceEqDiff, Nat.reduceBEq, Int.reduceLE, Int.reduceToNat]; rfl) (by rfl) (Sto.Sub.refl _).cons

end Go.Proofs.YtcaggadjkccbiaaGreat
