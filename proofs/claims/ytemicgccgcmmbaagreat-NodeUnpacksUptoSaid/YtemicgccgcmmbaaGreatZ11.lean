/- What bytes would be the form of: the document's loose (values without addresses). -/
import Derived.Test.YtemicgccgcmmbaaGreatZ10
import Derived.Test.YtemicgccgcmmbaaGreatZ9
import Derived.Test.YtemicgccgcmmbaaGreatZ1
import Derived.Test.YtemicgccgcmmbaaGreatZ8
namespace Go.Proofs.YtemicgccgcmmbaaGreat
set_option linter.unusedVariables false
set_option linter.unusedSimpArgs false
open Go Go.RowKit

/-- What is read of the bytes, loosely. -/
def looseN (kind : Nat) (pg : Bool) (w L : Nat) : Nat → Nat → Option Bs → Nd → Nd
  | 0, _, _, n => n
  | _ + 1, _, none, n => n
  | f + 1, i, some l, n =>
    if kind = 1 then
      looseN kind pg w L f (i + 1) (gr (textP L) (gr (textP L) (some l))) { n with pairs := n.pairs ++ [(gv (textP L) [] (some l), gv (textP L) [] (gr (textP L) (some l)))] }
    else
      let o1 := if 0 < i then gr (textP L) (some l) else some l
      let ss := if 0 < i then n.seps ++ [gv (textP L) [] (some l)] else n.seps
      let pg' := if pg then gv (takeP 4) 0 o1 else 0
      let o2 := if pg then gr (takeP 4) o1 else o1
      looseN kind pg w L f (i + 1) (gr (digP w) o2) { n with seps := ss, kids := n.kids ++ [⟨pg', gv (digP w) Dg.zero o2⟩] }
def looseP (pg : Bool) (w : Nat) (s : Bs) : Nd :=
  looseN (gv (takeP 1) 0 (some s)) pg w s.length (gv (countP s.length) 0 (gr (takeP 1) (some s))) 0 (gr (countP s.length) (gr (takeP 1) (some s))) ⟨[], [], []⟩

theorem nes {a b : Nat} (h : ¬ a = b) : ¬ b = a := fun e => h e.symm
theorem RrTo.head {b : Nat} {t : TypeId} {d : D} {bk : List (Nat × TypeId × D)} {ow : List (Nat × Nat)} {s : Bs} {o : Option Bs} {S1 : Sto} (h : RrTo ⟨(b, t, d) :: bk, ow⟩ b s o S1) : ∃ p c, S1 = ⟨(b, t, rrD s p c) :: bk, ow⟩ ∧ RrIs s o p c := by
  obtain ⟨p, c, rfl, h2⟩ := h
  exact ⟨p, c, by simp only [setM_cons, if_true], h2⟩
theorem RrSt.head {b : Nat} {t : TypeId} {p c : Int} {bk : List (Nat × TypeId × D)} {ow : List (Nat × Nat)} {s : Bs} {o : Option Bs} (h : RrIs s o p c) : RrSt ⟨(b, t, rrD s p c) :: bk, ow⟩ b s o := ⟨t, p, c, by simp only [getM_cons, if_true], h⟩
theorem looseN_none (kind : Nat) (pg : Bool) (w L f i : Nat) (n : Nd) : looseN kind pg w L f i none n = n := by cases f <;> rfl
theorem looseN_pair {kind : Nat} (h : kind = 1) (pg : Bool) (w L f i : Nat) (l : Bs) (n : Nd) : looseN kind pg w L (f + 1) i (some l) n = looseN kind pg w L f (i + 1) (gr (textP L) (gr (textP L) (some l))) { n with pairs := n.pairs ++ [(gv (textP L) [] (some l), gv (textP L) [] (gr (textP L) (some l)))] } := by
  rw [looseN, if_pos h]
theorem looseN_kid {kind : Nat} (h : ¬ kind = 1) (pg : Bool) (w L f i : Nat) (l : Bs) (n : Nd) : looseN kind pg w L (f + 1) i (some l) n =
      (let o1 := if 0 < i then gr (textP L) (some l) else some l
      let ss := if 0 < i then n.seps ++ [gv (textP L) [] (some l)] else n.seps
      let pg' := if pg then gv (takeP 4) 0 o1 else 0
      let o2 := if pg then gr (takeP 4) o1 else o1
      looseN kind pg w L f (i + 1) (gr (digP w) o2) { n with seps := ss, kids := n.kids ++ [⟨pg', gv (digP w) Dg.zero o2⟩] }) := by
  rw [looseN, if_neg h]

/-- The three lists that grow. -/
structure NdGrw (ow0 ow : List (Nat × Nat)) (tp ts tk : Tag) (n : Nd) : Prop where
  p : Grw ow 56 2 tp (n.pairs.map prD)
  s : Grw ow 9 1 ts (n.seps.map sD)
  k : Grw ow 59 33 tk (n.kids.map kdD)
  ps : ∀ b, tagB tp = some b → tagB ts ≠ some b
  pk : ∀ b, tagB tp = some b → tagB tk ≠ some b
  sk : ∀ b, tagB ts = some b → tagB tk ≠ some b
  sub : List.Sublist ow0 ow
  out : ∀ b, tagB tp = some b ∨ tagB ts = some b ∨ tagB tk = some b → b ∉ ow0.map (·.1)
theorem NdGrw.nil (ow : List (Nat × Nat)) : NdGrw ow ow .nil .nil .nil ⟨[], [], []⟩ := by
  refine ⟨Grw.nil _ _ _, Grw.nil _ _ _, Grw.nil _ _ _, ?_, ?_, ?_, List.Sublist.refl _, ?_⟩ <;> simp [tagB]
theorem NdGrw.addP {ow0 ow : List (Nat × Nat)} {tp ts tk : Tag} {n : Nd} (h : NdGrw ow0 ow tp ts tk n) (x : Pr) {g : Nat} (hg : g ∉ (dropTok tp ow).map (·.1)) :
    NdGrw ow0 ((g, (n.pairs.map prD ++ [prD x]).length * 2) :: dropTok tp ow) (.own g 56 2) ts tk { n with pairs := n.pairs ++ [x] } := by
  have hps : ∀ b, tagB ts = some b → tagB tp ≠ some b := fun b hb hc => h.ps b hc hb
  have hpk : ∀ b, tagB tk = some b → tagB tp ≠ some b := fun b hb hc => h.pk b hc hb
  have f1 := h.s.fresh hps hg
  have f2 := h.k.fresh hpk hg
  refine ⟨?_, h.s.keep hps, h.k.keep hpk, ?_, ?_, h.sk, drop_keep h.sub (fun b hb => h.out b (.inl hb)), ?_⟩
  · simp only [List.map_append, List.map_cons, List.map_nil]; exact Grw.new
  · intro b hb hc; simp only [tagB, Option.some.injEq] at hb; exact f1 b hc hb
  · intro b hb hc; simp only [tagB, Option.some.injEq] at hb; exact f2 b hc hb
  · rintro b (hb | hb | hb)
    · simp only [tagB, Option.some.injEq] at hb; subst hb; exact fresh_keep h.sub (fun b hb => h.out b (.inl hb)) hg
    · exact h.out b (.inr (.inl hb))
    · exact h.out b (.inr (.inr hb))
theorem NdGrw.addS {ow0 ow : List (Nat × Nat)} {tp ts tk : Tag} {n : Nd} (h : NdGrw ow0 ow tp ts tk n) (x : Bs) {g : Nat} (hg : g ∉ (dropTok ts ow).map (·.1)) :
    NdGrw ow0 ((g, (n.seps.map sD ++ [sD x]).length * 1) :: dropTok ts ow) tp (.own g 9 1) tk { n with seps := n.seps ++ [x] } := by
  have hsk : ∀ b, tagB tk = some b → tagB ts ≠ some b := fun b hb hc => h.sk b hc hb
  have f1 := h.p.fresh h.ps hg
  have f2 := h.k.fresh hsk hg
  refine ⟨h.p.keep h.ps, ?_, h.k.keep hsk, ?_, h.pk, ?_, drop_keep h.sub (fun b hb => h.out b (.inr (.inl hb))), ?_⟩
  · simp only [List.map_append, List.map_cons, List.map_nil]; exact Grw.new
  · intro b hb hc; simp only [tagB, Option.some.injEq] at hc; exact f1 b hb hc
  · intro b hb hc; simp only [tagB, Option.some.injEq] at hb; exact f2 b hc hb
  · rintro b (hb | hb | hb)
    · exact h.out b (.inl hb)
    · simp only [tagB, Option.some.injEq] at hb; subst hb; exact fresh_keep h.sub (fun b hb => h.out b (.inr (.inl hb))) hg
    · exact h.out b (.inr (.inr hb))
theorem NdGrw.addK {ow0 ow : List (Nat × Nat)} {tp ts tk : Tag} {n : Nd} (h : NdGrw ow0 ow tp ts tk n) (x : Kd) {g : Nat} (hg : g ∉ (dropTok tk ow).map (·.1)) :
    NdGrw ow0 ((g, (n.kids.map kdD ++ [kdD x]).length * 33) :: dropTok tk ow) tp ts (.own g 59 33) { n with kids := n.kids ++ [x] } := by
  have f1 := h.p.fresh h.pk hg
  have f2 := h.s.fresh h.sk hg
  refine ⟨h.p.keep h.pk, h.s.keep h.sk, ?_, h.ps, ?_, ?_, drop_keep h.sub (fun b hb => h.out b (.inr (.inr hb))), ?_⟩
  · simp only [List.map_append, List.map_cons, List.map_nil]; exact Grw.new
  · intro b hb hc; simp only [tagB, Option.some.injEq] at hc; exact f1 b hb hc
  · intro b hb hc; simp only [tagB, Option.some.injEq] at hc; exact f2 b hb hc
  · rintro b (hb | hb | hb)
    · exact h.out b (.inl hb)
    · exact h.out b (.inr (.inl hb))
    · simp only [tagB, Option.some.injEq] at hb; subst hb; exact fresh_keep h.sub (fun b hb => h.out b (.inr (.inr hb))) hg

theorem prD_size (p : Pr) : (prD p).size = 2 := rfl
theorem kdD_size (k : Kd) : (kdD k).size = 33 := rfl
theorem rest_le (m : Nat) (s : Bs) (o : Option Bs) : gv (countP m) 0 o ≤ (o.getD []).length := by
  cases o with
  | none => simp [gv]
  | some l =>
    simp only [gv, Option.bind_some, Option.getD_some]
    unfold countP
    cases hf : freeP m l with
    | none => simp
    | some r =>
      obtain ⟨n, l'⟩ := r
      have := (freeP_rest hf).2.1
      simp only
      split <;> simp <;> omega

set_option maxHeartbeats 1000000 in set_option maxRecDepth 100000 in
theorem aLoose (p w : Int) (s : Bs) (pg : Bool) (S : Sto) (hs : s.length ≤ 3909374676453) :
    ACalls Tryz.prog 37 [frD p w, sD s, bD pg] S (fun e S' => ∃ d, e = .ret d ∧ d = ndA (looseP pg (widN w) s) ∧ S' = S) := by
  refine acalls_of prg Tryz.func37 rfl (by kernel_rfl) (congrArg Array.toList Tryz.results37) Tryz.ntmps37 (fun B hB => ?_); simp only [List.length_cons, List.length_nil, Nat.reduceAdd, Nat.reduceSub, List.replicate_succ, List.replicate_zero, List.cons_append, List.nil_append]
  repeat (first | ((first | apply AOps.goP prg | apply ALex.goP prg); (case run => simp only [go_sem, Int.reduceEq, Int.reduceLT, Int.reduceBEq, Int.reduceBNe, Int.reduceNe, Nat.reduceLeDiff, Nat.reduceAdd, Nat.reduceSub, Nat.reduceLT, Nat.reduceEqDiff, Nat.reduceBEq, Int.reduceLE, Int.reduceToNat]; rfl); (case mm => simp only [go_sem, Int.reduceEq, Int.reduceLT, Int.reduceBEq, Int.reduceBNe, Int.reduceNe, Nat.reduceLeDiff, Nat.reduceAdd, Nat.reduceSub, Nat.reduceLT, Nat.reduceEqDiff, Nat.reduceBEq, Int.reduceLE, Int.reduceToNat]; rfl); (case pr => rfl)) | (refine AW.seq ?_) | (refine AW.region ?_) | (refine AW.draw prg (by kernel_rfl) ?_) | (refine AOps.nil ?_; try dsimp only [AX.then, AX.inBlock]) | (refine ALex.nil ?_; try dsimp only [AX.then, AX.inBlock]) | (refine AW.condT (by rfl) ?_) | (refine AW.condF (by rfl) ?_) | (refine AW.skip ?_; try dsimp only [AX.then, AX.inBlock]) | (refine AW.ret ?_; try dsimp only [AX.then, AX.inBlock]) | (refine AW.block ?_) | (refine AW.exit ?_; simp only [AX.then, AX.inBlock, if_true, Nat.reduceEqDiff, if_false]))
  refine AOps.alloc prg (by rfl) (by rfl) (by rfl) (by rfl) ?_; rintro b6 ⟨k_b6, o_b6⟩; (try simp only [List.map_cons, List.mem_cons, not_or] at k_b6)
  repeat (first | ((first | apply AOps.goP prg | apply ALex.goP prg); (case run => simp only [go_sem, Int.reduceEq, Int.reduceLT, Int.reduceBEq, Int.reduceBNe, Int.reduceNe, Nat.reduceLeDiff, Nat.reduceAdd, Nat.reduceSub, Nat.reduceLT, Nat.reduceEqDiff, Nat.reduceBEq, Int.reduceLE, Int.reduceToNat]; rfl); (case mm => simp only [go_sem, Int.reduceEq, Int.reduceLT, Int.reduceBEq, Int.reduceBNe, Int.reduceNe, Nat.reduceLeDiff, Nat.reduceAdd, Nat.reduceSub, Nat.reduceLT, Nat.reduceEqDiff, Nat.reduceBEq, Int.reduceLE, Int.reduceToNat]; rfl); (case pr => rfl)) | (refine AW.seq ?_) | (refine AW.region ?_) | (refine AW.draw prg (by kernel_rfl) ?_) | (refine AOps.nil ?_; try dsimp only [AX.then, AX.inBlock]) | (refine ALex.nil ?_; try dsimp only [AX.then, AX.inBlock]) | (refine AW.condT (by rfl) ?_) | (refine AW.condF (by rfl) ?_) | (refine AW.skip ?_; try dsimp only [AX.then, AX.inBlock]) | (refine AW.ret ?_; try dsimp only [AX.then, AX.inBlock]) | (refine AW.block ?_) | (refine AW.exit ?_; simp only [AX.then, AX.inBlock, if_true, Nat.reduceEqDiff, if_false]))
  refine AOps.alloc prg (by rfl) (by rfl) (by rfl) (by rfl) ?_; rintro b7 ⟨k_b7, o_b7⟩; (try simp only [List.map_cons, List.mem_cons, not_or] at k_b7)
  repeat ((first | apply AOps.goP prg | apply ALex.goP prg); (case run => simp only [go_sem, Int.reduceEq, Int.reduceLT, Int.reduceBEq, Int.reduceBNe, Int.reduceNe, Nat.reduceLeDiff, Nat.reduceAdd, Nat.reduceSub, Nat.reduceLT, Nat.reduceEqDiff, Nat.reduceBEq, Int.reduceLE, Int.reduceToNat]; rfl); (case mm => simp only [go_sem, Int.reduceEq, Int.reduceLT, Int.reduceBEq, Int.reduceBNe, Int.reduceNe, Nat.reduceLeDiff, Nat.reduceAdd, Nat.reduceSub, Nat.reduceLT, Nat.reduceEqDiff, Nat.reduceBEq, Int.reduceLE, Int.reduceToNat]; rfl); (case pr => rfl))
  refine AOps.nil ?_; dsimp only [AX.then, AX.inBlock]
  refine AW.seq (AW.region ?_)
  apply AOps.goN prg 2; case run => (simp only [go_sem, Int.reduceEq, Int.reduceLT, Int.reduceBEq, Int.reduceBNe, Int.reduceNe, Nat.reduceLeDiff, Nat.reduceAdd, Nat.reduceSub, Nat.reduceLT, Nat.reduceEqDiff, Nat.reduceBEq, Int.reduceLE, Int.reduceToNat]; rfl)
  simp only [List.drop_succ_cons, List.drop_zero]
  refine AOps.boxm (by rfl) (by rfl) (by rfl) ?_; rintro b8 ⟨k_b8, o_b8⟩; (try simp only [List.map_cons, List.mem_cons, not_or] at k_b8)
  have hs2 : s.length ≤ 140737488351232 := by omega
  have hm87 := nes k_b8.1
  have hm86 := nes k_b8.2.1
  have hm76 := nes k_b7.1
  repeat (first | ((first | apply AOps.goP prg | apply ALex.goP prg); (case run => simp only [go_sem, Int.reduceEq, Int.reduceLT, Int.reduceBEq, Int.reduceBNe, Int.reduceNe, Nat.reduceLeDiff, Nat.reduceAdd, Nat.reduceSub, Nat.reduceLT, Nat.reduceEqDiff, Nat.reduceBEq, Int.reduceLE, Int.reduceToNat]; rfl); (case mm => simp only [go_sem, Int.reduceEq, Int.reduceLT, Int.reduceBEq, Int.reduceBNe, Int.reduceNe, Nat.reduceLeDiff, Nat.reduceAdd, Nat.reduceSub, Nat.reduceLT, Nat.reduceEqDiff, Nat.reduceBEq, Int.reduceLE, Int.reduceToNat]; rfl); (case pr => rfl)) | (refine AW.seq ?_) | (refine AW.region ?_) | (refine AW.draw prg (by kernel_rfl) ?_) | (refine AOps.nil ?_; try dsimp only [AX.then, AX.inBlock]) | (refine ALex.nil ?_; try dsimp only [AX.then, AX.inBlock]) | (refine AW.condT (by rfl) ?_) | (refine AW.condF (by rfl) ?_) | (refine AW.skip ?_; try dsimp only [AX.then, AX.inBlock]) | (refine AW.ret ?_; try dsimp only [AX.then, AX.inBlock]) | (refine AW.block ?_) | (refine AW.exit ?_; simp only [AX.then, AX.inBlock, if_true, Nat.reduceEqDiff, if_false]))
  refine AOps.callx (by rfl) (by rfl) (by exact (aTake b8 1 s (some s) _ (RrSt.head (p := 0) (c := 0) ⟨rfl, 0, rfl, by omega, rfl⟩) hs2 (by omega) (by omega))) ?_
  rintro d S1 ⟨rfl, hS1⟩
  obtain ⟨p1, c1, rfl, hr1⟩ := hS1.head
  obtain ⟨kind, hkind⟩ : ∃ k, gv (takeP 1) 0 (some s) = k := ⟨_, rfl⟩
  obtain ⟨o1, ho1⟩ : ∃ o, gr (takeP 1) (some s) = o := ⟨_, rfl⟩
  rw [hkind]
  rw [ho1] at hr1
  repeat (first | ((first | apply AOps.goP prg | apply ALex.goP prg); (case run => simp only [go_sem, Int.reduceEq, Int.reduceLT, Int.reduceBEq, Int.reduceBNe, Int.reduceNe, Nat.reduceLeDiff, Nat.reduceAdd, Nat.reduceSub, Nat.reduceLT, Nat.reduceEqDiff, Nat.reduceBEq, Int.reduceLE, Int.reduceToNat]; rfl); (case mm => simp only [go_sem, Int.reduceEq, Int.reduceLT, Int.reduceBEq, Int.reduceBNe, Int.reduceNe, Nat.reduceLeDiff, Nat.reduceAdd, Nat.reduceSub, Nat.reduceLT, Nat.reduceEqDiff, Nat.reduceBEq, Int.reduceLE, Int.reduceToNat]; rfl); (case pr => rfl)) | (refine AW.seq ?_) | (refine AW.region ?_) | (refine AW.draw prg (by kernel_rfl) ?_) | (refine AOps.nil ?_; try dsimp only [AX.then, AX.inBlock]) | (refine ALex.nil ?_; try dsimp only [AX.then, AX.inBlock]) | (refine AW.condT (by rfl) ?_) | (refine AW.condF (by rfl) ?_) | (refine AW.skip ?_; try dsimp only [AX.then, AX.inBlock]) | (refine AW.ret ?_; try dsimp only [AX.then, AX.inBlock]) | (refine AW.block ?_) | (refine AW.exit ?_; simp only [AX.then, AX.inBlock, if_true, Nat.reduceEqDiff, if_false]))
  refine AOps.callx (by rfl) (by rfl) (by exact (aCount b8 s.length s o1 _ (RrSt.head hr1) hs2 (by omega))) ?_
  rintro d S1 ⟨rfl, hS1⟩
  obtain ⟨p2, c2, rfl, hr2⟩ := hS1.head
  obtain ⟨many, hmany⟩ : ∃ k, gv (countP s.length) 0 o1 = k := ⟨_, rfl⟩
  obtain ⟨o2, ho2⟩ : ∃ o, gr (countP s.length) o1 = o := ⟨_, rfl⟩
  have hml : many ≤ s.length := by
    have h1 := rest_le s.length s o1
    rw [hmany] at h1
    cases o1 with
    | none => simp at h1; omega
    | some l => obtain ⟨_, k, _, hk, _⟩ := hr1; simp at h1; omega
  rw [hmany]
  rw [ho2] at hr2
  have hfin : looseP pg (widN w) s = looseN kind pg (widN w) s.length many 0 o2 ⟨[], [], []⟩ := by unfold looseP; rw [hkind, ho1, hmany, ho2]
  rw [hfin]
  repeat (first | ((first | apply AOps.goP prg | apply ALex.goP prg); (case run => simp only [go_sem, Int.reduceEq, Int.reduceLT, Int.reduceBEq, Int.reduceBNe, Int.reduceNe, Nat.reduceLeDiff, Nat.reduceAdd, Nat.reduceSub, Nat.reduceLT, Nat.reduceEqDiff, Nat.reduceBEq, Int.reduceLE, Int.reduceToNat]; rfl); (case mm => simp only [go_sem, Int.reduceEq, Int.reduceLT, Int.reduceBEq, Int.reduceBNe, Int.reduceNe, Nat.reduceLeDiff, Nat.reduceAdd, Nat.reduceSub, Nat.reduceLT, Nat.reduceEqDiff, Nat.reduceBEq, Int.reduceLE, Int.reduceToNat]; rfl); (case pr => rfl)) | (refine AW.seq ?_) | (refine AW.region ?_) | (refine AW.draw prg (by kernel_rfl) ?_) | (refine AOps.nil ?_; try dsimp only [AX.then, AX.inBlock]) | (refine ALex.nil ?_; try dsimp only [AX.then, AX.inBlock]) | (refine AW.condT (by rfl) ?_) | (refine AW.condF (by rfl) ?_) | (refine AW.skip ?_; try dsimp only [AX.then, AX.inBlock]) | (refine AW.ret ?_; try dsimp only [AX.then, AX.inBlock]) | (refine AW.block ?_) | (refine AW.exit ?_; simp only [AX.then, AX.inBlock, if_true, Nat.reduceEqDiff, if_false]))
  refine AW.loopS 16 [11, 12, 13, 14, 15] (fun xs S' => ∃ (i : Nat) (o : Option Bs) (p c : Int) (tp ts tk : Tag) (n : Nd) (ow : List (Nat × Nat)), xs = [iD i, .any, .any, .any, .any] ∧ S' = ⟨(b8, 99, rrD s p c) :: (b7, 28, ndT tp ts tk n) :: (b6, 28, ndT .nil .nil .nil ⟨[], [], []⟩) :: S.bk, ow⟩ ∧ RrIs s o p c ∧ i ≤ many ∧ looseN kind pg (widN w) s.length (many - i) i o n = looseN kind pg (widN w) s.length many 0 o2 ⟨[], [], []⟩ ∧ NdGrw S.ow ow tp ts tk n ∧ n.pairs.length ≤ i ∧ n.seps.length ≤ i ∧ n.kids.length ≤ i) (fun xs _ => many - nI (xs.getD 0 .any)) [iD 0, .any, .any, .any, .any] _ ?_ (Sto.Sub.refl _) ⟨0, o2, p2, c2, .nil, .nil, .nil, ⟨[], [], []⟩, S.ow, rfl, rfl, hr2, by omega, rfl, NdGrw.nil _, by simp, by simp, by simp⟩ ?_
  · simp only [go_sem, Int.reduceEq, Int.reduceLT, Int.reduceBEq, Int.reduceBNe, Int.reduceNe, Nat.reduceLeDiff, Nat.reduceAdd, Nat.reduceSub, Nat.reduceLT, Nat.reduceEqDiff, Nat.reduceBEq, Int.reduceLE, Int.reduceToNat, weakA, or_true, true_or, and_self]
  rintro xs S' ⟨i, o, pp, cc, tp, ts, tk, n, ow, rfl, rfl, hr, hi, hl, hg, hnp, hns, hnk⟩
  apply AW.frame; case fr => (simp only [go_sem, Int.reduceEq, Int.reduceLT, Int.reduceBEq, Int.reduceBNe, Int.reduceNe, Nat.reduceLeDiff, Nat.reduceAdd, Nat.reduceSub, Nat.reduceLT, Nat.reduceEqDiff, Nat.reduceBEq, Int.reduceLE, Int.reduceToNat]; rfl)
  clear hS1
  by_cases hlt : i < many
  · have d1 : decide ((i : Int) < many) = true := decide_eq_true (by omega)
    have f5 : IntKind.i64.wrap ((i : Int) + 1) = ((i + 1 : Nat) : Int) := IntWalk.i64_in _ (by omega)
    have hmi : many - i = (many - (i + 1)) + 1 := by omega
    cases o with
    | none =>
      rw [looseN_none] at hl
      have hc : (cc == 0) = false := by rw [beq_eq_false_iff_ne]; exact hr.1
      rw [← hl]
      repeat (first | ((first | apply AOps.goP prg | apply ALex.goP prg); (case run => simp only [go_sem, Int.reduceEq, Int.reduceLT, Int.reduceBEq, Int.reduceBNe, Int.reduceNe, Nat.reduceLeDiff, Nat.reduceAdd, Nat.reduceSub, Nat.reduceLT, Nat.reduceEqDiff, Nat.reduceBEq, Int.reduceLE, Int.reduceToNat, d1, hm87, hm86, hm76, k_b8, k_b7, hc]; rfl); (case mm => simp only [go_sem, Int.reduceEq, Int.reduceLT, Int.reduceBEq, Int.reduceBNe, Int.reduceNe, Nat.reduceLeDiff, Nat.reduceAdd, Nat.reduceSub, Nat.reduceLT, Nat.reduceEqDiff, Nat.reduceBEq, Int.reduceLE, Int.reduceToNat]; rfl); (case pr => rfl)) | (refine AW.seq ?_) | (refine AW.region ?_) | (refine AW.draw prg (by kernel_rfl) ?_) | (refine AOps.nil ?_; try dsimp only [AX.then, AX.inBlock]) | (refine ALex.nil ?_; try dsimp only [AX.then, AX.inBlock]) | (refine AW.condT (by rfl) ?_) | (refine AW.condF (by rfl) ?_) | (refine AW.skip ?_; try dsimp only [AX.then, AX.inBlock]) | (refine AW.ret ?_; try dsimp only [AX.then, AX.inBlock]) | (refine AW.block ?_) | (refine AW.exit ?_; simp only [AX.then, AX.inBlock, if_true, Nat.reduceEqDiff, if_false]))
      refine endu (by simp only [go_sem, Int.reduceEq, Int.reduceLT, Int.reduceBEq, Int.reduceBNe, Int.reduceNe, Nat.reduceLeDiff, Nat.reduceAdd, Nat.reduceSub, Nat.reduceLT, Nat.reduceEqDiff, Nat.reduceBEq, Int.reduceLE, Int.reduceToNat, hm87, hm86, hm76, k_b8, k_b7]; rfl) (by rfl) ?_ ⟨rfl, rfl⟩
      exact ⟨((List.Sublist.refl _).cons _ |>.cons _ |>.cons _), hg.sub⟩
    | some l =>
      obtain ⟨rfl, hr'⟩ := hr
      have hr : RrIs s (some l) pp 0 := ⟨rfl, hr'⟩
      rw [hmi] at hl
      have hc : ((0 : Int) == 0) = true := rfl
      by_cases hk1 : kind = 1
      · have d2 : ((kind : Int) == 1) = true := by rw [beq_iff_eq]; omega
        rw [looseN_pair hk1] at hl
        repeat (first | ((first | apply AOps.goP prg | apply ALex.goP prg); (case run => simp only [go_sem, Int.reduceEq, Int.reduceLT, Int.reduceBEq, Int.reduceBNe, Int.reduceNe, Nat.reduceLeDiff, Nat.reduceAdd, Nat.reduceSub, Nat.reduceLT, Nat.reduceEqDiff, Nat.reduceBEq, Int.reduceLE, Int.reduceToNat, d1, hm87, hm86, hm76, k_b8, k_b7, d2]; rfl); (case mm => simp only [go_sem, Int.reduceEq, Int.reduceLT, Int.reduceBEq, Int.reduceBNe, Int.reduceNe, Nat.reduceLeDiff, Nat.reduceAdd, Nat.reduceSub, Nat.reduceLT, Nat.reduceEqDiff, Nat.reduceBEq, Int.reduceLE, Int.reduceToNat]; rfl); (case pr => rfl)) | (refine AW.seq ?_) | (refine AW.region ?_) | (refine AW.draw prg (by kernel_rfl) ?_) | (refine AOps.nil ?_; try dsimp only [AX.then, AX.inBlock]) | (refine ALex.nil ?_; try dsimp only [AX.then, AX.inBlock]) | (refine AW.condT (by rfl) ?_) | (refine AW.condF (by rfl) ?_) | (refine AW.skip ?_; try dsimp only [AX.then, AX.inBlock]) | (refine AW.ret ?_; try dsimp only [AX.then, AX.inBlock]) | (refine AW.block ?_) | (refine AW.exit ?_; simp only [AX.then, AX.inBlock, if_true, Nat.reduceEqDiff, if_false]))
        refine AOps.callx (by rfl) (by rfl) (by exact (aText b8 s.length s (some l) _ (RrSt.head hr) hs2 (by omega))) ?_
        rintro d S1 ⟨rfl, hS1⟩
        obtain ⟨p3, c3, rfl, hr3⟩ := hS1.head
        obtain ⟨key, hkey⟩ : ∃ k, gv (textP s.length) [] (some l) = k := ⟨_, rfl⟩
        obtain ⟨o3, ho3⟩ : ∃ k, gr (textP s.length) (some l) = k := ⟨_, rfl⟩
        rw [ho3] at hr3 hl
        rw [hkey] at hl ⊢
        clear hS1
        repeat (first | ((first | apply AOps.goP prg | apply ALex.goP prg); (case run => simp only [go_sem, Int.reduceEq, Int.reduceLT, Int.reduceBEq, Int.reduceBNe, Int.reduceNe, Nat.reduceLeDiff, Nat.reduceAdd, Nat.reduceSub, Nat.reduceLT, Nat.reduceEqDiff, Nat.reduceBEq, Int.reduceLE, Int.reduceToNat]; rfl); (case mm => simp only [go_sem, Int.reduceEq, Int.reduceLT, Int.reduceBEq, Int.reduceBNe, Int.reduceNe, Nat.reduceLeDiff, Nat.reduceAdd, Nat.reduceSub, Nat.reduceLT, Nat.reduceEqDiff, Nat.reduceBEq, Int.reduceLE, Int.reduceToNat]; rfl); (case pr => rfl)) | (refine AW.seq ?_) | (refine AW.region ?_) | (refine AW.draw prg (by kernel_rfl) ?_) | (refine AOps.nil ?_; try dsimp only [AX.then, AX.inBlock]) | (refine ALex.nil ?_; try dsimp only [AX.then, AX.inBlock]) | (refine AW.condT (by rfl) ?_) | (refine AW.condF (by rfl) ?_) | (refine AW.skip ?_; try dsimp only [AX.then, AX.inBlock]) | (refine AW.ret ?_; try dsimp only [AX.then, AX.inBlock]) | (refine AW.block ?_) | (refine AW.exit ?_; simp only [AX.then, AX.inBlock, if_true, Nat.reduceEqDiff, if_false]))
        refine AOps.callx (by rfl) (by rfl) (by exact (aText b8 s.length s o3 _ (RrSt.head hr3) hs2 (by omega))) ?_
        rintro d S1 ⟨rfl, hS1⟩
        obtain ⟨p4, c4, rfl, hr4⟩ := hS1.head
        obtain ⟨val, hval⟩ : ∃ k, gv (textP s.length) [] o3 = k := ⟨_, rfl⟩
        obtain ⟨o4, ho4⟩ : ∃ k, gr (textP s.length) o3 = k := ⟨_, rfl⟩
        rw [ho4] at hr4 hl
        rw [hval] at hl ⊢
        clear hS1
        repeat (first | ((first | apply AOps.goP prg | apply ALex.goP prg); (case run => simp only [go_sem, Int.reduceEq, Int.reduceLT, Int.reduceBEq, Int.reduceBNe, Int.reduceNe, Nat.reduceLeDiff, Nat.reduceAdd, Nat.reduceSub, Nat.reduceLT, Nat.reduceEqDiff, Nat.reduceBEq, Int.reduceLE, Int.reduceToNat, hm87, hm86, hm76, k_b8, k_b7]; rfl); (case mm => simp only [go_sem, Int.reduceEq, Int.reduceLT, Int.reduceBEq, Int.reduceBNe, Int.reduceNe, Nat.reduceLeDiff, Nat.reduceAdd, Nat.reduceSub, Nat.reduceLT, Nat.reduceEqDiff, Nat.reduceBEq, Int.reduceLE, Int.reduceToNat]; rfl); (case pr => rfl)) | (refine AW.seq ?_) | (refine AW.region ?_) | (refine AW.draw prg (by kernel_rfl) ?_) | (refine AOps.nil ?_; try dsimp only [AX.then, AX.inBlock]) | (refine ALex.nil ?_; try dsimp only [AX.then, AX.inBlock]) | (refine AW.condT (by rfl) ?_) | (refine AW.condF (by rfl) ?_) | (refine AW.skip ?_; try dsimp only [AX.then, AX.inBlock]) | (refine AW.ret ?_; try dsimp only [AX.then, AX.inBlock]) | (refine AW.block ?_) | (refine AW.exit ?_; simp only [AX.then, AX.inBlock, if_true, Nat.reduceEqDiff, if_false]))
        refine AOps.append prg (t := 24) (e := 56) (z := 2) (by_ := 32) (tg := tp) (es := n.pairs.map prD) (ns := [prD (key, val)]) (by rfl) (by rfl) (by rfl) (by rfl) (by rfl) (by rfl) (by rfl) (by rfl) (by omega) (by kernel_rfl) (by omega) (fun d hd => by
          simp only [List.mem_append, List.mem_map, List.mem_singleton] at hd
          rcases hd with ⟨x, _, rfl⟩ | rfl <;> rfl) hg.p.may (by simp) (by rw [List.length_map]; simp only [List.length_singleton]; omega) ?_
        intro g _ hgo
        have hg2 := hg.addP (key, val) hgo
        repeat (first | ((first | apply AOps.goP prg | apply ALex.goP prg); (case run => simp only [go_sem, Int.reduceEq, Int.reduceLT, Int.reduceBEq, Int.reduceBNe, Int.reduceNe, Nat.reduceLeDiff, Nat.reduceAdd, Nat.reduceSub, Nat.reduceLT, Nat.reduceEqDiff, Nat.reduceBEq, Int.reduceLE, Int.reduceToNat, hm87, hm86, hm76, k_b8, k_b7, f5]; rfl); (case mm => simp only [go_sem, Int.reduceEq, Int.reduceLT, Int.reduceBEq, Int.reduceBNe, Int.reduceNe, Nat.reduceLeDiff, Nat.reduceAdd, Nat.reduceSub, Nat.reduceLT, Nat.reduceEqDiff, Nat.reduceBEq, Int.reduceLE, Int.reduceToNat]; rfl); (case pr => rfl)) | (refine AW.seq ?_) | (refine AW.region ?_) | (refine AW.draw prg (by kernel_rfl) ?_) | (refine AOps.nil ?_; try dsimp only [AX.then, AX.inBlock]) | (refine ALex.nil ?_; try dsimp only [AX.then, AX.inBlock]) | (refine AW.condT (by rfl) ?_) | (refine AW.condF (by rfl) ?_) | (refine AW.skip ?_; try dsimp only [AX.then, AX.inBlock]) | (refine AW.ret ?_; try dsimp only [AX.then, AX.inBlock]) | (refine AW.block ?_) | (refine AW.exit ?_; simp only [AX.then, AX.inBlock, if_true, Nat.reduceEqDiff, if_false]))
        refine ⟨[iD (i + 1 : Nat), .any, .any, .any, .any], _, ?_, Sto.Sub.refl _, ⟨i + 1, o4, p4, c4, _, _, _, _, _, rfl, ?_, hr4, by omega, hl, hg2, by simp; omega, by simp; omega, by simp; omega⟩, ?_⟩
        · simp only [go_sem, Int.reduceEq, Int.reduceLT, Int.reduceBEq, Int.reduceBNe, Int.reduceNe, Nat.reduceLeDiff, Nat.reduceAdd, Nat.reduceSub, Nat.reduceLT, Nat.reduceEqDiff, Nat.reduceBEq, Int.reduceLE, Int.reduceToNat, weakA, or_true, true_or, and_self]
        · simp only [go_sem, Int.reduceEq, Int.reduceLT, Int.reduceBEq, Int.reduceBNe, Int.reduceNe, Nat.reduceLeDiff, Nat.reduceAdd, Nat.reduceSub, Nat.reduceLT, Nat.reduceEqDiff, Nat.reduceBEq, Int.reduceLE, Int.reduceToNat, List.map_append]
        · simp only [go_sem, Int.reduceEq, Int.reduceLT, Int.reduceBEq, Int.reduceBNe, Int.reduceNe, Nat.reduceLeDiff, Nat.reduceAdd, Nat.reduceSub, Nat.reduceLT, Nat.reduceEqDiff, Nat.reduceBEq, Int.reduceLE, Int.reduceToNat, Int.toNat_natCast]; omega
      · have d2 : ((kind : Int) == 1) = false := by rw [beq_eq_false_iff_ne]; omega
        rw [looseN_kid hk1] at hl
        repeat (first | ((first | apply AOps.goP prg | apply ALex.goP prg); (case run => simp only [go_sem, Int.reduceEq, Int.reduceLT, Int.reduceBEq, Int.reduceBNe, Int.reduceNe, Nat.reduceLeDiff, Nat.reduceAdd, Nat.reduceSub, Nat.reduceLT, Nat.reduceEqDiff, Nat.reduceBEq, Int.reduceLE, Int.reduceToNat, d1, hm87, hm86, hm76, k_b8, k_b7, d2]; rfl); (case mm => simp only [go_sem, Int.reduceEq, Int.reduceLT, Int.reduceBEq, Int.reduceBNe, Int.reduceNe, Nat.reduceLeDiff, Nat.reduceAdd, Nat.reduceSub, Nat.reduceLT, Nat.reduceEqDiff, Nat.reduceBEq, Int.reduceLE, Int.reduceToNat]; rfl); (case pr => rfl)) | (refine AW.seq ?_) | (refine AW.region ?_) | (refine AW.draw prg (by kernel_rfl) ?_) | (refine AOps.nil ?_; try dsimp only [AX.then, AX.inBlock]) | (refine ALex.nil ?_; try dsimp only [AX.then, AX.inBlock]) | (refine AW.condT (by rfl) ?_) | (refine AW.condF (by rfl) ?_) | (refine AW.skip ?_; try dsimp only [AX.then, AX.inBlock]) | (refine AW.ret ?_; try dsimp only [AX.then, AX.inBlock]) | (refine AW.block ?_) | (refine AW.exit ?_; simp only [AX.then, AX.inBlock, if_true, Nat.reduceEqDiff, if_false]))
        refine AW.cutK 16 [14] (fun xs S' => ∃ (p3 c3 : Int) (ts3 : Tag) (ow3 : List (Nat × Nat)) (n3 : Nd), xs = [.any] ∧ S' = ⟨(b8, 99, rrD s p3 c3) :: (b7, 28, ndT tp ts3 tk n3) :: (b6, 28, ndT .nil .nil .nil ⟨[], [], []⟩) :: S.bk, ow3⟩ ∧ RrIs s (if 0 < i then gr (textP s.length) (some l) else some l) p3 c3 ∧ n3 = { n with seps := if 0 < i then n.seps ++ [gv (textP s.length) [] (some l)] else n.seps } ∧ NdGrw S.ow ow3 tp ts3 tk n3) ?_ ?_
        · by_cases hi0 : 0 < i
          · have d3 : decide ((i : Int) > 0) = true := decide_eq_true (by omega)
            rw [d3]
            rw [if_pos hi0, if_pos hi0]
            repeat (first | ((first | apply AOps.goP prg | apply ALex.goP prg); (case run => simp only [go_sem, Int.reduceEq, Int.reduceLT, Int.reduceBEq, Int.reduceBNe, Int.reduceNe, Nat.reduceLeDiff, Nat.reduceAdd, Nat.reduceSub, Nat.reduceLT, Nat.reduceEqDiff, Nat.reduceBEq, Int.reduceLE, Int.reduceToNat]; rfl); (case mm => simp only [go_sem, Int.reduceEq, Int.reduceLT, Int.reduceBEq, Int.reduceBNe, Int.reduceNe, Nat.reduceLeDiff, Nat.reduceAdd, Nat.reduceSub, Nat.reduceLT, Nat.reduceEqDiff, Nat.reduceBEq, Int.reduceLE, Int.reduceToNat]; rfl); (case pr => rfl)) | (refine AW.seq ?_) | (refine AW.region ?_) | (refine AW.draw prg (by kernel_rfl) ?_) | (refine AOps.nil ?_; try dsimp only [AX.then, AX.inBlock]) | (refine ALex.nil ?_; try dsimp only [AX.then, AX.inBlock]) | (refine AW.condT (by rfl) ?_) | (refine AW.condF (by rfl) ?_) | (refine AW.skip ?_; try dsimp only [AX.then, AX.inBlock]) | (refine AW.ret ?_; try dsimp only [AX.then, AX.inBlock]) | (refine AW.block ?_) | (refine AW.exit ?_; simp only [AX.then, AX.inBlock, if_true, Nat.reduceEqDiff, if_false]))
            refine AOps.callx (by rfl) (by rfl) (by exact (aText b8 s.length s (some l) _ (RrSt.head hr) hs2 (by omega))) ?_
            rintro d S1 ⟨rfl, hS1⟩
            obtain ⟨p3, c3, rfl, hr3⟩ := hS1.head
            obtain ⟨key, hkey⟩ : ∃ k, gv (textP s.length) [] (some l) = k := ⟨_, rfl⟩
            rw [hkey]
            clear hS1
            repeat (first | ((first | apply AOps.goP prg | apply ALex.goP prg); (case run => simp only [go_sem, Int.reduceEq, Int.reduceLT, Int.reduceBEq, Int.reduceBNe, Int.reduceNe, Nat.reduceLeDiff, Nat.reduceAdd, Nat.reduceSub, Nat.reduceLT, Nat.reduceEqDiff, Nat.reduceBEq, Int.reduceLE, Int.reduceToNat, hm87, hm86, hm76, k_b8, k_b7]; rfl); (case mm => simp only [go_sem, Int.reduceEq, Int.reduceLT, Int.reduceBEq, Int.reduceBNe, Int.reduceNe, Nat.reduceLeDiff, Nat.reduceAdd, Nat.reduceSub, Nat.reduceLT, Nat.reduceEqDiff, Nat.reduceBEq, Int.reduceLE, Int.reduceToNat]; rfl); (case pr => rfl)) | (refine AW.seq ?_) | (refine AW.region ?_) | (refine AW.draw prg (by kernel_rfl) ?_) | (refine AOps.nil ?_; try dsimp only [AX.then, AX.inBlock]) | (refine ALex.nil ?_; try dsimp only [AX.then, AX.inBlock]) | (refine AW.condT (by rfl) ?_) | (refine AW.condF (by rfl) ?_) | (refine AW.skip ?_; try dsimp only [AX.then, AX.inBlock]) | (refine AW.ret ?_; try dsimp only [AX.then, AX.inBlock]) | (refine AW.block ?_) | (refine AW.exit ?_; simp only [AX.then, AX.inBlock, if_true, Nat.reduceEqDiff, if_false]))
            refine AOps.append prg (t := 25) (e := 9) (z := 1) (by_ := 16) (tg := ts) (es := n.seps.map sD) (ns := [sD key]) (by rfl) (by rfl) (by rfl) (by rfl) (by rfl) (by rfl) (by rfl) (by rfl) (by omega) (by kernel_rfl) (by omega) (fun d hd => by
              simp only [List.mem_append, List.mem_map, List.mem_singleton] at hd
              rcases hd with ⟨x, _, rfl⟩ | rfl <;> rfl) hg.s.may (by simp) (by rw [List.length_map]; simp only [List.length_singleton]; omega) ?_
            intro g _ hgo
            have hg2 := hg.addS key hgo
            repeat (first | ((first | apply AOps.goP prg | apply ALex.goP prg); (case run => simp only [go_sem, Int.reduceEq, Int.reduceLT, Int.reduceBEq, Int.reduceBNe, Int.reduceNe, Nat.reduceLeDiff, Nat.reduceAdd, Nat.reduceSub, Nat.reduceLT, Nat.reduceEqDiff, Nat.reduceBEq, Int.reduceLE, Int.reduceToNat, hm87, hm86, hm76, k_b8, k_b7]; rfl); (case mm => simp only [go_sem, Int.reduceEq, Int.reduceLT, Int.reduceBEq, Int.reduceBNe, Int.reduceNe, Nat.reduceLeDiff, Nat.reduceAdd, Nat.reduceSub, Nat.reduceLT, Nat.reduceEqDiff, Nat.reduceBEq, Int.reduceLE, Int.reduceToNat]; rfl); (case pr => rfl)) | (refine AW.seq ?_) | (refine AW.region ?_) | (refine AW.draw prg (by kernel_rfl) ?_) | (refine AOps.nil ?_; try dsimp only [AX.then, AX.inBlock]) | (refine ALex.nil ?_; try dsimp only [AX.then, AX.inBlock]) | (refine AW.condT (by rfl) ?_) | (refine AW.condF (by rfl) ?_) | (refine AW.skip ?_; try dsimp only [AX.then, AX.inBlock]) | (refine AW.ret ?_; try dsimp only [AX.then, AX.inBlock]) | (refine AW.block ?_) | (refine AW.exit ?_; simp only [AX.then, AX.inBlock, if_true, Nat.reduceEqDiff, if_false]))
            refine ⟨[.any], _, ?_, Sto.Sub.refl _, ⟨p3, c3, _, _, _, rfl, ?_, hr3, rfl, hg2⟩⟩
            · simp only [go_sem, Int.reduceEq, Int.reduceLT, Int.reduceBEq, Int.reduceBNe, Int.reduceNe, Nat.reduceLeDiff, Nat.reduceAdd, Nat.reduceSub, Nat.reduceLT, Nat.reduceEqDiff, Nat.reduceBEq, Int.reduceLE, Int.reduceToNat, weakA, or_true, true_or, and_self]
            · simp only [go_sem, Int.reduceEq, Int.reduceLT, Int.reduceBEq, Int.reduceBNe, Int.reduceNe, Nat.reduceLeDiff, Nat.reduceAdd, Nat.reduceSub, Nat.reduceLT, Nat.reduceEqDiff, Nat.reduceBEq, Int.reduceLE, Int.reduceToNat, List.map_append]
          · have d3 : decide ((i : Int) > 0) = false := decide_eq_false (by omega)
            rw [d3]
            rw [if_neg hi0, if_neg hi0]
            repeat (first | ((first | apply AOps.goP prg | apply ALex.goP prg); (case run => simp only [go_sem, Int.reduceEq, Int.reduceLT, Int.reduceBEq, Int.reduceBNe, Int.reduceNe, Nat.reduceLeDiff, Nat.reduceAdd, Nat.reduceSub, Nat.reduceLT, Nat.reduceEqDiff, Nat.reduceBEq, Int.reduceLE, Int.reduceToNat]; rfl); (case mm => simp only [go_sem, Int.reduceEq, Int.reduceLT, Int.reduceBEq, Int.reduceBNe, Int.reduceNe, Nat.reduceLeDiff, Nat.reduceAdd, Nat.reduceSub, Nat.reduceLT, Nat.reduceEqDiff, Nat.reduceBEq, Int.reduceLE, Int.reduceToNat]; rfl); (case pr => rfl)) | (refine AW.seq ?_) | (refine AW.region ?_) | (refine AW.draw prg (by kernel_rfl) ?_) | (refine AOps.nil ?_; try dsimp only [AX.then, AX.inBlock]) | (refine ALex.nil ?_; try dsimp only [AX.then, AX.inBlock]) | (refine AW.condT (by rfl) ?_) | (refine AW.condF (by rfl) ?_) | (refine AW.skip ?_; try dsimp only [AX.then, AX.inBlock]) | (refine AW.ret ?_; try dsimp only [AX.then, AX.inBlock]) | (refine AW.block ?_) | (refine AW.exit ?_; simp only [AX.then, AX.inBlock, if_true, Nat.reduceEqDiff, if_false]))
            refine ⟨[.any], _, ?_, Sto.Sub.refl _, ⟨pp, 0, _, _, _, rfl, ?_, hr, rfl, hg⟩⟩
            · simp only [go_sem, Int.reduceEq, Int.reduceLT, Int.reduceBEq, Int.reduceBNe, Int.reduceNe, Nat.reduceLeDiff, Nat.reduceAdd, Nat.reduceSub, Nat.reduceLT, Nat.reduceEqDiff, Nat.reduceBEq, Int.reduceLE, Int.reduceToNat, weakA, or_true, true_or, and_self]
            · rfl
        rintro xs S' ⟨p3, c3, ts3, ow3, n3, rfl, rfl, hr3, hn3, hg3⟩
        apply AW.frame; case fr => (simp only [go_sem, Int.reduceEq, Int.reduceLT, Int.reduceBEq, Int.reduceBNe, Int.reduceNe, Nat.reduceLeDiff, Nat.reduceAdd, Nat.reduceSub, Nat.reduceLT, Nat.reduceEqDiff, Nat.reduceBEq, Int.reduceLE, Int.reduceToNat]; rfl)
        obtain ⟨o3, ho3⟩ : ∃ o, (if 0 < i then gr (textP s.length) (some l) else some l) = o := ⟨_, rfl⟩
        rw [ho3] at hr3
        simp only [ho3, ← hn3] at hl
        have hkids : n3.kids = n.kids := by rw [hn3]
        have hpairs : n3.pairs = n.pairs := by rw [hn3]
        have hseps : n3.seps.length ≤ i + 1 := by rw [hn3]; show (if 0 < i then n.seps ++ [gv (textP s.length) [] (some l)] else n.seps).length ≤ i + 1; split <;> (try simp) <;> omega
        rw [← hkids] at hl
        clear hr ho2 hS1
        repeat (first | ((first | apply AOps.goP prg | apply ALex.goP prg); (case run => simp only [go_sem, Int.reduceEq, Int.reduceLT, Int.reduceBEq, Int.reduceBNe, Int.reduceNe, Nat.reduceLeDiff, Nat.reduceAdd, Nat.reduceSub, Nat.reduceLT, Nat.reduceEqDiff, Nat.reduceBEq, Int.reduceLE, Int.reduceToNat]; rfl); (case mm => simp only [go_sem, Int.reduceEq, Int.reduceLT, Int.reduceBEq, Int.reduceBNe, Int.reduceNe, Nat.reduceLeDiff, Nat.reduceAdd, Nat.reduceSub, Nat.reduceLT, Nat.reduceEqDiff, Nat.reduceBEq, Int.reduceLE, Int.reduceToNat]; rfl); (case pr => rfl)) | (refine AW.seq ?_) | (refine AW.region ?_) | (refine AW.draw prg (by kernel_rfl) ?_) | (refine AOps.nil ?_; try dsimp only [AX.then, AX.inBlock]) | (refine ALex.nil ?_; try dsimp only [AX.then, AX.inBlock]) | (refine AW.condT (by rfl) ?_) | (refine AW.condF (by rfl) ?_) | (refine AW.skip ?_; try dsimp only [AX.then, AX.inBlock]) | (refine AW.ret ?_; try dsimp only [AX.then, AX.inBlock]) | (refine AW.block ?_) | (refine AW.exit ?_; simp only [AX.then, AX.inBlock, if_true, Nat.reduceEqDiff, if_false]))
        refine AOps.alloc prg (by rfl) (by rfl) (by rfl) (by rfl) ?_; rintro b15 ⟨k_b15, o_b15⟩; (try simp only [List.map_cons, List.mem_cons, not_or] at k_b15)
        have hm15a := nes k_b15.1
        have hm15b := nes k_b15.2.1
        have hm15c := nes k_b15.2.2.1
        repeat (first | ((first | apply AOps.goP prg | apply ALex.goP prg); (case run => simp only [go_sem, Int.reduceEq, Int.reduceLT, Int.reduceBEq, Int.reduceBNe, Int.reduceNe, Nat.reduceLeDiff, Nat.reduceAdd, Nat.reduceSub, Nat.reduceLT, Nat.reduceEqDiff, Nat.reduceBEq, Int.reduceLE, Int.reduceToNat]; rfl); (case mm => simp only [go_sem, Int.reduceEq, Int.reduceLT, Int.reduceBEq, Int.reduceBNe, Int.reduceNe, Nat.reduceLeDiff, Nat.reduceAdd, Nat.reduceSub, Nat.reduceLT, Nat.reduceEqDiff, Nat.reduceBEq, Int.reduceLE, Int.reduceToNat]; rfl); (case pr => rfl)) | (refine AW.seq ?_) | (refine AW.region ?_) | (refine AW.draw prg (by kernel_rfl) ?_) | (refine AOps.nil ?_; try dsimp only [AX.then, AX.inBlock]) | (refine ALex.nil ?_; try dsimp only [AX.then, AX.inBlock]) | (refine AW.condT (by rfl) ?_) | (refine AW.condF (by rfl) ?_) | (refine AW.skip ?_; try dsimp only [AX.then, AX.inBlock]) | (refine AW.ret ?_; try dsimp only [AX.then, AX.inBlock]) | (refine AW.block ?_) | (refine AW.exit ?_; simp only [AX.then, AX.inBlock, if_true, Nat.reduceEqDiff, if_false]))
        refine AW.cutK 16 [] (fun xs S' => ∃ (p4 c4 : Int), xs = [] ∧ S' = ⟨(b15, 59, kdD ⟨if pg then gv (takeP 4) 0 o3 else 0, Dg.zero⟩) :: (b8, 99, rrD s p4 c4) :: (b7, 28, ndT tp ts3 tk n3) :: (b6, 28, ndT .nil .nil .nil ⟨[], [], []⟩) :: S.bk, ow3⟩ ∧ RrIs s (if pg then gr (takeP 4) o3 else o3) p4 c4) ?_ ?_
        · cases pg with
          | true =>
            simp only [if_true]
            repeat (first | ((first | apply AOps.goP prg | apply ALex.goP prg); (case run => simp only [go_sem, Int.reduceEq, Int.reduceLT, Int.reduceBEq, Int.reduceBNe, Int.reduceNe, Nat.reduceLeDiff, Nat.reduceAdd, Nat.reduceSub, Nat.reduceLT, Nat.reduceEqDiff, Nat.reduceBEq, Int.reduceLE, Int.reduceToNat]; rfl); (case mm => simp only [go_sem, Int.reduceEq, Int.reduceLT, Int.reduceBEq, Int.reduceBNe, Int.reduceNe, Nat.reduceLeDiff, Nat.reduceAdd, Nat.reduceSub, Nat.reduceLT, Nat.reduceEqDiff, Nat.reduceBEq, Int.reduceLE, Int.reduceToNat]; rfl); (case pr => rfl)) | (refine AW.seq ?_) | (refine AW.region ?_) | (refine AW.draw prg (by kernel_rfl) ?_) | (refine AOps.nil ?_; try dsimp only [AX.then, AX.inBlock]) | (refine ALex.nil ?_; try dsimp only [AX.then, AX.inBlock]) | (refine AW.condT (by rfl) ?_) | (refine AW.condF (by rfl) ?_) | (refine AW.skip ?_; try dsimp only [AX.then, AX.inBlock]) | (refine AW.ret ?_; try dsimp only [AX.then, AX.inBlock]) | (refine AW.block ?_) | (refine AW.exit ?_; simp only [AX.then, AX.inBlock, if_true, Nat.reduceEqDiff, if_false]))
            refine AOps.callx (by rfl) (by rfl) (by exact (aTake b8 4 s o3 _ (RrSt.cons' (RrSt.head hr3) (by simp only [List.map_cons, List.mem_cons, not_or]; exact k_b15)) hs2 (by omega) (by omega))) ?_
            rintro d S1 ⟨rfl, hS1⟩
            obtain ⟨S2, hS2, rfl⟩ := hS1.cons' hm15a
            obtain ⟨p4, c4, rfl, hr4⟩ := hS2.head
            obtain ⟨x, hx⟩ : ∃ k, gv (takeP 4) 0 o3 = k := ⟨_, rfl⟩
            have hx4 : x < 4294967296 := by
              rw [← hx]
              cases o3 with
              | none => simp [gv]
              | some l3 =>
                by_cases hle : 4 ≤ l3.length
                · rw [gv_some (show takeP 4 l3 = some (be (l3.take 4) 0, l3.drop 4) by simp [takeP, hle])]
                  have h1 := be_lt (l3.take 4)
                  have h2 : (l3.take 4).length = 4 := by rw [List.length_take]; omega
                  rw [h2] at h1
                  exact h1
                · rw [gv_none (show takeP 4 l3 = none by simp [takeP, hle])]; omega
            rw [hx]
            have f1 : IntKind.u32.wrap (x : Int) = x := by rw [IntKind.wrap_u32]; omega
            repeat (first | ((first | apply AOps.goP prg | apply ALex.goP prg); (case run => simp only [go_sem, Int.reduceEq, Int.reduceLT, Int.reduceBEq, Int.reduceBNe, Int.reduceNe, Nat.reduceLeDiff, Nat.reduceAdd, Nat.reduceSub, Nat.reduceLT, Nat.reduceEqDiff, Nat.reduceBEq, Int.reduceLE, Int.reduceToNat, hm15a, f1]; rfl); (case mm => simp only [go_sem, Int.reduceEq, Int.reduceLT, Int.reduceBEq, Int.reduceBNe, Int.reduceNe, Nat.reduceLeDiff, Nat.reduceAdd, Nat.reduceSub, Nat.reduceLT, Nat.reduceEqDiff, Nat.reduceBEq, Int.reduceLE, Int.reduceToNat]; rfl); (case pr => rfl)) | (refine AW.seq ?_) | (refine AW.region ?_) | (refine AW.draw prg (by kernel_rfl) ?_) | (refine AOps.nil ?_; try dsimp only [AX.then, AX.inBlock]) | (refine ALex.nil ?_; try dsimp only [AX.then, AX.inBlock]) | (refine AW.condT (by rfl) ?_) | (refine AW.condF (by rfl) ?_) | (refine AW.skip ?_; try dsimp only [AX.then, AX.inBlock]) | (refine AW.ret ?_; try dsimp only [AX.then, AX.inBlock]) | (refine AW.block ?_) | (refine AW.exit ?_; simp only [AX.then, AX.inBlock, if_true, Nat.reduceEqDiff, if_false]))
            refine ⟨[], _, ?_, Sto.Sub.refl _, ⟨p4, c4, rfl, rfl, hr4⟩⟩
            simp only [go_sem, Int.reduceEq, Int.reduceLT, Int.reduceBEq, Int.reduceBNe, Int.reduceNe, Nat.reduceLeDiff, Nat.reduceAdd, Nat.reduceSub, Nat.reduceLT, Nat.reduceEqDiff, Nat.reduceBEq, Int.reduceLE, Int.reduceToNat, weakA, or_true, true_or, and_self]
          | false =>
            simp only [Bool.false_eq_true, if_false]
            repeat (first | ((first | apply AOps.goP prg | apply ALex.goP prg); (case run => simp only [go_sem, Int.reduceEq, Int.reduceLT, Int.reduceBEq, Int.reduceBNe, Int.reduceNe, Nat.reduceLeDiff, Nat.reduceAdd, Nat.reduceSub, Nat.reduceLT, Nat.reduceEqDiff, Nat.reduceBEq, Int.reduceLE, Int.reduceToNat]; rfl); (case mm => simp only [go_sem, Int.reduceEq, Int.reduceLT, Int.reduceBEq, Int.reduceBNe, Int.reduceNe, Nat.reduceLeDiff, Nat.reduceAdd, Nat.reduceSub, Nat.reduceLT, Nat.reduceEqDiff, Nat.reduceBEq, Int.reduceLE, Int.reduceToNat]; rfl); (case pr => rfl)) | (refine AW.seq ?_) | (refine AW.region ?_) | (refine AW.draw prg (by kernel_rfl) ?_) | (refine AOps.nil ?_; try dsimp only [AX.then, AX.inBlock]) | (refine ALex.nil ?_; try dsimp only [AX.then, AX.inBlock]) | (refine AW.condT (by rfl) ?_) | (refine AW.condF (by rfl) ?_) | (refine AW.skip ?_; try dsimp only [AX.then, AX.inBlock]) | (refine AW.ret ?_; try dsimp only [AX.then, AX.inBlock]) | (refine AW.block ?_) | (refine AW.exit ?_; simp only [AX.then, AX.inBlock, if_true, Nat.reduceEqDiff, if_false]))
            refine ⟨[], _, ?_, Sto.Sub.refl _, ⟨p3, c3, rfl, rfl, hr3⟩⟩
            simp only [go_sem, Int.reduceEq, Int.reduceLT, Int.reduceBEq, Int.reduceBNe, Int.reduceNe, Nat.reduceLeDiff, Nat.reduceAdd, Nat.reduceSub, Nat.reduceLT, Nat.reduceEqDiff, Nat.reduceBEq, Int.reduceLE, Int.reduceToNat, weakA, or_true, true_or, and_self]
        rintro xs S' ⟨p4, c4, rfl, rfl, hr4⟩
        apply AW.frame; case fr => (simp only [go_sem, Int.reduceEq, Int.reduceLT, Int.reduceBEq, Int.reduceBNe, Int.reduceNe, Nat.reduceLeDiff, Nat.reduceAdd, Nat.reduceSub, Nat.reduceLT, Nat.reduceEqDiff, Nat.reduceBEq, Int.reduceLE, Int.reduceToNat]; rfl)
        obtain ⟨o4, ho4⟩ : ∃ o, (if pg then gr (takeP 4) o3 else o3) = o := ⟨_, rfl⟩
        obtain ⟨page, hpage⟩ : ∃ o, (if pg then gv (takeP 4) 0 o3 else 0) = o := ⟨_, rfl⟩
        rw [ho4] at hr4
        rw [hpage]
        simp only [ho4, hpage] at hl
        repeat (first | ((first | apply AOps.goP prg | apply ALex.goP prg); (case run => simp only [go_sem, Int.reduceEq, Int.reduceLT, Int.reduceBEq, Int.reduceBNe, Int.reduceNe, Nat.reduceLeDiff, Nat.reduceAdd, Nat.reduceSub, Nat.reduceLT, Nat.reduceEqDiff, Nat.reduceBEq, Int.reduceLE, Int.reduceToNat]; rfl); (case mm => simp only [go_sem, Int.reduceEq, Int.reduceLT, Int.reduceBEq, Int.reduceBNe, Int.reduceNe, Nat.reduceLeDiff, Nat.reduceAdd, Nat.reduceSub, Nat.reduceLT, Nat.reduceEqDiff, Nat.reduceBEq, Int.reduceLE, Int.reduceToNat]; rfl); (case pr => rfl)) | (refine AW.seq ?_) | (refine AW.region ?_) | (refine AW.draw prg (by kernel_rfl) ?_) | (refine AOps.nil ?_; try dsimp only [AX.then, AX.inBlock]) | (refine ALex.nil ?_; try dsimp only [AX.then, AX.inBlock]) | (refine AW.condT (by rfl) ?_) | (refine AW.condF (by rfl) ?_) | (refine AW.skip ?_; try dsimp only [AX.then, AX.inBlock]) | (refine AW.ret ?_; try dsimp only [AX.then, AX.inBlock]) | (refine AW.block ?_) | (refine AW.exit ?_; simp only [AX.then, AX.inBlock, if_true, Nat.reduceEqDiff, if_false]))
        refine AOps.callx (by rfl) (by rfl) (by exact (aDigest b8 w s o4 _ (RrSt.cons' (RrSt.head hr4) (by simp only [List.map_cons, List.mem_cons, not_or]; exact k_b15)) hs2)) ?_
        rintro d S1 ⟨rfl, hS1⟩
        obtain ⟨S2, hS2, rfl⟩ := hS1.cons' hm15a
        obtain ⟨p5, c5, rfl, hr5⟩ := hS2.head
        obtain ⟨o5, ho5⟩ : ∃ o, gr (digP (widN w)) o4 = o := ⟨_, rfl⟩
        obtain ⟨sum, hsum⟩ : ∃ o, gv (digP (widN w)) Dg.zero o4 = o := ⟨_, rfl⟩
        rw [ho5] at hr5
        rw [hsum]
        rw [ho5, hsum] at hl
        clear hS1 hS2
        repeat (first | ((first | apply AOps.goP prg | apply ALex.goP prg); (case run => simp only [go_sem, Int.reduceEq, Int.reduceLT, Int.reduceBEq, Int.reduceBNe, Int.reduceNe, Nat.reduceLeDiff, Nat.reduceAdd, Nat.reduceSub, Nat.reduceLT, Nat.reduceEqDiff, Nat.reduceBEq, Int.reduceLE, Int.reduceToNat, hm15a, hm15b, hm15c, hm87, hm86, hm76, k_b8, k_b7, k_b15]; rfl); (case mm => simp only [go_sem, Int.reduceEq, Int.reduceLT, Int.reduceBEq, Int.reduceBNe, Int.reduceNe, Nat.reduceLeDiff, Nat.reduceAdd, Nat.reduceSub, Nat.reduceLT, Nat.reduceEqDiff, Nat.reduceBEq, Int.reduceLE, Int.reduceToNat]; rfl); (case pr => rfl)) | (refine AW.seq ?_) | (refine AW.region ?_) | (refine AW.draw prg (by kernel_rfl) ?_) | (refine AOps.nil ?_; try dsimp only [AX.then, AX.inBlock]) | (refine ALex.nil ?_; try dsimp only [AX.then, AX.inBlock]) | (refine AW.condT (by rfl) ?_) | (refine AW.condF (by rfl) ?_) | (refine AW.skip ?_; try dsimp only [AX.then, AX.inBlock]) | (refine AW.ret ?_; try dsimp only [AX.then, AX.inBlock]) | (refine AW.block ?_) | (refine AW.exit ?_; simp only [AX.then, AX.inBlock, if_true, Nat.reduceEqDiff, if_false]))
        refine AOps.append prg (t := 26) (e := 59) (z := 33) (by_ := 36) (tg := tk) (es := n3.kids.map kdD) (ns := [kdD ⟨page, sum⟩]) (by rfl) (by rfl) (by rfl) (by rfl) (by rfl) (by rfl) (by rfl) (by rfl) (by omega) (by kernel_rfl) (by omega) (fun d hd => by
          simp only [List.mem_append, List.mem_map, List.mem_singleton] at hd
          rcases hd with ⟨x, _, rfl⟩ | rfl <;> rfl) hg3.k.may (by simp) (by rw [List.length_map, hkids]; simp only [List.length_singleton]; omega) ?_
        intro g _ hgo
        have hg4 := hg3.addK ⟨page, sum⟩ hgo
        repeat (first | ((first | apply AOps.goP prg | apply ALex.goP prg); (case run => simp only [go_sem, Int.reduceEq, Int.reduceLT, Int.reduceBEq, Int.reduceBNe, Int.reduceNe, Nat.reduceLeDiff, Nat.reduceAdd, Nat.reduceSub, Nat.reduceLT, Nat.reduceEqDiff, Nat.reduceBEq, Int.reduceLE, Int.reduceToNat, hm15a, hm15b, hm15c, hm87, hm86, hm76, k_b8, k_b7, k_b15, f5]; rfl); (case mm => simp only [go_sem, Int.reduceEq, Int.reduceLT, Int.reduceBEq, Int.reduceBNe, Int.reduceNe, Nat.reduceLeDiff, Nat.reduceAdd, Nat.reduceSub, Nat.reduceLT, Nat.reduceEqDiff, Nat.reduceBEq, Int.reduceLE, Int.reduceToNat]; rfl); (case pr => rfl)) | (refine AW.seq ?_) | (refine AW.region ?_) | (refine AW.draw prg (by kernel_rfl) ?_) | (refine AOps.nil ?_; try dsimp only [AX.then, AX.inBlock]) | (refine ALex.nil ?_; try dsimp only [AX.then, AX.inBlock]) | (refine AW.condT (by rfl) ?_) | (refine AW.condF (by rfl) ?_) | (refine AW.skip ?_; try dsimp only [AX.then, AX.inBlock]) | (refine AW.ret ?_; try dsimp only [AX.then, AX.inBlock]) | (refine AW.block ?_) | (refine AW.exit ?_; simp only [AX.then, AX.inBlock, if_true, Nat.reduceEqDiff, if_false]))
        refine ⟨[iD (i + 1 : Nat), .any, .any, .any, .any], ⟨(b8, 99, rrD s p5 c5) :: (b7, 28, ndT tp ts3 (.own g 59 33) { n3 with kids := n3.kids ++ [⟨page, sum⟩] }) :: (b6, 28, ndT .nil .nil .nil ⟨[], [], []⟩) :: S.bk, _⟩, ?_, ⟨(?_ : List.Sublist _ _), List.Sublist.refl _⟩, ⟨i + 1, o5, p5, c5, _, _, _, _, _, rfl, rfl, hr5, by omega, ?_, hg4, by rw [hpairs]; omega, hseps, by rw [hkids]; simp; omega⟩, ?_⟩
        · simp only [go_sem, Int.reduceEq, Int.reduceLT, Int.reduceBEq, Int.reduceBNe, Int.reduceNe, Nat.reduceLeDiff, Nat.reduceAdd, Nat.reduceSub, Nat.reduceLT, Nat.reduceEqDiff, Nat.reduceBEq, Int.reduceLE, Int.reduceToNat, weakA, or_true, true_or, and_self]
        · simp only [go_sem, Int.reduceEq, Int.reduceLT, Int.reduceBEq, Int.reduceBNe, Int.reduceNe, Nat.reduceLeDiff, Nat.reduceAdd, Nat.reduceSub, Nat.reduceLT, Nat.reduceEqDiff, Nat.reduceBEq, Int.reduceLE, Int.reduceToNat, List.map_append]; exact (List.Sublist.refl _).cons _
        · rw [← hl, hn3]
        · simp only [go_sem, Int.reduceEq, Int.reduceLT, Int.reduceBEq, Int.reduceBNe, Int.reduceNe, Nat.reduceLeDiff, Nat.reduceAdd, Nat.reduceSub, Nat.reduceLT, Nat.reduceEqDiff, Nat.reduceBEq, Int.reduceLE, Int.reduceToNat, Int.toNat_natCast]; omega
  · have d1 : decide ((i : Int) < many) = false := decide_eq_false (by omega)
    have e0 : many - i = 0 := by omega
    rw [e0] at hl
    have hl' : n = looseN kind pg (widN w) s.length many 0 o2 ⟨[], [], []⟩ := hl
    rw [← hl']
    repeat (first | ((first | apply AOps.goP prg | apply ALex.goP prg); (case run => simp only [go_sem, Int.reduceEq, Int.reduceLT, Int.reduceBEq, Int.reduceBNe, Int.reduceNe, Nat.reduceLeDiff, Nat.reduceAdd, Nat.reduceSub, Nat.reduceLT, Nat.reduceEqDiff, Nat.reduceBEq, Int.reduceLE, Int.reduceToNat, d1, hm87, hm86, hm76, k_b8, k_b7]; rfl); (case mm => simp only [go_sem, Int.reduceEq, Int.reduceLT, Int.reduceBEq, Int.reduceBNe, Int.reduceNe, Nat.reduceLeDiff, Nat.reduceAdd, Nat.reduceSub, Nat.reduceLT, Nat.reduceEqDiff, Nat.reduceBEq, Int.reduceLE, Int.reduceToNat]; rfl); (case pr => rfl)) | (refine AW.seq ?_) | (refine AW.region ?_) | (refine AW.draw prg (by kernel_rfl) ?_) | (refine AOps.nil ?_; try dsimp only [AX.then, AX.inBlock]) | (refine ALex.nil ?_; try dsimp only [AX.then, AX.inBlock]) | (refine AW.condT (by rfl) ?_) | (refine AW.condF (by rfl) ?_) | (refine AW.skip ?_; try dsimp only [AX.then, AX.inBlock]) | (refine AW.ret ?_; try dsimp only [AX.then, AX.inBlock]) | (refine AW.block ?_) | (refine AW.exit ?_; simp only [AX.then, AX.inBlock, if_true, Nat.reduceEqDiff, if_false]))
    refine endu (by simp only [go_sem, Int.reduceEq, Int.reduceLT, Int.reduceBEq, Int.reduceBNe, Int.reduceNe, Nat.reduceLeDiff, Nat.reduceAdd, Nat.reduceSub, Nat.reduceLT, Nat.reduceEqDiff, Nat.reduceBEq, Int.reduceLE, Int.reduceToNat, hm87, hm86, hm76, k_b8, k_b7]; rfl) (by rfl) ?_ ⟨rfl, rfl⟩
    exact ⟨((List.Sublist.refl _).cons _ |>.cons _ |>.cons _), hg.sub⟩

end Go.Proofs.YtemicgccgcmmbaaGreat

/- Plain laws: a node's form is read as that node, and what is read is that node's form. -/
namespace Go.Proofs.YtemicgccgcmmbaaGreat
set_option linter.unusedVariables false
set_option linter.unusedSimpArgs false
open Go Go.RowKit

/-- A kid's own bytes. -/
def kB (pages : Bool) (wd : Nat) (k : Kd) : Bs := (if pages = true then fixB 4 k.page else []) ++ k.sum.l.take wd
def kdP (pages : Bool) (k : Kd) : Kd := if pages = true then k else ⟨0, k.sum⟩
theorem kdP_true : kdP true = id := by funext k; rfl
theorem kdP_false : kdP false = fun k => ⟨0, k.sum⟩ := by funext k; rfl
/-- All kids behind the first, each behind its separator. -/
def kidsT (pages : Bool) (wd : Nat) : List Kd → List Bs → Bs
  | k :: ks, s :: ss => textB s ++ (kB pages wd k ++ kidsT pages wd ks ss)
  | _, _ => []

theorem kidsT_range (pages : Bool) (wd : Nat) : ∀ (ks : List Kd) (ss : List Bs), ks.length = ss.length → (List.range ks.length).flatMap (fun i => textB (ss.getD i []) ++ kB pages wd (ks.getD i Kd.zero)) = kidsT pages wd ks ss
  | [], [], _ => rfl
  | k :: ks, s :: ss, h => by
    rw [List.length_cons, List.range_succ_eq_map, List.flatMap_cons, List.flatMap_map]
    have ih := kidsT_range pages wd ks ss (by simpa using h)
    simp only [kidsT, List.getD_cons_zero, List.append_assoc]
    rw [← ih]
    rfl
theorem kidsB_T (pages : Bool) (wd : Nat) (ps : List Pr) (k : Kd) (ks : List Kd) (ss : List Bs) (h : ss.length + 1 = (k :: ks).length) : kidsB pages wd ⟨ps, ss, k :: ks⟩ (k :: ks).length = kB pages wd k ++ kidsT pages wd ks ss := by
  unfold kidsB
  rw [List.length_cons, List.range_succ_eq_map, List.flatMap_cons, List.flatMap_map, ← kidsT_range pages wd ks ss (by simp at h; omega)]
  congr 1
  
theorem kid_kidP {P wd : Nat} {pages : Bool} {x x' : Bool × List Bs} {l l1 : Bs} {k : Kd} (hs : sepP P x l = some (x', kB pages wd k ++ l1)) (hwd : wd ≤ 32) (hf : Dg.cut wd k.sum = k.sum) (hp : k.page < 4294967296) : kidP P wd pages x l = some (x', kdP pages k, l1) := by
  unfold kidP
  rw [hs]
  cases pages
  · simp only [kB, Bool.false_eq_true, if_false, List.nil_append, kdP]
    rw [dgP_dg hwd hf]
  · simp only [kB, if_true, kdP, List.append_assoc]
    rw [takeP_fix 4 (by omega)]
    simp only
    rw [dgP_dg hwd hf]
theorem kidP_kid {P wd : Nat} {pages : Bool} {x x' : Bool × List Bs} {l l' : Bs} {k : Kd} (hwd : wd ≤ 32) (h : kidP P wd pages x l = some (x', k, l')) : sepP P x l = some (x', kB pages wd k ++ l') ∧ (pages = false → k.page = 0) := by
  unfold kidP at h
  cases hs : sepP P x l with
  | none => simp [hs] at h
  | some r =>
    obtain ⟨x1, l1⟩ := r
    cases pages
    · simp only [hs, Bool.false_eq_true, if_false] at h
      cases hd : dgP wd l1 with
      | none => simp [hd] at h
      | some r3 =>
        obtain ⟨d, l3⟩ := r3
        simp only [hd, Option.some.injEq, Prod.mk.injEq] at h
        obtain ⟨rfl, rfl, rfl⟩ := h
        exact ⟨by rw [dg_dgP hwd hd]; rfl, fun _ => rfl⟩
    · simp only [hs, if_true] at h
      cases ht : takeP 4 l1 with
      | none => simp [ht] at h
      | some r2 =>
        obtain ⟨n, l2⟩ := r2
        cases hd : dgP wd l2 with
        | none => simp [ht, hd] at h
        | some r3 =>
          obtain ⟨d, l3⟩ := r3
          simp only [ht, hd, Option.some.injEq, Prod.mk.injEq] at h
          obtain ⟨rfl, rfl, rfl⟩ := h
          refine ⟨?_, by simp⟩
          rw [fix_takeP ht, dg_dgP hwd hd]
          simp [kB]

theorem sepP_false {P : Nat} {sp : List Bs} {s l : Bs} (h : s.length ≤ P / 16) (hP : P ≤ 8192) : sepP P (false, sp) (textB s ++ l) = some ((false, sp ++ [s]), l) := by
  unfold sepP
  rw [if_neg (by simp), textP_text h (by omega)]; rfl
theorem sepP_true {P : Nat} {sp : List Bs} {l : Bs} : sepP P (true, sp) l = some ((false, sp), l) := by simp [sepP]
theorem false_sepP {P : Nat} {sp : List Bs} {x : Bool × List Bs} {l l1 : Bs} (h : sepP P (false, sp) l = some (x, l1)) : ∃ s, x = (false, sp ++ [s]) ∧ l = textB s ++ l1 := by
  unfold sepP at h
  rw [if_neg (by simp)] at h
  cases ht : textP (P / 16) l with
  | none => simp [ht] at h
  | some r =>
    obtain ⟨t, l2⟩ := r
    simp only [ht, Option.map_some, Option.some.injEq, Prod.mk.injEq] at h
    obtain ⟨rfl, rfl⟩ := h
    exact ⟨t, rfl, text_textP ht⟩

theorem many_kids {P wd : Nat} {pages : Bool} (hP : P ≤ 8192) (hwd : wd ≤ 32) : ∀ (ks : List Kd) (ss sp : List Bs) (l : Bs), ks.length = ss.length → (∀ s ∈ ss, s.length ≤ P / 16) → (∀ k ∈ ks, Dg.cut wd k.sum = k.sum ∧ k.page < 4294967296) →
    manyP (kidP P wd pages) ks.length (false, sp) (kidsT pages wd ks ss ++ l) = some ((false, sp ++ ss), ks.map (kdP pages), l)
  | [], [], sp, l, _, _, _ => by simp [manyP, kidsT]
  | k :: ks, s :: ss, sp, l, hl, hs, hk => by
    have ih := many_kids (pages := pages) hP hwd ks ss (sp ++ [s]) l (by simpa using hl) (fun y hy => hs y (by simp [hy])) (fun y hy => hk y (by simp [hy]))
    have h1 := hk k (by simp)
    show manyP _ (ks.length + 1) _ ((textB s ++ (kB pages wd k ++ kidsT pages wd ks ss)) ++ l) = _
    rw [List.append_assoc, List.append_assoc]
    unfold manyP
    rw [kid_kidP (sepP_false (hs s (by simp)) hP) hwd h1.1 h1.2]
    simp only [ih, List.append_assoc, List.singleton_append, List.map_cons]
theorem kids_many {P wd : Nat} {pages : Bool} (hwd : wd ≤ 32) : ∀ (n : Nat) (ks : List Kd) (sp : List Bs) (x : Bool × List Bs) (l l' : Bs), manyP (kidP P wd pages) n (false, sp) l = some (x, ks, l') →
    ∃ ss, x = (false, sp ++ ss) ∧ ks.length = ss.length ∧ ks.length = n ∧ l = kidsT pages wd ks ss ++ l' ∧ (pages = false → ∀ k ∈ ks, k.page = 0)
  | 0, ks, sp, x, l, l', h => by
    simp only [manyP, Option.some.injEq, Prod.mk.injEq] at h
    obtain ⟨rfl, rfl, rfl⟩ := h
    exact ⟨[], by simp, rfl, rfl, rfl, by simp⟩
  | n + 1, ks, sp, x, l, l', h => by
    unfold manyP at h
    cases h1 : kidP P wd pages (false, sp) l with
    | none => simp [h1] at h
    | some r =>
      obtain ⟨x1, k, l1⟩ := r
      simp only [h1] at h
      obtain ⟨e1, e2⟩ := kidP_kid hwd h1
      obtain ⟨s, rfl, rfl⟩ := false_sepP e1
      cases h2 : manyP (kidP P wd pages) n (false, sp ++ [s]) l1 with
      | none => simp [h2] at h
      | some r2 =>
        obtain ⟨x2, ts, l2⟩ := r2
        simp only [h2, Option.some.injEq, Prod.mk.injEq] at h
        obtain ⟨rfl, rfl, rfl⟩ := h
        obtain ⟨ss, rfl, e3, e4, rfl, e5⟩ := kids_many hwd n ts _ _ _ _ h2
        refine ⟨s :: ss, by simp, by simpa using e3, by simpa using e4, by simp [kidsT], fun hp => ?_⟩
        intro y hy
        rcases List.mem_cons.1 hy with rfl | hy
        · exact e2 hp
        · exact e5 hp y hy

/-- All kids that are laid are read. -/
theorem list_kidsB {P wd m : Nat} {pages : Bool} (hP : P ≤ 8192) (hwd : wd ≤ 32) {k : Kd} {ks : List Kd} {ss : List Bs} {l : Bs} (hl : ks.length = ss.length) (hs : ∀ s ∈ ss, s.length ≤ P / 16) (hk : ∀ y ∈ k :: ks, Dg.cut wd y.sum = y.sum ∧ y.page < 4294967296)
    (hm : (k :: ks).length ≤ m) (h64 : (k :: ks).length < 18446744073709551616) (hlen : (k :: ks).length ≤ (kB pages wd k ++ kidsT pages wd ks ss ++ l).length) :
    listP m (kidP P wd pages) (true, []) (freeB (k :: ks).length ++ (kB pages wd k ++ kidsT pages wd ks ss) ++ l) = some ((false, ss), (k :: ks).map (kdP pages), l) := by
  unfold listP
  rw [List.append_assoc, freeP_free hm h64]
  simp only
  rw [if_pos hlen]
  have h1 := hk k (by simp)
  show manyP _ (ks.length + 1) _ _ = _
  rw [List.append_assoc]
  unfold manyP
  rw [kid_kidP sepP_true hwd h1.1 h1.2]
  simp only
  rw [many_kids hP hwd ks ss [] l hl hs (fun y hy => hk y (by simp [hy]))]
  rfl
theorem kidsB_list {P wd m : Nat} {pages : Bool} (hwd : wd ≤ 32) {ks : List Kd} {x : Bool × List Bs} {l l' : Bs} (h : listP m (kidP P wd pages) (true, []) l = some (x, ks, l')) (hne : ks ≠ []) :
    ∃ k ks' ss, ks = k :: ks' ∧ x = (false, ss) ∧ ks'.length = ss.length ∧ l = freeB ks.length ++ (kB pages wd k ++ kidsT pages wd ks' ss) ++ l' ∧ (pages = false → ∀ k ∈ ks, k.page = 0) := by
  unfold listP at h
  cases hf : freeP m l with
  | none => simp [hf] at h
  | some r =>
    obtain ⟨n, l1⟩ := r
    simp only [hf] at h
    split at h
    · cases n with
      | zero =>
        simp only [manyP, Option.some.injEq, Prod.mk.injEq] at h
        exact absurd h.2.1.symm hne
      | succ n =>
        unfold manyP at h
        cases h1 : kidP P wd pages (true, []) l1 with
        | none => simp [h1] at h
        | some r =>
          obtain ⟨x1, k, l2⟩ := r
          simp only [h1] at h
          obtain ⟨e1, e2⟩ := kidP_kid hwd h1
          rw [sepP_true] at e1
          simp only [Option.some.injEq, Prod.mk.injEq] at e1
          obtain ⟨rfl, rfl⟩ := e1
          cases h2 : manyP (kidP P wd pages) n (false, []) l2 with
          | none => simp [h2] at h
          | some r2 =>
            obtain ⟨x2, ts, l3⟩ := r2
            simp only [h2, Option.some.injEq, Prod.mk.injEq] at h
            obtain ⟨rfl, rfl, rfl⟩ := h
            obtain ⟨ss, rfl, e3, e4, rfl, e5⟩ := kids_many hwd n ts _ _ _ _ h2
            refine ⟨k, ts, ss, rfl, by simp, e3, ?_, fun hp => ?_⟩
            · rw [free_freeP hf, List.length_cons, e4]; simp
            · intro y hy
              rcases List.mem_cons.1 hy with rfl | hy
              · exact e2 hp
              · exact e5 hp y hy
    · cases h

def Nd.bare (n : Nd) : Nd := ⟨n.pairs, n.seps, n.kids.map fun k => ⟨0, k.sum⟩⟩
def pgN (pages : Bool) (n : Nd) : Nd := if pages = true then n else n.bare

theorem kidsT_ge (pages : Bool) (wd : Nat) : ∀ (ks : List Kd) (ss : List Bs), ks.length = ss.length → ks.length ≤ (kidsT pages wd ks ss).length
  | [], [], _ => by simp
  | k :: ks, s :: ss, h => by
    have ih := kidsT_ge pages wd ks ss (by simpa using h)
    have h1 := freeB_pos s.length
    simp only [kidsT, textB, List.length_append, List.length_cons]
    omega
theorem kB_len (pages : Bool) {wd : Nat} (k : Kd) (hwd : wd ≤ 32) : (kB pages wd k).length = (if pages = true then 4 else 0) + wd := by
  unfold kB
  rw [List.length_append, List.length_take, k.sum.h]
  cases pages <;> simp [fixB_len] <;> omega
theorem fitB_iff {wd : Nat} {d : Dg} : fitB wd d = true ↔ (1 ≤ wd ∧ wd ≤ 32) ∧ Dg.cut wd d = d := by
  simp [fitB]; omega

/-- What a good branch has. -/
theorem branch_good {P wd : Nat} {n : Nd} (h : shapedB P wd n = true) (hl : leafB n = false) : n.pairs = [] ∧ n.seps.length + 1 = n.kids.length ∧ (∀ s ∈ n.seps, 1 ≤ s.length ∧ s.length ≤ P / 16) ∧ ∀ k ∈ n.kids, Dg.cut wd k.sum = k.sum := by
  unfold shapedB at h
  rw [if_neg (by simp [hl])] at h
  simp only [Bool.and_eq_true, decide_eq_true_eq, Bool.not_eq_true'] at h
  obtain ⟨⟨⟨⟨h1, h2⟩, h3⟩, h4⟩, h5⟩ := h
  refine ⟨List.length_eq_zero_iff.1 h1, h3, rises_len _ _ _ h5, fun k hk => ?_⟩
  have := List.any_eq_false.1 h4 k hk
  simp only [Bool.not_eq_true', Bool.not_eq_false] at this
  exact (fitB_iff.1 this).2
theorem leaf_good {P : Nat} {wd : Int} {n : Nd} (h : shapedB P wd n = true) (hl : leafB n = true) : ∀ x ∈ n.pairs, (1 ≤ x.1.length ∧ x.1.length ≤ P / 16) ∧ x.2.length ≤ P / 8 := by
  unfold shapedB at h
  rw [if_pos hl] at h
  simp only [Bool.and_eq_true, Bool.not_eq_true'] at h
  intro x hx
  refine ⟨rises_len _ _ _ h.1 x.1 (List.mem_map.2 ⟨x, hx, rfl⟩), ?_⟩
  have := List.any_eq_false.1 h.2 x hx
  simpa using this

/-- A node's form is read as that node. -/
theorem parse_form {P wd : Nat} {pages : Bool} {n : Nd} (hc : checkE P wd n = 0) (ho : NdOk n) : parseP P wd pages (formB pages wd n) = some (pgN pages n) := by
  obtain ⟨hr, hs⟩ := checkE_ok hc
  have hr' := rightB_iff.1 hr
  have hP : P ≤ 8192 := by omega
  have hwd : wd ≤ 32 := by omega
  simp only [Int.toNat_natCast] at hs
  have h1 : ∀ (t : Nat) (l : Bs), t < 256 → takeP 1 (t.toUInt8 :: l) = some (t, l) := fun t l ht => by
    have := takeP_fix (n := t) (l := l) 1 (by omega)
    simpa [fixB, Nat.mod_eq_of_lt ht] using this
  cases hl : leafB n
  · obtain ⟨e1, e2, e3, e4⟩ := branch_good hs hl
    have hnk := ho.nk; have hpg := ho.pg
    obtain ⟨ps, ss, ks⟩ := n
    cases ks with
    | nil => simp at e2
    | cons k ks =>
      simp only at e1 e2 e3 e4 hnk hpg
      subst e1
      have hT := kidsB_T pages wd [] k ks ss e2
      unfold formB parseP
      rw [if_neg (by simp [hl])]
      simp only
      rw [hT, show (2 : UInt8) = (2 : Nat).toUInt8 from rfl, h1 2 _ (by omega)]
      simp only
      have e2' : ks.length = ss.length := by simp at e2; omega
      have hge := kidsT_ge pages wd ks ss e2'
      have hkB := kB_len pages k hwd
      have hL := list_kidsB (P := P) (m := (Nat.toUInt8 2 :: (freeB (k :: ks).length ++ (kB pages wd k ++ kidsT pages wd ks ss))).length) (pages := pages) (l := []) hP hwd e2' (fun s hs => (e3 s hs).2) (fun y hy => ⟨e4 y hy, hpg y hy⟩)
        (by simp; omega) (by omega) (by simp; split at hkB <;> omega)
      rw [List.append_nil] at hL
      rw [if_neg (by decide), if_pos trivial, hL]
      simp only [List.map_cons, if_true]
      rw [if_neg (by simp)]
      cases pages <;> simp [pgN, Nd.bare, kdP_true, kdP_false]
  · have hlg := leaf_good hs hl
    have hnp := ho.np
    obtain ⟨e1, e2⟩ := leafB_iff.1 hl
    obtain ⟨ps, ss, ks⟩ := n
    simp only at e1 e2 hlg hnp
    subst e1 e2
    unfold formB parseP
    rw [if_pos hl]
    simp only
    rw [show (1 : UInt8) = (1 : Nat).toUInt8 from rfl, h1 1 _ (by omega)]
    simp only
    have hge := pairsB_ge ps
    have hL := list_pairsB (P := P) (m := (Nat.toUInt8 1 :: (freeB ps.length ++ pairsB ps)).length) (l := []) hP (ps := ps) (fun x hx => ⟨(hlg x hx).1.2, (hlg x hx).2⟩) (by simp; omega) (by omega)
    rw [List.append_nil] at hL
    rw [if_pos trivial, hL]
    cases pages <;> simp [pgN, Nd.bare]

/-- What is read is that node's form. -/
theorem form_parse {P wd : Nat} {pages : Bool} {n : Nd} {s : Bs} (hwd : wd ≤ 32) (h : parseP P wd pages s = some n) : formB pages wd n = s ∧ (pages = false → ∀ k ∈ n.kids, k.page = 0) := by
  unfold parseP at h
  cases ht : takeP 1 s with
  | none => simp [ht] at h
  | some r =>
    obtain ⟨t, l⟩ := r
    have hs := fix_takeP ht
    simp only [ht] at h
    split at h
    · rename_i h1
      subst h1
      cases hp : listP s.length (pairP P) () l with
      | none => simp [hp] at h
      | some q =>
        obtain ⟨u, ps, l'⟩ := q
        simp only [hp] at h
        split at h
        · rename_i hn
          subst hn
          simp only [Option.some.injEq] at h
          subst h
          have := pairsB_list hp
          refine ⟨?_, by simp⟩
          rw [hs, this]
          simp [formB, leafB, fixB]
        · cases h
    · split at h
      · rename_i h1
        subst h1
        cases hp : listP s.length (kidP P wd pages) (true, []) l with
        | none => simp [hp] at h
        | some q =>
          obtain ⟨x, ks, l'⟩ := q
          simp only [hp] at h
          split at h
          · cases h
          · rename_i hne
            split at h
            · rename_i hn
              subst hn
              simp only [Option.some.injEq] at h
              subst h
              obtain ⟨k, ks', ss, rfl, rfl, e1, e2, e3⟩ := kidsB_list hwd hp hne
              refine ⟨?_, e3⟩
              have hT := kidsB_T pages wd [] k ks' ss (by simp; omega)
              rw [hs, e2]
              unfold formB
              rw [if_neg (by simp [leafB])]
              simp only
              rw [hT]
              simp [fixB]
            · cases h
      · cases h

theorem leafB_bare (n : Nd) : leafB n.bare = leafB n := by simp [leafB, Nd.bare]
theorem shapedB_bare (P : Nat) (wd : Int) (n : Nd) : shapedB P wd n.bare = shapedB P wd n := by
  unfold shapedB
  rw [leafB_bare]
  simp [Nd.bare, List.any_map, Function.comp_def]
theorem checkE_bare (p wd : Int) (n : Nd) : checkE p wd n.bare = checkE p wd n := by simp [checkE, shapedB_bare]
theorem sizeN_bare (wd : Nat) (n : Nd) : sizeN wd n.bare = sizeN wd n := by
  unfold sizeN; rw [leafB_bare]; simp [Nd.bare]
theorem mayE_bare (p wd : Int) (n : Nd) : mayE p wd n.bare = mayE p wd n := by simp [mayE, checkE_bare, sizeN_bare]

theorem packE_may {p wd : Int} {n : Nd} (h : packE p wd n = 0) : mayE p wd n = 0 := by
  unfold packE at h
  split at h
  · cases h
  · split at h
    · assumption
    · exact h
theorem may_packE {p wd : Int} {n : Nd} (h : mayE p wd n ≠ 0) : packE p wd n ≠ 0 := fun e => h (packE_may e)

/-- What is packed is unpacked. -/
theorem unpack_pack {p wd : Int} {n : Nd} (h : packE p wd n = 0) (ho : NdOk n) : unpackP p wd (packS p wd n) = some n := by
  have hm := packE_may h
  obtain ⟨hc, _⟩ := mayE_ok hm
  have hr := (checkE_ok hc).1
  have hr' := rightB_iff.1 hr
  obtain ⟨P, rfl⟩ := Int.eq_ofNat_of_zero_le (show 0 ≤ p by omega)
  obtain ⟨d, rfl⟩ := Int.eq_ofNat_of_zero_le (show 0 ≤ wd by omega)
  unfold unpackP packS
  rw [if_pos hr, if_pos h]
  have := parse_form (pages := true) hc ho
  simp only [Int.toNat_natCast] at this ⊢
  rw [this]
  simp only [pgN, if_true]
  simp [Option.filter, h]
/-- What is written without pages is read without them. -/
theorem read_plain {p wd : Int} {n : Nd} (h : mayE p wd n = 0) (ho : NdOk n) : readP p wd (plainS p wd n) = some n.bare := by
  obtain ⟨hc, _⟩ := mayE_ok h
  have hr := (checkE_ok hc).1
  have hr' := rightB_iff.1 hr
  obtain ⟨P, rfl⟩ := Int.eq_ofNat_of_zero_le (show 0 ≤ p by omega)
  obtain ⟨d, rfl⟩ := Int.eq_ofNat_of_zero_le (show 0 ≤ wd by omega)
  unfold readP plainS
  rw [if_pos hr, if_pos h]
  have := parse_form (pages := false) hc ho
  simp only [Int.toNat_natCast] at this ⊢
  rw [this]
  simp only [pgN, Bool.false_eq_true, if_false]
  have h2 := mayE_bare P d n
  simp [Option.filter, h2, h]

theorem kidsT_len {pages : Bool} {wd : Nat} (hwd : wd ≤ 32) : ∀ (ks : List Kd) (ss : List Bs), ks.length = ss.length → (kidsT pages wd ks ss).length = ks.length * ((if pages = true then 4 else 0) + wd) + (ss.map txN).sum
  | [], [], _ => by simp [kidsT]
  | k :: ks, s :: ss, h => by
    have ih := kidsT_len (pages := pages) hwd ks ss (by simpa using h)
    simp only [kidsT, List.length_append, textB_length, kB_len pages k hwd, ih, List.length_cons, Nat.succ_mul, List.map_cons, List.sum_cons]
    omega
/-- How long a form is. -/
theorem formB_len {P wd : Nat} {pages : Bool} {n : Nd} (hc : checkE P wd n = 0) : (formB pages wd n).length + (if pages = true then 0 else 4 * n.kids.length) = sizeN wd n := by
  obtain ⟨hr, hs⟩ := checkE_ok hc
  have hr' := rightB_iff.1 hr
  have hwd : wd ≤ 32 := by omega
  simp only [Int.toNat_natCast] at hs
  unfold formB sizeN
  cases hl : leafB n
  · obtain ⟨e1, e2, e3, e4⟩ := branch_good hs hl
    obtain ⟨ps, ss, ks⟩ := n
    cases ks with
    | nil => simp at e2
    | cons k ks =>
      simp only at e1 e2
      have e2' : ks.length = ss.length := by simp at e2; omega
      simp only [Bool.false_eq_true, if_false]
      rw [kidsB_T pages wd ps k ks ss e2]
      simp only [List.length_cons, List.length_append, freeB_length, kB_len pages k hwd, kidsT_len hwd ks ss e2', Nat.succ_mul]
      cases pages
      · simp only [Bool.false_eq_true, if_false, Nat.zero_add]
        simp only [Nat.mul_add]; omega
      · simp only [if_true, Nat.mul_add]; omega
  · obtain ⟨e1, e2⟩ := leafB_iff.1 hl
    simp only [if_true, List.length_cons, List.length_append, freeB_length, pairsB_length, e2, List.length_nil, Nat.mul_zero, ite_self]
    omega

theorem unpackP_ok {p wd : Int} {s : Bs} {n : Nd} (h : unpackP p wd s = some n) : rightB p wd = true ∧ packE p wd n = 0 ∧ parseP p.toNat wd.toNat true s = some n := by
  unfold unpackP at h
  split at h
  · rename_i hr
    obtain ⟨h1, h2⟩ := Option.filter_eq_some_iff.1 h
    exact ⟨hr, by simpa using h2, h1⟩
  · cases h
theorem readP_ok {p wd : Int} {s : Bs} {n : Nd} (h : readP p wd s = some n) : rightB p wd = true ∧ mayE p wd n = 0 ∧ parseP p.toNat wd.toNat false s = some n := by
  unfold readP at h
  split at h
  · rename_i hr
    obtain ⟨h1, h2⟩ := Option.filter_eq_some_iff.1 h
    exact ⟨hr, by simpa using h2, h1⟩
  · cases h
/-- What is unpacked packs to what it was. -/
theorem pack_unpack {p wd : Int} {s : Bs} {n : Nd} (h : unpackP p wd s = some n) : packE p wd n = 0 ∧ packS p wd n = s ∧ checkE p wd n = 0 := by
  obtain ⟨hr, he, hp⟩ := unpackP_ok h
  have hr' := rightB_iff.1 hr
  refine ⟨he, ?_, (mayE_ok (packE_may he)).1⟩
  unfold packS; rw [if_pos he]
  exact (form_parse (by omega) hp).1
theorem plain_read {p wd : Int} {s : Bs} {n : Nd} (h : readP p wd s = some n) : mayE p wd n = 0 ∧ plainS p wd n = s ∧ checkE p wd n = 0 ∧ ∀ k ∈ n.kids, k.page = 0 := by
  obtain ⟨hr, he, hp⟩ := readP_ok h
  have hr' := rightB_iff.1 hr
  obtain ⟨h1, h2⟩ := form_parse (by omega) hp
  refine ⟨he, ?_, (mayE_ok he).1, h2 rfl⟩
  unfold plainS; rw [if_pos he]
  exact h1

end Go.Proofs.YtemicgccgcmmbaaGreat

/- The empty node. -/
namespace Go.Proofs.YtemicgccgcmmbaaGreat
set_option linter.unusedVariables false
set_option linter.unusedSimpArgs false
open Go Go.RowKit

def noN : Nd := ⟨[], [], []⟩
theorem noN_at (w : World) : NdAt w none none none noN := ⟨PsAt.nil _ _, SsAt.nil _ _, KsAt.nil _ _⟩
theorem noN_ok : NdOk noN := ⟨by decide, by decide, by decide, by simp [noN], by simp [noN], by simp [noN]⟩

end Go.Proofs.YtemicgccgcmmbaaGreat

/- Plain laws of what is read loosely: a form is read as its node. -/
namespace Go.Proofs.YtemicgccgcmmbaaGreat
set_option linter.unusedVariables false
set_option linter.unusedSimpArgs false
open Go Go.RowKit

theorem digP_dgP : digP = dgP := rfl

theorem loose_pairs {pg : Bool} {w L : Nat} (hL : L ≤ 140737488351232) : ∀ (ps : List Pr) (i : Nat) (l : Bs) (n : Nd), (∀ x ∈ ps, x.1.length ≤ L ∧ x.2.length ≤ L) → looseN 1 pg w L ps.length i (some (pairsB ps ++ l)) n = { n with pairs := n.pairs ++ ps }
  | [], _, _, n, _ => by simp [looseN]
  | x :: ps, i, l, n, h => by
    have h1 := h x (by simp)
    have e1 : textP L (pairsB (x :: ps) ++ l) = some (x.1, textB x.2 ++ (pairsB ps ++ l)) := by
      rw [show pairsB (x :: ps) ++ l = textB x.1 ++ (textB x.2 ++ (pairsB ps ++ l)) by simp [pairsB, pairB]]
      exact textP_text h1.1 (by omega)
    have e2 : textP L (textB x.2 ++ (pairsB ps ++ l)) = some (x.2, pairsB ps ++ l) := textP_text h1.2 (by omega)
    rw [List.length_cons, looseN_pair rfl, gr_some e1, gv_some e1, gr_some e2, gv_some e2, loose_pairs hL ps (i + 1) l _ (fun y hy => h y (by simp [hy]))]
    simp

theorem loose_one {pg : Bool} {w : Nat} {k : Kd} {l : Bs} (hw : w ≤ 32) (hf : Dg.cut w k.sum = k.sum) (hp : k.page < 4294967296) :
    (⟨if pg then gv (takeP 4) 0 (some (kB pg w k ++ l)) else 0, gv (digP w) Dg.zero (if pg then gr (takeP 4) (some (kB pg w k ++ l)) else some (kB pg w k ++ l))⟩ : Kd) = kdP pg k ∧ gr (digP w) (if pg then gr (takeP 4) (some (kB pg w k ++ l)) else some (kB pg w k ++ l)) = some l := by
  have hd : digP w (k.sum.l.take w ++ l) = some (k.sum, l) := dgP_dg hw hf
  cases pg
  · have e : kB false w k ++ l = k.sum.l.take w ++ l := by simp [kB]
    rw [e]
    simp only [Bool.false_eq_true, if_false, kdP]
    rw [gv_some hd, gr_some hd]
    exact ⟨rfl, rfl⟩
  · have ht : takeP 4 (kB true w k ++ l) = some (k.page, k.sum.l.take w ++ l) := by
      rw [show kB true w k ++ l = fixB 4 k.page ++ (k.sum.l.take w ++ l) by simp [kB]]
      exact takeP_fix 4 (by omega)
    simp only [if_true, kdP]
    rw [gv_some ht, gr_some ht, gv_some hd, gr_some hd]
    exact ⟨rfl, rfl⟩

theorem loose_kids {kind : Nat} (hk : ¬ kind = 1) {pg : Bool} {w L : Nat} (hw : w ≤ 32) (hL : L ≤ 140737488351232) : ∀ (ks : List Kd) (ss : List Bs) (i : Nat) (l : Bs) (n : Nd), 0 < i → ks.length = ss.length → (∀ s ∈ ss, s.length ≤ L) → (∀ k ∈ ks, Dg.cut w k.sum = k.sum ∧ k.page < 4294967296) →
    looseN kind pg w L ks.length i (some (kidsT pg w ks ss ++ l)) n = { n with seps := n.seps ++ ss, kids := n.kids ++ ks.map (kdP pg) }
  | [], [], _, _, n, _, _, _, _ => by simp [looseN]
  | k :: ks, s :: ss, i, l, n, h0, hl, hs, hc => by
    have h1 := hc k (by simp)
    have e0 : kidsT pg w (k :: ks) (s :: ss) ++ l = textB s ++ (kB pg w k ++ (kidsT pg w ks ss ++ l)) := by simp [kidsT]
    have e1 : textP L (kidsT pg w (k :: ks) (s :: ss) ++ l) = some (s, kB pg w k ++ (kidsT pg w ks ss ++ l)) := by
      rw [e0]; have := hs s (by simp); exact textP_text this (by omega)
    obtain ⟨o1, o2⟩ := loose_one (pg := pg) (l := kidsT pg w ks ss ++ l) hw h1.1 h1.2
    rw [List.length_cons, looseN_kid hk]
    simp only [h0, if_true]
    rw [gr_some e1, gv_some e1, o1, o2, loose_kids hk hw hL ks ss (i + 1) l _ (by omega) (by simpa using hl) (fun y hy => hs y (by simp [hy])) (fun y hy => hc y (by simp [hy]))]
    simp

theorem take_one {t : Nat} (ht : t < 256) (l : Bs) : takeP 1 (t.toUInt8 :: l) = some (t, l) := by
  have := takeP_fix (n := t) (l := l) 1 (by omega)
  simpa [fixB, Nat.mod_eq_of_lt ht] using this
theorem countP_free {m n : Nat} {l : Bs} (h : n ≤ m) (h64 : n < 18446744073709551616) (hl : n ≤ l.length) : countP m (freeB n ++ l) = some (n, l) := by
  unfold countP; rw [freeP_free h h64]; simp [hl]

/-- A good node's form is read as that node. -/
theorem loose_form {P wd : Nat} {pages : Bool} {n : Nd} (hc : checkE P wd n = 0) (ho : NdOk n) (hlen : (formB pages wd n).length ≤ 3909374676453) : looseP pages wd (formB pages wd n) = pgN pages n := by
  obtain ⟨hr, hs⟩ := checkE_ok hc
  have hr' := rightB_iff.1 hr
  have hP : P ≤ 8192 := by omega
  have hwd : wd ≤ 32 := by omega
  simp only [Int.toNat_natCast] at hs
  have hL : (formB pages wd n).length ≤ 140737488351232 := by omega
  cases hl : leafB n
  · obtain ⟨e1, e2, e3, e4⟩ := branch_good hs hl
    have hnk := ho.nk; have hpg := ho.pg
    obtain ⟨ps, ss, ks⟩ := n
    cases ks with
    | nil => simp at e2
    | cons k ks =>
      simp only at e1 e2 e3 e4 hnk hpg
      subst e1
      have hT := kidsB_T pages wd [] k ks ss e2
      have e2' : ks.length = ss.length := by simp at e2; omega
      have hge := kidsT_ge pages wd ks ss e2'
      have hkB := kB_len pages k hwd
      have hF : formB pages wd ⟨[], ss, k :: ks⟩ = Nat.toUInt8 2 :: (freeB (k :: ks).length ++ (kB pages wd k ++ kidsT pages wd ks ss)) := by
        unfold formB
        rw [if_neg (by simp [hl])]
        simp only
        rw [hT]; rfl
      rw [hF] at hL ⊢
      obtain ⟨L, hLL⟩ : ∃ L, (Nat.toUInt8 2 :: (freeB (k :: ks).length ++ (kB pages wd k ++ kidsT pages wd ks ss))).length = L := ⟨_, rfl⟩
      have hLge : (k :: ks).length ≤ L := by rw [← hLL]; simp; omega
      have hss : ∀ s ∈ ss, s.length ≤ L := fun s h => by
        have h1 := (e3 s h).2
        have h2 : s.length ≤ (kidsT pages wd ks ss).length := by
          clear hT hge hF hLL hLge e3 e4 hpg hnk hkB hL e2 hc hs ho hl hlen h1
          induction ks generalizing ss with
          | nil => cases ss with
            | nil => simp at h
            | cons a b => simp at e2'
          | cons k ks ih => cases ss with
            | nil => simp at h
            | cons a b =>
              simp only [kidsT, List.length_append]
              rcases List.mem_cons.1 h with rfl | h
              · have : (textB s).length = (freeB s.length).length + s.length := by simp [textB]
                omega
              · have := ih b (by simpa using e2') h
                omega
        rw [← hLL]; simp; omega
      unfold looseP
      rw [hLL, gv_some (take_one (by omega) _), gr_some (take_one (by omega) _)]
      have hcn := countP_free (m := L) (n := (k :: ks).length) (l := kB pages wd k ++ kidsT pages wd ks ss) hLge (by omega) (by simp; split at hkB <;> omega)
      rw [gv_some hcn, gr_some hcn]
      have h1 := e4 k (by simp)
      obtain ⟨o1, o2⟩ := loose_one (pg := pages) (l := kidsT pages wd ks ss) hwd h1 (hpg k (by simp))
      rw [List.length_cons, looseN_kid (by decide)]
      simp only [Nat.lt_irrefl, if_false]
      rw [o1, o2]
      have := loose_kids (kind := 2) (by decide) (pg := pages) hwd (by omega : L ≤ 140737488351232) ks ss 1 [] ⟨[], [], [kdP pages k]⟩ (by omega) e2' hss (fun y hy => ⟨e4 y (by simp [hy]), hpg y (by simp [hy])⟩)
      rw [List.append_nil] at this
      refine this.trans ?_
      cases pages <;> simp [pgN, Nd.bare, kdP_true, kdP_false]
  · have hlg := leaf_good hs hl
    have hnp := ho.np
    obtain ⟨e1, e2⟩ := leafB_iff.1 hl
    obtain ⟨ps, ss, ks⟩ := n
    simp only at e1 e2 hlg hnp
    subst e1 e2
    have hF : formB pages wd ⟨ps, [], []⟩ = Nat.toUInt8 1 :: (freeB ps.length ++ pairsB ps) := by
      unfold formB
      rw [if_pos hl]; rfl
    rw [hF] at hL ⊢
    have hge := pairsB_ge ps
    obtain ⟨L, hLL⟩ : ∃ L, (Nat.toUInt8 1 :: (freeB ps.length ++ pairsB ps)).length = L := ⟨_, rfl⟩
    have hLge : ps.length ≤ L := by rw [← hLL]; simp; omega
    have hss : ∀ x ∈ ps, x.1.length ≤ L ∧ x.2.length ≤ L := fun x h => by
      have h2 : (pairB x).length ≤ (pairsB ps).length := by
        obtain ⟨a, b, rfl⟩ := List.append_of_mem h
        simp [pairsB]; omega
      have h3 : (pairB x).length = (freeB x.1.length).length + x.1.length + ((freeB x.2.length).length + x.2.length) := by simp [pairB, textB]; omega
      rw [← hLL]; simp; omega
    unfold looseP
    rw [hLL, gv_some (take_one (by omega) _), gr_some (take_one (by omega) _)]
    have hcn := countP_free (m := L) (n := ps.length) (l := pairsB ps) hLge (by omega) hge
    rw [gv_some hcn, gr_some hcn]
    have := loose_pairs (pg := pages) (w := wd) (by omega : L ≤ 140737488351232) ps 0 [] ⟨[], [], []⟩ hss
    rw [List.append_nil] at this
    refine this.trans ?_
    cases pages <;> simp [pgN, Nd.bare]

/-- Bounds of what is read loosely. -/
structure NdLen (L m : Nat) (n : Nd) : Prop where
  np : n.pairs.length ≤ m
  ns : n.seps.length ≤ m
  nk : n.kids.length ≤ m
  sp : ∀ p ∈ n.pairs, p.1.length ≤ L ∧ p.2.length ≤ L
  ss : ∀ p ∈ n.seps, p.length ≤ L
  pg : ∀ k ∈ n.kids, k.page < 4294967296
theorem textP_le {L : Nat} (o : Option Bs) : (gv (textP L) [] o).length ≤ L := by
  cases o with
  | none => simp [gv]
  | some l =>
    cases h : textP L l with
    | none => rw [gv_none h]; simp
    | some r =>
      obtain ⟨x, l'⟩ := r
      rw [gv_some h]
      exact (textP_len h).2
theorem take4_gv (o : Option Bs) : gv (takeP 4) 0 o < 4294967296 := by
  cases o with
  | none => simp [gv]
  | some l =>
    cases h : takeP 4 l with
    | none => rw [gv_none h]; omega
    | some r =>
      obtain ⟨x, l'⟩ := r
      rw [gv_some h]
      exact take4_lt h
theorem looseN_len {kind : Nat} {pg : Bool} {w L : Nat} : ∀ (f i : Nat) (o : Option Bs) (m : Nat) (n : Nd), NdLen L m n → NdLen L (m + f) (looseN kind pg w L f i o n)
  | 0, _, _, m, n, h => by unfold looseN; exact h
  | f + 1, _, none, m, n, h => by
    unfold looseN
    exact ⟨by have := h.np; omega, by have := h.ns; omega, by have := h.nk; omega, h.sp, h.ss, h.pg⟩
  | f + 1, i, some l, m, n, h => by
    have np := h.np; have ns := h.ns; have nk := h.nk
    by_cases hk : kind = 1
    · rw [looseN_pair hk, show m + (f + 1) = (m + 1) + f by omega]
      refine looseN_len f _ _ _ _ ⟨by simp; omega, by simp only; omega, by simp only; omega, ?_, h.ss, h.pg⟩
      intro p hp
      rcases List.mem_append.1 hp with hp | hp
      · exact h.sp p hp
      · rw [List.mem_singleton] at hp; subst hp; exact ⟨textP_le _, textP_le _⟩
    · rw [looseN_kid hk, show m + (f + 1) = (m + 1) + f by omega]
      refine looseN_len f _ _ _ _ ⟨by simp only; omega, ?_, by simp; omega, h.sp, ?_, ?_⟩
      · simp only; split <;> (try simp only [List.length_append, List.length_singleton]) <;> omega
      · intro p hp
        simp only at hp
        split at hp
        · rcases List.mem_append.1 hp with hp | hp
          · exact h.ss p hp
          · rw [List.mem_singleton] at hp; subst hp; exact textP_le _
        · exact h.ss p hp
      · intro k hp
        rcases List.mem_append.1 hp with hp | hp
        · exact h.pg k hp
        · rw [List.mem_singleton] at hp; subst hp
          simp only
          split
          · exact take4_gv _
          · omega
theorem looseP_ok {pg : Bool} {w : Nat} {s : Bs} (hs : s.length ≤ 3909374676453) : NdOk (looseP pg w s) := by
  have h := looseN_len (kind := gv (takeP 1) 0 (some s)) (pg := pg) (w := w) (L := s.length) (gv (countP s.length) 0 (gr (takeP 1) (some s))) 0 (gr (countP s.length) (gr (takeP 1) (some s))) 0 ⟨[], [], []⟩ ⟨by simp, by simp, by simp, by simp, by simp, by simp⟩
  have hm : gv (countP s.length) 0 (gr (takeP 1) (some s)) ≤ s.length := by
    cases ho : gr (takeP 1) (some s) with
    | none => simp [gv]
    | some l =>
      unfold gv countP
      simp only [Option.bind_some]
      cases hf : freeP s.length l with
      | none => simp
      | some q =>
        obtain ⟨n, l1⟩ := q
        have hn := (freeP_rest hf).2.2
        simp only
        split <;> simp <;> omega
  have a := h.np; have b := h.ns; have c := h.nk
  exact ⟨by unfold looseP; omega, by unfold looseP; omega, by unfold looseP; omega, fun p hp => by have := h.sp p hp; omega, fun p hp => by have := h.ss p hp; omega, h.pg⟩

theorem widN_right {p wd : Int} (h : rightB p wd = true) : widN wd = wd.toNat := by
  have := rightB_iff.1 h
  unfold widN
  rw [if_neg (by omega), if_neg (by omega)]

/-- Unpack's answer, by what is read loosely. -/
theorem unpack_loose {p wd : Int} {s : Bs} (hr : rightB p wd = true) (hs : s.length ≤ 3909374676453) :
    unpackP p wd s = if packE p wd (looseP true (widN wd) s) = 0 ∧ packS p wd (looseP true (widN wd) s) = s then some (looseP true (widN wd) s) else none := by
  split
  · rename_i h
    have := unpack_pack h.1 (looseP_ok hs)
    rwa [h.2] at this
  · rename_i h
    cases hu : unpackP p wd s with
    | none => rfl
    | some n =>
      refine absurd ?_ h
      obtain ⟨e1, e2, e3⟩ := pack_unpack hu
      have ho := parseP_ok hs (unpackP_ok hu).2.2
      have hr' := rightB_iff.1 hr
      obtain ⟨P, rfl⟩ := Int.eq_ofNat_of_zero_le (show 0 ≤ p by omega)
      obtain ⟨d, rfl⟩ := Int.eq_ofNat_of_zero_le (show 0 ≤ wd by omega)
      have hf : formB true d n = s := by unfold packS at e2; rw [if_pos e1] at e2; simpa using e2
      have hl := loose_form (pages := true) e3 ho (by rw [hf]; exact hs)
      rw [hf] at hl
      rw [widN_right hr, Int.toNat_natCast, hl]
      exact ⟨e1, e2⟩
theorem read_loose {p wd : Int} {s : Bs} (hr : rightB p wd = true) (hs : s.length ≤ 3909374676453) :
    readP p wd s = if mayE p wd (looseP false (widN wd) s) = 0 ∧ plainS p wd (looseP false (widN wd) s) = s then some (looseP false (widN wd) s) else none := by
  cases hu : readP p wd s with
  | some n =>
    obtain ⟨e1, e2, e3, e4⟩ := plain_read hu
    have ho := parseP_ok hs (readP_ok hu).2.2
    have hr' := rightB_iff.1 hr
    obtain ⟨P, rfl⟩ := Int.eq_ofNat_of_zero_le (show 0 ≤ p by omega)
    obtain ⟨d, rfl⟩ := Int.eq_ofNat_of_zero_le (show 0 ≤ wd by omega)
    have hf : formB false d n = s := by unfold plainS at e2; rw [if_pos e1] at e2; simpa using e2
    have hl := loose_form (pages := false) e3 ho (by rw [hf]; exact hs)
    have hb : pgN false n = n := by
      unfold pgN Nd.bare
      simp only [Bool.false_eq_true, if_false]
      rw [List.map_congr_left (g := id) (fun k hk => by have := e4 k hk; obtain ⟨a, b⟩ := k; simp at this; subst this; rfl), List.map_id]
    rw [hf, hb] at hl
    rw [widN_right hr, Int.toNat_natCast, hl, if_pos ⟨e1, e2⟩]
  | none =>
    rw [if_neg]
    rintro ⟨h1, h2⟩
    have := read_plain h1 (looseP_ok hs)
    rw [h2, hu] at this
    cases this

theorem sizeN_len {p wd : Int} {n : Nd} (h : mayE p wd n = 0) {pages : Bool} : (formB pages wd.toNat n).length ≤ p.toNat - 32 := by
  obtain ⟨hc, hz⟩ := mayE_ok h
  have hr := rightB_iff.1 (checkE_ok hc).1
  obtain ⟨P, rfl⟩ := Int.eq_ofNat_of_zero_le (show 0 ≤ p by omega)
  obtain ⟨d, rfl⟩ := Int.eq_ofNat_of_zero_le (show 0 ≤ wd by omega)
  have := formB_len (pages := pages) hc
  simp only [Int.toNat_natCast] at hz ⊢
  omega
/-- What is too long is no node. -/
theorem unpack_long {p wd : Int} {s : Bs} (hs : p.toNat - 32 < s.length) : unpackP p wd s = none := by
  cases hu : unpackP p wd s with
  | none => rfl
  | some n =>
    obtain ⟨e1, e2, e3⟩ := pack_unpack hu
    have h := sizeN_len (packE_may e1) (pages := true)
    unfold packS at e2
    rw [if_pos e1] at e2
    rw [e2] at h
    omega
theorem read_long {p wd : Int} {s : Bs} (hs : p.toNat - 32 < s.length) : readP p wd s = none := by
  cases hu : readP p wd s with
  | none => rfl
  | some n =>
    obtain ⟨e1, e2, e3⟩ := plain_read hu
    have h := sizeN_len e1 (pages := false)
    unfold plainS at e2
    rw [if_pos e1] at e2
    rw [e2] at h
    omega
theorem unpack_arg {p wd : Int} {s : Bs} (h : rightB p wd = false) : unpackP p wd s = none := by simp [unpackP, h]
theorem read_arg {p wd : Int} {s : Bs} (h : rightB p wd = false) : readP p wd s = none := by simp [readP, h]

end Go.Proofs.YtemicgccgcmmbaaGreat
