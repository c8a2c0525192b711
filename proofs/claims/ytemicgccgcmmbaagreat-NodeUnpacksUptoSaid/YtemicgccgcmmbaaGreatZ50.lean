/- What bytes would be the form of: the document's loose (values without addresses). -/
import Derived.Test.YtemicgccgcmmbaaGreatZ47
import Derived.Test.YtemicgccgcmmbaaGreatZ49
namespace Go.Proofs.YtemicgccgcmmbaaGreat
set_option linter.unusedVariables false
set_option linter.unusedSimpArgs false
open Go Go.RowKit

/-- What is read of the bytes, loosely. -/
def looseN (kind : Nat) (pg : Bool) (w L : Nat) : Nat → Nat → Option Bs → Nd → Nd
  | 0, _, _, n => n
  | _ + 1, _, none, n => n
  | f + 1, i, some l, n =>
    if kind = 1 then
      looseN kind pg w L f (i + 1) (gr (textP L) (gr (textP L) (some l))) { n with pairs := n.pairs ++ [(gv (textP L) [] (some l), gv (textP L) [] (gr (textP L) (some l)))] }
    else
      let o1 := if 0 < i then gr (textP L) (some l) else some l
      let ss := if 0 < i then n.seps ++ [gv (textP L) [] (some l)] else n.seps
      let pg' := if pg then gv (takeP 4) 0 o1 else 0
      let o2 := if pg then gr (takeP 4) o1 else o1
      looseN kind pg w L f (i + 1) (gr (digP w) o2) { n with seps := ss, kids := n.kids ++ [⟨pg', gv (digP w) Dg.zero o2⟩] }
def looseP (pg : Bool) (w : Nat) (s : Bs) : Nd :=
  looseN (gv (takeP 1) 0 (some s)) pg w s.length (gv (countP s.length) 0 (gr (takeP 1) (some s))) 0 (gr (countP s.length) (gr (takeP 1) (some s))) ⟨[], [], []⟩

theorem nes {a b : Nat} (h : ¬ a = b) : ¬ b = a := fun e => h e.symm
theorem RrTo.head {b : Nat} {t : TypeId} {d : D} {bk : List (Nat × TypeId × D)} {ow : List (Nat × Nat)} {s : Bs} {o : Option Bs} {S1 : Sto} (h : RrTo ⟨(b, t, d) :: bk, ow⟩ b s o S1) : ∃ p c, S1 = ⟨(b, t, rrD s p c) :: bk, ow⟩ ∧ RrIs s o p c := by
  obtain ⟨p, c, rfl, h2⟩ := h
  exact ⟨p, c, by simp only [setM_cons, if_true], h2⟩
theorem RrSt.head {b : Nat} {t : TypeId} {p c : Int} {bk : List (Nat × TypeId × D)} {ow : List (Nat × Nat)} {s : Bs} {o : Option Bs} (h : RrIs s o p c) : RrSt ⟨(b, t, rrD s p c) :: bk, ow⟩ b s o := ⟨t, p, c, by simp only [getM_cons, if_true], h⟩
theorem looseN_none (kind : Nat) (pg : Bool) (w L f i : Nat) (n : Nd) : looseN kind pg w L f i none n = n := by cases f <;> rfl
theorem looseN_pair {kind : Nat} (h : kind = 1) (pg : Bool) (w L f i : Nat) (l : Bs) (n : Nd) : looseN kind pg w L (f + 1) i (some l) n = looseN kind pg w L f (i + 1) (gr (textP L) (gr (textP L) (some l))) { n with pairs := n.pairs ++ [(gv (textP L) [] (some l), gv (textP L) [] (gr (textP L) (some l)))] } := by
  rw [looseN, if_pos h]
theorem looseN_kid {kind : Nat} (h : ¬ kind = 1) (pg : Bool) (w L f i : Nat) (l : Bs) (n : Nd) : looseN kind pg w L (f + 1) i (some l) n =
      (let o1 := if 0 < i then gr (textP L) (some l) else some l
      let ss := if 0 < i then n.seps ++ [gv (textP L) [] (some l)] else n.seps
      let pg' := if pg then gv (takeP 4) 0 o1 else 0
      let o2 := if pg then gr (takeP 4) o1 else o1
      looseN kind pg w L f (i + 1) (gr (digP w) o2) { n with seps := ss, kids := n.kids ++ [⟨pg', gv (digP w) Dg.zero o2⟩] }) := by
  rw [looseN, if_neg h]

/-- The three lists that grow. -/
structure NdGrw (ow0 ow : List (Nat × Nat)) (tp ts tk : Tag) (n : Nd) : Prop where
  p : Grw ow 56 2 tp (n.pairs.map prD)
  s : Grw ow 9 1 ts (n.seps.map sD)
  k : Grw ow 59 33 tk (n.kids.map kdD)
  ps : ∀ b, tagB tp = some b → tagB ts ≠ some b
  pk : ∀ b, tagB tp = some b → tagB tk ≠ some b
  sk : ∀ b, tagB ts = some b → tagB tk ≠ some b
  sub : List.Sublist ow0 ow
  out : ∀ b, tagB tp = some b ∨ tagB ts = some b ∨ tagB tk = some b → b ∉ ow0.map (·.1)
theorem NdGrw.nil (ow : List (Nat × Nat)) : NdGrw ow ow .nil .nil .nil ⟨[], [], []⟩ := by
  refine ⟨Grw.nil _ _ _, Grw.nil _ _ _, Grw.nil _ _ _, ?_, ?_, ?_, List.Sublist.refl _, ?_⟩ <;> simp [tagB]
theorem NdGrw.addP {ow0 ow : List (Nat × Nat)} {tp ts tk : Tag} {n : Nd} (h : NdGrw ow0 ow tp ts tk n) (x : Pr) {g : Nat} (hg : g ∉ (dropTok tp ow).map (·.1)) :
    NdGrw ow0 ((g, (n.pairs.map prD ++ [prD x]).length * 2) :: dropTok tp ow) (.own g 56 2) ts tk { n with pairs := n.pairs ++ [x] } := by
  have hps : ∀ b, tagB ts = some b → tagB tp ≠ some b := fun b hb hc => h.ps b hc hb
  have hpk : ∀ b, tagB tk = some b → tagB tp ≠ some b := fun b hb hc => h.pk b hc hb
  have f1 := h.s.fresh hps hg
  have f2 := h.k.fresh hpk hg
  refine ⟨?_, h.s.keep hps, h.k.keep hpk, ?_, ?_, h.sk, drop_keep h.sub (fun b hb => h.out b (.inl hb)), ?_⟩
  · simp only [List.map_append, List.map_cons, List.map_nil]; exact Grw.new
  · intro b hb hc; simp only [tagB, Option.some.injEq] at hb; exact f1 b hc hb
  · intro b hb hc; simp only [tagB, Option.some.injEq] at hb; exact f2 b hc hb
  · rintro b (hb | hb | hb)
    · simp only [tagB, Option.some.injEq] at hb; subst hb; exact fresh_keep h.sub (fun b hb => h.out b (.inl hb)) hg
    · exact h.out b (.inr (.inl hb))
    · exact h.out b (.inr (.inr hb))
theorem NdGrw.addS {ow0 ow : List (Nat × Nat)} {tp ts tk : Tag} {n : Nd} (h : NdGrw ow0 ow tp ts tk n) (x : Bs) {g : Nat} (hg : g ∉ (dropTok ts ow).map (·.1)) :
    NdGrw ow0 ((g, (n.seps.map sD ++ [sD x]).length * 1) :: dropTok ts ow) tp (.own g 9 1) tk { n with seps := n.seps ++ [x] } := by
  have hsk : ∀ b, tagB tk = some b → tagB ts ≠ some b := fun b hb hc => h.sk b hc hb
  have f1 := h.p.fresh h.ps hg
  have f2 := h.k.fresh hsk hg
  refine ⟨h.p.keep h.ps, ?_, h.k.keep hsk, ?_, h.pk, ?_, drop_keep h.sub (fun b hb => h.out b (.inr (.inl hb))), ?_⟩
  · simp only [List.map_append, List.map_cons, List.map_nil]; exact Grw.new
  · intro b hb hc; simp only [tagB, Option.some.injEq] at hc; exact f1 b hb hc
  · intro b hb hc; simp only [tagB, Option.some.injEq] at hb; exact f2 b hc hb
  · rintro b (hb | hb | hb)
    · exact h.out b (.inl hb)
    · simp only [tagB, Option.some.injEq] at hb; subst hb; exact fresh_keep h.sub (fun b hb => h.out b (.inr (.inl hb))) hg
    · exact h.out b (.inr (.inr hb))
theorem NdGrw.addK {ow0 ow : List (Nat × Nat)} {tp ts tk : Tag} {n : Nd} (h : NdGrw ow0 ow tp ts tk n) (x : Kd) {g : Nat} (hg : g ∉ (dropTok tk ow).map (·.1)) :
    NdGrw ow0 ((g, (n.kids.map kdD ++ [kdD x]).length * 33) :: dropTok tk ow) tp ts (.own g 59 33) { n with kids := n.kids ++ [x] } := by
  have f1 := h.p.fresh h.pk hg
  have f2 := h.s.fresh h.sk hg
  refine ⟨h.p.keep h.pk, h.s.keep h.sk, ?_, h.ps, ?_, ?_, drop_keep h.sub (fun b hb => h.out b (.inr (.inr hb))), ?_⟩
  · simp only [List.map_append, List.map_cons, List.map_nil]; exact Grw.new
  · intro b hb hc; simp only [tagB, Option.some.injEq] at hc; exact f1 b hb hc
  · intro b hb hc; simp only [tagB, Option.some.injEq] at hc; exact f2 b hb hc
  · rintro b (hb | hb | hb)
    · exact h.out b (.inl hb)
    · exact h.out b (.inr (.inl hb))
    · simp only [tagB, Option.some.injEq] at hb; subst hb; exact fresh_keep h.sub (fun b hb => h.out b (.inr (.inr hb))) hg

theorem prD_size (p : Pr) : (prD p).size = 2 := rfl
theorem kdD_size (k : Kd) : (kdD k).size = 33 := rfl
theorem rest_le (m : Nat) (s : Bs) (o : Option Bs) : gv (countP m) 0 o ≤ (o.getD []).length := by
  cases o with
  | none => simp [gv]
  | some l =>
    simp only [gv, Option.bind_some, Option.getD_some]
    unfold countP
    cases hf : freeP m l with
    | none => simp
    | some r =>
      obtain ⟨n, l'⟩ := r
      have := (freeP_rest hf).2.1
      simp only
      split <;> simp <;> omega

set_option maxHeartbeats 1000000 in set_option maxRecDepth 100000 in
theorem aLoose (p w : Int) (s : Bs) (pg : Bool) (S : Sto) (hs : s.length ≤ 3909374676453) :
    ACalls Tryz.prog 37 [frD p w, sD s, bD pg] S (fun e S' => ∃ d, e = .ret d ∧ d = ndA (looseP pg (widN w) s) ∧ S' = S) := by
  refine acalls_of prg Tryz.func37 rfl (by kernel_rfl) (congrArg Array.toList Tryz.results37) Tryz.ntmps37 (fun B hB => ?_); simp only [List.length_cons, List.length_nil, Nat.reduceAdd, Nat.reduceSub, List.replicate_succ, List.replicate_zero, List.cons_append, List.nil_append]
  repeat (first | ((first | apply AOps.goP prg | apply ALex.goP prg); (case run => simp only [go_sem, Int.reduceEq, Int.reduceLT, Int.reduceBEq, Int.reduceBNe, Int.reduceNe, Nat.reduceLeDiff, Nat.reduceAdd, Nat.reduceSub, Nat.reduceLT, Nat.reduceEqDiff, Nat.reduceBEq, Int.reduceLE, Int.reduceToNat]; rfl); (case mm => simp only [go_sem, Int.reduceEq, Int.reduceLT, Int.reduceBEq, Int.reduceBNe, Int.reduceNe, Nat.reduceLeDiff, Nat.reduceAdd, Nat.reduceSub, Nat.reduceLT, Nat.reduceEqDiff, Nat.reduceBEq, Int.reduceLE, Int.reduceToNat]; rfl); (case pr => rfl)) | (refine AW.seq ?_) | (refine AW.region ?_) | (refine AW.draw prg (by kernel_rfl) ?_) | (refine AOps.nil ?_; try dsimp only [AX.then, AX.inBlock]) | (refine ALex.nil ?_; try dsimp only [AX.then, AX.inBlock]) | (refine AW.condT (by rfl) ?_) | (refine AW.condF (by rfl) ?_) | (refine AW.skip ?_; try dsimp only [AX.then, AX.inBlock]) | (refine AW.ret ?_; try dsimp only [AX.then, AX.inBlock]) | (refine AW.block ?_) | (refine AW.exit ?_; simp only [AX.then, AX.inBlock, if_true, Nat.reduceEqDiff, if_false]))
  refine AOps.alloc prg (by rfl) (by rfl) (by rfl) (by rfl) ?_; rintro b6 ⟨k_b6, o_b6⟩; (try simp only [List.map_cons, List.mem_cons, not_or] at k_b6)
  repeat (first | ((first | apply AOps.goP prg | apply ALex.goP prg); (case run => simp only [go_sem, Int.reduceEq, Int.reduceLT, Int.reduceBEq, Int.reduceBNe, Int.reduceNe, Nat.reduceLeDiff, Nat.reduceAdd, Nat.reduceSub, Nat.reduceLT, Nat.reduceEqDiff, Nat.reduceBEq, Int.reduceLE, Int.reduceToNat]; rfl); (case mm => simp only [go_sem, Int.reduceEq, Int.reduceLT, Int.reduceBEq, Int.reduceBNe, Int.reduceNe, Nat.reduceLeDiff, Nat.reduceAdd, Nat.reduceSub, Nat.reduceLT, Nat.reduceEqDiff, Nat.reduceBEq, Int.reduceLE, Int.reduceToNat]; rfl); (case pr => rfl)) | (refine AW.seq ?_) | (refine AW.region ?_) | (refine AW.draw prg (by kernel_rfl) ?_) | (refine AOps.nil ?_; try dsimp only [AX.then, AX.inBlock]) | (refine ALex.nil ?_; try dsimp only [AX.then, AX.inBlock]) | (refine AW.condT (by rfl) ?_) | (refine AW.condF (by rfl) ?_) | (refine AW.skip ?_; try dsimp only [AX.then, AX.inBlock]) | (refine AW.ret ?_; try dsimp only [AX.then, AX.inBlock]) | (refine AW.block ?_) | (refine AW.exit ?_; simp only [AX.then, AX.inBlock, if_true, Nat.reduceEqDiff, if_false]))
  refine AOps.alloc prg (by rfl) (by rfl) (by rfl) (by rfl) ?_; rintro b7 ⟨k_b7, o_b7⟩; (try simp only [List.map_cons, List.mem_cons, not_or] at k_b7)
  repeat ((first | apply AOps.goP prg | apply ALex.goP prg); (case run => simp only [go_sem, Int.reduceEq, Int.reduceLT, Int.reduceBEq, Int.reduceBNe, Int.reduceNe, Nat.reduceLeDiff, Nat.reduceAdd, Nat.reduceSub, Nat.reduceLT, Nat.reduceEqDiff, Nat.reduceBEq, Int.reduceLE, Int.reduceToNat]; rfl); (case mm => simp only [go_sem, Int.reduceEq, Int.reduceLT, Int.reduceBEq, Int.reduceBNe, Int.reduceNe, Nat.reduceLeDiff, Nat.reduceAdd, Nat.reduceSub, Nat.reduceLT, Nat.reduceEqDiff, Nat.reduceBEq, Int.reduceLE, Int.reduceToNat]; rfl); (case pr => rfl))
  refine AOps.nil ?_; dsimp only [AX.then, AX.inBlock]
  refine AW.seq (AW.region ?_)
  apply AOps.goN prg 2; case run => (simp only [go_sem, Int.reduceEq, Int.reduceLT, Int.reduceBEq, Int.reduceBNe, Int.reduceNe, Nat.reduceLeDiff, Nat.reduceAdd, Nat.reduceSub, Nat.reduceLT, Nat.reduceEqDiff, Nat.reduceBEq, Int.reduceLE, Int.reduceToNat]; rfl)
  simp only [List.drop_succ_cons, List.drop_zero]
  refine AOps.boxm (by rfl) (by rfl) (by rfl) ?_; rintro b8 ⟨k_b8, o_b8⟩; (try simp only [List.map_cons, List.mem_cons, not_or] at k_b8)
  have hs2 : s.length ≤ 140737488351232 := by omega
  have hm87 := nes k_b8.1
  have hm86 := nes k_b8.2.1
  have hm76 := nes k_b7.1
  repeat (first | ((first | apply AOps.goP prg | apply ALex.goP prg); (case run => simp only [go_sem, Int.reduceEq, Int.reduceLT, Int.reduceBEq, Int.reduceBNe, Int.reduceNe, Nat.reduceLeDiff, Nat.reduceAdd, Nat.reduceSub, Nat.reduceLT, Nat.reduceEqDiff, Nat.reduceBEq, Int.reduceLE, Int.reduceToNat]; rfl); (case mm => simp only [go_sem, Int.reduceEq, Int.reduceLT, Int.reduceBEq, Int.reduceBNe, Int.reduceNe, Nat.reduceLeDiff, Nat.reduceAdd, Nat.reduceSub, Nat.reduceLT, Nat.reduceEqDiff, Nat.reduceBEq, Int.reduceLE, Int.reduceToNat]; rfl); (case pr => rfl)) | (refine AW.seq ?_) | (refine AW.region ?_) | (refine AW.draw prg (by kernel_rfl) ?_) | (refine AOps.nil ?_; try dsimp only [AX.then, AX.inBlock]) | (refine ALex.nil ?_; try dsimp only [AX.then, AX.inBlock]) | (refine AW.condT (by rfl) ?_) | (refine AW.condF (by rfl) ?_) | (refine AW.skip ?_; try dsimp only [AX.then, AX.inBlock]) | (refine AW.ret ?_; try dsimp only [AX.then, AX.inBlock]) | (refine AW.block ?_) | (refine AW.exit ?_; simp only [AX.then, AX.inBlock, if_true, Nat.reduceEqDiff, if_false]))
  refine AOps.callx (by rfl) (by rfl) (by exact (aTake b8 1 s (some s) _ (RrSt.head (p := 0) (c := 0) ⟨rfl, 0, rfl, by omega, rfl⟩) hs2 (by omega) (by omega))) ?_
  rintro d S1 ⟨rfl, hS1⟩
  obtain ⟨p1, c1, rfl, hr1⟩ := hS1.head
  obtain ⟨kind, hkind⟩ : ∃ k, gv (takeP 1) 0 (some s) = k := ⟨_, rfl⟩
  obtain ⟨o1, ho1⟩ : ∃ o, gr (takeP 1) (some s) = o := ⟨_, rfl⟩
  rw [hkind]
  rw [ho1] at hr1
  repeat (first | ((first | apply AOps.goP prg | apply ALex.goP prg); (case run => simp only [go_sem, Int.reduceEq, Int.reduceLT, Int.reduceBEq, Int.reduceBNe, Int.reduceNe, Nat.reduceLeDiff, Nat.reduceAdd, Nat.reduceSub, Nat.reduceLT, Nat.reduceEqDiff, Nat.reduceBEq, Int.reduceLE, Int.reduceToNat]; rfl); (case mm => simp only [go_sem, Int.reduceEq, Int.reduceLT, Int.reduceBEq, Int.reduceBNe, Int.reduceNe, Nat.reduceLeDiff, Nat.reduceAdd, Nat.reduceSub, Nat.reduceLT, Nat.reduceEqDiff, Nat.reduceBEq, Int.reduceLE, Int.reduceToNat]; rfl); (case pr => rfl)) | (refine AW.seq ?_) | (refine AW.region ?_) | (refine AW.draw prg (by kernel_rfl) ?_) | (refine AOps.nil ?_; try dsimp only [AX.then, AX.inBlock]) | (refine ALex.nil ?_; try dsimp only [AX.then, AX.inBlock]) | (refine AW.condT (by rfl) ?_) | (refine AW.condF (by rfl) ?_) | (refine AW.skip ?_; try dsimp only [AX.then, AX.inBlock]) | (refine AW.ret ?_; try dsimp only [AX.then, AX.inBlock]) | (refine AW.block ?_) | (refine AW.exit ?_; simp only [AX.then, AX.inBlock, if_true, Nat.reduceEqDiff, if_false]))
  refine AOps.callx (by rfl) (by rfl) (by exact (aCount b8 s.length s o1 _ (RrSt.head hr1) hs2 (by omega))) ?_
  rintro d S1 ⟨rfl, hS1⟩
  obtain ⟨p2, c2, rfl, hr2⟩ := hS1.head
  obtain ⟨many, hmany⟩ : ∃ k, gv (countP s.length) 0 o1 = k := ⟨_, rfl⟩
  obtain ⟨o2, ho2⟩ : ∃ o, gr (countP s.length) o1 = o := ⟨_, rfl⟩
  have hml : many ≤ s.length := by
    have h1 := rest_le s.length s o1
    rw [hmany] at h1
    cases o1 with
    | none => simp at h1; omega
    | some l => obtain ⟨_, k, _, hk, _⟩ := hr1; simp at h1; omega
  rw [hmany]
  rw [ho2] at hr2
  have hfin : looseP pg (widN w) s = looseN kind pg (widN w) s.length many 0 o2 ⟨[], [], []⟩ := by unfold looseP; rw [hkind, ho1, hmany, ho2]
  rw [hfin]
  repeat (first | ((first | apply AOps.goP prg | apply ALex.goP prg); (case run => simp only [go_sem, Int.reduceEq, Int.reduceLT, Int.reduceBEq, Int.reduceBNe, Int.reduceNe, Nat.reduceLeDiff, Nat.reduceAdd, Nat.reduceSub, Nat.reduceLT, Nat.reduceEqDiff, Nat.reduceBEq, Int.reduceLE, Int.reduceToNat]; rfl); (case mm => simp only [go_sem, Int.reduceEq, Int.reduceLT, Int.reduceBEq, Int.reduceBNe, Int.reduceNe, Nat.reduceLeDiff, Nat.reduceAdd, Nat.reduceSub, Nat.reduceLT, Nat.reduceEqDiff, Nat.reduceBEq, Int.reduceLE, Int.reduceToNat]; rfl); (case pr => rfl)) | (refine AW.seq ?_) | (refine AW.region ?_) | (refine AW.draw prg (by kernel_rfl) ?_) | (refine AOps.nil ?_; try dsimp only [AX.then, AX.inBlock]) | (refine ALex.nil ?_; try dsimp only [AX.then, AX.inBlock]) | (refine AW.condT (by rfl) ?_) | (refine AW.condF (by rfl) ?_) | (refine AW.skip ?_; try dsimp only [AX.then, AX.inBlock]) | (refine AW.ret ?_; try dsimp only [AX.then, AX.inBlock]) | (refine AW.block ?_) | (refine AW.exit ?_; simp only [AX.then, AX.inBlock, if_true, Nat.reduceEqDiff, if_false]))
  refine AW.loopS 16 [11, 12, 13, 14, 15] (fun xs S' => ∃ (i : Nat) (o : Option Bs) (p c : Int) (tp ts tk : Tag) (n : Nd) (ow : List (Nat × Nat)), xs = [iD i, .any, .any, .any, .any] ∧ S' = ⟨(b8, 99, rrD s p c) :: (b7, 28, ndT tp ts tk n) :: (b6, 28, ndT .nil .nil .nil ⟨[], [], []⟩) :: S.bk, ow⟩ ∧ RrIs s o p c ∧ i ≤ many ∧ looseN kind pg (widN w) s.length (many - i) i o n = looseN kind pg (widN w) s.length many 0 o2 ⟨[], [], []⟩ ∧ NdGrw S.ow ow tp ts tk n ∧ n.pairs.length ≤ i ∧ n.seps.length ≤ i ∧ n.kids.length ≤ i) (fun xs _ => many - nI (xs.getD 0 .any)) [iD 0, .any, .any, .any, .any] _ ?_ (Sto.Sub.refl _) ⟨0, o2, p2, c2, .nil, .nil, .nil, ⟨[], [], []⟩, S.ow, rfl, rfl, hr2, by omega, rfl, NdGrw.nil _, by simp, by simp, by simp⟩ ?_
  · simp only [go_sem, Int.reduceEq, Int.reduceLT, Int.reduceBEq, Int.reduceBNe, Int.reduceNe, Nat.reduceLeDiff, Nat.reduceAdd, Nat.reduceSub, Nat.reduceLT, Nat.reduceEqDiff, Nat.reduceBEq, Int.reduceLE, Int.reduceToNat, weakA, or_true, true_or, and_self]
  rintro xs S' ⟨i, o, pp, cc, tp, ts, tk, n, ow, rfl, rfl, hr, hi, hl, hg, hnp, hns, hnk⟩
  apply AW.frame; case fr => (simp only [go_sem, Int.reduceEq, Int.reduceLT, Int.reduceBEq, Int.reduceBNe, Int.reduceNe, Nat.reduceLeDiff, Nat.reduceAdd, Nat.reduceSub, Nat.reduceLT, Nat.reduceEqDiff, Nat.reduceBEq, Int.reduceLE, Int.reduceToNat]; rfl)
  clear hS1
  by_cases hlt : i < many
  · have d1 : decide ((i : Int) < many) = true := decide_eq_true (by omega)
    have f5 : IntKind.i64.wrap ((i : Int) + 1) = ((i + 1 : Nat) : Int) := IntWalk.i64_in _ (by omega)
    have hmi : many - i = (many - (i + 1)) + 1 := by omega
    cases o with
    | none =>
      rw [looseN_none] at hl
      have hc : (cc == 0) = false := by rw [beq_eq_false_iff_ne]; exact hr.1
      rw [← hl]
      repeat (first | ((first | apply AOps.goP prg | apply ALex.goP prg); (case run => simp only [go_sem, Int.reduceEq, Int.reduceLT, Int.reduceBEq, Int.reduceBNe, Int.reduceNe, Nat.reduceLeDiff, Nat.reduceAdd, Nat.reduceSub, Nat.reduceLT, Nat.reduceEqDiff, Nat.reduceBEq, Int.reduceLE, Int.reduceToNat, d1, hm87, hm86, hm76, k_b8, k_b7, hc]; rfl); (case mm => simp only [go_sem, Int.reduceEq, Int.reduceLT, Int.reduceBEq, Int.reduceBNe, Int.reduceNe, Nat.reduceLeDiff, Nat.reduceAdd, Nat.reduceSub, Nat.reduceLT, Nat.reduceEqDiff, Nat.reduceBEq, Int.reduceLE, Int.reduceToNat]; rfl); (case pr => rfl)) | (refine AW.seq ?_) | (refine AW.region ?_) | (refine AW.draw prg (by kernel_rfl) ?_) | (refine AOps.nil ?_; try dsimp only [AX.then, AX.inBlock]) | (refine ALex.nil ?_; try dsimp only [AX.then, AX.inBlock]) | (refine AW.condT (by rfl) ?_) | (refine AW.condF (by rfl) ?_) | (refine AW.skip ?_; try dsimp only [AX.then, AX.inBlock]) | (refine AW.ret ?_; try dsimp only [AX.then, AX.inBlock]) | (refine AW.block ?_) | (refine AW.exit ?_; simp only [AX.then, AX.inBlock, if_true, Nat.reduceEqDiff, if_false]))
      refine endu (by simp only [go_sem, Int.reduceEq, Int.reduceLT, Int.reduceBEq, Int.reduceBNe, Int.reduceNe, Nat.reduceLeDiff, Nat.reduceAdd, Nat.reduceSub, Nat.reduceLT, Nat.reduceEqDiff, Nat.reduceBEq, Int.reduceLE, Int.reduceToNat, hm87, hm86, hm76, k_b8, k_b7]; rfl) (by rfl) ?_ ⟨rfl, rfl⟩
      exact ⟨((List.Sublist.refl _).cons _ |>.cons _ |>.cons _), hg.sub⟩
    | some l =>
      obtain ⟨rfl, hr'⟩ := hr
      have hr : RrIs s (some l) pp 0 := ⟨rfl, hr'⟩
      rw [hmi] at hl
      have hc : ((0 : Int) == 0) = true := rfl
      by_cases hk1 : kind = 1
      · have d2 : ((kind : Int) == 1) = true := by rw [beq_iff_eq]; omega
        rw [looseN_pair hk1] at hl
        repeat (first | ((first | apply AOps.goP prg | apply ALex.goP prg); (case run => simp only [go_sem, Int.reduceEq, Int.reduceLT, Int.reduceBEq, Int.reduceBNe, Int.reduceNe, Nat.reduceLeDiff, Nat.reduceAdd, Nat.reduceSub, Nat.reduceLT, Nat.reduceEqDiff, Nat.reduceBEq, Int.reduceLE, Int.reduceToNat, d1, hm87, hm86, hm76, k_b8, k_b7, d2]; rfl); (case mm => simp only [go_sem, Int.reduceEq, Int.reduceLT, Int.reduceBEq, Int.reduceBNe, Int.reduceNe, Nat.reduceLeDiff, Nat.reduceAdd, Nat.reduceSub, Nat.reduceLT, Nat.reduceEqDiff, Nat.reduceBEq, Int.reduceLE, Int.reduceToNat]; rfl); (case pr => rfl)) | (refine AW.seq ?_) | (refine AW.region ?_) | (refine AW.draw prg (by kernel_rfl) ?_) | (refine AOps.nil ?_; try dsimp only [AX.then, AX.inBlock]) | (refine ALex.nil ?_; try dsimp only [AX.then, AX.inBlock]) | (refine AW.condT (by rfl) ?_) | (refine AW.condF (by rfl) ?_) | (refine AW.skip ?_; try dsimp only [AX.then, AX.inBlock]) | (refine AW.ret ?_; try dsimp only [AX.then, AX.inBlock]) | (refine AW.block ?_) | (refine AW.exit ?_; simp only [AX.then, AX.inBlock, if_true, Nat.reduceEqDiff, if_false]))
        refine AOps.callx (by rfl) (by rfl) (by exact (aText b8 s.length s (some l) _ (RrSt.head hr) hs2 (by omega))) ?_
        rintro d S1 ⟨rfl, hS1⟩
        obtain ⟨p3, c3, rfl, hr3⟩ := hS1.head
        obtain ⟨key, hkey⟩ : ∃ k, gv (textP s.length) [] (some l) = k := ⟨_, rfl⟩
        obtain ⟨o3, ho3⟩ : ∃ k, gr (textP s.length) (some l) = k := ⟨_, rfl⟩
        rw [ho3] at hr3 hl
        rw [hkey] at hl ⊢
        clear hS1
        repeat (first | ((first | apply AOps.goP prg | apply ALex.goP prg); (case run => simp only [go_sem, Int.reduceEq, Int.reduceLT, Int.reduceBEq, Int.reduceBNe, Int.reduceNe, Nat.reduceLeDiff, Nat.reduceAdd, Nat.reduceSub, Nat.reduceLT, Nat.reduceEqDiff, Nat.reduceBEq, Int.reduceLE, Int.reduceToNat]; rfl); (case mm => simp only [go_sem, Int.reduceEq, Int.reduceLT, Int.reduceBEq, Int.reduceBNe, Int.reduceNe, Nat.reduceLeDiff, Nat.reduceAdd, Nat.reduceSub, Nat.reduceLT, Nat.reduceEqDiff, Nat.reduceBEq, Int.reduceLE, Int.reduceToNat]; rfl); (case pr => rfl)) | (refine AW.seq ?_) | (refine AW.region ?_) | (refine AW.draw prg (by kernel_rfl) ?_) | (refine AOps.nil ?_; try dsimp only [AX.then, AX.inBlock]) | (refine ALex.nil ?_; try dsimp only [AX.then, AX.inBlock]) | (refine AW.condT (by rfl) ?_) | (refine AW.condF (by rfl) ?_) | (refine AW.skip ?_; try dsimp only [AX.then, AX.inBlock]) | (refine AW.ret ?_; try dsimp only [AX.then, AX.inBlock]) | (refine AW.block ?_) | (refine AW.exit ?_; simp only [AX.then, AX.inBlock, if_true, Nat.reduceEqDiff, if_false]))
        refine AOps.callx (by rfl) (by rfl) (by exact (aText b8 s.length s o3 _ (RrSt.head hr3) hs2 (by omega))) ?_
        rintro d S1 ⟨rfl, hS1⟩
        obtain ⟨p4, c4, rfl, hr4⟩ := hS1.head
        obtain ⟨val, hval⟩ : ∃ k, gv (textP s.length) [] o3 = k := ⟨_, rfl⟩
        obtain ⟨o4, ho4⟩ : ∃ k, gr (textP s.length) o3 = k := ⟨_, rfl⟩
        rw [ho4] at hr4 hl
        rw [hval] at hl ⊢
        clear hS1
        repeat (first | ((first | apply AOps.goP prg | apply ALex.goP prg); (case run => simp only [go_sem, Int.reduceEq, Int.reduceLT, Int.reduceBEq, Int.reduceBNe, Int.reduceNe, Nat.reduceLeDiff, Nat.reduceAdd, Nat.reduceSub, Nat.reduceLT, Nat.reduceEqDiff, Nat.reduceBEq, Int.reduceLE, Int.reduceToNat, hm87, hm86, hm76, k_b8, k_b7]; rfl); (case mm => simp only [go_sem, Int.reduceEq, Int.reduceLT, Int.reduceBEq, Int.reduceBNe, Int.reduceNe, Nat.reduceLeDiff, Nat.reduceAdd, Nat.reduceSub, Nat.reduceLT, Nat.reduceEqDiff, Nat.reduceBEq, Int.reduceLE, Int.reduceToNat]; rfl); (case pr => rfl)) | (refine AW.seq ?_) | (refine AW.region ?_) | (refine AW.draw prg (by kernel_rfl) ?_) | (refine AOps.nil ?_; try dsimp only [AX.then, AX.inBlock]) | (refine ALex.nil ?_; try dsimp only [AX.then, AX.inBlock]) | (refine AW.condT (by rfl) ?_) | (refine AW.condF (by rfl) ?_) | (refine AW.skip ?_; try dsimp only [AX.then, AX.inBlock]) | (refine AW.ret ?_; try dsimp only [AX.then, AX.inBlock]) | (refine AW.block ?_) | (refine AW.exit ?_; simp only [AX.then, AX.inBlock, if_true, Nat.reduceEqDiff, if_false]))
        refine AOps.append prg (t := 24) (e := 56) (z := 2) (by_ := 32) (tg := tp) (es := n.pairs.map prD) (ns := [prD (key, val)]) (by rfl) (by rfl) (by rfl) (by rfl) (by rfl) (by rfl) (by rfl) (by rfl) (by omega) (by kernel_rfl) (by omega) (fun d hd => by
          simp only [List.mem_append, List.mem_map, List.mem_singleton] at hd
          rcases hd with ⟨x, _, rfl⟩ | rfl <;> rfl) hg.p.may (by simp) (by rw [List.length_map]; simp only [List.length_singleton]; omega) ?_
        intro g _ hgo
        have hg2 := hg.addP (key, val) hgo
        repeat (first | ((first | apply AOps.goP prg | apply ALex.goP prg); (case run => simp only [go_sem, Int.reduceEq, Int.reduceLT, Int.reduceBEq, Int.reduceBNe, Int.reduceNe, Nat.reduceLeDiff, Nat.reduceAdd, Nat.reduceSub, Nat.reduceLT, Nat.reduceEqDiff, Nat.reduceBEq, Int.reduceLE, Int.reduceToNat, hm87, hm86, hm76, k_b8, k_b7, f5]; rfl); (case mm => simp only [go_sem, Int.reduceEq, Int.reduceLT, Int.reduceBEq, Int.reduceBNe, Int.reduceNe, Nat.reduceLeDiff, Nat.reduceAdd, Nat.reduceSub, Nat.reduceLT, Nat.reduceEqDiff, Nat.reduceBEq, Int.reduceLE, Int.reduceToNat]; rfl); (case pr => rfl)) | (refine AW.seq ?_) | (refine AW.region ?_) | (refine AW.draw prg (by kernel_rfl) ?_) | (refine AOps.nil ?_; try dsimp only [AX.then, AX.inBlock]) | (refine ALex.nil ?_; try dsimp only [AX.then, AX.inBlock]) | (refine AW.condT (by rfl) ?_) | (refine AW.condF (by rfl) ?_) | (refine AW.skip ?_; try dsimp only [AX.then, AX.inBlock]) | (refine AW.ret ?_; try dsimp only [AX.then, AX.inBlock]) | (refine AW.block ?_) | (refine AW.exit ?_; simp only [AX.then, AX.inBlock, if_true, Nat.reduceEqDiff, if_false]))
        refine ⟨[iD (i + 1 : Nat), .any, .any, .any, .any], _, ?_, Sto.Sub.refl _, ⟨i + 1, o4, p4, c4, _, _, _, _, _, rfl, ?_, hr4, by omega, hl, hg2, by simp; omega, by simp; omega, by simp; omega⟩, ?_⟩
        · simp only [go_sem, Int.reduceEq, Int.reduceLT, Int.reduceBEq, Int.reduceBNe, Int.reduceNe, Nat.reduceLeDiff, Nat.reduceAdd, Nat.reduceSub, Nat.reduceLT, Nat.reduceEqDiff, Nat.reduceBEq, Int.reduceLE, Int.reduceToNat, weakA, or_true, true_or, and_self]
        · simp only [go_sem, Int.reduceEq, Int.reduceLT, Int.reduceBEq, Int.reduceBNe, Int.reduceNe, Nat.reduceLeDiff, Nat.reduceAdd, Nat.reduceSub, Nat.reduceLT, Nat.reduceEqDiff, Nat.reduceBEq, Int.reduceLE, Int.reduceToNat, List.map_append]
        · simp only [go_sem, Int.reduceEq, Int.reduceLT, Int.reduceBEq, Int.reduceBNe, Int.reduceNe, Nat.reduceLeDiff, Nat.reduceAdd, Nat.reduceSub, Nat.reduceLT, Nat.reduceEqDiff, Nat.reduceBEq, Int.reduceLE, Int.reduceToNat, Int.toNat_natCast]; omega
      · have d2 : ((kind : Int) == 1) = false := by rw [beq_eq_false_iff_ne]; omega
        rw [looseN_kid hk1] at hl
        repeat (first | ((first | apply AOps.goP prg | apply ALex.goP prg); (case run => simp only [go_sem, Int.reduceEq, Int.reduceLT, Int.reduceBEq, Int.reduceBNe, Int.reduceNe, Nat.reduceLeDiff, Nat.reduceAdd, Nat.reduceSub, Nat.reduceLT, Nat.reduceEqDiff, Nat.reduceBEq, Int.reduceLE, Int.reduceToNat, d1, hm87, hm86, hm76, k_b8, k_b7, d2]; rfl); (case mm => simp only [go_sem, Int.reduceEq, Int.reduceLT, Int.reduceBEq, Int.reduceBNe, Int.reduceNe, Nat.reduceLeDiff, Nat.reduceAdd, Nat.reduceSub, Nat.reduceLT, Nat.reduceEqDiff, Nat.reduceBEq, Int.reduceLE, Int.reduceToNat]; rfl); (case pr => rfl)) | (refine AW.seq ?_) | (refine AW.region ?_) | (refine AW.draw prg (by kernel_rfl) ?_) | (refine AOps.nil ?_; try dsimp only [AX.then, AX.inBlock]) | (refine ALex.nil ?_; try dsimp only [AX.then, AX.inBlock]) | (refine AW.condT (by rfl) ?_) | (refine AW.condF (by rfl) ?_) | (refine AW.skip ?_; try dsimp only [AX.then, AX.inBlock]) | (refine AW.ret ?_; try dsimp only [AX.then, AX.inBlock]) | (refine AW.block ?_) | (refine AW.exit ?_; simp only [AX.then, AX.inBlock, if_true, Nat.reduceEqDiff, if_false]))
        refine AW.cutK 16 [14] (fun xs S' => ∃ (p3 c3 : Int) (ts3 : Tag) (ow3 : List (Nat × Nat)) (n3 : Nd), xs = [.any] ∧ S' = ⟨(b8, 99, rrD s p3 c3) :: (b7, 28, ndT tp ts3 tk n3) :: (b6, 28, ndT .nil .nil .nil ⟨[], [], []⟩) :: S.bk, ow3⟩ ∧ RrIs s (if 0 < i then gr (textP s.length) (some l) else some l) p3 c3 ∧ n3 = { n with seps := if 0 < i then n.seps ++ [gv (textP s.length) [] (some l)] else n.seps } ∧ NdGrw S.ow ow3 tp ts3 tk n3) ?_ ?_
        · by_cases hi0 : 0 < i
          · have d3 : decide ((i : Int) > 0) = true := decide_eq_true (by omega)
            rw [d3]
            rw [if_pos hi0, if_pos hi0]
            repeat (first | ((first | apply AOps.goP prg | apply ALex.goP prg); (case run => simp only [go_sem, Int.reduceEq, Int.reduceLT, Int.reduceBEq, Int.reduceBNe, Int.reduceNe, Nat.reduceLeDiff, Nat.reduceAdd, Nat.reduceSub, Nat.reduceLT, Nat.reduceEqDiff, Nat.reduceBEq, Int.reduceLE, Int.reduceToNat]; rfl); (case mm => simp only [go_sem, Int.reduceEq, Int.reduceLT, Int.reduceBEq, Int.reduceBNe, Int.reduceNe, Nat.reduceLeDiff, Nat.reduceAdd, Nat.reduceSub, Nat.reduceLT, Nat.reduceEqDiff, Nat.reduceBEq, Int.reduceLE, Int.reduceToNat]; rfl); (case pr => rfl)) | (refine AW.seq ?_) | (refine AW.region ?_) | (refine AW.draw prg (by kernel_rfl) ?_) | (refine AOps.nil ?_; try dsimp only [AX.then, AX.inBlock]) | (refine ALex.nil ?_; try dsimp only [AX.then, AX.inBlock]) | (refine AW.condT (by rfl) ?_) | (refine AW.condF (by rfl) ?_) | (refine AW.skip ?_; try dsimp only [AX.then, AX.inBlock]) | (refine AW.ret ?_; try dsimp only [AX.then, AX.inBlock]) | (refine AW.block ?_) | (refine AW.exit ?_; simp only [AX.then, AX.inBlock, if_true, Nat.reduceEqDiff, if_false]))
            refine AOps.callx (by rfl) (by rfl) (by exact (aText b8 s.length s (some l) _ (RrSt.head hr) hs2 (by omega))) ?_
            rintro d S1 ⟨rfl, hS1⟩
            obtain ⟨p3, c3, rfl, hr3⟩ := hS1.head
            obtain ⟨key, hkey⟩ : ∃ k, gv (textP s.length) [] (some l) = k := ⟨_, rfl⟩
            rw [hkey]
            clear hS1
            repeat (first | ((first | apply AOps.goP prg | apply ALex.goP prg); (case run => simp only [go_sem, Int.reduceEq, Int.reduceLT, Int.reduceBEq, Int.reduceBNe, Int.reduceNe, Nat.reduceLeDiff, Nat.reduceAdd, Nat.reduceSub, Nat.reduceLT, Nat.reduceEqDiff, Nat.reduceBEq, Int.reduceLE, Int.reduceToNat, hm87, hm86, hm76, k_b8, k_b7]; rfl); (case mm => simp only [go_sem, Int.reduceEq, Int.reduceLT, Int.reduceBEq, Int.reduceBNe, Int.reduceNe, Nat.reduceLeDiff, Nat.reduceAdd, Nat.reduceSub, Nat.reduceLT, Nat.reduceEqDiff, Nat.reduceBEq, Int.reduceLE, Int.reduceToNat]; rfl); (case pr => rfl)) | (refine AW.seq ?_) | (refine AW.region ?_) | (refine AW.draw prg (by kernel_rfl) ?_) | (refine AOps.nil ?_; try dsimp only [AX.then, AX.inBlock]) | (refine ALex.nil ?_; try dsimp only [AX.then, AX.inBlock]) | (refine AW.condT (by rfl) ?_) | (refine AW.condF (by rfl) ?_) | (refine AW.skip ?_; try dsimp only [AX.then, AX.inBlock]) | (refine AW.ret ?_; try dsimp only [AX.then, AX.inBlock]) | (refine AW.block ?_) | (refine AW.exit ?_; simp only [AX.then, AX.inBlock, if_true, Nat.reduceEqDiff, if_false]))
            refine AOps.append prg (t := 25) (e := 9) (z := 1) (by_ := 16) (tg := ts) (es := n.seps.map sD) (ns := [sD key]) (by rfl) (by rfl) (by rfl) (by rfl) (by rfl) (by rfl) (by rfl) (by rfl) (by omega) (by kernel_rfl) (by omega) (fun d hd => by
              simp only [List.mem_append, List.mem_map, List.mem_singleton] at hd
              rcases hd with ⟨x, _, rfl⟩ | rfl <;> rfl) hg.s.may (by simp) (by rw [List.length_map]; simp only [List.length_singleton]; omega) ?_
            intro g _ hgo
            have hg2 := hg.addS key hgo
            repeat (first | ((first | apply AOps.goP prg | apply ALex.goP prg); (case run => simp only [go_sem, Int.reduceEq, Int.reduceLT, Int.reduceBEq, Int.reduceBNe, Int.reduceNe, Nat.reduceLeDiff, Nat.reduceAdd, Nat.reduceSub, Nat.reduceLT, Nat.reduceEqDiff, Nat.reduceBEq, Int.reduceLE, Int.reduceToNat, hm87, hm86, hm76, k_b8, k_b7]; rfl); (case mm => simp only [go_sem, Int.reduceEq, Int.reduceLT, Int.reduceBEq, Int.reduceBNe, Int.reduceNe, Nat.reduceLeDiff, Nat.reduceAdd, Nat.reduceSub, Nat.reduceLT, Nat.reduceEqDiff, Nat.reduceBEq, Int.reduceLE, Int.reduceToNat]; rfl); (case pr => rfl)) | (refine AW.seq ?_) | (refine AW.region ?_) | (refine AW.draw prg (by kernel_rfl) ?_) | (refine AOps.nil ?_; try dsimp only [AX.then, AX.inBlock]) | (refine ALex.nil ?_; try dsimp only [AX.then, AX.inBlock]) | (refine AW.condT (by rfl) ?_) | (refine AW.condF (by rfl) ?_) | (refine AW.skip ?_; try dsimp only [AX.then, AX.inBlock]) | (refine AW.ret ?_; try dsimp only [AX.then, AX.inBlock]) | (refine AW.block ?_) | (refine AW.exit ?_; simp only [AX.then, AX.inBlock, if_true, Nat.reduceEqDiff, if_false]))
            refine ⟨[.any], _, ?_, Sto.Sub.refl _, ⟨p3, c3, _, _, _, rfl, ?_, hr3, rfl, hg2⟩⟩
            · simp only [go_sem, Int.reduceEq, Int.reduceLT, Int.reduceBEq, Int.reduceBNe, Int.reduceNe, Nat.reduceLeDiff, Nat.reduceAdd, Nat.reduceSub, Nat.reduceLT, Nat.reduceEqDiff, Nat.reduceBEq, Int.reduceLE, Int.reduceToNat, weakA, or_true, true_or, and_self]
            · simp only [go_sem, Int.reduceEq, Int.reduceLT, Int.reduceBEq, Int.reduceBNe, Int.reduceNe, Nat.reduceLeDiff, Nat.reduceAdd, Nat.reduceSub, Nat.reduceLT, Nat.reduceEqDiff, Nat.reduceBEq, Int.reduceLE, Int.reduceToNat, List.map_append]
          · have d3 : decide ((i : Int) > 0) = false := decide_eq_false (by omega)
            rw [d3]
            rw [if_neg hi0, if_neg hi0]
            repeat (first | ((first | apply AOps.goP prg | apply ALex.goP prg); (case run => simp only [go_sem, Int.reduceEq, Int.reduceLT, Int.reduceBEq, Int.reduceBNe, Int.reduceNe, Nat.reduceLeDiff, Nat.reduceAdd, Nat.reduceSub, Nat.reduceLT, Nat.reduceEqDiff, Nat.reduceBEq, Int.reduceLE, Int.reduceToNat]; rfl); (case mm => simp only [go_sem, Int.reduceEq, Int.reduceLT, Int.reduceBEq, Int.reduceBNe, Int.reduceNe, Nat.reduceLeDiff, Nat.reduceAdd, Nat.reduceSub, Nat.reduceLT, Nat.reduceEqDiff, Nat.reduceBEq, Int.reduceLE, Int.reduceToNat]; rfl); (case pr => rfl)) | (refine AW.seq ?_) | (refine AW.region ?_) | (refine AW.draw prg (by kernel_rfl) ?_) | (refine AOps.nil ?_; try dsimp only [AX.then, AX.inBlock]) | (refine ALex.nil ?_; try dsimp only [AX.then, AX.inBlock]) | (refine AW.condT (by rfl) ?_) | (refine AW.condF (by rfl) ?_) | (refine AW.skip ?_; try dsimp only [AX.then, AX.inBlock]) | (refine AW.ret ?_; try dsimp only [AX.then, AX.inBlock]) | (refine AW.block ?_) | (refine AW.exit ?_; simp only [AX.then, AX.inBlock, if_true, Nat.reduceEqDiff, if_false]))
            refine ⟨[.any], _, ?_, Sto.Sub.refl _, ⟨pp, 0, _, _, _, rfl, ?_, hr, rfl, hg⟩⟩
            · simp only [go_sem, Int.reduceEq, Int.reduceLT, Int.reduceBEq, Int.reduceBNe, Int.reduceNe, Nat.reduceLeDiff, Nat.reduceAdd, Nat.reduceSub, Nat.reduceLT, Nat.reduceEqDiff, Nat.reduceBEq, Int.reduceLE, Int.reduceToNat, weakA, or_true, true_or, and_self]
            · rfl
        rintro xs S' ⟨p3, c3, ts3, ow3, n3, rfl, rfl, hr3, hn3, hg3⟩
        apply AW.frame; case fr => (simp only [go_sem, Int.reduceEq, Int.reduceLT, Int.reduceBEq, Int.reduceBNe, Int.reduceNe, Nat.reduceLeDiff, Nat.reduceAdd, Nat.reduceSub, Nat.reduceLT, Nat.reduceEqDiff, Nat.reduceBEq, Int.reduceLE, Int.reduceToNat]; rfl)
        obtain ⟨o3, ho3⟩ : ∃ o, (if 0 < i then gr (textP s.length) (some l) else some l) = o := ⟨_, rfl⟩
        rw [ho3] at hr3
        simp only [ho3, ← hn3] at hl
        have hkids : n3.kids = n.kids := by rw [hn3]
        have hpairs : n3.pairs = n.pairs := by rw [hn3]
        have hseps : n3.seps.length ≤ i + 1 := by rw [hn3]; show (if 0 < i then n.seps ++ [gv (textP s.length) [] (some l)] else n.seps).length ≤ i + 1; split <;> (try simp) <;> omega
        rw [← hkids] at hl
        clear hr ho2 hS1
        repeat (first | ((first | apply AOps.goP prg | apply ALex.goP prg); (case run => simp only [go_sem, Int.reduceEq, Int.reduceLT, Int.reduceBEq, Int.reduceBNe, Int.reduceNe, Nat.reduceLeDiff, Nat.reduceAdd, Nat.reduceSub, Nat.reduceLT, Nat.reduceEqDiff, Nat.reduceBEq, Int.reduceLE, Int.reduceToNat]; rfl); (case mm => simp only [go_sem, Int.reduceEq, Int.reduceLT, Int.reduceBEq, Int.reduceBNe, Int.reduceNe, Nat.reduceLeDiff, Nat.reduceAdd, Nat.reduceSub, Nat.reduceLT, Nat.reduceEqDiff, Nat.reduceBEq, Int.reduceLE, Int.reduceToNat]; rfl); (case pr => rfl)) | (refine AW.seq ?_) | (refine AW.region ?_) | (refine AW.draw prg (by kernel_rfl) ?_) | (refine AOps.nil ?_; try dsimp only [AX.then, AX.inBlock]) | (refine ALex.nil ?_; try dsimp only [AX.then, AX.inBlock]) | (refine AW.condT (by rfl) ?_) | (refine AW.condF (by rfl) ?_) | (refine AW.skip ?_; try dsimp only [AX.then, AX.inBlock]) | (refine AW.ret ?_; try dsimp only [AX.then, AX.inBlock]) | (refine AW.block ?_) | (refine AW.exit ?_; simp only [AX.then, AX.inBlock, if_true, Nat.reduceEqDiff, if_false]))
        refine AOps.alloc prg (by rfl) (by rfl) (by rfl) (by rfl) ?_; rintro b15 ⟨k_b15, o_b15⟩; (try simp only [List.map_cons, List.mem_cons, not_or] at k_b15)
        have hm15a := nes k_b15.1
        have hm15b := nes k_b15.2.1
        have hm15c := nes k_b15.2.2.1
        repeat (first | ((first | apply AOps.goP prg | apply ALex.goP prg); (case run => simp only [go_sem, Int.reduceEq, Int.reduceLT, Int.reduceBEq, Int.reduceBNe, Int.reduceNe, Nat.reduceLeDiff, Nat.reduceAdd, Nat.reduceSub, Nat.reduceLT, Nat.reduceEqDiff, Nat.reduceBEq, Int.reduceLE, Int.reduceToNat]; rfl); (case mm => simp only [go_sem, Int.reduceEq, Int.reduceLT, Int.reduceBEq, Int.reduceBNe, Int.reduceNe, Nat.reduceLeDiff, Nat.reduceAdd, Nat.reduceSub, Nat.reduceLT, Nat.reduceEqDiff, Nat.reduceBEq, Int.reduceLE, Int.reduceToNat]; rfl); (case pr => rfl)) | (refine AW.seq ?_) | (refine AW.region ?_) | (refine AW.draw prg (by kernel_rfl) ?_) | (refine AOps.nil ?_; try dsimp only [AX.then, AX.inBlock]) | (refine ALex.nil ?_; try dsimp only [AX.then, AX.inBlock]) | (refine AW.condT (by rfl) ?_) | (refine AW.condF (by rfl) ?_) | (refine AW.skip ?_; try dsimp only [AX.then, AX.inBlock]) | (refine AW.ret ?_; try dsimp only [AX.then, AX.inBlock]) | (refine AW.block ?_) | (refine AW.exit ?_; simp only [AX.then, AX.inBlock, if_true, Nat.reduceEqDiff, if_false]))
        refine AW.cutK 16 [] (fun xs S' => ∃ (p4 c4 : Int), xs = [] ∧ S' = ⟨(b15, 59, kdD ⟨if pg then gv (takeP 4) 0 o3 else 0, Dg.zero⟩) :: (b8, 99, rrD s p4 c4) :: (b7, 28, ndT tp ts3 tk n3) :: (b6, 28, ndT .nil .nil .nil ⟨[], [], []⟩) :: S.bk, ow3⟩ ∧ RrIs s (if pg then gr (takeP 4) o3 else o3) p4 c4) ?_ ?_
        · cases pg with
          | true =>
            simp only [if_true]
            repeat (first | ((first | apply AOps.goP prg | apply ALex.goP prg); (case run => simp only [go_sem, Int.reduceEq, Int.reduceLT, Int.reduceBEq, Int.reduceBNe, Int.reduceNe, Nat.reduceLeDiff, Nat.reduceAdd, Nat.reduceSub, Nat.reduceLT, Nat.reduceEqDiff, Nat.reduceBEq, Int.reduceLE, Int.reduceToNat]; rfl); (case mm => simp only [go_sem, Int.reduceEq, Int.reduceLT, Int.reduceBEq, Int.reduceBNe, Int.reduceNe, Nat.reduceLeDiff, Nat.reduceAdd, Nat.reduceSub, Nat.reduceLT, Nat.reduceEqDiff, Nat.reduceBEq, Int.reduceLE, Int.reduceToNat]; rfl); (case pr => rfl)) | (refine AW.seq ?_) | (refine AW.region ?_) | (refine AW.draw prg (by kernel_rfl) ?_) | (refine AOps.nil ?_; try dsimp only [AX.then, AX.inBlock]) | (refine ALex.nil ?_; try dsimp only [AX.then, AX.inBlock]) | (refine AW.condT (by rfl) ?_) | (refine AW.condF (by rfl) ?_) | (refine AW.skip ?_; try dsimp only [AX.then, AX.inBlock]) | (refine AW.ret ?_; try dsimp only [AX.then, AX.inBlock]) | (refine AW.block ?_) | (refine AW.exit ?_; simp only [AX.then, AX.inBlock, if_true, Nat.reduceEqDiff, if_false]))
            refine AOps.callx (by rfl) (by rfl) (by exact (aTake b8 4 s o3 _ (RrSt.cons' (RrSt.head hr3) (by simp only [List.map_cons, List.mem_cons, not_or]; exact k_b15)) hs2 (by omega) (by omega))) ?_
            rintro d S1 ⟨rfl, hS1⟩
            obtain ⟨S2, hS2, rfl⟩ := hS1.cons' hm15a
            obtain ⟨p4, c4, rfl, hr4⟩ := hS2.head
            obtain ⟨x, hx⟩ : ∃ k, gv (takeP 4) 0 o3 = k := ⟨_, rfl⟩
            have hx4 : x < 4294967296 := by
              rw [← hx]
              cases o3 with
              | none => simp [gv]
              | some l3 =>
                by_cases hle : 4 ≤ l3.length
                · rw [gv_some (show takeP 4 l3 = some (be (l3.take 4) 0, l3.drop 4) by simp [takeP, hle])]
                  have h1 := be_lt (l3.take 4)
                  have h2 : (l3.take 4).length = 4 := by rw [List.length_take]; omega
                  rw [h2] at h1
                  exact h1
                · rw [gv_none (show takeP 4 l3 = none by simp [takeP, hle])]; omega
            rw [hx]
            have f1 : IntKind.u32.wrap (x : Int) = x := by rw [IntKind.wrap_u32]; omega
            repeat (first | ((first | apply AOps.goP prg | apply ALex.goP prg); (case run => simp only [go_sem, Int.reduceEq, Int.reduceLT, Int.reduceBEq, Int.reduceBNe, Int.reduceNe, Nat.reduceLeDiff, Nat.reduceAdd, Nat.reduceSub, Nat.reduceLT, Nat.reduceEqDiff, Nat.reduceBEq, Int.reduceLE, Int.reduceToNat, hm15a, f1]; rfl); (case mm => simp only [go_sem, Int.reduceEq, Int.reduceLT, Int.reduceBEq, Int.reduceBNe, Int.reduceNe, Nat.reduceLeDiff, Nat.reduceAdd, Nat.reduceSub, Nat.reduceLT, Nat.reduceEqDiff, Nat.reduceBEq, Int.reduceLE, Int.reduceToNat]; rfl); (case pr => rfl)) | (refine AW.seq ?_) | (refine AW.region ?_) | (refine AW.draw prg (by kernel_rfl) ?_) | (refine AOps.nil ?_; try dsimp only [AX.then, AX.inBlock]) | (refine ALex.nil ?_; try dsimp only [AX.then, AX.inBlock]) | (refine AW.condT (by rfl) ?_) | (refine AW.condF (by rfl) ?_) | (refine AW.skip ?_; try dsimp only [AX.then, AX.inBlock]) | (refine AW.ret ?_; try dsimp only [AX.then, AX.inBlock]) | (refine AW.block ?_) | (refine AW.exit ?_; simp only [AX.then, AX.inBlock, if_true, Nat.reduceEqDiff, if_false]))
            refine ⟨[], _, ?_, Sto.Sub.refl _, ⟨p4, c4, rfl, rfl, hr4⟩⟩
            simp only [go_sem, Int.reduceEq, Int.reduceLT, Int.reduceBEq, Int.reduceBNe, Int.reduceNe, Nat.reduceLeDiff, Nat.reduceAdd, Nat.reduceSub, Nat.reduceLT, Nat.reduceEqDiff, Nat.reduceBEq, Int.reduceLE, Int.reduceToNat, weakA, or_true, true_or, and_self]
          | false =>
            simp only [Bool.false_eq_true, if_false]
            repeat (first | ((first | apply AOps.goP prg | apply ALex.goP prg); (case run => simp only [go_sem, Int.reduceEq, Int.reduceLT, Int.reduceBEq, Int.reduceBNe, Int.reduceNe, Nat.reduceLeDiff, Nat.reduceAdd, Nat.reduceSub, Nat.reduceLT, Nat.reduceEqDiff, Nat.reduceBEq, Int.reduceLE, Int.reduceToNat]; rfl); (case mm => simp only [go_sem, Int.reduceEq, Int.reduceLT, Int.reduceBEq, Int.reduceBNe, Int.reduceNe, Nat.reduceLeDiff, Nat.reduceAdd, Nat.reduceSub, Nat.reduceLT, Nat.reduceEqDiff, Nat.reduceBEq, Int.reduceLE, Int.reduceToNat]; rfl); (case pr => rfl)) | (refine AW.seq ?_) | (refine AW.region ?_) | (refine AW.draw prg (by kernel_rfl) ?_) | (refine AOps.nil ?_; try dsimp only [AX.then, AX.inBlock]) | (refine ALex.nil ?_; try dsimp only [AX.then, AX.inBlock]) | (refine AW.condT (by rfl) ?_) | (refine AW.condF (by rfl) ?_) | (refine AW.skip ?_; try dsimp only [AX.then, AX.inBlock]) | (refine AW.ret ?_; try dsimp only [AX.then, AX.inBlock]) | (refine AW.block ?_) | (refine AW.exit ?_; simp only [AX.then, AX.inBlock, if_true, Nat.reduceEqDiff, if_false]))
            refine ⟨[], _, ?_, Sto.Sub.refl _, ⟨p3, c3, rfl, rfl, hr3⟩⟩
            simp only [go_sem, Int.reduceEq, Int.reduceLT, Int.reduceBEq, Int.reduceBNe, Int.reduceNe, Nat.reduceLeDiff, Nat.reduceAdd, Nat.reduceSub, Nat.reduceLT, Nat.reduceEqDiff, Nat.reduceBEq, Int.reduceLE, Int.reduceToNat, weakA, or_true, true_or, and_self]
        rintro xs S' ⟨p4, c4, rfl, rfl, hr4⟩
        apply AW.frame; case fr => (simp only [go_sem, Int.reduceEq, Int.reduceLT, Int.reduceBEq, Int.reduceBNe, Int.reduceNe, Nat.reduceLeDiff, Nat.reduceAdd, Nat.reduceSub, Nat.reduceLT, Nat.reduceEqDiff, Nat.reduceBEq, Int.reduceLE, Int.reduceToNat]; rfl)
        obtain ⟨o4, ho4⟩ : ∃ o, (if pg then gr (takeP 4) o3 else o3) = o := ⟨_, rfl⟩
        obtain ⟨page, hpage⟩ : ∃ o, (if pg then gv (takeP 4) 0 o3 else 0) = o := ⟨_, rfl⟩
        rw [ho4] at hr4
        rw [hpage]
        simp only [ho4, hpage] at hl
        repeat (first | ((first | apply AOps.goP prg | apply ALex.goP prg); (case run => simp only [go_sem, Int.reduceEq, Int.reduceLT, Int.reduceBEq, Int.reduceBNe, Int.reduceNe, Nat.reduceLeDiff, Nat.reduceAdd, Nat.reduceSub, Nat.reduceLT, Nat.reduceEqDiff, Nat.reduceBEq, Int.reduceLE, Int.reduceToNat]; rfl); (case mm => simp only [go_sem, Int.reduceEq, Int.reduceLT, Int.reduceBEq, Int.reduceBNe, Int.reduceNe, Nat.reduceLeDiff, Nat.reduceAdd, Nat.reduceSub, Nat.reduceLT, Nat.reduceEqDiff, Nat.reduceBEq, Int.reduceLE, Int.reduceToNat]; rfl); (case pr => rfl)) | (refine AW.seq ?_) | (refine AW.region ?_) | (refine AW.draw prg (by kernel_rfl) ?_) | (refine AOps.nil ?_; try dsimp only [AX.then, AX.inBlock]) | (refine ALex.nil ?_; try dsimp only [AX.then, AX.inBlock]) | (refine AW.condT (by rfl) ?_) | (refine AW.condF (by rfl) ?_) | (refine AW.skip ?_; try dsimp only [AX.then, AX.inBlock]) | (refine AW.ret ?_; try dsimp only [AX.then, AX.inBlock]) | (refine AW.block ?_) | (refine AW.exit ?_; simp only [AX.then, AX.inBlock, if_true, Nat.reduceEqDiff, if_false]))
        refine AOps.callx (by rfl) (by rfl) (by exact (aDigest b8 w s o4 _ (RrSt.cons' (RrSt.head hr4) (by simp only [List.map_cons, List.mem_cons, not_or]; exact k_b15)) hs2)) ?_
        rintro d S1 ⟨rfl, hS1⟩
        obtain ⟨S2, hS2, rfl⟩ := hS1.cons' hm15a
        obtain ⟨p5, c5, rfl, hr5⟩ := hS2.head
        obtain ⟨o5, ho5⟩ : ∃ o, gr (digP (widN w)) o4 = o := ⟨_, rfl⟩
        obtain ⟨sum, hsum⟩ : ∃ o, gv (digP (widN w)) Dg.zero o4 = o := ⟨_, rfl⟩
        rw [ho5] at hr5
        rw [hsum]
        rw [ho5, hsum] at hl
        clear hS1 hS2
        repeat (first | ((first | apply AOps.goP prg | apply ALex.goP prg); (case run => simp only [go_sem, Int.reduceEq, Int.reduceLT, Int.reduceBEq, Int.reduceBNe, Int.reduceNe, Nat.reduceLeDiff, Nat.reduceAdd, Nat.reduceSub, Nat.reduceLT, Nat.reduceEqDiff, Nat.reduceBEq, Int.reduceLE, Int.reduceToNat, hm15a, hm15b, hm15c, hm87, hm86, hm76, k_b8, k_b7, k_b15]; rfl); (case mm => simp only [go_sem, Int.reduceEq, Int.reduceLT, Int.reduceBEq, Int.reduceBNe, Int.reduceNe, Nat.reduceLeDiff, Nat.reduceAdd, Nat.reduceSub, Nat.reduceLT, Nat.reduceEqDiff, Nat.reduceBEq, Int.reduceLE, Int.reduceToNat]; rfl); (case pr => rfl)) | (refine AW.seq ?_) | (refine AW.region ?_) | (refine AW.draw prg (by kernel_rfl) ?_) | (refine AOps.nil ?_; try dsimp only [AX.then, AX.inBlock]) | (refine ALex.nil ?_; try dsimp only [AX.then, AX.inBlock]) | (refine AW.condT (by rfl) ?_) | (refine AW.condF (by rfl) ?_) | (refine AW.skip ?_; try dsimp only [AX.then, AX.inBlock]) | (refine AW.ret ?_; try dsimp only [AX.then, AX.inBlock]) | (refine AW.block ?_) | (refine AW.exit ?_; simp only [AX.then, AX.inBlock, if_true, Nat.reduceEqDiff, if_false]))
        refine AOps.append prg (t := 26) (e := 59) (z := 33) (by_ := 36) (tg := tk) (es := n3.kids.map kdD) (ns := [kdD ⟨page, sum⟩]) (by rfl) (by rfl) (by rfl) (by rfl) (by rfl) (by rfl) (by rfl) (by rfl) (by omega) (by kernel_rfl) (by omega) (fun d hd => by
          simp only [List.mem_append, List.mem_map, List.mem_singleton] at hd
          rcases hd with ⟨x, _, rfl⟩ | rfl <;> rfl) hg3.k.may (by simp) (by rw [List.length_map, hkids]; simp only [List.length_singleton]; omega) ?_
        intro g _ hgo
        have hg4 := hg3.addK ⟨page, sum⟩ hgo
        repeat (first | ((first | apply AOps.goP prg | apply ALex.goP prg); (case run => simp only [go_sem, Int.reduceEq, Int.reduceLT, Int.reduceBEq, Int.reduceBNe, Int.reduceNe, Nat.reduceLeDiff, Nat.reduceAdd, Nat.reduceSub, Nat.reduceLT, Nat.reduceEqDiff, Nat.reduceBEq, Int.reduceLE, Int.reduceToNat, hm15a, hm15b, hm15c, hm87, hm86, hm76, k_b8, k_b7, k_b15, f5]; rfl); (case mm => simp only [go_sem, Int.reduceEq, Int.reduceLT, Int.reduceBEq, Int.reduceBNe, Int.reduceNe, Nat.reduceLeDiff, Nat.reduceAdd, Nat.reduceSub, Nat.reduceLT, Nat.reduceEqDiff, Nat.reduceBEq, Int.reduceLE, Int.reduceToNat]; rfl); (case pr => rfl)) | (refine AW.seq ?_) | (refine AW.region ?_) | (refine AW.draw prg (by kernel_rfl) ?_) | (refine AOps.nil ?_; try dsimp only [AX.then, AX.inBlock]) | (refine ALex.nil ?_; try dsimp only [AX.then, AX.inBlock]) | (refine AW.condT (by rfl) ?_) | (refine AW.condF (by rfl) ?_) | (refine AW.skip ?_; try dsimp only [AX.then, AX.inBlock]) | (refine AW.ret ?_; try dsimp only [AX.then, AX.inBlock]) | (refine AW.block ?_) | (refine AW.exit ?_; simp only [AX.then, AX.inBlock, if_true, Nat.reduceEqDiff, if_false]))
        refine ⟨[iD (i + 1 : Nat), .any, .any, .any, .any], ⟨(b8, 99, rrD s p5 c5) :: (b7, 28, ndT tp ts3 (.own g 59 33) { n3 with kids := n3.kids ++ [⟨page, sum⟩] }) :: (b6, 28, ndT .nil .nil .nil ⟨[], [], []⟩) :: S.bk, _⟩, ?_, ⟨(?_ : List.Sublist _ _), List.Sublist.refl _⟩, ⟨i + 1, o5, p5, c5, _, _, _, _, _, rfl, rfl, hr5, by omega, ?_, hg4, by rw [hpairs]; omega, hseps, by rw [hkids]; simp; omega⟩, ?_⟩
        · simp only [go_sem, Int.reduceEq, Int.reduceLT, Int.reduceBEq, Int.reduceBNe, Int.reduceNe, Nat.reduceLeDiff, Nat.reduceAdd, Nat.reduceSub, Nat.reduceLT, Nat.reduceEqDiff, Nat.reduceBEq, Int.reduceLE, Int.reduceToNat, weakA, or_true, true_or, and_self]
        · simp only [go_sem, Int.reduceEq, Int.reduceLT, Int.reduceBEq, Int.reduceBNe, Int.reduceNe, Nat.reduceLeDiff, Nat.reduceAdd, Nat.reduceSub, Nat.reduceLT, Nat.reduceEqDiff, Nat.reduceBEq, Int.reduceLE, Int.reduceToNat, List.map_append]; exact (List.Sublist.refl _).cons _
        · rw [← hl, hn3]
        · simp only [go_sem, Int.reduceEq, Int.reduceLT, Int.reduceBEq, Int.reduceBNe, Int.reduceNe, Nat.reduceLeDiff, Nat.reduceAdd, Nat.reduceSub, Nat.reduceLT, Nat.reduceEqDiff, Nat.reduceBEq, Int.reduceLE, Int.reduceToNat, Int.toNat_natCast]; omega
  · have d1 : decide ((i : Int) < many) = false := decide_eq_false (by omega)
    have e0 : many - i = 0 := by omega
    rw [e0] at hl
    have hl' : n = looseN kind pg (widN w) s.length many 0 o2 ⟨[], [], []⟩ := hl
    rw [← hl']
    repeat (first | ((first | apply AOps.goP prg | apply ALex.goP prg); (case run => simp only [go_sem, Int.reduceEq, Int.reduceLT, Int.reduceBEq, Int.reduceBNe, Int.reduceNe, Nat.reduceLeDiff, Nat.reduceAdd, Nat.reduceSub, Nat.reduceLT, Nat.reduceEqDiff, Nat.reduceBEq, Int.reduceLE, Int.reduceToNat, d1, hm87, hm86, hm76, k_b8, k_b7]; rfl); (case mm => simp only [go_sem, Int.reduceEq, Int.reduceLT, Int.reduceBEq, Int.reduceBNe, Int.reduceNe, Nat.reduceLeDiff, Nat.reduceAdd, Nat.reduceSub, Nat.reduceLT, Nat.reduceEqDiff, Nat.reduceBEq, Int.reduceLE, Int.reduceToNat]; rfl); (case pr => rfl)) | (refine AW.seq ?_) | (refine AW.region ?_) | (refine AW.draw prg (by kernel_rfl) ?_) | (refine AOps.nil ?_; try dsimp only [AX.then, AX.inBlock]) | (refine ALex.nil ?_; try dsimp only [AX.then, AX.inBlock]) | (refine AW.condT (by rfl) ?_) | (refine AW.condF (by rfl) ?_) | (refine AW.skip ?_; try dsimp only [AX.then, AX.inBlock]) | (refine AW.ret ?_; try dsimp only [AX.then, AX.inBlock]) | (refine AW.block ?_) | (refine AW.exit ?_; simp only [AX.then, AX.inBlock, if_true, Nat.reduceEqDiff, if_false]))
    refine endu (by simp only [go_sem, Int.reduceEq, Int.reduceLT, Int.reduceBEq, Int.reduceBNe, Int.reduceNe, Nat.reduceLeDiff, Nat.reduceAdd, Nat.reduceSub, Nat.reduceLT, Nat.reduceEqDiff, Nat.reduceBEq, Int.reduceLE, Int.reduceToNat, hm87, hm86, hm76, k_b8, k_b7]; rfl) (by rfl) ?_ ⟨rfl, rfl⟩
    exact ⟨((List.Sublist.refl _).cons _ |>.cons _ |>.cons _), hg.sub⟩

end Go.Proofs.YtemicgccgcmmbaaGreat
