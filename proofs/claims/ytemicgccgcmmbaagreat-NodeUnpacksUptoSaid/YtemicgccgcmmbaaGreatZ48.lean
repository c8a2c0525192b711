/- Values without addresses: lists that grow. -/
import Derived.Test.YtemicgccgcmmbaaGreatZ46
import Derived.Test.YtemicgccgcmmbaaGreatZ45
namespace Go.Proofs.YtemicgccgcmmbaaGreat
set_option linter.unusedVariables false
set_option linter.unusedSimpArgs false
open Go Go.RowKit

def tagB : Tag → Option Nat
  | .own b _ _ => some b
  | _ => Option.none

/-- A list that grows: nil and empty, or at the beginning of a row that is its own. -/
def Grw (ow : List (Nat × Nat)) (e : TypeId) (z : Nat) (tg : Tag) (es : List D) : Prop := (tg = .nil ∧ es = []) ∨ ∃ b, tg = .own b e z ∧ (b, es.length * z) ∈ ow
theorem Grw.may {S : Sto} {e : TypeId} {z : Nat} {tg : Tag} {es : List D} (h : Grw S.ow e z tg es) : mayApp S e z es tg := by
  rcases h with ⟨rfl, _⟩ | ⟨b, rfl, h⟩
  · trivial
  · exact ⟨rfl, rfl, h⟩
theorem Grw.nil (ow : List (Nat × Nat)) (e : TypeId) (z : Nat) : Grw ow e z .nil [] := .inl ⟨rfl, rfl⟩
theorem Grw.new {ow : List (Nat × Nat)} {e : TypeId} {z g : Nat} {es : List D} : Grw ((g, es.length * z) :: ow) e z (.own g e z) es := .inr ⟨g, rfl, List.mem_cons_self⟩
/-- Another list grew. -/
theorem Grw.keep {ow : List (Nat × Nat)} {e : TypeId} {z : Nat} {tg tg' : Tag} {es : List D} {g L : Nat} (h : Grw ow e z tg es) (hne : ∀ b, tagB tg = some b → tagB tg' ≠ some b) : Grw ((g, L) :: dropTok tg' ow) e z tg es := by
  rcases h with h | ⟨b, rfl, h⟩
  · exact .inl h
  · refine .inr ⟨b, rfl, List.mem_cons_of_mem _ ?_⟩
    have := hne b rfl
    unfold dropTok
    split
    · rename_i c _ _
      refine List.mem_filter.2 ⟨h, ?_⟩
      simp only [tagB, ne_eq, Option.some.injEq] at this
      simp only [bne_iff_ne, ne_eq]
      exact fun e => this e.symm
    · exact h
theorem Grw.fresh {ow : List (Nat × Nat)} {e : TypeId} {z : Nat} {tg tg' : Tag} {es : List D} {g : Nat} (h : Grw ow e z tg es) (hne : ∀ b, tagB tg = some b → tagB tg' ≠ some b) (hg : g ∉ (dropTok tg' ow).map (·.1)) : ∀ b, tagB tg = some b → g ≠ b := by
  intro b hb e'
  rcases Grw.keep (g := g) (L := 0) h hne with ⟨rfl, _⟩ | ⟨c, rfl, hc⟩
  · cases hb
  · simp only [tagB, Option.some.injEq] at hb
    subst hb
    rcases h with ⟨h, _⟩ | ⟨c', h, hm⟩
    · cases h
    · simp only [Tag.own.injEq, and_true] at h
      subst h
      subst e'
      refine hg (List.mem_map.2 ⟨(g, es.length * z), ?_, rfl⟩)
      have := hne g rfl
      unfold dropTok
      split
      · rename_i c'' _ _
        refine List.mem_filter.2 ⟨hm, ?_⟩
        simp only [tagB, ne_eq, Option.some.injEq] at this
        simp only [bne_iff_ne, ne_eq]
        exact fun e => this e.symm
      · exact hm
/-- What was there at the beginning is left. -/
theorem drop_keep {ow0 ow : List (Nat × Nat)} {tg : Tag} {p : Nat × Nat} (h : List.Sublist ow0 ow) (hb : ∀ b, tagB tg = some b → b ∉ ow0.map (·.1)) : List.Sublist ow0 (p :: dropTok tg ow) := by
  refine List.Sublist.cons _ ?_
  unfold dropTok
  split
  · rename_i b _ _
    have h1 : ow0.filter (fun p => p.1 != b) = ow0 := by
      refine List.filter_eq_self.2 (fun p hp => ?_)
      simp only [bne_iff_ne, ne_eq]
      exact fun e => hb b rfl (e ▸ List.mem_map.2 ⟨p, hp, rfl⟩)
    rw [← h1]
    exact h.filter _
  · exact h
theorem fresh_keep {ow0 ow : List (Nat × Nat)} {tg : Tag} {g : Nat} (h : List.Sublist ow0 ow) (hb : ∀ b, tagB tg = some b → b ∉ ow0.map (·.1)) (hg : g ∉ (dropTok tg ow).map (·.1)) : g ∉ ow0.map (·.1) := fun hm => by
  have h2 := drop_keep (p := (g, 0)) h hb
  have h3 : List.Sublist ow0 (dropTok tg ow) := by
    unfold dropTok at *
    split at h2
    · rename_i b _ _
      have h1 : ow0.filter (fun p => p.1 != b) = ow0 := by
        refine List.filter_eq_self.2 (fun p hp => ?_)
        simp only [bne_iff_ne, ne_eq]
        exact fun e => hb b rfl (e ▸ List.mem_map.2 ⟨p, hp, rfl⟩)
      rw [← h1]
      exact h.filter _
    · exact h
  exact hg ((h3.map (·.1)).subset hm)

section
variable {P : Program} {T : TypeId → Ty} {B : Bg} {Q : AX → List D → Sto → Prop} {A : List D} {S : Sto} {ops : Array Oper} {l : List Oper} {o : Oper}
/-- The first n operations alone. -/
theorem AOps.goN {T : TypeId → Ty} (hP : Prg P T) (n : Nat) {l : List Oper} {A A' : List D} {S S' : Sto} (run : runOps T ops (l.take n) A S = ([], A', S')) (k : AOps P B ops Q (l.drop n) A' S') : AOps P B ops Q l A S := by
  induction l generalizing n A S with
  | nil =>
    simp only [List.take_nil, runOps, Prod.mk.injEq, true_and] at run
    obtain ⟨rfl, rfl⟩ := run
    simpa using k
  | cons o l ih =>
    cases n with
    | zero =>
      simp only [List.take_zero, runOps, Prod.mk.injEq, true_and] at run
      obtain ⟨rfl, rfl⟩ := run
      simpa using k
    | succ n =>
      simp only [List.take_succ_cons, List.drop_succ_cons] at run k
      unfold runOps at run
      split at run
      · rename_i hw
        split at run
        · rename_i d S1 he
          exact AOps.step hP hw he (ih n run k)
        · simp at run
      · rename_i hw
        exact AOps.skip hw (ih n run k)
      · simp at run
/-- Blocks' numbers are all unlike. -/
theorem AW.nd {c : Code} (h : (S.bk.map (·.1) ++ S.ow.map (·.1)).Nodup → AW P B c Q A S) : AW P B c Q A S := fun a w k => h k.st.nd a w k
theorem AOps.nd (h : (S.bk.map (·.1) ++ S.ow.map (·.1)).Nodup → AOps P B ops Q l A S) : AOps P B ops Q l A S := fun a w k => h k.st.nd a w k
theorem AW.subS {c : Code} {S' : Sto} (hs : S'.Sub S) (h : AW P B c Q A S') : AW P B c Q A S := fun a w k => h a w (k.sub hs)
theorem AOps.subS {S' : Sto} (hs : S'.Sub S) (h : AOps P B ops Q l A S') : AOps P B ops Q l A S := fun a w k => h a w (k.sub hs)
/-- Ways meet: below m the frame is as it was, but the slots sl. -/
theorem AW.cutS {x y : Code} (m : Nat) (sl : List Nat) (J : List D → Sto → Prop) (h1 : AW P B x (AX.then (fun A' S'' => ∃ ys S3, weakA A' (frameL m sl A ys) ∧ S3.Sub S'' ∧ J ys S3) Q) A S)
    (h2 : ∀ ys S3, J ys S3 → AW P B y Q (frameL m sl A ys) S3) : AW P B (.seq x y) Q A S :=
  AW.seq (h1.mono (fun e A' S' q => by
    cases e with
    | normal =>
      obtain ⟨ys, S3, h3, h4, h5⟩ := q
      exact fun a w k => h2 ys S3 h5 a w ((k.weak h3).sub h4)
    | exit id => exact q
    | goto l => exact q
    | ret => exact q
    | panic d => exact q))
theorem AW.cutK {x y : Code} (m : Nat) (sl : List Nat) (J : List D → Sto → Prop) (h1 : AW P B x (AX.then (fun A' S'' => ∃ ys S3, weakA A' (frameL m sl A ys) ∧ S3.Sub S'' ∧ J ys S3) Q) A S)
    (h2 : ∀ ys S3, J ys S3 → AW P B y Q (frameL m sl A ys) S3) : AW P B x (AX.then (AW P B y Q) Q) A S :=
  h1.mono (fun e A' S' q => by
    cases e with
    | normal =>
      obtain ⟨ys, S3, h3, h4, h5⟩ := q
      exact fun a w k => h2 ys S3 h5 a w ((k.weak h3).sub h4)
    | exit id => exact q
    | goto l => exact q
    | ret => exact q
    | panic d => exact q)
theorem AW.weak {c : Code} {A' : List D} (weak : weakA A A') (h : AW P B c Q A' S) : AW P B c Q A S := fun a w k => h a w (k.weak weak)
end

end Go.Proofs.YtemicgccgcmmbaaGreat

/- Short words of the walk: what they want is shown at the place by the facts F. -/
namespace Go.Proofs.YtemicgccgcmmbaaGreat
set_option linter.unusedVariables false
set_option linter.unusedSimpArgs false
open Go Go.RowKit

section
variable {B : Bg} {Q : AX → List D → Sto → Prop} {A A' : List D} {S S' : Sto} {ops : Array Oper} {l l' m : List Oper} {R : Prop} {o : Oper} {id : Nat}
theorem w1 (k : AOps Tryz.prog B ops Q m A' S') (run : runOps tys ops (l.take 5) A S = (l', A', S') := by (simp only [go_sem, Int.reduceEq, Int.reduceLT, Int.reduceBEq, Int.reduceBNe, Int.reduceNe, Nat.reduceLeDiff, Nat.reduceAdd, Nat.reduceSub, Nat.reduceLT, Nat.reduceEqDiff, Nat.reduceBEq, Int.reduceLE, Int.reduceToNat, List.take_nil, F]; rfl)) (pr : Nat.blt l'.length (l.take 5).length = true := by rfl) (mm : l' ++ l.drop 5 = m := by (simp only [List.take_nil, List.drop_nil, List.append_nil, List.nil_append, List.cons_append, List.drop_succ_cons, List.drop_zero]; rfl)) : AOps Tryz.prog B ops Q l A S := AOps.goP prg run pr mm k
theorem w2 (k : ALex Tryz.prog B Q ops S m A') (run : runQ tys ops S (l.take 5) A = (l', A') := by (simp only [go_sem, Int.reduceEq, Int.reduceLT, Int.reduceBEq, Int.reduceBNe, Int.reduceNe, Nat.reduceLeDiff, Nat.reduceAdd, Nat.reduceSub, Nat.reduceLT, Nat.reduceEqDiff, Nat.reduceBEq, Int.reduceLE, Int.reduceToNat, List.take_nil, F]; rfl)) (pr : Nat.blt l'.length (l.take 5).length = true := by rfl) (mm : l' ++ l.drop 5 = m := by (simp only [List.take_nil, List.drop_nil, List.append_nil, List.nil_append, List.cons_append, List.drop_succ_cons, List.drop_zero]; rfl)) : ALex Tryz.prog B Q ops S l A := ALex.goP prg run pr mm k
theorem w3 {x y : Code} (k : AW Tryz.prog B x (AX.then (AW Tryz.prog B y Q) Q) A S) : AW Tryz.prog B (.seq x y) Q A S := AW.seq k
theorem w4 (k : AOps Tryz.prog B l.toArray Q l A S) : AW Tryz.prog B (.region id l.toArray false) Q A S := AW.region k
theorem w5 (k : ALex Tryz.prog B Q l.toArray S l A) (hB : Region.lexB .any l.toArray = true := by kernel_rfl) : AW Tryz.prog B (.region id l.toArray true) Q A S := AW.draw prg hB k
theorem w6 (k : R) (h : Q .normal A S = R := by ((try dsimp only [AX.then, AX.inBlock]); try rfl)) : AOps Tryz.prog B ops Q [] A S := AOps.nil (h ▸ k)
theorem w7 (k : R) (h : Q .normal A S = R := by ((try dsimp only [AX.then, AX.inBlock]); try rfl)) : ALex Tryz.prog B Q ops S [] A := ALex.nil (h ▸ k)
theorem w8 {c : Operand} {x y : Code} (k : AW Tryz.prog B x Q A S) (hc : evalO A c = .v (.bool true) := by rfl) : AW Tryz.prog B (.cond c x y) Q A S := AW.condT hc k
theorem w9 {c : Operand} {x y : Code} (k : AW Tryz.prog B y Q A S) (hc : evalO A c = .v (.bool false) := by rfl) : AW Tryz.prog B (.cond c x y) Q A S := AW.condF hc k
theorem wa (k : R) (h : Q .normal A S = R := by ((try dsimp only [AX.then, AX.inBlock]); try rfl)) : AW Tryz.prog B .skip Q A S := AW.skip (h ▸ k)
theorem wb (k : R) (h : Q .ret A S = R := by ((try dsimp only [AX.then, AX.inBlock]); try rfl)) : AW Tryz.prog B .ret Q A S := AW.ret (h ▸ k)
theorem wc {x : Code} (k : AW Tryz.prog B x (AX.inBlock id Q) A S) : AW Tryz.prog B (.block id x) Q A S := AW.block k
theorem wd (k : R) (h : Q (.exit id) A S = R := by (simp only [AX.then, AX.inBlock, if_true, Nat.reduceEqDiff, if_false]; try rfl)) : AW Tryz.prog B (.exit id) Q A S := AW.exit (h ▸ k)
theorem we {f : FuncId} {args : Array Operand} {ats : Array TypeId} {d : D} (ho : o.op = .call ⟨.value (.func f), args, ats⟩ := by rfl) (hw : wantedA ops A o = some true := by rfl)
    (c : ACalls Tryz.prog f (args.toList.map (evalO A)) S (RetQ d S')) (k : AOps Tryz.prog B ops Q l (putA A o.dst d) S') : AOps Tryz.prog B ops Q (o :: l) A S := AOps.callq ho hw c k
theorem wf {f : FuncId} {args : Array Operand} {ats : Array TypeId} {d : D} (ho : o.op = .call ⟨.value (.func f), args, ats⟩ := by rfl) (hw : wantedA ops A o = some true := by rfl)
    (c : ACalls Tryz.prog f (args.toList.map (evalO A)) S (RetQ d S)) (k : ALex Tryz.prog B Q ops S l (putA A o.dst d)) : ALex Tryz.prog B Q ops S (o :: l) A := ALex.callq ho hw c k
theorem wg {f : FuncId} {args : Array Operand} {ats : Array TypeId} {R : D → Sto → Prop} (ho : o.op = .call ⟨.value (.func f), args, ats⟩ := by rfl) (hw : wantedA ops A o = some true := by rfl)
    (c : ACalls Tryz.prog f (args.toList.map (evalO A)) S (fun e S' => ∃ d, e = .ret d ∧ R d S')) (k : ∀ d S', R d S' → AOps Tryz.prog B ops Q l (putA A o.dst d) S') : AOps Tryz.prog B ops Q (o :: l) A S := AOps.callx ho hw c k
theorem wh {t : TypeId} (k : ∀ b, b ∉ S.bk.map (·.1) ∧ b ∉ S.ow.map (·.1) → AOps Tryz.prog B ops Q l (putA A o.dst (.v (.pointer (some ⟨b, 0, Option.none⟩)))) ⟨(b, t, (tys t).zero) :: S.bk, S.ow⟩)
    (ho : o.op = .alloc t := by rfl) (hw : wantedA ops A o = some true := by rfl) (ht : (tys t).known = true := by rfl) (hl : (tys t).zero.lies = true := by rfl) : AOps Tryz.prog B ops Q (o :: l) A S := AOps.alloc prg ho hw ht hl k
end

end Go.Proofs.YtemicgccgcmmbaaGreat
