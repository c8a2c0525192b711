/- The document's Unpack and Read (values without addresses). -/
import Derived.Test.YtcaggadjkccbiaaGreatZ41
import Derived.Test.YtcaggadjkccbiaaGreatZ17
import Derived.Test.YtcaggadjkccbiaaGreatZ39
namespace Go.Proofs.YtcaggadjkccbiaaGreat
set_option linter.unusedVariables false
set_option linter.unusedSimpArgs false
open Go Go.RowKit

theorem Rets.kp {v : Value} {w : World} {e : Ending} {w' : World} (h : Rets v w e w') : e = .returned v ∧ Kp [] w w' := by
  obtain ⟨h1, bs, n, rfl⟩ := h
  exact ⟨h1, (Kp.refl [] _).ext _ _⟩
theorem RVal.of_int {w : World} {I : Nat → Nat → Prop} {k : IntKind} {n : Int} : RVal w I (.v (.int k n)) (.int k n) := by unfold RVal; exact ⟨rfl, rfl⟩
theorem RVal.of_str {w : World} {I : Nat → Nat → Prop} {s : Bs} : RVal w I (sD s) (.string ⟨s.toArray⟩) := by unfold RVal; exact ⟨rfl, rfl⟩
theorem RVal.of_bool {w : World} {I : Nat → Nat → Prop} {b : Bool} : RVal w I (bD b) (.bool b) := by unfold RVal; exact ⟨rfl, rfl⟩

theorem aRight (p wd : Int) (S : Sto) : ACalls Tryz.prog 25 [frD p wd] S (RetQ (bD (rightB p wd)) S) :=
  ACalls.liftq (callable Tryz.func25 rfl (by kernel_rfl)) fun w xs hS hx => by
    obtain ⟨x, ys, rfl, h1, h2⟩ := hx.cons
    obtain rfl := h2.nil
    obtain rfl := h1.frame
    exact (rright_any p wd w).mono fun e w' h => ⟨_, h.kp.1, h.kp.2, RVal.of_bool⟩
def okE (o : Option Nd) (c : Int) : Int := if o.isSome then 0 else c

end Go.Proofs.YtcaggadjkccbiaaGreat

/- Texts, pairs, kids as cells (values without addresses). -/
namespace Go.Proofs.YtcaggadjkccbiaaGreat
set_option linter.unusedVariables false
set_option linter.unusedSimpArgs false
open Go Go.RowKit

section
variable {w : World} {I : Nat → Nat → Prop}
theorem rv_sd (s : Bs) (us : List Value) : RV w I (sD s) us ↔ us = csS s := by
  unfold RV; exact ⟨fun h => h.1, fun h => ⟨h, rfl⟩⟩
theorem rv_pr (p : Pr) (us : List Value) : RV w I (prD p) us ↔ us = csP p := by
  unfold prD
  constructor
  · intro h
    unfold RV at h
    obtain ⟨xs, ys, rfl, h1, h2⟩ := RVs.two h
    rw [(rv_sd _ _).1 h1, (rv_sd _ _).1 h2]; rfl
  · rintro rfl
    unfold RV
    exact RVs.mk2 ((rv_sd p.1 _).2 rfl) ((rv_sd p.2 _).2 rfl)
theorem rv_kd (k : Kd) (us : List Value) : RV w I (kdD k) us ↔ us = csK k := by
  unfold kdD
  constructor
  · intro h
    unfold RV at h
    obtain ⟨xs, ys, rfl, h1, h2⟩ := RVs.two h
    unfold RV at h1 h2
    rw [h1.1, h2]; simp [csK, Kd.c]
  · rintro rfl
    unfold RV
    have e : csK k = [Value.int .u32 (k.page : Nat)] ++ bC k.sum.l := by simp [csK, Kd.c]
    rw [e]
    exact RVs.mk2 (by unfold RV; exact ⟨rfl, rfl⟩) (by unfold RV; rfl)
theorem rvs_flat {α : Type} (f : α → D) (g : α → List Value) (h : ∀ x us, RV w I (f x) us ↔ us = g x) : ∀ (l : List α) (us : List Value), RVs w I (l.map f) us ↔ us = l.flatMap g
  | [], us => by unfold RVs; simp
  | x :: l, us => by
    have ih := rvs_flat f g h l
    rw [List.map_cons]
    unfold RVs
    constructor
    · rintro ⟨xs, ys, rfl, h1, h2⟩
      rw [(h x xs).1 h1, (ih ys).1 h2]; simp
    · rintro rfl
      exact ⟨_, _, by simp, (h x _).2 rfl, (ih _).2 rfl⟩
end
end Go.Proofs.YtcaggadjkccbiaaGreat
