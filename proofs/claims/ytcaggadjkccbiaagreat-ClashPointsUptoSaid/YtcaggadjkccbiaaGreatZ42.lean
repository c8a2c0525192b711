/- The document's Unpack and Read (values without addresses). -/
import Derived.Test.YtcaggadjkccbiaaGreatZ35
import Derived.Test.YtcaggadjkccbiaaGreatZ17
import Derived.Test.YtcaggadjkccbiaaGreatZ36
import Derived.Test.YtcaggadjkccbiaaGreatZ38
import Derived.Test.YtcaggadjkccbiaaGreatZ40
namespace Go.Proofs.YtcaggadjkccbiaaGreat
set_option maxHeartbeats 1000000
set_option maxRecDepth 100000
set_option linter.unusedVariables false
set_option linter.unusedSimpArgs false
open Go Go.RowKit

theorem Rets.kp {v : Value} {w : World} {e : Ending} {w' : World} (h : Rets v w e w') : e = .returned v ∧ Kp [] w w' := by
 obtain ⟨h1, bs, n, rfl⟩ := h
 exact ⟨h1, (Kp.refl [] _).ext _ _⟩
theorem RVal.of_int {w : World} {I : Nat → Nat → Prop} {k : IntKind} {n : Int} : RVal w I (.v (.int k n)) (.int k n) := by unfold RVal; exact ⟨rfl, rfl⟩
theorem RVal.of_str {w : World} {I : Nat → Nat → Prop} {s : Bs} : RVal w I (sD s) (.string ⟨s.toArray⟩) := by unfold RVal; exact ⟨rfl, rfl⟩
theorem RVal.of_bool {w : World} {I : Nat → Nat → Prop} {b : Bool} : RVal w I (bD b) (.bool b) := by unfold RVal; exact ⟨rfl, rfl⟩

theorem aRight (p wd : Int) (S : Sto) : ACalls Tryz.prog 25 [frD p wd] S (RetQ (bD (rightB p wd)) S) :=
 ACalls.liftq (callable Tryz.func25 rfl (by kernel_rfl)) fun w xs hS hx => by
  obtain ⟨x, ys, rfl, h1, h2⟩ := hx.cons
  obtain rfl := h2.nil
  obtain rfl := h1.frame
  exact (rright_any p wd w).mono fun e w' h => ⟨_, h.kp.1, h.kp.2, RVal.of_bool⟩
theorem aMost (P : Nat) (wd : Int) (S : Sto) (h : P ≤ 8192) (h0 : 1024 ≤ P) : ACalls Tryz.prog 113 [frD P wd] S (RetQ (iD ((P - 32 : Nat) : Int)) S) :=
 ACalls.liftq (callable Tryz.func113 rfl (by kernel_rfl)) fun w xs hS hx => by
  obtain ⟨x, ys, rfl, h1, h2⟩ := hx.cons
  obtain rfl := h2.nil
  obtain rfl := h1.frame
  exact (rmost_any P wd w h h0).mono fun e w' h => ⟨_, h.kp.1, h.kp.2, RVal.of_int⟩
theorem aPlain (p wd : Int) (n : Nd) (S : Sto) (ho : NdOk n) : ACalls Tryz.prog 115 [frD p wd, ndA n] S (RetQ (.tup [sD (plainS p wd n), iD (mayE p wd n)]) S) :=
 ACalls.liftq (callable Tryz.func115 rfl (by kernel_rfl)) fun w xs hS hx => by
  obtain ⟨x, ys, rfl, h1, h2⟩ := hx.cons
  obtain ⟨y, zs, rfl, h3, h4⟩ := h2.cons
  obtain rfl := h4.nil
  obtain rfl := h1.frame
  obtain ⟨pa, sa, ka, pc, sc, kc, rfl, hn⟩ := h3.node
  exact (rplain_any p wd pa sa ka pc sc kc n w hn ho).mono fun e w' h => ⟨_, h.kp.1, h.kp.2, RVal.mk_tup (RVals.mk RVal.of_str (RVals.mk RVal.of_int RVals.mk0))⟩

def okE (o : Option Nd) (c : Int) : Int := if o.isSome then 0 else c

theorem aRead (p wd : Int) (s : Bs) (S : Sto) (hs : s.length ≤ 3909374676453) :
  ACalls Tryz.prog 74 [frD p wd, sD s] S (RetQ (.tup [ndA ((readP p wd s).getD noN), iD (okE (readP p wd s) (unpackE p wd))]) S) := by
 refine acalls_of prg Tryz.func74 rfl (by kernel_rfl) (congrArg Array.toList Tryz.results74) Tryz.ntmps74 (fun B hB => fA ?_)
 cases hr : rightB p wd
 ·have e1 : unpackE p wd = 2 := by simp [unpackE, hr]
  rw [read_arg hr, e1]
  have c := aRight p wd; rw [hr] at c
  refine Wv Y0 ?_
  refine aL fun b4 k_b4 o_b4 => ?_
  refine Wv Y0 ?_
  refine cQ (c _) ?_
  refine Wv Y0 ?_
  refine enduq (sR Y0) (by rfl) (Sto.Sub.refl _).cons
 ·have hr' := rightB_iff.1 hr
  obtain ⟨P, rfl⟩ := Int.eq_ofNat_of_zero_le (show 0 ≤ p by omega)
  have e1 : unpackE P wd = 73 := by simp [unpackE, hr]
  have c := aRight P wd; rw [hr] at c
  rw [e1]
  by_cases hm : P - 32 < s.length
  ·have d1 : decide ((s.length : Int) > ((P - 32 : Nat) : Int)) = true := decide_eq_true (by omega)
   rw [read_long (by simpa using hm)]
   refine Wv Y0 ?_
   refine aL fun b4 k_b4 o_b4 => ?_
   refine Wv Y0 ?_
   refine cQ (c _) ?_
   refine Wv Y0 ?_
   refine cQ (aMost P wd _ (by omega) (by omega)) ?_
   refine Wv (Yy d1 Y0) ?_
   refine enduq (sR Y0) (by rfl) (Sto.Sub.refl _).cons
  ·have d1 : decide ((s.length : Int) > ((P - 32 : Nat) : Int)) = false := decide_eq_false (by omega)
   have hu := read_loose hr hs
   have ho := looseP_ok (pg := false) (w := widN wd) hs
   obtain ⟨n, hn⟩ : ∃ n, looseP false (widN wd) s = n := ⟨_, rfl⟩
   have cl := aLoose P wd s false; rw [hn] at cl
   rw [hn] at hu ho
   rw [hu]
   obtain ⟨t, ht⟩ : ∃ t, plainS P wd n = t := ⟨_, rfl⟩
   obtain ⟨k, hk⟩ : ∃ t, mayE P wd n = t := ⟨_, rfl⟩
   have cp := fun S => aPlain P wd n S ho
   rw [ht, hk] at cp
   rw [ht, hk]
   refine Wv Y0 ?_
   refine aL fun b4 k_b4 o_b4 => ?_
   refine Wv Y0 ?_
   refine cQ (c _) ?_
   refine Wv Y0 ?_
   refine cQ (aMost P wd _ (by omega) (by omega)) ?_
   refine Wv (Yy d1 Y0) ?_
   refine cX (cl _ hs) ?_
   rintro d S1 ⟨rfl, rfl⟩
   refine Wv Y0 ?_
   refine aL fun b6 k_b6 o_b6 => ?_
   have hm46 := nes k_b6.1
   refine Wv (Yy hm46 (Yy k_b6 Y0)) ?_
   refine cQ (cp _) ?_
   by_cases h0 : k = 0
   ·have b0 : (k == 0) = true := beq_iff_eq.2 h0
    have n0 : (k != 0) = false := by rw [bne, b0]; rfl
    by_cases h1 : t = s
    ·have b1 : (t == s) = true := beq_iff_eq.2 h1
     rw [if_pos ⟨h0, h1⟩]
     refine Wv (Yy n0 (Yy b0 (Yy b1 (Yy hm46 (Yy k_b6 Y0))))) ?_
     refine enduq (sR (Yy hm46 (Yy k_b6 Y0))) (by rfl) (Sto.Sub.refl _).cons.cons
    ·have b1 : (t == s) = false := beq_eq_false_iff_ne.2 h1
     rw [if_neg (fun h => h1 h.2)]
     refine Wv (Yy n0 (Yy b0 (Yy b1 (Yy hm46 (Yy k_b6 Y0))))) ?_
     refine enduq (sR (Yy hm46 (Yy k_b6 Y0))) (by rfl) (Sto.Sub.refl _).cons.cons
   ·have b0 : (k == 0) = false := beq_eq_false_iff_ne.2 h0
    have n0 : (k != 0) = true := by rw [bne, b0]; rfl
    rw [if_neg (fun h => h0 h.1)]
    refine Wv (Yy n0 (Yy b0 (Yy hm46 (Yy k_b6 Y0)))) ?_
    refine enduq (sR (Yy hm46 (Yy k_b6 Y0))) (by rfl) (Sto.Sub.refl _).cons.cons


section
variable {w : World} {I : Nat → Nat → Prop}
theorem rv_sd (s : Bs) (us : List Value) : RV w I (sD s) us ↔ us = csS s := by
 unfold RV; exact ⟨fun h => h.1, fun h => ⟨h, rfl⟩⟩
theorem rv_pr (p : Pr) (us : List Value) : RV w I (prD p) us ↔ us = csP p := by
 unfold prD
 constructor
 ·intro h
  unfold RV at h
  obtain ⟨xs, ys, rfl, h1, h2⟩ := RVs.two h
  rw [(rv_sd _ _).1 h1, (rv_sd _ _).1 h2]; rfl
 ·rintro rfl
  unfold RV
  exact RVs.mk2 ((rv_sd p.1 _).2 rfl) ((rv_sd p.2 _).2 rfl)
theorem rv_kd (k : Kd) (us : List Value) : RV w I (kdD k) us ↔ us = csK k := by
 unfold kdD
 constructor
 ·intro h
  unfold RV at h
  obtain ⟨xs, ys, rfl, h1, h2⟩ := RVs.two h
  unfold RV at h1 h2
  rw [h1.1, h2]; simp [csK, Kd.c]
 ·rintro rfl
  unfold RV
  have e : csK k = [Value.int .u32 (k.page : Nat)] ++ bC k.sum.l := by simp [csK, Kd.c]
  rw [e]
  exact RVs.mk2 (by unfold RV; exact ⟨rfl, rfl⟩) (by unfold RV; rfl)
theorem rvs_flat {α : Type} (f : α → D) (g : α → List Value) (h : ∀ x us, RV w I (f x) us ↔ us = g x) : ∀ (l : List α) (us : List Value), RVs w I (l.map f) us ↔ us = l.flatMap g
 | [], us => by unfold RVs; simp
 | x :: l, us => by
  have ih := rvs_flat f g h l
  rw [List.map_cons]
  unfold RVs
  constructor
  ·rintro ⟨xs, ys, rfl, h1, h2⟩
   rw [(h x xs).1 h1, (ih ys).1 h2]; simp
  ·rintro rfl
   exact ⟨_, _, by simp, (h x _).2 rfl, (ih _).2 rfl⟩
end
end Go.Proofs.YtcaggadjkccbiaaGreat