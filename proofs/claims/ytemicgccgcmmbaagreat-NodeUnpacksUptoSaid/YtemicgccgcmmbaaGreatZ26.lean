/- Unpack and Read: what they answer. -/
import Derived.Test.YtemicgccgcmmbaaGreatZ22
import Derived.Test.YtemicgccgcmmbaaGreatZ25
namespace Go.Proofs.YtemicgccgcmmbaaGreat
set_option linter.unusedVariables false
set_option linter.unusedSimpArgs false
open Go Go.RowKit

/-- A node or an error. -/
def NodePost (w : World) (code : Int) (r : Option Nd) (e : Ending) (w' : World) : Prop :=
  match r with
  | some n => ∃ pa sa ka pc sc kc, e = .returned (.tuple #[.agg #[.slice pa n.pairs.length pc, .slice sa n.seps.length sc, .slice ka n.kids.length kc], .int .i64 0]) ∧ Own3 w' w.heap.size pa sa ka pc sc kc n ∧ Kp [] w w'
  | none => e = .returned (.tuple #[.agg #[.slice none 0 0, .slice none 0 0, .slice none 0 0], .int .i64 code]) ∧ Kp [] w w'

/-- The same, of which less is told. -/
def NodePostW (w : World) (code : Int) (r : Option Nd) (e : Ending) (w' : World) : Prop :=
  match r with
  | some n => ∃ pa sa ka pc sc kc, e = .returned (.tuple #[.agg #[.slice pa n.pairs.length pc, .slice sa n.seps.length sc, .slice ka n.kids.length kc], .int .i64 0]) ∧ NdAt w' pa sa ka n ∧ Kp [] w w' ∧ ∀ g ∈ ab pa ++ ab sa ++ ab ka, w.heap.size ≤ g
  | none => e = .returned (.tuple #[.agg #[.slice none 0 0, .slice none 0 0, .slice none 0 0], .int .i64 code]) ∧ Kp [] w w'
theorem NodePost.weak {w : World} {code : Int} {r : Option Nd} {e : Ending} {w' : World} (h : NodePost w code r e w') : NodePostW w code r e w' := by
  cases r with
  | none => exact h
  | some n =>
    obtain ⟨pa, sa, ka, pc, sc, kc, he, od, k⟩ := h
    exact ⟨pa, sa, ka, pc, sc, kc, he, od.at, k, od.lo⟩

def unpackE (p wd : Int) : Int := if rightB p wd = true then 73 else 2
def unpackP (p wd : Int) (s : Bs) : Option Nd := if rightB p wd = true then (parseP p.toNat wd.toNat true s).filter (fun n => decide (packE p wd n = 0)) else none
def readP (p wd : Int) (s : Bs) : Option Nd := if rightB p wd = true then (parseP p.toNat wd.toNat false s).filter (fun n => decide (mayE p wd n = 0)) else none

set_option maxHeartbeats 1000000 in set_option maxRecDepth 100000 in
theorem Unpack_arg (p wd : Int) (s : Bs) (w : World) (hr : rightB p wd = false) :
    Calls Tryz.prog 6 #[.agg #[.int .i64 p, .int .i64 wd], .string ⟨s.toArray⟩] w (NodePost w (unpackE p wd) (unpackP p wd s)) := by
  have h1 : unpackP p wd s = none := by simp [unpackP, hr]
  have h2 : unpackE p wd = 2 := by simp [unpackE, hr]
  have H1 := Lib.hid h1; have H2 := Lib.hid h2; have HR := Lib.hid hr; clear h1 h2 hr
  go_enter Tryz.func6, Tryz.ntmps6
  go_wp2_with fail
  refine (right_any _ _ _).mono ?_
  rintro e w' ⟨rfl, bs, m, rfl⟩
  rw [HR.out]
  have hb : Hid (Blk (ext ((w.alloc (.cells #[.int .i64 p, .int .i64 wd] 23)).alloc (.cells #[.slice none 0 0, .slice none 0 0, .slice none 0 0] 28)) bs m) (w.heap.size + 1) 28 #[.slice none 0 0, .slice none 0 0, .slice none 0 0]) := Lib.hid (by
    have h := (Blk.new (w.alloc (.cells #[.int .i64 p, .int .i64 wd] 23)) 28 #[.slice none 0 0, .slice none 0 0, .slice none 0 0]).kp ((Kp.refl [] _).ext bs m) (by simp)
    simpa using h)
  have k0 : Hid (Kp [] w (ext ((w.alloc (.cells #[.int .i64 p, .int .i64 wd] 23)).alloc (.cells #[.slice none 0 0, .slice none 0 0, .slice none 0 0] 28)) bs m)) := Lib.hid (((Kp.refl [] w).alloc _).alloc _ |>.ext _ _)
  go_wp2_with fail
  refine nd_ret2 (w.heap.size + 1) (t := 28) (x := .slice none 0 0) (y := .slice none 0 0) (z := .slice none 0 0) (v := .int .i64 2) rfl rfl rfl hb.out rfl ?_
  unfold NodePost; rw [H1.out, H2.out]
  exact ⟨rfl, k0.out⟩

set_option maxHeartbeats 1000000 in set_option maxRecDepth 100000 in
theorem Unpack_none (P wd : Nat) (s : Bs) (w : World) (hs : s.length ≤ 3909374676453) (hr : rightB P wd = true) (hn : parseP P wd true s = none) :
    Calls Tryz.prog 6 #[.agg #[.int .i64 P, .int .i64 wd], .string ⟨s.toArray⟩] w (NodePost w (unpackE P wd) (unpackP P wd s)) := by
  have hr' := rightB_iff.1 hr
  have hP0 : 1024 ≤ P := by omega
  have hP : P ≤ 8192 := by omega
  have hwd : wd ≤ 32 := by omega
  have h2 : unpackE P wd = 73 := by simp [unpackE, hr]
  have h1 : unpackP P wd s = none := by simp [unpackP, hr, hn]
  have H1 := Lib.hid h1; have HN := Lib.hid hn; clear h1 hn
  have H2 := Lib.hid h2; have HR := Lib.hid hr; clear h2 hr hr'
  go_enter Tryz.func6, Tryz.ntmps6
  go_wp2_with fail
  refine (right_any _ _ _).mono ?_
  rintro e w' ⟨rfl, bs, m, rfl⟩
  rw [HR.out]
  have hb : Hid (Blk (ext ((w.alloc (.cells #[.int .i64 P, .int .i64 wd] 23)).alloc (.cells #[.slice none 0 0, .slice none 0 0, .slice none 0 0] 28)) bs m) (w.heap.size + 1) 28 #[.slice none 0 0, .slice none 0 0, .slice none 0 0]) := Lib.hid (by
    have h := (Blk.new (w.alloc (.cells #[.int .i64 P, .int .i64 wd] 23)) 28 #[.slice none 0 0, .slice none 0 0, .slice none 0 0]).kp ((Kp.refl [] _).ext bs m) (by simp)
    simpa using h)
  have k0 : Hid (Kp [] w (ext ((w.alloc (.cells #[.int .i64 P, .int .i64 wd] 23)).alloc (.cells #[.slice none 0 0, .slice none 0 0, .slice none 0 0] 28)) bs m)) := Lib.hid (((Kp.refl [] w).alloc _).alloc _ |>.ext _ _)
  go_wp2_with fail
  refine (parse_any P wd true s _ hs hP0 hP hwd).mono ?_
  rintro e w1 h1
  rw [HN.out] at h1
  obtain ⟨pa, sa, ka, pn, sn, kn, pc, sc, kc, rfl, k1⟩ := h1
  have B1 := Lib.hid (hb.out.kp k1 (by simp))
  have j0 := B1.out.cell 0; have j1 := B1.out.cell 1; have j2 := B1.out.cell 2; have j3 := B1.out.frozen 0; have j4 := B1.out.frozen 1; have j5 := B1.out.frozen 2
  simp only [List.getElem?_toArray, List.getElem?_cons_zero, List.getElem?_cons_succ] at j0 j1 j2
  have jz := B1.out.lt
  have hfr := (((Blk.new w 23 #[.int .i64 P, .int .i64 wd]).alloc (.cells #[.slice none 0 0, .slice none 0 0, .slice none 0 0] 28)).kp ((Kp.refl [] _).ext bs m) (by simp)).kp k1 (by simp)
  have i0 := hfr.cell 0; have i1 := hfr.cell 1
  simp only [List.getElem?_toArray, List.getElem?_cons_zero, List.getElem?_cons_succ] at i0 i1
  have K1 := Lib.hid (k0.out.trans k1)
  clear k1 hfr
  go_wp2_with fail
  have h := ((((B1.out).set 0 (.slice none 0 0)).set 1 (.slice none 0 0)).set 2 (.slice none 0 0)).alloc (.cells #[.slice pa pn pc, .slice sa sn sc, .slice ka kn kc] 28)
  have hk := ((((K1.out).setCell (a := ⟨w.heap.size + 1, 0, none⟩) (.slice none 0 0) (.inl (by show _ ≤ w.heap.size + 1; omega))).setCell (a := ⟨w.heap.size + 1, 1, none⟩) (.slice none 0 0) (.inl (by show _ ≤ w.heap.size + 1; omega))).setCell (a := ⟨w.heap.size + 1, 2, none⟩) (.slice none 0 0) (.inl (by show _ ≤ w.heap.size + 1; omega))).alloc (.cells #[.slice pa pn pc, .slice sa sn sc, .slice ka kn kc] 28)
  refine nd_ret2 (w.heap.size + 1) (t := 28) (x := .slice none 0 0) (y := .slice none 0 0) (z := .slice none 0 0) (v := .int .i64 73) rfl rfl rfl (by simpa using h) rfl ?_
  unfold NodePost; rw [H1.out, H2.out]
  exact ⟨rfl, hk⟩

set_option maxHeartbeats 1000000 in set_option maxRecDepth 100000 in
theorem Unpack_ok (P wd : Nat) (s : Bs) (w : World) (hs : s.length ≤ 3909374676453) (hr : rightB P wd = true) (n : Nd) (hn : parseP P wd true s = some n) (he : packE P wd n = 0) :
    Calls Tryz.prog 6 #[.agg #[.int .i64 P, .int .i64 wd], .string ⟨s.toArray⟩] w (NodePost w (unpackE P wd) (unpackP P wd s)) := by
  have hr' := rightB_iff.1 hr
  have hP0 : 1024 ≤ P := by omega
  have hP : P ≤ 8192 := by omega
  have hwd : wd ≤ 32 := by omega
  have h2 : unpackE P wd = 73 := by simp [unpackE, hr]
  have hok := parseP_ok hs hn
  have h1 : unpackP P wd s = some n := by simp [unpackP, hr, hn, Option.filter, he]
  obtain ⟨c, hc⟩ : ∃ c, packE P wd n = c := ⟨_, rfl⟩
  rw [hc] at he
  have hcb : (c != 0) = false := by simpa using he
  have H1 := Lib.hid h1; have HN := Lib.hid hn; have HOK := Lib.hid hok; have HC := Lib.hid hc; clear h1 hn hok hc he
  have H2 := Lib.hid h2; have HR := Lib.hid hr; clear h2 hr hr'
  go_enter Tryz.func6, Tryz.ntmps6
  go_wp2_with fail
  refine (right_any _ _ _).mono ?_
  rintro e w' ⟨rfl, bs, m, rfl⟩
  rw [HR.out]
  have hb : Hid (Blk (ext ((w.alloc (.cells #[.int .i64 P, .int .i64 wd] 23)).alloc (.cells #[.slice none 0 0, .slice none 0 0, .slice none 0 0] 28)) bs m) (w.heap.size + 1) 28 #[.slice none 0 0, .slice none 0 0, .slice none 0 0]) := Lib.hid (by
    have h := (Blk.new (w.alloc (.cells #[.int .i64 P, .int .i64 wd] 23)) 28 #[.slice none 0 0, .slice none 0 0, .slice none 0 0]).kp ((Kp.refl [] _).ext bs m) (by simp)
    simpa using h)
  have k0 : Hid (Kp [] w (ext ((w.alloc (.cells #[.int .i64 P, .int .i64 wd] 23)).alloc (.cells #[.slice none 0 0, .slice none 0 0, .slice none 0 0] 28)) bs m)) := Lib.hid (((Kp.refl [] w).alloc _).alloc _ |>.ext _ _)
  go_wp2_with fail
  refine (parse_any P wd true s _ hs hP0 hP hwd).mono ?_
  rintro e w1 h1
  rw [HN.out] at h1
  obtain ⟨pa, sa, ka, pc, sc, kc, rfl, od, k1⟩ := h1
  have nd := od.at; have hnew := od.lo; have OD := Lib.hid od
  have B1 := Lib.hid (hb.out.kp k1 (by simp))
  have j0 := B1.out.cell 0; have j1 := B1.out.cell 1; have j2 := B1.out.cell 2; have j3 := B1.out.frozen 0; have j4 := B1.out.frozen 1; have j5 := B1.out.frozen 2
  simp only [List.getElem?_toArray, List.getElem?_cons_zero, List.getElem?_cons_succ] at j0 j1 j2
  have jz := B1.out.lt
  have hfr := (((Blk.new w 23 #[.int .i64 P, .int .i64 wd]).alloc (.cells #[.slice none 0 0, .slice none 0 0, .slice none 0 0] 28)).kp ((Kp.refl [] _).ext bs m) (by simp)).kp k1 (by simp)
  have i0 := hfr.cell 0; have i1 := hfr.cell 1
  simp only [List.getElem?_toArray, List.getElem?_cons_zero, List.getElem?_cons_succ] at i0 i1
  have K1 := Lib.hid (k0.out.trans k1)
  have ND := Lib.hid nd; have HNW : Hid (∀ g ∈ ab pa ++ ab sa ++ ab ka, w.heap.size + 1 < g) := Lib.hid (fun g hg => by have := hnew g hg; simp at this; omega)
  clear k1 hfr nd hnew od
  go_wp2_with fail
  refine (Pack_any _ _ _ _ _ _ _ _ n _ (ND.out.kp0 ((Kp.refl [] _).alloc _)) HOK.out).mono ?_
  rintro e w2 ⟨rfl, bs2, m2, rfl⟩
  rw [HC.out]
  go_wp2_with fail
  have h := ((((B1.out).set 0 (.slice pa n.pairs.length pc)).set 1 (.slice sa n.seps.length sc)).set 2 (.slice ka n.kids.length kc)).alloc (.cells #[.slice pa n.pairs.length pc, .slice sa n.seps.length sc, .slice ka n.kids.length kc] 28) |>.kp ((Kp.refl [] _).ext bs2 m2) (by simp)
  have hk := ((((K1.out).setCell (a := ⟨w.heap.size + 1, 0, none⟩) (.slice pa n.pairs.length pc) (.inl (by show _ ≤ w.heap.size + 1; omega))).setCell (a := ⟨w.heap.size + 1, 1, none⟩) (.slice sa n.seps.length sc) (.inl (by show _ ≤ w.heap.size + 1; omega))).setCell (a := ⟨w.heap.size + 1, 2, none⟩) (.slice ka n.kids.length kc) (.inl (by show _ ≤ w.heap.size + 1; omega))).alloc (.cells #[.slice pa n.pairs.length pc, .slice sa n.seps.length sc, .slice ka n.kids.length kc] 28) |>.ext bs2 m2
  refine nd_ret2 (w.heap.size + 1) (t := 28) (x := .slice pa n.pairs.length pc) (y := .slice sa n.seps.length sc) (z := .slice ka n.kids.length kc) (v := .int .i64 0) rfl rfl rfl (by simpa using h) rfl ?_
  unfold NodePost; rw [H1.out]
  exact ⟨pa, sa, ka, pc, sc, kc, rfl, ((Own3.le (OD.out.kp ((((Kp.refl [w.heap.size + 1] w1).setCell (a := ⟨w.heap.size + 1, 0, none⟩) (.slice pa n.pairs.length pc) (.inr (by simp))).setCell (a := ⟨w.heap.size + 1, 1, none⟩) (.slice sa n.seps.length sc) (.inr (by simp))).setCell (a := ⟨w.heap.size + 1, 2, none⟩) (.slice ka n.kids.length kc) (.inr (by simp))) (by intro g hg; have := HNW.out g hg; simp; omega)) (by first | (simp; done) | (simp; omega))).kp (((Kp.refl [] _).alloc _).ext _ _) (by simp)), hk⟩

set_option maxHeartbeats 1000000 in set_option maxRecDepth 100000 in
theorem Unpack_bad (P wd : Nat) (s : Bs) (w : World) (hs : s.length ≤ 3909374676453) (hr : rightB P wd = true) (n : Nd) (hn : parseP P wd true s = some n) (he : packE P wd n ≠ 0) :
    Calls Tryz.prog 6 #[.agg #[.int .i64 P, .int .i64 wd], .string ⟨s.toArray⟩] w (NodePost w (unpackE P wd) (unpackP P wd s)) := by
  have hr' := rightB_iff.1 hr
  have hP0 : 1024 ≤ P := by omega
  have hP : P ≤ 8192 := by omega
  have hwd : wd ≤ 32 := by omega
  have h2 : unpackE P wd = 73 := by simp [unpackE, hr]
  have hok := parseP_ok hs hn
  have h1 : unpackP P wd s = none := by simp [unpackP, hr, hn, Option.filter, he]
  obtain ⟨c, hc⟩ : ∃ c, packE P wd n = c := ⟨_, rfl⟩
  rw [hc] at he
  have hcb : (c != 0) = true := by simpa using he
  have H1 := Lib.hid h1; have HN := Lib.hid hn; have HOK := Lib.hid hok; have HC := Lib.hid hc; clear h1 hn hok hc he
  have H2 := Lib.hid h2; have HR := Lib.hid hr; clear h2 hr hr'
  go_enter Tryz.func6, Tryz.ntmps6
  go_wp2_with fail
  refine (right_any _ _ _).mono ?_
  rintro e w' ⟨rfl, bs, m, rfl⟩
  rw [HR.out]
  have hb : Hid (Blk (ext ((w.alloc (.cells #[.int .i64 P, .int .i64 wd] 23)).alloc (.cells #[.slice none 0 0, .slice none 0 0, .slice none 0 0] 28)) bs m) (w.heap.size + 1) 28 #[.slice none 0 0, .slice none 0 0, .slice none 0 0]) := Lib.hid (by
    have h := (Blk.new (w.alloc (.cells #[.int .i64 P, .int .i64 wd] 23)) 28 #[.slice none 0 0, .slice none 0 0, .slice none 0 0]).kp ((Kp.refl [] _).ext bs m) (by simp)
    simpa using h)
  have k0 : Hid (Kp [] w (ext ((w.alloc (.cells #[.int .i64 P, .int .i64 wd] 23)).alloc (.cells #[.slice none 0 0, .slice none 0 0, .slice none 0 0] 28)) bs m)) := Lib.hid (((Kp.refl [] w).alloc _).alloc _ |>.ext _ _)
  go_wp2_with fail
  refine (parse_any P wd true s _ hs hP0 hP hwd).mono ?_
  rintro e w1 h1
  rw [HN.out] at h1
  obtain ⟨pa, sa, ka, pc, sc, kc, rfl, od, k1⟩ := h1
  have nd := od.at; have hnew := od.lo; have OD := Lib.hid od
  have B1 := Lib.hid (hb.out.kp k1 (by simp))
  have j0 := B1.out.cell 0; have j1 := B1.out.cell 1; have j2 := B1.out.cell 2; have j3 := B1.out.frozen 0; have j4 := B1.out.frozen 1; have j5 := B1.out.frozen 2
  simp only [List.getElem?_toArray, List.getElem?_cons_zero, List.getElem?_cons_succ] at j0 j1 j2
  have jz := B1.out.lt
  have hfr := (((Blk.new w 23 #[.int .i64 P, .int .i64 wd]).alloc (.cells #[.slice none 0 0, .slice none 0 0, .slice none 0 0] 28)).kp ((Kp.refl [] _).ext bs m) (by simp)).kp k1 (by simp)
  have i0 := hfr.cell 0; have i1 := hfr.cell 1
  simp only [List.getElem?_toArray, List.getElem?_cons_zero, List.getElem?_cons_succ] at i0 i1
  have K1 := Lib.hid (k0.out.trans k1)
  have ND := Lib.hid nd; have HNW : Hid (∀ g ∈ ab pa ++ ab sa ++ ab ka, w.heap.size + 1 < g) := Lib.hid (fun g hg => by have := hnew g hg; simp at this; omega)
  clear k1 hfr nd hnew od
  go_wp2_with fail
  refine (Pack_any _ _ _ _ _ _ _ _ n _ (ND.out.kp0 ((Kp.refl [] _).alloc _)) HOK.out).mono ?_
  rintro e w2 ⟨rfl, bs2, m2, rfl⟩
  rw [HC.out]
  go_wp2_with fail
  have h := ((((B1.out).set 0 (.slice none 0 0)).set 1 (.slice none 0 0)).set 2 (.slice none 0 0)).alloc (.cells #[.slice pa n.pairs.length pc, .slice sa n.seps.length sc, .slice ka n.kids.length kc] 28) |>.kp ((Kp.refl [] _).ext bs2 m2) (by simp)
  have hk := ((((K1.out).setCell (a := ⟨w.heap.size + 1, 0, none⟩) (.slice none 0 0) (.inl (by show _ ≤ w.heap.size + 1; omega))).setCell (a := ⟨w.heap.size + 1, 1, none⟩) (.slice none 0 0) (.inl (by show _ ≤ w.heap.size + 1; omega))).setCell (a := ⟨w.heap.size + 1, 2, none⟩) (.slice none 0 0) (.inl (by show _ ≤ w.heap.size + 1; omega))).alloc (.cells #[.slice pa n.pairs.length pc, .slice sa n.seps.length sc, .slice ka n.kids.length kc] 28) |>.ext bs2 m2
  refine nd_ret2 (w.heap.size + 1) (t := 28) (x := .slice none 0 0) (y := .slice none 0 0) (z := .slice none 0 0) (v := .int .i64 73) rfl rfl rfl (by simpa using h) rfl ?_
  unfold NodePost; rw [H1.out, H2.out]
  exact ⟨rfl, hk⟩

theorem Unpack_own (p wd : Int) (s : Bs) (w : World) (hs : s.length ≤ 3909374676453) :
    Calls Tryz.prog 6 #[.agg #[.int .i64 p, .int .i64 wd], .string ⟨s.toArray⟩] w (NodePost w (unpackE p wd) (unpackP p wd s)) := by
  cases hr : rightB p wd
  · exact Unpack_arg p wd s w hr
  · have hr' := rightB_iff.1 hr
    obtain ⟨d, rfl⟩ := Int.eq_ofNat_of_zero_le (show 0 ≤ wd by omega)
    obtain ⟨q, rfl⟩ := Int.eq_ofNat_of_zero_le (show 0 ≤ p by omega)
    cases hn : parseP q d true s with
    | none => exact Unpack_none q d s w hs hr hn
    | some n =>
      by_cases he : packE q d n = 0
      · exact Unpack_ok q d s w hs hr n hn he
      · exact Unpack_bad q d s w hs hr n hn he

theorem Unpack_any (p wd : Int) (s : Bs) (w : World) (hs : s.length ≤ 3909374676453) :
    Calls Tryz.prog 6 #[.agg #[.int .i64 p, .int .i64 wd], .string ⟨s.toArray⟩] w (NodePostW w (unpackE p wd) (unpackP p wd s)) :=
  (Unpack_own p wd s w hs).mono fun _ _ h => h.weak

set_option maxHeartbeats 1000000 in set_option maxRecDepth 100000 in
theorem Read_arg (p wd : Int) (s : Bs) (w : World) (hr : rightB p wd = false) :
    Calls Tryz.prog 7 #[.agg #[.int .i64 p, .int .i64 wd], .string ⟨s.toArray⟩] w (NodePost w (unpackE p wd) (readP p wd s)) := by
  have h1 : readP p wd s = none := by simp [readP, hr]
  have h2 : unpackE p wd = 2 := by simp [unpackE, hr]
  have H1 := Lib.hid h1; have H2 := Lib.hid h2; have HR := Lib.hid hr; clear h1 h2 hr
  go_enter Tryz.func7, Tryz.ntmps7
  go_wp2_with fail
  refine (right_any _ _ _).mono ?_
  rintro e w' ⟨rfl, bs, m, rfl⟩
  rw [HR.out]
  have hb : Hid (Blk (ext ((w.alloc (.cells #[.int .i64 p, .int .i64 wd] 23)).alloc (.cells #[.slice none 0 0, .slice none 0 0, .slice none 0 0] 28)) bs m) (w.heap.size + 1) 28 #[.slice none 0 0, .slice none 0 0, .slice none 0 0]) := Lib.hid (by
    have h := (Blk.new (w.alloc (.cells #[.int .i64 p, .int .i64 wd] 23)) 28 #[.slice none 0 0, .slice none 0 0, .slice none 0 0]).kp ((Kp.refl [] _).ext bs m) (by simp)
    simpa using h)
  have k0 : Hid (Kp [] w (ext ((w.alloc (.cells #[.int .i64 p, .int .i64 wd] 23)).alloc (.cells #[.slice none 0 0, .slice none 0 0, .slice none 0 0] 28)) bs m)) := Lib.hid (((Kp.refl [] w).alloc _).alloc _ |>.ext _ _)
  go_wp2_with fail
  refine nd_ret2 (w.heap.size + 1) (t := 28) (x := .slice none 0 0) (y := .slice none 0 0) (z := .slice none 0 0) (v := .int .i64 2) rfl rfl rfl hb.out rfl ?_
  unfold NodePost; rw [H1.out, H2.out]
  exact ⟨rfl, k0.out⟩

set_option maxHeartbeats 1000000 in set_option maxRecDepth 100000 in
theorem Read_none (P wd : Nat) (s : Bs) (w : World) (hs : s.length ≤ 3909374676453) (hr : rightB P wd = true) (hn : parseP P wd false s = none) :
    Calls Tryz.prog 7 #[.agg #[.int .i64 P, .int .i64 wd], .string ⟨s.toArray⟩] w (NodePost w (unpackE P wd) (readP P wd s)) := by
  have hr' := rightB_iff.1 hr
  have hP0 : 1024 ≤ P := by omega
  have hP : P ≤ 8192 := by omega
  have hwd : wd ≤ 32 := by omega
  have h2 : unpackE P wd = 73 := by simp [unpackE, hr]
  have h1 : readP P wd s = none := by simp [readP, hr, hn]
  have H1 := Lib.hid h1; have HN := Lib.hid hn; clear h1 hn
  have H2 := Lib.hid h2; have HR := Lib.hid hr; clear h2 hr hr'
  go_enter Tryz.func7, Tryz.ntmps7
  go_wp2_with fail
  refine (right_any _ _ _).mono ?_
  rintro e w' ⟨rfl, bs, m, rfl⟩
  rw [HR.out]
  have hb : Hid (Blk (ext ((w.alloc (.cells #[.int .i64 P, .int .i64 wd] 23)).alloc (.cells #[.slice none 0 0, .slice none 0 0, .slice none 0 0] 28)) bs m) (w.heap.size + 1) 28 #[.slice none 0 0, .slice none 0 0, .slice none 0 0]) := Lib.hid (by
    have h := (Blk.new (w.alloc (.cells #[.int .i64 P, .int .i64 wd] 23)) 28 #[.slice none 0 0, .slice none 0 0, .slice none 0 0]).kp ((Kp.refl [] _).ext bs m) (by simp)
    simpa using h)
  have k0 : Hid (Kp [] w (ext ((w.alloc (.cells #[.int .i64 P, .int .i64 wd] 23)).alloc (.cells #[.slice none 0 0, .slice none 0 0, .slice none 0 0] 28)) bs m)) := Lib.hid (((Kp.refl [] w).alloc _).alloc _ |>.ext _ _)
  go_wp2_with fail
  refine (parse_any P wd false s _ hs hP0 hP hwd).mono ?_
  rintro e w1 h1
  rw [HN.out] at h1
  obtain ⟨pa, sa, ka, pn, sn, kn, pc, sc, kc, rfl, k1⟩ := h1
  have B1 := Lib.hid (hb.out.kp k1 (by simp))
  have j0 := B1.out.cell 0; have j1 := B1.out.cell 1; have j2 := B1.out.cell 2; have j3 := B1.out.frozen 0; have j4 := B1.out.frozen 1; have j5 := B1.out.frozen 2
  simp only [List.getElem?_toArray, List.getElem?_cons_zero, List.getElem?_cons_succ] at j0 j1 j2
  have jz := B1.out.lt
  have hfr := (((Blk.new w 23 #[.int .i64 P, .int .i64 wd]).alloc (.cells #[.slice none 0 0, .slice none 0 0, .slice none 0 0] 28)).kp ((Kp.refl [] _).ext bs m) (by simp)).kp k1 (by simp)
  have i0 := hfr.cell 0; have i1 := hfr.cell 1
  simp only [List.getElem?_toArray, List.getElem?_cons_zero, List.getElem?_cons_succ] at i0 i1
  have K1 := Lib.hid (k0.out.trans k1)
  clear k1 hfr
  go_wp2_with fail
  have h := ((((B1.out).set 0 (.slice none 0 0)).set 1 (.slice none 0 0)).set 2 (.slice none 0 0)).alloc (.cells #[.slice pa pn pc, .slice sa sn sc, .slice ka kn kc] 28)
  have hk := ((((K1.out).setCell (a := ⟨w.heap.size + 1, 0, none⟩) (.slice none 0 0) (.inl (by show _ ≤ w.heap.size + 1; omega))).setCell (a := ⟨w.heap.size + 1, 1, none⟩) (.slice none 0 0) (.inl (by show _ ≤ w.heap.size + 1; omega))).setCell (a := ⟨w.heap.size + 1, 2, none⟩) (.slice none 0 0) (.inl (by show _ ≤ w.heap.size + 1; omega))).alloc (.cells #[.slice pa pn pc, .slice sa sn sc, .slice ka kn kc] 28)
  refine nd_ret2 (w.heap.size + 1) (t := 28) (x := .slice none 0 0) (y := .slice none 0 0) (z := .slice none 0 0) (v := .int .i64 73) rfl rfl rfl (by simpa using h) rfl ?_
  unfold NodePost; rw [H1.out, H2.out]
  exact ⟨rfl, hk⟩

set_option maxHeartbeats 1000000 in set_option maxRecDepth 100000 in
theorem Read_ok (P wd : Nat) (s : Bs) (w : World) (hs : s.length ≤ 3909374676453) (hr : rightB P wd = true) (n : Nd) (hn : parseP P wd false s = some n) (he : mayE P wd n = 0) :
    Calls Tryz.prog 7 #[.agg #[.int .i64 P, .int .i64 wd], .string ⟨s.toArray⟩] w (NodePost w (unpackE P wd) (readP P wd s)) := by
  have hr' := rightB_iff.1 hr
  have hP0 : 1024 ≤ P := by omega
  have hP : P ≤ 8192 := by omega
  have hwd : wd ≤ 32 := by omega
  have h2 : unpackE P wd = 73 := by simp [unpackE, hr]
  have hok := parseP_ok hs hn
  have h1 : readP P wd s = some n := by simp [readP, hr, hn, Option.filter, he]
  obtain ⟨c, hc⟩ : ∃ c, mayE P wd n = c := ⟨_, rfl⟩
  rw [hc] at he
  have hcb : (c != 0) = false := by simpa using he
  have H1 := Lib.hid h1; have HN := Lib.hid hn; have HOK := Lib.hid hok; have HC := Lib.hid hc; clear h1 hn hok hc he
  have H2 := Lib.hid h2; have HR := Lib.hid hr; clear h2 hr hr'
  go_enter Tryz.func7, Tryz.ntmps7
  go_wp2_with fail
  refine (right_any _ _ _).mono ?_
  rintro e w' ⟨rfl, bs, m, rfl⟩
  rw [HR.out]
  have hb : Hid (Blk (ext ((w.alloc (.cells #[.int .i64 P, .int .i64 wd] 23)).alloc (.cells #[.slice none 0 0, .slice none 0 0, .slice none 0 0] 28)) bs m) (w.heap.size + 1) 28 #[.slice none 0 0, .slice none 0 0, .slice none 0 0]) := Lib.hid (by
    have h := (Blk.new (w.alloc (.cells #[.int .i64 P, .int .i64 wd] 23)) 28 #[.slice none 0 0, .slice none 0 0, .slice none 0 0]).kp ((Kp.refl [] _).ext bs m) (by simp)
    simpa using h)
  have k0 : Hid (Kp [] w (ext ((w.alloc (.cells #[.int .i64 P, .int .i64 wd] 23)).alloc (.cells #[.slice none 0 0, .slice none 0 0, .slice none 0 0] 28)) bs m)) := Lib.hid (((Kp.refl [] w).alloc _).alloc _ |>.ext _ _)
  go_wp2_with fail
  refine (parse_any P wd false s _ hs hP0 hP hwd).mono ?_
  rintro e w1 h1
  rw [HN.out] at h1
  obtain ⟨pa, sa, ka, pc, sc, kc, rfl, od, k1⟩ := h1
  have nd := od.at; have hnew := od.lo; have OD := Lib.hid od
  have B1 := Lib.hid (hb.out.kp k1 (by simp))
  have j0 := B1.out.cell 0; have j1 := B1.out.cell 1; have j2 := B1.out.cell 2; have j3 := B1.out.frozen 0; have j4 := B1.out.frozen 1; have j5 := B1.out.frozen 2
  simp only [List.getElem?_toArray, List.getElem?_cons_zero, List.getElem?_cons_succ] at j0 j1 j2
  have jz := B1.out.lt
  have hfr := (((Blk.new w 23 #[.int .i64 P, .int .i64 wd]).alloc (.cells #[.slice none 0 0, .slice none 0 0, .slice none 0 0] 28)).kp ((Kp.refl [] _).ext bs m) (by simp)).kp k1 (by simp)
  have i0 := hfr.cell 0; have i1 := hfr.cell 1
  simp only [List.getElem?_toArray, List.getElem?_cons_zero, List.getElem?_cons_succ] at i0 i1
  have K1 := Lib.hid (k0.out.trans k1)
  have ND := Lib.hid nd; have HNW : Hid (∀ g ∈ ab pa ++ ab sa ++ ab ka, w.heap.size + 1 < g) := Lib.hid (fun g hg => by have := hnew g hg; simp at this; omega)
  clear k1 hfr nd hnew od
  go_wp2_with fail
  refine (may_any _ _ _ _ _ _ _ _ n _ (ND.out.kp0 ((Kp.refl [] _).alloc _)) HOK.out).mono ?_
  rintro e w2 ⟨rfl, bs2, m2, rfl⟩
  rw [HC.out]
  go_wp2_with fail
  have h := ((((B1.out).set 0 (.slice pa n.pairs.length pc)).set 1 (.slice sa n.seps.length sc)).set 2 (.slice ka n.kids.length kc)).alloc (.cells #[.slice pa n.pairs.length pc, .slice sa n.seps.length sc, .slice ka n.kids.length kc] 28) |>.kp ((Kp.refl [] _).ext bs2 m2) (by simp)
  have hk := ((((K1.out).setCell (a := ⟨w.heap.size + 1, 0, none⟩) (.slice pa n.pairs.length pc) (.inl (by show _ ≤ w.heap.size + 1; omega))).setCell (a := ⟨w.heap.size + 1, 1, none⟩) (.slice sa n.seps.length sc) (.inl (by show _ ≤ w.heap.size + 1; omega))).setCell (a := ⟨w.heap.size + 1, 2, none⟩) (.slice ka n.kids.length kc) (.inl (by show _ ≤ w.heap.size + 1; omega))).alloc (.cells #[.slice pa n.pairs.length pc, .slice sa n.seps.length sc, .slice ka n.kids.length kc] 28) |>.ext bs2 m2
  refine nd_ret2 (w.heap.size + 1) (t := 28) (x := .slice pa n.pairs.length pc) (y := .slice sa n.seps.length sc) (z := .slice ka n.kids.length kc) (v := .int .i64 0) rfl rfl rfl (by simpa using h) rfl ?_
  unfold NodePost; rw [H1.out]
  exact ⟨pa, sa, ka, pc, sc, kc, rfl, ((Own3.le (OD.out.kp ((((Kp.refl [w.heap.size + 1] w1).setCell (a := ⟨w.heap.size + 1, 0, none⟩) (.slice pa n.pairs.length pc) (.inr (by simp))).setCell (a := ⟨w.heap.size + 1, 1, none⟩) (.slice sa n.seps.length sc) (.inr (by simp))).setCell (a := ⟨w.heap.size + 1, 2, none⟩) (.slice ka n.kids.length kc) (.inr (by simp))) (by intro g hg; have := HNW.out g hg; simp; omega)) (by first | (simp; done) | (simp; omega))).kp (((Kp.refl [] _).alloc _).ext _ _) (by simp)), hk⟩

set_option maxHeartbeats 1000000 in set_option maxRecDepth 100000 in
theorem Read_bad (P wd : Nat) (s : Bs) (w : World) (hs : s.length ≤ 3909374676453) (hr : rightB P wd = true) (n : Nd) (hn : parseP P wd false s = some n) (he : mayE P wd n ≠ 0) :
    Calls Tryz.prog 7 #[.agg #[.int .i64 P, .int .i64 wd], .string ⟨s.toArray⟩] w (NodePost w (unpackE P wd) (readP P wd s)) := by
  have hr' := rightB_iff.1 hr
  have hP0 : 1024 ≤ P := by omega
  have hP : P ≤ 8192 := by omega
  have hwd : wd ≤ 32 := by omega
  have h2 : unpackE P wd = 73 := by simp [unpackE, hr]
  have hok := parseP_ok hs hn
  have h1 : readP P wd s = none := by simp [readP, hr, hn, Option.filter, he]
  obtain ⟨c, hc⟩ : ∃ c, mayE P wd n = c := ⟨_, rfl⟩
  rw [hc] at he
  have hcb : (c != 0) = true := by simpa using he
  have H1 := Lib.hid h1; have HN := Lib.hid hn; have HOK := Lib.hid hok; have HC := Lib.hid hc; clear h1 hn hok hc he
  have H2 := Lib.hid h2; have HR := Lib.hid hr; clear h2 hr hr'
  go_enter Tryz.func7, Tryz.ntmps7
  go_wp2_with fail
  refine (right_any _ _ _).mono ?_
  rintro e w' ⟨rfl, bs, m, rfl⟩
  rw [HR.out]
  have hb : Hid (Blk (ext ((w.alloc (.cells #[.int .i64 P, .int .i64 wd] 23)).alloc (.cells #[.slice none 0 0, .slice none 0 0, .slice none 0 0] 28)) bs m) (w.heap.size + 1) 28 #[.slice none 0 0, .slice none 0 0, .slice none 0 0]) := Lib.hid (by
    have h := (Blk.new (w.alloc (.cells #[.int .i64 P, .int .i64 wd] 23)) 28 #[.slice none 0 0, .slice none 0 0, .slice none 0 0]).kp ((Kp.refl [] _).ext bs m) (by simp)
    simpa using h)
  have k0 : Hid (Kp [] w (ext ((w.alloc (.cells #[.int .i64 P, .int .i64 wd] 23)).alloc (.cells #[.slice none 0 0, .slice none 0 0, .slice none 0 0] 28)) bs m)) := Lib.hid (((Kp.refl [] w).alloc _).alloc _ |>.ext _ _)
  go_wp2_with fail
  refine (parse_any P wd false s _ hs hP0 hP hwd).mono ?_
  rintro e w1 h1
  rw [HN.out] at h1
  obtain ⟨pa, sa, ka, pc, sc, kc, rfl, od, k1⟩ := h1
  have nd := od.at; have hnew := od.lo; have OD := Lib.hid od
  have B1 := Lib.hid (hb.out.kp k1 (by simp))
  have j0 := B1.out.cell 0; have j1 := B1.out.cell 1; have j2 := B1.out.cell 2; have j3 := B1.out.frozen 0; have j4 := B1.out.frozen 1; have j5 := B1.out.frozen 2
  simp only [List.getElem?_toArray, List.getElem?_cons_zero, List.getElem?_cons_succ] at j0 j1 j2
  have jz := B1.out.lt
  have hfr := (((Blk.new w 23 #[.int .i64 P, .int .i64 wd]).alloc (.cells #[.slice none 0 0, .slice none 0 0, .slice none 0 0] 28)).kp ((Kp.refl [] _).ext bs m) (by simp)).kp k1 (by simp)
  have i0 := hfr.cell 0; have i1 := hfr.cell 1
  simp only [List.getElem?_toArray, List.getElem?_cons_zero, List.getElem?_cons_succ] at i0 i1
  have K1 := Lib.hid (k0.out.trans k1)
  have ND := Lib.hid nd; have HNW : Hid (∀ g ∈ ab pa ++ ab sa ++ ab ka, w.heap.size + 1 < g) := Lib.hid (fun g hg => by have := hnew g hg; simp at this; omega)
  clear k1 hfr nd hnew od
  go_wp2_with fail
  refine (may_any _ _ _ _ _ _ _ _ n _ (ND.out.kp0 ((Kp.refl [] _).alloc _)) HOK.out).mono ?_
  rintro e w2 ⟨rfl, bs2, m2, rfl⟩
  rw [HC.out]
  go_wp2_with fail
  have h := ((((B1.out).set 0 (.slice none 0 0)).set 1 (.slice none 0 0)).set 2 (.slice none 0 0)).alloc (.cells #[.slice pa n.pairs.length pc, .slice sa n.seps.length sc, .slice ka n.kids.length kc] 28) |>.kp ((Kp.refl [] _).ext bs2 m2) (by simp)
  have hk := ((((K1.out).setCell (a := ⟨w.heap.size + 1, 0, none⟩) (.slice none 0 0) (.inl (by show _ ≤ w.heap.size + 1; omega))).setCell (a := ⟨w.heap.size + 1, 1, none⟩) (.slice none 0 0) (.inl (by show _ ≤ w.heap.size + 1; omega))).setCell (a := ⟨w.heap.size + 1, 2, none⟩) (.slice none 0 0) (.inl (by show _ ≤ w.heap.size + 1; omega))).alloc (.cells #[.slice pa n.pairs.length pc, .slice sa n.seps.length sc, .slice ka n.kids.length kc] 28) |>.ext bs2 m2
  refine nd_ret2 (w.heap.size + 1) (t := 28) (x := .slice none 0 0) (y := .slice none 0 0) (z := .slice none 0 0) (v := .int .i64 73) rfl rfl rfl (by simpa using h) rfl ?_
  unfold NodePost; rw [H1.out, H2.out]
  exact ⟨rfl, hk⟩

theorem Read_own (p wd : Int) (s : Bs) (w : World) (hs : s.length ≤ 3909374676453) :
    Calls Tryz.prog 7 #[.agg #[.int .i64 p, .int .i64 wd], .string ⟨s.toArray⟩] w (NodePost w (unpackE p wd) (readP p wd s)) := by
  cases hr : rightB p wd
  · exact Read_arg p wd s w hr
  · have hr' := rightB_iff.1 hr
    obtain ⟨d, rfl⟩ := Int.eq_ofNat_of_zero_le (show 0 ≤ wd by omega)
    obtain ⟨q, rfl⟩ := Int.eq_ofNat_of_zero_le (show 0 ≤ p by omega)
    cases hn : parseP q d false s with
    | none => exact Read_none q d s w hs hr hn
    | some n =>
      by_cases he : mayE q d n = 0
      · exact Read_ok q d s w hs hr n hn he
      · exact Read_bad q d s w hs hr n hn he

theorem Read_any (p wd : Int) (s : Bs) (w : World) (hs : s.length ≤ 3909374676453) :
    Calls Tryz.prog 7 #[.agg #[.int .i64 p, .int .i64 wd], .string ⟨s.toArray⟩] w (NodePostW w (unpackE p wd) (readP p wd s)) :=
  (Read_own p wd s w hs).mono fun _ _ h => h.weak

end Go.Proofs.YtemicgccgcmmbaaGreat
