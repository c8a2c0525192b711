/- Unpack and Read: what they answer. -/
import Derived.Test.YtemicgccgcmmbaaZ5
import Derived.Test.YtemicgccgcmmbaaZ2
import Derived.Laws.StructEq
namespace Go.Proofs.Ytemicgccgcmmbaa
set_option linter.unusedVariables false
set_option linter.unusedSimpArgs false
open Go Go.RowKit

/-- A node or an error. -/
def NodePost (w : World) (code : Int) (r : Option Nd) (e : Ending) (w' : World) : Prop :=
  match r with
  | some n => ∃ pa sa ka pc sc kc, e = .returned (.tuple #[.agg #[.slice pa n.pairs.length pc, .slice sa n.seps.length sc, .slice ka n.kids.length kc], .int .i64 0]) ∧ Own3 w' w.heap.size pa sa ka pc sc kc n ∧ Kp [] w w'
  | none => e = .returned (.tuple #[.agg #[.slice none 0 0, .slice none 0 0, .slice none 0 0], .int .i64 code]) ∧ Kp [] w w'

/-- The same, of which less is told. -/
def NodePostW (w : World) (code : Int) (r : Option Nd) (e : Ending) (w' : World) : Prop :=
  match r with
  | some n => ∃ pa sa ka pc sc kc, e = .returned (.tuple #[.agg #[.slice pa n.pairs.length pc, .slice sa n.seps.length sc, .slice ka n.kids.length kc], .int .i64 0]) ∧ NdAt w' pa sa ka n ∧ Kp [] w w' ∧ ∀ g ∈ ab pa ++ ab sa ++ ab ka, w.heap.size ≤ g
  | none => e = .returned (.tuple #[.agg #[.slice none 0 0, .slice none 0 0, .slice none 0 0], .int .i64 code]) ∧ Kp [] w w'
theorem NodePost.weak {w : World} {code : Int} {r : Option Nd} {e : Ending} {w' : World} (h : NodePost w code r e w') : NodePostW w code r e w' := by
  cases r with
  | none => exact h
  | some n =>
    obtain ⟨pa, sa, ka, pc, sc, kc, he, od, k⟩ := h
    exact ⟨pa, sa, ka, pc, sc, kc, he, od.at, k, od.lo⟩

def unpackE (p wd : Int) : Int := if rightB p wd = true then 73 else 2
def unpackP (p wd : Int) (s : Bs) : Option Nd := if rightB p wd = true then (parseP p.toNat wd.toNat true s).filter (fun n => decide (packE p wd n = 0)) else none
def readP (p wd : Int) (s : Bs) : Option Nd := if rightB p wd = true then (parseP p.toNat wd.toNat false s).filter (fun n => decide (mayE p wd n = 0)) else none

set_option maxHeartbeats 1000000 in set_option maxRecDepth 100000 in
theorem Unpack_arg (p wd : Int) (s : Bs) (w : World) (hr : rightB p wd = false) :
    Calls Try.prog 15 #[.agg #[.int .i64 p, .int .i64 wd], .string ⟨s.toArray⟩] w (NodePost w (unpackE p wd) (unpackP p wd s)) := by
  have h1 : unpackP p wd s = none := by simp [unpackP, hr]
  have h2 : unpackE p wd = 2 := by simp [unpackE, hr]
  have H1 := Lib.hid h1; have H2 := Lib.hid h2; have HR := Lib.hid hr; clear h1 h2 hr
  go_enter Try.func15, Try.ntmps15
  go_wp2_with fail
  refine (right_any _ _ _).mono ?_
  rintro e w' ⟨rfl, bs, m, rfl⟩
  rw [HR.out]
  have hb : Hid (Blk (ext ((w.alloc (.cells #[.int .i64 p, .int .i64 wd] 23)).alloc (.cells #[.slice none 0 0, .slice none 0 0, .slice none 0 0] 30)) bs m) (w.heap.size + 1) 30 #[.slice none 0 0, .slice none 0 0, .slice none 0 0]) := Lib.hid (by
    have h := (Blk.new (w.alloc (.cells #[.int .i64 p, .int .i64 wd] 23)) 30 #[.slice none 0 0, .slice none 0 0, .slice none 0 0]).kp ((Kp.refl [] _).ext bs m) (by simp)
    simpa using h)
  have k0 : Hid (Kp [] w (ext ((w.alloc (.cells #[.int .i64 p, .int .i64 wd] 23)).alloc (.cells #[.slice none 0 0, .slice none 0 0, .slice none 0 0] 30)) bs m)) := Lib.hid (((Kp.refl [] w).alloc _).alloc _ |>.ext _ _)
  go_wp2_with fail
  refine nd_ret2 (w.heap.size + 1) (t := 30) (x := .slice none 0 0) (y := .slice none 0 0) (z := .slice none 0 0) (v := .int .i64 2) rfl rfl rfl hb.out rfl ?_
  unfold NodePost; rw [H1.out, H2.out]
  exact ⟨rfl, k0.out⟩

set_option maxHeartbeats 1000000 in set_option maxRecDepth 100000 in
theorem Unpack_none (P wd : Nat) (s : Bs) (w : World) (hs : s.length ≤ 3909374676453) (hr : rightB P wd = true) (hn : parseP P wd true s = none) :
    Calls Try.prog 15 #[.agg #[.int .i64 P, .int .i64 wd], .string ⟨s.toArray⟩] w (NodePost w (unpackE P wd) (unpackP P wd s)) := by
  have hr' := rightB_iff.1 hr
  have hP0 : 1024 ≤ P := by omega
  have hP : P ≤ 8192 := by omega
  have hwd : wd ≤ 32 := by omega
  have h2 : unpackE P wd = 73 := by simp [unpackE, hr]
  have h1 : unpackP P wd s = none := by simp [unpackP, hr, hn]
  have H1 := Lib.hid h1; have HN := Lib.hid hn; clear h1 hn
  have H2 := Lib.hid h2; have HR := Lib.hid hr; clear h2 hr hr'
  go_enter Try.func15, Try.ntmps15
  go_wp2_with fail
  refine (right_any _ _ _).mono ?_
  rintro e w' ⟨rfl, bs, m, rfl⟩
  rw [HR.out]
  have hb : Hid (Blk (ext ((w.alloc (.cells #[.int .i64 P, .int .i64 wd] 23)).alloc (.cells #[.slice none 0 0, .slice none 0 0, .slice none 0 0] 30)) bs m) (w.heap.size + 1) 30 #[.slice none 0 0, .slice none 0 0, .slice none 0 0]) := Lib.hid (by
    have h := (Blk.new (w.alloc (.cells #[.int .i64 P, .int .i64 wd] 23)) 30 #[.slice none 0 0, .slice none 0 0, .slice none 0 0]).kp ((Kp.refl [] _).ext bs m) (by simp)
    simpa using h)
  have k0 : Hid (Kp [] w (ext ((w.alloc (.cells #[.int .i64 P, .int .i64 wd] 23)).alloc (.cells #[.slice none 0 0, .slice none 0 0, .slice none 0 0] 30)) bs m)) := Lib.hid (((Kp.refl [] w).alloc _).alloc _ |>.ext _ _)
  go_wp2_with fail
  refine (parse_any P wd true s _ hs hP0 hP hwd).mono ?_
  rintro e w1 h1
  rw [HN.out] at h1
  obtain ⟨pa, sa, ka, pn, sn, kn, pc, sc, kc, rfl, k1⟩ := h1
  have B1 := Lib.hid (hb.out.kp k1 (by simp))
  have j0 := B1.out.cell 0; have j1 := B1.out.cell 1; have j2 := B1.out.cell 2; have j3 := B1.out.frozen 0; have j4 := B1.out.frozen 1; have j5 := B1.out.frozen 2
  simp only [List.getElem?_toArray, List.getElem?_cons_zero, List.getElem?_cons_succ] at j0 j1 j2
  have jz := B1.out.lt
  have hfr := (((Blk.new w 23 #[.int .i64 P, .int .i64 wd]).alloc (.cells #[.slice none 0 0, .slice none 0 0, .slice none 0 0] 30)).kp ((Kp.refl [] _).ext bs m) (by simp)).kp k1 (by simp)
  have i0 := hfr.cell 0; have i1 := hfr.cell 1
  simp only [List.getElem?_toArray, List.getElem?_cons_zero, List.getElem?_cons_succ] at i0 i1
  have K1 := Lib.hid (k0.out.trans k1)
  clear k1 hfr
  go_wp2_with fail
  have h := ((((B1.out).set 0 (.slice none 0 0)).set 1 (.slice none 0 0)).set 2 (.slice none 0 0)).alloc (.cells #[.slice pa pn pc, .slice sa sn sc, .slice ka kn kc] 30)
  have hk := ((((K1.out).setCell (a := ⟨w.heap.size + 1, 0, none⟩) (.slice none 0 0) (.inl (by show _ ≤ w.heap.size + 1; omega))).setCell (a := ⟨w.heap.size + 1, 1, none⟩) (.slice none 0 0) (.inl (by show _ ≤ w.heap.size + 1; omega))).setCell (a := ⟨w.heap.size + 1, 2, none⟩) (.slice none 0 0) (.inl (by show _ ≤ w.heap.size + 1; omega))).alloc (.cells #[.slice pa pn pc, .slice sa sn sc, .slice ka kn kc] 30)
  refine nd_ret2 (w.heap.size + 1) (t := 30) (x := .slice none 0 0) (y := .slice none 0 0) (z := .slice none 0 0) (v := .int .i64 73) rfl rfl rfl (by simpa using h) rfl ?_
  unfold NodePost; rw [H1.out, H2.out]
  exact ⟨rfl, hk⟩

set_option maxHeartbeats 1000000 in set_option maxRecDepth 100000 in
theorem Unpack_ok (P wd : Nat) (s : Bs) (w : World) (hs : s.length ≤ 3909374676453) (hr : rightB P wd = true) (n : Nd) (hn : parseP P wd true s = some n) (he : packE P wd n = 0) :
    Calls Try.prog 15 #[.agg #[.int .i64 P, .int .i64 wd], .string ⟨s.toArray⟩] w (NodePost w (unpackE P wd) (unpackP P wd s)) := by
  have hr' := rightB_iff.1 hr
  have hP0 : 1024 ≤ P := by omega
  have hP : P ≤ 8192 := by omega
  have hwd : wd ≤ 32 := by omega
  have h2 : unpackE P wd = 73 := by simp [unpackE, hr]
  have hok := parseP_ok hs hn
  have h1 : unpackP P wd s = some n := by simp [unpackP, hr, hn, Option.filter, he]
  obtain ⟨c, hc⟩ : ∃ c, packE P wd n = c := ⟨_, rfl⟩
  rw [hc] at he
  have hcb : (c != 0) = false := by simpa using he
  have H1 := Lib.hid h1; have HN := Lib.hid hn; have HOK := Lib.hid hok; have HC := Lib.hid hc; clear h1 hn hok hc he
  have H2 := Lib.hid h2; have HR := Lib.hid hr; clear h2 hr hr'
  go_enter Try.func15, Try.ntmps15
  go_wp2_with fail
  refine (right_any _ _ _).mono ?_
  rintro e w' ⟨rfl, bs, m, rfl⟩
  rw [HR.out]
  have hb : Hid (Blk (ext ((w.alloc (.cells #[.int .i64 P, .int .i64 wd] 23)).alloc (.cells #[.slice none 0 0, .slice none 0 0, .slice none 0 0] 30)) bs m) (w.heap.size + 1) 30 #[.slice none 0 0, .slice none 0 0, .slice none 0 0]) := Lib.hid (by
    have h := (Blk.new (w.alloc (.cells #[.int .i64 P, .int .i64 wd] 23)) 30 #[.slice none 0 0, .slice none 0 0, .slice none 0 0]).kp ((Kp.refl [] _).ext bs m) (by simp)
    simpa using h)
  have k0 : Hid (Kp [] w (ext ((w.alloc (.cells #[.int .i64 P, .int .i64 wd] 23)).alloc (.cells #[.slice none 0 0, .slice none 0 0, .slice none 0 0] 30)) bs m)) := Lib.hid (((Kp.refl [] w).alloc _).alloc _ |>.ext _ _)
  go_wp2_with fail
  refine (parse_any P wd true s _ hs hP0 hP hwd).mono ?_
  rintro e w1 h1
  rw [HN.out] at h1
  obtain ⟨pa, sa, ka, pc, sc, kc, rfl, od, k1⟩ := h1
  have nd := od.at; have hnew := od.lo; have OD := Lib.hid od
  have B1 := Lib.hid (hb.out.kp k1 (by simp))
  have j0 := B1.out.cell 0; have j1 := B1.out.cell 1; have j2 := B1.out.cell 2; have j3 := B1.out.frozen 0; have j4 := B1.out.frozen 1; have j5 := B1.out.frozen 2
  simp only [List.getElem?_toArray, List.getElem?_cons_zero, List.getElem?_cons_succ] at j0 j1 j2
  have jz := B1.out.lt
  have hfr := (((Blk.new w 23 #[.int .i64 P, .int .i64 wd]).alloc (.cells #[.slice none 0 0, .slice none 0 0, .slice none 0 0] 30)).kp ((Kp.refl [] _).ext bs m) (by simp)).kp k1 (by simp)
  have i0 := hfr.cell 0; have i1 := hfr.cell 1
  simp only [List.getElem?_toArray, List.getElem?_cons_zero, List.getElem?_cons_succ] at i0 i1
  have K1 := Lib.hid (k0.out.trans k1)
  have ND := Lib.hid nd; have HNW : Hid (∀ g ∈ ab pa ++ ab sa ++ ab ka, w.heap.size + 1 < g) := Lib.hid (fun g hg => by have := hnew g hg; simp at this; omega)
  clear k1 hfr nd hnew od
  go_wp2_with fail
  refine (Pack_any _ _ _ _ _ _ _ _ n _ (ND.out.kp0 ((Kp.refl [] _).alloc _)) HOK.out).mono ?_
  rintro e w2 ⟨rfl, bs2, m2, rfl⟩
  rw [HC.out]
  go_wp2_with fail
  have h := ((((B1.out).set 0 (.slice pa n.pairs.length pc)).set 1 (.slice sa n.seps.length sc)).set 2 (.slice ka n.kids.length kc)).alloc (.cells #[.slice pa n.pairs.length pc, .slice sa n.seps.length sc, .slice ka n.kids.length kc] 30) |>.kp ((Kp.refl [] _).ext bs2 m2) (by simp)
  have hk := ((((K1.out).setCell (a := ⟨w.heap.size + 1, 0, none⟩) (.slice pa n.pairs.length pc) (.inl (by show _ ≤ w.heap.size + 1; omega))).setCell (a := ⟨w.heap.size + 1, 1, none⟩) (.slice sa n.seps.length sc) (.inl (by show _ ≤ w.heap.size + 1; omega))).setCell (a := ⟨w.heap.size + 1, 2, none⟩) (.slice ka n.kids.length kc) (.inl (by show _ ≤ w.heap.size + 1; omega))).alloc (.cells #[.slice pa n.pairs.length pc, .slice sa n.seps.length sc, .slice ka n.kids.length kc] 30) |>.ext bs2 m2
  refine nd_ret2 (w.heap.size + 1) (t := 30) (x := .slice pa n.pairs.length pc) (y := .slice sa n.seps.length sc) (z := .slice ka n.kids.length kc) (v := .int .i64 0) rfl rfl rfl (by simpa using h) rfl ?_
  unfold NodePost; rw [H1.out]
  exact ⟨pa, sa, ka, pc, sc, kc, rfl, ((Own3.le (OD.out.kp ((((Kp.refl [w.heap.size + 1] w1).setCell (a := ⟨w.heap.size + 1, 0, none⟩) (.slice pa n.pairs.length pc) (.inr (by simp))).setCell (a := ⟨w.heap.size + 1, 1, none⟩) (.slice sa n.seps.length sc) (.inr (by simp))).setCell (a := ⟨w.heap.size + 1, 2, none⟩) (.slice ka n.kids.length kc) (.inr (by simp))) (by intro g hg; have := HNW.out g hg; simp; omega)) (by first | (simp; done) | (simp; omega))).kp (((Kp.refl [] _).alloc _).ext _ _) (by simp)), hk⟩

set_option maxHeartbeats 1000000 in set_option maxRecDepth 100000 in
theorem Unpack_bad (P wd : Nat) (s : Bs) (w : World) (hs : s.length ≤ 3909374676453) (hr : rightB P wd = true) (n : Nd) (hn : parseP P wd true s = some n) (he : packE P wd n ≠ 0) :
    Calls Try.prog 15 #[.agg #[.int .i64 P, .int .i64 wd], .string ⟨s.toArray⟩] w (NodePost w (unpackE P wd) (unpackP P wd s)) := by
  have hr' := rightB_iff.1 hr
  have hP0 : 1024 ≤ P := by omega
  have hP : P ≤ 8192 := by omega
  have hwd : wd ≤ 32 := by omega
  have h2 : unpackE P wd = 73 := by simp [unpackE, hr]
  have hok := parseP_ok hs hn
  have h1 : unpackP P wd s = none := by simp [unpackP, hr, hn, Option.filter, he]
  obtain ⟨c, hc⟩ : ∃ c, packE P wd n = c := ⟨_, rfl⟩
  rw [hc] at he
  have hcb : (c != 0) = true := by simpa using he
  have H1 := Lib.hid h1; have HN := Lib.hid hn; have HOK := Lib.hid hok; have HC := Lib.hid hc; clear h1 hn hok hc he
  have H2 := Lib.hid h2; have HR := Lib.hid hr; clear h2 hr hr'
  go_enter Try.func15, Try.ntmps15
  go_wp2_with fail
  refine (right_any _ _ _).mono ?_
  rintro e w' ⟨rfl, bs, m, rfl⟩
  rw [HR.out]
  have hb : Hid (Blk (ext ((w.alloc (.cells #[.int .i64 P, .int .i64 wd] 23)).alloc (.cells #[.slice none 0 0, .slice none 0 0, .slice none 0 0] 30)) bs m) (w.heap.size + 1) 30 #[.slice none 0 0, .slice none 0 0, .slice none 0 0]) := Lib.hid (by
    have h := (Blk.new (w.alloc (.cells #[.int .i64 P, .int .i64 wd] 23)) 30 #[.slice none 0 0, .slice none 0 0, .slice none 0 0]).kp ((Kp.refl [] _).ext bs m) (by simp)
    simpa using h)
  have k0 : Hid (Kp [] w (ext ((w.alloc (.cells #[.int .i64 P, .int .i64 wd] 23)).alloc (.cells #[.slice none 0 0, .slice none 0 0, .slice none 0 0] 30)) bs m)) := Lib.hid (((Kp.refl [] w).alloc _).alloc _ |>.ext _ _)
  go_wp2_with fail
  refine (parse_any P wd true s _ hs hP0 hP hwd).mono ?_
  rintro e w1 h1
  rw [HN.out] at h1
  obtain ⟨pa, sa, ka, pc, sc, kc, rfl, od, k1⟩ := h1
  have nd := od.at; have hnew := od.lo; have OD := Lib.hid od
  have B1 := Lib.hid (hb.out.kp k1 (by simp))
  have j0 := B1.out.cell 0; have j1 := B1.out.cell 1; have j2 := B1.out.cell 2; have j3 := B1.out.frozen 0; have j4 := B1.out.frozen 1; have j5 := B1.out.frozen 2
  simp only [List.getElem?_toArray, List.getElem?_cons_zero, List.getElem?_cons_succ] at j0 j1 j2
  have jz := B1.out.lt
  have hfr := (((Blk.new w 23 #[.int .i64 P, .int .i64 wd]).alloc (.cells #[.slice none 0 0, .slice none 0 0, .slice none 0 0] 30)).kp ((Kp.refl [] _).ext bs m) (by simp)).kp k1 (by simp)
  have i0 := hfr.cell 0; have i1 := hfr.cell 1
  simp only [List.getElem?_toArray, List.getElem?_cons_zero, List.getElem?_cons_succ] at i0 i1
  have K1 := Lib.hid (k0.out.trans k1)
  have ND := Lib.hid nd; have HNW : Hid (∀ g ∈ ab pa ++ ab sa ++ ab ka, w.heap.size + 1 < g) := Lib.hid (fun g hg => by have := hnew g hg; simp at this; omega)
  clear k1 hfr nd hnew od
  go_wp2_with fail
  refine (Pack_any _ _ _ _ _ _ _ _ n _ (ND.out.kp0 ((Kp.refl [] _).alloc _)) HOK.out).mono ?_
  rintro e w2 ⟨rfl, bs2, m2, rfl⟩
  rw [HC.out]
  go_wp2_with fail
  have h := ((((B1.out).set 0 (.slice none 0 0)).set 1 (.slice none 0 0)).set 2 (.slice none 0 0)).alloc (.cells #[.slice pa n.pairs.length pc, .slice sa n.seps.length sc, .slice ka n.kids.length kc] 30) |>.kp ((Kp.refl [] _).ext bs2 m2) (by simp)
  have hk := ((((K1.out).setCell (a := ⟨w.heap.size + 1, 0, none⟩) (.slice none 0 0) (.inl (by show _ ≤ w.heap.size + 1; omega))).setCell (a := ⟨w.heap.size + 1, 1, none⟩) (.slice none 0 0) (.inl (by show _ ≤ w.heap.size + 1; omega))).setCell (a := ⟨w.heap.size + 1, 2, none⟩) (.slice none 0 0) (.inl (by show _ ≤ w.heap.size + 1; omega))).alloc (.cells #[.slice pa n.pairs.length pc, .slice sa n.seps.length sc, .slice ka n.kids.length kc] 30) |>.ext bs2 m2
  refine nd_ret2 (w.heap.size + 1) (t := 30) (x := .slice none 0 0) (y := .slice none 0 0) (z := .slice none 0 0) (v := .int .i64 73) rfl rfl rfl (by simpa using h) rfl ?_
  unfold NodePost; rw [H1.out, H2.out]
  exact ⟨rfl, hk⟩

theorem Unpack_own (p wd : Int) (s : Bs) (w : World) (hs : s.length ≤ 3909374676453) :
    Calls Try.prog 15 #[.agg #[.int .i64 p, .int .i64 wd], .string ⟨s.toArray⟩] w (NodePost w (unpackE p wd) (unpackP p wd s)) := by
  cases hr : rightB p wd
  · exact Unpack_arg p wd s w hr
  · have hr' := rightB_iff.1 hr
    obtain ⟨d, rfl⟩ := Int.eq_ofNat_of_zero_le (show 0 ≤ wd by omega)
    obtain ⟨q, rfl⟩ := Int.eq_ofNat_of_zero_le (show 0 ≤ p by omega)
    cases hn : parseP q d true s with
    | none => exact Unpack_none q d s w hs hr hn
    | some n =>
      by_cases he : packE q d n = 0
      · exact Unpack_ok q d s w hs hr n hn he
      · exact Unpack_bad q d s w hs hr n hn he

theorem Unpack_any (p wd : Int) (s : Bs) (w : World) (hs : s.length ≤ 3909374676453) :
    Calls Try.prog 15 #[.agg #[.int .i64 p, .int .i64 wd], .string ⟨s.toArray⟩] w (NodePostW w (unpackE p wd) (unpackP p wd s)) :=
  (Unpack_own p wd s w hs).mono fun _ _ h => h.weak

set_option maxHeartbeats 1000000 in set_option maxRecDepth 100000 in
theorem Read_arg (p wd : Int) (s : Bs) (w : World) (hr : rightB p wd = false) :
    Calls Try.prog 19 #[.agg #[.int .i64 p, .int .i64 wd], .string ⟨s.toArray⟩] w (NodePost w (unpackE p wd) (readP p wd s)) := by
  have h1 : readP p wd s = none := by simp [readP, hr]
  have h2 : unpackE p wd = 2 := by simp [unpackE, hr]
  have H1 := Lib.hid h1; have H2 := Lib.hid h2; have HR := Lib.hid hr; clear h1 h2 hr
  go_enter Try.func19, Try.ntmps19
  go_wp2_with fail
  refine (right_any _ _ _).mono ?_
  rintro e w' ⟨rfl, bs, m, rfl⟩
  rw [HR.out]
  have hb : Hid (Blk (ext ((w.alloc (.cells #[.int .i64 p, .int .i64 wd] 23)).alloc (.cells #[.slice none 0 0, .slice none 0 0, .slice none 0 0] 30)) bs m) (w.heap.size + 1) 30 #[.slice none 0 0, .slice none 0 0, .slice none 0 0]) := Lib.hid (by
    have h := (Blk.new (w.alloc (.cells #[.int .i64 p, .int .i64 wd] 23)) 30 #[.slice none 0 0, .slice none 0 0, .slice none 0 0]).kp ((Kp.refl [] _).ext bs m) (by simp)
    simpa using h)
  have k0 : Hid (Kp [] w (ext ((w.alloc (.cells #[.int .i64 p, .int .i64 wd] 23)).alloc (.cells #[.slice none 0 0, .slice none 0 0, .slice none 0 0] 30)) bs m)) := Lib.hid (((Kp.refl [] w).alloc _).alloc _ |>.ext _ _)
  go_wp2_with fail
  refine nd_ret2 (w.heap.size + 1) (t := 30) (x := .slice none 0 0) (y := .slice none 0 0) (z := .slice none 0 0) (v := .int .i64 2) rfl rfl rfl hb.out rfl ?_
  unfold NodePost; rw [H1.out, H2.out]
  exact ⟨rfl, k0.out⟩

set_option maxHeartbeats 1000000 in set_option maxRecDepth 100000 in
theorem Read_none (P wd : Nat) (s : Bs) (w : World) (hs : s.length ≤ 3909374676453) (hr : rightB P wd = true) (hn : parseP P wd false s = none) :
    Calls Try.prog 19 #[.agg #[.int .i64 P, .int .i64 wd], .string ⟨s.toArray⟩] w (NodePost w (unpackE P wd) (readP P wd s)) := by
  have hr' := rightB_iff.1 hr
  have hP0 : 1024 ≤ P := by omega
  have hP : P ≤ 8192 := by omega
  have hwd : wd ≤ 32 := by omega
  have h2 : unpackE P wd = 73 := by simp [unpackE, hr]
  have h1 : readP P wd s = none := by simp [readP, hr, hn]
  have H1 := Lib.hid h1; have HN := Lib.hid hn; clear h1 hn
  have H2 := Lib.hid h2; have HR := Lib.hid hr; clear h2 hr hr'
  go_enter Try.func19, Try.ntmps19
  go_wp2_with fail
  refine (right_any _ _ _).mono ?_
  rintro e w' ⟨rfl, bs, m, rfl⟩
  rw [HR.out]
  have hb : Hid (Blk (ext ((w.alloc (.cells #[.int .i64 P, .int .i64 wd] 23)).alloc (.cells #[.slice none 0 0, .slice none 0 0, .slice none 0 0] 30)) bs m) (w.heap.size + 1) 30 #[.slice none 0 0, .slice none 0 0, .slice none 0 0]) := Lib.hid (by
    have h := (Blk.new (w.alloc (.cells #[.int .i64 P, .int .i64 wd] 23)) 30 #[.slice none 0 0, .slice none 0 0, .slice none 0 0]).kp ((Kp.refl [] _).ext bs m) (by simp)
    simpa using h)
  have k0 : Hid (Kp [] w (ext ((w.alloc (.cells #[.int .i64 P, .int .i64 wd] 23)).alloc (.cells #[.slice none 0 0, .slice none 0 0, .slice none 0 0] 30)) bs m)) := Lib.hid (((Kp.refl [] w).alloc _).alloc _ |>.ext _ _)
  go_wp2_with fail
  refine (parse_any P wd false s _ hs hP0 hP hwd).mono ?_
  rintro e w1 h1
  rw [HN.out] at h1
  obtain ⟨pa, sa, ka, pn, sn, kn, pc, sc, kc, rfl, k1⟩ := h1
  have B1 := Lib.hid (hb.out.kp k1 (by simp))
  have j0 := B1.out.cell 0; have j1 := B1.out.cell 1; have j2 := B1.out.cell 2; have j3 := B1.out.frozen 0; have j4 := B1.out.frozen 1; have j5 := B1.out.frozen 2
  simp only [List.getElem?_toArray, List.getElem?_cons_zero, List.getElem?_cons_succ] at j0 j1 j2
  have jz := B1.out.lt
  have hfr := (((Blk.new w 23 #[.int .i64 P, .int .i64 wd]).alloc (.cells #[.slice none 0 0, .slice none 0 0, .slice none 0 0] 30)).kp ((Kp.refl [] _).ext bs m) (by simp)).kp k1 (by simp)
  have i0 := hfr.cell 0; have i1 := hfr.cell 1
  simp only [List.getElem?_toArray, List.getElem?_cons_zero, List.getElem?_cons_succ] at i0 i1
  have K1 := Lib.hid (k0.out.trans k1)
  clear k1 hfr
  go_wp2_with fail
  have h := ((((B1.out).set 0 (.slice none 0 0)).set 1 (.slice none 0 0)).set 2 (.slice none 0 0)).alloc (.cells #[.slice pa pn pc, .slice sa sn sc, .slice ka kn kc] 30)
  have hk := ((((K1.out).setCell (a := ⟨w.heap.size + 1, 0, none⟩) (.slice none 0 0) (.inl (by show _ ≤ w.heap.size + 1; omega))).setCell (a := ⟨w.heap.size + 1, 1, none⟩) (.slice none 0 0) (.inl (by show _ ≤ w.heap.size + 1; omega))).setCell (a := ⟨w.heap.size + 1, 2, none⟩) (.slice none 0 0) (.inl (by show _ ≤ w.heap.size + 1; omega))).alloc (.cells #[.slice pa pn pc, .slice sa sn sc, .slice ka kn kc] 30)
  refine nd_ret2 (w.heap.size + 1) (t := 30) (x := .slice none 0 0) (y := .slice none 0 0) (z := .slice none 0 0) (v := .int .i64 73) rfl rfl rfl (by simpa using h) rfl ?_
  unfold NodePost; rw [H1.out, H2.out]
  exact ⟨rfl, hk⟩

set_option maxHeartbeats 1000000 in set_option maxRecDepth 100000 in
theorem Read_ok (P wd : Nat) (s : Bs) (w : World) (hs : s.length ≤ 3909374676453) (hr : rightB P wd = true) (n : Nd) (hn : parseP P wd false s = some n) (he : mayE P wd n = 0) :
    Calls Try.prog 19 #[.agg #[.int .i64 P, .int .i64 wd], .string ⟨s.toArray⟩] w (NodePost w (unpackE P wd) (readP P wd s)) := by
  have hr' := rightB_iff.1 hr
  have hP0 : 1024 ≤ P := by omega
  have hP : P ≤ 8192 := by omega
  have hwd : wd ≤ 32 := by omega
  have h2 : unpackE P wd = 73 := by simp [unpackE, hr]
  have hok := parseP_ok hs hn
  have h1 : readP P wd s = some n := by simp [readP, hr, hn, Option.filter, he]
  obtain ⟨c, hc⟩ : ∃ c, mayE P wd n = c := ⟨_, rfl⟩
  rw [hc] at he
  have hcb : (c != 0) = false := by simpa using he
  have H1 := Lib.hid h1; have HN := Lib.hid hn; have HOK := Lib.hid hok; have HC := Lib.hid hc; clear h1 hn hok hc he
  have H2 := Lib.hid h2; have HR := Lib.hid hr; clear h2 hr hr'
  go_enter Try.func19, Try.ntmps19
  go_wp2_with fail
  refine (right_any _ _ _).mono ?_
  rintro e w' ⟨rfl, bs, m, rfl⟩
  rw [HR.out]
  have hb : Hid (Blk (ext ((w.alloc (.cells #[.int .i64 P, .int .i64 wd] 23)).alloc (.cells #[.slice none 0 0, .slice none 0 0, .slice none 0 0] 30)) bs m) (w.heap.size + 1) 30 #[.slice none 0 0, .slice none 0 0, .slice none 0 0]) := Lib.hid (by
    have h := (Blk.new (w.alloc (.cells #[.int .i64 P, .int .i64 wd] 23)) 30 #[.slice none 0 0, .slice none 0 0, .slice none 0 0]).kp ((Kp.refl [] _).ext bs m) (by simp)
    simpa using h)
  have k0 : Hid (Kp [] w (ext ((w.alloc (.cells #[.int .i64 P, .int .i64 wd] 23)).alloc (.cells #[.slice none 0 0, .slice none 0 0, .slice none 0 0] 30)) bs m)) := Lib.hid (((Kp.refl [] w).alloc _).alloc _ |>.ext _ _)
  go_wp2_with fail
  refine (parse_any P wd false s _ hs hP0 hP hwd).mono ?_
  rintro e w1 h1
  rw [HN.out] at h1
  obtain ⟨pa, sa, ka, pc, sc, kc, rfl, od, k1⟩ := h1
  have nd := od.at; have hnew := od.lo; have OD := Lib.hid od
  have B1 := Lib.hid (hb.out.kp k1 (by simp))
  have j0 := B1.out.cell 0; have j1 := B1.out.cell 1; have j2 := B1.out.cell 2; have j3 := B1.out.frozen 0; have j4 := B1.out.frozen 1; have j5 := B1.out.frozen 2
  simp only [List.getElem?_toArray, List.getElem?_cons_zero, List.getElem?_cons_succ] at j0 j1 j2
  have jz := B1.out.lt
  have hfr := (((Blk.new w 23 #[.int .i64 P, .int .i64 wd]).alloc (.cells #[.slice none 0 0, .slice none 0 0, .slice none 0 0] 30)).kp ((Kp.refl [] _).ext bs m) (by simp)).kp k1 (by simp)
  have i0 := hfr.cell 0; have i1 := hfr.cell 1
  simp only [List.getElem?_toArray, List.getElem?_cons_zero, List.getElem?_cons_succ] at i0 i1
  have K1 := Lib.hid (k0.out.trans k1)
  have ND := Lib.hid nd; have HNW : Hid (∀ g ∈ ab pa ++ ab sa ++ ab ka, w.heap.size + 1 < g) := Lib.hid (fun g hg => by have := hnew g hg; simp at this; omega)
  clear k1 hfr nd hnew od
  go_wp2_with fail
  refine (may_any _ _ _ _ _ _ _ _ n _ (ND.out.kp0 ((Kp.refl [] _).alloc _)) HOK.out).mono ?_
  rintro e w2 ⟨rfl, bs2, m2, rfl⟩
  rw [HC.out]
  go_wp2_with fail
  have h := ((((B1.out).set 0 (.slice pa n.pairs.length pc)).set 1 (.slice sa n.seps.length sc)).set 2 (.slice ka n.kids.length kc)).alloc (.cells #[.slice pa n.pairs.length pc, .slice sa n.seps.length sc, .slice ka n.kids.length kc] 30) |>.kp ((Kp.refl [] _).ext bs2 m2) (by simp)
  have hk := ((((K1.out).setCell (a := ⟨w.heap.size + 1, 0, none⟩) (.slice pa n.pairs.length pc) (.inl (by show _ ≤ w.heap.size + 1; omega))).setCell (a := ⟨w.heap.size + 1, 1, none⟩) (.slice sa n.seps.length sc) (.inl (by show _ ≤ w.heap.size + 1; omega))).setCell (a := ⟨w.heap.size + 1, 2, none⟩) (.slice ka n.kids.length kc) (.inl (by show _ ≤ w.heap.size + 1; omega))).alloc (.cells #[.slice pa n.pairs.length pc, .slice sa n.seps.length sc, .slice ka n.kids.length kc] 30) |>.ext bs2 m2
  refine nd_ret2 (w.heap.size + 1) (t := 30) (x := .slice pa n.pairs.length pc) (y := .slice sa n.seps.length sc) (z := .slice ka n.kids.length kc) (v := .int .i64 0) rfl rfl rfl (by simpa using h) rfl ?_
  unfold NodePost; rw [H1.out]
  exact ⟨pa, sa, ka, pc, sc, kc, rfl, ((Own3.le (OD.out.kp ((((Kp.refl [w.heap.size + 1] w1).setCell (a := ⟨w.heap.size + 1, 0, none⟩) (.slice pa n.pairs.length pc) (.inr (by simp))).setCell (a := ⟨w.heap.size + 1, 1, none⟩) (.slice sa n.seps.length sc) (.inr (by simp))).setCell (a := ⟨w.heap.size + 1, 2, none⟩) (.slice ka n.kids.length kc) (.inr (by simp))) (by intro g hg; have := HNW.out g hg; simp; omega)) (by first | (simp; done) | (simp; omega))).kp (((Kp.refl [] _).alloc _).ext _ _) (by simp)), hk⟩

set_option maxHeartbeats 1000000 in set_option maxRecDepth 100000 in
theorem Read_bad (P wd : Nat) (s : Bs) (w : World) (hs : s.length ≤ 3909374676453) (hr : rightB P wd = true) (n : Nd) (hn : parseP P wd false s = some n) (he : mayE P wd n ≠ 0) :
    Calls Try.prog 19 #[.agg #[.int .i64 P, .int .i64 wd], .string ⟨s.toArray⟩] w (NodePost w (unpackE P wd) (readP P wd s)) := by
  have hr' := rightB_iff.1 hr
  have hP0 : 1024 ≤ P := by omega
  have hP : P ≤ 8192 := by omega
  have hwd : wd ≤ 32 := by omega
  have h2 : unpackE P wd = 73 := by simp [unpackE, hr]
  have hok := parseP_ok hs hn
  have h1 : readP P wd s = none := by simp [readP, hr, hn, Option.filter, he]
  obtain ⟨c, hc⟩ : ∃ c, mayE P wd n = c := ⟨_, rfl⟩
  rw [hc] at he
  have hcb : (c != 0) = true := by simpa using he
  have H1 := Lib.hid h1; have HN := Lib.hid hn; have HOK := Lib.hid hok; have HC := Lib.hid hc; clear h1 hn hok hc he
  have H2 := Lib.hid h2; have HR := Lib.hid hr; clear h2 hr hr'
  go_enter Try.func19, Try.ntmps19
  go_wp2_with fail
  refine (right_any _ _ _).mono ?_
  rintro e w' ⟨rfl, bs, m, rfl⟩
  rw [HR.out]
  have hb : Hid (Blk (ext ((w.alloc (.cells #[.int .i64 P, .int .i64 wd] 23)).alloc (.cells #[.slice none 0 0, .slice none 0 0, .slice none 0 0] 30)) bs m) (w.heap.size + 1) 30 #[.slice none 0 0, .slice none 0 0, .slice none 0 0]) := Lib.hid (by
    have h := (Blk.new (w.alloc (.cells #[.int .i64 P, .int .i64 wd] 23)) 30 #[.slice none 0 0, .slice none 0 0, .slice none 0 0]).kp ((Kp.refl [] _).ext bs m) (by simp)
    simpa using h)
  have k0 : Hid (Kp [] w (ext ((w.alloc (.cells #[.int .i64 P, .int .i64 wd] 23)).alloc (.cells #[.slice none 0 0, .slice none 0 0, .slice none 0 0] 30)) bs m)) := Lib.hid (((Kp.refl [] w).alloc _).alloc _ |>.ext _ _)
  go_wp2_with fail
  refine (parse_any P wd false s _ hs hP0 hP hwd).mono ?_
  rintro e w1 h1
  rw [HN.out] at h1
  obtain ⟨pa, sa, ka, pc, sc, kc, rfl, od, k1⟩ := h1
  have nd := od.at; have hnew := od.lo; have OD := Lib.hid od
  have B1 := Lib.hid (hb.out.kp k1 (by simp))
  have j0 := B1.out.cell 0; have j1 := B1.out.cell 1; have j2 := B1.out.cell 2; have j3 := B1.out.frozen 0; have j4 := B1.out.frozen 1; have j5 := B1.out.frozen 2
  simp only [List.getElem?_toArray, List.getElem?_cons_zero, List.getElem?_cons_succ] at j0 j1 j2
  have jz := B1.out.lt
  have hfr := (((Blk.new w 23 #[.int .i64 P, .int .i64 wd]).alloc (.cells #[.slice none 0 0, .slice none 0 0, .slice none 0 0] 30)).kp ((Kp.refl [] _).ext bs m) (by simp)).kp k1 (by simp)
  have i0 := hfr.cell 0; have i1 := hfr.cell 1
  simp only [List.getElem?_toArray, List.getElem?_cons_zero, List.getElem?_cons_succ] at i0 i1
  have K1 := Lib.hid (k0.out.trans k1)
  have ND := Lib.hid nd; have HNW : Hid (∀ g ∈ ab pa ++ ab sa ++ ab ka, w.heap.size + 1 < g) := Lib.hid (fun g hg => by have := hnew g hg; simp at this; omega)
  clear k1 hfr nd hnew od
  go_wp2_with fail
  refine (may_any _ _ _ _ _ _ _ _ n _ (ND.out.kp0 ((Kp.refl [] _).alloc _)) HOK.out).mono ?_
  rintro e w2 ⟨rfl, bs2, m2, rfl⟩
  rw [HC.out]
  go_wp2_with fail
  have h := ((((B1.out).set 0 (.slice none 0 0)).set 1 (.slice none 0 0)).set 2 (.slice none 0 0)).alloc (.cells #[.slice pa n.pairs.length pc, .slice sa n.seps.length sc, .slice ka n.kids.length kc] 30) |>.kp ((Kp.refl [] _).ext bs2 m2) (by simp)
  have hk := ((((K1.out).setCell (a := ⟨w.heap.size + 1, 0, none⟩) (.slice none 0 0) (.inl (by show _ ≤ w.heap.size + 1; omega))).setCell (a := ⟨w.heap.size + 1, 1, none⟩) (.slice none 0 0) (.inl (by show _ ≤ w.heap.size + 1; omega))).setCell (a := ⟨w.heap.size + 1, 2, none⟩) (.slice none 0 0) (.inl (by show _ ≤ w.heap.size + 1; omega))).alloc (.cells #[.slice pa n.pairs.length pc, .slice sa n.seps.length sc, .slice ka n.kids.length kc] 30) |>.ext bs2 m2
  refine nd_ret2 (w.heap.size + 1) (t := 30) (x := .slice none 0 0) (y := .slice none 0 0) (z := .slice none 0 0) (v := .int .i64 73) rfl rfl rfl (by simpa using h) rfl ?_
  unfold NodePost; rw [H1.out, H2.out]
  exact ⟨rfl, hk⟩

theorem Read_own (p wd : Int) (s : Bs) (w : World) (hs : s.length ≤ 3909374676453) :
    Calls Try.prog 19 #[.agg #[.int .i64 p, .int .i64 wd], .string ⟨s.toArray⟩] w (NodePost w (unpackE p wd) (readP p wd s)) := by
  cases hr : rightB p wd
  · exact Read_arg p wd s w hr
  · have hr' := rightB_iff.1 hr
    obtain ⟨d, rfl⟩ := Int.eq_ofNat_of_zero_le (show 0 ≤ wd by omega)
    obtain ⟨q, rfl⟩ := Int.eq_ofNat_of_zero_le (show 0 ≤ p by omega)
    cases hn : parseP q d false s with
    | none => exact Read_none q d s w hs hr hn
    | some n =>
      by_cases he : mayE q d n = 0
      · exact Read_ok q d s w hs hr n hn he
      · exact Read_bad q d s w hs hr n hn he

theorem Read_any (p wd : Int) (s : Bs) (w : World) (hs : s.length ≤ 3909374676453) :
    Calls Try.prog 19 #[.agg #[.int .i64 p, .int .i64 wd], .string ⟨s.toArray⟩] w (NodePostW w (unpackE p wd) (readP p wd s)) :=
  (Read_own p wd s w hs).mono fun _ _ h => h.weak

end Go.Proofs.Ytemicgccgcmmbaa

/- Plain laws: what is laid is read, and what is read was laid: numbers, texts, digests, pairs. -/
namespace Go.Proofs.Ytemicgccgcmmbaa
set_option linter.unusedVariables false
set_option linter.unusedSimpArgs false
open Go Go.RowKit

theorem byteN (n : Nat) (h : n < 256) : (n.toUInt8).toNat = n := by
  rw [Nat.toUInt8, UInt8.toNat_ofNat']; exact Nat.mod_eq_of_lt (by omega)
theorem nByte (b : UInt8) : b.toNat.toUInt8 = b := by simp
theorem freeB_pos (n : Nat) : 1 ≤ (freeB n).length := by rw [freeB_length]; exact cntN_pos n

/-- A free number that is laid is read. -/
theorem vrd_free : ∀ (n k acc : Nat) (l : Bs), (0 < k → 0 < n) → k ≤ 63 → k % 7 = 0 → n * 2 ^ k < 18446744073709551616 → vrd (freeB n ++ l) k acc = some (acc + n * 2 ^ k, l) := by
  intro n
  induction n using Nat.strongRecOn with
  | ind n ih =>
    intro k acc l h0 hk h7 hn
    by_cases h : n < 128
    · rw [freeB_small h]
      simp only [List.singleton_append]
      unfold vrd
      rw [byteN n (by omega), if_neg, if_pos h]
      rintro (⟨h1, h2⟩ | ⟨h1, h2⟩)
      · subst h1
        have : 2 * 2 ^ 63 ≤ n * 2 ^ 63 := Nat.mul_le_mul_right _ h2
        omega
      · have := h0 h1; omega
    · rw [freeB_big h]
      simp only [List.cons_append]
      unfold vrd
      have hk57 : k ≤ 56 := by
        rcases Nat.lt_or_ge 56 k with h1 | h1
        · have hk63 : k = 63 := by omega
          subst hk63
          have : 128 * 2 ^ 63 ≤ n * 2 ^ 63 := Nat.mul_le_mul_right _ (by omega)
          omega
        · exact h1
      have hm : n % 128 + 128 < 256 := by omega
      have hs : n * 2 ^ k = n % 128 * 2 ^ k + n / 128 * 2 ^ (k + 7) := by
        rw [Nat.pow_add, show n / 128 * (2 ^ k * 2 ^ 7) = (n / 128 * 128) * 2 ^ k by rw [Nat.mul_assoc, Nat.mul_comm (2 ^ k) (2 ^ 7)], ← Nat.add_mul]
        congr 1; omega
      rw [byteN _ hm, if_neg (by rintro (⟨h1, h2⟩ | ⟨h1, h2⟩) <;> omega), if_neg (by omega), ih (n / 128) (by omega) (k + 7) _ l (fun _ => by omega) (by omega) (by omega) (by omega)]
      rw [show (n % 128 + 128) % 128 = n % 128 by omega, Nat.add_assoc, ← hs]

theorem freeP_free {m n : Nat} {l : Bs} (h : n ≤ m) (h64 : n < 18446744073709551616) : freeP m (freeB n ++ l) = some (n, l) := by
  unfold freeP
  rw [vrd_free n 0 0 l (by omega) (by omega) (by omega) (by omega)]
  simp [h]

/-- A free number that is read was laid so. -/
theorem free_vrd : ∀ (l : Bs) (k acc m : Nat) (l' : Bs), vrd l k acc = some (m, l') → ∃ n, l = freeB n ++ l' ∧ m = acc + n * 2 ^ k ∧ (0 < k → 0 < n)
  | [], _, _, _, _, h => by simp [vrd] at h
  | b :: l, k, acc, m, l', h => by
    unfold vrd at h
    split at h
    · cases h
    · rename_i hc
      have hb := b.toNat_lt
      split at h
      · rename_i hlt
        simp only [Option.some.injEq, Prod.mk.injEq] at h
        obtain ⟨rfl, rfl⟩ := h
        refine ⟨b.toNat, ?_, rfl, fun h0 => ?_⟩
        · rw [freeB_small hlt, nByte]; rfl
        · omega
      · rename_i hge
        obtain ⟨n, rfl, hm, h0⟩ := free_vrd l _ _ _ _ h
        have h0' := h0 (by omega)
        have hb8 : 128 ≤ b.toNat := by omega
        refine ⟨b.toNat % 128 + 128 * n, ?_, ?_, fun _ => by clear hm; omega⟩
        · rw [freeB_big (n := b.toNat % 128 + 128 * n) (by omega)]
          have e1 : (b.toNat % 128 + 128 * n) % 128 + 128 = b.toNat := by omega
          have e2 : (b.toNat % 128 + 128 * n) / 128 = n := by omega
          rw [e1, e2, nByte]; rfl
        · rw [hm, Nat.pow_add, Nat.add_mul, Nat.add_assoc]
          congr 2
          rw [show n * (2 ^ k * 2 ^ 7) = 128 * n * 2 ^ k by rw [Nat.mul_comm (2 ^ k) (2 ^ 7), ← Nat.mul_assoc, Nat.mul_comm n (2 ^ 7)]]

theorem free_freeP {m n : Nat} {l l' : Bs} (h : freeP m l = some (n, l')) : l = freeB n ++ l' := by
  unfold freeP at h
  cases hv : vrd l 0 0 with
  | none => simp [hv] at h
  | some r =>
    obtain ⟨n', l''⟩ := r
    simp only [hv] at h
    split at h
    · simp only [Option.some.injEq, Prod.mk.injEq] at h
      obtain ⟨rfl, rfl⟩ := h
      obtain ⟨n, h1, h2, _⟩ := free_vrd _ _ _ _ _ hv
      simp at h2; subst h2; exact h1
    · cases h

theorem textP_text {m : Nat} {t l : Bs} (h : t.length ≤ m) (h64 : t.length < 18446744073709551616) : textP m (textB t ++ l) = some (t, l) := by
  unfold textP textB
  rw [List.append_assoc, freeP_free h h64]
  simp [rawP]
theorem text_textP {m : Nat} {t l l' : Bs} (h : textP m l = some (t, l')) : l = textB t ++ l' := by
  unfold textP at h
  cases hf : freeP m l with
  | none => simp [hf] at h
  | some r =>
    obtain ⟨n, l1⟩ := r
    simp only [hf, rawP] at h
    split at h
    · rename_i hle
      simp only [Option.some.injEq, Prod.mk.injEq] at h
      obtain ⟨rfl, rfl⟩ := h
      rw [free_freeP hf, textB, List.length_take, Nat.min_eq_left hle, List.append_assoc, List.take_append_drop]
    · cases h

theorem be_fix : ∀ (k n acc : Nat), be (fixB k n) acc = acc * 256 ^ k + n % 256 ^ k
  | 0, n, acc => by simp [fixB, be, Nat.mod_one]
  | k + 1, n, acc => by
    simp only [fixB, be]
    rw [be_fix k n, byteN _ (by omega), Nat.pow_succ, Nat.add_mul, Nat.mod_mul, Nat.mul_comm (256 ^ k) 256, Nat.mul_assoc, Nat.mul_comm (256 ^ k) (n / 256 ^ k % 256)]
    omega
theorem fix_be : ∀ (l : Bs) , fixB l.length (be l 0) = l := by
  have key : ∀ (l : Bs) (acc : Nat), fixB l.length (be l acc) = l := by
    intro l
    induction l with
    | nil => intro acc; rfl
    | cons b l ih =>
      intro acc
      simp only [be, List.length_cons, fixB]
      have h1 : be l (acc * 256 + b.toNat) = (acc * 256 + b.toNat) * 256 ^ l.length + be l 0 := by
        have h2 := be_le' l (acc * 256 + b.toNat)
        exact h2
      have hlt := be_lt l
      have hb := b.toNat_lt
      rw [ih]
      congr 1
      rw [h1, Nat.mul_comm, Nat.mul_add_div (Nat.pow_pos (by omega)), Nat.div_eq_of_lt hlt]
      rw [show (acc * 256 + b.toNat + 0) % 256 = b.toNat by omega, nByte]
  exact fun l => key l 0
where be_le' : ∀ (l : Bs) (acc : Nat), be l acc = acc * 256 ^ l.length + be l 0
  | [], acc => by simp [be]
  | b :: l, acc => by
    simp only [be, List.length_cons, Nat.zero_mul, Nat.zero_add]
    rw [be_le' l (acc * 256 + b.toNat), be_le' l b.toNat, Nat.pow_succ, Nat.add_mul]
    rw [Nat.mul_assoc, Nat.mul_comm 256]; omega

theorem takeP_fix {n : Nat} {l : Bs} (k : Nat) (h : n < 256 ^ k) : takeP k (fixB k n ++ l) = some (n, l) := by
  unfold takeP
  have hl := fixB_len k n
  rw [if_pos (by simp [hl]), List.take_append_of_le_length (by omega), List.take_of_length_le (by omega), be_fix, List.drop_append_of_le_length (by omega), List.drop_of_length_le (by omega)]
  simp [Nat.mod_eq_of_lt h]
theorem fix_takeP {k n : Nat} {l l' : Bs} (h : takeP k l = some (n, l')) : l = fixB k n ++ l' := by
  unfold takeP at h
  split at h
  · rename_i hk
    simp only [Option.some.injEq, Prod.mk.injEq] at h
    obtain ⟨rfl, rfl⟩ := h
    have := fix_be (l.take k)
    rw [List.length_take, Nat.min_eq_left hk] at this
    rw [this, List.take_append_drop]
  · cases h

theorem dgP_dg {wd : Nat} {d : Dg} {l : Bs} (h1 : wd ≤ 32) (h : Dg.cut wd d = d) : dgP wd (d.l.take wd ++ l) = some (d, l) := by
  have hd := d.h
  unfold dgP rawP
  rw [if_pos (by simp; omega)]
  have ht : (d.l.take wd ++ l).take wd = d.l.take wd := by rw [List.take_append_of_le_length (by simp; omega), List.take_take, Nat.min_self]
  have hdr : (d.l.take wd ++ l).drop wd = l := by rw [List.drop_append_of_le_length (by simp; omega), List.drop_of_length_le (by simp; omega)]; rfl
  rw [ht, hdr]
  exact congrArg (fun x => some (x, l)) h
theorem pad_take {wd : Nat} {l : Bs} (h : wd ≤ 32) (hl : wd ≤ l.length) : (Dg.pad (l.take wd)).l.take wd = l.take wd := by
  show (padB (l.take wd)).take wd = l.take wd
  unfold padB
  rw [List.take_take, Nat.min_eq_right h, List.take_append_of_le_length (by simp; omega), List.take_take, Nat.min_self]
theorem dg_dgP {wd : Nat} {d : Dg} {l l' : Bs} (h1 : wd ≤ 32) (h : dgP wd l = some (d, l')) : l = d.l.take wd ++ l' := by
  unfold dgP rawP at h
  split at h
  · rename_i hk
    simp only [Option.map_some, Option.some.injEq, Prod.mk.injEq] at h
    obtain ⟨rfl, rfl⟩ := h
    rw [pad_take h1 hk, List.take_append_drop]
  · simp at h

theorem pairP_pair {P : Nat} {x : Pr} {l : Bs} (h1 : x.1.length ≤ P / 16) (h2 : x.2.length ≤ P / 8) (hP : P ≤ 8192) : pairP P () (pairB x ++ l) = some ((), x, l) := by
  unfold pairP pairB
  rw [List.append_assoc, textP_text h1 (by omega)]
  simp only
  rw [textP_text h2 (by omega)]
theorem pair_pairP {P : Nat} {u u' : Unit} {x : Pr} {l l' : Bs} (h : pairP P u l = some (u', x, l')) : l = pairB x ++ l' := by
  unfold pairP at h
  cases h1 : textP (P / 16) l with
  | none => simp [h1] at h
  | some r =>
    obtain ⟨k, l1⟩ := r
    cases h2 : textP (P / 8) l1 with
    | none => simp [h1, h2] at h
    | some r2 =>
      obtain ⟨v, l2⟩ := r2
      simp only [h1, h2, Option.some.injEq, Prod.mk.injEq] at h
      obtain ⟨_, rfl, rfl⟩ := h
      rw [text_textP h1, text_textP h2, pairB, List.append_assoc]

theorem many_pairs {P : Nat} (hP : P ≤ 8192) : ∀ (ps : List Pr) (l : Bs), (∀ x ∈ ps, x.1.length ≤ P / 16 ∧ x.2.length ≤ P / 8) → manyP (pairP P) ps.length () (pairsB ps ++ l) = some ((), ps, l)
  | [], l, _ => rfl
  | x :: t, l, h => by
    have hx := h x (by simp)
    have ih := many_pairs hP t l (fun y hy => h y (by simp [hy]))
    show manyP (pairP P) (t.length + 1) () ((pairB x ++ pairsB t) ++ l) = _
    rw [List.append_assoc]
    unfold manyP
    rw [pairP_pair hx.1 hx.2 hP]
    simp only [ih]
theorem pairs_many {P : Nat} : ∀ (n : Nat) (ps : List Pr) (u : Unit) (l l' : Bs), manyP (pairP P) n () l = some (u, ps, l') → l = pairsB ps ++ l' ∧ ps.length = n
  | 0, ps, u, l, l', h => by
    simp only [manyP, Option.some.injEq, Prod.mk.injEq] at h
    obtain ⟨_, rfl, rfl⟩ := h; exact ⟨rfl, rfl⟩
  | n + 1, ps, u, l, l', h => by
    unfold manyP at h
    cases h1 : pairP P () l with
    | none => simp [h1] at h
    | some r =>
      obtain ⟨_, x, l1⟩ := r
      cases h2 : manyP (pairP P) n () l1 with
      | none => simp [h1, h2] at h
      | some r2 =>
        obtain ⟨_, ts, l2⟩ := r2
        simp only [h1, h2, Option.some.injEq, Prod.mk.injEq] at h
        obtain ⟨_, rfl, rfl⟩ := h
        obtain ⟨e1, e2⟩ := pairs_many n ts _ _ _ h2
        refine ⟨?_, by simp [e2]⟩
        rw [pair_pairP h1, e1, ← List.append_assoc]; rfl

theorem sum_ge {α : Type} (f : α → Nat) (B : Nat) : ∀ (l : List α), (∀ x ∈ l, B ≤ f x) → l.length * B ≤ (l.map f).sum
  | [], _ => by simp
  | x :: t, h => by
    have h1 := sum_ge f B t (fun y hy => h y (by simp [hy]))
    have h2 := h x (by simp)
    simp only [List.map_cons, List.sum_cons, List.length_cons, Nat.succ_mul]
    omega
theorem pairsB_ge (ps : List Pr) : ps.length ≤ (pairsB ps).length := by
  rw [pairsB_length]
  have := sum_ge prN 1 ps (fun x _ => by have := cntN_pos x.1.length; unfold prN txN; omega)
  omega

/-- All pairs that are laid are read. -/
theorem list_pairsB {P m : Nat} (hP : P ≤ 8192) {ps : List Pr} {l : Bs} (h : ∀ x ∈ ps, x.1.length ≤ P / 16 ∧ x.2.length ≤ P / 8) (hm : ps.length ≤ m) (h64 : ps.length < 18446744073709551616) :
    listP m (pairP P) () (freeB ps.length ++ pairsB ps ++ l) = some ((), ps, l) := by
  unfold listP
  rw [List.append_assoc, freeP_free hm h64]
  simp only
  rw [if_pos (by have := pairsB_ge ps; simp; omega), many_pairs hP ps l h]
theorem pairsB_list {P m : Nat} {ps : List Pr} {u : Unit} {l l' : Bs} (h : listP m (pairP P) () l = some (u, ps, l')) : l = freeB ps.length ++ pairsB ps ++ l' := by
  unfold listP at h
  cases hf : freeP m l with
  | none => simp [hf] at h
  | some r =>
    obtain ⟨n, l1⟩ := r
    simp only [hf] at h
    split at h
    · obtain ⟨e1, e2⟩ := pairs_many n ps u l1 l' h
      rw [free_freeP hf, e1, e2, List.append_assoc]
    · cases h

end Go.Proofs.Ytemicgccgcmmbaa

/- Plain laws: a node's form is read as that node, and what is read is that node's form. -/
namespace Go.Proofs.Ytemicgccgcmmbaa
set_option linter.unusedVariables false
set_option linter.unusedSimpArgs false
open Go Go.RowKit

/-- A kid's own bytes. -/
def kB (pages : Bool) (wd : Nat) (k : Kd) : Bs := (if pages = true then fixB 4 k.page else []) ++ k.sum.l.take wd
def kdP (pages : Bool) (k : Kd) : Kd := if pages = true then k else ⟨0, k.sum⟩
theorem kdP_true : kdP true = id := by funext k; rfl
theorem kdP_false : kdP false = fun k => ⟨0, k.sum⟩ := by funext k; rfl
/-- All kids behind the first, each behind its separator. -/
def kidsT (pages : Bool) (wd : Nat) : List Kd → List Bs → Bs
  | k :: ks, s :: ss => textB s ++ (kB pages wd k ++ kidsT pages wd ks ss)
  | _, _ => []

theorem kidsT_range (pages : Bool) (wd : Nat) : ∀ (ks : List Kd) (ss : List Bs), ks.length = ss.length → (List.range ks.length).flatMap (fun i => textB (ss.getD i []) ++ kB pages wd (ks.getD i Kd.zero)) = kidsT pages wd ks ss
  | [], [], _ => rfl
  | k :: ks, s :: ss, h => by
    rw [List.length_cons, List.range_succ_eq_map, List.flatMap_cons, List.flatMap_map]
    have ih := kidsT_range pages wd ks ss (by simpa using h)
    simp only [kidsT, List.getD_cons_zero, List.append_assoc]
    rw [← ih]
    rfl
theorem kidsB_T (pages : Bool) (wd : Nat) (ps : List Pr) (k : Kd) (ks : List Kd) (ss : List Bs) (h : ss.length + 1 = (k :: ks).length) : kidsB pages wd ⟨ps, ss, k :: ks⟩ (k :: ks).length = kB pages wd k ++ kidsT pages wd ks ss := by
  unfold kidsB
  rw [List.length_cons, List.range_succ_eq_map, List.flatMap_cons, List.flatMap_map, ← kidsT_range pages wd ks ss (by simp at h; omega)]
  congr 1
  
theorem kid_kidP {P wd : Nat} {pages : Bool} {x x' : Bool × List Bs} {l l1 : Bs} {k : Kd} (hs : sepP P x l = some (x', kB pages wd k ++ l1)) (hwd : wd ≤ 32) (hf : Dg.cut wd k.sum = k.sum) (hp : k.page < 4294967296) : kidP P wd pages x l = some (x', kdP pages k, l1) := by
  unfold kidP
  rw [hs]
  cases pages
  · simp only [kB, Bool.false_eq_true, if_false, List.nil_append, kdP]
    rw [dgP_dg hwd hf]
  · simp only [kB, if_true, kdP, List.append_assoc]
    rw [takeP_fix 4 (by omega)]
    simp only
    rw [dgP_dg hwd hf]
theorem kidP_kid {P wd : Nat} {pages : Bool} {x x' : Bool × List Bs} {l l' : Bs} {k : Kd} (hwd : wd ≤ 32) (h : kidP P wd pages x l = some (x', k, l')) : sepP P x l = some (x', kB pages wd k ++ l') ∧ (pages = false → k.page = 0) := by
  unfold kidP at h
  cases hs : sepP P x l with
  | none => simp [hs] at h
  | some r =>
    obtain ⟨x1, l1⟩ := r
    cases pages
    · simp only [hs, Bool.false_eq_true, if_false] at h
      cases hd : dgP wd l1 with
      | none => simp [hd] at h
      | some r3 =>
        obtain ⟨d, l3⟩ := r3
        simp only [hd, Option.some.injEq, Prod.mk.injEq] at h
        obtain ⟨rfl, rfl, rfl⟩ := h
        exact ⟨by rw [dg_dgP hwd hd]; rfl, fun _ => rfl⟩
    · simp only [hs, if_true] at h
      cases ht : takeP 4 l1 with
      | none => simp [ht] at h
      | some r2 =>
        obtain ⟨n, l2⟩ := r2
        cases hd : dgP wd l2 with
        | none => simp [ht, hd] at h
        | some r3 =>
          obtain ⟨d, l3⟩ := r3
          simp only [ht, hd, Option.some.injEq, Prod.mk.injEq] at h
          obtain ⟨rfl, rfl, rfl⟩ := h
          refine ⟨?_, by simp⟩
          rw [fix_takeP ht, dg_dgP hwd hd]
          simp [kB]

theorem sepP_false {P : Nat} {sp : List Bs} {s l : Bs} (h : s.length ≤ P / 16) (hP : P ≤ 8192) : sepP P (false, sp) (textB s ++ l) = some ((false, sp ++ [s]), l) := by
  unfold sepP
  rw [if_neg (by simp), textP_text h (by omega)]; rfl
theorem sepP_true {P : Nat} {sp : List Bs} {l : Bs} : sepP P (true, sp) l = some ((false, sp), l) := by simp [sepP]
theorem false_sepP {P : Nat} {sp : List Bs} {x : Bool × List Bs} {l l1 : Bs} (h : sepP P (false, sp) l = some (x, l1)) : ∃ s, x = (false, sp ++ [s]) ∧ l = textB s ++ l1 := by
  unfold sepP at h
  rw [if_neg (by simp)] at h
  cases ht : textP (P / 16) l with
  | none => simp [ht] at h
  | some r =>
    obtain ⟨t, l2⟩ := r
    simp only [ht, Option.map_some, Option.some.injEq, Prod.mk.injEq] at h
    obtain ⟨rfl, rfl⟩ := h
    exact ⟨t, rfl, text_textP ht⟩

theorem many_kids {P wd : Nat} {pages : Bool} (hP : P ≤ 8192) (hwd : wd ≤ 32) : ∀ (ks : List Kd) (ss sp : List Bs) (l : Bs), ks.length = ss.length → (∀ s ∈ ss, s.length ≤ P / 16) → (∀ k ∈ ks, Dg.cut wd k.sum = k.sum ∧ k.page < 4294967296) →
    manyP (kidP P wd pages) ks.length (false, sp) (kidsT pages wd ks ss ++ l) = some ((false, sp ++ ss), ks.map (kdP pages), l)
  | [], [], sp, l, _, _, _ => by simp [manyP, kidsT]
  | k :: ks, s :: ss, sp, l, hl, hs, hk => by
    have ih := many_kids (pages := pages) hP hwd ks ss (sp ++ [s]) l (by simpa using hl) (fun y hy => hs y (by simp [hy])) (fun y hy => hk y (by simp [hy]))
    have h1 := hk k (by simp)
    show manyP _ (ks.length + 1) _ ((textB s ++ (kB pages wd k ++ kidsT pages wd ks ss)) ++ l) = _
    rw [List.append_assoc, List.append_assoc]
    unfold manyP
    rw [kid_kidP (sepP_false (hs s (by simp)) hP) hwd h1.1 h1.2]
    simp only [ih, List.append_assoc, List.singleton_append, List.map_cons]
theorem kids_many {P wd : Nat} {pages : Bool} (hwd : wd ≤ 32) : ∀ (n : Nat) (ks : List Kd) (sp : List Bs) (x : Bool × List Bs) (l l' : Bs), manyP (kidP P wd pages) n (false, sp) l = some (x, ks, l') →
    ∃ ss, x = (false, sp ++ ss) ∧ ks.length = ss.length ∧ ks.length = n ∧ l = kidsT pages wd ks ss ++ l' ∧ (pages = false → ∀ k ∈ ks, k.page = 0)
  | 0, ks, sp, x, l, l', h => by
    simp only [manyP, Option.some.injEq, Prod.mk.injEq] at h
    obtain ⟨rfl, rfl, rfl⟩ := h
    exact ⟨[], by simp, rfl, rfl, rfl, by simp⟩
  | n + 1, ks, sp, x, l, l', h => by
    unfold manyP at h
    cases h1 : kidP P wd pages (false, sp) l with
    | none => simp [h1] at h
    | some r =>
      obtain ⟨x1, k, l1⟩ := r
      simp only [h1] at h
      obtain ⟨e1, e2⟩ := kidP_kid hwd h1
      obtain ⟨s, rfl, rfl⟩ := false_sepP e1
      cases h2 : manyP (kidP P wd pages) n (false, sp ++ [s]) l1 with
      | none => simp [h2] at h
      | some r2 =>
        obtain ⟨x2, ts, l2⟩ := r2
        simp only [h2, Option.some.injEq, Prod.mk.injEq] at h
        obtain ⟨rfl, rfl, rfl⟩ := h
        obtain ⟨ss, rfl, e3, e4, rfl, e5⟩ := kids_many hwd n ts _ _ _ _ h2
        refine ⟨s :: ss, by simp, by simpa using e3, by simpa using e4, by simp [kidsT], fun hp => ?_⟩
        intro y hy
        rcases List.mem_cons.1 hy with rfl | hy
        · exact e2 hp
        · exact e5 hp y hy

/-- All kids that are laid are read. -/
theorem list_kidsB {P wd m : Nat} {pages : Bool} (hP : P ≤ 8192) (hwd : wd ≤ 32) {k : Kd} {ks : List Kd} {ss : List Bs} {l : Bs} (hl : ks.length = ss.length) (hs : ∀ s ∈ ss, s.length ≤ P / 16) (hk : ∀ y ∈ k :: ks, Dg.cut wd y.sum = y.sum ∧ y.page < 4294967296)
    (hm : (k :: ks).length ≤ m) (h64 : (k :: ks).length < 18446744073709551616) (hlen : (k :: ks).length ≤ (kB pages wd k ++ kidsT pages wd ks ss ++ l).length) :
    listP m (kidP P wd pages) (true, []) (freeB (k :: ks).length ++ (kB pages wd k ++ kidsT pages wd ks ss) ++ l) = some ((false, ss), (k :: ks).map (kdP pages), l) := by
  unfold listP
  rw [List.append_assoc, freeP_free hm h64]
  simp only
  rw [if_pos hlen]
  have h1 := hk k (by simp)
  show manyP _ (ks.length + 1) _ _ = _
  rw [List.append_assoc]
  unfold manyP
  rw [kid_kidP sepP_true hwd h1.1 h1.2]
  simp only
  rw [many_kids hP hwd ks ss [] l hl hs (fun y hy => hk y (by simp [hy]))]
  rfl
theorem kidsB_list {P wd m : Nat} {pages : Bool} (hwd : wd ≤ 32) {ks : List Kd} {x : Bool × List Bs} {l l' : Bs} (h : listP m (kidP P wd pages) (true, []) l = some (x, ks, l')) (hne : ks ≠ []) :
    ∃ k ks' ss, ks = k :: ks' ∧ x = (false, ss) ∧ ks'.length = ss.length ∧ l = freeB ks.length ++ (kB pages wd k ++ kidsT pages wd ks' ss) ++ l' ∧ (pages = false → ∀ k ∈ ks, k.page = 0) := by
  unfold listP at h
  cases hf : freeP m l with
  | none => simp [hf] at h
  | some r =>
    obtain ⟨n, l1⟩ := r
    simp only [hf] at h
    split at h
    · cases n with
      | zero =>
        simp only [manyP, Option.some.injEq, Prod.mk.injEq] at h
        exact absurd h.2.1.symm hne
      | succ n =>
        unfold manyP at h
        cases h1 : kidP P wd pages (true, []) l1 with
        | none => simp [h1] at h
        | some r =>
          obtain ⟨x1, k, l2⟩ := r
          simp only [h1] at h
          obtain ⟨e1, e2⟩ := kidP_kid hwd h1
          rw [sepP_true] at e1
          simp only [Option.some.injEq, Prod.mk.injEq] at e1
          obtain ⟨rfl, rfl⟩ := e1
          cases h2 : manyP (kidP P wd pages) n (false, []) l2 with
          | none => simp [h2] at h
          | some r2 =>
            obtain ⟨x2, ts, l3⟩ := r2
            simp only [h2, Option.some.injEq, Prod.mk.injEq] at h
            obtain ⟨rfl, rfl, rfl⟩ := h
            obtain ⟨ss, rfl, e3, e4, rfl, e5⟩ := kids_many hwd n ts _ _ _ _ h2
            refine ⟨k, ts, ss, rfl, by simp, e3, ?_, fun hp => ?_⟩
            · rw [free_freeP hf, List.length_cons, e4]; simp
            · intro y hy
              rcases List.mem_cons.1 hy with rfl | hy
              · exact e2 hp
              · exact e5 hp y hy
    · cases h

def Nd.bare (n : Nd) : Nd := ⟨n.pairs, n.seps, n.kids.map fun k => ⟨0, k.sum⟩⟩
def pgN (pages : Bool) (n : Nd) : Nd := if pages = true then n else n.bare

theorem kidsT_ge (pages : Bool) (wd : Nat) : ∀ (ks : List Kd) (ss : List Bs), ks.length = ss.length → ks.length ≤ (kidsT pages wd ks ss).length
  | [], [], _ => by simp
  | k :: ks, s :: ss, h => by
    have ih := kidsT_ge pages wd ks ss (by simpa using h)
    have h1 := freeB_pos s.length
    simp only [kidsT, textB, List.length_append, List.length_cons]
    omega
theorem kB_len (pages : Bool) {wd : Nat} (k : Kd) (hwd : wd ≤ 32) : (kB pages wd k).length = (if pages = true then 4 else 0) + wd := by
  unfold kB
  rw [List.length_append, List.length_take, k.sum.h]
  cases pages <;> simp [fixB_len] <;> omega
theorem fitB_iff {wd : Nat} {d : Dg} : fitB wd d = true ↔ (1 ≤ wd ∧ wd ≤ 32) ∧ Dg.cut wd d = d := by
  simp [fitB]; omega

/-- What a good branch has. -/
theorem branch_good {P wd : Nat} {n : Nd} (h : shapedB P wd n = true) (hl : leafB n = false) : n.pairs = [] ∧ n.seps.length + 1 = n.kids.length ∧ (∀ s ∈ n.seps, 1 ≤ s.length ∧ s.length ≤ P / 16) ∧ ∀ k ∈ n.kids, Dg.cut wd k.sum = k.sum := by
  unfold shapedB at h
  rw [if_neg (by simp [hl])] at h
  simp only [Bool.and_eq_true, decide_eq_true_eq, Bool.not_eq_true'] at h
  obtain ⟨⟨⟨⟨h1, h2⟩, h3⟩, h4⟩, h5⟩ := h
  refine ⟨List.length_eq_zero_iff.1 h1, h3, rises_len _ _ _ h5, fun k hk => ?_⟩
  have := List.any_eq_false.1 h4 k hk
  simp only [Bool.not_eq_true', Bool.not_eq_false] at this
  exact (fitB_iff.1 this).2
theorem leaf_good {P : Nat} {wd : Int} {n : Nd} (h : shapedB P wd n = true) (hl : leafB n = true) : ∀ x ∈ n.pairs, (1 ≤ x.1.length ∧ x.1.length ≤ P / 16) ∧ x.2.length ≤ P / 8 := by
  unfold shapedB at h
  rw [if_pos hl] at h
  simp only [Bool.and_eq_true, Bool.not_eq_true'] at h
  intro x hx
  refine ⟨rises_len _ _ _ h.1 x.1 (List.mem_map.2 ⟨x, hx, rfl⟩), ?_⟩
  have := List.any_eq_false.1 h.2 x hx
  simpa using this

/-- A node's form is read as that node. -/
theorem parse_form {P wd : Nat} {pages : Bool} {n : Nd} (hc : checkE P wd n = 0) (ho : NdOk n) : parseP P wd pages (formB pages wd n) = some (pgN pages n) := by
  obtain ⟨hr, hs⟩ := checkE_ok hc
  have hr' := rightB_iff.1 hr
  have hP : P ≤ 8192 := by omega
  have hwd : wd ≤ 32 := by omega
  simp only [Int.toNat_natCast] at hs
  have h1 : ∀ (t : Nat) (l : Bs), t < 256 → takeP 1 (t.toUInt8 :: l) = some (t, l) := fun t l ht => by
    have := takeP_fix (n := t) (l := l) 1 (by omega)
    simpa [fixB, Nat.mod_eq_of_lt ht] using this
  cases hl : leafB n
  · obtain ⟨e1, e2, e3, e4⟩ := branch_good hs hl
    have hnk := ho.nk; have hpg := ho.pg
    obtain ⟨ps, ss, ks⟩ := n
    cases ks with
    | nil => simp at e2
    | cons k ks =>
      simp only at e1 e2 e3 e4 hnk hpg
      subst e1
      have hT := kidsB_T pages wd [] k ks ss e2
      unfold formB parseP
      rw [if_neg (by simp [hl])]
      simp only
      rw [hT, show (2 : UInt8) = (2 : Nat).toUInt8 from rfl, h1 2 _ (by omega)]
      simp only
      have e2' : ks.length = ss.length := by simp at e2; omega
      have hge := kidsT_ge pages wd ks ss e2'
      have hkB := kB_len pages k hwd
      have hL := list_kidsB (P := P) (m := (Nat.toUInt8 2 :: (freeB (k :: ks).length ++ (kB pages wd k ++ kidsT pages wd ks ss))).length) (pages := pages) (l := []) hP hwd e2' (fun s hs => (e3 s hs).2) (fun y hy => ⟨e4 y hy, hpg y hy⟩)
        (by simp; omega) (by omega) (by simp; split at hkB <;> omega)
      rw [List.append_nil] at hL
      rw [if_neg (by decide), if_pos trivial, hL]
      simp only [List.map_cons, if_true]
      rw [if_neg (by simp)]
      cases pages <;> simp [pgN, Nd.bare, kdP_true, kdP_false]
  · have hlg := leaf_good hs hl
    have hnp := ho.np
    obtain ⟨e1, e2⟩ := leafB_iff.1 hl
    obtain ⟨ps, ss, ks⟩ := n
    simp only at e1 e2 hlg hnp
    subst e1 e2
    unfold formB parseP
    rw [if_pos hl]
    simp only
    rw [show (1 : UInt8) = (1 : Nat).toUInt8 from rfl, h1 1 _ (by omega)]
    simp only
    have hge := pairsB_ge ps
    have hL := list_pairsB (P := P) (m := (Nat.toUInt8 1 :: (freeB ps.length ++ pairsB ps)).length) (l := []) hP (ps := ps) (fun x hx => ⟨(hlg x hx).1.2, (hlg x hx).2⟩) (by simp; omega) (by omega)
    rw [List.append_nil] at hL
    rw [if_pos trivial, hL]
    cases pages <;> simp [pgN, Nd.bare]

/-- What is read is that node's form. -/
theorem form_parse {P wd : Nat} {pages : Bool} {n : Nd} {s : Bs} (hwd : wd ≤ 32) (h : parseP P wd pages s = some n) : formB pages wd n = s ∧ (pages = false → ∀ k ∈ n.kids, k.page = 0) := by
  unfold parseP at h
  cases ht : takeP 1 s with
  | none => simp [ht] at h
  | some r =>
    obtain ⟨t, l⟩ := r
    have hs := fix_takeP ht
    simp only [ht] at h
    split at h
    · rename_i h1
      subst h1
      cases hp : listP s.length (pairP P) () l with
      | none => simp [hp] at h
      | some q =>
        obtain ⟨u, ps, l'⟩ := q
        simp only [hp] at h
        split at h
        · rename_i hn
          subst hn
          simp only [Option.some.injEq] at h
          subst h
          have := pairsB_list hp
          refine ⟨?_, by simp⟩
          rw [hs, this]
          simp [formB, leafB, fixB]
        · cases h
    · split at h
      · rename_i h1
        subst h1
        cases hp : listP s.length (kidP P wd pages) (true, []) l with
        | none => simp [hp] at h
        | some q =>
          obtain ⟨x, ks, l'⟩ := q
          simp only [hp] at h
          split at h
          · cases h
          · rename_i hne
            split at h
            · rename_i hn
              subst hn
              simp only [Option.some.injEq] at h
              subst h
              obtain ⟨k, ks', ss, rfl, rfl, e1, e2, e3⟩ := kidsB_list hwd hp hne
              refine ⟨?_, e3⟩
              have hT := kidsB_T pages wd [] k ks' ss (by simp; omega)
              rw [hs, e2]
              unfold formB
              rw [if_neg (by simp [leafB])]
              simp only
              rw [hT]
              simp [fixB]
            · cases h
      · cases h

theorem leafB_bare (n : Nd) : leafB n.bare = leafB n := by simp [leafB, Nd.bare]
theorem shapedB_bare (P : Nat) (wd : Int) (n : Nd) : shapedB P wd n.bare = shapedB P wd n := by
  unfold shapedB
  rw [leafB_bare]
  simp [Nd.bare, List.any_map, Function.comp_def]
theorem checkE_bare (p wd : Int) (n : Nd) : checkE p wd n.bare = checkE p wd n := by simp [checkE, shapedB_bare]
theorem sizeN_bare (wd : Nat) (n : Nd) : sizeN wd n.bare = sizeN wd n := by
  unfold sizeN; rw [leafB_bare]; simp [Nd.bare]
theorem mayE_bare (p wd : Int) (n : Nd) : mayE p wd n.bare = mayE p wd n := by simp [mayE, checkE_bare, sizeN_bare]

theorem packE_may {p wd : Int} {n : Nd} (h : packE p wd n = 0) : mayE p wd n = 0 := by
  unfold packE at h
  split at h
  · cases h
  · split at h
    · assumption
    · exact h
theorem may_packE {p wd : Int} {n : Nd} (h : mayE p wd n ≠ 0) : packE p wd n ≠ 0 := fun e => h (packE_may e)

/-- What is packed is unpacked. -/
theorem unpack_pack {p wd : Int} {n : Nd} (h : packE p wd n = 0) (ho : NdOk n) : unpackP p wd (packS p wd n) = some n := by
  have hm := packE_may h
  obtain ⟨hc, _⟩ := mayE_ok hm
  have hr := (checkE_ok hc).1
  have hr' := rightB_iff.1 hr
  obtain ⟨P, rfl⟩ := Int.eq_ofNat_of_zero_le (show 0 ≤ p by omega)
  obtain ⟨d, rfl⟩ := Int.eq_ofNat_of_zero_le (show 0 ≤ wd by omega)
  unfold unpackP packS
  rw [if_pos hr, if_pos h]
  have := parse_form (pages := true) hc ho
  simp only [Int.toNat_natCast] at this ⊢
  rw [this]
  simp only [pgN, if_true]
  simp [Option.filter, h]
/-- What is written without pages is read without them. -/
theorem read_plain {p wd : Int} {n : Nd} (h : mayE p wd n = 0) (ho : NdOk n) : readP p wd (plainS p wd n) = some n.bare := by
  obtain ⟨hc, _⟩ := mayE_ok h
  have hr := (checkE_ok hc).1
  have hr' := rightB_iff.1 hr
  obtain ⟨P, rfl⟩ := Int.eq_ofNat_of_zero_le (show 0 ≤ p by omega)
  obtain ⟨d, rfl⟩ := Int.eq_ofNat_of_zero_le (show 0 ≤ wd by omega)
  unfold readP plainS
  rw [if_pos hr, if_pos h]
  have := parse_form (pages := false) hc ho
  simp only [Int.toNat_natCast] at this ⊢
  rw [this]
  simp only [pgN, Bool.false_eq_true, if_false]
  have h2 := mayE_bare P d n
  simp [Option.filter, h2, h]

theorem kidsT_len {pages : Bool} {wd : Nat} (hwd : wd ≤ 32) : ∀ (ks : List Kd) (ss : List Bs), ks.length = ss.length → (kidsT pages wd ks ss).length = ks.length * ((if pages = true then 4 else 0) + wd) + (ss.map txN).sum
  | [], [], _ => by simp [kidsT]
  | k :: ks, s :: ss, h => by
    have ih := kidsT_len (pages := pages) hwd ks ss (by simpa using h)
    simp only [kidsT, List.length_append, textB_length, kB_len pages k hwd, ih, List.length_cons, Nat.succ_mul, List.map_cons, List.sum_cons]
    omega
/-- How long a form is. -/
theorem formB_len {P wd : Nat} {pages : Bool} {n : Nd} (hc : checkE P wd n = 0) : (formB pages wd n).length + (if pages = true then 0 else 4 * n.kids.length) = sizeN wd n := by
  obtain ⟨hr, hs⟩ := checkE_ok hc
  have hr' := rightB_iff.1 hr
  have hwd : wd ≤ 32 := by omega
  simp only [Int.toNat_natCast] at hs
  unfold formB sizeN
  cases hl : leafB n
  · obtain ⟨e1, e2, e3, e4⟩ := branch_good hs hl
    obtain ⟨ps, ss, ks⟩ := n
    cases ks with
    | nil => simp at e2
    | cons k ks =>
      simp only at e1 e2
      have e2' : ks.length = ss.length := by simp at e2; omega
      simp only [Bool.false_eq_true, if_false]
      rw [kidsB_T pages wd ps k ks ss e2]
      simp only [List.length_cons, List.length_append, freeB_length, kB_len pages k hwd, kidsT_len hwd ks ss e2', Nat.succ_mul]
      cases pages
      · simp only [Bool.false_eq_true, if_false, Nat.zero_add]
        simp only [Nat.mul_add]; omega
      · simp only [if_true, Nat.mul_add]; omega
  · obtain ⟨e1, e2⟩ := leafB_iff.1 hl
    simp only [if_true, List.length_cons, List.length_append, freeB_length, pairsB_length, e2, List.length_nil, Nat.mul_zero, ite_self]
    omega

theorem unpackP_ok {p wd : Int} {s : Bs} {n : Nd} (h : unpackP p wd s = some n) : rightB p wd = true ∧ packE p wd n = 0 ∧ parseP p.toNat wd.toNat true s = some n := by
  unfold unpackP at h
  split at h
  · rename_i hr
    obtain ⟨h1, h2⟩ := Option.filter_eq_some_iff.1 h
    exact ⟨hr, by simpa using h2, h1⟩
  · cases h
theorem readP_ok {p wd : Int} {s : Bs} {n : Nd} (h : readP p wd s = some n) : rightB p wd = true ∧ mayE p wd n = 0 ∧ parseP p.toNat wd.toNat false s = some n := by
  unfold readP at h
  split at h
  · rename_i hr
    obtain ⟨h1, h2⟩ := Option.filter_eq_some_iff.1 h
    exact ⟨hr, by simpa using h2, h1⟩
  · cases h
/-- What is unpacked packs to what it was. -/
theorem pack_unpack {p wd : Int} {s : Bs} {n : Nd} (h : unpackP p wd s = some n) : packE p wd n = 0 ∧ packS p wd n = s ∧ checkE p wd n = 0 := by
  obtain ⟨hr, he, hp⟩ := unpackP_ok h
  have hr' := rightB_iff.1 hr
  refine ⟨he, ?_, (mayE_ok (packE_may he)).1⟩
  unfold packS; rw [if_pos he]
  exact (form_parse (by omega) hp).1
theorem plain_read {p wd : Int} {s : Bs} {n : Nd} (h : readP p wd s = some n) : mayE p wd n = 0 ∧ plainS p wd n = s ∧ checkE p wd n = 0 ∧ ∀ k ∈ n.kids, k.page = 0 := by
  obtain ⟨hr, he, hp⟩ := readP_ok h
  have hr' := rightB_iff.1 hr
  obtain ⟨h1, h2⟩ := form_parse (by omega) hp
  refine ⟨he, ?_, (mayE_ok he).1, h2 rfl⟩
  unfold plainS; rw [if_pos he]
  exact h1

end Go.Proofs.Ytemicgccgcmmbaa

/- Pairs are compared. -/
namespace Go.Proofs.Ytemicgccgcmmbaa
set_option linter.unusedVariables false
set_option linter.unusedSimpArgs false
open Go Go.RowKit

theorem eq_pair0 (w : World) (a b c d : Bs) : (Op.equalIn 10000 48 (.agg #[.string ⟨a.toArray⟩, .string ⟨b.toArray⟩]) (.agg #[.string ⟨c.toArray⟩, .string ⟨d.toArray⟩])).run Try.prog w = .ok (a == c && b == d) w := by
  rw [run_equalIn_agg w 9999 48 _ _ (by kernel_rfl) (by kernel_rfl)]
  have hf : (Try.prog.fieldsOf 48).toList.map (fun f => (f.type, f.offset)) = [(9, 0), (9, 1)] := by kernel_rfl
  have hp : ∀ f ∈ (Try.prog.fieldsOf 48).toList, f.name ≠ "_" := by
    have : ((Try.prog.fieldsOf 48).toList.all fun f => f.name != "_") = true := by kernel_rfl
    intro f hf; simpa using List.all_eq_true.1 this f hf
  generalize (Try.prog.fieldsOf 48).toList = fs at hf hp
  obtain ⟨f0, f1, rfl⟩ : ∃ f0 f1, fs = [f0, f1] := by
    have hl : fs.length = 2 := by have := congrArg List.length hf; simpa using this
    match fs, hl with
    | [a, b], _ => exact ⟨a, b, rfl⟩
  · simp only [List.map_cons, List.map_nil, List.cons.injEq, Prod.mk.injEq, and_true] at hf
    obtain ⟨⟨a0, a1⟩, b0, b1⟩ := hf
    have n0 := hp f0 (by simp)
    have n1 := hp f1 (by simp)
    have hu : Try.prog.underlying 9 = some .string := Try.underlying9
    have hs : ∀ x y : Bs, (Op.equalIn 9999 9 (.string ⟨x.toArray⟩) (.string ⟨y.toArray⟩)).run Try.prog w = .ok (x == y) w := fun x y => by
      rw [run_equalIn_string w 9998 _ _ _ hu]; simp
    cases h1 : (a == c) <;> cases h2 : (b == d) <;>
      simp [Op.eqFields, n0, n1, a0, a1, b0, b1, part, isAgg, Sem.run_bind, run_underlying hu, hs, h1, h2, Sem.run_ite]
/-- Are two pairs the same? -/
def prEq (a b c d : Bs) : Bool := a == c && b == d
theorem prEq_iff {p q : Pr} : prEq p.1 p.2 q.1 q.2 = true ↔ p = q := by
  simp [prEq, Prod.ext_iff]
@[go_sem ↓] theorem eq_pair (w : World) (a b c d : Bs) : (Op.equalIn 10000 48 (.agg #[.string ⟨a.toArray⟩, .string ⟨b.toArray⟩]) (.agg #[.string ⟨c.toArray⟩, .string ⟨d.toArray⟩])).run Try.prog w = .ok (prEq a b c d) w := eq_pair0 w a b c d
@[go_sem] theorem guard_pair : Try.prog.eqGuardType Try.prog.depth 48 = false := by kernel_rfl

theorem pgN_iff {pages : Bool} {x y : Nd} : pgN pages x = pgN pages y ↔ x.pairs = y.pairs ∧ x.seps = y.seps ∧ x.kids.map (kdP pages) = y.kids.map (kdP pages) := by
  obtain ⟨a, b, c⟩ := x; obtain ⟨a', b', c'⟩ := y
  have h0 : ∀ c : List Kd, c.map (kdP true) = c := fun c => by
    have : kdP true = id := by funext k; rfl
    rw [this, List.map_id]
  have h1 : ∀ c : List Kd, c.map (kdP false) = c.map (fun k => ⟨0, k.sum⟩) := fun c => by
    have : kdP false = fun k => ⟨0, k.sum⟩ := by funext k; rfl
    rw [this]
  cases pages
  · simp only [pgN, Bool.false_eq_true, if_false, Nd.bare, Nd.mk.injEq, h1]
  · simp only [pgN, if_true, Nd.mk.injEq, h0]

theorem take_eq_step {α : Type} {l m : List α} {k : Nat} {x y : α} (h : l.take k = m.take k) (hx : l[k]? = some x) (hy : m[k]? = some y) (e : x = y) : l.take (k + 1) = m.take (k + 1) := by
  rw [List.take_add_one, List.take_add_one, hx, hy, h, e]
theorem ne_at {α : Type} {l m : List α} {k : Nat} {x y : α} (hx : l[k]? = some x) (hy : m[k]? = some y) (e : x ≠ y) : l ≠ m := fun h => e (by rw [h, hy] at hx; exact (Option.some.inj hx).symm)

end Go.Proofs.Ytemicgccgcmmbaa

/- The document's comparison of two nodes. -/
namespace Go.Proofs.Ytemicgccgcmmbaa
set_option linter.unusedVariables false
set_option linter.unusedSimpArgs false
open Go Go.RowKit

theorem run_part_dg (w : World) (k : Kd) : (part 40 k.c 1).run Try.prog w = .ok (.agg k.sum.c) w := by
  have hu : Try.prog.underlying 40 = some (.array 32 5) := Try.underlying40
  have hs : (Try.prog.info? 40).map (·.size) = some 32 := by kernel_rfl
  cases hq : Try.prog.info? 40 with
  | none => simp [hq] at hs
  | some i =>
    have hi : i.size = 32 := by simpa [hq] using hs
    have he : k.c.extract 1 (1 + 32) = k.sum.c := Kd.extract1 k
    simp only [part, isAgg, Sem.run_bind, run_underlying hu, Result.andThen_ok, Sem.run_pure, if_true, sizeOf, typeInfo, run_program, hq, hi, he]
theorem run_part_pg (w : World) (k : Kd) : (part 38 k.c 0).run Try.prog w = .ok (.int .u32 (k.page : Int)) w := by
  have hu : Try.prog.underlying 38 = some (.int .u32) := Try.underlying38
  have h0 := Kd.get0 k
  simp [part, isAgg, Sem.run_bind, run_underlying hu, Kd.getE0]
theorem eq_dg9 (w : World) (a b : Dg) : (Op.equalIn 9999 40 (.agg a.c) (.agg b.c)).run Try.prog w = .ok (decide (a = b)) w := by
  have := run_equalIn_u8 (P := Try.prog) w 9997 40 32 5 Try.underlying40 Try.underlying5 (by kernel_rfl) a.l b.l a.h b.h
  rw [show (decide (a = b)) = (a.l == b.l) by rw [Bool.eq_iff_iff]; simp; exact ⟨fun h => by rw [h], Dg.ext'⟩]
  exact this
theorem kd_dec (a b : Kd) : decide (a = b) = (((a.page : Int) == (b.page : Int)) && decide (a.sum = b.sum)) := by
  obtain ⟨p, s⟩ := a; obtain ⟨p', s'⟩ := b
  rw [Bool.eq_iff_iff]; simp only [Kd.mk.injEq, decide_eq_true_eq, Bool.and_eq_true, beq_iff_eq, Int.ofNat_inj]
/-- Two fields are compared, the second where the first is alike. -/
theorem eqFields_two {P : Program} (w : World) (d : Nat) (xs ys : Array Value) (f0 f1 : Field) (x0 x1 y0 y1 : Value) (u0 u1 : Bool) (n0 : f0.name ≠ "_") (n1 : f1.name ≠ "_")
    (h0 : (part f0.type xs f0.offset).run P w = .ok x0 w) (h1 : (part f0.type ys f0.offset).run P w = .ok y0 w) (h2 : (Op.equalIn d f0.type x0 y0).run P w = .ok u0 w)
    (k0 : (part f1.type xs f1.offset).run P w = .ok x1 w) (k1 : (part f1.type ys f1.offset).run P w = .ok y1 w) (k2 : (Op.equalIn d f1.type x1 y1).run P w = .ok u1 w) :
    (Op.eqFields d xs ys [f0, f1]).run P w = .ok (u0 && u1) w := by
  cases u0 <;> cases u1 <;> simp [Op.eqFields, n0, n1, Sem.run_bind, h0, h1, h2, k0, k1, k2, Sem.run_ite]
theorem eq_kid0 (w : World) (a b : Kd) : (Op.equalIn 10000 42 (.agg a.c) (.agg b.c)).run Try.prog w = .ok (((a.page : Int) == (b.page : Int)) && decide (a.sum = b.sum)) w := by
  rw [run_equalIn_agg w 9999 42 _ _ (by kernel_rfl) (by kernel_rfl)]
  have hf : (Try.prog.fieldsOf 42).toList.map (fun f => (f.type, f.offset)) = [(38, 0), (40, 1)] := by kernel_rfl
  have hp : ∀ f ∈ (Try.prog.fieldsOf 42).toList, f.name ≠ "_" := by
    have : ((Try.prog.fieldsOf 42).toList.all fun f => f.name != "_") = true := by kernel_rfl
    intro f hf; simpa using List.all_eq_true.1 this f hf
  generalize (Try.prog.fieldsOf 42).toList = fs at hf hp
  obtain ⟨f0, f1, rfl⟩ : ∃ f0 f1, fs = [f0, f1] := by
    have hl : fs.length = 2 := by have := congrArg List.length hf; simpa using this
    match fs, hl with
    | [a, b], _ => exact ⟨a, b, rfl⟩
  simp only [List.map_cons, List.map_nil, List.cons.injEq, Prod.mk.injEq, and_true] at hf
  obtain ⟨⟨a0, a1⟩, b0, b1⟩ := hf
  exact eqFields_two w 9999 a.c b.c f0 f1 _ _ _ _ _ _ (hp f0 (by simp)) (hp f1 (by simp)) (by rw [a0, a1]; exact run_part_pg w a) (by rw [a0, a1]; exact run_part_pg w b) (by rw [a0]; exact run_equalIn_int w 9998 _ _ _ _ _ Try.underlying38)
    (by rw [b0, b1]; exact run_part_dg w a) (by rw [b0, b1]; exact run_part_dg w b) (by rw [b0]; exact eq_dg9 w a.sum b.sum)
@[go_sem ↓] theorem eq_kid (w : World) (a b : Kd) : (Op.equalIn 10000 42 (.agg a.c) (.agg b.c)).run Try.prog w = .ok (decide (a = b)) w := by
  rw [kd_dec]; exact eq_kid0 w a b
@[go_sem] theorem guard_kid : Try.prog.eqGuardType Try.prog.depth 42 = false := by kernel_rfl

set_option maxHeartbeats 1000000 in set_option maxRecDepth 100000 in
theorem refSame_any (pa sa ka qa ta la : Option Addr) (pc sc kc qc tc lc : Nat) (x y : Nd) (w : World) (hx : NdAt w pa sa ka x) (hy : NdAt w qa ta la y) (ox : NdOk x) (oy : NdOk y) :
    Calls Try.prog 24 #[.agg #[.slice pa x.pairs.length pc, .slice sa x.seps.length sc, .slice ka x.kids.length kc], .agg #[.slice qa y.pairs.length qc, .slice ta y.seps.length tc, .slice la y.kids.length lc]] w
      (Rets (.bool (decide (x = y))) w) := by
  have HX := Lib.hid hx; have HY := Lib.hid hy; clear hx hy
  have np := ox.np; have ns := ox.ns; have nk := ox.nk
  clear ox oy
  by_cases h1 : x.pairs.length = y.pairs.length
  case neg =>
    have hb : ((x.pairs.length : Int) != (y.pairs.length : Int)) = true := by simp only [bne_iff_ne, ne_eq]; omega
    have HF : Hid (decide (x = y) = false) := decide_eq_false (fun h => h1 (by rw [h]))
    clear h1
    go_enter Try.func24, Try.ntmps24
    go_wp2_with fail
    go_ret
    rw [HF.out]
    exact ⟨rfl, by (try simp only [alloc_ext, drew_ext, drewN_ext, ext_ext]); exact ⟨_, _, rfl⟩⟩
  have hb1 : ((x.pairs.length : Int) != (y.pairs.length : Int)) = false := by simp only [bne_eq_false_iff_eq]; omega
  by_cases h2 : x.seps.length = y.seps.length
  case neg =>
    have hb : ((x.seps.length : Int) != (y.seps.length : Int)) = true := by simp only [bne_iff_ne, ne_eq]; omega
    have HF : Hid (decide (x = y) = false) := decide_eq_false (fun h => h2 (by rw [h]))
    clear h1 h2
    go_enter Try.func24, Try.ntmps24
    go_wp2_with fail
    go_ret
    rw [HF.out]
    exact ⟨rfl, by (try simp only [alloc_ext, drew_ext, drewN_ext, ext_ext]); exact ⟨_, _, rfl⟩⟩
  have hb2 : ((x.seps.length : Int) != (y.seps.length : Int)) = false := by simp only [bne_eq_false_iff_eq]; omega
  by_cases h3 : x.kids.length = y.kids.length
  case neg =>
    have hb : ((x.kids.length : Int) != (y.kids.length : Int)) = true := by simp only [bne_iff_ne, ne_eq]; omega
    have HF : Hid (decide (x = y) = false) := decide_eq_false (fun h => h3 (by rw [h]))
    clear h1 h2 h3
    go_enter Try.func24, Try.ntmps24
    go_wp2_with fail
    go_ret
    rw [HF.out]
    exact ⟨rfl, by (try simp only [alloc_ext, drew_ext, drewN_ext, ext_ext]); exact ⟨_, _, rfl⟩⟩
  have hb3 : ((x.kids.length : Int) != (y.kids.length : Int)) = false := by simp only [bne_eq_false_iff_eq]; omega
  have g1 : x.pairs.length ≤ y.pairs.length := by omega
  have g1' : y.pairs.length ≤ x.pairs.length := by omega
  have g2 : x.seps.length ≤ y.seps.length := by omega
  have g2' : y.seps.length ≤ x.seps.length := by omega
  have g3 : x.kids.length ≤ y.kids.length := by omega
  have g3' : y.kids.length ≤ x.kids.length := by omega
  clear h1 h2 h3
  go_enter Try.func24, Try.ntmps24
  go_wp2_with fail
  clear hb1 hb2 hb3
  go_loopw [4, 5] (fun _ i wr => ∃ k bs n, i = .int .i64 (k : Nat) ∧ k ≤ x.pairs.length ∧ wr = ext ((w.alloc (.cells #[.slice pa x.pairs.length pc, .slice sa x.seps.length sc, .slice ka x.kids.length kc] 30)).alloc (.cells #[.slice qa y.pairs.length qc, .slice ta y.seps.length tc, .slice la y.kids.length lc] 30)) bs n ∧ Hid (x.pairs.take k = y.pairs.take k)) (fun _ i _ => x.pairs.length - (intOf i).toNat)
  case atStart => exact ⟨0, [], 0, rfl, Nat.zero_le _, ext_zero _, by simp [Hid]⟩
  case round =>
    obtain ⟨k, bs, n, rfl, hk, rfl, HE⟩ := hrel
    by_cases hlt : k < x.pairs.length
    · obtain ⟨p, hp⟩ : ∃ p, x.pairs[k]? = some p := ⟨_, List.getElem?_eq_getElem hlt⟩
      obtain ⟨q, hq⟩ : ∃ q, y.pairs[k]? = some q := ⟨_, List.getElem?_eq_getElem (by omega)⟩
      obtain ⟨b, o, rfl, hb, cf1, cf2⟩ := HX.out.ps k p hp
      obtain ⟨b', o', rfl, hb', cg1, cg2⟩ := HY.out.ps k q hq
      have HP := Lib.hid hp; have HQ := Lib.hid hq; clear hp hq
      rcases hd : prEq p.1 p.2 q.1 q.2 with _ | _
      · have HF : Hid (decide (x = y) = false) := decide_eq_false (fun h => ne_at HP.out HQ.out (fun e => by rw [prEq_iff.2 e] at hd; cases hd) (by rw [h]))
        go_wp2_with fail
        refine wp_region_ext (by kernel_rfl) (by kernel_rfl) ?_
        repeat (go_big_quiet_step (fail))
        (refine wpQuiet_nil ?_; intro _ hw'; obtain ⟨⟨bsq, nq⟩, hw''⟩ := hw'; subst hw'')
        go_wp2_with fail
        go_ret
        rw [HF.out]
        exact ⟨rfl, by (try simp only [alloc_ext, drew_ext, drewN_ext, ext_ext]); exact ⟨_, _, rfl⟩⟩
      · have HE' : Hid (x.pairs.take (k + 1) = y.pairs.take (k + 1)) := Lib.hid (take_eq_step HE.out HP.out HQ.out (prEq_iff.1 hd))
        go_wp2_with fail
        refine wp_region_ext (by kernel_rfl) (by kernel_rfl) ?_
        repeat (go_big_quiet_step (fail))
        (refine wpQuiet_nil ?_; intro _ hw'; obtain ⟨⟨bsq, nq⟩, hw''⟩ := hw'; subst hw'')
        go_wp2_with fail
        go_roundw
        case rel => exact ⟨k + 1, _, _, by go_num, by omega, by (try simp only [ext_alloc, ext_drew, ext_drewN, ext_ext]); rfl, HE'⟩
        case measure => simp [intOf]; omega
    · have hpe : Hid (x.pairs = y.pairs) := Lib.hid (by have := HE.out; rwa [List.take_of_length_le (by omega), List.take_of_length_le (by omega)] at this)
      clear HE
      go_wp2_with fail
      go_loopw [4, 6] (fun _ i wr => ∃ k bs n, i = .int .i64 (k : Nat) ∧ k ≤ x.seps.length ∧ wr = ext ((w.alloc (.cells #[.slice pa x.pairs.length pc, .slice sa x.seps.length sc, .slice ka x.kids.length kc] 30)).alloc (.cells #[.slice qa y.pairs.length qc, .slice ta y.seps.length tc, .slice la y.kids.length lc] 30)) bs n ∧ Hid (x.seps.take k = y.seps.take k)) (fun _ i _ => x.seps.length - (intOf i).toNat)
      case atStart => exact ⟨0, _, _, rfl, Nat.zero_le _, rfl, by simp [Hid]⟩
      case round =>
        obtain ⟨k, bs, n, rfl, hk, rfl, HE⟩ := hrel
        by_cases hlt : k < x.seps.length
        · obtain ⟨p, hp⟩ : ∃ p, x.seps[k]? = some p := ⟨_, List.getElem?_eq_getElem hlt⟩
          obtain ⟨q, hq⟩ : ∃ q, y.seps[k]? = some q := ⟨_, List.getElem?_eq_getElem (by omega)⟩
          obtain ⟨b, o, rfl, hb, cf1⟩ := HX.out.ss k p hp
          obtain ⟨b', o', rfl, hb', cg1⟩ := HY.out.ss k q hq
          have HP := Lib.hid hp; have HQ := Lib.hid hq; clear hp hq
          rcases hd : (p == q) with _ | _
          · have HF : Hid (decide (x = y) = false) := decide_eq_false (fun h => ne_at HP.out HQ.out (by simpa using hd) (by rw [h]))
            go_wp2_with fail
            refine wp_region_ext (by kernel_rfl) (by kernel_rfl) ?_
            repeat (go_big_quiet_step (fail))
            (refine wpQuiet_nil ?_; intro _ hw'; obtain ⟨⟨bsq, nq⟩, hw''⟩ := hw'; subst hw'')
            go_wp2_with fail
            go_ret
            rw [HF.out]
            exact ⟨rfl, by (try simp only [alloc_ext, drew_ext, drewN_ext, ext_ext]); exact ⟨_, _, rfl⟩⟩
          · have HE' : Hid (x.seps.take (k + 1) = y.seps.take (k + 1)) := Lib.hid (take_eq_step HE.out HP.out HQ.out (by simpa using hd))
            go_wp2_with fail
            refine wp_region_ext (by kernel_rfl) (by kernel_rfl) ?_
            repeat (go_big_quiet_step (fail))
            (refine wpQuiet_nil ?_; intro _ hw'; obtain ⟨⟨bsq, nq⟩, hw''⟩ := hw'; subst hw'')
            go_wp2_with fail
            go_roundw
            case rel => exact ⟨k + 1, _, _, by go_num, by omega, by (try simp only [ext_alloc, ext_drew, ext_drewN, ext_ext]); rfl, HE'⟩
            case measure => simp [intOf]; omega
        · have hse : Hid (x.seps = y.seps) := Lib.hid (by have := HE.out; rwa [List.take_of_length_le (by omega), List.take_of_length_le (by omega)] at this)
          clear HE
          go_wp2_with fail
          go_loopw [4, 7] (fun _ i wr => ∃ k bs n, i = .int .i64 (k : Nat) ∧ k ≤ x.kids.length ∧ wr = ext ((w.alloc (.cells #[.slice pa x.pairs.length pc, .slice sa x.seps.length sc, .slice ka x.kids.length kc] 30)).alloc (.cells #[.slice qa y.pairs.length qc, .slice ta y.seps.length tc, .slice la y.kids.length lc] 30)) bs n ∧ Hid (x.kids.take k = y.kids.take k)) (fun _ i _ => x.kids.length - (intOf i).toNat)
          case atStart => exact ⟨0, _, _, rfl, Nat.zero_le _, rfl, by simp [Hid]⟩
          case round =>
            obtain ⟨k, bs, n, rfl, hk, rfl, HE⟩ := hrel
            by_cases hlt : k < x.kids.length
            · obtain ⟨p, hp⟩ : ∃ p, x.kids[k]? = some p := ⟨_, List.getElem?_eq_getElem hlt⟩
              obtain ⟨q, hq⟩ : ∃ q, y.kids[k]? = some q := ⟨_, List.getElem?_eq_getElem (by omega)⟩
              obtain ⟨b, o, rfl, hb, r1⟩ := HX.out.ks k p hp
              obtain ⟨b', o', rfl, hb', r2⟩ := HY.out.ks k q hq
              have HP := Lib.hid hp; have HQ := Lib.hid hq; clear hp hq
              rcases hd : decide (p = q) with _ | _
              · have HF : Hid (decide (x = y) = false) := decide_eq_false (fun h => ne_at HP.out HQ.out (by simpa using hd) (by rw [h]))
                go_wp2_with fail
                refine wp_region_ext (by kernel_rfl) (by kernel_rfl) ?_
                repeat (go_big_quiet_step (fail))
                (refine wpQuiet_nil ?_; intro _ hw'; obtain ⟨⟨bsq, nq⟩, hw''⟩ := hw'; subst hw'')
                go_wp2_with fail
                go_ret
                rw [HF.out]
                exact ⟨rfl, by (try simp only [alloc_ext, drew_ext, drewN_ext, ext_ext]); exact ⟨_, _, rfl⟩⟩
              · have HE' : Hid (x.kids.take (k + 1) = y.kids.take (k + 1)) := Lib.hid (take_eq_step HE.out HP.out HQ.out (by simpa using hd))
                go_wp2_with fail
                refine wp_region_ext (by kernel_rfl) (by kernel_rfl) ?_
                repeat (go_big_quiet_step (fail))
                (refine wpQuiet_nil ?_; intro _ hw'; obtain ⟨⟨bsq, nq⟩, hw''⟩ := hw'; subst hw'')
                go_wp2_with fail
                go_roundw
                case rel => exact ⟨k + 1, _, _, by go_num, by omega, by (try simp only [ext_alloc, ext_drew, ext_drewN, ext_ext]); rfl, HE'⟩
                case measure => simp [intOf]; omega
            · have HF : Hid (decide (x = y) = true) := Lib.hid (decide_eq_true (by
                have hke := HE.out
                rw [List.take_of_length_le (by omega), List.take_of_length_le (by omega)] at hke
                have h1 := hpe.out; have h2 := hse.out
                obtain ⟨a, b, c⟩ := x; obtain ⟨a', b', c'⟩ := y
                simp only at h1 h2 hke
                rw [h1, h2, hke]))
              go_wp2_with fail
              go_ret
              rw [HF.out]
              exact ⟨rfl, by (try simp only [alloc_ext, drew_ext, drewN_ext, ext_ext]); exact ⟨_, _, rfl⟩⟩

end Go.Proofs.Ytemicgccgcmmbaa

/- kept: a lent node is as it was, its marks too. -/
namespace Go.Proofs.Ytemicgccgcmmbaa
set_option linter.unusedVariables false
set_option linter.unusedSimpArgs false
open Go Go.RowKit

theorem SsAt.take {w : World} {a : Option Addr} {l : List Bs} (h : SsAt w a l) (k : Nat) : SsAt w a (l.take k) := fun i p hp => by
  rw [List.getElem?_take] at hp
  split at hp
  · exact h i p hp
  · cases hp
theorem KsAt.take {w : World} {a : Option Addr} {l : List Kd} (h : KsAt w a l) (k : Nat) : KsAt w a (l.take k) := fun i p hp => by
  rw [List.getElem?_take] at hp
  split at hp
  · exact h i p hp
  · cases hp
theorem PsAt.pre {w : World} {a : Option Addr} {l m : List Pr} (h : PsAt w a (l ++ m)) : PsAt w a l := fun i p hp => h i p (by rw [List.getElem?_append_left (List.getElem?_eq_some_iff.1 hp).1]; exact hp)
theorem SsAt.pre {w : World} {a : Option Addr} {l m : List Bs} (h : SsAt w a (l ++ m)) : SsAt w a l := fun i p hp => h i p (by rw [List.getElem?_append_left (List.getElem?_eq_some_iff.1 hp).1]; exact hp)
theorem KsAt.pre {w : World} {a : Option Addr} {l m : List Kd} (h : KsAt w a (l ++ m)) : KsAt w a l := fun i p hp => h i p (by rw [List.getElem?_append_left (List.getElem?_eq_some_iff.1 hp).1]; exact hp)

/-- A lent node, and its marks. -/
theorem Own3.lent {w : World} {lo gp gs gk pc sc kc : Nat} {n : Nd} (h : Own3 w lo (some ⟨gp, 0, none⟩) (some ⟨gs, 0, none⟩) (some ⟨gk, 0, none⟩) pc sc kc n.mk1) :
    NdAt w (some ⟨gp, 0, none⟩) (some ⟨gs, 0, none⟩) (some ⟨gk, 0, none⟩) n ∧ w.cell? ⟨gp, n.pairs.length * 2, none⟩ = some (.string ⟨#[109, 97, 114, 107]⟩) ∧ w.cell? ⟨gs, n.seps.length, none⟩ = some (.string ⟨#[109, 97, 114, 107]⟩) ∧ w.cell? ⟨gk, n.kids.length * 33, none⟩ = some (.int .u32 77) ∧
      (gp < w.heap.size ∧ gs < w.heap.size ∧ gk < w.heap.size) ∧ n.pairs.length + 1 ≤ pc ∧ n.seps.length + 1 ≤ sc ∧ n.kids.length + 1 ≤ kc := by
  have ha := h.at
  have l1 : n.mk1.pairs.length = n.pairs.length + 1 := by simp [Nd.mk1]
  have l2 : n.mk1.seps.length = n.seps.length + 1 := by simp [Nd.mk1]
  have l3 : n.mk1.kids.length = n.kids.length + 1 := by simp [Nd.mk1]
  obtain ⟨b, o, e, hb1, c1, _⟩ := ha.ps n.pairs.length (mkB, []) (by simp [Nd.mk1])
  cases e
  obtain ⟨b, o, e, hb2, c2⟩ := ha.ss n.seps.length mkB (by simp [Nd.mk1])
  cases e
  obtain ⟨b, o, e, hb3, r3⟩ := ha.ks n.kids.length kMark (by simp [Nd.mk1])
  cases e
  have cp := (rowAt?_cell r3).2 0 _ (Kd.get0 kMark)
  refine ⟨⟨ha.ps.pre, ha.ss.pre, ha.ks.pre⟩, by simpa [mkB] using c1, by simpa [mkB] using c2, by simpa [Addr.add_lit, kMark] using cp, ⟨hb1, hb2, hb3⟩, ?_, ?_, ?_⟩
  · obtain ⟨g, _, h1, _⟩ := own_some h.ps (by omega); omega
  · obtain ⟨g, _, h1, _⟩ := own_some h.ss (by omega); omega
  · obtain ⟨g, _, h1, _⟩ := own_some h.ks (by omega); omega

theorem refSame_true (pa sa ka qa ta la : Option Addr) (pc sc kc qc tc lc : Nat) (x y : Nd) (w : World) (hx : NdAt w pa sa ka x) (hy : NdAt w qa ta la y) (ox : NdOk x) (oy : NdOk y) (h : x = y) :
    Calls Try.prog 24 #[.agg #[.slice pa x.pairs.length pc, .slice sa x.seps.length sc, .slice ka x.kids.length kc], .agg #[.slice qa y.pairs.length qc, .slice ta y.seps.length tc, .slice la y.kids.length lc]] w (Rets (.bool true) w) := by
  have := refSame_any pa sa ka qa ta la pc sc kc qc tc lc x y w hx hy ox oy
  rwa [decide_eq_true h] at this

set_option maxHeartbeats 1000000 in set_option maxRecDepth 100000 in
theorem kept_any (gp gs gk pc sc kc : Nat) (lo : Nat) (qa ta la : Option Addr) (qc tc lc : Nat) (n : Nd) (w : World) (hx : Own3 w lo (some ⟨gp, 0, none⟩) (some ⟨gs, 0, none⟩) (some ⟨gk, 0, none⟩) pc sc kc n.mk1) (hy : NdAt w qa ta la n) (ho : NdOk n) (hf : NdFew n) :
    Calls Try.prog 25 #[.agg #[.slice (some ⟨gp, 0, none⟩) n.pairs.length pc, .slice (some ⟨gs, 0, none⟩) n.seps.length sc, .slice (some ⟨gk, 0, none⟩) n.kids.length kc], .agg #[.slice qa n.pairs.length qc, .slice ta n.seps.length tc, .slice la n.kids.length lc]] w
      (Rets (.bool true) w) := by
  obtain ⟨hn, c1, c2, c3, ⟨g1, g2, g3⟩, k1, k2, k3⟩ := hx.lent
  have fp := hf.np; have fs := hf.ns; have fk := hf.nk
  have HN := Lib.hid hn; have HY := Lib.hid hy; have HO := Lib.hid ho
  clear hn hy ho hf hx
  have e1 : IntKind.i64.wrap ((n.pairs.length : Int) + 1) = n.pairs.length + 1 := IntWalk.i64_in _ (by omega)
  have e2 : IntKind.i64.wrap ((n.seps.length : Int) + 1) = n.seps.length + 1 := IntWalk.i64_in _ (by omega)
  have e3 : IntKind.i64.wrap ((n.kids.length : Int) + 1) = n.kids.length + 1 := IntWalk.i64_in _ (by omega)
  have i1 : (n.pairs.length : Int) + 1 ≤ (pc : Int) := by omega
  have i2 : (n.seps.length : Int) + 1 ≤ (sc : Int) := by omega
  have i3 : (n.kids.length : Int) + 1 ≤ (kc : Int) := by omega
  have j1 : (0 : Int) ≤ (n.pairs.length : Int) + 1 := by omega
  have j2 : (0 : Int) ≤ (n.seps.length : Int) + 1 := by omega
  have j3 : (0 : Int) ≤ (n.kids.length : Int) + 1 := by omega
  go_enter Try.func25, Try.ntmps25
  go_wp2_with fail
  refine wp_region_ext (by kernel_rfl) (by kernel_rfl) ?_
  repeat (go_big_quiet_step (fail))
  (refine wpQuiet_nil ?_; intro _ hw'; obtain ⟨⟨bsq, nq⟩, hw''⟩ := hw'; subst hw'')
  clear e1 e2 e3 i1 i2 i3 j1 j2 j3
  go_wp2_with fail
  refine (refSame_true _ _ _ _ _ _ _ _ _ _ _ _ n n _ (HN.out.kp0 ((Kp.refl [] _).alloc _ |>.alloc _ |>.ext _ _)) (HY.out.kp0 ((Kp.refl [] _).alloc _ |>.alloc _ |>.ext _ _)) HO.out HO.out rfl).mono ?_
  rintro e w' ⟨rfl, bs, m, rfl⟩
  go_wp2_with fail
  go_ret
  exact ⟨rfl, by (try simp only [alloc_ext, drew_ext, drewN_ext, ext_ext]); exact ⟨_, _, rfl⟩⟩

end Go.Proofs.Ytemicgccgcmmbaa
