/- Is a node well shaped? -/
import Derived.Test.YtemicgccgcmmbaaRises
import Derived.Test.YtemicgccgcmmbaaIdx
namespace Go.Proofs.Ytemicgccgcmmbaa
set_option linter.unusedVariables false
set_option linter.unusedSimpArgs false
open Go Go.RowKit

theorem Rets.ext {v : Value} {w : World} {bs : List Obj} {n : Nat} {e : Ending} {w' : World} (h : Rets v (Proofs.Ytemicgccgcmmbaa.ext w bs n) e w') : Rets v w e w' := by
  obtain ⟨rfl, cs, m, rfl⟩ := h
  exact ⟨rfl, _, _, ext_ext _ _ _ _ _⟩

set_option maxHeartbeats 1000000 in set_option maxRecDepth 100000 in
theorem long_any (fb P : Nat) (wd : Int) (x : Pr) (w : World) (hP : P ≤ 8192) (hx : x.2.length ≤ 140737488351232) (hb : fb < w.heap.size) (c0 : w.cell? ⟨fb, 0, none⟩ = some (.int .i64 P)) (c1 : w.cell? ⟨fb, 1, none⟩ = some (.int .i64 wd)) :
    Calls Try.prog 34 #[.agg #[.string ⟨x.1.toArray⟩, .string ⟨x.2.toArray⟩], .pointer (some ⟨fb, 0, none⟩)] w (Rets (.bool (decide (P / 8 < x.2.length))) w) := by
  have hd : (P : Int) / 8 = ((P / 8 : Nat) : Int) := by omega
  have HD := Lib.hid hd; clear hd
  go_enter Try.func34, Try.ntmps34
  go_wp2
  refine wp_region_ext (by kernel_rfl) (by kernel_rfl) ?_
  repeat (go_big_quiet_step ((go_at_call 9; exact Calls.quiet_ext (maxVal_any _ _ _ (by omega) (by omega)))))
  (refine wpQuiet_nil ?_; intro _ hw'; obtain ⟨⟨bsq, nq⟩, hw''⟩ := hw'; subst hw'')
  go_wp2
  go_ret
  exact ⟨ret_bool (by rw [HD.out]; rw [Bool.eq_iff_iff]; simp; omega), (by (try simp only [alloc_ext, drew_ext, drewN_ext, ext_ext]); exact ⟨_, _, rfl⟩)⟩

set_option maxHeartbeats 1000000 in set_option maxRecDepth 100000 in
theorem wideK_any (fb P : Nat) (wd : Int) (x : Kd) (w : World) (hb : fb < w.heap.size) (c0 : w.cell? ⟨fb, 0, none⟩ = some (.int .i64 P)) (c1 : w.cell? ⟨fb, 1, none⟩ = some (.int .i64 wd)) :
    Calls Try.prog 38 #[.agg x.c, .pointer (some ⟨fb, 0, none⟩)] w (Rets (.bool (!fitB wd x.sum)) w) := by
  go_enter Try.func38, Try.ntmps38
  go_wp2_with (go_at_call 39; refine (fits_any _ _ _).mono ?_; rintro e w' ⟨rfl, bs, nn, rfl⟩)
  go_ret
  exact ⟨rfl, by (try simp only [alloc_ext, drew_ext, drewN_ext, ext_ext]); exact ⟨_, _, rfl⟩⟩

def leafB (n : Nd) : Bool := decide (n.seps.length = 0 ∧ n.kids.length = 0)
def shapedB (P : Nat) (wd : Int) (n : Nd) : Bool :=
  if leafB n = true then risesFrom (P / 16) none (n.pairs.map fun x => x.1) && !(n.pairs.any fun x => decide (P / 8 < x.2.length))
  else decide (n.pairs.length = 0) && decide (2 ≤ n.kids.length) && decide (n.seps.length + 1 = n.kids.length) && !(n.kids.any fun k => !fitB wd k.sum) && risesFrom (P / 16) none n.seps
/-- What Check answers. -/
def checkE (p wd : Int) (n : Nd) : Int := if rightB p wd = true then (if shapedB p.toNat wd n = true then 0 else 70) else 2

theorem long_enter (args : Array Value) (w : World) : (callFunc 34 args).run Try.prog w = .ok (.enter 34 args) w := by kernel_rfl
theorem wide_enter (args : Array Value) (w : World) : (callFunc 38 args).run Try.prog w = .ok (.enter 38 args) w := by kernel_rfl

set_option maxHeartbeats 1000000 in set_option maxRecDepth 100000 in
theorem check_arg (p wd : Int) (pa sa ka : Option Addr) (pc sc kc : Nat) (n : Nd) (w : World) (hr : rightB p wd = false) :
    Calls Try.prog 20 #[.agg #[.int .i64 p, .int .i64 wd], .agg #[.slice pa n.pairs.length pc, .slice sa n.seps.length sc, .slice ka n.kids.length kc]] w (Rets (.int .i64 2) w) := by
  have HR := Lib.hid hr; clear hr
  go_enter Try.func20, Try.ntmps20
  go_wp2_with fail
  refine (right_any _ _ _).mono ?_
  rintro e w' ⟨rfl, bs, m, rfl⟩
  rw [HR.out]
  go_wp2_with fail
  go_ret
  exact ⟨rfl, by (try simp only [alloc_ext, drew_ext, drewN_ext, ext_ext]); exact ⟨_, _, rfl⟩⟩

set_option maxHeartbeats 1000000 in set_option maxRecDepth 100000 in
theorem check_leaf (P : Nat) (wd : Int) (pa sa ka : Option Addr) (pc sc kc : Nat) (n : Nd) (w : World) (hr : rightB P wd = true) (hl : leafB n = true) (h : NdAt w pa sa ka n) (ho : NdOk n) :
    Calls Try.prog 20 #[.agg #[.int .i64 P, .int .i64 wd], .agg #[.slice pa n.pairs.length pc, .slice sa n.seps.length sc, .slice ka n.kids.length kc]] w (Rets (.int .i64 (checkE P wd n)) w) := by
  have hP : P ≤ 8192 := by have := rightB_iff.1 hr; omega
  have hs : checkE P wd n = if (risesFrom (P / 16) none (n.pairs.map fun x => x.1) && !(n.pairs.any fun x => decide (P / 8 < x.2.length))) = true then 0 else 70 := by
    simp only [checkE, hr, if_true, shapedB, hl, Int.toNat_natCast]
  have hl' : (decide (n.seps.length = 0 ∧ n.kids.length = 0)) = true := hl
  have HR := Lib.hid hr; clear hr
  have HS := Lib.hid hs; clear hs
  have HL := Lib.hid hl'; clear hl hl'
  have hnp := ho.np
  have H := Lib.hid h; have HO := Lib.hid ho; clear h ho
  rcases h1 : risesFrom (P / 16) none (n.pairs.map fun x => x.1) with _ | _
  · have H1 := Lib.hid h1; clear h1
    have hf : Hid (checkE P wd n = 70) := by show _ = _; rw [HS.out, H1.out]; rfl
    go_enter Try.func20, Try.ntmps20
    go_wp2_with fail
    refine (right_any _ _ _).mono ?_
    rintro e w' ⟨rfl, bs, m, rfl⟩
    rw [HR.out]
    go_wp2_with fail
    refine (isLeaf_any _ _ _ _ _ _ _ _ _ _).mono ?_
    rintro e w' ⟨rfl, bs1, m1, rfl⟩
    rw [HL.out]
    go_wp2_with fail
    refine (rises_pair P wd _ _ _ _ hP (by omega) (fun x hx => (HO.out.sp x hx).1) (H.out.ps.kp (((((Kp.refl [] _).alloc _).alloc _).ext _ _)) (by simp))).mono ?_
    rintro e w' ⟨rfl, bs2, m2, rfl⟩
    rw [H1.out]
    go_wp2_with fail
    go_ret
    rw [hf.out]
    exact ⟨rfl, by (try simp only [alloc_ext, drew_ext, drewN_ext, ext_ext]); exact ⟨_, _, rfl⟩⟩
  · have H1 := Lib.hid h1; clear h1
    obtain ⟨m0, hm0⟩ : ∃ m0, n.pairs.any (fun x => decide (P / 8 < x.2.length)) = m0 := ⟨_, rfl⟩
    have hf : Hid (checkE P wd n = if m0 = true then 70 else 0) := by show _ = _; rw [HS.out, H1.out, hm0]; cases m0 <;> rfl
    have HM := Lib.hid hm0; clear hm0
    go_enter Try.func20, Try.ntmps20
    go_wp2_with fail
    refine (right_any _ _ _).mono ?_
    rintro e w' ⟨rfl, bs, m, rfl⟩
    rw [HR.out]
    go_wp2_with fail
    refine (isLeaf_any _ _ _ _ _ _ _ _ _ _).mono ?_
    rintro e w' ⟨rfl, bs1, m1, rfl⟩
    rw [HL.out]
    go_wp2_with fail
    refine (rises_pair P wd _ _ _ _ hP (by omega) (fun x hx => (HO.out.sp x hx).1) (H.out.ps.kp (((((Kp.refl [] _).alloc _).alloc _).ext _ _)) (by simp))).mono ?_
    rintro e w' ⟨rfl, bs2, m2, rfl⟩
    rw [H1.out]
    go_wp2_with fail
    refine (ctf_pair 34 #[.pointer (some ⟨w.heap.size, 0, none⟩)] (fun x => decide (P / 8 < x.2.length)) _ _ _ _ (by omega) (H.out.ps.kp (((((Kp.refl [] _).alloc _).alloc _).ext _ _)) (by simp)) long_enter ?_).mono ?_
    · intro x hx bs3 m3
      refine long_any _ P wd x _ hP (HO.out.sp x hx).2 (by simp; omega) ?_ ?_
      · simp [go_sem]
      · simp [go_sem]
    · rintro e w' ⟨rfl, bs4, m4, rfl⟩
      rw [HM.out]
      cases m0
      · go_wp2_with fail
        go_ret
        rw [hf.out]
        exact ⟨rfl, by (try simp only [alloc_ext, drew_ext, drewN_ext, ext_ext]); exact ⟨_, _, rfl⟩⟩
      · go_wp2_with fail
        go_ret
        rw [hf.out]
        exact ⟨rfl, by (try simp only [alloc_ext, drew_ext, drewN_ext, ext_ext]); exact ⟨_, _, rfl⟩⟩

set_option maxHeartbeats 1000000 in set_option maxRecDepth 100000 in
theorem check_branch (P : Nat) (wd : Int) (pa sa ka : Option Addr) (pc sc kc : Nat) (n : Nd) (w : World) (hr : rightB P wd = true) (hl : leafB n = false) (h : NdAt w pa sa ka n) (ho : NdOk n) :
    Calls Try.prog 20 #[.agg #[.int .i64 P, .int .i64 wd], .agg #[.slice pa n.pairs.length pc, .slice sa n.seps.length sc, .slice ka n.kids.length kc]] w (Rets (.int .i64 (checkE P wd n)) w) := by
  have hP : P ≤ 8192 := by have := rightB_iff.1 hr; omega
  have hs : checkE P wd n = if (decide (n.pairs.length = 0) && decide (2 ≤ n.kids.length) && decide (n.seps.length + 1 = n.kids.length) && !(n.kids.any fun k => !fitB wd k.sum) && risesFrom (P / 16) none n.seps) = true then 0 else 70 := by
    simp only [checkE, hr, if_true, shapedB, hl, Int.toNat_natCast, Bool.false_eq_true, if_false]
  have hl' : (decide (n.seps.length = 0 ∧ n.kids.length = 0)) = false := hl
  have HR := Lib.hid hr; clear hr
  have HS := Lib.hid hs; clear hs
  have HL := Lib.hid hl'; clear hl hl'
  have hnp := ho.np
  have hns := ho.ns
  have hnk := ho.nk
  have H := Lib.hid h; have HO := Lib.hid ho; clear h ho
  by_cases h1 : 0 < n.pairs.length
  · have hf : Hid (checkE P wd n = 70) := by show _ = _; rw [HS.out, show decide (n.pairs.length = 0) = false from decide_eq_false (by omega)]; rfl
    go_enter Try.func20, Try.ntmps20
    go_wp2_with fail
    refine (right_any _ _ _).mono ?_
    rintro e w' ⟨rfl, bs, m, rfl⟩
    rw [HR.out]
    go_wp2_with fail
    refine (isLeaf_any _ _ _ _ _ _ _ _ _ _).mono ?_
    rintro e w' ⟨rfl, bs1, m1, rfl⟩
    rw [HL.out]
    go_wp2_with fail
    go_ret
    rw [hf.out]
    exact ⟨rfl, by (try simp only [alloc_ext, drew_ext, drewN_ext, ext_ext]); exact ⟨_, _, rfl⟩⟩
  by_cases h2 : n.kids.length < 2
  · have hf : Hid (checkE P wd n = 70) := by show _ = _; rw [HS.out, show decide (2 ≤ n.kids.length) = false from decide_eq_false (by omega)]; simp
    go_enter Try.func20, Try.ntmps20
    go_wp2_with fail
    refine (right_any _ _ _).mono ?_
    rintro e w' ⟨rfl, bs, m, rfl⟩
    rw [HR.out]
    go_wp2_with fail
    refine (isLeaf_any _ _ _ _ _ _ _ _ _ _).mono ?_
    rintro e w' ⟨rfl, bs1, m1, rfl⟩
    rw [HL.out]
    go_wp2_with fail
    go_ret
    rw [hf.out]
    exact ⟨rfl, by (try simp only [alloc_ext, drew_ext, drewN_ext, ext_ext]); exact ⟨_, _, rfl⟩⟩
  by_cases h3 : n.seps.length + 1 = n.kids.length
  case neg =>
    have hf : Hid (checkE P wd n = 70) := by show _ = _; rw [HS.out, show decide (n.seps.length + 1 = n.kids.length) = false from decide_eq_false h3]; simp
    have hb : ((n.seps.length : Int) != (n.kids.length : Int) - 1) = true := by simp only [bne_iff_ne, ne_eq]; omega
    have H3 := Lib.hid h3; clear h3
    go_enter Try.func20, Try.ntmps20
    go_wp2_with fail
    refine (right_any _ _ _).mono ?_
    rintro e w' ⟨rfl, bs, m, rfl⟩
    rw [HR.out]
    go_wp2_with fail
    refine (isLeaf_any _ _ _ _ _ _ _ _ _ _).mono ?_
    rintro e w' ⟨rfl, bs1, m1, rfl⟩
    rw [HL.out]
    go_wp2_with fail
    go_ret
    rw [hf.out]
    exact ⟨rfl, by (try simp only [alloc_ext, drew_ext, drewN_ext, ext_ext]); exact ⟨_, _, rfl⟩⟩
  have hb : ((n.seps.length : Int) != (n.kids.length : Int) - 1) = false := by simp only [bne_eq_false_iff_eq]; omega
  have hs2 : checkE P wd n = if (!(n.kids.any fun k => !fitB wd k.sum) && risesFrom (P / 16) none n.seps) = true then 0 else 70 := by
    rw [HS.out, decide_eq_true (show n.pairs.length = 0 by omega), decide_eq_true (show 2 ≤ n.kids.length by omega), decide_eq_true h3]; rfl
  have HS2 := Lib.hid hs2; clear hs2
  have H3 := Lib.hid h3; clear h3
  obtain ⟨m0, hm0⟩ : ∃ m0, n.kids.any (fun k => !fitB wd k.sum) = m0 := ⟨_, rfl⟩
  rcases m0 with _ | _
  case true =>
    have hf : Hid (checkE P wd n = 70) := by show _ = _; rw [HS2.out, hm0]; rfl
    have HM := Lib.hid hm0; clear hm0
    go_enter Try.func20, Try.ntmps20
    go_wp2_with fail
    refine (right_any _ _ _).mono ?_
    rintro e w' ⟨rfl, bs, m, rfl⟩
    rw [HR.out]
    go_wp2_with fail
    refine (isLeaf_any _ _ _ _ _ _ _ _ _ _).mono ?_
    rintro e w' ⟨rfl, bs1, m1, rfl⟩
    rw [HL.out]
    go_wp2_with fail
    refine (ctf_kid 38 #[.pointer (some ⟨w.heap.size, 0, none⟩)] (fun k => !fitB wd k.sum) _ _ _ _ (by omega) (H.out.ks.kp (((((Kp.refl [] _).alloc _).alloc _).ext _ _)) (by simp)) wide_enter ?_).mono ?_
    · intro x hx bs3 m3
      refine wideK_any _ P wd x _ (by simp; omega) ?_ ?_
      · simp [go_sem]
      · simp [go_sem]
    · rintro e w' ⟨rfl, bs4, m4, rfl⟩
      rw [HM.out]
      go_wp2_with fail
      go_ret
      rw [hf.out]
      exact ⟨rfl, by (try simp only [alloc_ext, drew_ext, drewN_ext, ext_ext]); exact ⟨_, _, rfl⟩⟩
  case false =>
    obtain ⟨m1', hm1⟩ : ∃ m1', risesFrom (P / 16) none n.seps = m1' := ⟨_, rfl⟩
    have hf : Hid (checkE P wd n = if m1' = true then 0 else 70) := by show _ = _; rw [HS2.out, hm0, hm1]; cases m1' <;> rfl
    have HM := Lib.hid hm0; clear hm0
    have HM1 := Lib.hid hm1; clear hm1
    go_enter Try.func20, Try.ntmps20
    go_wp2_with fail
    refine (right_any _ _ _).mono ?_
    rintro e w' ⟨rfl, bs, m, rfl⟩
    rw [HR.out]
    go_wp2_with fail
    refine (isLeaf_any _ _ _ _ _ _ _ _ _ _).mono ?_
    rintro e w' ⟨rfl, bs1, m1, rfl⟩
    rw [HL.out]
    go_wp2_with fail
    refine (ctf_kid 38 #[.pointer (some ⟨w.heap.size, 0, none⟩)] (fun k => !fitB wd k.sum) _ _ _ _ (by omega) (H.out.ks.kp (((((Kp.refl [] _).alloc _).alloc _).ext _ _)) (by simp)) wide_enter ?_).mono ?_
    · intro x hx bs3 m3
      refine wideK_any _ P wd x _ (by simp; omega) ?_ ?_
      · simp [go_sem]
      · simp [go_sem]
    · rintro e w' ⟨rfl, bs4, m4, rfl⟩
      rw [HM.out]
      go_wp2_with fail
      refine (rises_sep P wd _ _ _ _ hP (by omega) (fun x hx => HO.out.ss x hx) (H.out.ss.kp (((((Kp.refl [] _).alloc _).alloc _).ext _ _)) (by simp))).mono ?_
      rintro e w' ⟨rfl, bs2, m2, rfl⟩
      rw [HM1.out]
      cases m1'
      · go_wp2_with fail
        go_ret
        rw [hf.out]
        exact ⟨rfl, by (try simp only [alloc_ext, drew_ext, drewN_ext, ext_ext]); exact ⟨_, _, rfl⟩⟩
      · go_wp2_with fail
        go_ret
        rw [hf.out]
        exact ⟨rfl, by (try simp only [alloc_ext, drew_ext, drewN_ext, ext_ext]); exact ⟨_, _, rfl⟩⟩

theorem check_any (p wd : Int) (pa sa ka : Option Addr) (pc sc kc : Nat) (n : Nd) (w : World) (h : NdAt w pa sa ka n) (ho : NdOk n) :
    Calls Try.prog 20 #[.agg #[.int .i64 p, .int .i64 wd], .agg #[.slice pa n.pairs.length pc, .slice sa n.seps.length sc, .slice ka n.kids.length kc]] w (Rets (.int .i64 (checkE p wd n)) w) := by
  cases hr : rightB p wd
  · have : checkE p wd n = 2 := by simp [checkE, hr]
    rw [this]
    exact check_arg p wd pa sa ka pc sc kc n w hr
  · obtain ⟨P, rfl⟩ := Int.eq_ofNat_of_zero_le (show 0 ≤ p by have := rightB_iff.1 hr; omega)
    cases hl : leafB n
    · exact check_branch P wd pa sa ka pc sc kc n w hr hl h ho
    · exact check_leaf P wd pa sa ka pc sc kc n w hr hl h ho

end Go.Proofs.Ytemicgccgcmmbaa
