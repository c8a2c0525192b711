/- A list is searched by a function. -/
import Derived.Test.YtemicgccgcmmbaaGreatZ1
import Derived.Test.YtemicgccgcmmbaaGreatZ4
import Derived.Test.YtemicgccgcmmbaaGreatZ0
namespace Go.Proofs.YtemicgccgcmmbaaGreat
set_option linter.unusedVariables false
set_option linter.unusedSimpArgs false
open Go Go.RowKit

/-- The first place at which a thing is found; -1: none. -/
def ixOf {α : Type} (pred : α → Bool) (l : List α) : Int := match l.findIdx? pred with | some i => (i : Int) | none => -1
theorem ixOf_yes {α : Type} {pred : α → Bool} {l : List α} {k : Nat} {x : α} (h : ∀ y ∈ l.take k, pred y = false) (hx : l[k]? = some x) (hp : pred x = true) : ixOf pred l = k := by
  have : l.findIdx? pred = some k := by
    rw [List.findIdx?_eq_some_iff_getElem]
    obtain ⟨hk, rfl⟩ := List.getElem?_eq_some_iff.1 hx
    refine ⟨hk, hp, fun j hj => ?_⟩
    have := h (l[j]'(by omega)) (by rw [List.mem_take_iff_getElem]; exact ⟨j, by omega, rfl⟩)
    simpa using this
  simp [ixOf, this]
theorem ixOf_no {α : Type} {pred : α → Bool} {l : List α} (h : ∀ y ∈ l, pred y = false) : ixOf pred l = -1 := by
  have : l.findIdx? pred = none := by
    rw [List.findIdx?_eq_none_iff]; exact h
  simp [ixOf, this]
theorem ixOf_any {α : Type} (pred : α → Bool) (l : List α) : decide (0 ≤ ixOf pred l) = l.any pred := by
  unfold ixOf
  cases h : l.findIdx? pred with
  | none =>
    rw [List.findIdx?_eq_none_iff] at h
    have : l.any pred = false := by simpa using h
    rw [this]; rfl
  | some i =>
    rw [List.findIdx?_eq_some_iff_getElem] at h
    obtain ⟨hi, hp, _⟩ := h
    have : l.any pred = true := by rw [List.any_eq_true]; exact ⟨_, List.getElem_mem hi, hp⟩
    rw [this]; simp

set_option maxHeartbeats 1000000 in set_option maxRecDepth 100000 in
theorem ixf_pair (fid : FuncId) (cap : Array Value) (pred : Pr → Bool) (a : Option Addr) (c : Nat) (l : List Pr) (w : World) (hl : l.length ≤ 8796093022208) (h : PsAt w a l) (hfn : ∀ args w, (callFunc fid args).run Tryz.prog w = .ok (.enter fid args) w)
    (hf : ∀ x ∈ l, ∀ bs n, Calls Tryz.prog fid (#[.agg #[.string ⟨x.1.toArray⟩, .string ⟨x.2.toArray⟩]] ++ cap) (ext w bs n) (Rets (.bool (pred x)) (ext w bs n))) :
    Calls Tryz.prog 100 #[.slice a l.length c, .func (.func fid) #[] cap] w (Rets (.int .i64 (ixOf pred l)) w) := by
  have H := Lib.hid h; clear h
  have HF := Lib.hid hf; clear hf
  go_enter Tryz.func100, Tryz.ntmps100
  go_wp2
  go_loopw [5, 8] (fun _ i wr => ∃ k bs n, i = .int .i64 (k : Nat) ∧ k ≤ l.length ∧ wr = ext w bs n ∧ Hid (∀ x ∈ l.take k, pred x = false)) (fun _ i _ => l.length - (intOf i).toNat)
  case atStart => exact ⟨0, [], 0, rfl, Nat.zero_le _, ext_zero _, by simp [Hid]⟩
  case round =>
    obtain ⟨k, bs, n, rfl, hk, rfl, HE⟩ := hrel
    by_cases hlt : k < l.length
    · obtain ⟨x, hx⟩ : ∃ x, l[k]? = some x := ⟨_, List.getElem?_eq_getElem hlt⟩
      obtain ⟨b, o, rfl, hb, cf1, cf2⟩ := H.out k x hx
      have HX := Lib.hid hx; clear hx
      have hcall := HF.out x (List.mem_of_getElem? HX.out)
      have HC := Lib.hid hcall; clear hcall
      rcases hp : pred x with _ | _
      · have HP := Lib.hid hp; clear hp
        go_wp2_with fail
        refine (HC.out _ _).mono ?_
        rintro e w' ⟨rfl, bs2, n2, rfl⟩
        rw [HP.out]
        go_wp2_with fail
        go_roundw
        case rel => exact ⟨k + 1, _, _, by go_num, by omega, by (try simp only [ext_alloc, ext_drew, ext_drewN, ext_ext]); rfl, by
          intro y hy
          rw [List.take_add_one, HX.out] at hy
          simp at hy
          rcases hy with hy | rfl
          · exact HE.out y hy
          · exact HP.out⟩
        case measure => simp [intOf]; omega
      · have HP := Lib.hid hp; clear hp
        go_wp2_with fail
        refine (HC.out _ _).mono ?_
        rintro e w' ⟨rfl, bs2, n2, rfl⟩
        rw [HP.out]
        go_wp2_with fail
        go_ret
        exact ⟨ret_int (ixOf_yes HE.out HX.out HP.out).symm, (by (try simp only [alloc_ext, drew_ext, drewN_ext, ext_ext]); exact ⟨_, _, rfl⟩)⟩
    · go_wp2
      go_ret
      exact ⟨ret_int (ixOf_no (fun x hx => HE.out x (by rwa [List.take_of_length_le (by omega)]))).symm, (by (try simp only [alloc_ext, drew_ext, drewN_ext, ext_ext]); exact ⟨_, _, rfl⟩)⟩

set_option maxHeartbeats 1000000 in set_option maxRecDepth 100000 in
theorem ctf_pair (fid : FuncId) (cap : Array Value) (pred : Pr → Bool) (a : Option Addr) (c : Nat) (l : List Pr) (w : World) (hl : l.length ≤ 8796093022208) (h : PsAt w a l) (hfn : ∀ args w, (callFunc fid args).run Tryz.prog w = .ok (.enter fid args) w)
    (hf : ∀ x ∈ l, ∀ bs n, Calls Tryz.prog fid (#[.agg #[.string ⟨x.1.toArray⟩, .string ⟨x.2.toArray⟩]] ++ cap) (ext w bs n) (Rets (.bool (pred x)) (ext w bs n))) :
    Calls Tryz.prog 54 #[.slice a l.length c, .func (.func fid) #[] cap] w (Rets (.bool (l.any pred)) w) := by
  have H := Lib.hid h; clear h
  have HF := Lib.hid hf; clear hf
  have HFN := Lib.hid hfn; clear hfn
  have hx := ixOf_any pred l
  have HX := Lib.hid hx; clear hx
  go_enter Tryz.func54, Tryz.ntmps54
  go_wp2_with fail
  refine (ixf_pair fid cap pred _ _ _ _ hl H.out HFN.out HF.out).mono ?_
  rintro e w' ⟨rfl, bs, n, rfl⟩
  go_wp2_with fail
  go_ret
  exact ⟨ret_bool HX.out, (by (try simp only [alloc_ext, drew_ext, drewN_ext, ext_ext]); exact ⟨_, _, rfl⟩)⟩

set_option maxHeartbeats 1000000 in set_option maxRecDepth 100000 in
theorem ixf_kid (fid : FuncId) (cap : Array Value) (pred : Kd → Bool) (a : Option Addr) (c : Nat) (l : List Kd) (w : World) (hl : l.length ≤ 8796093022208) (h : KsAt w a l) (hfn : ∀ args w, (callFunc fid args).run Tryz.prog w = .ok (.enter fid args) w)
    (hf : ∀ x ∈ l, ∀ bs n, Calls Tryz.prog fid (#[.agg x.c] ++ cap) (ext w bs n) (Rets (.bool (pred x)) (ext w bs n))) :
    Calls Tryz.prog 102 #[.slice a l.length c, .func (.func fid) #[] cap] w (Rets (.int .i64 (ixOf pred l)) w) := by
  have H := Lib.hid h; clear h
  have HF := Lib.hid hf; clear hf
  go_enter Tryz.func102, Tryz.ntmps102
  go_wp2
  go_loopw [5, 8] (fun _ i wr => ∃ k bs n, i = .int .i64 (k : Nat) ∧ k ≤ l.length ∧ wr = ext w bs n ∧ Hid (∀ x ∈ l.take k, pred x = false)) (fun _ i _ => l.length - (intOf i).toNat)
  case atStart => exact ⟨0, [], 0, rfl, Nat.zero_le _, ext_zero _, by simp [Hid]⟩
  case round =>
    obtain ⟨k, bs, n, rfl, hk, rfl, HE⟩ := hrel
    by_cases hlt : k < l.length
    · obtain ⟨x, hx⟩ : ∃ x, l[k]? = some x := ⟨_, List.getElem?_eq_getElem hlt⟩
      obtain ⟨b, o, rfl, hb, cf1⟩ := H.out k x hx
      have HX := Lib.hid hx; clear hx
      have hcall := HF.out x (List.mem_of_getElem? HX.out)
      have HC := Lib.hid hcall; clear hcall
      rcases hp : pred x with _ | _
      · have HP := Lib.hid hp; clear hp
        go_wp2_with fail
        refine (HC.out _ _).mono ?_
        rintro e w' ⟨rfl, bs2, n2, rfl⟩
        rw [HP.out]
        go_wp2_with fail
        go_roundw
        case rel => exact ⟨k + 1, _, _, by go_num, by omega, by (try simp only [ext_alloc, ext_drew, ext_drewN, ext_ext]); rfl, by
          intro y hy
          rw [List.take_add_one, HX.out] at hy
          simp at hy
          rcases hy with hy | rfl
          · exact HE.out y hy
          · exact HP.out⟩
        case measure => simp [intOf]; omega
      · have HP := Lib.hid hp; clear hp
        go_wp2_with fail
        refine (HC.out _ _).mono ?_
        rintro e w' ⟨rfl, bs2, n2, rfl⟩
        rw [HP.out]
        go_wp2_with fail
        go_ret
        exact ⟨ret_int (ixOf_yes HE.out HX.out HP.out).symm, (by (try simp only [alloc_ext, drew_ext, drewN_ext, ext_ext]); exact ⟨_, _, rfl⟩)⟩
    · go_wp2
      go_ret
      exact ⟨ret_int (ixOf_no (fun x hx => HE.out x (by rwa [List.take_of_length_le (by omega)]))).symm, (by (try simp only [alloc_ext, drew_ext, drewN_ext, ext_ext]); exact ⟨_, _, rfl⟩)⟩

set_option maxHeartbeats 1000000 in set_option maxRecDepth 100000 in
theorem ctf_kid (fid : FuncId) (cap : Array Value) (pred : Kd → Bool) (a : Option Addr) (c : Nat) (l : List Kd) (w : World) (hl : l.length ≤ 8796093022208) (h : KsAt w a l) (hfn : ∀ args w, (callFunc fid args).run Tryz.prog w = .ok (.enter fid args) w)
    (hf : ∀ x ∈ l, ∀ bs n, Calls Tryz.prog fid (#[.agg x.c] ++ cap) (ext w bs n) (Rets (.bool (pred x)) (ext w bs n))) :
    Calls Tryz.prog 57 #[.slice a l.length c, .func (.func fid) #[] cap] w (Rets (.bool (l.any pred)) w) := by
  have H := Lib.hid h; clear h
  have HF := Lib.hid hf; clear hf
  have HFN := Lib.hid hfn; clear hfn
  have hx := ixOf_any pred l
  have HX := Lib.hid hx; clear hx
  go_enter Tryz.func57, Tryz.ntmps57
  go_wp2_with fail
  refine (ixf_kid fid cap pred _ _ _ _ hl H.out HFN.out HF.out).mono ?_
  rintro e w' ⟨rfl, bs, n, rfl⟩
  go_wp2_with fail
  go_ret
  exact ⟨ret_bool HX.out, (by (try simp only [alloc_ext, drew_ext, drewN_ext, ext_ext]); exact ⟨_, _, rfl⟩)⟩

theorem enter_test (args : Array Value) (w : World) : (callFunc 50 args).run Tryz.prog w = .ok (.enter 50 args) w := by kernel_rfl

end Go.Proofs.YtemicgccgcmmbaaGreat

/- Is a node well shaped? -/
namespace Go.Proofs.YtemicgccgcmmbaaGreat
set_option linter.unusedVariables false
set_option linter.unusedSimpArgs false
open Go Go.RowKit

theorem Rets.ext {v : Value} {w : World} {bs : List Obj} {n : Nat} {e : Ending} {w' : World} (h : Rets v (Proofs.YtemicgccgcmmbaaGreat.ext w bs n) e w') : Rets v w e w' := by
  obtain ⟨rfl, cs, m, rfl⟩ := h
  exact ⟨rfl, _, _, ext_ext _ _ _ _ _⟩

set_option maxHeartbeats 1000000 in set_option maxRecDepth 100000 in
theorem long_any (fb P : Nat) (wd : Int) (x : Pr) (w : World) (hP : P ≤ 8192) (hx : x.2.length ≤ 140737488351232) (hb : fb < w.heap.size) (c0 : w.cell? ⟨fb, 0, none⟩ = some (.int .i64 P)) (c1 : w.cell? ⟨fb, 1, none⟩ = some (.int .i64 wd)) :
    Calls Tryz.prog 50 #[.agg #[.string ⟨x.1.toArray⟩, .string ⟨x.2.toArray⟩], .pointer (some ⟨fb, 0, none⟩)] w (Rets (.bool (decide (P / 8 < x.2.length))) w) := by
  have hd : (P : Int) / 8 = ((P / 8 : Nat) : Int) := by omega
  have HD := Lib.hid hd; clear hd
  go_enter Tryz.func50, Tryz.ntmps50
  go_wp2
  refine wp_region_ext (by kernel_rfl) (by kernel_rfl) ?_
  repeat (go_big_quiet_step ((go_at_call 51; exact Calls.quiet_ext (maxVal_any _ _ _ (by omega) (by omega)))))
  (refine wpQuiet_nil ?_; intro _ hw'; obtain ⟨⟨bsq, nq⟩, hw''⟩ := hw'; subst hw'')
  go_wp2
  go_ret
  exact ⟨ret_bool (by rw [HD.out]; rw [Bool.eq_iff_iff]; simp; omega), (by (try simp only [alloc_ext, drew_ext, drewN_ext, ext_ext]); exact ⟨_, _, rfl⟩)⟩

set_option maxHeartbeats 1000000 in set_option maxRecDepth 100000 in
theorem wideK_any (fb P : Nat) (wd : Int) (x : Kd) (w : World) (hb : fb < w.heap.size) (c0 : w.cell? ⟨fb, 0, none⟩ = some (.int .i64 P)) (c1 : w.cell? ⟨fb, 1, none⟩ = some (.int .i64 wd)) :
    Calls Tryz.prog 55 #[.agg x.c, .pointer (some ⟨fb, 0, none⟩)] w (Rets (.bool (!fitB wd x.sum)) w) := by
  go_enter Tryz.func55, Tryz.ntmps55
  go_wp2_with (go_at_call 56; refine (fits_any _ _ _).mono ?_; rintro e w' ⟨rfl, bs, nn, rfl⟩)
  go_ret
  exact ⟨rfl, by (try simp only [alloc_ext, drew_ext, drewN_ext, ext_ext]); exact ⟨_, _, rfl⟩⟩

def leafB (n : Nd) : Bool := decide (n.seps.length = 0 ∧ n.kids.length = 0)
def shapedB (P : Nat) (wd : Int) (n : Nd) : Bool :=
  if leafB n = true then risesFrom (P / 16) none (n.pairs.map fun x => x.1) && !(n.pairs.any fun x => decide (P / 8 < x.2.length))
  else decide (n.pairs.length = 0) && decide (2 ≤ n.kids.length) && decide (n.seps.length + 1 = n.kids.length) && !(n.kids.any fun k => !fitB wd k.sum) && risesFrom (P / 16) none n.seps
/-- What Check answers. -/
def checkE (p wd : Int) (n : Nd) : Int := if rightB p wd = true then (if shapedB p.toNat wd n = true then 0 else 70) else 2

theorem long_enter (args : Array Value) (w : World) : (callFunc 50 args).run Tryz.prog w = .ok (.enter 50 args) w := by kernel_rfl
theorem wide_enter (args : Array Value) (w : World) : (callFunc 55 args).run Tryz.prog w = .ok (.enter 55 args) w := by kernel_rfl

set_option maxHeartbeats 1000000 in set_option maxRecDepth 100000 in
theorem check_arg (p wd : Int) (pa sa ka : Option Addr) (pc sc kc : Nat) (n : Nd) (w : World) (hr : rightB p wd = false) :
    Calls Tryz.prog 31 #[.agg #[.int .i64 p, .int .i64 wd], .agg #[.slice pa n.pairs.length pc, .slice sa n.seps.length sc, .slice ka n.kids.length kc]] w (Rets (.int .i64 2) w) := by
  have HR := Lib.hid hr; clear hr
  go_enter Tryz.func31, Tryz.ntmps31
  go_wp2_with fail
  refine (right_any _ _ _).mono ?_
  rintro e w' ⟨rfl, bs, m, rfl⟩
  rw [HR.out]
  go_wp2_with fail
  go_ret
  exact ⟨rfl, by (try simp only [alloc_ext, drew_ext, drewN_ext, ext_ext]); exact ⟨_, _, rfl⟩⟩

set_option maxHeartbeats 1000000 in set_option maxRecDepth 100000 in
theorem check_leaf (P : Nat) (wd : Int) (pa sa ka : Option Addr) (pc sc kc : Nat) (n : Nd) (w : World) (hr : rightB P wd = true) (hl : leafB n = true) (h : NdAt w pa sa ka n) (ho : NdOk n) :
    Calls Tryz.prog 31 #[.agg #[.int .i64 P, .int .i64 wd], .agg #[.slice pa n.pairs.length pc, .slice sa n.seps.length sc, .slice ka n.kids.length kc]] w (Rets (.int .i64 (checkE P wd n)) w) := by
  have hP : P ≤ 8192 := by have := rightB_iff.1 hr; omega
  have hs : checkE P wd n = if (risesFrom (P / 16) none (n.pairs.map fun x => x.1) && !(n.pairs.any fun x => decide (P / 8 < x.2.length))) = true then 0 else 70 := by
    simp only [checkE, hr, if_true, shapedB, hl, Int.toNat_natCast]
  have hl' : (decide (n.seps.length = 0 ∧ n.kids.length = 0)) = true := hl
  have HR := Lib.hid hr; clear hr
  have HS := Lib.hid hs; clear hs
  have HL := Lib.hid hl'; clear hl hl'
  have hnp := ho.np
  have H := Lib.hid h; have HO := Lib.hid ho; clear h ho
  rcases h1 : risesFrom (P / 16) none (n.pairs.map fun x => x.1) with _ | _
  · have H1 := Lib.hid h1; clear h1
    have hf : Hid (checkE P wd n = 70) := by show _ = _; rw [HS.out, H1.out]; rfl
    go_enter Tryz.func31, Tryz.ntmps31
    go_wp2_with fail
    refine (right_any _ _ _).mono ?_
    rintro e w' ⟨rfl, bs, m, rfl⟩
    rw [HR.out]
    go_wp2_with fail
    refine (isLeaf_any _ _ _ _ _ _ _ _ _ _).mono ?_
    rintro e w' ⟨rfl, bs1, m1, rfl⟩
    rw [HL.out]
    go_wp2_with fail
    refine (rises_pair P wd _ _ _ _ hP (by omega) (fun x hx => (HO.out.sp x hx).1) (H.out.ps.kp (((((Kp.refl [] _).alloc _).alloc _).ext _ _)) (by simp))).mono ?_
    rintro e w' ⟨rfl, bs2, m2, rfl⟩
    rw [H1.out]
    go_wp2_with fail
    go_ret
    rw [hf.out]
    exact ⟨rfl, by (try simp only [alloc_ext, drew_ext, drewN_ext, ext_ext]); exact ⟨_, _, rfl⟩⟩
  · have H1 := Lib.hid h1; clear h1
    obtain ⟨m0, hm0⟩ : ∃ m0, n.pairs.any (fun x => decide (P / 8 < x.2.length)) = m0 := ⟨_, rfl⟩
    have hf : Hid (checkE P wd n = if m0 = true then 70 else 0) := by show _ = _; rw [HS.out, H1.out, hm0]; cases m0 <;> rfl
    have HM := Lib.hid hm0; clear hm0
    go_enter Tryz.func31, Tryz.ntmps31
    go_wp2_with fail
    refine (right_any _ _ _).mono ?_
    rintro e w' ⟨rfl, bs, m, rfl⟩
    rw [HR.out]
    go_wp2_with fail
    refine (isLeaf_any _ _ _ _ _ _ _ _ _ _).mono ?_
    rintro e w' ⟨rfl, bs1, m1, rfl⟩
    rw [HL.out]
    go_wp2_with fail
    refine (rises_pair P wd _ _ _ _ hP (by omega) (fun x hx => (HO.out.sp x hx).1) (H.out.ps.kp (((((Kp.refl [] _).alloc _).alloc _).ext _ _)) (by simp))).mono ?_
    rintro e w' ⟨rfl, bs2, m2, rfl⟩
    rw [H1.out]
    go_wp2_with fail
    refine (ctf_pair 50 #[.pointer (some ⟨w.heap.size, 0, none⟩)] (fun x => decide (P / 8 < x.2.length)) _ _ _ _ (by omega) (H.out.ps.kp (((((Kp.refl [] _).alloc _).alloc _).ext _ _)) (by simp)) long_enter ?_).mono ?_
    · intro x hx bs3 m3
      refine long_any _ P wd x _ hP (HO.out.sp x hx).2 (by simp; omega) ?_ ?_
      · simp [go_sem]
      · simp [go_sem]
    · rintro e w' ⟨rfl, bs4, m4, rfl⟩
      rw [HM.out]
      cases m0
      · go_wp2_with fail
        go_ret
        rw [hf.out]
        exact ⟨rfl, by (try simp only [alloc_ext, drew_ext, drewN_ext, ext_ext]); exact ⟨_, _, rfl⟩⟩
      · go_wp2_with fail
        go_ret
        rw [hf.out]
        exact ⟨rfl, by (try simp only [alloc_ext, drew_ext, drewN_ext, ext_ext]); exact ⟨_, _, rfl⟩⟩

set_option maxHeartbeats 1000000 in set_option maxRecDepth 100000 in
theorem check_branch (P : Nat) (wd : Int) (pa sa ka : Option Addr) (pc sc kc : Nat) (n : Nd) (w : World) (hr : rightB P wd = true) (hl : leafB n = false) (h : NdAt w pa sa ka n) (ho : NdOk n) :
    Calls Tryz.prog 31 #[.agg #[.int .i64 P, .int .i64 wd], .agg #[.slice pa n.pairs.length pc, .slice sa n.seps.length sc, .slice ka n.kids.length kc]] w (Rets (.int .i64 (checkE P wd n)) w) := by
  have hP : P ≤ 8192 := by have := rightB_iff.1 hr; omega
  have hs : checkE P wd n = if (decide (n.pairs.length = 0) && decide (2 ≤ n.kids.length) && decide (n.seps.length + 1 = n.kids.length) && !(n.kids.any fun k => !fitB wd k.sum) && risesFrom (P / 16) none n.seps) = true then 0 else 70 := by
    simp only [checkE, hr, if_true, shapedB, hl, Int.toNat_natCast, Bool.false_eq_true, if_false]
  have hl' : (decide (n.seps.length = 0 ∧ n.kids.length = 0)) = false := hl
  have HR := Lib.hid hr; clear hr
  have HS := Lib.hid hs; clear hs
  have HL := Lib.hid hl'; clear hl hl'
  have hnp := ho.np
  have hns := ho.ns
  have hnk := ho.nk
  have H := Lib.hid h; have HO := Lib.hid ho; clear h ho
  by_cases h1 : 0 < n.pairs.length
  · have hf : Hid (checkE P wd n = 70) := by show _ = _; rw [HS.out, show decide (n.pairs.length = 0) = false from decide_eq_false (by omega)]; rfl
    go_enter Tryz.func31, Tryz.ntmps31
    go_wp2_with fail
    refine (right_any _ _ _).mono ?_
    rintro e w' ⟨rfl, bs, m, rfl⟩
    rw [HR.out]
    go_wp2_with fail
    refine (isLeaf_any _ _ _ _ _ _ _ _ _ _).mono ?_
    rintro e w' ⟨rfl, bs1, m1, rfl⟩
    rw [HL.out]
    go_wp2_with fail
    go_ret
    rw [hf.out]
    exact ⟨rfl, by (try simp only [alloc_ext, drew_ext, drewN_ext, ext_ext]); exact ⟨_, _, rfl⟩⟩
  by_cases h2 : n.kids.length < 2
  · have hf : Hid (checkE P wd n = 70) := by show _ = _; rw [HS.out, show decide (2 ≤ n.kids.length) = false from decide_eq_false (by omega)]; simp
    go_enter Tryz.func31, Tryz.ntmps31
    go_wp2_with fail
    refine (right_any _ _ _).mono ?_
    rintro e w' ⟨rfl, bs, m, rfl⟩
    rw [HR.out]
    go_wp2_with fail
    refine (isLeaf_any _ _ _ _ _ _ _ _ _ _).mono ?_
    rintro e w' ⟨rfl, bs1, m1, rfl⟩
    rw [HL.out]
    go_wp2_with fail
    go_ret
    rw [hf.out]
    exact ⟨rfl, by (try simp only [alloc_ext, drew_ext, drewN_ext, ext_ext]); exact ⟨_, _, rfl⟩⟩
  by_cases h3 : n.seps.length + 1 = n.kids.length
  case neg =>
    have hf : Hid (checkE P wd n = 70) := by show _ = _; rw [HS.out, show decide (n.seps.length + 1 = n.kids.length) = false from decide_eq_false h3]; simp
    have hb : ((n.seps.length : Int) != (n.kids.length : Int) - 1) = true := by simp only [bne_iff_ne, ne_eq]; omega
    have H3 := Lib.hid h3; clear h3
    go_enter Tryz.func31, Tryz.ntmps31
    go_wp2_with fail
    refine (right_any _ _ _).mono ?_
    rintro e w' ⟨rfl, bs, m, rfl⟩
    rw [HR.out]
    go_wp2_with fail
    refine (isLeaf_any _ _ _ _ _ _ _ _ _ _).mono ?_
    rintro e w' ⟨rfl, bs1, m1, rfl⟩
    rw [HL.out]
    go_wp2_with fail
    go_ret
    rw [hf.out]
    exact ⟨rfl, by (try simp only [alloc_ext, drew_ext, drewN_ext, ext_ext]); exact ⟨_, _, rfl⟩⟩
  have hb : ((n.seps.length : Int) != (n.kids.length : Int) - 1) = false := by simp only [bne_eq_false_iff_eq]; omega
  have hs2 : checkE P wd n = if (!(n.kids.any fun k => !fitB wd k.sum) && risesFrom (P / 16) none n.seps) = true then 0 else 70 := by
    rw [HS.out, decide_eq_true (show n.pairs.length = 0 by omega), decide_eq_true (show 2 ≤ n.kids.length by omega), decide_eq_true h3]; rfl
  have HS2 := Lib.hid hs2; clear hs2
  have H3 := Lib.hid h3; clear h3
  obtain ⟨m0, hm0⟩ : ∃ m0, n.kids.any (fun k => !fitB wd k.sum) = m0 := ⟨_, rfl⟩
  rcases m0 with _ | _
  case true =>
    have hf : Hid (checkE P wd n = 70) := by show _ = _; rw [HS2.out, hm0]; rfl
    have HM := Lib.hid hm0; clear hm0
    go_enter Tryz.func31, Tryz.ntmps31
    go_wp2_with fail
    refine (right_any _ _ _).mono ?_
    rintro e w' ⟨rfl, bs, m, rfl⟩
    rw [HR.out]
    go_wp2_with fail
    refine (isLeaf_any _ _ _ _ _ _ _ _ _ _).mono ?_
    rintro e w' ⟨rfl, bs1, m1, rfl⟩
    rw [HL.out]
    go_wp2_with fail
    refine (ctf_kid 55 #[.pointer (some ⟨w.heap.size, 0, none⟩)] (fun k => !fitB wd k.sum) _ _ _ _ (by omega) (H.out.ks.kp (((((Kp.refl [] _).alloc _).alloc _).ext _ _)) (by simp)) wide_enter ?_).mono ?_
    · intro x hx bs3 m3
      refine wideK_any _ P wd x _ (by simp; omega) ?_ ?_
      · simp [go_sem]
      · simp [go_sem]
    · rintro e w' ⟨rfl, bs4, m4, rfl⟩
      rw [HM.out]
      go_wp2_with fail
      go_ret
      rw [hf.out]
      exact ⟨rfl, by (try simp only [alloc_ext, drew_ext, drewN_ext, ext_ext]); exact ⟨_, _, rfl⟩⟩
  case false =>
    obtain ⟨m1', hm1⟩ : ∃ m1', risesFrom (P / 16) none n.seps = m1' := ⟨_, rfl⟩
    have hf : Hid (checkE P wd n = if m1' = true then 0 else 70) := by show _ = _; rw [HS2.out, hm0, hm1]; cases m1' <;> rfl
    have HM := Lib.hid hm0; clear hm0
    have HM1 := Lib.hid hm1; clear hm1
    go_enter Tryz.func31, Tryz.ntmps31
    go_wp2_with fail
    refine (right_any _ _ _).mono ?_
    rintro e w' ⟨rfl, bs, m, rfl⟩
    rw [HR.out]
    go_wp2_with fail
    refine (isLeaf_any _ _ _ _ _ _ _ _ _ _).mono ?_
    rintro e w' ⟨rfl, bs1, m1, rfl⟩
    rw [HL.out]
    go_wp2_with fail
    refine (ctf_kid 55 #[.pointer (some ⟨w.heap.size, 0, none⟩)] (fun k => !fitB wd k.sum) _ _ _ _ (by omega) (H.out.ks.kp (((((Kp.refl [] _).alloc _).alloc _).ext _ _)) (by simp)) wide_enter ?_).mono ?_
    · intro x hx bs3 m3
      refine wideK_any _ P wd x _ (by simp; omega) ?_ ?_
      · simp [go_sem]
      · simp [go_sem]
    · rintro e w' ⟨rfl, bs4, m4, rfl⟩
      rw [HM.out]
      go_wp2_with fail
      refine (rises_sep P wd _ _ _ _ hP (by omega) (fun x hx => HO.out.ss x hx) (H.out.ss.kp (((((Kp.refl [] _).alloc _).alloc _).ext _ _)) (by simp))).mono ?_
      rintro e w' ⟨rfl, bs2, m2, rfl⟩
      rw [HM1.out]
      cases m1'
      · go_wp2_with fail
        go_ret
        rw [hf.out]
        exact ⟨rfl, by (try simp only [alloc_ext, drew_ext, drewN_ext, ext_ext]); exact ⟨_, _, rfl⟩⟩
      · go_wp2_with fail
        go_ret
        rw [hf.out]
        exact ⟨rfl, by (try simp only [alloc_ext, drew_ext, drewN_ext, ext_ext]); exact ⟨_, _, rfl⟩⟩

theorem check_any (p wd : Int) (pa sa ka : Option Addr) (pc sc kc : Nat) (n : Nd) (w : World) (h : NdAt w pa sa ka n) (ho : NdOk n) :
    Calls Tryz.prog 31 #[.agg #[.int .i64 p, .int .i64 wd], .agg #[.slice pa n.pairs.length pc, .slice sa n.seps.length sc, .slice ka n.kids.length kc]] w (Rets (.int .i64 (checkE p wd n)) w) := by
  cases hr : rightB p wd
  · have : checkE p wd n = 2 := by simp [checkE, hr]
    rw [this]
    exact check_arg p wd pa sa ka pc sc kc n w hr
  · obtain ⟨P, rfl⟩ := Int.eq_ofNat_of_zero_le (show 0 ≤ p by have := rightB_iff.1 hr; omega)
    cases hl : leafB n
    · exact check_branch P wd pa sa ka pc sc kc n w hr hl h ho
    · exact check_leaf P wd pa sa ka pc sc kc n w hr hl h ho

end Go.Proofs.YtemicgccgcmmbaaGreat

/- A node's size. -/
namespace Go.Proofs.YtemicgccgcmmbaaGreat
set_option linter.unusedVariables false
set_option linter.unusedSimpArgs false
open Go Go.RowKit

def prN (x : Pr) : Nat := txN x.1 + txN x.2
def sizeN (wd : Nat) (n : Nd) : Nat :=
  if leafB n = true then 1 + cntN n.pairs.length + (n.pairs.map prN).sum
  else 1 + cntN n.kids.length + n.kids.length * (4 + wd) + (n.seps.map txN).sum

theorem txN_le {t : Bs} {m : Nat} (h : t.length ≤ m) (hm : m ≤ 140737488351232) : txN t ≤ 9 + m := by
  have := cntN_le9 t.length (by omega); unfold txN; omega
theorem sum_le {α : Type} (f : α → Nat) (B : Nat) : ∀ (l : List α), (∀ x ∈ l, f x ≤ B) → (l.map f).sum ≤ l.length * B
  | [], _ => by simp
  | x :: t, h => by
    have h1 := sum_le f B t (fun y hy => h y (by simp [hy]))
    have h2 := h x (by simp)
    simp only [List.map_cons, List.sum_cons, List.length_cons, Nat.succ_mul]
    omega
theorem sum_take {α : Type} (f : α → Nat) (l : List α) (k : Nat) (x : α) (hx : l[k]? = some x) : ((l.take (k + 1)).map f).sum = ((l.take k).map f).sum + f x := by
  rw [List.take_add_one, hx]; simp

/-- What is small enough to be counted. -/
structure Small (n : Nd) : Prop where
  sp : ∀ p ∈ n.pairs, p.1.length ≤ 8192 ∧ p.2.length ≤ 8192
  ss : ∀ p ∈ n.seps, p.length ≤ 8192

set_option maxHeartbeats 1000000 in set_option maxRecDepth 100000 in
theorem size_leaf (P : Int) (wd : Nat) (pa sa ka : Option Addr) (pc sc kc : Nat) (n : Nd) (w : World) (hl : leafB n = true) (h : NdAt w pa sa ka n) (ho : NdOk n) (hsm : Small n) :
    Calls Tryz.prog 60 #[.agg #[.int .i64 P, .int .i64 wd], .agg #[.slice pa n.pairs.length pc, .slice sa n.seps.length sc, .slice ka n.kids.length kc]] w (Rets (.int .i64 (sizeN wd n : Nat)) w) := by
  have hl' : (decide (n.seps.length = 0 ∧ n.kids.length = 0)) = true := hl
  have hs : sizeN wd n = 1 + cntN n.pairs.length + (n.pairs.map prN).sum := by unfold sizeN; rw [if_pos hl]
  have hnp := ho.np
  have hc9 := cntN_le9 n.pairs.length (by omega)
  have HS := Lib.hid hs; have HL := Lib.hid hl'; clear hs hl hl'
  have H := Lib.hid h; have HSM := Lib.hid hsm; clear h ho hsm
  go_enter Tryz.func60, Tryz.ntmps60
  go_wp2_with fail
  refine (isLeaf_any _ _ _ _ _ _ _ _ _ _).mono ?_
  rintro e w' ⟨rfl, bs1, m1, rfl⟩
  rw [HL.out]
  go_wp2_with fail
  refine (count_any _ _ (by omega)).mono ?_
  rintro e w' ⟨rfl, rfl⟩
  go_wp2_with fail
  go_loopw [5, 21] (fun x i wr => ∃ k z bs n', i = .int .i64 (k : Nat) ∧ k ≤ n.pairs.length ∧ x = .int .i64 (z : Nat) ∧ z ≤ 20 + k * 20000 ∧ Hid (z = 1 + cntN n.pairs.length + ((n.pairs.take k).map prN).sum) ∧ wr = ext ((w.alloc (.cells #[.int .i64 P, .int .i64 wd] 23)).alloc (.cells #[.slice pa n.pairs.length pc, .slice sa n.seps.length sc, .slice ka n.kids.length kc] 28)) bs n') (fun _ i _ => n.pairs.length - (intOf i).toNat)
  case atStart => exact ⟨0, 1 + cntN n.pairs.length, bs1, m1, rfl, by omega, by go_num, by omega, by show _ = _; simp, rfl⟩
  case round =>
    obtain ⟨k, z, bs, n', rfl, hk, rfl, hz, HZ, rfl⟩ := hrel
    by_cases hlt : k < n.pairs.length
    · obtain ⟨x, hx⟩ : ∃ x, n.pairs[k]? = some x := ⟨_, List.getElem?_eq_getElem hlt⟩
      obtain ⟨b, o, rfl, hb, cf1, cf2⟩ := H.out.ps k x hx
      obtain ⟨hx1, hx2⟩ := HSM.out.sp x (List.mem_of_getElem? hx)
      have hst := sum_take prN _ _ _ hx
      have hp1 := txN_le hx1 (by omega)
      have hp2 := txN_le hx2 (by omega)
      have HX := Lib.hid hst; clear hst hx
      have e1 : IntKind.i64.wrap ((txN x.1 : Int) + txN x.2) = txN x.1 + txN x.2 := IntWalk.i64_in _ (by omega)
      have e2 : IntKind.i64.wrap ((z : Int) + (txN x.1 + txN x.2)) = z + (txN x.1 + txN x.2) := IntWalk.i64_in _ (by omega)
      go_wp2_with fail
      refine wp_region_ext (by kernel_rfl) (by kernel_rfl) ?_
      repeat (go_big_quiet_step ((go_at_call 104; exact Calls.quiet_pure (text_any _ _ (by omega)))))
      (refine wpQuiet_nil ?_; intro _ hw'; obtain ⟨⟨bsq, nq⟩, hw''⟩ := hw'; subst hw'')
      clear e1 e2
      go_wp2_with fail
      go_roundw
      case rel => exact ⟨k + 1, z + (txN x.1 + txN x.2), _, _, by go_num, by omega, by go_num, by omega, by show _ = _; rw [HX.out, HZ.out]; simp only [prN]; omega, by (try simp only [ext_alloc, ext_drew, ext_drewN, ext_ext]); rfl⟩
      case measure => simp [intOf]; omega
    · have hfin : Hid (sizeN wd n = z) := by show _ = _; rw [HS.out, HZ.out, List.take_of_length_le (by omega)]
      go_wp2_with fail
      go_ret
      exact ⟨ret_int (by rw [hfin.out]), (by (try simp only [alloc_ext, drew_ext, drewN_ext, ext_ext]); exact ⟨_, _, rfl⟩)⟩

end Go.Proofs.YtemicgccgcmmbaaGreat

/- A branch's size; Size; may. -/
namespace Go.Proofs.YtemicgccgcmmbaaGreat
set_option linter.unusedVariables false
set_option linter.unusedSimpArgs false
open Go Go.RowKit

theorem Calls.quiet_ext2 {P : Program} {f : FuncId} {args : Array Value} {w : World} {bs0 : List Obj} {n0 : Nat} {q : Q} {v : Value}
    (h : Calls P f args (Proofs.YtemicgccgcmmbaaGreat.ext w (bs0 ++ q.bs) (n0 + q.n)) (Rets v (Proofs.YtemicgccgcmmbaaGreat.ext w (bs0 ++ q.bs) (n0 + q.n)))) : Calls P f args (Proofs.YtemicgccgcmmbaaGreat.ext w (bs0 ++ q.bs) (n0 + q.n)) fun e w'' => e = .returned v ∧ ∃ q : Q, w'' = Proofs.YtemicgccgcmmbaaGreat.ext w (bs0 ++ q.bs) (n0 + q.n) :=
  h.mono fun _ _ ⟨he, bs', m, hm⟩ => ⟨he, ⟨q.bs ++ bs', q.n + m⟩, by rw [hm, ext_ext, List.append_assoc, Nat.add_assoc]⟩
theorem Calls.quiet_pure2 {P : Program} {f : FuncId} {args : Array Value} {w : World} {bs0 : List Obj} {n0 : Nat} {q : Q} {v : Value}
    (h : Calls P f args (Proofs.YtemicgccgcmmbaaGreat.ext w (bs0 ++ q.bs) (n0 + q.n)) fun e w' => e = .returned v ∧ Proofs.YtemicgccgcmmbaaGreat.ext w (bs0 ++ q.bs) (n0 + q.n) = w') : Calls P f args (Proofs.YtemicgccgcmmbaaGreat.ext w (bs0 ++ q.bs) (n0 + q.n)) fun e w'' => e = .returned v ∧ ∃ q : Q, w'' = Proofs.YtemicgccgcmmbaaGreat.ext w (bs0 ++ q.bs) (n0 + q.n) :=
  h.mono fun _ _ ⟨he, hm⟩ => ⟨he, q, hm.symm⟩

set_option maxHeartbeats 1000000 in set_option maxRecDepth 100000 in
theorem size_branch (P : Int) (wd : Nat) (pa sa ka : Option Addr) (pc sc kc : Nat) (n : Nd) (w : World) (hwd : wd ≤ 32) (hl : leafB n = false) (h : NdAt w pa sa ka n) (ho : NdOk n) (hsm : Small n) :
    Calls Tryz.prog 60 #[.agg #[.int .i64 P, .int .i64 wd], .agg #[.slice pa n.pairs.length pc, .slice sa n.seps.length sc, .slice ka n.kids.length kc]] w (Rets (.int .i64 (sizeN wd n : Nat)) w) := by
  have hl' : (decide (n.seps.length = 0 ∧ n.kids.length = 0)) = false := hl
  have hs : sizeN wd n = 1 + cntN n.kids.length + n.kids.length * (4 + wd) + (n.seps.map txN).sum := by unfold sizeN; rw [if_neg (by rw [hl]; decide)]
  have hns := ho.ns
  have hnk := ho.nk
  have hc9 := cntN_le9 n.kids.length (by omega)
  have hmul : n.kids.length * (4 + wd) ≤ n.kids.length * 36 := Nat.mul_le_mul_left _ (by omega)
  obtain ⟨y, hy⟩ : ∃ y, y = n.kids.length * (4 + wd) := ⟨_, rfl⟩
  rw [← hy] at hmul hs
  have hy36 : y ≤ 140737488352308 := by omega
  clear hmul
  have e0 : IntKind.i64.wrap (4 + (wd : Int)) = 4 + wd := IntWalk.i64_in _ (by omega)
  have e1 : IntKind.i64.wrap ((n.kids.length : Int) * (4 + wd)) = y := by rw [show (n.kids.length : Int) * (4 + wd) = (y : Int) by rw [hy]; simp]; exact IntWalk.i64_in _ (by omega)
  have e2 : IntKind.i64.wrap (1 + (cntN n.kids.length : Int)) = 1 + cntN n.kids.length := IntWalk.i64_in _ (by omega)
  have e3 : IntKind.i64.wrap (1 + (cntN n.kids.length : Int) + y) = 1 + cntN n.kids.length + y := IntWalk.i64_in _ (by omega)
  have HS := Lib.hid hs; have HL := Lib.hid hl'; clear hs hl hl'
  clear hy
  have H := Lib.hid h; have HSM := Lib.hid hsm; clear h ho hsm
  go_enter Tryz.func60, Tryz.ntmps60
  go_wp2_with fail
  refine (isLeaf_any _ _ _ _ _ _ _ _ _ _).mono ?_
  rintro e w' ⟨rfl, bs1, m1, rfl⟩
  rw [HL.out]
  go_wp2_with fail
  refine wp_region_ext (by kernel_rfl) (by kernel_rfl) ?_
  repeat (go_big_quiet_step ((go_at_call 103; exact Calls.quiet_pure2 (count_any _ _ (by omega)))))
  (refine wpQuiet_nil ?_; intro _ hw'; obtain ⟨⟨bsq, nq⟩, hw''⟩ := hw'; subst hw'')
  clear e0 e1 e2 e3
  go_wp2_with fail
  go_loopw [8, 10, 52] (fun x _ i wr => ∃ k z bs n', i = .int .i64 (k : Nat) ∧ k ≤ n.seps.length ∧ x = .int .i64 (z : Nat) ∧ z ≤ 20 + y + k * 20000 ∧ Hid (z = 1 + cntN n.kids.length + y + ((n.seps.take k).map txN).sum) ∧ wr = ext ((w.alloc (.cells #[.int .i64 P, .int .i64 wd] 23)).alloc (.cells #[.slice pa n.pairs.length pc, .slice sa n.seps.length sc, .slice ka n.kids.length kc] 28)) bs n') (fun _ _ i _ => n.seps.length - (intOf i).toNat)
  case atStart => exact ⟨0, 1 + cntN n.kids.length + y, _, _, rfl, by omega, by go_num, by omega, by show _ = _; simp, by (try simp only [ext_alloc, ext_drew, ext_drewN, ext_ext]); rfl⟩
  case round =>
    obtain ⟨k, z, bs, n', rfl, hk, rfl, hz, HZ, rfl⟩ := hrel
    by_cases hlt : k < n.seps.length
    · obtain ⟨x, hx⟩ : ∃ x, n.seps[k]? = some x := ⟨_, List.getElem?_eq_getElem hlt⟩
      obtain ⟨b, o, rfl, hb, cf1⟩ := H.out.ss k x hx
      have hx1 := HSM.out.ss x (List.mem_of_getElem? hx)
      have hst := sum_take txN _ _ _ hx
      have hp1 := txN_le hx1 (by omega)
      have HX := Lib.hid hst; clear hst hx
      go_wp2_with (go_at_call 104; refine (text_any _ _ (by omega)).mono ?_; rintro e w' ⟨rfl, rfl⟩)
      go_roundw
      case rel => exact ⟨k + 1, z + txN x, _, _, by go_num, by omega, by go_num, by omega, by show _ = _; rw [HX.out, HZ.out]; omega, by (try simp only [ext_alloc, ext_drew, ext_drewN, ext_ext]); rfl⟩
      case measure => simp [intOf]; omega
    · have hfin : Hid (sizeN wd n = z) := by show _ = _; rw [HS.out, HZ.out, List.take_of_length_le (by omega)]
      go_wp2_with fail
      go_ret
      exact ⟨ret_int (by rw [hfin.out]), (by (try simp only [alloc_ext, drew_ext, drewN_ext, ext_ext]); exact ⟨_, _, rfl⟩)⟩

theorem size_any (P : Int) (wd : Nat) (pa sa ka : Option Addr) (pc sc kc : Nat) (n : Nd) (w : World) (hwd : wd ≤ 32) (h : NdAt w pa sa ka n) (ho : NdOk n) (hsm : Small n) :
    Calls Tryz.prog 60 #[.agg #[.int .i64 P, .int .i64 wd], .agg #[.slice pa n.pairs.length pc, .slice sa n.seps.length sc, .slice ka n.kids.length kc]] w (Rets (.int .i64 (sizeN wd n : Nat)) w) := by
  cases hl : leafB n
  · exact size_branch P wd pa sa ka pc sc kc n w hwd hl h ho hsm
  · exact size_leaf P wd pa sa ka pc sc kc n w hl h ho hsm

theorem rises_len : ∀ (l : List Bs) (m : Nat) (pv : Option Bs), risesFrom m pv l = true → ∀ x ∈ l, 1 ≤ x.length ∧ x.length ≤ m
  | [], _, _, _ => by simp
  | k :: t, m, pv, h => by
    simp only [risesFrom, Bool.and_eq_true, decide_eq_true_eq] at h
    intro x hx
    rcases List.mem_cons.1 hx with rfl | hx
    · exact ⟨h.1.1.1, h.1.1.2⟩
    · exact rises_len t m (some k) h.2 x hx

theorem checkE_ok {p wd : Int} {n : Nd} (h : checkE p wd n = 0) : rightB p wd = true ∧ shapedB p.toNat wd n = true := by
  unfold checkE at h
  split at h
  · split at h
    · exact ⟨‹_›, ‹_›⟩
    · cases h
  · cases h
theorem leafB_iff {n : Nd} : leafB n = true ↔ n.seps = [] ∧ n.kids = [] := by
  unfold leafB
  rw [decide_eq_true_eq]
  constructor
  · rintro ⟨h1, h2⟩; exact ⟨List.eq_nil_of_length_eq_zero h1, List.eq_nil_of_length_eq_zero h2⟩
  · rintro ⟨h1, h2⟩; simp [h1, h2]
/-- A well shaped node is small. -/
theorem small_of {p wd : Int} {n : Nd} (h : checkE p wd n = 0) : Small n := by
  obtain ⟨hr, hs⟩ := checkE_ok h
  have hp := (rightB_iff.1 hr).1
  unfold shapedB at hs
  split at hs
  · rename_i hl
    obtain ⟨h1, h2⟩ := leafB_iff.1 hl
    simp only [Bool.and_eq_true, Bool.not_eq_true', List.any_eq_false, decide_eq_true_eq] at hs
    refine ⟨fun q hq => ?_, by rw [h1]; simp⟩
    have := rises_len _ _ _ hs.1 q.1 (List.mem_map.2 ⟨q, hq, rfl⟩)
    have := hs.2 q hq
    omega
  · simp only [Bool.and_eq_true, decide_eq_true_eq] at hs
    have hn : n.pairs = [] := List.eq_nil_of_length_eq_zero hs.1.1.1.1
    refine ⟨by rw [hn]; simp, fun q hq => ?_⟩
    have := rises_len _ _ _ hs.2 q hq
    omega

/-- What may answers. -/
def mayE (p wd : Int) (n : Nd) : Int := if checkE p wd n = 0 then (if p.toNat - 32 < sizeN wd.toNat n then 71 else 0) else checkE p wd n

/-- What Size answers. -/
def SizeE (p wd : Int) (n : Nd) : Nat := if checkE p wd n = 0 then sizeN wd.toNat n else 0

set_option maxHeartbeats 1000000 in set_option maxRecDepth 100000 in
theorem Size_any (p wd : Int) (pa sa ka : Option Addr) (pc sc kc : Nat) (n : Nd) (w : World) (h : NdAt w pa sa ka n) (ho : NdOk n) :
    Calls Tryz.prog 32 #[.agg #[.int .i64 p, .int .i64 wd], .agg #[.slice pa n.pairs.length pc, .slice sa n.seps.length sc, .slice ka n.kids.length kc]] w (Rets (.int .i64 (SizeE p wd n : Nat)) w) := by
  obtain ⟨c, hc⟩ : ∃ c, checkE p wd n = c := ⟨_, rfl⟩
  have HC := Lib.hid hc
  by_cases h0 : c = 0
  · subst h0
    have hsm := small_of hc
    have hr := rightB_iff.1 (checkE_ok hc).1
    obtain ⟨d, rfl⟩ := Int.eq_ofNat_of_zero_le (show 0 ≤ wd by omega)
    have hd : d ≤ 32 := by omega
    have H := Lib.hid h; have HO := Lib.hid ho; have HSM := Lib.hid hsm; clear h ho hsm hr hc
    go_enter Tryz.func32, Tryz.ntmps32
    go_wp2_with fail
    refine (check_any _ _ _ _ _ _ _ _ n _ (H.out.kp0 (((Kp.refl [] _).alloc _).alloc _)) HO.out).mono ?_
    rintro e w' ⟨rfl, bs, m, rfl⟩
    rw [HC.out]
    go_wp2_with fail
    refine (size_any _ d _ _ _ _ _ _ n _ hd (H.out.kp0 ((((Kp.refl [] _).alloc _).alloc _).ext _ _)) HO.out HSM.out).mono ?_
    rintro e w' ⟨rfl, bs1, m1, rfl⟩
    go_wp2_with fail
    go_ret
    exact ⟨ret_int (by unfold SizeE; rw [HC.out, if_pos rfl]; rfl), (by (try simp only [alloc_ext, drew_ext, drewN_ext, ext_ext]); exact ⟨_, _, rfl⟩)⟩
  · have hb : (c != 0) = true := by simpa using h0
    have H0 := Lib.hid h0
    have H := Lib.hid h; have HO := Lib.hid ho; clear h ho hc h0
    go_enter Tryz.func32, Tryz.ntmps32
    go_wp2_with fail
    refine (check_any _ _ _ _ _ _ _ _ n _ (H.out.kp0 (((Kp.refl [] _).alloc _).alloc _)) HO.out).mono ?_
    rintro e w' ⟨rfl, bs, m, rfl⟩
    rw [HC.out]
    go_wp2_with fail
    go_ret
    exact ⟨ret_int (by unfold SizeE; rw [HC.out, if_neg H0.out]; rfl), (by (try simp only [alloc_ext, drew_ext, drewN_ext, ext_ext]); exact ⟨_, _, rfl⟩)⟩

set_option maxHeartbeats 1000000 in set_option maxRecDepth 100000 in
theorem may_any (p wd : Int) (pa sa ka : Option Addr) (pc sc kc : Nat) (n : Nd) (w : World) (h : NdAt w pa sa ka n) (ho : NdOk n) :
    Calls Tryz.prog 35 #[.agg #[.int .i64 p, .int .i64 wd], .agg #[.slice pa n.pairs.length pc, .slice sa n.seps.length sc, .slice ka n.kids.length kc]] w (Rets (.int .i64 (mayE p wd n)) w) := by
  obtain ⟨c, hc⟩ : ∃ c, checkE p wd n = c := ⟨_, rfl⟩
  have HC := Lib.hid hc
  by_cases h0 : c = 0
  · subst h0
    have hsm := small_of hc
    have hr := rightB_iff.1 (checkE_ok hc).1
    obtain ⟨d, rfl⟩ := Int.eq_ofNat_of_zero_le (show 0 ≤ wd by omega)
    obtain ⟨q, rfl⟩ := Int.eq_ofNat_of_zero_le (show 0 ≤ p by omega)
    have hd : d ≤ 32 := by omega
    have hq : q ≤ 8192 := by omega
    have hq2 : 1024 ≤ q := by omega
    have hm : mayE q d n = if q - 32 < sizeN d n then 71 else 0 := by simp [mayE, hc]
    have HM := Lib.hid hm; clear hm
    have H := Lib.hid h; have HO := Lib.hid ho; have HSM := Lib.hid hsm; clear h ho hsm hr hc
    have hlo : ((q : Int) - 32 < (sizeN d n : Nat)) ∨ ¬ ((q : Int) - 32 < (sizeN d n : Nat)) := by omega
    rcases hlo with hlo | hlo
    all_goals
      go_enter Tryz.func35, Tryz.ntmps35
      go_wp2_with fail
      refine (check_any _ _ _ _ _ _ _ _ n _ (H.out.kp0 (((Kp.refl [] _).alloc _).alloc _)) HO.out).mono ?_
      rintro e w' ⟨rfl, bs, m, rfl⟩
      rw [HC.out]
      go_wp2_with fail
      refine wp_region_ext (by kernel_rfl) (by kernel_rfl) ?_
      repeat (go_big_quiet_step ((first | (go_at_call 73; exact Calls.quiet_ext2 (room_any _ _ _ (by omega) (by omega))) | (go_at_call 60; exact Calls.quiet_ext2 (size_any _ d _ _ _ _ _ _ n _ hd (H.out.kp0 ((((Kp.refl [] _).alloc _).alloc _).ext _ _)) HO.out HSM.out)))))
      (refine wpQuiet_nil ?_; intro _ hw'; obtain ⟨⟨bsq, nq⟩, hw''⟩ := hw'; subst hw'')
      go_wp2_with fail
      go_ret
      exact ⟨ret_int (by rw [HM.out]; split <;> omega), (by (try simp only [alloc_ext, drew_ext, drewN_ext, ext_ext]); exact ⟨_, _, rfl⟩)⟩
  · have hb : (c != 0) = true := by simpa using h0
    have H0 := Lib.hid h0
    have H := Lib.hid h; have HO := Lib.hid ho; clear h ho hc h0
    go_enter Tryz.func35, Tryz.ntmps35
    go_wp2_with fail
    refine (check_any _ _ _ _ _ _ _ _ n _ (H.out.kp0 (((Kp.refl [] _).alloc _).alloc _)) HO.out).mono ?_
    rintro e w' ⟨rfl, bs, m, rfl⟩
    rw [HC.out]
    go_wp2_with fail
    go_ret
    exact ⟨ret_int (by unfold mayE; rw [HC.out, if_neg H0.out]), (by (try simp only [alloc_ext, drew_ext, drewN_ext, ext_ext]); exact ⟨_, _, rfl⟩)⟩

end Go.Proofs.YtemicgccgcmmbaaGreat

/- The writer's methods: what they lay, and which memory they touch. -/
namespace Go.Proofs.YtemicgccgcmmbaaGreat
set_option linter.unusedVariables false
set_option linter.unusedSimpArgs false
open Go Go.RowKit

/-- A writer at wb, its bytes out in the owned slice at a. -/
structure Wr (w : World) (wb : Nat) (a : Option Addr) (c : Nat) (out : Bs) : Prop where
  blk : Blk w wb 133 #[.bool true, .slice a out.length c]
  own : Own w 5 1 a out.length c (bC out)
  ne : wb ∉ ab a

/-- What a writer's method may touch. -/
structure WK (wb : Nat) (a : Option Addr) (w : World) (a' : Option Addr) (w' : World) : Prop where
  kp : Kp (wb :: ab a) w w'
  new : ∀ g ∈ ab a', g ∈ ab a ∨ w.heap.size ≤ g

theorem WK.refl (wb : Nat) (a : Option Addr) (w : World) : WK wb a w a w := ⟨Kp.refl _ _, fun _ h => .inl h⟩
theorem WK.trans {wb : Nat} {a a1 a2 : Option Addr} {w w1 w2 : World} (h : WK wb a w a1 w1) (k : WK wb a1 w1 a2 w2) : WK wb a w a2 w2 :=
  ⟨h.kp.from k.kp (fun x hx => by
    rcases List.mem_cons.1 hx with rfl | hx
    · exact .inr (by simp)
    · rcases h.new x hx with h1 | h1
      · exact .inr (by simp [h1])
      · exact .inl h1),
   fun g hg => by
    rcases k.new g hg with h1 | h1
    · exact h.new g h1
    · exact .inr (Nat.le_trans h.kp.size h1)⟩
theorem WK.pre {wb : Nat} {a a2 : Option Addr} {w w1 w2 : World} (h : Kp [] w w1) (k : WK wb a w1 a2 w2) : WK wb a w a2 w2 :=
  (WK.trans ⟨h.of_nil, fun _ h => .inl h⟩ k)
theorem WK.post {wb : Nat} {a a2 : Option Addr} {w w1 w2 : World} (k : WK wb a w a2 w1) (h : Kp [] w1 w2) : WK wb a w a2 w2 :=
  k.trans ⟨h.of_nil, fun _ h => .inl h⟩
theorem Wr.kp {S : List Nat} {w w' : World} {wb c : Nat} {a : Option Addr} {out : Bs} (h : Wr w wb a c out) (k : Kp S w w') (h1 : wb ∉ S) (h2 : ∀ g ∈ ab a, g ∉ S) : Wr w' wb a c out :=
  ⟨h.blk.kp k h1, h.own.kp k h2, h.ne⟩
theorem Wr.kp0 {w w' : World} {wb c : Nat} {a : Option Addr} {out : Bs} (h : Wr w wb a c out) (k : Kp [] w w') : Wr w' wb a c out := h.kp k (by simp) (by simp)
theorem Wr.cells {w : World} {wb c : Nat} {a : Option Addr} {out : Bs} (h : Wr w wb a c out) : w.cell? ⟨wb, 0, none⟩ = some (.bool true) ∧ w.cell? ⟨wb, 1, none⟩ = some (.slice a out.length c) ∧ w.frozen? ⟨wb, 1, none⟩ = false ∧ wb < w.heap.size :=
  ⟨h.blk.cell 0, h.blk.cell 1, h.blk.frozen 1, h.blk.lt⟩
/-- A block that is neither the writer's nor its bytes'. -/
theorem WK.blk {wb : Nat} {a a' : Option Addr} {w w' : World} (k : WK wb a w a' w') {g : Nat} {o : Obj} (h : w.heap[g]? = some o) (h1 : g ≠ wb) (h2 : g ∉ ab a) : w'.heap[g]? = some o :=
  k.kp.blk h (by simp [h1, h2])

/-- Behind an append: the new slice is put into the writer. -/
theorem Wr.put {w w1 : World} {wb c c' : Nat} {a a' : Option Addr} {out t : Bs} (h : Wr w wb a c out) (hown : Own w1 5 1 a' (out.length + t.length) c' (bC out ++ bC t)) (hk : Kp (ab a) w w1) (hn : ∀ g ∈ ab a', g ∈ ab a ∨ w.heap.size ≤ g) :
    Wr (w1.setCell ⟨wb, 1, none⟩ (.slice a' (out.length + t.length) c')) wb a' c' (out ++ t) ∧ WK wb a w a' (w1.setCell ⟨wb, 1, none⟩ (.slice a' (out.length + t.length) c')) := by
  have hb := h.blk.kp hk h.ne
  have hne : wb ∉ ab a' := fun e => by
    rcases hn _ e with h1 | h1
    · exact h.ne h1
    · have := h.blk.lt; omega
  refine ⟨⟨?_, ?_, hne⟩, ⟨(hk.mono (fun k _ hk => by simp [hk])).setCell _ (.inr (by simp)), hn⟩⟩
  · have := hb.set 1 (.slice a' (out.length + t.length) c')
    simpa using this
  · rw [bC_app, List.length_append]
    exact hown.kp ((Kp.refl [wb] _).setCell _ (.inr (by simp))) (fun g hg => by simp; rintro rfl; exact hne hg)

def WrPost (w : World) (wb : Nat) (a : Option Addr) (out : Bs) (e : Ending) (w' : World) : Prop :=
  e = .returned (.tuple #[]) ∧ ∃ a' c', Wr w' wb a' c' out ∧ WK wb a w a' w'

set_option maxHeartbeats 400000 in
theorem wr_new (w : World) : Calls Tryz.prog 83 #[] w fun e w' => e = .returned (.pointer (some ⟨w.heap.size, 0, none⟩)) ∧ w' = w.alloc (.cells #[.bool true, .slice none 0 0] 133) := by
  go_enter Tryz.func83, Tryz.ntmps83
  go_wp2
  go_ret
  exact ⟨rfl, rfl⟩

theorem wr_made (w : World) : Wr (w.alloc (.cells #[.bool true, .slice none 0 0] 133)) w.heap.size none 0 [] :=
  ⟨Blk.new w _ _, Own.nil _ _ _, by simp [ab]⟩

/-- The bytes of a free number. -/
def freeB (n : Nat) : Bs := if h : n < 128 then [n.toUInt8] else (n % 128 + 128).toUInt8 :: freeB (n / 128)
termination_by n
decreasing_by omega

theorem freeB_len : ∀ (k n : Nat), n < 128 ^ k → 0 < k → (freeB n).length ≤ k
  | 0, n, _, h => absurd h (by omega)
  | k + 1, n, h, _ => by
    rw [freeB]
    split
    · simp
    · by_cases hk : k = 0
      · subst hk; simp at h; omega
      · have : n / 128 < 128 ^ k := by
          rw [Nat.pow_succ] at h
          exact Nat.div_lt_of_lt_mul (by omega)
        have := freeB_len k (n / 128) this (by omega)
        simp; omega
theorem freeB_len64 (n : Nat) (h : n < 18446744073709551616) : (freeB n).length ≤ 10 := freeB_len 10 n (by omega) (by omega)
theorem freeB_small {n : Nat} (h : n < 128) : freeB n = [n.toUInt8] := by rw [freeB]; simp [h]
theorem freeB_big {n : Nat} (h : ¬ n < 128) : freeB n = (n % 128 + 128).toUInt8 :: freeB (n / 128) := by rw [freeB]; simp [h]

set_option maxRecDepth 100000 in
theorem or128 : ∀ x, x < 256 → x ||| 128 = x % 128 + 128 := by decide
theorem u8_or128' (x : Int) (h0 : 0 ≤ x) (h1 : x < 256) : bits .or .u8 x 128 = x % 128 + 128 := by
  rw [u8_or x 128 h0 h1 (by omega) (by omega)]
  have := or128 x.toNat (by omega)
  simp only [Int.reduceToNat]
  rw [this]; omega
theorem bC_byte (n : Nat) (h : n < 256) : bC [n.toUInt8] = [.int .u8 (n : Int)] := by
  simp [bC]; omega
theorem cell_byte (n : Nat) (h : n < 256) : Value.int .u8 (n : Int) = .int .u8 ((n.toUInt8).toNat : Int) := by
  rw [show (n.toUInt8).toNat = n by simp; omega]

/-- The writer's own cells behind the append. -/
theorem Wr.later {w wa w1 : World} {wb c : Nat} {a : Option Addr} {out : Bs} (h : Wr w wb a c out) (k0 : Kp [] w wa) (hk : Kp (ab a) wa w1) :
    w1.cell? ⟨wb, 0, none⟩ = some (.bool true) ∧ w1.cell? ⟨wb, 1, none⟩ = some (.slice a out.length c) ∧ w1.frozen? ⟨wb, 1, none⟩ = false ∧ wb < w1.heap.size :=
  let b := (h.blk.kp k0 (by simp)).kp hk h.ne
  ⟨b.cell 0, b.cell 1, b.frozen 1, b.lt⟩
theorem Wr.put' {w wa w1 : World} {wb c c' : Nat} {a a' : Option Addr} {out t : Bs} (h : Wr w wb a c out) (k0 : Kp [] w wa) (hown : Own w1 5 1 a' (out.length + t.length) c' (bC out ++ bC t)) (hk : Kp (ab a) wa w1) (hn : ∀ g ∈ ab a', g ∈ ab a ∨ wa.heap.size ≤ g) :
    Wr (w1.setCell ⟨wb, 1, none⟩ (.slice a' (out.length + t.length) c')) wb a' c' (out ++ t) ∧ WK wb a w a' (w1.setCell ⟨wb, 1, none⟩ (.slice a' (out.length + t.length) c')) :=
  let ⟨h1, h2⟩ := (h.kp0 k0).put hown hk hn
  ⟨h1, h2.pre k0⟩
theorem src_one {w : World} {v : Value} (h : v.oneCell' = true) (t : TypeId) : Src Tryz.prog 1 66 (.slice (some ⟨w.heap.size, 0, none⟩) 1 1) 1 [v] (w.alloc (.cells #[v] t)) :=
  Src.ofSlice _ Tryz.underlying66 _ _ _ _ rfl (by
    intro j u hj
    match j, hj with
    | 0, hj => simp at hj; subst hj; simp [Addr.add]
    | j + 1, hj => simp at hj) (by intro u hu; simp at hu; subst hu; exact h)

set_option maxHeartbeats 1000000 in
set_option maxRecDepth 100000 in
theorem wr_free (wb n c : Nat) (a : Option Addr) (out : Bs) (w : World) (h : Wr w wb a c out) (hn : n < 18446744073709551616) (ho : out.length ≤ 70368744177664) :
    Calls Tryz.prog 121 #[.pointer (some ⟨wb, 0, none⟩), .int .u64 n] w (WrPost w wb a (out ++ freeB n)) := by
  obtain ⟨c0, c1, f1, hlt⟩ := h.cells
  have H := Lib.hid h; clear h
  have hl := freeB_len64 n hn
  have HL := Lib.hid hl; clear hl
  go_enter Tryz.func121, Tryz.ntmps121
  go_wp2
  clear c0 c1 f1 hlt
  go_loopw [1] (fun x wr => ∃ (m c' : Nat) (a' : Option Addr) (pre : Bs), x = .int .u64 m ∧ m ≤ n ∧ Hid (out ++ freeB n = pre ++ freeB m) ∧ Wr wr wb a' c' pre ∧ WK wb a w a' wr) (fun x _ => (intOf x).toNat)
  case atStart => exact ⟨n, c, a, out, rfl, Nat.le_refl _, rfl, H.out, WK.refl _ _ _⟩
  case round =>
    obtain ⟨m, c', a', pre, rfl, hmn, HE, hw, hk⟩ := hrel
    obtain ⟨c0, c1, f1, hlt⟩ := hw.cells
    have hlen : pre.length + (freeB m).length = out.length + (freeB n).length := by have := congrArg List.length HE.out; simpa using this.symm
    have hpre : pre.length ≤ 70368744177700 := by have := HL.out; omega
    clear hlen
    have HW := Lib.hid hw; clear hw
    have HK := Lib.hid hk; clear hk
    by_cases hs : m < 128
    · go_wp2_with (at_builtin; refine wpList_app_u8 rfl rfl rfl (HW.out.own.kp ((Kp.refl [] _).alloc _) (by simp)) 1 _ (src_one rfl _) (by omega) ?_; intro a2 c2 w1 hown hk2 hnew; have ho2 := Lib.hid hown; have hk2' := Lib.hid hk2; have hn2 := Lib.hid hnew; obtain ⟨d0, d1, d2, d3⟩ := HW.out.later ((Kp.refl [] _).alloc _) hk2; clear hown hk2 hnew)
      obtain ⟨p1, p2⟩ := HW.out.put' (t := [m.toUInt8]) ((Kp.refl [] _).alloc _) (by rw [bC_byte m (by omega)]; exact ho2.out) hk2'.out hn2.out
      go_end0
      exact ⟨rfl, a2, c2, by rw [HE.out, freeB_small hs]; exact p1, HK.out.trans p2⟩
    · have hv : bits .or .u8 ((m : Int) % 256) 128 = ((m % 128 + 128 : Nat) : Int) := by rw [u8_or128' _ (by omega) (by omega)]; omega
      go_wp2_with (at_builtin; refine wpList_app_u8 rfl rfl rfl (HW.out.own.kp ((Kp.refl [] _).alloc _) (by simp)) 1 _ (src_one rfl _) (by omega) ?_; intro a2 c2 w1 hown hk2 hnew; have ho2 := Lib.hid hown; have hk2' := Lib.hid hk2; have hn2 := Lib.hid hnew; obtain ⟨d0, d1, d2, d3⟩ := HW.out.later ((Kp.refl [] _).alloc _) hk2; clear hown hk2 hnew)
      obtain ⟨p1, p2⟩ := HW.out.put' (t := [(m % 128 + 128).toUInt8]) ((Kp.refl [] _).alloc _) (by rw [bC_byte _ (by omega)]; exact ho2.out) hk2'.out hn2.out
      go_roundw
      case rel => exact ⟨m / 128, c2, a2, pre ++ [(m % 128 + 128).toUInt8], by go_num, by omega, by show _ = _; rw [HE.out, freeB_big hs]; simp, p1, HK.out.trans p2⟩
      case measure => simp [intOf]; omega

end Go.Proofs.YtemicgccgcmmbaaGreat

/- The writer's further methods. -/
namespace Go.Proofs.YtemicgccgcmmbaaGreat
set_option linter.unusedVariables false
set_option linter.unusedSimpArgs false
open Go Go.RowKit

/-- A fixed number's bytes, the great ones first. -/
def fixB : Nat → Nat → Bs
  | 0, _ => []
  | k + 1, n => (n / 256 ^ k % 256).toUInt8 :: fixB k n
theorem fixB_len : ∀ k n, (fixB k n).length = k
  | 0, _ => rfl
  | k + 1, n => by simp [fixB, fixB_len k n]
theorem fixB_take : ∀ (k n j : Nat), j < k → (fixB k n).take (k - j) = (fixB k n).take (k - (j + 1)) ++ [(n / 256 ^ j % 256).toUInt8]
  | 0, _, _, h => absurd h (by omega)
  | k + 1, n, j, h => by
    by_cases hj : j = k
    · subst hj; simp [fixB]
    · have ih := fixB_take k n j (by omega)
      rw [show k + 1 - j = (k - j) + 1 by omega, show k + 1 - (j + 1) = (k - (j + 1)) + 1 by omega]
      simp only [fixB, List.take_succ_cons, ih, List.cons_append]

theorem own_cast {w : World} {e : TypeId} {a : Option Addr} {n c : Nat} {xs : List Value} {x y : Int} (h : x = y) (o : Own w e 1 a n c (xs ++ [.int .u8 y])) : Own w e 1 a n c (xs ++ [.int .u8 x]) := by rw [h]; exact o

set_option maxHeartbeats 1000000 in
set_option maxRecDepth 100000 in
theorem wr_put_uint8 (wb n c : Nat) (a : Option Addr) (out : Bs) (w : World) (h : Wr w wb a c out) (hn : n < 256) (ho : out.length ≤ 70368744177664) :
    Calls Tryz.prog 84 #[.pointer (some ⟨wb, 0, none⟩), .int .u8 n] w (WrPost w wb a (out ++ fixB 1 n)) := by
  obtain ⟨c0, c1, f1, hlt⟩ := h.cells
  have H := Lib.hid h; clear h
  go_enter Tryz.func84, Tryz.ntmps84
  go_wp2_with (go_at_call 106; refine (width_uint8 _).mono ?_; rintro e w' ⟨rfl, rfl⟩)
  clear c0 c1 f1 hlt
  go_loopw [4] (fun i wr => ∃ (k : Int) (c' : Nat) (a' : Option Addr) (pre : Bs), i = .int .i64 k ∧ -1 ≤ k ∧ k ≤ 0 ∧ Hid (pre = out ++ (fixB 1 n).take (0 - k).toNat) ∧ Wr wr wb a' c' pre ∧ WK wb a w a' wr) (fun i _ => (intOf i + 1).toNat)
  case atStart => exact ⟨0, c, a, out, rfl, by omega, by omega, by show _ = _; simp, H.out, WK.refl _ _ _⟩
  case round =>
    obtain ⟨k, c', a', pre, rfl, hk3, hk4, HP, hw, hk⟩ := hrel
    obtain ⟨c0, c1, f1, hlt⟩ := hw.cells
    have hpre : pre.length ≤ 70368744177700 := by rw [HP.out]; simp [fixB_len]; omega
    have HW := Lib.hid hw; clear hw
    have HK := Lib.hid hk; clear hk
    rcases (show k = -1 ∨ k = 0 by omega) with rfl | rfl
    · have HQ : Hid (out ++ fixB 1 n = pre) := by show _ = _; rw [HP.out]; exact congrArg _ (List.take_of_length_le (by rw [fixB_len]; omega)).symm
      go_wp2
      go_end0
      exact ⟨rfl, a', c', by rw [HQ.out]; exact HW.out, HK.out⟩
    · go_wp2_with (at_builtin; refine wpList_app_u8 rfl rfl rfl (HW.out.own.kp ((Kp.refl [] _).alloc _) (by simp)) 1 _ (src_one rfl _) (by omega) ?_; intro a2 c2 w1 hown hk2 hnew; have ho2 := Lib.hid hown; have hk2' := Lib.hid hk2; have hn2 := Lib.hid hnew; obtain ⟨d0, d1, d2, d3⟩ := HW.out.later ((Kp.refl [] _).alloc _) hk2; clear hown hk2 hnew)
      obtain ⟨p1, p2⟩ := HW.out.put' (t := [(n / 256 ^ 0 % 256).toUInt8]) ((Kp.refl [] _).alloc _) (by rw [bC_byte _ (Nat.mod_lt _ (by omega))]; exact own_cast (by omega) ho2.out) hk2'.out hn2.out
      go_roundw
      case rel => exact ⟨-1, c2, a2, pre ++ [(n / 256 ^ 0 % 256).toUInt8], rfl, by omega, by omega, by show _ = _; rw [HP.out]; have := fixB_take 1 n 0 (by omega); simp only [Nat.reduceSub, Nat.reduceAdd] at this; simp only [Int.reduceSub, Int.reduceNeg, Int.reduceToNat, this, List.append_assoc], p1, HK.out.trans p2⟩
      case measure => simp [intOf]

set_option maxHeartbeats 1000000 in
set_option maxRecDepth 100000 in
theorem wr_put_uint32 (wb n c : Nat) (a : Option Addr) (out : Bs) (w : World) (h : Wr w wb a c out) (hn : n < 4294967296) (ho : out.length ≤ 70368744177664) :
    Calls Tryz.prog 91 #[.pointer (some ⟨wb, 0, none⟩), .int .u32 n] w (WrPost w wb a (out ++ fixB 4 n)) := by
  obtain ⟨c0, c1, f1, hlt⟩ := h.cells
  have H := Lib.hid h; clear h
  go_enter Tryz.func91, Tryz.ntmps91
  go_wp2_with (go_at_call 111; refine (width_uint32 _).mono ?_; rintro e w' ⟨rfl, rfl⟩)
  clear c0 c1 f1 hlt
  go_loopw [4] (fun i wr => ∃ (k : Int) (c' : Nat) (a' : Option Addr) (pre : Bs), i = .int .i64 k ∧ -1 ≤ k ∧ k ≤ 3 ∧ Hid (pre = out ++ (fixB 4 n).take (3 - k).toNat) ∧ Wr wr wb a' c' pre ∧ WK wb a w a' wr) (fun i _ => (intOf i + 1).toNat)
  case atStart => exact ⟨3, c, a, out, rfl, by omega, by omega, by show _ = _; simp, H.out, WK.refl _ _ _⟩
  case round =>
    obtain ⟨k, c', a', pre, rfl, hk3, hk4, HP, hw, hk⟩ := hrel
    obtain ⟨c0, c1, f1, hlt⟩ := hw.cells
    have hpre : pre.length ≤ 70368744177700 := by rw [HP.out]; simp [fixB_len]; omega
    have HW := Lib.hid hw; clear hw
    have HK := Lib.hid hk; clear hk
    rcases (show k = -1 ∨ k = 0 ∨ k = 1 ∨ k = 2 ∨ k = 3 by omega) with rfl | rfl | rfl | rfl | rfl
    · have HQ : Hid (out ++ fixB 4 n = pre) := by show _ = _; rw [HP.out]; exact congrArg _ (List.take_of_length_le (by rw [fixB_len]; omega)).symm
      go_wp2
      go_end0
      exact ⟨rfl, a', c', by rw [HQ.out]; exact HW.out, HK.out⟩
    · go_wp2_with (at_builtin; refine wpList_app_u8 rfl rfl rfl (HW.out.own.kp ((Kp.refl [] _).alloc _) (by simp)) 1 _ (src_one rfl _) (by omega) ?_; intro a2 c2 w1 hown hk2 hnew; have ho2 := Lib.hid hown; have hk2' := Lib.hid hk2; have hn2 := Lib.hid hnew; obtain ⟨d0, d1, d2, d3⟩ := HW.out.later ((Kp.refl [] _).alloc _) hk2; clear hown hk2 hnew)
      obtain ⟨p1, p2⟩ := HW.out.put' (t := [(n / 256 ^ 0 % 256).toUInt8]) ((Kp.refl [] _).alloc _) (by rw [bC_byte _ (Nat.mod_lt _ (by omega))]; exact own_cast (by omega) ho2.out) hk2'.out hn2.out
      go_roundw
      case rel => exact ⟨-1, c2, a2, pre ++ [(n / 256 ^ 0 % 256).toUInt8], rfl, by omega, by omega, by show _ = _; rw [HP.out]; have := fixB_take 4 n 0 (by omega); simp only [Nat.reduceSub, Nat.reduceAdd] at this; simp only [Int.reduceSub, Int.reduceNeg, Int.reduceToNat, this, List.append_assoc], p1, HK.out.trans p2⟩
      case measure => simp [intOf]
    · go_wp2_with (at_builtin; refine wpList_app_u8 rfl rfl rfl (HW.out.own.kp ((Kp.refl [] _).alloc _) (by simp)) 1 _ (src_one rfl _) (by omega) ?_; intro a2 c2 w1 hown hk2 hnew; have ho2 := Lib.hid hown; have hk2' := Lib.hid hk2; have hn2 := Lib.hid hnew; obtain ⟨d0, d1, d2, d3⟩ := HW.out.later ((Kp.refl [] _).alloc _) hk2; clear hown hk2 hnew)
      obtain ⟨p1, p2⟩ := HW.out.put' (t := [(n / 256 ^ 1 % 256).toUInt8]) ((Kp.refl [] _).alloc _) (by rw [bC_byte _ (Nat.mod_lt _ (by omega))]; exact own_cast (by omega) ho2.out) hk2'.out hn2.out
      go_roundw
      case rel => exact ⟨0, c2, a2, pre ++ [(n / 256 ^ 1 % 256).toUInt8], rfl, by omega, by omega, by show _ = _; rw [HP.out]; have := fixB_take 4 n 1 (by omega); simp only [Nat.reduceSub, Nat.reduceAdd] at this; simp only [Int.reduceSub, Int.reduceNeg, Int.reduceToNat, this, List.append_assoc], p1, HK.out.trans p2⟩
      case measure => simp [intOf]
    · go_wp2_with (at_builtin; refine wpList_app_u8 rfl rfl rfl (HW.out.own.kp ((Kp.refl [] _).alloc _) (by simp)) 1 _ (src_one rfl _) (by omega) ?_; intro a2 c2 w1 hown hk2 hnew; have ho2 := Lib.hid hown; have hk2' := Lib.hid hk2; have hn2 := Lib.hid hnew; obtain ⟨d0, d1, d2, d3⟩ := HW.out.later ((Kp.refl [] _).alloc _) hk2; clear hown hk2 hnew)
      obtain ⟨p1, p2⟩ := HW.out.put' (t := [(n / 256 ^ 2 % 256).toUInt8]) ((Kp.refl [] _).alloc _) (by rw [bC_byte _ (Nat.mod_lt _ (by omega))]; exact own_cast (by omega) ho2.out) hk2'.out hn2.out
      go_roundw
      case rel => exact ⟨1, c2, a2, pre ++ [(n / 256 ^ 2 % 256).toUInt8], rfl, by omega, by omega, by show _ = _; rw [HP.out]; have := fixB_take 4 n 2 (by omega); simp only [Nat.reduceSub, Nat.reduceAdd] at this; simp only [Int.reduceSub, Int.reduceNeg, Int.reduceToNat, this, List.append_assoc], p1, HK.out.trans p2⟩
      case measure => simp [intOf]
    · go_wp2_with (at_builtin; refine wpList_app_u8 rfl rfl rfl (HW.out.own.kp ((Kp.refl [] _).alloc _) (by simp)) 1 _ (src_one rfl _) (by omega) ?_; intro a2 c2 w1 hown hk2 hnew; have ho2 := Lib.hid hown; have hk2' := Lib.hid hk2; have hn2 := Lib.hid hnew; obtain ⟨d0, d1, d2, d3⟩ := HW.out.later ((Kp.refl [] _).alloc _) hk2; clear hown hk2 hnew)
      obtain ⟨p1, p2⟩ := HW.out.put' (t := [(n / 256 ^ 3 % 256).toUInt8]) ((Kp.refl [] _).alloc _) (by rw [bC_byte _ (Nat.mod_lt _ (by omega))]; exact own_cast (by omega) ho2.out) hk2'.out hn2.out
      go_roundw
      case rel => exact ⟨2, c2, a2, pre ++ [(n / 256 ^ 3 % 256).toUInt8], rfl, by omega, by omega, by show _ = _; rw [HP.out]; have := fixB_take 4 n 3 (by omega); simp only [Nat.reduceSub, Nat.reduceAdd] at this; simp only [Int.reduceSub, Int.reduceNeg, Int.reduceToNat, this, List.append_assoc], p1, HK.out.trans p2⟩
      case measure => simp [intOf]

end Go.Proofs.YtemicgccgcmmbaaGreat

/- Texts and digests are laid; the bytes as a text. -/
namespace Go.Proofs.YtemicgccgcmmbaaGreat
set_option linter.unusedVariables false
set_option linter.unusedSimpArgs false
open Go Go.RowKit

theorem bC_byteCells (t : Bs) : byteCells ⟨t.toArray⟩ = bC t := rfl
theorem src_str {w : World} (t : Bs) : Src Tryz.prog 1 9 (.string ⟨t.toArray⟩) t.length (bC t) w := Src.ofString w Tryz.underlying9 ⟨t.toArray⟩

set_option maxHeartbeats 1000000 in
set_option maxRecDepth 100000 in
theorem wr_raw (wb g c : Nat) (a : Option Addr) (out t : Bs) (w : World) (h : Wr w wb a c out) (hc : w.cell? ⟨g, 0, none⟩ = some (.string ⟨t.toArray⟩)) (ho : out.length + t.length ≤ 70368744177900) :
    Calls Tryz.prog 122 #[.pointer (some ⟨wb, 0, none⟩), .slice (some ⟨g, 0, none⟩) 1 1] w (WrPost w wb a (out ++ t)) := by
  obtain ⟨c0, c1, f1, hlt⟩ := h.cells
  have H := Lib.hid h; clear h
  have HC := Lib.hid hc; clear hc
  go_enter Tryz.func122, Tryz.ntmps122
  go_wp2
  clear c0 c1 f1 hlt
  go_loopw [5, 17] (fun _ i wr => (i = .int .i64 0 ∧ wr = w) ∨ (i = .int .i64 1 ∧ ∃ a' c', Wr wr wb a' c' (out ++ t) ∧ WK wb a w a' wr)) (fun _ i _ => 1 - (intOf i).toNat)
  case atStart => exact .inl ⟨rfl, rfl⟩
  case round =>
    rcases hrel with ⟨rfl, rfl⟩ | ⟨rfl, a', c', hw, hk⟩
    · obtain ⟨c0, c1, f1, hlt⟩ := H.out.cells
      have hc := HC.out
      go_wp2_with (at_builtin; refine wpList_app_u8 rfl rfl rfl H.out.own t.length (bC t) (src_str t) (by omega) ?_; intro a2 c2 w1 hown hk2 hnew; have ho2 := Lib.hid hown; have hk2' := Lib.hid hk2; have hn2 := Lib.hid hnew; obtain ⟨d0, d1, d2, d3⟩ := H.out.later (Kp.refl [] _) hk2; clear hown hk2 hnew)
      obtain ⟨p1, p2⟩ := H.out.put' (Kp.refl [] _) ho2.out hk2'.out hn2.out
      go_roundw
      case rel => exact .inr ⟨rfl, a2, c2, p1, p2⟩
      case measure => simp [intOf]
    · have HW := Lib.hid hw; have HK := Lib.hid hk; clear hw hk
      go_wp2
      go_end0
      exact ⟨rfl, a', c', HW.out, HK.out⟩

/-- A text's bytes: its length, itself. -/
def textB (t : Bs) : Bs := freeB t.length ++ t

set_option maxHeartbeats 1000000 in
set_option maxRecDepth 100000 in
theorem wr_text (wb c : Nat) (a : Option Addr) (out t : Bs) (w : World) (h : Wr w wb a c out) (ho : out.length + t.length ≤ 70368744177664) :
    Calls Tryz.prog 87 #[.pointer (some ⟨wb, 0, none⟩), .string ⟨t.toArray⟩] w (WrPost w wb a (out ++ textB t)) := by
  have H := Lib.hid h; clear h
  have hl := freeB_len64 t.length (by omega)
  have HL := Lib.hid hl; clear hl
  go_enter Tryz.func87, Tryz.ntmps87
  go_wp2_with fail
  refine (wr_free _ _ _ _ _ _ H.out (by omega) (by omega)).mono ?_
  rintro e w1 ⟨rfl, a1, c1, h1, k1⟩
  have H1 := Lib.hid h1; have K1 := Lib.hid k1; clear h1 k1
  go_wp2_with fail
  refine (wr_raw _ _ _ _ _ t _ (H1.out.kp0 ((Kp.refl [] _).alloc _)) (by simp) (by simp; have := HL.out; omega)).mono ?_
  rintro e w2 ⟨rfl, a2, c2, h2, k2⟩
  have H2 := Lib.hid h2; have K2 := Lib.hid k2; clear h2 k2
  go_wp2_with fail
  go_end0
  exact ⟨rfl, a2, c2, by rw [textB, ← List.append_assoc]; exact H2.out, K1.out.trans (K2.out.pre ((Kp.refl [] _).alloc _))⟩

theorem fold_push (t : Bs) (s : ByteArray) : ((t.map fun b => (b.toNat : Int)).foldl (fun r n => r.push (UInt8.ofNat n.toNat)) s) = ⟨s.data ++ t.toArray⟩ := by
  induction t generalizing s with
  | nil => simp
  | cons b t ih =>
    simp only [List.map_cons, List.foldl_cons, ih]
    apply ByteArray.ext
    simp [ByteArray.push]
/-- A row of bytes as a text. -/
theorem conv_cells {w : World} (a : Addr) (c : Nat) (t : Bs) (h : ∀ j v, (bC t)[j]? = some v → w.cell? (a.add j) = some v) :
    (convert 66 9 (.slice (some a) t.length c)).run Tryz.prog w = .ok (.string ⟨t.toArray⟩) w := by
  have hl := run_loadCells_list (P := Tryz.prog) w a (bC t) h
  rw [bC_length] at hl
  rw [run_convert_bytes_string w 66 9 5 _ _ _ Tryz.underlying66 Tryz.underlying5 Tryz.underlying9]
  rw [run_bytesToString w a t.length c (t.map fun b => (b.toNat : Int)) (by rw [hl]; simp [bC]), fold_push]
  simp [ByteArray.empty, ByteArray.emptyWithCapacity]; rfl
theorem conv_own {w : World} {a : Option Addr} {c : Nat} {t : Bs} (h : Own w 5 1 a t.length c (bC t)) :
    (convert 66 9 (.slice a t.length c)).run Tryz.prog w = .ok (.string ⟨t.toArray⟩) w := by
  rcases a with _ | a
  · rw [run_convert_bytes_nil w 66 5 Tryz.underlying66 Tryz.underlying5 _ _ _ Tryz.underlying9]
    rcases h.block.2 with ⟨_, h0, _⟩ | ⟨_, _, h0, _⟩
    · have : t = [] := List.eq_nil_of_length_eq_zero h0
      subst this; rfl
    · cases h0
  · exact conv_cells a c t (h.cells rfl)

set_option maxHeartbeats 1000000 in
set_option maxRecDepth 100000 in
theorem wr_string (wb c : Nat) (a : Option Addr) (out : Bs) (w : World) (h : Wr w wb a c out) :
    Calls Tryz.prog 88 #[.pointer (some ⟨wb, 0, none⟩)] w fun e w' => e = .returned (.string ⟨out.toArray⟩) ∧ w = w' := by
  obtain ⟨c0, c1, f1, hlt⟩ := h.cells
  have hcv := conv_own h.own
  clear h
  go_enter Tryz.func88, Tryz.ntmps88
  go_wp2_with fail
  go_ret
  exact ⟨rfl, rfl⟩

theorem conv_dg {w : World} {g n t : Nat} {d : Dg} (h : Blk w g t d.c) (hn : n ≤ 32) :
    (convert 66 9 (.slice (some ⟨g, 0, none⟩) n 32)).run Tryz.prog w = .ok (.string ⟨(d.l.take n).toArray⟩) w := by
  have hl : (d.l.take n).length = n := by simp [d.h]; omega
  have := conv_cells (w := w) ⟨g, 0, none⟩ 32 (d.l.take n) (fun j v hj => by
    have hadd : (⟨g, 0, none⟩ : Addr).add j = ⟨g, j, none⟩ := by unfold Addr.add; split <;> simp_all
    rw [hadd, h.cell]
    simp only [Dg.c, bC, List.map_take, List.getElem?_take] at hj ⊢
    split at hj
    · simpa using hj
    · cases hj)
  rwa [hl] at this

set_option maxHeartbeats 1000000 in
set_option maxRecDepth 100000 in
theorem wr_digest (wb c n : Nat) (a : Option Addr) (out : Bs) (d : Dg) (w : World) (h : Wr w wb a c out) (hn : n ≤ 32) (ho : out.length ≤ 70368744177664) :
    Calls Tryz.prog 92 #[.pointer (some ⟨wb, 0, none⟩), .int .i64 n, .agg d.c] w (WrPost w wb a (out ++ d.l.take n)) := by
  have H := Lib.hid h; clear h
  have hcv := conv_dg (Blk.new w 36 d.c) hn
  have hl := List.length_take_le n d.l
  have HL := Lib.hid hl; clear hl
  go_enter Tryz.func92, Tryz.ntmps92
  go_wp2_with (go_at_call 112; refine (into_any _ _ (by omega) (by omega)).mono ?_; rintro e w' ⟨rfl, rfl⟩)
  refine (wr_raw _ _ _ _ _ (d.l.take n) _ (H.out.kp0 (((Kp.refl [] _).alloc _).alloc _)) (by simp) (by have := HL.out; omega)).mono ?_
  rintro e w2 ⟨rfl, a2, c2, h2, k2⟩
  have H2 := Lib.hid h2; have K2 := Lib.hid k2; clear h2 k2
  go_wp2_with fail
  go_end0
  exact ⟨rfl, a2, c2, H2.out, K2.out.pre (((Kp.refl [] _).alloc _).alloc _)⟩

end Go.Proofs.YtemicgccgcmmbaaGreat

/- A leaf's form is laid. -/
namespace Go.Proofs.YtemicgccgcmmbaaGreat
set_option linter.unusedVariables false
set_option linter.unusedSimpArgs false
open Go Go.RowKit

section
variable {P : Program} (w : World)
theorem run_equalIn_nilf (d : Nat) (t : TypeId) (ps rs : Array TypeId) (vr : Bool) (f : Fn) (x y : Array Value) (h : P.underlying t = some (.func ps rs vr)) : (Op.equalIn (d + 1) t (.func f x y) .nilFunc).run P w = .ok false w := by
  simp [Op.equalIn, run_underlying h]
theorem run_eql_nilf (t : TypeId) (ps rs : Array TypeId) (vr : Bool) (f : Fn) (x y : Array Value) (h : P.underlying t = some (.func ps rs vr)) : (binOp .eql t (.func f x y) .nilFunc).run P w = .ok (.bool false) w := by
  have := run_equalIn_nilf (P := P) w 9999 t ps rs vr f x y h
  simp only [binOp, Op.equal, Op.maxDepth, Sem.run_bind, this, Result.andThen_ok, Sem.run_pure]
theorem run_neq_nilf (t : TypeId) (ps rs : Array TypeId) (vr : Bool) (f : Fn) (x y : Array Value) (h : P.underlying t = some (.func ps rs vr)) : (binOp .neq t (.func f x y) .nilFunc).run P w = .ok (.bool true) w := by
  have := run_equalIn_nilf (P := P) w 9999 t ps rs vr f x y h
  simp only [binOp, Op.equal, Op.maxDepth, Sem.run_bind, this, Result.andThen_ok, Sem.run_pure, Bool.not_false]
end
@[go_sem] theorem eql_nilf_wp (f : Fn) (x y : Array Value) (w : World) : (binOp .eql 110 (.func f x y) .nilFunc).run Tryz.prog w = .ok (.bool false) w := run_eql_nilf w _ _ _ _ f x y Tryz.underlying110
@[go_sem] theorem eql_nilf_wk (f : Fn) (x y : Array Value) (w : World) : (binOp .eql 115 (.func f x y) .nilFunc).run Tryz.prog w = .ok (.bool false) w := run_eql_nilf w _ _ _ _ f x y Tryz.underlying115

theorem freeB_length (n : Nat) : (freeB n).length = cntN n := by
  induction n using Nat.strongRecOn with
  | _ n ih =>
    by_cases h : n < 128
    · rw [freeB_small h, cntN_small h]; rfl
    · rw [freeB_big h, cntN_big h]; simp [ih (n / 128) (by omega)]
theorem textB_length (t : Bs) : (textB t).length = txN t := by simp [textB, txN, freeB_length]

def pairB (x : Pr) : Bs := textB x.1 ++ textB x.2
theorem pairB_length (x : Pr) : (pairB x).length = prN x := by simp [pairB, prN, textB_length]
def pairsB (l : List Pr) : Bs := l.flatMap pairB
theorem pairsB_length (l : List Pr) : (pairsB l).length = (l.map prN).sum := by
  induction l with
  | nil => rfl
  | cons x t ih => simp only [pairsB, List.flatMap_cons, List.length_append, pairB_length, List.map_cons, List.sum_cons]; rw [← ih]; rfl
theorem pairsB_take (l : List Pr) (k : Nat) (x : Pr) (hx : l[k]? = some x) : pairsB (l.take (k + 1)) = pairsB (l.take k) ++ pairB x := by
  rw [List.take_add_one, hx]; simp [pairsB]
theorem sum_take_le {α : Type} (f : α → Nat) (l : List α) (k : Nat) : ((l.take k).map f).sum ≤ (l.map f).sum := by
  have h : (l.map f).sum = ((l.take k).map f).sum + ((l.drop k).map f).sum := by
    rw [← List.sum_append, ← List.map_append, List.take_append_drop]
  omega

theorem PsAt.lts {w : World} {a : Option Addr} {l : List Pr} (h : PsAt w a l) : l = [] ∨ ∀ b ∈ ab a, b < w.heap.size := by
  cases l with
  | nil => exact .inl rfl
  | cons x t =>
    obtain ⟨b, o, rfl, hb, _⟩ := h 0 x rfl
    exact .inr (by simp [ab]; exact hb)
theorem SsAt.lts {w : World} {a : Option Addr} {l : List Bs} (h : SsAt w a l) : l = [] ∨ ∀ b ∈ ab a, b < w.heap.size := by
  cases l with
  | nil => exact .inl rfl
  | cons x t =>
    obtain ⟨b, o, rfl, hb, _⟩ := h 0 x rfl
    exact .inr (by simp [ab]; exact hb)
theorem KsAt.lts {w : World} {a : Option Addr} {l : List Kd} (h : KsAt w a l) : l = [] ∨ ∀ b ∈ ab a, b < w.heap.size := by
  cases l with
  | nil => exact .inl rfl
  | cons x t =>
    obtain ⟨b, o, rfl, hb, _⟩ := h 0 x rfl
    exact .inr (by simp [ab]; exact hb)
theorem PsAt.kp' {S : List Nat} {w w' : World} {a : Option Addr} {l : List Pr} (h : PsAt w a l) (k : Kp S w w') (hs : l = [] ∨ ∀ b ∈ ab a, b ∉ S) : PsAt w' a l := by
  rcases hs with rfl | hs
  · exact PsAt.nil _ _
  · exact h.kp k hs
theorem SsAt.kp' {S : List Nat} {w w' : World} {a : Option Addr} {l : List Bs} (h : SsAt w a l) (k : Kp S w w') (hs : l = [] ∨ ∀ b ∈ ab a, b ∉ S) : SsAt w' a l := by
  rcases hs with rfl | hs
  · exact SsAt.nil _ _
  · exact h.kp k hs
theorem KsAt.kp' {S : List Nat} {w w' : World} {a : Option Addr} {l : List Kd} (h : KsAt w a l) (k : Kp S w w') (hs : l = [] ∨ ∀ b ∈ ab a, b ∉ S) : KsAt w' a l := by
  rcases hs with rfl | hs
  · exact KsAt.nil _ _
  · exact h.kp k hs

set_option maxHeartbeats 1000000 in set_option maxRecDepth 100000 in
theorem form1_any (wb c : Nat) (a : Option Addr) (out : Bs) (x : Pr) (w : World) (h : Wr w wb a c out) (ho : out.length + prN x ≤ 70368744177000) :
    Calls Tryz.prog 86 #[.pointer (some ⟨wb, 0, none⟩), .agg #[.string ⟨x.1.toArray⟩, .string ⟨x.2.toArray⟩]] w (WrPost w wb a (out ++ pairB x)) := by
  have H := Lib.hid h; clear h
  have hb := H.out.blk.lt
  have hx1 : x.1.length ≤ txN x.1 := by unfold txN; omega
  have hx2 : x.2.length ≤ txN x.2 := by unfold txN; omega
  have h1 : prN x = txN x.1 + txN x.2 := rfl
  have H1 := Lib.hid h1; clear h1
  go_enter Tryz.func86, Tryz.ntmps86
  go_wp2_with fail
  refine (wr_text _ _ _ _ x.1 _ (H.out.kp0 ((Kp.refl [] _).alloc _)) (by have := H1.out; omega)).mono ?_
  rintro e w1 ⟨rfl, a1, c1, h1, k1⟩
  have HW := Lib.hid h1; have K1 := Lib.hid k1
  have hcell : w1.cell? ⟨w.heap.size, 1, none⟩ = some (.string ⟨x.2.toArray⟩) := k1.kp.cell (a := ⟨w.heap.size, 1, none⟩) (by simp) (by simp; exact ⟨by omega, fun hh => by have := H.out.own.lt _ hh; omega⟩)
  clear h1 k1
  go_wp2_with fail
  refine (wr_text _ _ _ _ x.2 _ HW.out (by have := H1.out; simp [textB_length]; omega)).mono ?_
  rintro e w2 ⟨rfl, a2, c2, h2, k2⟩
  have HW2 := Lib.hid h2; have K2 := Lib.hid k2; clear h2 k2
  go_wp2_with fail
  go_end0
  exact ⟨rfl, a2, c2, by rw [pairB, ← List.append_assoc]; exact HW2.out, (K1.out.trans K2.out).pre ((Kp.refl [] _).alloc _)⟩

set_option maxHeartbeats 1000000 in set_option maxRecDepth 100000 in
theorem each_pair (wb c : Nat) (a pa : Option Addr) (pc : Nat) (out : Bs) (l : List Pr) (w : World) (h : Wr w wb a c out) (hl : PsAt w pa l) (hn : l = [] ∨ ∀ b ∈ ab pa, b ≠ wb ∧ b ∉ ab a) (ho : out.length + cntN l.length + (l.map prN).sum ≤ 70368744177000) (hll : l.length ≤ 4398046511104) :
    Calls Tryz.prog 85 #[.pointer (some ⟨wb, 0, none⟩), .slice pa l.length pc, .func (.func 86) #[] #[]] w (WrPost w wb a (out ++ freeB l.length ++ pairsB l)) := by
  obtain ⟨c0, c1, f1, hlt⟩ := h.cells
  have H := Lib.hid h; have HLL := Lib.hid hl; have HN := Lib.hid hn; clear h hl hn
  have HO := Lib.hid ho; clear ho
  go_enter Tryz.func85, Tryz.ntmps85
  go_wp2_with fail
  refine (wr_free _ _ _ _ _ _ H.out (by omega) (by have := HO.out; omega)).mono ?_
  rintro e w1 ⟨rfl, a1, c1', h1, k1⟩
  have HW := Lib.hid h1; have K1 := Lib.hid k1; clear h1 k1
  go_wp2_with fail
  go_loopw [7, 26] (fun _ i wr => ∃ k c' a' , i = .int .i64 (k : Nat) ∧ k ≤ l.length ∧ Wr wr wb a' c' (out ++ freeB l.length ++ pairsB (l.take k)) ∧ WK wb a w a' wr) (fun _ i _ => l.length - (intOf i).toNat)
  case atStart => exact ⟨0, c1', a1, rfl, by omega, by simpa [pairsB] using HW.out, K1.out⟩
  case round =>
    obtain ⟨k, c', a', rfl, hk, hw, hkk⟩ := hrel
    have HWr := Lib.hid hw; have HK := Lib.hid hkk; clear hw hkk
    by_cases hlt : k < l.length
    · obtain ⟨x, hx⟩ : ∃ x, l[k]? = some x := ⟨_, List.getElem?_eq_getElem hlt⟩
      obtain ⟨b, o, rfl, hb, cf1, cf2⟩ := (HLL.out.kp' HK.out.kp (HN.out.imp id (fun hh b hb => by have := hh b hb; simp [this.1, this.2]))) k x hx
      have HX := Lib.hid hx; clear hx
      go_wp2_with fail
      refine (form1_any wb c' a' _ x _ (HWr.out.kp0 ((Kp.refl [] _).alloc _)) ?_).mono ?_
      · have h1 := sum_take_le prN l (k + 1)
        rw [sum_take prN l k x HX.out] at h1
        have h2 := HO.out
        simp only [List.length_append, freeB_length, pairsB_length]
        omega
      rintro e w2 ⟨rfl, a2, c2, h2, k2⟩
      have HW2 := Lib.hid h2; have K2 := Lib.hid k2; clear h2 k2
      go_wp2_with fail
      go_roundw
      case rel => exact ⟨k + 1, c2, a2, by go_num, by omega, by rw [pairsB_take l k x HX.out]; have := HW2.out; simpa [List.append_assoc] using this, HK.out.trans (K2.out.pre ((Kp.refl [] _).alloc _))⟩
      case measure => simp [intOf]; omega
    · have hlen : l.take k = l := List.take_of_length_le (by omega)
      have HL := Lib.hid hlen; clear hlen
      go_wp2_with fail
      go_end0
      exact ⟨rfl, a', c', by have := HWr.out; rw [HL.out] at this; simpa [List.append_assoc] using this, HK.out⟩

end Go.Proofs.YtemicgccgcmmbaaGreat
