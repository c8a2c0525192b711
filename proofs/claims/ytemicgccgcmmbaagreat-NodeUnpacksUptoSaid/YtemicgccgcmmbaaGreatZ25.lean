/- Pack. -/
import Derived.Test.YtemicgccgcmmbaaGreatZ24
namespace Go.Proofs.YtemicgccgcmmbaaGreat
set_option linter.unusedVariables false
set_option linter.unusedSimpArgs false
open Go Go.RowKit

@[go_sem] theorem Kd.getE0 (k : Kd) (h : 0 < k.c.size) : k.c[0]'h = .int .u32 (k.page : Int) := by
  have h0 := Kd.get0 k
  rw [Array.getElem?_eq_getElem h] at h0
  exact Option.some.inj h0

def badPg (k : Kd) : Bool := decide (k.page < 2) || decide (2147483648 ≤ k.page)
/-- What Pack answers. -/
def packE (p wd : Int) (n : Nd) : Int :=
  if checkE p wd n = 0 ∧ leafB n = true ∧ n.pairs.length = 0 then 70
  else if mayE p wd n = 0 then (if n.kids.any badPg = true then 72 else 0) else mayE p wd n
def packS (p wd : Int) (n : Nd) : Bs := if packE p wd n = 0 then formB true wd.toNat n else []

def Rets2 (s : Bs) (v : Int) (w : World) (e : Ending) (w' : World) : Prop := Rets (.tuple #[.string ⟨s.toArray⟩, .int .i64 v]) w e w'

set_option maxHeartbeats 1000000 in set_option maxRecDepth 100000 in
theorem Pack_rest (q d : Nat) (pa sa ka : Option Addr) (pc sc kc : Nat) (n : Nd) (w : World) (hm : mayE q d n = 0) (hne : ¬ (checkE q d n = 0 ∧ leafB n = true ∧ n.pairs.length = 0)) (h : NdAt w pa sa ka n) (ho : NdOk n) :
    Calls Tryz.prog 22 #[.agg #[.int .i64 q, .int .i64 d], .agg #[.slice pa n.pairs.length pc, .slice sa n.seps.length sc, .slice ka n.kids.length kc]] w (Rets2 (packS q d n) (packE q d n) w) := by
  obtain ⟨hc, hsz⟩ := mayE_ok hm
  have he : packE q d n = if n.kids.any badPg = true then 72 else 0 := by unfold packE; rw [if_neg hne, if_pos hm]
  have hs : packS q d n = if n.kids.any badPg = true then [] else formB true d n := by unfold packS; rw [he]; cases n.kids.any badPg <;> rfl
  have hlp : leafB n = false ∨ (leafB n = true ∧ ((n.pairs.length : Int) == 0) = false) := by
    cases hl : leafB n
    · exact .inl rfl
    · exact .inr ⟨rfl, by simp only [beq_eq_false_iff_ne]; intro e; exact hne ⟨hc, hl, by omega⟩⟩
  have hnk := ho.nk
  have HM := Lib.hid hm; have HC := Lib.hid hc; have HE := Lib.hid he; have HS := Lib.hid hs; have H := Lib.hid h; have HO := Lib.hid ho
  clear hm hc hsz he hs hne h ho
  rcases hlp with hl | ⟨hl, hp⟩
  all_goals
    have hl' : (decide (n.seps.length = 0 ∧ n.kids.length = 0)) = leafB n := rfl
    rw [hl] at hl'
    have HL := Lib.hid hl'; clear hl hl'
    go_enter Tryz.func22, Tryz.ntmps22
    go_wp2_with fail
    refine (check_any _ _ _ _ _ _ _ _ n _ (H.out.kp0 (((Kp.refl [] _).alloc _).alloc _)) HO.out).mono ?_
    rintro e w' ⟨rfl, bs, m, rfl⟩
    rw [HC.out]
    go_wp2_with fail
    refine (isLeaf_any _ _ _ _ _ _ _ _ _ _).mono ?_
    rintro e w' ⟨rfl, bs1, m1, rfl⟩
    rw [HL.out]
    go_wp2_with fail
    refine (may_any _ _ _ _ _ _ _ _ n _ (H.out.kp0 ((((Kp.refl [] _).alloc _).alloc _).ext _ _)) HO.out).mono ?_
    rintro e w' ⟨rfl, bs2, m2, rfl⟩
    rw [HM.out]
    go_wp2_with fail
    go_loopw [8, 32] (fun _ i wr => ∃ k bs n', i = .int .i64 (k : Nat) ∧ k ≤ n.kids.length ∧ Hid (∀ x ∈ n.kids.take k, badPg x = false) ∧ wr = ext ((w.alloc (.cells #[.int .i64 q, .int .i64 d] 23)).alloc (.cells #[.slice pa n.pairs.length pc, .slice sa n.seps.length sc, .slice ka n.kids.length kc] 28)) bs n') (fun _ i _ => n.kids.length - (intOf i).toNat)
    case atStart => exact ⟨0, _, _, rfl, by omega, by simp [Hid], rfl⟩
    case round =>
      obtain ⟨k, bs, n', rfl, hk, HN, rfl⟩ := hrel
      by_cases hlt : k < n.kids.length
      · obtain ⟨x, hx⟩ : ∃ x, n.kids[k]? = some x := ⟨_, List.getElem?_eq_getElem hlt⟩
        obtain ⟨b, o, rfl, hb, cf1⟩ := H.out.ks k x hx
        have hg0 : x.c[0]? = some (.int .u32 (x.page : Int)) := Kd.get0 x
        have HX := Lib.hid hx; clear hx
        by_cases h1 : x.page < 2
        · have hy : Hid (n.kids.any badPg = true) := by show _ = _; rw [List.any_eq_true]; exact ⟨x, List.mem_of_getElem? HX.out, by simp [badPg, h1]⟩
          go_wp2_with fail
          go_ret2
          rw [HE.out, HS.out, hy.out]
          exact ⟨rfl, by (try simp only [alloc_ext, drew_ext, drewN_ext, ext_ext]); exact ⟨_, _, rfl⟩⟩
        · by_cases h2 : 2147483648 ≤ x.page
          · have hy : Hid (n.kids.any badPg = true) := by show _ = _; rw [List.any_eq_true]; exact ⟨x, List.mem_of_getElem? HX.out, by simp [badPg, h2]⟩
            go_wp2_with fail
            go_ret2
            rw [HE.out, HS.out, hy.out]
            exact ⟨rfl, by (try simp only [alloc_ext, drew_ext, drewN_ext, ext_ext]); exact ⟨_, _, rfl⟩⟩
          · go_wp2_with fail
            go_roundw
            case rel => exact ⟨k + 1, _, _, by go_num, by omega, by
              intro y hy
              rw [List.take_add_one, HX.out] at hy
              simp at hy
              rcases hy with hy | rfl
              · exact HN.out y hy
              · simp [badPg]; omega, by (try simp only [ext_alloc, ext_drew, ext_drewN, ext_ext]); rfl⟩
            case measure => simp [intOf]; omega
      · have hy : Hid (n.kids.any badPg = false) := by
          show _ = _
          rw [List.any_eq_false]
          intro x hx
          have := HN.out x (by rwa [List.take_of_length_le (by omega)])
          simp [this]
        go_wp2_with fail
        refine (form_any q d _ _ _ _ _ _ true n _ HM.out (H.out.kp0 ((((Kp.refl [] _).alloc _).alloc _).ext _ _)) HO.out).mono ?_
        rintro e w' ⟨rfl, bs3, m3, rfl⟩
        go_wp2_with fail
        go_ret2
        rw [HE.out, HS.out, hy.out]
        exact ⟨rfl, by (try simp only [alloc_ext, drew_ext, drewN_ext, ext_ext]); exact ⟨_, _, rfl⟩⟩

end Go.Proofs.YtemicgccgcmmbaaGreat

/- Pack, in every case. -/
namespace Go.Proofs.YtemicgccgcmmbaaGreat
set_option linter.unusedVariables false
set_option linter.unusedSimpArgs false
open Go Go.RowKit

set_option maxHeartbeats 1000000 in set_option maxRecDepth 100000 in
theorem Pack_empty (p wd : Int) (pa sa ka : Option Addr) (pc sc kc : Nat) (n : Nd) (w : World) (he : checkE p wd n = 0 ∧ leafB n = true ∧ n.pairs.length = 0) (h : NdAt w pa sa ka n) (ho : NdOk n) :
    Calls Tryz.prog 22 #[.agg #[.int .i64 p, .int .i64 wd], .agg #[.slice pa n.pairs.length pc, .slice sa n.seps.length sc, .slice ka n.kids.length kc]] w (Rets2 (packS p wd n) (packE p wd n) w) := by
  have h1 : packE p wd n = 70 := by unfold packE; rw [if_pos he]
  have h2 : packS p wd n = [] := by unfold packS; rw [h1]; rfl
  have H1 := Lib.hid h1; have H2 := Lib.hid h2
  obtain ⟨hc, hl, hp⟩ := he
  have hl' : (decide (n.seps.length = 0 ∧ n.kids.length = 0)) = leafB n := rfl
  rw [hl] at hl'
  have hp' : ((n.pairs.length : Int) == 0) = true := by rw [hp]; rfl
  have HL := Lib.hid hl'; have HC := Lib.hid hc; have H := Lib.hid h; have HO := Lib.hid ho
  clear h1 h2 hc hl hp hl' h ho
  go_enter Tryz.func22, Tryz.ntmps22
  go_wp2_with fail
  refine (check_any _ _ _ _ _ _ _ _ n _ (H.out.kp0 (((Kp.refl [] _).alloc _).alloc _)) HO.out).mono ?_
  rintro e w' ⟨rfl, bs, m, rfl⟩
  rw [HC.out]
  go_wp2_with fail
  refine (isLeaf_any _ _ _ _ _ _ _ _ _ _).mono ?_
  rintro e w' ⟨rfl, bs1, m1, rfl⟩
  rw [HL.out]
  go_wp2_with fail
  go_ret2
  rw [H1.out, H2.out]
  exact ⟨rfl, by (try simp only [alloc_ext, drew_ext, drewN_ext, ext_ext]); exact ⟨_, _, rfl⟩⟩

set_option maxHeartbeats 1000000 in set_option maxRecDepth 100000 in
theorem Pack_not (p wd : Int) (pa sa ka : Option Addr) (pc sc kc : Nat) (n : Nd) (w : World) (hm : mayE p wd n ≠ 0) (hne : ¬ (checkE p wd n = 0 ∧ leafB n = true ∧ n.pairs.length = 0)) (h : NdAt w pa sa ka n) (ho : NdOk n) :
    Calls Tryz.prog 22 #[.agg #[.int .i64 p, .int .i64 wd], .agg #[.slice pa n.pairs.length pc, .slice sa n.seps.length sc, .slice ka n.kids.length kc]] w (Rets2 (packS p wd n) (packE p wd n) w) := by
  have h1 : packE p wd n = mayE p wd n := by unfold packE; rw [if_neg hne, if_neg hm]
  have h2 : packS p wd n = [] := by unfold packS; rw [h1, if_neg hm]
  have hcases : (checkE p wd n ≠ 0) ∨ (checkE p wd n = 0 ∧ leafB n = false) ∨ (checkE p wd n = 0 ∧ leafB n = true ∧ ((n.pairs.length : Int) == 0) = false) := by
    by_cases hc : checkE p wd n = 0
    · right
      cases hl : leafB n
      · exact .inl ⟨hc, rfl⟩
      · exact .inr ⟨hc, rfl, by simp only [beq_eq_false_iff_ne]; intro e; exact hne ⟨hc, hl, by omega⟩⟩
    · exact .inl hc
  obtain ⟨m0, hm0⟩ : ∃ m0, mayE p wd n = m0 := ⟨_, rfl⟩
  rw [hm0] at hm h1
  have hmb : (m0 != 0) = true := by simpa using hm
  have H1 := Lib.hid h1; have H2 := Lib.hid h2; have HM := Lib.hid hm0; have H := Lib.hid h; have HO := Lib.hid ho
  clear h1 h2 hne h ho hm hm0
  rcases hcases with hc | hc
  · obtain ⟨c, hc0⟩ : ∃ c, checkE p wd n = c := ⟨_, rfl⟩
    rw [hc0] at hc
    have hb : (c == 0) = false := by simpa using hc
    have HC := Lib.hid hc0; clear hc0 hc
    go_enter Tryz.func22, Tryz.ntmps22
    go_wp2_with fail
    refine (check_any _ _ _ _ _ _ _ _ n _ (H.out.kp0 (((Kp.refl [] _).alloc _).alloc _)) HO.out).mono ?_
    rintro e w' ⟨rfl, bs, m, rfl⟩
    rw [HC.out]
    go_wp2_with fail
    refine (may_any _ _ _ _ _ _ _ _ n _ (H.out.kp0 ((((Kp.refl [] _).alloc _).alloc _).ext _ _)) HO.out).mono ?_
    rintro e w' ⟨rfl, bs2, m2, rfl⟩
    rw [HM.out]
    go_wp2_with fail
    go_ret2
    rw [H1.out, H2.out]
    exact ⟨rfl, by (try simp only [alloc_ext, drew_ext, drewN_ext, ext_ext]); exact ⟨_, _, rfl⟩⟩
  · have hc0 : checkE p wd n = 0 := by rcases hc with h | h <;> exact h.1
    have HC := Lib.hid hc0; clear hc0
    rcases hc with ⟨_, hl⟩ | ⟨_, hl, hp⟩
    all_goals
      have hl' : (decide (n.seps.length = 0 ∧ n.kids.length = 0)) = leafB n := rfl
      rw [hl] at hl'
      have HL := Lib.hid hl'; clear hl hl'
      go_enter Tryz.func22, Tryz.ntmps22
      go_wp2_with fail
      refine (check_any _ _ _ _ _ _ _ _ n _ (H.out.kp0 (((Kp.refl [] _).alloc _).alloc _)) HO.out).mono ?_
      rintro e w' ⟨rfl, bs, m, rfl⟩
      rw [HC.out]
      go_wp2_with fail
      refine (isLeaf_any _ _ _ _ _ _ _ _ _ _).mono ?_
      rintro e w' ⟨rfl, bs1, m1, rfl⟩
      rw [HL.out]
      go_wp2_with fail
      refine (may_any _ _ _ _ _ _ _ _ n _ (H.out.kp0 ((((Kp.refl [] _).alloc _).alloc _).ext _ _)) HO.out).mono ?_
      rintro e w' ⟨rfl, bs2, m2, rfl⟩
      rw [HM.out]
      go_wp2_with fail
      go_ret2
      rw [H1.out, H2.out]
      exact ⟨rfl, by (try simp only [alloc_ext, drew_ext, drewN_ext, ext_ext]); exact ⟨_, _, rfl⟩⟩

theorem Pack_any (p wd : Int) (pa sa ka : Option Addr) (pc sc kc : Nat) (n : Nd) (w : World) (h : NdAt w pa sa ka n) (ho : NdOk n) :
    Calls Tryz.prog 22 #[.agg #[.int .i64 p, .int .i64 wd], .agg #[.slice pa n.pairs.length pc, .slice sa n.seps.length sc, .slice ka n.kids.length kc]] w (Rets2 (packS p wd n) (packE p wd n) w) := by
  by_cases he : checkE p wd n = 0 ∧ leafB n = true ∧ n.pairs.length = 0
  · exact Pack_empty p wd pa sa ka pc sc kc n w he h ho
  · by_cases hm : mayE p wd n = 0
    · have hr := rightB_iff.1 (checkE_ok (mayE_ok hm).1).1
      obtain ⟨d, rfl⟩ := Int.eq_ofNat_of_zero_le (show 0 ≤ wd by omega)
      obtain ⟨q, rfl⟩ := Int.eq_ofNat_of_zero_le (show 0 ≤ p by omega)
      exact Pack_rest q d pa sa ka pc sc kc n w hm he h ho
    · exact Pack_not p wd pa sa ka pc sc kc n w hm he h ho

end Go.Proofs.YtemicgccgcmmbaaGreat
