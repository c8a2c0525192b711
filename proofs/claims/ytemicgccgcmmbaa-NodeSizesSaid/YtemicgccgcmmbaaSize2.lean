/- A branch's size; Size; may. -/
import Derived.Test.YtemicgccgcmmbaaSize
namespace Go.Proofs.Ytemicgccgcmmbaa
set_option linter.unusedVariables false
set_option linter.unusedSimpArgs false
open Go Go.RowKit

theorem Calls.quiet_ext2 {P : Program} {f : FuncId} {args : Array Value} {w : World} {bs0 : List Obj} {n0 : Nat} {q : Q} {v : Value}
    (h : Calls P f args (Proofs.Ytemicgccgcmmbaa.ext w (bs0 ++ q.bs) (n0 + q.n)) (Rets v (Proofs.Ytemicgccgcmmbaa.ext w (bs0 ++ q.bs) (n0 + q.n)))) : Calls P f args (Proofs.Ytemicgccgcmmbaa.ext w (bs0 ++ q.bs) (n0 + q.n)) fun e w'' => e = .returned v ∧ ∃ q : Q, w'' = Proofs.Ytemicgccgcmmbaa.ext w (bs0 ++ q.bs) (n0 + q.n) :=
  h.mono fun _ _ ⟨he, bs', m, hm⟩ => ⟨he, ⟨q.bs ++ bs', q.n + m⟩, by rw [hm, ext_ext, List.append_assoc, Nat.add_assoc]⟩
theorem Calls.quiet_pure2 {P : Program} {f : FuncId} {args : Array Value} {w : World} {bs0 : List Obj} {n0 : Nat} {q : Q} {v : Value}
    (h : Calls P f args (Proofs.Ytemicgccgcmmbaa.ext w (bs0 ++ q.bs) (n0 + q.n)) fun e w' => e = .returned v ∧ Proofs.Ytemicgccgcmmbaa.ext w (bs0 ++ q.bs) (n0 + q.n) = w') : Calls P f args (Proofs.Ytemicgccgcmmbaa.ext w (bs0 ++ q.bs) (n0 + q.n)) fun e w'' => e = .returned v ∧ ∃ q : Q, w'' = Proofs.Ytemicgccgcmmbaa.ext w (bs0 ++ q.bs) (n0 + q.n) :=
  h.mono fun _ _ ⟨he, hm⟩ => ⟨he, q, hm.symm⟩

set_option maxHeartbeats 1000000 in set_option maxRecDepth 100000 in
theorem size_branch (P : Int) (wd : Nat) (pa sa ka : Option Addr) (pc sc kc : Nat) (n : Nd) (w : World) (hwd : wd ≤ 32) (hl : leafB n = false) (h : NdAt w pa sa ka n) (ho : NdOk n) (hsm : Small n) :
    Calls Try.prog 33 #[.agg #[.int .i64 P, .int .i64 wd], .agg #[.slice pa n.pairs.length pc, .slice sa n.seps.length sc, .slice ka n.kids.length kc]] w (Rets (.int .i64 (sizeN wd n : Nat)) w) := by
  have hl' : (decide (n.seps.length = 0 ∧ n.kids.length = 0)) = false := hl
  have hs : sizeN wd n = 1 + cntN n.kids.length + n.kids.length * (4 + wd) + (n.seps.map txN).sum := by unfold sizeN; rw [if_neg (by rw [hl]; decide)]
  have hns := ho.ns
  have hnk := ho.nk
  have hc9 := cntN_le9 n.kids.length (by omega)
  have hmul : n.kids.length * (4 + wd) ≤ n.kids.length * 36 := Nat.mul_le_mul_left _ (by omega)
  obtain ⟨y, hy⟩ : ∃ y, y = n.kids.length * (4 + wd) := ⟨_, rfl⟩
  rw [← hy] at hmul hs
  have hy36 : y ≤ 140737488352308 := by omega
  clear hmul
  have e0 : IntKind.i64.wrap (4 + (wd : Int)) = 4 + wd := IntWalk.i64_in _ (by omega)
  have e1 : IntKind.i64.wrap ((n.kids.length : Int) * (4 + wd)) = y := by rw [show (n.kids.length : Int) * (4 + wd) = (y : Int) by rw [hy]; simp]; exact IntWalk.i64_in _ (by omega)
  have e2 : IntKind.i64.wrap (1 + (cntN n.kids.length : Int)) = 1 + cntN n.kids.length := IntWalk.i64_in _ (by omega)
  have e3 : IntKind.i64.wrap (1 + (cntN n.kids.length : Int) + y) = 1 + cntN n.kids.length + y := IntWalk.i64_in _ (by omega)
  have HS := Lib.hid hs; have HL := Lib.hid hl'; clear hs hl hl'
  clear hy
  have H := Lib.hid h; have HSM := Lib.hid hsm; clear h ho hsm
  go_enter Try.func33, Try.ntmps33
  go_wp2_with fail
  refine (isLeaf_any _ _ _ _ _ _ _ _ _ _).mono ?_
  rintro e w' ⟨rfl, bs1, m1, rfl⟩
  rw [HL.out]
  go_wp2_with fail
  refine wp_region_ext (by kernel_rfl) (by kernel_rfl) ?_
  repeat (go_big_quiet_step ((go_at_call 73; exact Calls.quiet_pure2 (count_any _ _ (by omega)))))
  (refine wpQuiet_nil ?_; intro _ hw'; obtain ⟨⟨bsq, nq⟩, hw''⟩ := hw'; subst hw'')
  clear e0 e1 e2 e3
  go_wp2_with fail
  go_loopw [8, 10, 52] (fun x _ i wr => ∃ k z bs n', i = .int .i64 (k : Nat) ∧ k ≤ n.seps.length ∧ x = .int .i64 (z : Nat) ∧ z ≤ 20 + y + k * 20000 ∧ Hid (z = 1 + cntN n.kids.length + y + ((n.seps.take k).map txN).sum) ∧ wr = ext ((w.alloc (.cells #[.int .i64 P, .int .i64 wd] 23)).alloc (.cells #[.slice pa n.pairs.length pc, .slice sa n.seps.length sc, .slice ka n.kids.length kc] 30)) bs n') (fun _ _ i _ => n.seps.length - (intOf i).toNat)
  case atStart => exact ⟨0, 1 + cntN n.kids.length + y, _, _, rfl, by omega, by go_num, by omega, by show _ = _; simp, by (try simp only [ext_alloc, ext_drew, ext_drewN, ext_ext]); rfl⟩
  case round =>
    obtain ⟨k, z, bs, n', rfl, hk, rfl, hz, HZ, rfl⟩ := hrel
    by_cases hlt : k < n.seps.length
    · obtain ⟨x, hx⟩ : ∃ x, n.seps[k]? = some x := ⟨_, List.getElem?_eq_getElem hlt⟩
      obtain ⟨b, o, rfl, hb, cf1⟩ := H.out.ss k x hx
      have hx1 := HSM.out.ss x (List.mem_of_getElem? hx)
      have hst := sum_take txN _ _ _ hx
      have hp1 := txN_le hx1 (by omega)
      have HX := Lib.hid hst; clear hst hx
      go_wp2_with (go_at_call 74; refine (text_any _ _ (by omega)).mono ?_; rintro e w' ⟨rfl, rfl⟩)
      go_roundw
      case rel => exact ⟨k + 1, z + txN x, _, _, by go_num, by omega, by go_num, by omega, by show _ = _; rw [HX.out, HZ.out]; omega, by (try simp only [ext_alloc, ext_drew, ext_drewN, ext_ext]); rfl⟩
      case measure => simp [intOf]; omega
    · have hfin : Hid (sizeN wd n = z) := by show _ = _; rw [HS.out, HZ.out, List.take_of_length_le (by omega)]
      go_wp2_with fail
      go_ret
      exact ⟨ret_int (by rw [hfin.out]), (by (try simp only [alloc_ext, drew_ext, drewN_ext, ext_ext]); exact ⟨_, _, rfl⟩)⟩

theorem size_any (P : Int) (wd : Nat) (pa sa ka : Option Addr) (pc sc kc : Nat) (n : Nd) (w : World) (hwd : wd ≤ 32) (h : NdAt w pa sa ka n) (ho : NdOk n) (hsm : Small n) :
    Calls Try.prog 33 #[.agg #[.int .i64 P, .int .i64 wd], .agg #[.slice pa n.pairs.length pc, .slice sa n.seps.length sc, .slice ka n.kids.length kc]] w (Rets (.int .i64 (sizeN wd n : Nat)) w) := by
  cases hl : leafB n
  · exact size_branch P wd pa sa ka pc sc kc n w hwd hl h ho hsm
  · exact size_leaf P wd pa sa ka pc sc kc n w hl h ho hsm

theorem rises_len : ∀ (l : List Bs) (m : Nat) (pv : Option Bs), risesFrom m pv l = true → ∀ x ∈ l, 1 ≤ x.length ∧ x.length ≤ m
  | [], _, _, _ => by simp
  | k :: t, m, pv, h => by
    simp only [risesFrom, Bool.and_eq_true, decide_eq_true_eq] at h
    intro x hx
    rcases List.mem_cons.1 hx with rfl | hx
    · exact ⟨h.1.1.1, h.1.1.2⟩
    · exact rises_len t m (some k) h.2 x hx

theorem checkE_ok {p wd : Int} {n : Nd} (h : checkE p wd n = 0) : rightB p wd = true ∧ shapedB p.toNat wd n = true := by
  unfold checkE at h
  split at h
  · split at h
    · exact ⟨‹_›, ‹_›⟩
    · cases h
  · cases h
theorem leafB_iff {n : Nd} : leafB n = true ↔ n.seps = [] ∧ n.kids = [] := by
  unfold leafB
  rw [decide_eq_true_eq]
  constructor
  · rintro ⟨h1, h2⟩; exact ⟨List.eq_nil_of_length_eq_zero h1, List.eq_nil_of_length_eq_zero h2⟩
  · rintro ⟨h1, h2⟩; simp [h1, h2]
/-- A well shaped node is small. -/
theorem small_of {p wd : Int} {n : Nd} (h : checkE p wd n = 0) : Small n := by
  obtain ⟨hr, hs⟩ := checkE_ok h
  have hp := (rightB_iff.1 hr).1
  unfold shapedB at hs
  split at hs
  · rename_i hl
    obtain ⟨h1, h2⟩ := leafB_iff.1 hl
    simp only [Bool.and_eq_true, Bool.not_eq_true', List.any_eq_false, decide_eq_true_eq] at hs
    refine ⟨fun q hq => ?_, by rw [h1]; simp⟩
    have := rises_len _ _ _ hs.1 q.1 (List.mem_map.2 ⟨q, hq, rfl⟩)
    have := hs.2 q hq
    omega
  · simp only [Bool.and_eq_true, decide_eq_true_eq] at hs
    have hn : n.pairs = [] := List.eq_nil_of_length_eq_zero hs.1.1.1.1
    refine ⟨by rw [hn]; simp, fun q hq => ?_⟩
    have := rises_len _ _ _ hs.2 q hq
    omega

/-- What may answers. -/
def mayE (p wd : Int) (n : Nd) : Int := if checkE p wd n = 0 then (if p.toNat - 32 < sizeN wd.toNat n then 71 else 0) else checkE p wd n

/-- What Size answers. -/
def SizeE (p wd : Int) (n : Nd) : Nat := if checkE p wd n = 0 then sizeN wd.toNat n else 0

set_option maxHeartbeats 1000000 in set_option maxRecDepth 100000 in
theorem Size_any (p wd : Int) (pa sa ka : Option Addr) (pc sc kc : Nat) (n : Nd) (w : World) (h : NdAt w pa sa ka n) (ho : NdOk n) :
    Calls Try.prog 17 #[.agg #[.int .i64 p, .int .i64 wd], .agg #[.slice pa n.pairs.length pc, .slice sa n.seps.length sc, .slice ka n.kids.length kc]] w (Rets (.int .i64 (SizeE p wd n : Nat)) w) := by
  obtain ⟨c, hc⟩ : ∃ c, checkE p wd n = c := ⟨_, rfl⟩
  have HC := Lib.hid hc
  by_cases h0 : c = 0
  · subst h0
    have hsm := small_of hc
    have hr := rightB_iff.1 (checkE_ok hc).1
    obtain ⟨d, rfl⟩ := Int.eq_ofNat_of_zero_le (show 0 ≤ wd by omega)
    have hd : d ≤ 32 := by omega
    have H := Lib.hid h; have HO := Lib.hid ho; have HSM := Lib.hid hsm; clear h ho hsm hr hc
    go_enter Try.func17, Try.ntmps17
    go_wp2_with fail
    refine (check_any _ _ _ _ _ _ _ _ n _ (H.out.kp0 (((Kp.refl [] _).alloc _).alloc _)) HO.out).mono ?_
    rintro e w' ⟨rfl, bs, m, rfl⟩
    rw [HC.out]
    go_wp2_with fail
    refine (size_any _ d _ _ _ _ _ _ n _ hd (H.out.kp0 ((((Kp.refl [] _).alloc _).alloc _).ext _ _)) HO.out HSM.out).mono ?_
    rintro e w' ⟨rfl, bs1, m1, rfl⟩
    go_wp2_with fail
    go_ret
    exact ⟨ret_int (by unfold SizeE; rw [HC.out, if_pos rfl]; rfl), (by (try simp only [alloc_ext, drew_ext, drewN_ext, ext_ext]); exact ⟨_, _, rfl⟩)⟩
  · have hb : (c != 0) = true := by simpa using h0
    have H0 := Lib.hid h0
    have H := Lib.hid h; have HO := Lib.hid ho; clear h ho hc h0
    go_enter Try.func17, Try.ntmps17
    go_wp2_with fail
    refine (check_any _ _ _ _ _ _ _ _ n _ (H.out.kp0 (((Kp.refl [] _).alloc _).alloc _)) HO.out).mono ?_
    rintro e w' ⟨rfl, bs, m, rfl⟩
    rw [HC.out]
    go_wp2_with fail
    go_ret
    exact ⟨ret_int (by unfold SizeE; rw [HC.out, if_neg H0.out]; rfl), (by (try simp only [alloc_ext, drew_ext, drewN_ext, ext_ext]); exact ⟨_, _, rfl⟩)⟩

set_option maxHeartbeats 1000000 in set_option maxRecDepth 100000 in
theorem may_any (p wd : Int) (pa sa ka : Option Addr) (pc sc kc : Nat) (n : Nd) (w : World) (h : NdAt w pa sa ka n) (ho : NdOk n) :
    Calls Try.prog 29 #[.agg #[.int .i64 p, .int .i64 wd], .agg #[.slice pa n.pairs.length pc, .slice sa n.seps.length sc, .slice ka n.kids.length kc]] w (Rets (.int .i64 (mayE p wd n)) w) := by
  obtain ⟨c, hc⟩ : ∃ c, checkE p wd n = c := ⟨_, rfl⟩
  have HC := Lib.hid hc
  by_cases h0 : c = 0
  · subst h0
    have hsm := small_of hc
    have hr := rightB_iff.1 (checkE_ok hc).1
    obtain ⟨d, rfl⟩ := Int.eq_ofNat_of_zero_le (show 0 ≤ wd by omega)
    obtain ⟨q, rfl⟩ := Int.eq_ofNat_of_zero_le (show 0 ≤ p by omega)
    have hd : d ≤ 32 := by omega
    have hq : q ≤ 8192 := by omega
    have hq2 : 1024 ≤ q := by omega
    have hm : mayE q d n = if q - 32 < sizeN d n then 71 else 0 := by simp [mayE, hc]
    have HM := Lib.hid hm; clear hm
    have H := Lib.hid h; have HO := Lib.hid ho; have HSM := Lib.hid hsm; clear h ho hsm hr hc
    have hlo : ((q : Int) - 32 < (sizeN d n : Nat)) ∨ ¬ ((q : Int) - 32 < (sizeN d n : Nat)) := by omega
    rcases hlo with hlo | hlo
    all_goals
      go_enter Try.func29, Try.ntmps29
      go_wp2_with fail
      refine (check_any _ _ _ _ _ _ _ _ n _ (H.out.kp0 (((Kp.refl [] _).alloc _).alloc _)) HO.out).mono ?_
      rintro e w' ⟨rfl, bs, m, rfl⟩
      rw [HC.out]
      go_wp2_with fail
      refine wp_region_ext (by kernel_rfl) (by kernel_rfl) ?_
      repeat (go_big_quiet_step ((first | (go_at_call 10; exact Calls.quiet_ext2 (room_any _ _ _ (by omega) (by omega))) | (go_at_call 33; exact Calls.quiet_ext2 (size_any _ d _ _ _ _ _ _ n _ hd (H.out.kp0 ((((Kp.refl [] _).alloc _).alloc _).ext _ _)) HO.out HSM.out)))))
      (refine wpQuiet_nil ?_; intro _ hw'; obtain ⟨⟨bsq, nq⟩, hw''⟩ := hw'; subst hw'')
      go_wp2_with fail
      go_ret
      exact ⟨ret_int (by rw [HM.out]; split <;> omega), (by (try simp only [alloc_ext, drew_ext, drewN_ext, ext_ext]); exact ⟨_, _, rfl⟩)⟩
  · have hb : (c != 0) = true := by simpa using h0
    have H0 := Lib.hid h0
    have H := Lib.hid h; have HO := Lib.hid ho; clear h ho hc h0
    go_enter Try.func29, Try.ntmps29
    go_wp2_with fail
    refine (check_any _ _ _ _ _ _ _ _ n _ (H.out.kp0 (((Kp.refl [] _).alloc _).alloc _)) HO.out).mono ?_
    rintro e w' ⟨rfl, bs, m, rfl⟩
    rw [HC.out]
    go_wp2_with fail
    go_ret
    exact ⟨ret_int (by unfold mayE; rw [HC.out, if_neg H0.out]), (by (try simp only [alloc_ext, drew_ext, drewN_ext, ext_ext]); exact ⟨_, _, rfl⟩)⟩

end Go.Proofs.Ytemicgccgcmmbaa
