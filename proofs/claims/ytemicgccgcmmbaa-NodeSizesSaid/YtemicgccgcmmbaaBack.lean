/- NodeBack answers true of every frame and node. -/
import Derived.Test.YtemicgccgcmmbaaSame
import Derived.Test.YtemicgccgcmmbaaLives
namespace Go.Proofs.Ytemicgccgcmmbaa
set_option linter.unusedVariables false
set_option linter.unusedSimpArgs false
open Go Go.RowKit

theorem bare_bare (n : Nd) : pgN false n.bare = pgN false n := by
  simp [pgN, Nd.bare]
theorem bare_ok {n : Nd} (h : NdOk n) : NdOk n.bare :=
  ⟨h.np, h.ns, by simpa [Nd.bare] using h.nk, h.sp, h.ss, by intro k hk; simp only [Nd.bare, List.mem_map] at hk; obtain ⟨a, _, rfl⟩ := hk; simp⟩
theorem bare_page {n : Nd} {i : Nat} {k : Kd} (h : n.bare.kids[i]? = some k) : k.page = 0 := by
  simp only [Nd.bare, List.getElem?_map, Option.map_eq_some_iff] at h
  obtain ⟨a, _, rfl⟩ := h; rfl

/-- What is known of a node that has its forms. -/
theorem may_facts {p wd : Int} {n : Nd} (h : mayE p wd n = 0) : (1024 ≤ p ∧ p ≤ 8192) ∧ (1 ≤ wd ∧ wd ≤ 32) ∧ ((plainS p wd n).length : Int) + 4 * n.kids.length = SizeE p wd n ∧ (SizeE p wd n : Int) ≤ p - 32 := by
  obtain ⟨hc, hsz⟩ := mayE_ok h
  have hr' := rightB_iff.1 (checkE_ok hc).1
  obtain ⟨P, rfl⟩ := Int.eq_ofNat_of_zero_le (show 0 ≤ p by omega)
  obtain ⟨d, rfl⟩ := Int.eq_ofNat_of_zero_le (show 0 ≤ wd by omega)
  have hl := formB_len (pages := false) hc
  have hs : SizeE (P : Int) d n = sizeN d n := by unfold SizeE; rw [if_pos hc]; simp
  unfold plainS
  rw [if_pos h, hs]
  simp only [Int.toNat_natCast] at hsz ⊢
  simp only [Bool.false_eq_true, if_false] at hl
  omega
theorem pack_facts {p wd : Int} {n : Nd} (h : packE p wd n = 0) : (packS p wd n).length = SizeE p wd n := by
  obtain ⟨hc, hsz⟩ := mayE_ok (packE_may h)
  have hr' := rightB_iff.1 (checkE_ok hc).1
  obtain ⟨P, rfl⟩ := Int.eq_ofNat_of_zero_le (show 0 ≤ p by omega)
  obtain ⟨d, rfl⟩ := Int.eq_ofNat_of_zero_le (show 0 ≤ wd by omega)
  have hl := formB_len (pages := true) hc
  unfold packS SizeE
  rw [if_pos h, if_pos hc]
  simpa using hl

set_option maxHeartbeats 1000000 in set_option maxRecDepth 100000 in
theorem back_not (p wd : Int) (pa sa ka : Option Addr) (pc sc kc : Nat) (n : Nd) (w : World) (hm : ¬ mayE p wd n = 0) (h : NdAt w pa sa ka n) (ho : NdOk n) :
    Calls Try.prog 4 #[.agg #[.int .i64 p, .int .i64 wd], .agg #[.slice pa n.pairs.length pc, .slice sa n.seps.length sc, .slice ka n.kids.length kc]] w (Rets (.bool true) w) := by
  have he := may_packE hm
  have hs : packS p wd n = [] := by simp [packS, he]
  have ht : plainS p wd n = [] := by simp [plainS, hm]
  have b1 : (packE p wd n == 0) = false := by simpa using he
  have b2 : (packE p wd n != 0) = true := by simpa using he
  have b3 : (mayE p wd n != 0) = true := by simpa using hm
  have HS := Lib.hid hs; have HT := Lib.hid ht; have H := Lib.hid h; have HO := Lib.hid ho
  clear hs ht h ho he hm
  go_enter Try.func4, Try.ntmps4
  go_wp2_with fail
  refine (lives_any _).mono ?_
  rintro e w' ⟨rfl, bs0, m0, rfl⟩
  go_wp2_with fail
  refine (Pack_any p wd _ _ _ _ _ _ n _ (H.out.kp0 (((Kp.refl [] _).alloc _ |>.alloc _ |>.ext _ _))) HO.out).mono ?_
  rintro e w' ⟨rfl, bs1, m1, rfl⟩
  rw [HS.out]
  go_wp2_with fail
  refine (Plain_any p wd _ _ _ _ _ _ n _ (H.out.kp0 (((Kp.refl [] _).alloc _ |>.alloc _ |>.ext _ _))) HO.out).mono ?_
  rintro e w' ⟨rfl, bs2, m2, rfl⟩
  rw [HT.out]
  go_wp2_with fail
  go_ret
  exact ⟨rfl, by (try simp only [alloc_ext, drew_ext, drewN_ext, ext_ext]); exact ⟨_, _, rfl⟩⟩

theorem same_true (bare : Bool) (pa sa ka qa ta la : Option Addr) (pc sc kc qc tc lc : Nat) (x y : Nd) (w : World) (hx : NdAt w pa sa ka x) (hy : NdAt w qa ta la y) (ox : NdOk x) (oy : NdOk y) (h : pgN (!bare) x = pgN (!bare) y) :
    Calls Try.prog 16 #[.agg #[.slice pa x.pairs.length pc, .slice sa x.seps.length sc, .slice ka x.kids.length kc], .agg #[.slice qa y.pairs.length qc, .slice ta y.seps.length tc, .slice la y.kids.length lc], .bool bare] w
      (Rets (.bool true) w) := by
  have := same_any bare pa sa ka qa ta la pc sc kc qc tc lc x y w hx hy ox oy
  rwa [decide_eq_true h] at this
theorem Size_z {p wd : Int} {pa sa ka : Option Addr} {pc sc kc : Nat} {n : Nd} {w : World} {z : Nat} (hz : SizeE p wd n = z) (h : NdAt w pa sa ka n) (ho : NdOk n) :
    Calls Try.prog 17 #[.agg #[.int .i64 p, .int .i64 wd], .agg #[.slice pa n.pairs.length pc, .slice sa n.seps.length sc, .slice ka n.kids.length kc]] w (Rets (.int .i64 (z : Nat)) w) := by
  have := Size_any p wd pa sa ka pc sc kc n w h ho
  rwa [hz] at this

set_option maxHeartbeats 1000000 in set_option maxRecDepth 100000 in
theorem back_any (p wd : Int) (pa sa ka : Option Addr) (pc sc kc : Nat) (n : Nd) (w : World) (h : NdAt w pa sa ka n) (ho : NdOk n) :
    Calls Try.prog 4 #[.agg #[.int .i64 p, .int .i64 wd], .agg #[.slice pa n.pairs.length pc, .slice sa n.seps.length sc, .slice ka n.kids.length kc]] w (Rets (.bool true) w) := by
  by_cases hm : mayE p wd n = 0
  case neg => exact back_not p wd pa sa ka pc sc kc n w hm h ho
  obtain ⟨⟨hp1, hp2⟩, ⟨hw1, hw2⟩, hlen, hsz⟩ := may_facts hm
  have hnk := ho.nk
  have hrd := read_plain hm ho
  have hlt : (plainS p wd n).length ≤ 3909374676453 := by omega
  obtain ⟨z, hz⟩ : ∃ z : Nat, SizeE p wd n = z := ⟨_, rfl⟩
  rw [hz] at hlen hsz
  have HZ := Lib.hid hz; have HM := Lib.hid hm; have HR := Lib.hid hrd; have H := Lib.hid h; have HO := Lib.hid ho
  have b7 : (((plainS p wd n).length : Int) != (z : Int) - 4 * (n.kids.length : Int)) = false := by simp only [bne_eq_false_iff_eq]; omega
  have e1 : IntKind.i64.wrap (4 * (n.kids.length : Int)) = 4 * n.kids.length := IntWalk.i64_in _ (by omega)
  have e2 : IntKind.i64.wrap ((z : Int) - 4 * (n.kids.length : Int)) = z - 4 * n.kids.length := IntWalk.i64_in _ (by omega)
  have hz9 : (z : Int) ≤ 8192 := by omega
  have hbk : n.bare.kids.length ≤ 3909374676453 := by simpa [Nd.bare] using hnk
  clear hlen
  have hb0 : Blk ((w.alloc (.cells #[.int .i64 p, .int .i64 wd] 23)).alloc (.cells #[.slice pa n.pairs.length pc, .slice sa n.seps.length sc, .slice ka n.kids.length kc] 30)) w.heap.size 23 #[.int .i64 p, .int .i64 wd] := (Blk.new w _ _).alloc _
  have hb1 : Blk ((w.alloc (.cells #[.int .i64 p, .int .i64 wd] 23)).alloc (.cells #[.slice pa n.pairs.length pc, .slice sa n.seps.length sc, .slice ka n.kids.length kc] 30)) (w.heap.size + 1) 30 #[.slice pa n.pairs.length pc, .slice sa n.seps.length sc, .slice ka n.kids.length kc] := by
    have h := Blk.new (w.alloc (.cells #[.int .i64 p, .int .i64 wd] 23)) 30 #[.slice pa n.pairs.length pc, .slice sa n.seps.length sc, .slice ka n.kids.length kc]
    simpa using h
  have B0 := Lib.hid hb0; have B1 := Lib.hid hb1
  clear hb0 hb1
  rcases hd : (packE p wd n == 0) with _ | _
  · -- no form with pages
    have hd' : (packE p wd n != 0) = true := by simpa using hd
    clear hrd h ho hm hz
    go_enter Try.func4, Try.ntmps4
    go_wp2_with fail
    refine (lives_any _).mono ?_
    rintro e w' ⟨rfl, bs0, m0, rfl⟩
    go_wp2_with fail
    refine (Pack_any p wd _ _ _ _ _ _ n _ (H.out.kp0 (((Kp.refl [] _).alloc _ |>.alloc _ |>.ext _ _))) HO.out).mono ?_
    rintro e w' ⟨rfl, bs1, m1, rfl⟩
    go_wp2_with fail
    refine (Plain_any p wd _ _ _ _ _ _ n _ (H.out.kp0 (((Kp.refl [] _).alloc _ |>.alloc _ |>.ext _ _))) HO.out).mono ?_
    rintro e w' ⟨rfl, bs2, m2, rfl⟩
    rw [HM.out]
    go_wp2_with fail
    refine (Read_any p wd _ _ hlt).mono ?_
    rintro e w2 h2
    rw [HR.out] at h2
    obtain ⟨pa', sa', ka', pc', sc', kc', rfl, nd, k2, hnew⟩ := h2
    clear hnew
    have C0 := (B0.out.kp ((Kp.refl [] _).ext _ _) (by simp)).kp k2 (by simp)
    have C1 := (B1.out.kp ((Kp.refl [] _).ext _ _) (by simp)).kp k2 (by simp)
    have c0 := C0.cell 0; have c1 := C0.cell 1; have c2 := C1.cell 0; have c3 := C1.cell 1; have c4 := C1.cell 2
    have g0 := C0.lt; have g1 := C1.lt
    simp only [List.getElem?_toArray, List.getElem?_cons_zero, List.getElem?_cons_succ] at c0 c1 c2 c3 c4
    have ND := Lib.hid nd
    have KW : Hid (Kp [] w w2) := Lib.hid (((Kp.refl [] w).alloc _ |>.alloc _ |>.ext _ _).trans k2)
    have H2 : Hid (NdAt w2 pa sa ka n) := Lib.hid (H.out.kp0 KW.out)
    clear C0 C1 nd k2 hd hd' hlt
    go_wp2_with fail
    refine wp_region_ext (by kernel_rfl) (by kernel_rfl) ?_
    repeat (go_big_quiet_step (first | (go_at_call 16; exact Calls.quiet_ext (same_true true _ _ _ _ _ _ _ _ _ _ _ _ n.bare n _ (ND.out.kp0 ((Kp.refl [] _).alloc _ |>.ext _ _)) (H2.out.kp0 ((Kp.refl [] _).alloc _ |>.ext _ _)) (bare_ok HO.out) HO.out (bare_bare n))) | (go_at_call 17; exact Calls.quiet_ext (Size_z HZ.out (H2.out.kp0 ((Kp.refl [] _).alloc _ |>.ext _ _)) HO.out))))
    (refine wpQuiet_nil ?_; intro _ hw'; obtain ⟨⟨bsq, nq⟩, hw''⟩ := hw'; subst hw'')
    clear e1 e2
    go_wp2_with fail
    go_loopw [4, 13] (fun _ i wr => ∃ k, i = .int .i64 (k : Nat) ∧ k ≤ n.bare.kids.length ∧ wr = ext (w2.alloc (.cells #[.slice pa' n.bare.pairs.length pc', .slice sa' n.bare.seps.length sc', .slice ka' n.bare.kids.length kc'] 30)) bsq nq) (fun _ i _ => n.bare.kids.length - (intOf i).toNat)
    case atStart => exact ⟨0, rfl, Nat.zero_le _, rfl⟩
    case round =>
      obtain ⟨k, rfl, hk, rfl⟩ := hrel
      by_cases hlt : k < n.bare.kids.length
      · obtain ⟨x, hx⟩ : ∃ x, n.bare.kids[k]? = some x := ⟨_, List.getElem?_eq_getElem hlt⟩
        obtain ⟨b, o, rfl, hb, r1⟩ := ND.out.ks k x hx
        have cp := (rowAt?_cell r1).2 0 _ (Kd.get0 x)
        rw [bare_page hx] at cp
        simp only [Addr.add_lit, Nat.add_zero] at cp
        clear r1 hx
        go_wp2_with fail
        go_roundw
        case rel => exact ⟨k + 1, by go_num, by omega, by first | trivial | rfl⟩
        case measure => simp [intOf]; omega
      · go_wp2_with fail
        go_ret
        exact ⟨rfl, (KW.out.alloc _ |>.ext _ _).to_ext⟩
  · have hpe : packE p wd n = 0 := by simpa using hd
    have hup := unpack_pack hpe ho
    have hpl := pack_facts hpe
    rw [hz] at hpl
    have hpl' : (packS p wd n).length ≤ 3909374676453 := by omega
    have b5 : (((packS p wd n).length : Int) != (z : Int)) = false := by simp only [bne_eq_false_iff_eq]; omega
    have b6 : ((packS p wd n).length : Int) ≤ p - 32 := by omega
    have HU := Lib.hid hup; have HE := Lib.hid hpe
    clear hrd h ho hm hz hup hpe hpl
    go_enter Try.func4, Try.ntmps4
    go_wp2_with fail
    refine (lives_any _).mono ?_
    rintro e w' ⟨rfl, bs0, m0, rfl⟩
    go_wp2_with fail
    refine (Pack_any p wd _ _ _ _ _ _ n _ (H.out.kp0 (((Kp.refl [] _).alloc _ |>.alloc _ |>.ext _ _))) HO.out).mono ?_
    rintro e w' ⟨rfl, bs1, m1, rfl⟩
    rw [HE.out]
    go_wp2_with fail
    refine (Unpack_any p wd _ _ hpl').mono ?_
    rintro e w1 h1
    rw [HU.out] at h1
    obtain ⟨pa1, sa1, ka1, pc1, sc1, kc1, rfl, nd, k1, hnew⟩ := h1
    clear hnew
    have C0 := (B0.out.kp ((Kp.refl [] _).ext _ _) (by simp)).kp k1 (by simp)
    have C1 := (B1.out.kp ((Kp.refl [] _).ext _ _) (by simp)).kp k1 (by simp)
    have c0 := C0.cell 0; have c1 := C0.cell 1; have c2 := C1.cell 0; have c3 := C1.cell 1; have c4 := C1.cell 2
    have g0 := C0.lt; have g1 := C1.lt
    simp only [List.getElem?_toArray, List.getElem?_cons_zero, List.getElem?_cons_succ] at c0 c1 c2 c3 c4
    have ND1 := Lib.hid nd
    have KW1 : Hid (Kp [] w w1) := Lib.hid (((Kp.refl [] w).alloc _ |>.alloc _ |>.ext _ _).trans k1)
    have H1 : Hid (NdAt w1 pa sa ka n) := Lib.hid (H.out.kp0 KW1.out)
    have D0 := Lib.hid C0; have D1 := Lib.hid C1
    clear C0 C1 nd k1
    go_wp2_with fail
    refine (same_true false _ _ _ _ _ _ _ _ _ _ _ _ n n _ (ND1.out.kp0 ((Kp.refl [] _).alloc _)) (H1.out.kp0 ((Kp.refl [] _).alloc _)) HO.out HO.out rfl).mono ?_
    rintro e w' ⟨rfl, bs3, m3, rfl⟩
    go_wp2_with fail
    refine (Size_z HZ.out (H1.out.kp0 ((Kp.refl [] _).alloc _ |>.ext _ _)) HO.out).mono ?_
    rintro e w' ⟨rfl, bs4, m4, rfl⟩
    go_wp2_with fail
    refine (Plain_any p wd _ _ _ _ _ _ n _ (H1.out.kp0 (((Kp.refl [] _).alloc _ |>.ext _ _))) HO.out).mono ?_
    rintro e w' ⟨rfl, bs2, m2, rfl⟩
    rw [HM.out]
    clear c0 c1 c2 c3 c4 g0 g1 b5 b6 hpl'
    have c0 := D0.out.cell 0; have c1 := D0.out.cell 1; have g0 := D0.out.lt
    simp only [List.getElem?_toArray, List.getElem?_cons_zero, List.getElem?_cons_succ] at c0 c1
    go_wp2_with fail
    clear c0 c1 g0
    refine (Read_any p wd _ _ hlt).mono ?_
    rintro e w2 h2
    rw [HR.out] at h2
    obtain ⟨pa', sa', ka', pc', sc', kc', rfl, nd, k2, hnew⟩ := h2
    clear hnew
    have C0 := ((D0.out.alloc _).kp ((Kp.refl [] _).ext _ _) (by simp)).kp k2 (by simp)
    have C1 := ((D1.out.alloc _).kp ((Kp.refl [] _).ext _ _) (by simp)).kp k2 (by simp)
    have c0 := C0.cell 0; have c1 := C0.cell 1; have c2 := C1.cell 0; have c3 := C1.cell 1; have c4 := C1.cell 2
    have g0 := C0.lt; have g1 := C1.lt
    simp only [List.getElem?_toArray, List.getElem?_cons_zero, List.getElem?_cons_succ] at c0 c1 c2 c3 c4
    have ND := Lib.hid nd
    have KW : Hid (Kp [] w w2) := Lib.hid ((KW1.out.alloc _ |>.ext _ _).trans k2)
    have H2 : Hid (NdAt w2 pa sa ka n) := Lib.hid (H.out.kp0 KW.out)
    clear C0 C1 nd k2 hd hlt
    go_wp2_with fail
    refine wp_region_ext (by kernel_rfl) (by kernel_rfl) ?_
    repeat (go_big_quiet_step (first | (go_at_call 16; exact Calls.quiet_ext (same_true true _ _ _ _ _ _ _ _ _ _ _ _ n.bare n _ (ND.out.kp0 ((Kp.refl [] _).alloc _ |>.ext _ _)) (H2.out.kp0 ((Kp.refl [] _).alloc _ |>.ext _ _)) (bare_ok HO.out) HO.out (bare_bare n))) | (go_at_call 17; exact Calls.quiet_ext (Size_z HZ.out (H2.out.kp0 ((Kp.refl [] _).alloc _ |>.ext _ _)) HO.out))))
    (refine wpQuiet_nil ?_; intro _ hw'; obtain ⟨⟨bsq, nq⟩, hw''⟩ := hw'; subst hw'')
    clear e1 e2
    go_wp2_with fail
    go_loopw [4, 13] (fun _ i wr => ∃ k, i = .int .i64 (k : Nat) ∧ k ≤ n.bare.kids.length ∧ wr = ext (w2.alloc (.cells #[.slice pa' n.bare.pairs.length pc', .slice sa' n.bare.seps.length sc', .slice ka' n.bare.kids.length kc'] 30)) bsq nq) (fun _ i _ => n.bare.kids.length - (intOf i).toNat)
    case atStart => exact ⟨0, rfl, Nat.zero_le _, rfl⟩
    case round =>
      obtain ⟨k, rfl, hk, rfl⟩ := hrel
      by_cases hlt : k < n.bare.kids.length
      · obtain ⟨x, hx⟩ : ∃ x, n.bare.kids[k]? = some x := ⟨_, List.getElem?_eq_getElem hlt⟩
        obtain ⟨b, o, rfl, hb, r1⟩ := ND.out.ks k x hx
        have cp := (rowAt?_cell r1).2 0 _ (Kd.get0 x)
        rw [bare_page hx] at cp
        simp only [Addr.add_lit, Nat.add_zero] at cp
        clear r1 hx
        go_wp2_with fail
        go_roundw
        case rel => exact ⟨k + 1, by go_num, by omega, by first | trivial | rfl⟩
        case measure => simp [intOf]; omega
      · go_wp2_with fail
        go_ret
        exact ⟨rfl, (KW.out.alloc _ |>.ext _ _).to_ext⟩

end Go.Proofs.Ytemicgccgcmmbaa
