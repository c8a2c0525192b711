/- NodeSizes answers true of every frame, node and page. -/
import Derived.Test.YtemicgccgcmmbaaSizes0
namespace Go.Proofs.Ytemicgccgcmmbaa
set_option linter.unusedVariables false
set_option linter.unusedSimpArgs false
open Go Go.RowKit

theorem SzI.kid {w wr : World} {lo B8 : Nat} {fr nd : Array Value} {pb sb kb : Option Addr} {pd sd kd : Nat} {n : Nd} {ks : List Kd} (h : SzI w wr lo B8 fr nd pb sb kb pd sd kd n ks) {k : Nat} {x : Kd} (hx : ks[k]? = some x) :
    ∃ g, kb = some ⟨g, 0, none⟩ ∧ wr.cell? ⟨g, k * 33, none⟩ = some (.int .u32 (x.page : Int)) ∧ wr.frozen? ⟨g, k * 33, none⟩ = false ∧ g < wr.heap.size := by
  rcases h.own.ks.block.2 with ⟨_, h1, _⟩ | ⟨g, cur, h1, hb, _⟩
  · have := (List.getElem?_eq_some_iff.1 hx).1
    simp only at h1; omega
  · refine ⟨g, h1, ?_, hb.frozen _, hb.lt⟩
    obtain ⟨b, o, hk, _, r1⟩ := h.own.at.ks k x hx
    rw [h1] at hk
    cases hk
    have cp := (rowAt?_cell r1).2 0 _ (Kd.get0 x)
    simpa [Addr.add_lit] using cp
theorem SzI.pairs {w wr : World} {lo B8 : Nat} {fr nd : Array Value} {pb sb kb : Option Addr} {pd sd kd : Nat} {n : Nd} {ks : List Kd} (h : SzI w wr lo B8 fr nd pb sb kb pd sd kd n ks) (h0 : 0 < n.pairs.length) :
    ∃ g, pb = some ⟨g, 0, none⟩ ∧ n.pairs.length ≤ pd ∧ pd ≤ maxLen := by
  rcases h.own.ps.block.2 with ⟨_, h1, _⟩ | ⟨g, cur, h1, hb, h2, h3, _⟩
  · simp only at h1; omega
  · exact ⟨g, h1, h2, h3⟩
theorem SzI.ok {w wr : World} {lo B8 : Nat} {fr nd : Array Value} {pb sb kb : Option Addr} {pd sd kd : Nat} {n : Nd} {ks : List Kd} (h : SzI w wr lo B8 fr nd pb sb kb pd sd kd n ks) (ho : NdOk n) : NdOk ⟨n.pairs, n.seps, ks⟩ :=
  ⟨ho.np, ho.ns, by simp only; rw [h.len]; exact ho.nk, ho.sp, ho.ss, h.pg⟩

theorem Size_at {p wd : Int} {pa sa ka : Option Addr} {lp ls lk pc sc kc : Nat} {n : Nd} {w : World} {z : Nat} (hz : SizeE p wd n = z) (h : NdAt w pa sa ka n) (ho : NdOk n) (e1 : n.pairs.length = lp) (e2 : n.seps.length = ls) (e3 : n.kids.length = lk) :
    Calls Try.prog 17 #[.agg #[.int .i64 p, .int .i64 wd], .agg #[.slice pa lp pc, .slice sa ls sc, .slice ka lk kc]] w (Rets (.int .i64 (z : Nat)) w) := by
  subst e1 e2 e3
  exact Size_z hz h ho

set_option maxHeartbeats 1000000 in set_option maxRecDepth 100000 in
theorem sizes_not (p wd : Int) (pa sa ka : Option Addr) (pc sc kc : Nat) (n : Nd) (pg : Nat) (w : World) (hc : ¬ checkE p wd n = 0) (h : NdAt w pa sa ka n) (ho : NdOk n) :
    Calls Try.prog 6 #[.agg #[.int .i64 p, .int .i64 wd], .agg #[.slice pa n.pairs.length pc, .slice sa n.seps.length sc, .slice ka n.kids.length kc], .int .u32 pg] w (Rets (.bool true) w) := by
  have hz : SizeE p wd n = 0 := by unfold SizeE; rw [if_neg hc]
  have b1 : (checkE p wd n != 0) = true := by simpa using hc
  have HZ := Lib.hid hz; have H := Lib.hid h; have HO := Lib.hid ho
  clear hc hz h ho
  go_enter Try.func6, Try.ntmps6
  go_wp2_with fail
  refine (lives_any _).mono ?_
  rintro e w' ⟨rfl, bs0, m0, rfl⟩
  go_wp2_with fail
  refine (Size_z HZ.out (H.out.kp0 (((Kp.refl [] _).alloc _ |>.alloc _ |>.ext _ _))) HO.out).mono ?_
  rintro e w' ⟨rfl, bs1, m1, rfl⟩
  go_wp2_with fail
  refine (check_any p wd _ _ _ _ _ _ n _ (H.out.kp0 (((Kp.refl [] _).alloc _ |>.alloc _ |>.ext _ _))) HO.out).mono ?_
  rintro e w' ⟨rfl, bs2, m2, rfl⟩
  go_wp2_with fail
  go_ret
  exact ⟨rfl, by (try simp only [alloc_ext, drew_ext, drewN_ext, ext_ext]); exact ⟨_, _, rfl⟩⟩

set_option maxHeartbeats 1000000 in set_option maxRecDepth 100000 in
theorem sizes_any (p wd : Int) (pa sa ka : Option Addr) (pc sc kc : Nat) (n : Nd) (pg : Nat) (w : World) (hpg : pg < 4294967296) (h : NdAt w pa sa ka n) (ho : NdOk n) :
    Calls Try.prog 6 #[.agg #[.int .i64 p, .int .i64 wd], .agg #[.slice pa n.pairs.length pc, .slice sa n.seps.length sc, .slice ka n.kids.length kc], .int .u32 pg] w (Rets (.bool true) w) := by
  by_cases hc : checkE p wd n = 0
  case neg => exact sizes_not p wd pa sa ka pc sc kc n pg w hc h ho
  have hr' := rightB_iff.1 (checkE_ok hc).1
  obtain ⟨P, rfl⟩ := Int.eq_ofNat_of_zero_le (show 0 ≤ p by omega)
  obtain ⟨d, rfl⟩ := Int.eq_ofNat_of_zero_le (show 0 ≤ wd by omega)
  have hP : P ≤ 8192 := by omega
  have hd : d ≤ 32 := by omega
  clear hr'
  obtain ⟨s2, s3⟩ := size_bounds hc ho
  obtain ⟨z, hz⟩ : ∃ z : Nat, SizeE P d n = z := ⟨_, rfl⟩
  rw [hz] at s2 s3
  have hnp := ho.np; have hnk := ho.nk
  have hA : n.pairs.length * (P / 16 + P / 8 + 4) ≤ n.pairs.length * 1540 := Nat.mul_le_mul_left _ (by omega)
  have hB : n.kids.length * (P / 16 + 6 + d) ≤ n.kids.length * 550 := Nat.mul_le_mul_left _ (by omega)
  obtain ⟨A, ha⟩ : ∃ A, n.pairs.length * (P / 16 + P / 8 + 4) = A := ⟨_, rfl⟩
  obtain ⟨B, hb⟩ : ∃ B, n.kids.length * (P / 16 + 6 + d) = B := ⟨_, rfl⟩
  have e1 : IntKind.i64.wrap ((n.pairs.length : Int) * ((P : Int) / 16 + (P : Int) / 8 + 4)) = A := by
    rw [show (n.pairs.length : Int) * ((P : Int) / 16 + (P : Int) / 8 + 4) = (A : Int) by rw [← ha]; simp]
    exact IntWalk.i64_in _ (by omega)
  have e2 : IntKind.i64.wrap ((n.kids.length : Int) * ((P : Int) / 16 + 6 + (d : Int))) = B := by
    rw [show (n.kids.length : Int) * ((P : Int) / 16 + 6 + (d : Int)) = (B : Int) by rw [← hb]; simp]
    exact IntWalk.i64_in _ (by omega)
  rw [ha] at hA s3
  rw [hb] at hB s3
  have hA9 : A ≤ 6772991627100160 := by omega
  have hB9 : B ≤ 2150156072049150 := by omega
  have HL := Lib.hid (fun (ks : List Kd) (x : Pr) hk h1 h2 h3 => size_less (ks := ks) (x := x) hc hk h1 h2 h3)
  clear ha hb hA hB
  have HC := Lib.hid hc; have HZ := Lib.hid hz; have H := Lib.hid h; have HO := Lib.hid ho
  clear hc hz h ho
  have E1 := Lib.hid e1; have E2 := Lib.hid e2
  clear e1 e2
  have hb0 : Blk ((w.alloc (.cells #[.int .i64 (P : Int), .int .i64 (d : Int)] 23)).alloc (.cells #[.slice pa n.pairs.length pc, .slice sa n.seps.length sc, .slice ka n.kids.length kc] 30)) w.heap.size 23 #[.int .i64 (P : Int), .int .i64 (d : Int)] := (Blk.new w _ _).alloc _
  have hb1 : Blk ((w.alloc (.cells #[.int .i64 (P : Int), .int .i64 (d : Int)] 23)).alloc (.cells #[.slice pa n.pairs.length pc, .slice sa n.seps.length sc, .slice ka n.kids.length kc] 30)) (w.heap.size + 1) 30 #[.slice pa n.pairs.length pc, .slice sa n.seps.length sc, .slice ka n.kids.length kc] := by
    have h := Blk.new (w.alloc (.cells #[.int .i64 (P : Int), .int .i64 (d : Int)] 23)) 30 #[.slice pa n.pairs.length pc, .slice sa n.seps.length sc, .slice ka n.kids.length kc]
    simpa using h
  have B0 := Lib.hid hb0; have B1 := Lib.hid hb1
  clear hb0 hb1
  go_enter Try.func6, Try.ntmps6
  go_wp2_with fail
  refine (lives_any _).mono ?_
  rintro e w' ⟨rfl, bs0, m0, rfl⟩
  go_wp2_with fail
  refine (Size_z HZ.out (H.out.kp0 (((Kp.refl [] _).alloc _ |>.alloc _ |>.ext _ _))) HO.out).mono ?_
  rintro e w' ⟨rfl, bs1, m1, rfl⟩
  go_wp2_with fail
  refine (Check_0 HC.out (H.out.kp0 (((Kp.refl [] _).alloc _ |>.alloc _ |>.ext _ _))) HO.out).mono ?_
  rintro e w' ⟨rfl, bs2, m2, rfl⟩
  go_wp2_with fail
  refine (copy_any _ _ _ _ _ _ n _ (H.out.kp0 (((Kp.refl [] _).alloc _ |>.alloc _ |>.ext _ _))) HO.out).mono ?_
  rintro e w1 ⟨pb, sb, kb, pd, sd, kd, rfl, ow, k1⟩
  have hlo := k1.size
  obtain ⟨LO, hLO, SI⟩ : ∃ LO, LO ≤ w1.heap.size ∧ Hid (SzI w (w1.alloc (.cells #[.slice pb n.pairs.length pd, .slice sb n.seps.length sd, .slice kb n.kids.length kd] 30)) LO w1.heap.size #[.int .i64 (P : Int), .int .i64 (d : Int)] #[.slice pa n.pairs.length pc, .slice sa n.seps.length sc, .slice ka n.kids.length kc] pb sb kb pd sd kd n n.kids) :=
    ⟨_, hlo, Lib.hid (SzI.start HO.out (B0.out.kp ((Kp.refl [] _).ext _ _) (by simp)) (B1.out.kp ((Kp.refl [] _).ext _ _) (by simp)) (((Kp.refl [] w).alloc _ |>.alloc _ |>.ext _ _)) k1 ow)⟩
  clear ow k1 hlo
  go_wp2_with fail
  go_loopw [9] (fun i wr => ∃ k ks, i = .int .i64 (k : Nat) ∧ k ≤ n.kids.length ∧ Hid (SzI w wr LO w1.heap.size #[.int .i64 (P : Int), .int .i64 (d : Int)] #[.slice pa n.pairs.length pc, .slice sa n.seps.length sc, .slice ka n.kids.length kc] pb sb kb pd sd kd n ks)) (fun i _ => n.kids.length - (intOf i).toNat)
  case atStart => exact ⟨0, n.kids, rfl, Nat.zero_le _, SI⟩
  case round =>
    clear SI
    obtain ⟨k, ks, rfl, hk, SI⟩ := hrel
    have c5 := SI.out.b8.cell 0; have c6 := SI.out.b8.cell 1; have c7 := SI.out.b8.cell 2; have g8 := SI.out.b8.lt
    simp only [List.getElem?_toArray, List.getElem?_cons_zero, List.getElem?_cons_succ] at c5 c6 c7
    by_cases hlt : k < n.kids.length
    · obtain ⟨x, hx⟩ : ∃ x, ks[k]? = some x := ⟨_, List.getElem?_eq_getElem (by rw [SI.out.len]; exact hlt)⟩
      obtain ⟨g, rfl, cp, fp, gl⟩ := SI.out.kid hx
      have HX := Lib.hid hx
      clear hx
      go_wp2_with fail
      go_roundw
      case rel =>
        have hv : (((pg + k) % 4294967296 : Nat) : Int) = ((pg : Int) + k) % 4294967296 := by omega
        have h := SI.out.put HX.out ((pg + k) % 4294967296) (by omega)
        rw [hv] at h
        exact ⟨k + 1, _, by go_num, by omega, Lib.hid h⟩
      case measure => simp [intOf]; omega
    · have hlen := SI.out.len
      have d0 := SI.out.b0.cell 0; have d1 := SI.out.b0.cell 1; have d2 := SI.out.b1.cell 0; have d3 := SI.out.b1.cell 1; have d4 := SI.out.b1.cell 2
      have d5 := SI.out.b0.lt; have d6 := SI.out.b1.lt
      have f8 := SI.out.b8.frozen 0
      have d7 : w.heap.size + 1 < w1.heap.size := by have := SI.out.lw; omega
      simp only [List.getElem?_toArray, List.getElem?_cons_zero, List.getElem?_cons_succ] at d0 d1 d2 d3 d4
      have N1 : Hid (NdAt wr pa sa ka n) := Lib.hid (H.out.kp0 SI.out.kp)
      have N2 : Hid (NdAt wr pb sb kb ⟨n.pairs, n.seps, ks⟩) := Lib.hid SI.out.own.at
      have O2 := Lib.hid (SI.out.ok HO.out)
      have Z2 : Hid (SizeE P d ⟨n.pairs, n.seps, ks⟩ = z) := Lib.hid ((size_pages SI.out.sm).trans HZ.out)
      have KW := Lib.hid SI.out.kp
      have HLEN := Lib.hid hlen
      clear hlen
      have e1 := E1.out; have e2 := E2.out
      by_cases h0 : 0 < n.pairs.length
      case neg =>
        go_wp2_with fail
        refine (Size_at Z2.out N2.out O2.out rfl rfl HLEN.out).mono ?_
        rintro e w' ⟨rfl, bs3, m3, rfl⟩
        clear e1 e2
        go_wp2_with fail
        go_ret
        exact ⟨rfl, (KW.out.ext _ _).to_ext⟩
      by_cases h1 : n.pairs.length < 128
      case neg =>
        go_wp2_with fail
        refine (Size_at Z2.out N2.out O2.out rfl rfl HLEN.out).mono ?_
        rintro e w' ⟨rfl, bs3, m3, rfl⟩
        clear e1 e2
        go_wp2_with fail
        go_ret
        exact ⟨rfl, (KW.out.ext _ _).to_ext⟩
      obtain ⟨gp, rfl, hcap, hmax⟩ := SI.out.pairs h0
      obtain ⟨y, hy⟩ : ∃ y, n.pairs[n.pairs.length - 1]? = some y := ⟨_, List.getElem?_eq_getElem (by omega)⟩
      obtain ⟨b, o, rfl, hb, cf1, cf2⟩ := N1.out.ps _ y hy
      obtain ⟨dd, hd1, hd2, hd3⟩ := HL.out ks y SI.out.sm hy h0 h1
      obtain ⟨z2, hz2⟩ : ∃ z2 : Nat, SizeE P d ⟨n.pairs.take (n.pairs.length - 1), n.seps, ks⟩ = z2 := ⟨_, rfl⟩
      rw [HZ.out, hz2] at hd1
      have hsp := HO.out.sp y (List.mem_of_getElem? hy)
      have hzz : z = z2 + dd := hd1
      have hz9 : z2 ≤ z := by omega
      have hdd : ((z : Int) - (z2 : Int)) = dd := by omega
      have Z3 := Lib.hid hz2
      have O3 : Hid (NdOk ⟨n.pairs.take (n.pairs.length - 1), n.seps, ks⟩) := Lib.hid ⟨by have := O2.out.np; simp at this ⊢; omega, O2.out.ns, O2.out.nk, fun p hp => O2.out.sp p (List.mem_of_mem_take hp), O2.out.ss, O2.out.pg⟩
      have N3 : Hid (NdAt wr (some ⟨gp, 0, none⟩) sb kb ⟨n.pairs.take (n.pairs.length - 1), n.seps, ks⟩) := Lib.hid ⟨N2.out.ps.take _, N2.out.ss, N2.out.ks⟩
      have FH : Hid (∀ g ∈ ab (some (⟨gp, 0, none⟩ : Addr)) ++ ab sb ++ ab kb, g ∉ [w1.heap.size]) := Lib.hid (fun g hg => by have := SI.out.hi g hg; simp; omega)
      have hgp : gp < wr.heap.size := SI.out.own.ps.lt gp (by simp [ab])
      clear hy hz2 hd1 hzz
      have q1 : ((y.1.length : Int) + (y.2.length : Int) + 2 ≤ (z : Int) - (z2 : Int)) := by omega
      have q2 : ((z : Int) - (z2 : Int) ≤ (y.1.length : Int) + (y.2.length : Int) + 4) := by omega
      clear hdd
      go_wp2_with fail
      refine (Size_at Z2.out N2.out O2.out rfl rfl HLEN.out).mono ?_
      rintro e w' ⟨rfl, bs3, m3, rfl⟩
      clear e1 e2
      go_wp2_with fail
      refine (Size_at Z3.out (NdAt.kp (S := [w1.heap.size]) N3.out (by repeat first | exact Kp.refl _ _ | refine Kp.ext ?_ _ _ | refine Kp.alloc ?_ _ | refine Kp.setCell ?_ _ (.inr (by simp))) (fun g hg => FH.out g (by simp [hg])) (fun g hg => FH.out g (by simp [hg])) (fun g hg => FH.out g (by simp [hg]))) O3.out (by simp) rfl HLEN.out).mono ?_
      rintro e w' ⟨rfl, bs4, m4, rfl⟩
      go_wp2_with fail
      go_ret
      refine ⟨rfl, Kp.to_ext ?_⟩
      repeat first | exact KW.out | refine Kp.ext ?_ _ _ | refine Kp.alloc ?_ _ | refine Kp.setCell ?_ _ (.inl (by show _ ≤ w1.heap.size; omega))

end Go.Proofs.Ytemicgccgcmmbaa
