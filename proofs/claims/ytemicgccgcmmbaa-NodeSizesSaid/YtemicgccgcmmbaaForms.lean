/- NodeForms answers true of every frame and all bytes. Printed by genforms.py. -/
import Derived.Test.YtemicgccgcmmbaaBack
namespace Go.Proofs.Ytemicgccgcmmbaa
set_option linter.unusedVariables false
set_option linter.unusedSimpArgs false
open Go Go.RowKit

theorem Pack_s {p wd : Int} {pa sa ka : Option Addr} {pc sc kc : Nat} {n : Nd} {w : World} {s : Bs} (he : packE p wd n = 0) (hs : packS p wd n = s) (h : NdAt w pa sa ka n) (ho : NdOk n) :
    Calls Try.prog 14 #[.agg #[.int .i64 p, .int .i64 wd], .agg #[.slice pa n.pairs.length pc, .slice sa n.seps.length sc, .slice ka n.kids.length kc]] w (Rets2 s 0 w) := by
  have := Pack_any p wd pa sa ka pc sc kc n w h ho
  rwa [he, hs] at this
theorem Plain_s {p wd : Int} {pa sa ka : Option Addr} {pc sc kc : Nat} {n : Nd} {w : World} {s : Bs} (he : mayE p wd n = 0) (hs : plainS p wd n = s) (h : NdAt w pa sa ka n) (ho : NdOk n) :
    Calls Try.prog 18 #[.agg #[.int .i64 p, .int .i64 wd], .agg #[.slice pa n.pairs.length pc, .slice sa n.seps.length sc, .slice ka n.kids.length kc]] w (Rets2 s 0 w) := by
  have := Plain_any p wd pa sa ka pc sc kc n w h ho
  rwa [he, hs] at this
theorem Check_0 {p wd : Int} {pa sa ka : Option Addr} {pc sc kc : Nat} {n : Nd} {w : World} (he : checkE p wd n = 0) (h : NdAt w pa sa ka n) (ho : NdOk n) :
    Calls Try.prog 20 #[.agg #[.int .i64 p, .int .i64 wd], .agg #[.slice pa n.pairs.length pc, .slice sa n.seps.length sc, .slice ka n.kids.length kc]] w (Rets (.int .i64 0) w) := by
  have := check_any p wd pa sa ka pc sc kc n w h ho
  rwa [he] at this
theorem unpackE_ne (p wd : Int) : (unpackE p wd == 0) = false := by unfold unpackE; split <;> rfl

set_option maxHeartbeats 1000000 in set_option maxRecDepth 100000 in
theorem forms_any (p wd : Int) (s : Bs) (w : World) (hs : s.length ≤ 3909374676453) :
    Calls Try.prog 5 #[.agg #[.int .i64 p, .int .i64 wd], .string ⟨s.toArray⟩] w (Rets (.bool true) w) := by
  have hue := unpackE_ne p wd
  have hb0 : Blk (w.alloc (.cells #[.int .i64 p, .int .i64 wd] 23)) w.heap.size 23 #[.int .i64 p, .int .i64 wd] := Blk.new w _ _
  have B0 := Lib.hid hb0
  clear hb0
  rcases hU : unpackP p wd s with _ | n
  · have HU := Lib.hid hU
    rcases hR : readP p wd s with _ | m
    · have HR := Lib.hid hR
      clear hU hR
      go_enter Try.func5, Try.ntmps5
      go_wp2_with fail
      refine (lives_any _).mono ?_
      rintro e w' ⟨rfl, bs0, m0, rfl⟩
      go_wp2_with fail
      refine (Unpack_any p wd _ _ hs).mono ?_
      rintro e w1 h1
      rw [HU.out] at h1
      obtain ⟨rfl, k1⟩ := h1
      have C0 := (B0.out.kp ((Kp.refl [] _).ext _ _) (by simp)).kp k1 (by simp)
      have c0 := C0.cell 0; have c1 := C0.cell 1; have g0 := C0.lt
      simp only [List.getElem?_toArray, List.getElem?_cons_zero, List.getElem?_cons_succ] at c0 c1
      have KW1 : Hid (Kp [] w w1) := Lib.hid (((Kp.refl [] w).alloc _ |>.ext _ _).trans k1)
      have D0 := Lib.hid C0
      clear C0 k1
      go_wp2_with fail
      refine (Read_any p wd _ _ hs).mono ?_
      rintro e w2 h2
      rw [HR.out] at h2
      obtain ⟨rfl, k2⟩ := h2
      clear c0 c1 g0
      have C0 := (D0.out.alloc (.cells #[.slice none 0 0, .slice none 0 0, .slice none 0 0] 30)).kp k2 (by simp)
      have C1 := (Blk.new w1 30 #[.slice none 0 0, .slice none 0 0, .slice none 0 0]).kp k2 (by simp)
      have c0 := C0.cell 0; have c1 := C0.cell 1; have c2 := C1.cell 0; have c3 := C1.cell 1; have c4 := C1.cell 2; have g0 := C0.lt; have g1 := C1.lt
      simp only [List.getElem?_toArray, List.getElem?_cons_zero, List.getElem?_cons_succ] at c0 c1 c2 c3 c4
      have KW2 : Hid (Kp [] w w2) := Lib.hid ((KW1.out.alloc _).trans k2)
      clear C0 C1 k2
      go_wp2_with fail
      go_ret
      exact ⟨rfl, Kp.to_ext (KW2.out.trans (by repeat first | exact Kp.refl _ _ | refine Kp.ext ?_ _ _ | refine Kp.alloc ?_ _))⟩
    · have HR := Lib.hid hR
      have hpr := plain_read hR
      have HM := Lib.hid hpr.1; have HT := Lib.hid hpr.2.1; have HC2 := Lib.hid hpr.2.2.1
      have HO2 : Hid (NdOk m) := Lib.hid (parseP_ok hs (readP_ok hR).2.2)
      clear hU hR hpr
      go_enter Try.func5, Try.ntmps5
      go_wp2_with fail
      refine (lives_any _).mono ?_
      rintro e w' ⟨rfl, bs0, m0, rfl⟩
      go_wp2_with fail
      refine (Unpack_any p wd _ _ hs).mono ?_
      rintro e w1 h1
      rw [HU.out] at h1
      obtain ⟨rfl, k1⟩ := h1
      have C0 := (B0.out.kp ((Kp.refl [] _).ext _ _) (by simp)).kp k1 (by simp)
      have c0 := C0.cell 0; have c1 := C0.cell 1; have g0 := C0.lt
      simp only [List.getElem?_toArray, List.getElem?_cons_zero, List.getElem?_cons_succ] at c0 c1
      have KW1 : Hid (Kp [] w w1) := Lib.hid (((Kp.refl [] w).alloc _ |>.ext _ _).trans k1)
      have D0 := Lib.hid C0
      clear C0 k1
      go_wp2_with fail
      refine (Read_any p wd _ _ hs).mono ?_
      rintro e w2 h2
      rw [HR.out] at h2
      obtain ⟨pa2, sa2, ka2, pc2, sc2, kc2, rfl, nd2, k2, hnew⟩ := h2
      clear hnew
      have N2 := Lib.hid nd2
      clear nd2
      clear c0 c1 g0
      have C0 := (D0.out.alloc (.cells #[.slice none 0 0, .slice none 0 0, .slice none 0 0] 30)).kp k2 (by simp)
      have C1 := (Blk.new w1 30 #[.slice none 0 0, .slice none 0 0, .slice none 0 0]).kp k2 (by simp)
      have c0 := C0.cell 0; have c1 := C0.cell 1; have c2 := C1.cell 0; have c3 := C1.cell 1; have c4 := C1.cell 2; have g0 := C0.lt; have g1 := C1.lt
      simp only [List.getElem?_toArray, List.getElem?_cons_zero, List.getElem?_cons_succ] at c0 c1 c2 c3 c4
      have KW2 : Hid (Kp [] w w2) := Lib.hid ((KW1.out.alloc _).trans k2)
      clear C0 C1 k2
      go_wp2_with fail
      refine (Plain_s HM.out HT.out (N2.out.kp0 (by repeat first | exact Kp.refl _ _ | refine Kp.ext ?_ _ _ | refine Kp.alloc ?_ _)) HO2.out).mono ?_
      rintro e w' ⟨rfl, bs5, m5, rfl⟩
      go_wp2_with fail
      refine (Check_0 HC2.out (N2.out.kp0 (by repeat first | exact Kp.refl _ _ | refine Kp.ext ?_ _ _ | refine Kp.alloc ?_ _)) HO2.out).mono ?_
      rintro e w' ⟨rfl, bs6, m6, rfl⟩
      go_wp2_with fail
      go_ret
      exact ⟨rfl, Kp.to_ext (KW2.out.trans (by repeat first | exact Kp.refl _ _ | refine Kp.ext ?_ _ _ | refine Kp.alloc ?_ _))⟩
  · have HU := Lib.hid hU
    have hpu := pack_unpack hU
    have HE := Lib.hid hpu.1; have HS := Lib.hid hpu.2.1; have HC1 := Lib.hid hpu.2.2
    have HO1 : Hid (NdOk n) := Lib.hid (parseP_ok hs (unpackP_ok hU).2.2)
    clear hpu
    rcases hR : readP p wd s with _ | m
    · have HR := Lib.hid hR
      clear hU hR
      go_enter Try.func5, Try.ntmps5
      go_wp2_with fail
      refine (lives_any _).mono ?_
      rintro e w' ⟨rfl, bs0, m0, rfl⟩
      go_wp2_with fail
      refine (Unpack_any p wd _ _ hs).mono ?_
      rintro e w1 h1
      rw [HU.out] at h1
      obtain ⟨pa1, sa1, ka1, pc1, sc1, kc1, rfl, nd1, k1, hnew⟩ := h1
      clear hnew
      have N1 := Lib.hid nd1
      clear nd1
      have C0 := (B0.out.kp ((Kp.refl [] _).ext _ _) (by simp)).kp k1 (by simp)
      have c0 := C0.cell 0; have c1 := C0.cell 1; have g0 := C0.lt
      simp only [List.getElem?_toArray, List.getElem?_cons_zero, List.getElem?_cons_succ] at c0 c1
      have KW1 : Hid (Kp [] w w1) := Lib.hid (((Kp.refl [] w).alloc _ |>.ext _ _).trans k1)
      have D0 := Lib.hid C0
      clear C0 k1
      go_wp2_with fail
      refine (Read_any p wd _ _ hs).mono ?_
      rintro e w2 h2
      rw [HR.out] at h2
      obtain ⟨rfl, k2⟩ := h2
      clear c0 c1 g0
      have C0 := (D0.out.alloc (.cells #[.slice pa1 n.pairs.length pc1, .slice sa1 n.seps.length sc1, .slice ka1 n.kids.length kc1] 30)).kp k2 (by simp)
      have C1 := (Blk.new w1 30 #[.slice pa1 n.pairs.length pc1, .slice sa1 n.seps.length sc1, .slice ka1 n.kids.length kc1]).kp k2 (by simp)
      have c0 := C0.cell 0; have c1 := C0.cell 1; have c2 := C1.cell 0; have c3 := C1.cell 1; have c4 := C1.cell 2; have g0 := C0.lt; have g1 := C1.lt
      simp only [List.getElem?_toArray, List.getElem?_cons_zero, List.getElem?_cons_succ] at c0 c1 c2 c3 c4
      have KW2 : Hid (Kp [] w w2) := Lib.hid ((KW1.out.alloc _).trans k2)
      have N1' : Hid (NdAt w2 pa1 sa1 ka1 n) := Lib.hid (N1.out.kp0 (((Kp.refl [] _).alloc _).trans k2))
      clear C0 C1 k2
      go_wp2_with fail
      refine (Pack_s HE.out HS.out (N1'.out.kp0 (by repeat first | exact Kp.refl _ _ | refine Kp.ext ?_ _ _ | refine Kp.alloc ?_ _)) HO1.out).mono ?_
      rintro e w' ⟨rfl, bs3, m3, rfl⟩
      go_wp2_with fail
      refine (Check_0 HC1.out (N1'.out.kp0 (by repeat first | exact Kp.refl _ _ | refine Kp.ext ?_ _ _ | refine Kp.alloc ?_ _)) HO1.out).mono ?_
      rintro e w' ⟨rfl, bs4, m4, rfl⟩
      go_wp2_with fail
      go_ret
      exact ⟨rfl, Kp.to_ext (KW2.out.trans (by repeat first | exact Kp.refl _ _ | refine Kp.ext ?_ _ _ | refine Kp.alloc ?_ _))⟩
    · have HR := Lib.hid hR
      have hpr := plain_read hR
      have HM := Lib.hid hpr.1; have HT := Lib.hid hpr.2.1; have HC2 := Lib.hid hpr.2.2.1
      have HO2 : Hid (NdOk m) := Lib.hid (parseP_ok hs (readP_ok hR).2.2)
      clear hU hR hpr
      go_enter Try.func5, Try.ntmps5
      go_wp2_with fail
      refine (lives_any _).mono ?_
      rintro e w' ⟨rfl, bs0, m0, rfl⟩
      go_wp2_with fail
      refine (Unpack_any p wd _ _ hs).mono ?_
      rintro e w1 h1
      rw [HU.out] at h1
      obtain ⟨pa1, sa1, ka1, pc1, sc1, kc1, rfl, nd1, k1, hnew⟩ := h1
      clear hnew
      have N1 := Lib.hid nd1
      clear nd1
      have C0 := (B0.out.kp ((Kp.refl [] _).ext _ _) (by simp)).kp k1 (by simp)
      have c0 := C0.cell 0; have c1 := C0.cell 1; have g0 := C0.lt
      simp only [List.getElem?_toArray, List.getElem?_cons_zero, List.getElem?_cons_succ] at c0 c1
      have KW1 : Hid (Kp [] w w1) := Lib.hid (((Kp.refl [] w).alloc _ |>.ext _ _).trans k1)
      have D0 := Lib.hid C0
      clear C0 k1
      go_wp2_with fail
      refine (Read_any p wd _ _ hs).mono ?_
      rintro e w2 h2
      rw [HR.out] at h2
      obtain ⟨pa2, sa2, ka2, pc2, sc2, kc2, rfl, nd2, k2, hnew⟩ := h2
      clear hnew
      have N2 := Lib.hid nd2
      clear nd2
      clear c0 c1 g0
      have C0 := (D0.out.alloc (.cells #[.slice pa1 n.pairs.length pc1, .slice sa1 n.seps.length sc1, .slice ka1 n.kids.length kc1] 30)).kp k2 (by simp)
      have C1 := (Blk.new w1 30 #[.slice pa1 n.pairs.length pc1, .slice sa1 n.seps.length sc1, .slice ka1 n.kids.length kc1]).kp k2 (by simp)
      have c0 := C0.cell 0; have c1 := C0.cell 1; have c2 := C1.cell 0; have c3 := C1.cell 1; have c4 := C1.cell 2; have g0 := C0.lt; have g1 := C1.lt
      simp only [List.getElem?_toArray, List.getElem?_cons_zero, List.getElem?_cons_succ] at c0 c1 c2 c3 c4
      have KW2 : Hid (Kp [] w w2) := Lib.hid ((KW1.out.alloc _).trans k2)
      have N1' : Hid (NdAt w2 pa1 sa1 ka1 n) := Lib.hid (N1.out.kp0 (((Kp.refl [] _).alloc _).trans k2))
      clear C0 C1 k2
      go_wp2_with fail
      refine (Pack_s HE.out HS.out (N1'.out.kp0 (by repeat first | exact Kp.refl _ _ | refine Kp.ext ?_ _ _ | refine Kp.alloc ?_ _)) HO1.out).mono ?_
      rintro e w' ⟨rfl, bs3, m3, rfl⟩
      go_wp2_with fail
      refine (Check_0 HC1.out (N1'.out.kp0 (by repeat first | exact Kp.refl _ _ | refine Kp.ext ?_ _ _ | refine Kp.alloc ?_ _)) HO1.out).mono ?_
      rintro e w' ⟨rfl, bs4, m4, rfl⟩
      go_wp2_with fail
      refine (Plain_s HM.out HT.out (N2.out.kp0 (by repeat first | exact Kp.refl _ _ | refine Kp.ext ?_ _ _ | refine Kp.alloc ?_ _)) HO2.out).mono ?_
      rintro e w' ⟨rfl, bs5, m5, rfl⟩
      go_wp2_with fail
      refine (Check_0 HC2.out (N2.out.kp0 (by repeat first | exact Kp.refl _ _ | refine Kp.ext ?_ _ _ | refine Kp.alloc ?_ _)) HO2.out).mono ?_
      rintro e w' ⟨rfl, bs6, m6, rfl⟩
      go_wp2_with fail
      go_ret
      exact ⟨rfl, Kp.to_ext (KW2.out.trans (by repeat first | exact Kp.refl _ _ | refine Kp.ext ?_ _ _ | refine Kp.alloc ?_ _))⟩

end Go.Proofs.Ytemicgccgcmmbaa
