/- A form is read: the walks of parse. -/
import Derived.Test.YtemicgccgcmmbaaZ3
import Derived.Test.YtemicgccgcmmbaaZ2
namespace Go.Proofs.Ytemicgccgcmmbaa
set_option linter.unusedVariables false
set_option linter.unusedSimpArgs false
open Go Go.RowKit

theorem blk_next {w : World} {o : Obj} {t : TypeId} {c : Array Value} {k : Nat} (h : Blk w k t c) : Blk (w.alloc o) k t c := h.alloc o

/-- The five blocks with which parse begins. -/
theorem five {w w1 : World} {t1 t2 t3 t4 t5 : TypeId} {c1 c2 c3 c4 c5 : Array Value} (k : Kp [w.heap.size + 1 + 1 + 1 + 1] (((((w.alloc (.cells c1 t1)).alloc (.cells c2 t2)).alloc (.cells c3 t3)).alloc (.cells c4 t4)).alloc (.cells c5 t5)) w1) :
    Blk w1 w.heap.size t1 c1 ∧ Blk w1 (w.heap.size + 1) t2 c2 ∧ Blk w1 (w.heap.size + 1 + 1) t3 c3 ∧ Blk w1 (w.heap.size + 1 + 1 + 1) t4 c4 ∧ Kp [] w w1 ∧ w.heap.size + 1 + 1 + 1 + 1 < w1.heap.size := by
  have b1 := ((((Blk.new w t1 c1).alloc (.cells c2 t2)).alloc (.cells c3 t3)).alloc (.cells c4 t4)).alloc (.cells c5 t5)
  have b2 := (((Blk.new (w.alloc (.cells c1 t1)) t2 c2).alloc (.cells c3 t3)).alloc (.cells c4 t4)).alloc (.cells c5 t5)
  have b3 := ((Blk.new ((w.alloc (.cells c1 t1)).alloc (.cells c2 t2)) t3 c3).alloc (.cells c4 t4)).alloc (.cells c5 t5)
  have b4 := (Blk.new (((w.alloc (.cells c1 t1)).alloc (.cells c2 t2)).alloc (.cells c3 t3)) t4 c4).alloc (.cells c5 t5)
  simp only [World.size_alloc] at b2 b3 b4
  have hz := k.size
  simp only [World.size_alloc] at hz
  refine ⟨b1.kp k (by simp; omega), b2.kp k (by simp), b3.kp k (by simp), b4.kp k (by simp), ?_, by omega⟩
  exact ((((((Kp.refl [] w).alloc _).alloc _).alloc _).alloc _).alloc _).from k (by simp; omega)

theorem take1_len {s : Bs} {v : Nat} {l : Bs} (ht : takeP 1 s = some (v, l)) : 1 ≤ s.length := by have := takeP_len ht; omega

/-- A node and a word are handed back. -/
theorem nd_ret2 {fn : Func} {R : Ending → World → Prop} {a : Act} {w : World} {p u : Tmp} (g : Nat) {t : TypeId} {x y z v : Value} (hr : fn.results = #[.cell p 30, .tmp u]) (hp : a.tmps.getD p undef = .pointer (some ⟨g, 0, none⟩)) (hv : a.tmps.getD u undef = v) (hg : Blk w g t #[x, y, z]) (hd : a.defers = []) (hR : R (.returned (.tuple #[.agg #[x, y, z], v])) w) :
    bodyPost Try.prog fn R .ret a w := by
  refine bodyPost_ret (v := .tuple #[.agg #[x, y, z], v]) ?_ hd hR
  rw [results_cell_tmp hr, hp, hv]
  have h1 := run_loadVar_big Try.prog 30 3 _ Try.underlying30 rfl (by kernel_rfl) ⟨g, 0, none⟩ w
  have h2 : rowAt? w ⟨g, 0, none⟩ 3 = some #[x, y, z] := rowAt?_blk hg
  rw [h2] at h1
  simp [asAddr, h1]

set_option maxHeartbeats 1000000 in set_option maxRecDepth 100000 in
theorem parse_leaf_ok (P wd : Nat) (pages : Bool) (s l : Bs) (w : World) (hs : s.length ≤ 3909374676453) (hP0 : 1024 ≤ P) (hP : P ≤ 8192) (ht : takeP 1 s = some (1, l)) (ho : restO (listP s.length (pairP P) () l) = some []) :
    Calls Try.prog 32 #[.agg #[.int .i64 P, .int .i64 wd], .string ⟨s.toArray⟩, .bool pages] w (ParsePost w (parseP P wd pages s)) := by
  have hs' : s.length ≤ 140737488351232 := by omega
  have hlen := take1_len ht
  have hv : gotV (takeP 1) 0 (some s) = 1 := by simp [gotV, ht]
  have hr : gotR (takeP 1) (some s) = some l := by simp [gotR, ht]
  have hp : parseP P wd pages s = match listP s.length (pairP P) () l with | some (_, ps, l') => if l' = [] then some ⟨ps, [], []⟩ else none | none => none := by simp only [parseP, ht, if_true]; rfl
  have HV := Lib.hid hv; have HR := Lib.hid hr; have HPP := Lib.hid hp; have HO := Lib.hid ho
  clear hv hr hp ht ho
  go_enter Try.func32, Try.ntmps32
  go_wp2_with fail
  refine (open_any s _).mono ?_
  rintro e w' ⟨rfl, rfl⟩
  go_wp2_with fail
  refine (u8_all (w.heap.size + 1 + 1 + 1 + 1) s (some s) _ (by have := open_st s ((((w.alloc (.cells #[.int .i64 P, .int .i64 wd] 23)).alloc (.cells #[.bool pages] 4)).alloc (.cells #[.slice none 0 0, .slice none 0 0, .slice none 0 0] 30)).alloc (.cells #[.slice none 0 0, .slice none 0 0, .slice none 0 0] 30)); simp only [World.size_alloc] at this; exact this) hs').mono ?_
  rintro e w1 ⟨rfl, k1, r1⟩
  rw [HV.out]
  rw [HR.out] at r1
  obtain ⟨f1, f2, f3, f4, k0, z1⟩ := five k1
  have F1 := Lib.hid f1; have F2 := Lib.hid f2; have F3 := Lib.hid f3; have F4 := Lib.hid f4; have K0 := Lib.hid k0; have R1 := Lib.hid r1
  clear f1 f2 f3 f4 k0 k1 r1
  have f4c0 := F4.out.cell 0; have f4f0 := F4.out.frozen 0
  simp only [List.getElem?_toArray, List.getElem?_cons_zero, List.getElem?_cons_succ] at f4c0
  go_wp2_with fail
  refine (list_pairs (w.heap.size + 1 + 1 + 1 + 1) (w.heap.size) s.length P wd s l w1 hs hP0 hP (by omega) (by omega) (by omega) R1.out F1.out).mono ?_
  rintro e w2 ⟨a, c, ts, rfl, how, k2, hnew, r2, hsome, hnone⟩
  have G4 := Lib.hid (F4.out.kp k2 (by simp only [List.mem_cons, List.not_mem_nil, or_false]; omega)); have G3 := Lib.hid (F3.out.kp k2 (by simp only [List.mem_cons, List.not_mem_nil, or_false]; omega))
  have g0 := G4.out.cell 0; have g1 := G4.out.cell 1; have g2 := G4.out.cell 2; have g3 := G4.out.frozen 0
  have j0 := G3.out.cell 0; have j1 := G3.out.cell 1; have j2 := G3.out.cell 2; have j3 := G3.out.frozen 0; have j4 := G3.out.frozen 1; have j5 := G3.out.frozen 2
  simp only [List.getElem?_toArray, List.getElem?_cons_zero, List.getElem?_cons_succ] at g0 g1 g2 j0 j1 j2
  have HOW := Lib.hid how; have K2 := Lib.hid k2; have HN := Lib.hid hnew; have R2 := Lib.hid r2; have HSO := Lib.hid hsome; have HNO := Lib.hid hnone
  have zz2 := k2.size
  clear how k2 hnew r2 hsome hnone
  go_wp2_with fail
  have HPS : Hid (parseP P wd pages s = some ⟨ts, [], []⟩) := Lib.hid (by
    rw [HPP.out]
    have h0 := HO.out
    cases hr : listP s.length (pairP P) () l with
    | none => rw [hr] at h0; simp [restO] at h0
    | some r =>
      obtain ⟨u, ps, l'⟩ := r
      rw [hr] at h0
      simp only [restO, Option.map_some, Option.some.injEq] at h0
      have := HSO.out _ hr
      simp [h0, this])
  have RO := Lib.hid (HO.out ▸ R2.out : RdSt w2 (w.heap.size + 1 + 1 + 1 + 1) s (some []))
  have KW : Hid (Kp [] w (w2.setCell ⟨w.heap.size + 1 + 1 + 1, 0, none⟩ (.slice a ts.length c))) := Lib.hid ((K0.out.from K2.out (by simp only [List.mem_cons, List.not_mem_nil, or_false]; omega)).setCell _ (.inl (by show _ ≤ w.heap.size + 1 + 1 + 1; omega)))
  have Q4 := Lib.hid (G4.out.set 0 (.slice a ts.length c))
  have Q3 := Lib.hid (G3.out.set_other (a := ⟨w.heap.size + 1 + 1 + 1, 0, none⟩) (.slice a ts.length c) (by show (w.heap.size + 1 + 1 + 1) ≠ _; omega))
  have q0 : (w2.setCell ⟨w.heap.size + 1 + 1 + 1, 0, none⟩ (.slice a ts.length c)).cell? ⟨w.heap.size + 1 + 1 + 1, 0, none⟩ = some (.slice a ts.length c) := by have := Q4.out.cell 0; simpa using this
  have q1 : (w2.setCell ⟨w.heap.size + 1 + 1 + 1, 0, none⟩ (.slice a ts.length c)).cell? ⟨w.heap.size + 1 + 1 + 1, 1, none⟩ = some (.slice none 0 0) := by have := Q4.out.cell 1; simpa using this
  have q2 : (w2.setCell ⟨w.heap.size + 1 + 1 + 1, 0, none⟩ (.slice a ts.length c)).cell? ⟨w.heap.size + 1 + 1 + 1, 2, none⟩ = some (.slice none 0 0) := by have := Q4.out.cell 2; simpa using this
  have i0 : (w2.setCell ⟨w.heap.size + 1 + 1 + 1, 0, none⟩ (.slice a ts.length c)).cell? ⟨w.heap.size + 1 + 1, 0, none⟩ = some (.slice none 0 0) := by have := Q3.out.cell 0; simpa using this
  have i1 : (w2.setCell ⟨w.heap.size + 1 + 1 + 1, 0, none⟩ (.slice a ts.length c)).cell? ⟨w.heap.size + 1 + 1, 1, none⟩ = some (.slice none 0 0) := by have := Q3.out.cell 1; simpa using this
  have i2 : (w2.setCell ⟨w.heap.size + 1 + 1 + 1, 0, none⟩ (.slice a ts.length c)).cell? ⟨w.heap.size + 1 + 1, 2, none⟩ = some (.slice none 0 0) := by have := Q3.out.cell 2; simpa using this
  have i3 : (w2.setCell ⟨w.heap.size + 1 + 1 + 1, 0, none⟩ (.slice a ts.length c)).frozen? ⟨w.heap.size + 1 + 1, 0, none⟩ = false := Q3.out.frozen 0
  have i4 : (w2.setCell ⟨w.heap.size + 1 + 1 + 1, 0, none⟩ (.slice a ts.length c)).frozen? ⟨w.heap.size + 1 + 1, 1, none⟩ = false := Q3.out.frozen 1
  have i5 : (w2.setCell ⟨w.heap.size + 1 + 1 + 1, 0, none⟩ (.slice a ts.length c)).frozen? ⟨w.heap.size + 1 + 1, 2, none⟩ = false := Q3.out.frozen 2
  have iz := Q3.out.lt
  clear g0 g1 g2 g3 j0 j1 j2 j3 j4 j5
  have SK := Lib.hid (show ∀ (W : World) (T : List Nat), Kp T (w2.setCell ⟨w.heap.size + 1 + 1 + 1, 0, none⟩ (.slice a ts.length c)) W → (w.heap.size + 1 + 1 + 1) ∉ T → (W.cell? ⟨w.heap.size + 1 + 1 + 1, 0, none⟩ = some (.slice a ts.length c) ∧ W.cell? ⟨w.heap.size + 1 + 1 + 1, 1, none⟩ = some (.slice none 0 0) ∧ W.cell? ⟨w.heap.size + 1 + 1 + 1, 2, none⟩ = some (.slice none 0 0)) from fun W T k h => ⟨k.cell q0 h, k.cell q1 h, k.cell q2 h⟩)
  go_region_held3 (fun W => W.cell? ⟨w.heap.size + 1 + 1 + 1, 0, none⟩ = some (.slice a ts.length c) ∧ W.cell? ⟨w.heap.size + 1 + 1 + 1, 1, none⟩ = some (.slice none 0 0) ∧ W.cell? ⟨w.heap.size + 1 + 1 + 1, 2, none⟩ = some (.slice none 0 0)) (first | exact SK.out _ [] ((Kp.refl [] _).drew) (by simp) | exact SK.out _ [] KE.out (by simp) | exact SK.out _ [w.heap.size + 1 + 1] ((((KE.out.of_nil (T := [w.heap.size + 1 + 1])).setCell _ (.inr (by simp))).setCell _ (.inr (by simp))).setCell _ (.inr (by simp))) (by simp))
    (first | (go_at_call 72; refine (end_ok (w.heap.size + 1 + 1 + 1 + 1) s _ hs' (RdSt.kp (o := some []) (RO.out.kp ((Kp.refl [w.heap.size + 1 + 1 + 1] _).setCell _ (.inr (by simp))) (by simp)) ((Kp.refl [] _).drew) (by simp))).mono ?_; rintro e w3 ⟨rfl, k3⟩; have KE : Hid (Kp [] (w2.setCell ⟨w.heap.size + 1 + 1 + 1, 0, none⟩ (.slice a ts.length c)) w3) := ((Kp.refl [] _).drew).trans k3; clear k3; have y0 := KE.out.cell i0 (by simp); have y1 := KE.out.cell i1 (by simp); have y2 := KE.out.cell i2 (by simp); have y3 := (KE.out.frozen (a := ⟨w.heap.size + 1 + 1, 0, none⟩) iz (by simp)).trans i3; have y4 := (KE.out.frozen (a := ⟨w.heap.size + 1 + 1, 1, none⟩) iz (by simp)).trans i4; have y5 := (KE.out.frozen (a := ⟨w.heap.size + 1 + 1, 2, none⟩) iz (by simp)).trans i5; have zz3 := KE.out.size))
  go_wp2_with fail
  refine nd_ret2 (w.heap.size + 1 + 1) (t := 30) (x := .slice a ts.length c) (y := .slice none 0 0) (z := .slice none 0 0) (v := .bool true) rfl rfl rfl ?_ rfl ?_
  · have h := (((Q3.out.kp KE.out (by simp)).set 0 (.slice a ts.length c)).set 1 (.slice none 0 0)).set 2 (.slice none 0 0)
    simpa using h
  · have KF : Kp [] w _ := (((((KW.out).trans KE.out)).setCell (a := ⟨w.heap.size + 1 + 1, 0, none⟩) (.slice a ts.length c) (.inl (by show _ ≤ w.heap.size + 1 + 1; omega))).setCell (a := ⟨w.heap.size + 1 + 1, 1, none⟩) (.slice none 0 0) (.inl (by show _ ≤ w.heap.size + 1 + 1; omega))).setCell (a := ⟨w.heap.size + 1 + 1, 2, none⟩) (.slice none 0 0) (.inl (by show _ ≤ w.heap.size + 1 + 1; omega))
    have KG : Kp [w.heap.size + 1 + 1] w3 _ := (((Kp.refl [w.heap.size + 1 + 1] w3).setCell (a := ⟨w.heap.size + 1 + 1, 0, none⟩) (.slice a ts.length c) (.inr (by simp))).setCell (a := ⟨w.heap.size + 1 + 1, 1, none⟩) (.slice none 0 0) (.inr (by simp))).setCell (a := ⟨w.heap.size + 1 + 1, 2, none⟩) (.slice none 0 0) (.inr (by simp))
    unfold ParsePost; rw [HPS.out]
    exact ⟨a, none, none, c, 0, 0, rfl, ⟨(((HOW.out.kp ((Kp.refl [w.heap.size + 1 + 1 + 1] _).setCell (a := ⟨w.heap.size + 1 + 1 + 1, 0, none⟩) (.slice a ts.length c) (.inr (by simp))) (by intro g hg; have := HN.out g hg; simp; omega)).kp KE.out (by simp)).kp KG (by intro g hg; have := HN.out g hg; simp; omega)), Own.nil _ _ _, Own.nil _ _ _, (by intro g hg; simp [ab] at hg; have := HN.out g (by simpa [ab] using hg); omega), (fun g hg => ⟨by simp [ab], by simp [ab]⟩), (fun g hg => by simp [ab])⟩, KF⟩

set_option maxHeartbeats 1000000 in set_option maxRecDepth 100000 in
theorem parse_leaf_no (P wd : Nat) (pages : Bool) (s l : Bs) (w : World) (hs : s.length ≤ 3909374676453) (hP0 : 1024 ≤ P) (hP : P ≤ 8192) (ht : takeP 1 s = some (1, l)) (ho : restO (listP s.length (pairP P) () l) ≠ some []) :
    Calls Try.prog 32 #[.agg #[.int .i64 P, .int .i64 wd], .string ⟨s.toArray⟩, .bool pages] w (ParsePost w (parseP P wd pages s)) := by
  have hs' : s.length ≤ 140737488351232 := by omega
  have hlen := take1_len ht
  have hv : gotV (takeP 1) 0 (some s) = 1 := by simp [gotV, ht]
  have hr : gotR (takeP 1) (some s) = some l := by simp [gotR, ht]
  have hp : parseP P wd pages s = match listP s.length (pairP P) () l with | some (_, ps, l') => if l' = [] then some ⟨ps, [], []⟩ else none | none => none := by simp only [parseP, ht, if_true]; rfl
  have HV := Lib.hid hv; have HR := Lib.hid hr; have HPP := Lib.hid hp; have HO := Lib.hid ho
  clear hv hr hp ht ho
  go_enter Try.func32, Try.ntmps32
  go_wp2_with fail
  refine (open_any s _).mono ?_
  rintro e w' ⟨rfl, rfl⟩
  go_wp2_with fail
  refine (u8_all (w.heap.size + 1 + 1 + 1 + 1) s (some s) _ (by have := open_st s ((((w.alloc (.cells #[.int .i64 P, .int .i64 wd] 23)).alloc (.cells #[.bool pages] 4)).alloc (.cells #[.slice none 0 0, .slice none 0 0, .slice none 0 0] 30)).alloc (.cells #[.slice none 0 0, .slice none 0 0, .slice none 0 0] 30)); simp only [World.size_alloc] at this; exact this) hs').mono ?_
  rintro e w1 ⟨rfl, k1, r1⟩
  rw [HV.out]
  rw [HR.out] at r1
  obtain ⟨f1, f2, f3, f4, k0, z1⟩ := five k1
  have F1 := Lib.hid f1; have F2 := Lib.hid f2; have F3 := Lib.hid f3; have F4 := Lib.hid f4; have K0 := Lib.hid k0; have R1 := Lib.hid r1
  clear f1 f2 f3 f4 k0 k1 r1
  have f4c0 := F4.out.cell 0; have f4f0 := F4.out.frozen 0
  simp only [List.getElem?_toArray, List.getElem?_cons_zero, List.getElem?_cons_succ] at f4c0
  go_wp2_with fail
  refine (list_pairs (w.heap.size + 1 + 1 + 1 + 1) (w.heap.size) s.length P wd s l w1 hs hP0 hP (by omega) (by omega) (by omega) R1.out F1.out).mono ?_
  rintro e w2 ⟨a, c, ts, rfl, how, k2, hnew, r2, hsome, hnone⟩
  have G4 := Lib.hid (F4.out.kp k2 (by simp only [List.mem_cons, List.not_mem_nil, or_false]; omega)); have G3 := Lib.hid (F3.out.kp k2 (by simp only [List.mem_cons, List.not_mem_nil, or_false]; omega))
  have g0 := G4.out.cell 0; have g1 := G4.out.cell 1; have g2 := G4.out.cell 2; have g3 := G4.out.frozen 0
  have j0 := G3.out.cell 0; have j1 := G3.out.cell 1; have j2 := G3.out.cell 2; have j3 := G3.out.frozen 0; have j4 := G3.out.frozen 1; have j5 := G3.out.frozen 2
  simp only [List.getElem?_toArray, List.getElem?_cons_zero, List.getElem?_cons_succ] at g0 g1 g2 j0 j1 j2
  have HOW := Lib.hid how; have K2 := Lib.hid k2; have HN := Lib.hid hnew; have R2 := Lib.hid r2; have HSO := Lib.hid hsome; have HNO := Lib.hid hnone
  have zz2 := k2.size
  clear how k2 hnew r2 hsome hnone
  go_wp2_with fail
  have HPS : Hid (parseP P wd pages s = none) := Lib.hid (by
    rw [HPP.out]
    have h0 := HO.out
    cases hr : listP s.length (pairP P) () l with
    | none => rfl
    | some r =>
      obtain ⟨u, ps, l'⟩ := r
      rw [hr] at h0
      simp only [restO, Option.map_some, ne_eq, Option.some.injEq] at h0
      simp [h0])
  have RO := R2
  have KW : Hid (Kp [] w (w2.setCell ⟨w.heap.size + 1 + 1 + 1, 0, none⟩ (.slice a ts.length c))) := Lib.hid ((K0.out.from K2.out (by simp only [List.mem_cons, List.not_mem_nil, or_false]; omega)).setCell _ (.inl (by show _ ≤ w.heap.size + 1 + 1 + 1; omega)))
  have Q4 := Lib.hid (G4.out.set 0 (.slice a ts.length c))
  have Q3 := Lib.hid (G3.out.set_other (a := ⟨w.heap.size + 1 + 1 + 1, 0, none⟩) (.slice a ts.length c) (by show (w.heap.size + 1 + 1 + 1) ≠ _; omega))
  have q0 : (w2.setCell ⟨w.heap.size + 1 + 1 + 1, 0, none⟩ (.slice a ts.length c)).cell? ⟨w.heap.size + 1 + 1 + 1, 0, none⟩ = some (.slice a ts.length c) := by have := Q4.out.cell 0; simpa using this
  have q1 : (w2.setCell ⟨w.heap.size + 1 + 1 + 1, 0, none⟩ (.slice a ts.length c)).cell? ⟨w.heap.size + 1 + 1 + 1, 1, none⟩ = some (.slice none 0 0) := by have := Q4.out.cell 1; simpa using this
  have q2 : (w2.setCell ⟨w.heap.size + 1 + 1 + 1, 0, none⟩ (.slice a ts.length c)).cell? ⟨w.heap.size + 1 + 1 + 1, 2, none⟩ = some (.slice none 0 0) := by have := Q4.out.cell 2; simpa using this
  have i0 : (w2.setCell ⟨w.heap.size + 1 + 1 + 1, 0, none⟩ (.slice a ts.length c)).cell? ⟨w.heap.size + 1 + 1, 0, none⟩ = some (.slice none 0 0) := by have := Q3.out.cell 0; simpa using this
  have i1 : (w2.setCell ⟨w.heap.size + 1 + 1 + 1, 0, none⟩ (.slice a ts.length c)).cell? ⟨w.heap.size + 1 + 1, 1, none⟩ = some (.slice none 0 0) := by have := Q3.out.cell 1; simpa using this
  have i2 : (w2.setCell ⟨w.heap.size + 1 + 1 + 1, 0, none⟩ (.slice a ts.length c)).cell? ⟨w.heap.size + 1 + 1, 2, none⟩ = some (.slice none 0 0) := by have := Q3.out.cell 2; simpa using this
  have i3 : (w2.setCell ⟨w.heap.size + 1 + 1 + 1, 0, none⟩ (.slice a ts.length c)).frozen? ⟨w.heap.size + 1 + 1, 0, none⟩ = false := Q3.out.frozen 0
  have i4 : (w2.setCell ⟨w.heap.size + 1 + 1 + 1, 0, none⟩ (.slice a ts.length c)).frozen? ⟨w.heap.size + 1 + 1, 1, none⟩ = false := Q3.out.frozen 1
  have i5 : (w2.setCell ⟨w.heap.size + 1 + 1 + 1, 0, none⟩ (.slice a ts.length c)).frozen? ⟨w.heap.size + 1 + 1, 2, none⟩ = false := Q3.out.frozen 2
  have iz := Q3.out.lt
  clear g0 g1 g2 g3 j0 j1 j2 j3 j4 j5
  have SK := Lib.hid (show ∀ (W : World) (T : List Nat), Kp T (w2.setCell ⟨w.heap.size + 1 + 1 + 1, 0, none⟩ (.slice a ts.length c)) W → (w.heap.size + 1 + 1 + 1) ∉ T → (W.cell? ⟨w.heap.size + 1 + 1 + 1, 0, none⟩ = some (.slice a ts.length c) ∧ W.cell? ⟨w.heap.size + 1 + 1 + 1, 1, none⟩ = some (.slice none 0 0) ∧ W.cell? ⟨w.heap.size + 1 + 1 + 1, 2, none⟩ = some (.slice none 0 0)) from fun W T k h => ⟨k.cell q0 h, k.cell q1 h, k.cell q2 h⟩)
  go_region_held3 (fun W => W.cell? ⟨w.heap.size + 1 + 1 + 1, 0, none⟩ = some (.slice a ts.length c) ∧ W.cell? ⟨w.heap.size + 1 + 1 + 1, 1, none⟩ = some (.slice none 0 0) ∧ W.cell? ⟨w.heap.size + 1 + 1 + 1, 2, none⟩ = some (.slice none 0 0)) (first | exact SK.out _ [] ((Kp.refl [] _).drew) (by simp) | exact SK.out _ [] KE.out (by simp) | exact SK.out _ [w.heap.size + 1 + 1] ((((KE.out.of_nil (T := [w.heap.size + 1 + 1])).setCell _ (.inr (by simp))).setCell _ (.inr (by simp))).setCell _ (.inr (by simp))) (by simp))
    (first | (go_at_call 72; refine (end_no (w.heap.size + 1 + 1 + 1 + 1) s _ _ hs' (RdSt.kp (RO.out.kp ((Kp.refl [w.heap.size + 1 + 1 + 1] _).setCell _ (.inr (by simp))) (by simp)) ((Kp.refl [] _).drew) (by simp)) HO.out).mono ?_; rintro e w3 ⟨gg, rfl, k3⟩; have KE : Hid (Kp [] (w2.setCell ⟨w.heap.size + 1 + 1 + 1, 0, none⟩ (.slice a ts.length c)) w3) := ((Kp.refl [] _).drew).trans k3; clear k3; have y0 := KE.out.cell i0 (by simp); have y1 := KE.out.cell i1 (by simp); have y2 := KE.out.cell i2 (by simp); have y3 := (KE.out.frozen (a := ⟨w.heap.size + 1 + 1, 0, none⟩) iz (by simp)).trans i3; have y4 := (KE.out.frozen (a := ⟨w.heap.size + 1 + 1, 1, none⟩) iz (by simp)).trans i4; have y5 := (KE.out.frozen (a := ⟨w.heap.size + 1 + 1, 2, none⟩) iz (by simp)).trans i5; have zz3 := KE.out.size))
  go_wp2_with fail
  refine nd_ret2 (w.heap.size + 1 + 1) (t := 30) (x := .slice a ts.length c) (y := .slice none 0 0) (z := .slice none 0 0) (v := .bool false) rfl rfl rfl ?_ rfl ?_
  · have h := (((Q3.out.kp KE.out (by simp)).set 0 (.slice a ts.length c)).set 1 (.slice none 0 0)).set 2 (.slice none 0 0)
    simpa using h
  · unfold ParsePost; rw [HPS.out]
    exact ⟨_, _, _, _, _, _, _, _, _, rfl, (((((KW.out).trans KE.out)).setCell (a := ⟨w.heap.size + 1 + 1, 0, none⟩) (.slice a ts.length c) (.inl (by show _ ≤ w.heap.size + 1 + 1; omega))).setCell (a := ⟨w.heap.size + 1 + 1, 1, none⟩) (.slice none 0 0) (.inl (by show _ ≤ w.heap.size + 1 + 1; omega))).setCell (a := ⟨w.heap.size + 1 + 1, 2, none⟩) (.slice none 0 0) (.inl (by show _ ≤ w.heap.size + 1 + 1; omega))⟩

set_option maxHeartbeats 1000000 in set_option maxRecDepth 100000 in
theorem parse_branch_empty (P wd : Nat) (pages : Bool) (s l : Bs) (w : World) (hs : s.length ≤ 3909374676453) (hP0 : 1024 ≤ P) (hP : P ≤ 8192) (hwd : wd ≤ 32) (ht : takeP 1 s = some (2, l)) (hk : ∀ r, listP s.length (kidP P wd pages) (true, []) l = some r → r.2.1 = []) :
    Calls Try.prog 32 #[.agg #[.int .i64 P, .int .i64 wd], .string ⟨s.toArray⟩, .bool pages] w (ParsePost w (parseP P wd pages s)) := by
  have hs' : s.length ≤ 140737488351232 := by omega
  have hlen := take1_len ht
  have hv : gotV (takeP 1) 0 (some s) = 2 := by simp [gotV, ht]
  have hr : gotR (takeP 1) (some s) = some l := by simp [gotR, ht]
  have hp : parseP P wd pages s = match listP s.length (kidP P wd pages) (true, []) l with | some (x, ks, l') => if ks = [] then none else if l' = [] then some ⟨[], x.2, ks⟩ else none | none => none := by simp only [parseP, ht]; rfl
  have HV := Lib.hid hv; have HR := Lib.hid hr; have HPP := Lib.hid hp; have HK := Lib.hid hk
  clear hv hr hp ht hk
  go_enter Try.func32, Try.ntmps32
  go_wp2_with fail
  refine (open_any s _).mono ?_
  rintro e w' ⟨rfl, rfl⟩
  go_wp2_with fail
  refine (u8_all (w.heap.size + 1 + 1 + 1 + 1) s (some s) _ (by have := open_st s ((((w.alloc (.cells #[.int .i64 P, .int .i64 wd] 23)).alloc (.cells #[.bool pages] 4)).alloc (.cells #[.slice none 0 0, .slice none 0 0, .slice none 0 0] 30)).alloc (.cells #[.slice none 0 0, .slice none 0 0, .slice none 0 0] 30)); simp only [World.size_alloc] at this; exact this) hs').mono ?_
  rintro e w1 ⟨rfl, k1, r1⟩
  rw [HV.out]
  rw [HR.out] at r1
  obtain ⟨f1, f2, f3, f4, k0, z1⟩ := five k1
  have F1 := Lib.hid f1; have F2 := Lib.hid f2; have F3 := Lib.hid f3; have F4 := Lib.hid f4; have K0 := Lib.hid k0; have R1 := Lib.hid r1
  clear f1 f2 f3 f4 k0 k1 r1
  have f4c0 := F4.out.cell 2; have f4f0 := F4.out.frozen 2
  simp only [List.getElem?_toArray, List.getElem?_cons_zero, List.getElem?_cons_succ] at f4c0
  go_wp2_with fail
  have Ff : Hid (Blk (w1.alloc (.cells #[.bool true] 4)) w1.heap.size 4 #[.bool true]) := Lib.hid (Blk.new w1 4 #[.bool true])
  refine (list_kids (w.heap.size + 1 + 1 + 1 + 1) (w.heap.size) (w.heap.size + 1) w1.heap.size (w.heap.size + 1 + 1 + 1) s.length P wd pages s l (w1.alloc (.cells #[.bool true] 4)) hs hP0 hP hwd (by omega) (by omega) (by omega) (by omega) (by omega) (by omega) (by omega) (by omega) (by omega) (by omega) (by omega) (R1.out.kp ((Kp.refl [] _).alloc _) (by simp)) (F1.out.alloc _) (F2.out.alloc _) Ff.out (F4.out.alloc _)).mono ?_
  rintro e w2 ⟨a, c, ts, a2, c2, seps, rfl, how, k2, hnew, r2, nb2, own2, hnew2, hsome, hnone⟩
  have G4 := Lib.hid nb2; have G3 := Lib.hid (((F3.out.alloc (.cells #[.bool true] 4))).kp k2 (by simp only [List.mem_cons, List.not_mem_nil, or_false]; omega))
  have g0 := G4.out.cell 0; have g1 := G4.out.cell 1; have g2 := G4.out.cell 2; have g3 := G4.out.frozen 2
  have j0 := G3.out.cell 0; have j1 := G3.out.cell 1; have j2 := G3.out.cell 2; have j3 := G3.out.frozen 0; have j4 := G3.out.frozen 1; have j5 := G3.out.frozen 2
  simp only [List.getElem?_toArray, List.getElem?_cons_zero, List.getElem?_cons_succ] at g0 g1 g2 j0 j1 j2
  have HOW := Lib.hid how; have K2 := Lib.hid k2; have HN := Lib.hid (fun g hg => (hnew g hg).1); have HDJ := Lib.hid (fun g hg => (hnew g hg).2); have R2 := Lib.hid r2; have HSO := Lib.hid hsome; have HNO := Lib.hid hnone; have HOW2 := Lib.hid own2; have HN2 := Lib.hid hnew2
  have zz2 := k2.size
  simp only [World.size_alloc] at zz2
  clear how k2 hnew r2 hsome hnone nb2 own2 hnew2
  have hts : ts = [] := by
    cases hr : listP s.length (kidP P wd pages) (true, []) l with
    | none => exact HNO.out hr
    | some r => rw [(HSO.out _ hr).1]; exact HK.out _ hr
  have htb : ((ts.length : Int) == 0) = true := by rw [hts]; rfl
  have HPS : Hid (parseP P wd pages s = none) := Lib.hid (by
    rw [HPP.out]
    cases hr : listP s.length (kidP P wd pages) (true, []) l with
    | none => rfl
    | some r => simp [HK.out _ hr])
  clear hts
  go_wp2_with fail
  have KW : Hid (Kp [] w (w2.setCell ⟨w.heap.size + 1 + 1 + 1, 2, none⟩ (.slice a ts.length c))) := Lib.hid (((K0.out.alloc (.cells #[.bool true] 4)).from K2.out (by simp only [List.mem_cons, List.not_mem_nil, or_false]; omega)).setCell _ (.inl (by show _ ≤ w.heap.size + 1 + 1 + 1; omega)))
  refine nd_ret2 (w.heap.size + 1 + 1) (t := 30) (x := .slice none 0 0) (y := .slice none 0 0) (z := .slice none 0 0) (v := .bool false) rfl rfl rfl ?_ rfl ?_
  · have h := (((G3.out.set_other (a := ⟨w.heap.size + 1 + 1 + 1, 2, none⟩) (.slice a ts.length c) (by show (w.heap.size + 1 + 1 + 1) ≠ _; omega)).set 0 (.slice none 0 0)).set 1 (.slice none 0 0)).set 2 (.slice none 0 0)
    simpa using h
  · unfold ParsePost; rw [HPS.out]
    exact ⟨_, _, _, _, _, _, _, _, _, rfl, (((KW.out).setCell (a := ⟨w.heap.size + 1 + 1, 0, none⟩) (.slice none 0 0) (.inl (by show _ ≤ w.heap.size + 1 + 1; omega))).setCell (a := ⟨w.heap.size + 1 + 1, 1, none⟩) (.slice none 0 0) (.inl (by show _ ≤ w.heap.size + 1 + 1; omega))).setCell (a := ⟨w.heap.size + 1 + 1, 2, none⟩) (.slice none 0 0) (.inl (by show _ ≤ w.heap.size + 1 + 1; omega))⟩

set_option maxHeartbeats 1000000 in set_option maxRecDepth 100000 in
theorem parse_branch_ok (P wd : Nat) (pages : Bool) (s l : Bs) (w : World) (hs : s.length ≤ 3909374676453) (hP0 : 1024 ≤ P) (hP : P ≤ 8192) (hwd : wd ≤ 32) (ht : takeP 1 s = some (2, l)) (hk : ∃ r, listP s.length (kidP P wd pages) (true, []) l = some r ∧ r.2.1 ≠ []) (ho : restO (listP s.length (kidP P wd pages) (true, []) l) = some []) :
    Calls Try.prog 32 #[.agg #[.int .i64 P, .int .i64 wd], .string ⟨s.toArray⟩, .bool pages] w (ParsePost w (parseP P wd pages s)) := by
  have hs' : s.length ≤ 140737488351232 := by omega
  have hlen := take1_len ht
  have hv : gotV (takeP 1) 0 (some s) = 2 := by simp [gotV, ht]
  have hr : gotR (takeP 1) (some s) = some l := by simp [gotR, ht]
  have hp : parseP P wd pages s = match listP s.length (kidP P wd pages) (true, []) l with | some (x, ks, l') => if ks = [] then none else if l' = [] then some ⟨[], x.2, ks⟩ else none | none => none := by simp only [parseP, ht]; rfl
  have HV := Lib.hid hv; have HR := Lib.hid hr; have HPP := Lib.hid hp; have HK := Lib.hid hk
  have HO := Lib.hid ho; clear ho
  clear hv hr hp ht hk
  go_enter Try.func32, Try.ntmps32
  go_wp2_with fail
  refine (open_any s _).mono ?_
  rintro e w' ⟨rfl, rfl⟩
  go_wp2_with fail
  refine (u8_all (w.heap.size + 1 + 1 + 1 + 1) s (some s) _ (by have := open_st s ((((w.alloc (.cells #[.int .i64 P, .int .i64 wd] 23)).alloc (.cells #[.bool pages] 4)).alloc (.cells #[.slice none 0 0, .slice none 0 0, .slice none 0 0] 30)).alloc (.cells #[.slice none 0 0, .slice none 0 0, .slice none 0 0] 30)); simp only [World.size_alloc] at this; exact this) hs').mono ?_
  rintro e w1 ⟨rfl, k1, r1⟩
  rw [HV.out]
  rw [HR.out] at r1
  obtain ⟨f1, f2, f3, f4, k0, z1⟩ := five k1
  have F1 := Lib.hid f1; have F2 := Lib.hid f2; have F3 := Lib.hid f3; have F4 := Lib.hid f4; have K0 := Lib.hid k0; have R1 := Lib.hid r1
  clear f1 f2 f3 f4 k0 k1 r1
  have f4c0 := F4.out.cell 2; have f4f0 := F4.out.frozen 2
  simp only [List.getElem?_toArray, List.getElem?_cons_zero, List.getElem?_cons_succ] at f4c0
  go_wp2_with fail
  have Ff : Hid (Blk (w1.alloc (.cells #[.bool true] 4)) w1.heap.size 4 #[.bool true]) := Lib.hid (Blk.new w1 4 #[.bool true])
  refine (list_kids (w.heap.size + 1 + 1 + 1 + 1) (w.heap.size) (w.heap.size + 1) w1.heap.size (w.heap.size + 1 + 1 + 1) s.length P wd pages s l (w1.alloc (.cells #[.bool true] 4)) hs hP0 hP hwd (by omega) (by omega) (by omega) (by omega) (by omega) (by omega) (by omega) (by omega) (by omega) (by omega) (by omega) (R1.out.kp ((Kp.refl [] _).alloc _) (by simp)) (F1.out.alloc _) (F2.out.alloc _) Ff.out (F4.out.alloc _)).mono ?_
  rintro e w2 ⟨a, c, ts, a2, c2, seps, rfl, how, k2, hnew, r2, nb2, own2, hnew2, hsome, hnone⟩
  have G4 := Lib.hid nb2; have G3 := Lib.hid (((F3.out.alloc (.cells #[.bool true] 4))).kp k2 (by simp only [List.mem_cons, List.not_mem_nil, or_false]; omega))
  have g0 := G4.out.cell 0; have g1 := G4.out.cell 1; have g2 := G4.out.cell 2; have g3 := G4.out.frozen 2
  have j0 := G3.out.cell 0; have j1 := G3.out.cell 1; have j2 := G3.out.cell 2; have j3 := G3.out.frozen 0; have j4 := G3.out.frozen 1; have j5 := G3.out.frozen 2
  simp only [List.getElem?_toArray, List.getElem?_cons_zero, List.getElem?_cons_succ] at g0 g1 g2 j0 j1 j2
  have HOW := Lib.hid how; have K2 := Lib.hid k2; have HN := Lib.hid (fun g hg => (hnew g hg).1); have HDJ := Lib.hid (fun g hg => (hnew g hg).2); have R2 := Lib.hid r2; have HSO := Lib.hid hsome; have HNO := Lib.hid hnone; have HOW2 := Lib.hid own2; have HN2 := Lib.hid hnew2
  have zz2 := k2.size
  simp only [World.size_alloc] at zz2
  clear how k2 hnew r2 hsome hnone nb2 own2 hnew2
  have hts : ts ≠ [] := by
    obtain ⟨r, hr, hn⟩ := HK.out
    rw [(HSO.out _ hr).1]; exact hn
  have htb : ((ts.length : Int) == 0) = false := by
    simp only [beq_eq_false_iff_ne]; intro e; exact hts (List.eq_nil_of_length_eq_zero (by omega))
  have HPS : Hid (parseP P wd pages s = some ⟨[], seps, ts⟩) := Lib.hid (by
    rw [HPP.out]
    have h0 := HO.out
    obtain ⟨r, hr, hn⟩ := HK.out
    obtain ⟨x, ks, l'⟩ := r
    have h1 := HSO.out _ hr
    rw [hr] at h0
    simp only [restO, Option.map_some, Option.some.injEq] at h0
    simp only at h1 hn
    rw [hr]
    simp only
    rw [if_neg hn, if_pos h0, h1.1, h1.2])
  clear hts
  go_wp2_with fail
  have KW : Hid (Kp [] w (w2.setCell ⟨w.heap.size + 1 + 1 + 1, 2, none⟩ (.slice a ts.length c))) := Lib.hid (((K0.out.alloc (.cells #[.bool true] 4)).from K2.out (by simp only [List.mem_cons, List.not_mem_nil, or_false]; omega)).setCell _ (.inl (by show _ ≤ w.heap.size + 1 + 1 + 1; omega)))
  have RO := Lib.hid (HO.out ▸ R2.out : RdSt w2 (w.heap.size + 1 + 1 + 1 + 1) s (some []))
  have Q4 := Lib.hid (G4.out.set 2 (.slice a ts.length c))
  have Q3 := Lib.hid (G3.out.set_other (a := ⟨w.heap.size + 1 + 1 + 1, 2, none⟩) (.slice a ts.length c) (by show (w.heap.size + 1 + 1 + 1) ≠ _; omega))
  have q0 : (w2.setCell ⟨w.heap.size + 1 + 1 + 1, 2, none⟩ (.slice a ts.length c)).cell? ⟨w.heap.size + 1 + 1 + 1, 0, none⟩ = some (.slice none 0 0) := by have := Q4.out.cell 0; simpa using this
  have q1 : (w2.setCell ⟨w.heap.size + 1 + 1 + 1, 2, none⟩ (.slice a ts.length c)).cell? ⟨w.heap.size + 1 + 1 + 1, 1, none⟩ = some (.slice a2 seps.length c2) := by have := Q4.out.cell 1; simpa using this
  have q2 : (w2.setCell ⟨w.heap.size + 1 + 1 + 1, 2, none⟩ (.slice a ts.length c)).cell? ⟨w.heap.size + 1 + 1 + 1, 2, none⟩ = some (.slice a ts.length c) := by have := Q4.out.cell 2; simpa using this
  have i0 : (w2.setCell ⟨w.heap.size + 1 + 1 + 1, 2, none⟩ (.slice a ts.length c)).cell? ⟨w.heap.size + 1 + 1, 0, none⟩ = some (.slice none 0 0) := by have := Q3.out.cell 0; simpa using this
  have i1 : (w2.setCell ⟨w.heap.size + 1 + 1 + 1, 2, none⟩ (.slice a ts.length c)).cell? ⟨w.heap.size + 1 + 1, 1, none⟩ = some (.slice none 0 0) := by have := Q3.out.cell 1; simpa using this
  have i2 : (w2.setCell ⟨w.heap.size + 1 + 1 + 1, 2, none⟩ (.slice a ts.length c)).cell? ⟨w.heap.size + 1 + 1, 2, none⟩ = some (.slice none 0 0) := by have := Q3.out.cell 2; simpa using this
  have i3 : (w2.setCell ⟨w.heap.size + 1 + 1 + 1, 2, none⟩ (.slice a ts.length c)).frozen? ⟨w.heap.size + 1 + 1, 0, none⟩ = false := Q3.out.frozen 0
  have i4 : (w2.setCell ⟨w.heap.size + 1 + 1 + 1, 2, none⟩ (.slice a ts.length c)).frozen? ⟨w.heap.size + 1 + 1, 1, none⟩ = false := Q3.out.frozen 1
  have i5 : (w2.setCell ⟨w.heap.size + 1 + 1 + 1, 2, none⟩ (.slice a ts.length c)).frozen? ⟨w.heap.size + 1 + 1, 2, none⟩ = false := Q3.out.frozen 2
  have iz := Q3.out.lt
  clear g0 g1 g2 g3 j0 j1 j2 j3 j4 j5
  have SK := Lib.hid (show ∀ (W : World) (T : List Nat), Kp T (w2.setCell ⟨w.heap.size + 1 + 1 + 1, 2, none⟩ (.slice a ts.length c)) W → (w.heap.size + 1 + 1 + 1) ∉ T → (W.cell? ⟨w.heap.size + 1 + 1 + 1, 0, none⟩ = some (.slice none 0 0) ∧ W.cell? ⟨w.heap.size + 1 + 1 + 1, 1, none⟩ = some (.slice a2 seps.length c2) ∧ W.cell? ⟨w.heap.size + 1 + 1 + 1, 2, none⟩ = some (.slice a ts.length c)) from fun W T k h => ⟨k.cell q0 h, k.cell q1 h, k.cell q2 h⟩)
  go_region_held3 (fun W => W.cell? ⟨w.heap.size + 1 + 1 + 1, 0, none⟩ = some (.slice none 0 0) ∧ W.cell? ⟨w.heap.size + 1 + 1 + 1, 1, none⟩ = some (.slice a2 seps.length c2) ∧ W.cell? ⟨w.heap.size + 1 + 1 + 1, 2, none⟩ = some (.slice a ts.length c)) (first | exact SK.out _ [] ((Kp.refl [] _).drew) (by simp) | exact SK.out _ [] KE.out (by simp) | exact SK.out _ [w.heap.size + 1 + 1] ((((KE.out.of_nil (T := [w.heap.size + 1 + 1])).setCell _ (.inr (by simp))).setCell _ (.inr (by simp))).setCell _ (.inr (by simp))) (by simp))
    (first | (go_at_call 72; refine (end_ok (w.heap.size + 1 + 1 + 1 + 1) s _ hs' (RdSt.kp (o := some []) (RO.out.kp ((Kp.refl [w.heap.size + 1 + 1 + 1] _).setCell _ (.inr (by simp))) (by simp)) ((Kp.refl [] _).drew) (by simp))).mono ?_; rintro e w3 ⟨rfl, k3⟩; have KE : Hid (Kp [] (w2.setCell ⟨w.heap.size + 1 + 1 + 1, 2, none⟩ (.slice a ts.length c)) w3) := ((Kp.refl [] _).drew).trans k3; clear k3; have y0 := KE.out.cell i0 (by simp); have y1 := KE.out.cell i1 (by simp); have y2 := KE.out.cell i2 (by simp); have y3 := (KE.out.frozen (a := ⟨w.heap.size + 1 + 1, 0, none⟩) iz (by simp)).trans i3; have y4 := (KE.out.frozen (a := ⟨w.heap.size + 1 + 1, 1, none⟩) iz (by simp)).trans i4; have y5 := (KE.out.frozen (a := ⟨w.heap.size + 1 + 1, 2, none⟩) iz (by simp)).trans i5; have zz3 := KE.out.size))
  go_wp2_with fail
  refine nd_ret2 (w.heap.size + 1 + 1) (t := 30) (x := .slice none 0 0) (y := .slice a2 seps.length c2) (z := .slice a ts.length c) (v := .bool true) rfl rfl rfl ?_ rfl ?_
  · have h := (((Q3.out.kp KE.out (by simp)).set 0 (.slice none 0 0)).set 1 (.slice a2 seps.length c2)).set 2 (.slice a ts.length c)
    simpa using h
  · have KF : Kp [] w _ := (((((KW.out).trans KE.out)).setCell (a := ⟨w.heap.size + 1 + 1, 0, none⟩) (.slice none 0 0) (.inl (by show _ ≤ w.heap.size + 1 + 1; omega))).setCell (a := ⟨w.heap.size + 1 + 1, 1, none⟩) (.slice a2 seps.length c2) (.inl (by show _ ≤ w.heap.size + 1 + 1; omega))).setCell (a := ⟨w.heap.size + 1 + 1, 2, none⟩) (.slice a ts.length c) (.inl (by show _ ≤ w.heap.size + 1 + 1; omega))
    have KG : Kp [w.heap.size + 1 + 1] w3 _ := (((Kp.refl [w.heap.size + 1 + 1] w3).setCell (a := ⟨w.heap.size + 1 + 1, 0, none⟩) (.slice none 0 0) (.inr (by simp))).setCell (a := ⟨w.heap.size + 1 + 1, 1, none⟩) (.slice a2 seps.length c2) (.inr (by simp))).setCell (a := ⟨w.heap.size + 1 + 1, 2, none⟩) (.slice a ts.length c) (.inr (by simp))
    unfold ParsePost; rw [HPS.out]
    exact ⟨none, a2, a, 0, c2, c, rfl, ⟨Own.nil _ _ _, (by rw [csS_map]; exact ((((HOW2.out.kp ((Kp.refl [w.heap.size + 1 + 1 + 1] _).setCell (a := ⟨w.heap.size + 1 + 1 + 1, 2, none⟩) (.slice a ts.length c) (.inr (by simp))) (by intro g hg; have := HN2.out g hg; simp at this; simp; omega)).kp KE.out (by simp)).kp KG (by intro g hg; have := HN2.out g hg; simp at this; simp; omega)))), ((((HOW.out.kp ((Kp.refl [w.heap.size + 1 + 1 + 1] _).setCell (a := ⟨w.heap.size + 1 + 1 + 1, 2, none⟩) (.slice a ts.length c) (.inr (by simp))) (by intro g hg; have := HN.out g hg; simp at this; simp; omega)).kp KE.out (by simp)).kp KG (by intro g hg; have := HN.out g hg; simp at this; simp; omega))), (by intro g hg; rcases List.mem_append.1 hg with h | h; (rcases List.mem_append.1 h with h | h; (exact absurd h (by simp [ab])); (have := HN2.out g h; simp at this; omega)); (have := HN.out g h; simp at this; omega)), (fun g hg => absurd hg (by simp [ab])), (fun g hg e => HDJ.out g e hg)⟩, KF⟩

set_option maxHeartbeats 1000000 in set_option maxRecDepth 100000 in
theorem parse_branch_no (P wd : Nat) (pages : Bool) (s l : Bs) (w : World) (hs : s.length ≤ 3909374676453) (hP0 : 1024 ≤ P) (hP : P ≤ 8192) (hwd : wd ≤ 32) (ht : takeP 1 s = some (2, l)) (hk : ∃ r, listP s.length (kidP P wd pages) (true, []) l = some r ∧ r.2.1 ≠ []) (ho : restO (listP s.length (kidP P wd pages) (true, []) l) ≠ some []) :
    Calls Try.prog 32 #[.agg #[.int .i64 P, .int .i64 wd], .string ⟨s.toArray⟩, .bool pages] w (ParsePost w (parseP P wd pages s)) := by
  have hs' : s.length ≤ 140737488351232 := by omega
  have hlen := take1_len ht
  have hv : gotV (takeP 1) 0 (some s) = 2 := by simp [gotV, ht]
  have hr : gotR (takeP 1) (some s) = some l := by simp [gotR, ht]
  have hp : parseP P wd pages s = match listP s.length (kidP P wd pages) (true, []) l with | some (x, ks, l') => if ks = [] then none else if l' = [] then some ⟨[], x.2, ks⟩ else none | none => none := by simp only [parseP, ht]; rfl
  have HV := Lib.hid hv; have HR := Lib.hid hr; have HPP := Lib.hid hp; have HK := Lib.hid hk
  have HO := Lib.hid ho; clear ho
  clear hv hr hp ht hk
  go_enter Try.func32, Try.ntmps32
  go_wp2_with fail
  refine (open_any s _).mono ?_
  rintro e w' ⟨rfl, rfl⟩
  go_wp2_with fail
  refine (u8_all (w.heap.size + 1 + 1 + 1 + 1) s (some s) _ (by have := open_st s ((((w.alloc (.cells #[.int .i64 P, .int .i64 wd] 23)).alloc (.cells #[.bool pages] 4)).alloc (.cells #[.slice none 0 0, .slice none 0 0, .slice none 0 0] 30)).alloc (.cells #[.slice none 0 0, .slice none 0 0, .slice none 0 0] 30)); simp only [World.size_alloc] at this; exact this) hs').mono ?_
  rintro e w1 ⟨rfl, k1, r1⟩
  rw [HV.out]
  rw [HR.out] at r1
  obtain ⟨f1, f2, f3, f4, k0, z1⟩ := five k1
  have F1 := Lib.hid f1; have F2 := Lib.hid f2; have F3 := Lib.hid f3; have F4 := Lib.hid f4; have K0 := Lib.hid k0; have R1 := Lib.hid r1
  clear f1 f2 f3 f4 k0 k1 r1
  have f4c0 := F4.out.cell 2; have f4f0 := F4.out.frozen 2
  simp only [List.getElem?_toArray, List.getElem?_cons_zero, List.getElem?_cons_succ] at f4c0
  go_wp2_with fail
  have Ff : Hid (Blk (w1.alloc (.cells #[.bool true] 4)) w1.heap.size 4 #[.bool true]) := Lib.hid (Blk.new w1 4 #[.bool true])
  refine (list_kids (w.heap.size + 1 + 1 + 1 + 1) (w.heap.size) (w.heap.size + 1) w1.heap.size (w.heap.size + 1 + 1 + 1) s.length P wd pages s l (w1.alloc (.cells #[.bool true] 4)) hs hP0 hP hwd (by omega) (by omega) (by omega) (by omega) (by omega) (by omega) (by omega) (by omega) (by omega) (by omega) (by omega) (R1.out.kp ((Kp.refl [] _).alloc _) (by simp)) (F1.out.alloc _) (F2.out.alloc _) Ff.out (F4.out.alloc _)).mono ?_
  rintro e w2 ⟨a, c, ts, a2, c2, seps, rfl, how, k2, hnew, r2, nb2, own2, hnew2, hsome, hnone⟩
  have G4 := Lib.hid nb2; have G3 := Lib.hid (((F3.out.alloc (.cells #[.bool true] 4))).kp k2 (by simp only [List.mem_cons, List.not_mem_nil, or_false]; omega))
  have g0 := G4.out.cell 0; have g1 := G4.out.cell 1; have g2 := G4.out.cell 2; have g3 := G4.out.frozen 2
  have j0 := G3.out.cell 0; have j1 := G3.out.cell 1; have j2 := G3.out.cell 2; have j3 := G3.out.frozen 0; have j4 := G3.out.frozen 1; have j5 := G3.out.frozen 2
  simp only [List.getElem?_toArray, List.getElem?_cons_zero, List.getElem?_cons_succ] at g0 g1 g2 j0 j1 j2
  have HOW := Lib.hid how; have K2 := Lib.hid k2; have HN := Lib.hid (fun g hg => (hnew g hg).1); have HDJ := Lib.hid (fun g hg => (hnew g hg).2); have R2 := Lib.hid r2; have HSO := Lib.hid hsome; have HNO := Lib.hid hnone; have HOW2 := Lib.hid own2; have HN2 := Lib.hid hnew2
  have zz2 := k2.size
  simp only [World.size_alloc] at zz2
  clear how k2 hnew r2 hsome hnone nb2 own2 hnew2
  have hts : ts ≠ [] := by
    obtain ⟨r, hr, hn⟩ := HK.out
    rw [(HSO.out _ hr).1]; exact hn
  have htb : ((ts.length : Int) == 0) = false := by
    simp only [beq_eq_false_iff_ne]; intro e; exact hts (List.eq_nil_of_length_eq_zero (by omega))
  have HPS : Hid (parseP P wd pages s = none) := Lib.hid (by
    rw [HPP.out]
    have h0 := HO.out
    obtain ⟨r, hr, hn⟩ := HK.out
    obtain ⟨x, ks, l'⟩ := r
    rw [hr] at h0
    simp only [restO, Option.map_some, ne_eq, Option.some.injEq] at h0
    simp only at hn
    rw [hr]
    simp only
    rw [if_neg hn, if_neg h0])
  clear hts
  go_wp2_with fail
  have KW : Hid (Kp [] w (w2.setCell ⟨w.heap.size + 1 + 1 + 1, 2, none⟩ (.slice a ts.length c))) := Lib.hid (((K0.out.alloc (.cells #[.bool true] 4)).from K2.out (by simp only [List.mem_cons, List.not_mem_nil, or_false]; omega)).setCell _ (.inl (by show _ ≤ w.heap.size + 1 + 1 + 1; omega)))
  have RO := R2
  have Q4 := Lib.hid (G4.out.set 2 (.slice a ts.length c))
  have Q3 := Lib.hid (G3.out.set_other (a := ⟨w.heap.size + 1 + 1 + 1, 2, none⟩) (.slice a ts.length c) (by show (w.heap.size + 1 + 1 + 1) ≠ _; omega))
  have q0 : (w2.setCell ⟨w.heap.size + 1 + 1 + 1, 2, none⟩ (.slice a ts.length c)).cell? ⟨w.heap.size + 1 + 1 + 1, 0, none⟩ = some (.slice none 0 0) := by have := Q4.out.cell 0; simpa using this
  have q1 : (w2.setCell ⟨w.heap.size + 1 + 1 + 1, 2, none⟩ (.slice a ts.length c)).cell? ⟨w.heap.size + 1 + 1 + 1, 1, none⟩ = some (.slice a2 seps.length c2) := by have := Q4.out.cell 1; simpa using this
  have q2 : (w2.setCell ⟨w.heap.size + 1 + 1 + 1, 2, none⟩ (.slice a ts.length c)).cell? ⟨w.heap.size + 1 + 1 + 1, 2, none⟩ = some (.slice a ts.length c) := by have := Q4.out.cell 2; simpa using this
  have i0 : (w2.setCell ⟨w.heap.size + 1 + 1 + 1, 2, none⟩ (.slice a ts.length c)).cell? ⟨w.heap.size + 1 + 1, 0, none⟩ = some (.slice none 0 0) := by have := Q3.out.cell 0; simpa using this
  have i1 : (w2.setCell ⟨w.heap.size + 1 + 1 + 1, 2, none⟩ (.slice a ts.length c)).cell? ⟨w.heap.size + 1 + 1, 1, none⟩ = some (.slice none 0 0) := by have := Q3.out.cell 1; simpa using this
  have i2 : (w2.setCell ⟨w.heap.size + 1 + 1 + 1, 2, none⟩ (.slice a ts.length c)).cell? ⟨w.heap.size + 1 + 1, 2, none⟩ = some (.slice none 0 0) := by have := Q3.out.cell 2; simpa using this
  have i3 : (w2.setCell ⟨w.heap.size + 1 + 1 + 1, 2, none⟩ (.slice a ts.length c)).frozen? ⟨w.heap.size + 1 + 1, 0, none⟩ = false := Q3.out.frozen 0
  have i4 : (w2.setCell ⟨w.heap.size + 1 + 1 + 1, 2, none⟩ (.slice a ts.length c)).frozen? ⟨w.heap.size + 1 + 1, 1, none⟩ = false := Q3.out.frozen 1
  have i5 : (w2.setCell ⟨w.heap.size + 1 + 1 + 1, 2, none⟩ (.slice a ts.length c)).frozen? ⟨w.heap.size + 1 + 1, 2, none⟩ = false := Q3.out.frozen 2
  have iz := Q3.out.lt
  clear g0 g1 g2 g3 j0 j1 j2 j3 j4 j5
  have SK := Lib.hid (show ∀ (W : World) (T : List Nat), Kp T (w2.setCell ⟨w.heap.size + 1 + 1 + 1, 2, none⟩ (.slice a ts.length c)) W → (w.heap.size + 1 + 1 + 1) ∉ T → (W.cell? ⟨w.heap.size + 1 + 1 + 1, 0, none⟩ = some (.slice none 0 0) ∧ W.cell? ⟨w.heap.size + 1 + 1 + 1, 1, none⟩ = some (.slice a2 seps.length c2) ∧ W.cell? ⟨w.heap.size + 1 + 1 + 1, 2, none⟩ = some (.slice a ts.length c)) from fun W T k h => ⟨k.cell q0 h, k.cell q1 h, k.cell q2 h⟩)
  go_region_held3 (fun W => W.cell? ⟨w.heap.size + 1 + 1 + 1, 0, none⟩ = some (.slice none 0 0) ∧ W.cell? ⟨w.heap.size + 1 + 1 + 1, 1, none⟩ = some (.slice a2 seps.length c2) ∧ W.cell? ⟨w.heap.size + 1 + 1 + 1, 2, none⟩ = some (.slice a ts.length c)) (first | exact SK.out _ [] ((Kp.refl [] _).drew) (by simp) | exact SK.out _ [] KE.out (by simp) | exact SK.out _ [w.heap.size + 1 + 1] ((((KE.out.of_nil (T := [w.heap.size + 1 + 1])).setCell _ (.inr (by simp))).setCell _ (.inr (by simp))).setCell _ (.inr (by simp))) (by simp))
    (first | (go_at_call 72; refine (end_no (w.heap.size + 1 + 1 + 1 + 1) s _ _ hs' (RdSt.kp (RO.out.kp ((Kp.refl [w.heap.size + 1 + 1 + 1] _).setCell _ (.inr (by simp))) (by simp)) ((Kp.refl [] _).drew) (by simp)) HO.out).mono ?_; rintro e w3 ⟨gg, rfl, k3⟩; have KE : Hid (Kp [] (w2.setCell ⟨w.heap.size + 1 + 1 + 1, 2, none⟩ (.slice a ts.length c)) w3) := ((Kp.refl [] _).drew).trans k3; clear k3; have y0 := KE.out.cell i0 (by simp); have y1 := KE.out.cell i1 (by simp); have y2 := KE.out.cell i2 (by simp); have y3 := (KE.out.frozen (a := ⟨w.heap.size + 1 + 1, 0, none⟩) iz (by simp)).trans i3; have y4 := (KE.out.frozen (a := ⟨w.heap.size + 1 + 1, 1, none⟩) iz (by simp)).trans i4; have y5 := (KE.out.frozen (a := ⟨w.heap.size + 1 + 1, 2, none⟩) iz (by simp)).trans i5; have zz3 := KE.out.size))
  go_wp2_with fail
  refine nd_ret2 (w.heap.size + 1 + 1) (t := 30) (x := .slice none 0 0) (y := .slice a2 seps.length c2) (z := .slice a ts.length c) (v := .bool false) rfl rfl rfl ?_ rfl ?_
  · have h := (((Q3.out.kp KE.out (by simp)).set 0 (.slice none 0 0)).set 1 (.slice a2 seps.length c2)).set 2 (.slice a ts.length c)
    simpa using h
  · unfold ParsePost; rw [HPS.out]
    exact ⟨_, _, _, _, _, _, _, _, _, rfl, (((((KW.out).trans KE.out)).setCell (a := ⟨w.heap.size + 1 + 1, 0, none⟩) (.slice none 0 0) (.inl (by show _ ≤ w.heap.size + 1 + 1; omega))).setCell (a := ⟨w.heap.size + 1 + 1, 1, none⟩) (.slice a2 seps.length c2) (.inl (by show _ ≤ w.heap.size + 1 + 1; omega))).setCell (a := ⟨w.heap.size + 1 + 1, 2, none⟩) (.slice a ts.length c) (.inl (by show _ ≤ w.heap.size + 1 + 1; omega))⟩

set_option maxHeartbeats 1000000 in set_option maxRecDepth 100000 in
theorem parse_other (P wd : Nat) (pages : Bool) (s : Bs) (w : World) (hs : s.length ≤ 3909374676453) (ht : ∀ r, takeP 1 s = some r → r.1 ≠ 1 ∧ r.1 ≠ 2) :
    Calls Try.prog 32 #[.agg #[.int .i64 P, .int .i64 wd], .string ⟨s.toArray⟩, .bool pages] w (ParsePost w (parseP P wd pages s)) := by
  have hs' : s.length ≤ 140737488351232 := by omega
  have hp : parseP P wd pages s = none := by
    unfold parseP
    cases hr : takeP 1 s with
    | none => rfl
    | some r => have := ht r hr; simp [this.1, this.2]
  obtain ⟨v, hv⟩ : ∃ v, gotV (takeP 1) 0 (some s) = v := ⟨_, rfl⟩
  obtain ⟨o, hr⟩ : ∃ o, gotR (takeP 1) (some s) = o := ⟨_, rfl⟩
  have hvv : v ≠ 1 ∧ v ≠ 2 := by
    rw [← hv]
    cases hr : takeP 1 s with
    | none => simp [gotV, hr]
    | some r => have := ht r hr; simpa [gotV, hr] using this
  have hv1 : ((v : Int) == 1) = false := by simp only [beq_eq_false_iff_ne]; omega
  have hv2 : ((v : Int) == 2) = false := by simp only [beq_eq_false_iff_ne]; omega
  have HV := Lib.hid hv; have HR := Lib.hid hr; have HPS := Lib.hid hp
  clear hv hr hp ht hvv
  go_enter Try.func32, Try.ntmps32
  go_wp2_with fail
  refine (open_any s _).mono ?_
  rintro e w' ⟨rfl, rfl⟩
  go_wp2_with fail
  refine (u8_all (w.heap.size + 1 + 1 + 1 + 1) s (some s) _ (by have := open_st s ((((w.alloc (.cells #[.int .i64 P, .int .i64 wd] 23)).alloc (.cells #[.bool pages] 4)).alloc (.cells #[.slice none 0 0, .slice none 0 0, .slice none 0 0] 30)).alloc (.cells #[.slice none 0 0, .slice none 0 0, .slice none 0 0] 30)); simp only [World.size_alloc] at this; exact this) hs').mono ?_
  rintro e w1 ⟨rfl, k1, r1⟩
  rw [HV.out]
  rw [HR.out] at r1
  obtain ⟨f1, f2, f3, f4, k0, z1⟩ := five k1
  have F1 := Lib.hid f1; have F2 := Lib.hid f2; have F3 := Lib.hid f3; have F4 := Lib.hid f4; have K0 := Lib.hid k0; have R1 := Lib.hid r1
  clear f1 f2 f3 f4 k0 k1 r1
  have j0 := F3.out.cell 0; have j1 := F3.out.cell 1; have j2 := F3.out.cell 2; have j3 := F3.out.frozen 0; have j4 := F3.out.frozen 1; have j5 := F3.out.frozen 2
  simp only [List.getElem?_toArray, List.getElem?_cons_zero, List.getElem?_cons_succ] at j0 j1 j2
  go_wp2_with fail
  refine nd_ret2 (w.heap.size + 1 + 1) (t := 30) (x := .slice none 0 0) (y := .slice none 0 0) (z := .slice none 0 0) (v := .bool false) rfl rfl rfl ?_ rfl ?_
  · have h := ((F3.out.set 0 (.slice none 0 0)).set 1 (.slice none 0 0)).set 2 (.slice none 0 0)
    simpa using h
  · unfold ParsePost; rw [HPS.out]
    exact ⟨_, _, _, _, _, _, _, _, _, rfl, (((K0.out).setCell (a := ⟨w.heap.size + 1 + 1, 0, none⟩) (.slice none 0 0) (.inl (by show _ ≤ w.heap.size + 1 + 1; omega))).setCell (a := ⟨w.heap.size + 1 + 1, 1, none⟩) (.slice none 0 0) (.inl (by show _ ≤ w.heap.size + 1 + 1; omega))).setCell (a := ⟨w.heap.size + 1 + 1, 2, none⟩) (.slice none 0 0) (.inl (by show _ ≤ w.heap.size + 1 + 1; omega))⟩

/-- What parse answers. -/
theorem parse_any (P wd : Nat) (pages : Bool) (s : Bs) (w : World) (hs : s.length ≤ 3909374676453) (hP0 : 1024 ≤ P) (hP : P ≤ 8192) (hwd : wd ≤ 32) :
    Calls Try.prog 32 #[.agg #[.int .i64 P, .int .i64 wd], .string ⟨s.toArray⟩, .bool pages] w (ParsePost w (parseP P wd pages s)) := by
  by_cases ho : ∀ r, takeP 1 s = some r → r.1 ≠ 1 ∧ r.1 ≠ 2
  · exact parse_other P wd pages s w hs ho
  · cases hr : takeP 1 s with
    | none => exact absurd (fun r h => by rw [hr] at h; cases h) ho
    | some r =>
      obtain ⟨t, l⟩ := r
      by_cases h1 : t = 1
      · subst h1
        by_cases h : restO (listP s.length (pairP P) () l) = some []
        · exact parse_leaf_ok P wd pages s l w hs hP0 hP hr h
        · exact parse_leaf_no P wd pages s l w hs hP0 hP hr h
      · by_cases h2 : t = 2
        · subst h2
          by_cases hk : ∀ r, listP s.length (kidP P wd pages) (true, []) l = some r → r.2.1 = []
          · exact parse_branch_empty P wd pages s l w hs hP0 hP hwd hr hk
          · have hk' : ∃ r, listP s.length (kidP P wd pages) (true, []) l = some r ∧ r.2.1 ≠ [] := Classical.byContradiction fun hc => hk fun r h => Classical.byContradiction fun hh => hc ⟨r, h, hh⟩
            by_cases h : restO (listP s.length (kidP P wd pages) (true, []) l) = some []
            · exact parse_branch_ok P wd pages s l w hs hP0 hP hwd hr hk' h
            · exact parse_branch_no P wd pages s l w hs hP0 hP hwd hr hk' h
        · exact absurd (fun r h => by rw [hr] at h; cases h; exact ⟨h1, h2⟩) ho

end Go.Proofs.Ytemicgccgcmmbaa

/- A node in lists of its own. -/
namespace Go.Proofs.Ytemicgccgcmmbaa
set_option linter.unusedVariables false
set_option linter.unusedSimpArgs false
open Go Go.RowKit

def CopyPost (n : Nd) (w : World) (e : Ending) (w' : World) : Prop :=
  ∃ pa sa ka pc sc kc, e = .returned (.agg #[.slice pa n.pairs.length pc, .slice sa n.seps.length sc, .slice ka n.kids.length kc]) ∧ Own3 w' w.heap.size pa sa ka pc sc kc n ∧ Kp [] w w'

/-- A node is handed back. -/
theorem nd_ret1 {fn : Func} {R : Ending → World → Prop} {a : Act} {w : World} {p : Tmp} (g : Nat) {t : TypeId} {x y z : Value} (hr : fn.results = #[.cell p 30]) (hp : a.tmps.getD p undef = .pointer (some ⟨g, 0, none⟩)) (hg : Blk w g t #[x, y, z]) (hd : a.defers = []) (hR : R (.returned (.agg #[x, y, z])) w) :
    bodyPost Try.prog fn R .ret a w :=
  row_ret g hr Try.underlying30 rfl (by kernel_rfl) hp hg hd hR

/-- Behind the three lists the result is written. -/
theorem copy_fin {w W wF : World} {pa sa ka : Option Addr} {pc sc kc : Nat} {n : Nd} {B : Nat} {x y z : Value}
    (hW : Kp [] w W) (hB : w.heap.size ≤ B) (hBW : B < W.heap.size) (hb : Blk wF B 30 #[x, y, z]) (hk : Kp [] W wF)
    (h1 : Own wF 48 2 pa n.pairs.length pc (n.pairs.flatMap csP)) (h2 : Own wF 9 1 sa n.seps.length sc (n.seps.flatMap csS)) (h3 : Own wF 42 33 ka n.kids.length kc (n.kids.flatMap csK))
    (l1 : ∀ g ∈ ab pa ++ ab sa ++ ab ka, W.heap.size ≤ g) (d1 : ∀ g ∈ ab pa, g ∉ ab sa ∧ g ∉ ab ka) (d2 : ∀ g ∈ ab sa, g ∉ ab ka)
    {wG : World} {a b c : Value} (hG : wG = ((wF.setCell ⟨B, 0, none⟩ a).setCell ⟨B, 1, none⟩ b).setCell ⟨B, 2, none⟩ c) :
    Blk wG B 30 #[a, b, c] ∧ Own3 wG w.heap.size pa sa ka pc sc kc n ∧ Kp [] w wG := by
  subst hG
  have hz := hW.size
  have kG : Kp [B] wF (((wF.setCell ⟨B, 0, none⟩ a).setCell ⟨B, 1, none⟩ b).setCell ⟨B, 2, none⟩ c) := (((Kp.refl [B] wF).setCell (a := ⟨B, 0, none⟩) a (.inr (by simp))).setCell (a := ⟨B, 1, none⟩) b (.inr (by simp))).setCell (a := ⟨B, 2, none⟩) c (.inr (by simp))
  refine ⟨?_, ?_, ?_⟩
  · have h := ((hb.set 0 a).set 1 b).set 2 c
    simpa using h
  · exact Own3.kp ⟨h1, h2, h3, fun g hg => Nat.le_trans hz (l1 g hg), d1, d2⟩ kG (fun g hg => by have := l1 g hg; simp; omega)
  · exact (hW.trans hk).from kG (fun g hg => by simp at hg; subst hg; exact .inl hB)

end Go.Proofs.Ytemicgccgcmmbaa

/- The document's copy of a node. -/
namespace Go.Proofs.Ytemicgccgcmmbaa
set_option linter.unusedVariables false
set_option linter.unusedSimpArgs false
open Go Go.RowKit

/-- The same as one step of a region that draws its order. -/
theorem step_app_pair {w : World} {ops : Array Oper} {o : Oper} {A : Act} {K : Act → World → Prop} {Q : Exit → Act → World → Prop} {E : Prop} (hgd : o.guard = none) {s x : Operand} {tx : TypeId}
    (ho : o.op = .call { callee := .builtin .append, args := #[s, x], argTypes := #[26, tx] })
    {a : Option Addr} {n c : Nat} {xs : List Value} (hs : A.eval s = .slice a n c) (hown : Own w 48 2 a n c xs) (m : Nat) (news : List Value) {xv : Value} (hx : A.eval x = xv) (hsrc : Src Try.prog 2 tx xv m news w)
    (h63 : n + m ≤ 4398046511104)
    (h : ∀ a' c' w', Own w' 48 2 a' (n + m) c' (xs ++ news) → Kp (ab a) w w' → (∀ g ∈ ab a', g ∈ ab a ∨ w.heap.size ≤ g) → K (A.put o.dst (.slice a' (n + m) c')) w') :
    if Region.wanted o (yielded ops A.tmps) = true then Oper.wp Try.prog o A w K Q else E := by
  have hw : Region.wanted o (yielded ops A.tmps) = true := by simp [Region.wanted, hgd]
  rw [if_pos hw]
  subst hx
  obtain ⟨i0, hi, hz0, hz1, hz2⟩ := info_parts Try.infoPair
  exact wp_app w s x 26 tx ho 48 i0 (.agg #[.string ⟨#[]⟩, .string ⟨#[]⟩]) 2 32 Try.underlying26 hi hz0 hz1 hz2 rfl a n c xs hs hown m news hsrc (by omega) (by unfold maxLen; omega) h

/-- The same as one step of a region that draws its order. -/
theorem step_app_kid {w : World} {ops : Array Oper} {o : Oper} {A : Act} {K : Act → World → Prop} {Q : Exit → Act → World → Prop} {E : Prop} (hgd : o.guard = none) {s x : Operand} {tx : TypeId}
    (ho : o.op = .call { callee := .builtin .append, args := #[s, x], argTypes := #[28, tx] })
    {a : Option Addr} {n c : Nat} {xs : List Value} (hs : A.eval s = .slice a n c) (hown : Own w 42 33 a n c xs) (m : Nat) (news : List Value) {xv : Value} (hx : A.eval x = xv) (hsrc : Src Try.prog 33 tx xv m news w)
    (h63 : n + m ≤ 3909374676453)
    (h : ∀ a' c' w', Own w' 42 33 a' (n + m) c' (xs ++ news) → Kp (ab a) w w' → (∀ g ∈ ab a', g ∈ ab a ∨ w.heap.size ≤ g) → K (A.put o.dst (.slice a' (n + m) c')) w') :
    if Region.wanted o (yielded ops A.tmps) = true then Oper.wp Try.prog o A w K Q else E := by
  have hw : Region.wanted o (yielded ops A.tmps) = true := by simp [Region.wanted, hgd]
  rw [if_pos hw]
  subst hx
  obtain ⟨i0, hi, hz0, hz1, hz2⟩ := info_parts Try.infoKid
  exact wp_app w s x 28 tx ho 42 i0 (.agg Kd.zero.c) 33 36 Try.underlying28 hi hz0 hz1 hz2 (Kd.c_size Kd.zero) a n c xs hs hown m news hsrc (by omega) (by unfold maxLen; omega) h

theorem src_pairs' {w : World} {a : Option Addr} {l : List Pr} (h : PsAt w a l) (c : Nat) : Src Try.prog 2 26 (.slice a l.length c) l.length (l.flatMap csP) w := by
  cases a with
  | none =>
    cases l with
    | nil => exact Src.ofNil w Try.underlying26 c
    | cons x t => obtain ⟨b, o, ha, _⟩ := h 0 x rfl; cases ha
  | some ad => exact src_pairs h c
theorem src_texts' {w : World} {a : Option Addr} {l : List Bs} (h : SsAt w a l) (c : Nat) : Src Try.prog 1 27 (.slice a l.length c) l.length (l.flatMap csS) w := by
  cases a with
  | none =>
    cases l with
    | nil => exact Src.ofNil w Try.underlying27 c
    | cons x t => obtain ⟨b, o, ha, _⟩ := h 0 x rfl; cases ha
  | some ad => exact src_texts h c
theorem src_kids' {w : World} {a : Option Addr} {l : List Kd} (h : KsAt w a l) (c : Nat) : Src Try.prog 33 28 (.slice a l.length c) l.length (l.flatMap csK) w := by
  cases a with
  | none =>
    cases l with
    | nil => exact Src.ofNil w Try.underlying28 c
    | cons x t => obtain ⟨b, o, ha, _⟩ := h 0 x rfl; cases ha
  | some ad => exact src_kids h c

set_option maxHeartbeats 4000000 in
set_option maxRecDepth 100000 in
theorem refCopy_any (pa sa ka : Option Addr) (pc sc kc : Nat) (n : Nd) (w : World) (h : NdAt w pa sa ka n) (ho : NdOk n) :
    Calls Try.prog 46 #[.agg #[.slice pa n.pairs.length pc, .slice sa n.seps.length sc, .slice ka n.kids.length kc]] w (CopyPost n w) := by
  have hnp := ho.np; have hns := ho.ns; have hnk := ho.nk
  clear ho
  obtain ⟨W0, hW0⟩ : ∃ W0, W0 = (w.alloc (.cells #[.slice pa n.pairs.length pc, .slice sa n.seps.length sc, .slice ka n.kids.length kc] 30)).alloc (.cells #[.slice none 0 0, .slice none 0 0, .slice none 0 0] 30) := ⟨_, rfl⟩
  have kw : Kp [] w W0 := by rw [hW0]; exact ((Kp.refl [] w).alloc _).alloc _
  have b0 : Blk W0 w.heap.size 30 #[.slice pa n.pairs.length pc, .slice sa n.seps.length sc, .slice ka n.kids.length kc] := by rw [hW0]; exact (Blk.new w _ _).alloc _
  have b1 : Blk W0 (w.heap.size + 1) 30 #[.slice none 0 0, .slice none 0 0, .slice none 0 0] := by
    rw [hW0]
    have h := Blk.new (w.alloc (.cells #[.slice pa n.pairs.length pc, .slice sa n.seps.length sc, .slice ka n.kids.length kc] 30)) 30 #[.slice none 0 0, .slice none 0 0, .slice none 0 0]
    simpa using h
  have KW := Lib.hid kw; have B1 := Lib.hid b1; have HP := Lib.hid (PsAt.kp h.ps kw (by simp)); have HS := Lib.hid (SsAt.kp h.ss kw (by simp)); have HK := Lib.hid (KsAt.kp h.ks kw (by simp))
  have SK : Hid (∀ W : World, Kp [w.heap.size + 1] W0 W → (W.cell? ⟨w.heap.size, 0, none⟩ = some (.slice pa n.pairs.length pc) ∧ W.cell? ⟨w.heap.size, 1, none⟩ = some (.slice sa n.seps.length sc) ∧ W.cell? ⟨w.heap.size, 2, none⟩ = some (.slice ka n.kids.length kc))) := Lib.hid (fun W k =>
    have c0 := b0.kp k (by simp)
    ⟨c0.cell 0, c0.cell 1, c0.cell 2⟩)
  have SB : Hid (∀ W : World, Kp [] W0 W → W.cell? ⟨w.heap.size + 1, 0, none⟩ = some (.slice none 0 0) ∧ W.cell? ⟨w.heap.size + 1, 1, none⟩ = some (.slice none 0 0) ∧ W.cell? ⟨w.heap.size + 1, 2, none⟩ = some (.slice none 0 0) ∧
      W.frozen? ⟨w.heap.size + 1, 0, none⟩ = false ∧ W.frozen? ⟨w.heap.size + 1, 1, none⟩ = false ∧ W.frozen? ⟨w.heap.size + 1, 2, none⟩ = false ∧ w.heap.size + 1 < W.heap.size) := Lib.hid (fun W k =>
    have c1 := b1.kp k (by simp)
    ⟨c1.cell 0, c1.cell 1, c1.cell 2, c1.frozen 0, c1.frozen 1, c1.frozen 2, c1.lt⟩)
  have HZ : Hid (w.heap.size + 1 < W0.heap.size) := Lib.hid b1.lt
  clear h kw b0 b1
  have HW0 := Lib.hid hW0
  clear hW0
  go_enter Try.func46, Try.ntmps46
  go_wp2_with fail
  rw [← HW0.out]
  go_region_held3 (fun W => (W.cell? ⟨w.heap.size, 0, none⟩ = some (.slice pa n.pairs.length pc) ∧ W.cell? ⟨w.heap.size, 1, none⟩ = some (.slice sa n.seps.length sc) ∧ W.cell? ⟨w.heap.size, 2, none⟩ = some (.slice ka n.kids.length kc)))
    (first | exact SK.out _ ((((KT.out.of_nil (T := [w.heap.size + 1])).setCell _ (.inr (by simp))).setCell _ (.inr (by simp))).setCell _ (.inr (by simp))) | exact SK.out _ KT.out.of_nil | exact SK.out _ ((Kp.refl _ _).drew))
    (first
      | (refine step_app_pair rfl rfl (by simp [Act.eval, Act.put]) (Own.nil _ _ _) n.pairs.length (n.pairs.flatMap csP) (by simp [Act.eval, Act.put]) (src_pairs' (PsAt.kp HP.out (by first | exact KT.out | exact (Kp.refl [] _).drew) (by simp)) pc) (by omega) ?_; intro pb pd wP op kp0 np; have kp : Kp [] _ wP := kp0; have OP : Hid (Own wP 48 2 pb n.pairs.length pd (n.pairs.flatMap csP)) := Lib.hid (by simpa using op); have KP := Lib.hid kp; have NP := Lib.hid (fun g hg => (np g hg).resolve_left (by simp [ab])); have KT : Hid (Kp [] W0 wP) := Lib.hid (by first | exact KT.out.trans kp | exact ((Kp.refl [] _).drew).trans kp); have zP := kp.size; clear op kp kp0 np; obtain ⟨y0, y1, y2, y3, y4, y5, y6⟩ := SB.out _ KT.out)
      | (refine step_app_str rfl rfl (by simp [Act.eval, Act.put]) (Own.nil _ _ _) n.seps.length (n.seps.flatMap csS) (by simp [Act.eval, Act.put]) (src_texts' (SsAt.kp HS.out (by first | exact KT.out | exact (Kp.refl [] _).drew) (by simp)) sc) (by omega) ?_; intro sb sd wS op kp0 np; have kp : Kp [] _ wS := kp0; have OS : Hid (Own wS 9 1 sb n.seps.length sd (n.seps.flatMap csS)) := Lib.hid (by simpa using op); have KS := Lib.hid kp; have NS := Lib.hid (fun g hg => (np g hg).resolve_left (by simp [ab])); have KT : Hid (Kp [] W0 wS) := Lib.hid (by first | exact KT.out.trans kp | exact ((Kp.refl [] _).drew).trans kp); have zS := kp.size; clear op kp kp0 np; obtain ⟨y0, y1, y2, y3, y4, y5, y6⟩ := SB.out _ KT.out)
      | (refine step_app_kid rfl rfl (by simp [Act.eval, Act.put]) (Own.nil _ _ _) n.kids.length (n.kids.flatMap csK) (by simp [Act.eval, Act.put]) (src_kids' (KsAt.kp HK.out (by first | exact KT.out | exact (Kp.refl [] _).drew) (by simp)) kc) (by omega) ?_; intro kb kd wK op kp0 np; have kp : Kp [] _ wK := kp0; have OK : Hid (Own wK 42 33 kb n.kids.length kd (n.kids.flatMap csK)) := Lib.hid (by simpa using op); have KK := Lib.hid kp; have NK := Lib.hid (fun g hg => (np g hg).resolve_left (by simp [ab])); have KT : Hid (Kp [] W0 wK) := Lib.hid (by first | exact KT.out.trans kp | exact ((Kp.refl [] _).drew).trans kp); have zK := kp.size; clear op kp kp0 np; obtain ⟨y0, y1, y2, y3, y4, y5, y6⟩ := SB.out _ KT.out))
  all_goals go_wp2_with fail
  all_goals
    have hd : W0.drew.heap.size = W0.heap.size := rfl
    have hf := copy_fin (w := w) (W := W0) (B := w.heap.size + 1) (n := n) (pa := pb) (sa := sb) (ka := kb) (pc := pd) (sc := sd) (kc := kd) KW.out (by omega) HZ.out (B1.out.kp KT.out (by simp)) KT.out
      (by first | exact OP.out | exact Own.kp OP.out KS.out (by simp) | exact Own.kp OP.out KK.out (by simp) | exact Own.kp OP.out (KS.out.trans KK.out) (by simp) | exact Own.kp OP.out (KK.out.trans KS.out) (by simp))
      (by first | exact OS.out | exact Own.kp OS.out KP.out (by simp) | exact Own.kp OS.out KK.out (by simp) | exact Own.kp OS.out (KP.out.trans KK.out) (by simp) | exact Own.kp OS.out (KK.out.trans KP.out) (by simp))
      (by first | exact OK.out | exact Own.kp OK.out KP.out (by simp) | exact Own.kp OK.out KS.out (by simp) | exact Own.kp OK.out (KP.out.trans KS.out) (by simp) | exact Own.kp OK.out (KS.out.trans KP.out) (by simp))
      (by
        intro g hg
        simp only [List.mem_append] at hg
        rcases hg with (h | h) | h
        · have := NP.out g h; omega
        · have := NS.out g h; omega
        · have := NK.out g h; omega)
      (by
        intro g h
        have h1 := NP.out g h; have h2 := OP.out.lt g h
        exact ⟨fun h' => by have h3 := NS.out g h'; have h4 := OS.out.lt g h'; omega, fun h' => by have h3 := NK.out g h'; have h4 := OK.out.lt g h'; omega⟩)
      (by
        intro g h h'
        have h1 := NS.out g h; have h2 := OS.out.lt g h; have h3 := NK.out g h'; have h4 := OK.out.lt g h'
        omega)
      (a := .slice pb n.pairs.length pd) (b := .slice sb n.seps.length sd) (c := .slice kb n.kids.length kd) rfl
    exact nd_ret1 (w.heap.size + 1) rfl rfl hf.1 rfl ⟨pb, sb, kb, pd, sd, kd, rfl, hf.2.1, hf.2.2⟩

end Go.Proofs.Ytemicgccgcmmbaa

/- append onto an owned slice, and what becomes of the old one: it reads as before. -/
namespace Go.Proofs.Ytemicgccgcmmbaa
set_option linter.unusedVariables false
set_option linter.unusedSimpArgs false
open Go Go.RowKit

section
variable {P : Program} (w : World)

theorem run_app2 (t tx ty e : TypeId) (i : TypeInfo) (z : Value) (size bytes : Nat) (ht : P.underlying t = some (.slice e)) (hi : P.info? e = some i) (hz : i.zero = some z)
    (hsize : i.size = size) (hby : i.bytes = bytes) (hzs : z.cells.size = size)
    (a : Option Addr) (n c : Nat) (xs : List Value) (hown : Own w e size a n c xs) (x : Value) (m : Nat) (news : List Value) (hs : Src P size tx x m news w)
    (hbytes : (n + m) * bytes ≤ 140737488355328) (h63 : n + m ≤ maxLen) :
    ∃ a' c' w', (Builtin.append_ #[t, tx] ty #[.slice a n c, x]).run P w = .ok (.slice a' (n + m) c') w' ∧ Own w' e size a' (n + m) c' (xs ++ news) ∧ Kp (ab a) w w' ∧ (∀ g ∈ ab a', g ∈ ab a ∨ w.heap.size ≤ g) ∧ Own w' e size a n c xs := by
  subst hsize
  subst hby
  have hlen : (xs ++ news).length = (n + m) * i.size := by rw [List.length_append, hown.1, hs.newsLen, Nat.add_mul]
  have grown : ∀ (old : Nat) (a0 : Option Addr), c = old → old < n + m → (Builtin.firstCells i.size n (.slice a0 n old)).run P w.drew = .ok xs.toArray w.drew →
      a0 = a → ∃ a' c' w', (Builtin.append_ #[t, tx] ty #[.slice a n c, x]).run P w = .ok (.slice a' (n + m) c') w' ∧ Own w' e i.size a' (n + m) c' (xs ++ news) ∧ Kp (ab a) w w' ∧ (∀ g ∈ ab a', g ∈ ab a ∨ w.heap.size ≤ g) ∧ Own w' e i.size a n c xs := by
    intro old a0 hc ho hf ha
    subst hc ha
    have hr := run_append_grow_src w t tx ty e i z ht hi hz a0 n c xs hf x m news hs ho (by simp only [maxLen] at h63; omega) (growslice_fits (by omega) hbytes)
    have hge := grownCap_ge w (n + m) c e
    have hcm : grownCap w (n + m) c e ≤ maxLen := grownCap_le_maxLen w (n + m) c e h63
    refine ⟨_, _, _, hr, ⟨hlen, .inr ⟨w.heap.size, _, _, rfl, Nat.zero_le _, heap_alloc_new w.drew _, hge, hcm, ?_, ?_⟩⟩, ((Kp.refl _ _).drew).alloc _, fun g hg => .inr (by simp [ab] at hg; omega), hown.kp (((Kp.refl [] _).drew).alloc _) (by simp)⟩
    · simp only [Array.size_append, List.size_toArray, size_zeroCells, hzs, hlen, ← Nat.add_mul]
      congr 1
      omega
    · simp only [Array.toList_append]
      rw [← hlen]
      exact List.take_left
  rcases hown.block.2 with ⟨rfl, rfl, rfl⟩ | ⟨g, cur, rfl, hb, hnc, hcm, hcs, htake⟩
  · have hx : xs = [] := List.eq_nil_of_length_eq_zero (by simpa using hown.1)
    subst hx
    by_cases hm : m = 0
    · subst hm
      have hn : news = [] := List.eq_nil_of_length_eq_zero (by simpa using hs.newsLen)
      subst hn
      refine ⟨none, 0, w, ?_, Own.nil w e i.size, Kp.refl _ _, by simp [ab], hown⟩
      rcases hs.kind with ⟨e', hk⟩ | hk <;> simp [Builtin.append_, run_underlying ht, run_underlying hk, sizeOf, typeInfo, hi, hs.len, hs.cells]
    · exact grown 0 none rfl (by omega) (by simp [Builtin.firstCells]) rfl
  · by_cases hroom : n + m ≤ c
    · have hfit : n * i.size + news.length ≤ cur.size := by rw [hs.newsLen, hcs, ← Nat.add_mul]; exact Nat.mul_le_mul_right _ hroom
      have hst := run_storeCells_at P g (n * i.size) e news 0 cur w hb (by simpa using hfit) hs.one
      simp only [Nat.add_zero] at hst
      refine ⟨some ⟨g, 0, none⟩, c, w.setRow g (cur.toList.take (n * i.size) ++ news ++ cur.toList.drop (n * i.size + news.length)).toArray, ?_, ⟨hlen, .inr ⟨g, c, (cur.toList.take (n * i.size) ++ news ++ cur.toList.drop (n * i.size + news.length)).toArray, rfl, Nat.zero_le _, setRow_heap w g cur _ e _ hb, hroom, hcm, ?_, ?_⟩⟩, (Kp.refl _ _).setRow _ _ (.inr (by simp [ab])), fun g' hg' => .inl hg', ?_⟩
      · rcases hs.kind with ⟨e', hk⟩ | hk <;> simp [Builtin.append_, run_underlying ht, run_underlying hk, sizeOf, typeInfo, hi, hs.len, hroom, hs.cells, Addr.add_lit, hst]
      · simp only [List.size_toArray, List.length_append, List.length_take, List.length_drop, Array.length_toList]
        omega
      · rw [htake, ← hlen]
        exact List.take_left
      · refine ⟨hown.1, .inr ⟨g, c, (cur.toList.take (n * i.size) ++ news ++ cur.toList.drop (n * i.size + news.length)).toArray, rfl, Nat.zero_le _, setRow_heap w g cur _ e _ hb, hnc, hcm, ?_, ?_⟩⟩
        · simp only [List.size_toArray, List.length_append, List.length_take, List.length_drop, Array.length_toList]
          omega
        · rw [htake, ← hown.1, List.append_assoc]
          exact List.take_left
    · have holds : ∀ j u, xs[j]? = some u → w.drew.cell? ((⟨g, 0, none⟩ : Addr).add j) = some u := hown.cells rfl
      exact grown c (some ⟨g, 0, none⟩) rfl (by omega) (run_firstCells_some w.drew i.size n ⟨g, 0, none⟩ n c xs hown.1 holds) rfl

theorem wp_app2 {o : Oper} {A : Act} {K : Act → World → Prop} {Q : Exit → Act → World → Prop} (s x : Operand) (t tx : TypeId)
    (ho : o.op = .call { callee := .builtin .append, args := #[s, x], argTypes := #[t, tx] })
    (e : TypeId) (i : TypeInfo) (z : Value) (size bytes : Nat) (ht : P.underlying t = some (.slice e)) (hi : P.info? e = some i) (hz : i.zero = some z)
    (hsize : i.size = size) (hby : i.bytes = bytes) (hzs : z.cells.size = size)
    (a : Option Addr) (n c : Nat) (xs : List Value) (hs : A.eval s = .slice a n c) (hown : Own w e size a n c xs) (m : Nat) (news : List Value) (hsrc : Src P size tx (A.eval x) m news w)
    (hbytes : (n + m) * bytes ≤ 140737488355328) (h63 : n + m ≤ maxLen)
    (h : ∀ a' c' w', Own w' e size a' (n + m) c' (xs ++ news) → Kp (ab a) w w' → (∀ g ∈ ab a', g ∈ ab a ∨ w.heap.size ≤ g) → Own w' e size a n c xs → K (A.put o.dst (.slice a' (n + m) c')) w') : o.wp P A w K Q := by
  obtain ⟨a', c', w', hr, h2, h3, h4, h5⟩ := run_app2 (P := P) w t tx o.type e i z size bytes ht hi hz hsize hby hzs a n c xs hown _ m news hsrc hbytes h63
  unfold Oper.wp execOp
  simp only [ho, resolve, invoke, builtin, Sem.run_bind, Sem.run_pure, Result.andThen_ok, List.map_toArray, List.map_cons, List.map_nil, hs, hr]
  exact h a' c' w' h2 h3 h4 h5

theorem wpList_app2 {ops : Array Oper} {rest : List Oper} {o : Oper} {A : Act} {Q : Exit → Act → World → Prop} (hgd : o.guard = none) (s x : Operand) (t tx : TypeId)
    (ho : o.op = .call { callee := .builtin .append, args := #[s, x], argTypes := #[t, tx] })
    (e : TypeId) (i : TypeInfo) (z : Value) (size bytes : Nat) (ht : P.underlying t = some (.slice e)) (hi : P.info? e = some i) (hz : i.zero = some z)
    (hsize : i.size = size) (hby : i.bytes = bytes) (hzs : z.cells.size = size)
    (a : Option Addr) (n c : Nat) (xs : List Value) (hs : A.eval s = .slice a n c) (hown : Own w e size a n c xs) (m : Nat) (news : List Value) (hsrc : Src P size tx (A.eval x) m news w)
    (hbytes : (n + m) * bytes ≤ 140737488355328) (h63 : n + m ≤ maxLen)
    (h : ∀ a' c' w', Own w' e size a' (n + m) c' (xs ++ news) → Kp (ab a) w w' → (∀ g ∈ ab a', g ∈ ab a ∨ w.heap.size ≤ g) → Own w' e size a n c xs → wpList P ops Q rest (A.put o.dst (.slice a' (n + m) c')) w') : wpList P ops Q (o :: rest) A w :=
  wpList_plain hgd fun _ hK => wp_app2 w s x t tx ho e i z size bytes ht hi hz hsize hby hzs a n c xs hs hown m news hsrc hbytes h63 fun a' c' w' h2 h3 h4 h5 => hK _ _ (h a' c' w' h2 h3 h4 h5)
end

theorem wpList_app2_pair {w : World} {ops : Array Oper} {rest : List Oper} {o : Oper} {A : Act} {Q : Exit → Act → World → Prop} (hgd : o.guard = none) {s x : Operand} {tx : TypeId}
    (ho : o.op = .call { callee := .builtin .append, args := #[s, x], argTypes := #[26, tx] })
    {a : Option Addr} {n c : Nat} {xs : List Value} (hs : A.eval s = .slice a n c) (hown : Own w 48 2 a n c xs) (m : Nat) (news : List Value) (hsrc : Src Try.prog 2 tx (A.eval x) m news w)
    (h63 : n + m ≤ 4398046511104)
    (h : ∀ a' c' w', Own w' 48 2 a' (n + m) c' (xs ++ news) → Kp (ab a) w w' → (∀ g ∈ ab a', g ∈ ab a ∨ w.heap.size ≤ g) → Own w' 48 2 a n c xs → wpList Try.prog ops Q rest (A.put o.dst (.slice a' (n + m) c')) w') : wpList Try.prog ops Q (o :: rest) A w := by
  obtain ⟨i0, hi, hz0, hz1, hz2⟩ := info_parts Try.infoPair
  exact wpList_app2 w hgd s x 26 tx ho 48 i0 (.agg #[.string ⟨#[]⟩, .string ⟨#[]⟩]) 2 32 Try.underlying26 hi hz0 hz1 hz2 rfl a n c xs hs hown m news hsrc (by omega) (by unfold maxLen; omega) h

theorem wpList_app2_kid {w : World} {ops : Array Oper} {rest : List Oper} {o : Oper} {A : Act} {Q : Exit → Act → World → Prop} (hgd : o.guard = none) {s x : Operand} {tx : TypeId}
    (ho : o.op = .call { callee := .builtin .append, args := #[s, x], argTypes := #[28, tx] })
    {a : Option Addr} {n c : Nat} {xs : List Value} (hs : A.eval s = .slice a n c) (hown : Own w 42 33 a n c xs) (m : Nat) (news : List Value) (hsrc : Src Try.prog 33 tx (A.eval x) m news w)
    (h63 : n + m ≤ 3909374676453)
    (h : ∀ a' c' w', Own w' 42 33 a' (n + m) c' (xs ++ news) → Kp (ab a) w w' → (∀ g ∈ ab a', g ∈ ab a ∨ w.heap.size ≤ g) → Own w' 42 33 a n c xs → wpList Try.prog ops Q rest (A.put o.dst (.slice a' (n + m) c')) w') : wpList Try.prog ops Q (o :: rest) A w := by
  obtain ⟨i0, hi, hz0, hz1, hz2⟩ := info_parts Try.infoKid
  exact wpList_app2 w hgd s x 28 tx ho 42 i0 (.agg Kd.zero.c) 33 36 Try.underlying28 hi hz0 hz1 hz2 (Kd.c_size Kd.zero) a n c xs hs hown m news hsrc (by omega) (by unfold maxLen; omega) h

theorem wpList_app2_str {w : World} {ops : Array Oper} {rest : List Oper} {o : Oper} {A : Act} {Q : Exit → Act → World → Prop} (hgd : o.guard = none) {s x : Operand} {tx : TypeId}
    (ho : o.op = .call { callee := .builtin .append, args := #[s, x], argTypes := #[27, tx] })
    {a : Option Addr} {n c : Nat} {xs : List Value} (hs : A.eval s = .slice a n c) (hown : Own w 9 1 a n c xs) (m : Nat) (news : List Value) (hsrc : Src Try.prog 1 tx (A.eval x) m news w)
    (h63 : n + m ≤ 8796093022208)
    (h : ∀ a' c' w', Own w' 9 1 a' (n + m) c' (xs ++ news) → Kp (ab a) w w' → (∀ g ∈ ab a', g ∈ ab a ∨ w.heap.size ≤ g) → Own w' 9 1 a n c xs → wpList Try.prog ops Q rest (A.put o.dst (.slice a' (n + m) c')) w') : wpList Try.prog ops Q (o :: rest) A w := by
  obtain ⟨i0, hi, hz0, hz1, hz2⟩ := info_parts Try.infoStr
  exact wpList_app2 w hgd s x 27 tx ho 9 i0 (.string ⟨#[]⟩) 1 16 Try.underlying27 hi hz0 hz1 hz2 rfl a n c xs hs hown m news hsrc (by omega) (by unfold maxLen; omega) h

end Go.Proofs.Ytemicgccgcmmbaa

/- lent: a node in lists of its own, with marks behind them. -/
namespace Go.Proofs.Ytemicgccgcmmbaa
set_option linter.unusedVariables false
set_option linter.unusedSimpArgs false
open Go Go.RowKit

def mkB : Bs := [109, 97, 114, 107]
def kMark : Kd := ⟨77, Dg.zero⟩
def Nd.mk1 (n : Nd) : Nd := ⟨n.pairs ++ [(mkB, [])], n.seps ++ [mkB], n.kids ++ [kMark]⟩

/-- What a law that holds up to a bulk asks of a node. -/
structure NdFew (n : Nd) : Prop where
  np : n.pairs.length ≤ 1048576
  ns : n.seps.length ≤ 1048576
  nk : n.kids.length ≤ 1048576

/-- A node in lists of its own, its three slices in a block. -/
structure LtI (w wr : World) (lo B3 : Nat) (nd : Array Value) (pb sb kb : Option Addr) (pd sd kd : Nat) (m : Nd) : Prop where
  kp : Kp [] w wr
  b0 : Blk wr w.heap.size 30 nd
  b1 : Blk wr (w.heap.size + 1) 30 #[.slice none 0 0, .slice none 0 0, .slice none 0 0]
  b3 : Blk wr B3 30 #[.slice pb m.pairs.length pd, .slice sb m.seps.length sd, .slice kb m.kids.length kd]
  own : Own3 wr lo pb sb kb pd sd kd m
  lw : w.heap.size + 1 < lo
  b3l : lo ≤ B3
  hi : ∀ g ∈ ab pb ++ ab sb ++ ab kb, g ≠ B3

theorem LtI.mid {w wr : World} {lo B3 : Nat} {nd : Array Value} {pb sb kb : Option Addr} {pd sd kd : Nat} {m : Nd} (h : LtI w wr lo B3 nd pb sb kb pd sd kd m) {S : List Nat} {o : Obj} {w2 : World} (k : Kp S (wr.alloc o) w2) (hs : ∀ g ∈ S, g ∈ ab pb ++ ab sb ++ ab kb) :
    Blk w2 B3 30 #[.slice pb m.pairs.length pd, .slice sb m.seps.length sd, .slice kb m.kids.length kd] :=
  (h.b3.alloc o).kp k (fun e => h.hi B3 (hs _ e) rfl)
theorem LtI.facts {w2 : World} {B3 : Nat} {x y z : Value} (h : Blk w2 B3 30 #[x, y, z]) :
    w2.cell? ⟨B3, 0, none⟩ = some x ∧ w2.cell? ⟨B3, 1, none⟩ = some y ∧ w2.cell? ⟨B3, 2, none⟩ = some z ∧ w2.frozen? ⟨B3, 0, none⟩ = false ∧ w2.frozen? ⟨B3, 1, none⟩ = false ∧ w2.frozen? ⟨B3, 2, none⟩ = false ∧ B3 < w2.heap.size :=
  ⟨h.cell 0, h.cell 1, h.cell 2, h.frozen 0, h.frozen 1, h.frozen 2, h.lt⟩

/-- A list has grown (or lies elsewhere now), and is written into the node. -/
theorem LtI.step {w wr : World} {lo B3 : Nat} {nd : Array Value} {pb sb kb : Option Addr} {pd sd kd : Nat} {m : Nd} (h : LtI w wr lo B3 nd pb sb kb pd sd kd m) {S : List Nat} {o : Obj} {w2 : World} (k : Kp S (wr.alloc o) w2) (hs : ∀ g ∈ S, g ∈ ab pb ++ ab sb ++ ab kb)
    {pb' sb' kb' : Option Addr} {pd' sd' kd' : Nat} {m' : Nd} {f : Nat} {v : Value}
    (hb : Blk (w2.setCell ⟨B3, f, none⟩ v) B3 30 #[.slice pb' m'.pairs.length pd', .slice sb' m'.seps.length sd', .slice kb' m'.kids.length kd'])
    (o1 : Own w2 48 2 pb' m'.pairs.length pd' (m'.pairs.flatMap csP)) (o2 : Own w2 9 1 sb' m'.seps.length sd' (m'.seps.flatMap csS)) (o3 : Own w2 42 33 kb' m'.kids.length kd' (m'.kids.flatMap csK))
    (hn : ∀ g ∈ ab pb' ++ ab sb' ++ ab kb', g ∈ ab pb ++ ab sb ++ ab kb ∨ (wr.alloc o).heap.size ≤ g) (d1 : ∀ g ∈ ab pb', g ∉ ab sb' ∧ g ∉ ab kb') (d2 : ∀ g ∈ ab sb', g ∉ ab kb') :
    LtI w (w2.setCell ⟨B3, f, none⟩ v) lo B3 nd pb' sb' kb' pd' sd' kd' m' := by
  have hlo : ∀ g ∈ ab pb' ++ ab sb' ++ ab kb', lo ≤ g ∧ g ≠ B3 := by
    intro g hg
    have hz := h.b3.lt
    have hb3 := h.b3l
    have hsz : (wr.alloc o).heap.size = wr.heap.size + 1 := by simp
    rcases hn g hg with h1 | h1
    · exact ⟨h.own.lo g h1, h.hi g h1⟩
    · exact ⟨by omega, by omega⟩
  have kv : Kp [B3] w2 (w2.setCell ⟨B3, f, none⟩ v) := (Kp.refl [B3] w2).setCell _ (.inr (by simp))
  have hlw := h.lw
  have hb3 := h.b3l
  have hS : ∀ x, x < lo → x ∉ S := fun x hx e => by have := h.own.lo x (hs x e); omega
  refine ⟨?_, ((h.b0.alloc o).kp k (hS _ (by omega))).kp kv (by simp; omega), ((h.b1.alloc o).kp k (hS _ (by omega))).kp kv (by simp; omega), hb, ?_, h.lw, h.b3l, fun g hg => (hlo g hg).2⟩
  · refine ((h.kp.alloc o).from k (fun g hg => .inl ?_)).from kv (fun g hg => .inl ?_)
    · have := h.own.lo g (hs g hg); omega
    · simp at hg; omega
  · exact Own3.kp ⟨o1, o2, o3, fun g hg => (hlo g hg).1, d1, d2⟩ kv (fun g hg => by have := (hlo g hg).2; simpa using this)

theorem LtI.start {w W w1 : World} {nd : Array Value} {pb sb kb : Option Addr} {pd sd kd : Nat} {n : Nd} (h0 : Blk W w.heap.size 30 nd) (h1 : Blk W (w.heap.size + 1) 30 #[.slice none 0 0, .slice none 0 0, .slice none 0 0]) (k0 : Kp [] w W) (k : Kp [] W w1) (ow : Own3 w1 W.heap.size pb sb kb pd sd kd n) :
    LtI w (w1.alloc (.cells #[.slice pb n.pairs.length pd, .slice sb n.seps.length sd, .slice kb n.kids.length kd] 30)) W.heap.size w1.heap.size nd pb sb kb pd sd kd n := by
  have ka : Kp [] w1 (w1.alloc (.cells #[.slice pb n.pairs.length pd, .slice sb n.seps.length sd, .slice kb n.kids.length kd] 30)) := (Kp.refl [] w1).alloc _
  refine ⟨(k0.trans k).trans ka, (h0.kp k (by simp)).kp ka (by simp), (h1.kp k (by simp)).kp ka (by simp), Blk.new w1 _ _, Own3.kp ow ka (by simp), h1.lt, k.size, ?_⟩
  intro g hg
  simp only [List.mem_append] at hg
  rcases hg with (hg | hg) | hg
  · have := ow.ps.lt g hg; omega
  · have := ow.ss.lt g hg; omega
  · have := ow.ks.lt g hg; omega

def LentPost (n : Nd) (w : World) (e : Ending) (w' : World) : Prop :=
  ∃ gp gs gk pc sc kc, e = .returned (.agg #[.slice (some ⟨gp, 0, none⟩) n.pairs.length pc, .slice (some ⟨gs, 0, none⟩) n.seps.length sc, .slice (some ⟨gk, 0, none⟩) n.kids.length kc]) ∧ Own3 w' w.heap.size (some ⟨gp, 0, none⟩) (some ⟨gs, 0, none⟩) (some ⟨gk, 0, none⟩) pc sc kc n.mk1 ∧ Kp [] w w'

theorem LtI.pairs {w wr : World} {lo B3 : Nat} {nd : Array Value} {pb sb kb : Option Addr} {pd sd kd : Nat} {m : Nd} (h : LtI w wr lo B3 nd pb sb kb pd sd kd m) {o : Obj} {w2 : World} (k : Kp (ab pb) (wr.alloc o) w2) {pb' : Option Addr} {pd' : Nat} {x : Pr}
    (ow : Own w2 48 2 pb' (m.pairs.length + 1) pd' (m.pairs.flatMap csP ++ csP x)) (hn : ∀ g ∈ ab pb', g ∈ ab pb ∨ (wr.alloc o).heap.size ≤ g) :
    LtI w (w2.setCell ⟨B3, 0, none⟩ (.slice pb' (m.pairs.length + 1) pd')) lo B3 nd pb' sb kb pd' sd kd ⟨m.pairs ++ [x], m.seps, m.kids⟩ := by
  have hm := h.mid k (fun g hg => by simp [hg])
  have hz : (wr.alloc o).heap.size = wr.heap.size + 1 := by simp
  have k0 : Kp [] wr (wr.alloc o) := (Kp.refl [] wr).alloc o
  refine h.step k (fun g hg => by simp [hg]) ?_ ?_ ((h.own.ss.kp k0 (by simp)).kp k (fun g hg h' => (h.own.d1 g h').1 hg)) ((h.own.ks.kp k0 (by simp)).kp k (fun g hg h' => (h.own.d1 g h').2 hg)) ?_ ?_ h.own.d2
  · have := hm.set 0 (.slice pb' (m.pairs.length + 1) pd'); simpa using this
  · simpa [List.flatMap_append] using ow
  · intro g hg
    simp only [List.mem_append] at hg ⊢
    rcases hg with (hg | hg) | hg
    · rcases hn g hg with h1 | h1
      · exact .inl (.inl (.inl h1))
      · exact .inr h1
    · exact .inl (.inl (.inr hg))
    · exact .inl (.inr hg)
  · intro g hg
    rcases hn g hg with h1 | h1
    · exact h.own.d1 g h1
    · exact ⟨fun e => by have := h.own.ss.lt g e; omega, fun e => by have := h.own.ks.lt g e; omega⟩
theorem LtI.texts {w wr : World} {lo B3 : Nat} {nd : Array Value} {pb sb kb : Option Addr} {pd sd kd : Nat} {m : Nd} (h : LtI w wr lo B3 nd pb sb kb pd sd kd m) {o : Obj} {w2 : World} (k : Kp (ab sb) (wr.alloc o) w2) {sb' : Option Addr} {sd' : Nat} {x : Bs}
    (ow : Own w2 9 1 sb' (m.seps.length + 1) sd' (m.seps.flatMap csS ++ csS x)) (hn : ∀ g ∈ ab sb', g ∈ ab sb ∨ (wr.alloc o).heap.size ≤ g) :
    LtI w (w2.setCell ⟨B3, 1, none⟩ (.slice sb' (m.seps.length + 1) sd')) lo B3 nd pb sb' kb pd sd' kd ⟨m.pairs, m.seps ++ [x], m.kids⟩ := by
  have hm := h.mid k (fun g hg => by simp [hg])
  have hz : (wr.alloc o).heap.size = wr.heap.size + 1 := by simp
  have k0 : Kp [] wr (wr.alloc o) := (Kp.refl [] wr).alloc o
  refine h.step k (fun g hg => by simp [hg]) ?_ ((h.own.ps.kp k0 (by simp)).kp k (fun g hg h' => (h.own.d1 g hg).1 h')) ?_ ((h.own.ks.kp k0 (by simp)).kp k (fun g hg h' => h.own.d2 g h' hg)) ?_ ?_ ?_
  · have := hm.set 1 (.slice sb' (m.seps.length + 1) sd'); simpa using this
  · simpa [List.flatMap_append] using ow
  · intro g hg
    simp only [List.mem_append] at hg ⊢
    rcases hg with (hg | hg) | hg
    · exact .inl (.inl (.inl hg))
    · rcases hn g hg with h1 | h1
      · exact .inl (.inl (.inr h1))
      · exact .inr h1
    · exact .inl (.inr hg)
  · intro g hg
    refine ⟨fun e => ?_, (h.own.d1 g hg).2⟩
    rcases hn g e with h1 | h1
    · exact (h.own.d1 g hg).1 h1
    · have := h.own.ps.lt g hg; omega
  · intro g hg
    rcases hn g hg with h1 | h1
    · exact h.own.d2 g h1
    · exact fun e => by have := h.own.ks.lt g e; omega
theorem LtI.kids {w wr : World} {lo B3 : Nat} {nd : Array Value} {pb sb kb : Option Addr} {pd sd kd : Nat} {m : Nd} (h : LtI w wr lo B3 nd pb sb kb pd sd kd m) {o : Obj} {w2 : World} (k : Kp (ab kb) (wr.alloc o) w2) {kb' : Option Addr} {kd' : Nat} {x : Kd}
    (ow : Own w2 42 33 kb' (m.kids.length + 1) kd' (m.kids.flatMap csK ++ csK x)) (hn : ∀ g ∈ ab kb', g ∈ ab kb ∨ (wr.alloc o).heap.size ≤ g) :
    LtI w (w2.setCell ⟨B3, 2, none⟩ (.slice kb' (m.kids.length + 1) kd')) lo B3 nd pb sb kb' pd sd kd' ⟨m.pairs, m.seps, m.kids ++ [x]⟩ := by
  have hm := h.mid k (fun g hg => by simp [hg])
  have hz : (wr.alloc o).heap.size = wr.heap.size + 1 := by simp
  have k0 : Kp [] wr (wr.alloc o) := (Kp.refl [] wr).alloc o
  refine h.step k (fun g hg => by simp [hg]) ?_ ((h.own.ps.kp k0 (by simp)).kp k (fun g hg h' => (h.own.d1 g hg).2 h')) ((h.own.ss.kp k0 (by simp)).kp k (fun g hg h' => h.own.d2 g hg h')) ?_ ?_ ?_ ?_
  · have := hm.set 2 (.slice kb' (m.kids.length + 1) kd'); simpa using this
  · simpa [List.flatMap_append] using ow
  · intro g hg
    simp only [List.mem_append] at hg ⊢
    rcases hg with (hg | hg) | hg
    · exact .inl (.inl (.inl hg))
    · exact .inl (.inl (.inr hg))
    · rcases hn g hg with h1 | h1
      · exact .inl (.inr h1)
      · exact .inr h1
  · intro g hg
    refine ⟨(h.own.d1 g hg).1, fun e => ?_⟩
    rcases hn g e with h1 | h1
    · exact (h.own.d1 g hg).2 h1
    · have := h.own.ps.lt g hg; omega
  · intro g hg e
    rcases hn g e with h1 | h1
    · exact h.own.d2 g hg h1
    · have := h.own.ss.lt g hg; omega

end Go.Proofs.Ytemicgccgcmmbaa
