/- A form is read: the walks of parse. -/
import Derived.Test.YtemicgccgcmmbaaParse3
namespace Go.Proofs.Ytemicgccgcmmbaa
set_option linter.unusedVariables false
set_option linter.unusedSimpArgs false
open Go Go.RowKit

theorem blk_next {w : World} {o : Obj} {t : TypeId} {c : Array Value} {k : Nat} (h : Blk w k t c) : Blk (w.alloc o) k t c := h.alloc o

/-- The five blocks with which parse begins. -/
theorem five {w w1 : World} {t1 t2 t3 t4 t5 : TypeId} {c1 c2 c3 c4 c5 : Array Value} (k : Kp [w.heap.size + 1 + 1 + 1 + 1] (((((w.alloc (.cells c1 t1)).alloc (.cells c2 t2)).alloc (.cells c3 t3)).alloc (.cells c4 t4)).alloc (.cells c5 t5)) w1) :
    Blk w1 w.heap.size t1 c1 ∧ Blk w1 (w.heap.size + 1) t2 c2 ∧ Blk w1 (w.heap.size + 1 + 1) t3 c3 ∧ Blk w1 (w.heap.size + 1 + 1 + 1) t4 c4 ∧ Kp [] w w1 ∧ w.heap.size + 1 + 1 + 1 + 1 < w1.heap.size := by
  have b1 := ((((Blk.new w t1 c1).alloc (.cells c2 t2)).alloc (.cells c3 t3)).alloc (.cells c4 t4)).alloc (.cells c5 t5)
  have b2 := (((Blk.new (w.alloc (.cells c1 t1)) t2 c2).alloc (.cells c3 t3)).alloc (.cells c4 t4)).alloc (.cells c5 t5)
  have b3 := ((Blk.new ((w.alloc (.cells c1 t1)).alloc (.cells c2 t2)) t3 c3).alloc (.cells c4 t4)).alloc (.cells c5 t5)
  have b4 := (Blk.new (((w.alloc (.cells c1 t1)).alloc (.cells c2 t2)).alloc (.cells c3 t3)) t4 c4).alloc (.cells c5 t5)
  simp only [World.size_alloc] at b2 b3 b4
  have hz := k.size
  simp only [World.size_alloc] at hz
  refine ⟨b1.kp k (by simp; omega), b2.kp k (by simp), b3.kp k (by simp), b4.kp k (by simp), ?_, by omega⟩
  exact ((((((Kp.refl [] w).alloc _).alloc _).alloc _).alloc _).alloc _).from k (by simp; omega)

theorem take1_len {s : Bs} {v : Nat} {l : Bs} (ht : takeP 1 s = some (v, l)) : 1 ≤ s.length := by have := takeP_len ht; omega

/-- A node and a word are handed back. -/
theorem nd_ret2 {fn : Func} {R : Ending → World → Prop} {a : Act} {w : World} {p u : Tmp} (g : Nat) {t : TypeId} {x y z v : Value} (hr : fn.results = #[.cell p 30, .tmp u]) (hp : a.tmps.getD p undef = .pointer (some ⟨g, 0, none⟩)) (hv : a.tmps.getD u undef = v) (hg : Blk w g t #[x, y, z]) (hd : a.defers = []) (hR : R (.returned (.tuple #[.agg #[x, y, z], v])) w) :
    bodyPost Try.prog fn R .ret a w := by
  refine bodyPost_ret (v := .tuple #[.agg #[x, y, z], v]) ?_ hd hR
  rw [results_cell_tmp hr, hp, hv]
  have h1 := run_loadVar_big Try.prog 30 3 _ Try.underlying30 rfl (by kernel_rfl) ⟨g, 0, none⟩ w
  have h2 : rowAt? w ⟨g, 0, none⟩ 3 = some #[x, y, z] := rowAt?_blk hg
  rw [h2] at h1
  simp [asAddr, h1]

set_option maxHeartbeats 1000000 in set_option maxRecDepth 100000 in
theorem parse_leaf_ok (P wd : Nat) (pages : Bool) (s l : Bs) (w : World) (hs : s.length ≤ 3909374676453) (hP0 : 1024 ≤ P) (hP : P ≤ 8192) (ht : takeP 1 s = some (1, l)) (ho : restO (listP s.length (pairP P) () l) = some []) :
    Calls Try.prog 32 #[.agg #[.int .i64 P, .int .i64 wd], .string ⟨s.toArray⟩, .bool pages] w (ParsePost w (parseP P wd pages s)) := by
  have hs' : s.length ≤ 140737488351232 := by omega
  have hlen := take1_len ht
  have hv : gotV (takeP 1) 0 (some s) = 1 := by simp [gotV, ht]
  have hr : gotR (takeP 1) (some s) = some l := by simp [gotR, ht]
  have hp : parseP P wd pages s = match listP s.length (pairP P) () l with | some (_, ps, l') => if l' = [] then some ⟨ps, [], []⟩ else none | none => none := by simp only [parseP, ht, if_true]; rfl
  have HV := Lib.hid hv; have HR := Lib.hid hr; have HPP := Lib.hid hp; have HO := Lib.hid ho
  clear hv hr hp ht ho
  go_enter Try.func32, Try.ntmps32
  go_wp2_with fail
  refine (open_any s _).mono ?_
  rintro e w' ⟨rfl, rfl⟩
  go_wp2_with fail
  refine (u8_all (w.heap.size + 1 + 1 + 1 + 1) s (some s) _ (by have := open_st s ((((w.alloc (.cells #[.int .i64 P, .int .i64 wd] 23)).alloc (.cells #[.bool pages] 4)).alloc (.cells #[.slice none 0 0, .slice none 0 0, .slice none 0 0] 30)).alloc (.cells #[.slice none 0 0, .slice none 0 0, .slice none 0 0] 30)); simp only [World.size_alloc] at this; exact this) hs').mono ?_
  rintro e w1 ⟨rfl, k1, r1⟩
  rw [HV.out]
  rw [HR.out] at r1
  obtain ⟨f1, f2, f3, f4, k0, z1⟩ := five k1
  have F1 := Lib.hid f1; have F2 := Lib.hid f2; have F3 := Lib.hid f3; have F4 := Lib.hid f4; have K0 := Lib.hid k0; have R1 := Lib.hid r1
  clear f1 f2 f3 f4 k0 k1 r1
  have f4c0 := F4.out.cell 0; have f4f0 := F4.out.frozen 0
  simp only [List.getElem?_toArray, List.getElem?_cons_zero, List.getElem?_cons_succ] at f4c0
  go_wp2_with fail
  refine (list_pairs (w.heap.size + 1 + 1 + 1 + 1) (w.heap.size) s.length P wd s l w1 hs hP0 hP (by omega) (by omega) (by omega) R1.out F1.out).mono ?_
  rintro e w2 ⟨a, c, ts, rfl, how, k2, hnew, r2, hsome, hnone⟩
  have G4 := Lib.hid (F4.out.kp k2 (by simp only [List.mem_cons, List.not_mem_nil, or_false]; omega)); have G3 := Lib.hid (F3.out.kp k2 (by simp only [List.mem_cons, List.not_mem_nil, or_false]; omega))
  have g0 := G4.out.cell 0; have g1 := G4.out.cell 1; have g2 := G4.out.cell 2; have g3 := G4.out.frozen 0
  have j0 := G3.out.cell 0; have j1 := G3.out.cell 1; have j2 := G3.out.cell 2; have j3 := G3.out.frozen 0; have j4 := G3.out.frozen 1; have j5 := G3.out.frozen 2
  simp only [List.getElem?_toArray, List.getElem?_cons_zero, List.getElem?_cons_succ] at g0 g1 g2 j0 j1 j2
  have HOW := Lib.hid how; have K2 := Lib.hid k2; have HN := Lib.hid hnew; have R2 := Lib.hid r2; have HSO := Lib.hid hsome; have HNO := Lib.hid hnone
  have zz2 := k2.size
  clear how k2 hnew r2 hsome hnone
  go_wp2_with fail
  have HPS : Hid (parseP P wd pages s = some ⟨ts, [], []⟩) := Lib.hid (by
    rw [HPP.out]
    have h0 := HO.out
    cases hr : listP s.length (pairP P) () l with
    | none => rw [hr] at h0; simp [restO] at h0
    | some r =>
      obtain ⟨u, ps, l'⟩ := r
      rw [hr] at h0
      simp only [restO, Option.map_some, Option.some.injEq] at h0
      have := HSO.out _ hr
      simp [h0, this])
  have RO := Lib.hid (HO.out ▸ R2.out : RdSt w2 (w.heap.size + 1 + 1 + 1 + 1) s (some []))
  have KW : Hid (Kp [] w (w2.setCell ⟨w.heap.size + 1 + 1 + 1, 0, none⟩ (.slice a ts.length c))) := Lib.hid ((K0.out.from K2.out (by simp only [List.mem_cons, List.not_mem_nil, or_false]; omega)).setCell _ (.inl (by show _ ≤ w.heap.size + 1 + 1 + 1; omega)))
  have Q4 := Lib.hid (G4.out.set 0 (.slice a ts.length c))
  have Q3 := Lib.hid (G3.out.set_other (a := ⟨w.heap.size + 1 + 1 + 1, 0, none⟩) (.slice a ts.length c) (by show (w.heap.size + 1 + 1 + 1) ≠ _; omega))
  have q0 : (w2.setCell ⟨w.heap.size + 1 + 1 + 1, 0, none⟩ (.slice a ts.length c)).cell? ⟨w.heap.size + 1 + 1 + 1, 0, none⟩ = some (.slice a ts.length c) := by have := Q4.out.cell 0; simpa using this
  have q1 : (w2.setCell ⟨w.heap.size + 1 + 1 + 1, 0, none⟩ (.slice a ts.length c)).cell? ⟨w.heap.size + 1 + 1 + 1, 1, none⟩ = some (.slice none 0 0) := by have := Q4.out.cell 1; simpa using this
  have q2 : (w2.setCell ⟨w.heap.size + 1 + 1 + 1, 0, none⟩ (.slice a ts.length c)).cell? ⟨w.heap.size + 1 + 1 + 1, 2, none⟩ = some (.slice none 0 0) := by have := Q4.out.cell 2; simpa using this
  have i0 : (w2.setCell ⟨w.heap.size + 1 + 1 + 1, 0, none⟩ (.slice a ts.length c)).cell? ⟨w.heap.size + 1 + 1, 0, none⟩ = some (.slice none 0 0) := by have := Q3.out.cell 0; simpa using this
  have i1 : (w2.setCell ⟨w.heap.size + 1 + 1 + 1, 0, none⟩ (.slice a ts.length c)).cell? ⟨w.heap.size + 1 + 1, 1, none⟩ = some (.slice none 0 0) := by have := Q3.out.cell 1; simpa using this
  have i2 : (w2.setCell ⟨w.heap.size + 1 + 1 + 1, 0, none⟩ (.slice a ts.length c)).cell? ⟨w.heap.size + 1 + 1, 2, none⟩ = some (.slice none 0 0) := by have := Q3.out.cell 2; simpa using this
  have i3 : (w2.setCell ⟨w.heap.size + 1 + 1 + 1, 0, none⟩ (.slice a ts.length c)).frozen? ⟨w.heap.size + 1 + 1, 0, none⟩ = false := Q3.out.frozen 0
  have i4 : (w2.setCell ⟨w.heap.size + 1 + 1 + 1, 0, none⟩ (.slice a ts.length c)).frozen? ⟨w.heap.size + 1 + 1, 1, none⟩ = false := Q3.out.frozen 1
  have i5 : (w2.setCell ⟨w.heap.size + 1 + 1 + 1, 0, none⟩ (.slice a ts.length c)).frozen? ⟨w.heap.size + 1 + 1, 2, none⟩ = false := Q3.out.frozen 2
  have iz := Q3.out.lt
  clear g0 g1 g2 g3 j0 j1 j2 j3 j4 j5
  have SK := Lib.hid (show ∀ (W : World) (T : List Nat), Kp T (w2.setCell ⟨w.heap.size + 1 + 1 + 1, 0, none⟩ (.slice a ts.length c)) W → (w.heap.size + 1 + 1 + 1) ∉ T → (W.cell? ⟨w.heap.size + 1 + 1 + 1, 0, none⟩ = some (.slice a ts.length c) ∧ W.cell? ⟨w.heap.size + 1 + 1 + 1, 1, none⟩ = some (.slice none 0 0) ∧ W.cell? ⟨w.heap.size + 1 + 1 + 1, 2, none⟩ = some (.slice none 0 0)) from fun W T k h => ⟨k.cell q0 h, k.cell q1 h, k.cell q2 h⟩)
  go_region_held3 (fun W => W.cell? ⟨w.heap.size + 1 + 1 + 1, 0, none⟩ = some (.slice a ts.length c) ∧ W.cell? ⟨w.heap.size + 1 + 1 + 1, 1, none⟩ = some (.slice none 0 0) ∧ W.cell? ⟨w.heap.size + 1 + 1 + 1, 2, none⟩ = some (.slice none 0 0)) (first | exact SK.out _ [] ((Kp.refl [] _).drew) (by simp) | exact SK.out _ [] KE.out (by simp) | exact SK.out _ [w.heap.size + 1 + 1] ((((KE.out.of_nil (T := [w.heap.size + 1 + 1])).setCell _ (.inr (by simp))).setCell _ (.inr (by simp))).setCell _ (.inr (by simp))) (by simp))
    (first | (go_at_call 72; refine (end_ok (w.heap.size + 1 + 1 + 1 + 1) s _ hs' (RdSt.kp (o := some []) (RO.out.kp ((Kp.refl [w.heap.size + 1 + 1 + 1] _).setCell _ (.inr (by simp))) (by simp)) ((Kp.refl [] _).drew) (by simp))).mono ?_; rintro e w3 ⟨rfl, k3⟩; have KE : Hid (Kp [] (w2.setCell ⟨w.heap.size + 1 + 1 + 1, 0, none⟩ (.slice a ts.length c)) w3) := ((Kp.refl [] _).drew).trans k3; clear k3; have y0 := KE.out.cell i0 (by simp); have y1 := KE.out.cell i1 (by simp); have y2 := KE.out.cell i2 (by simp); have y3 := (KE.out.frozen (a := ⟨w.heap.size + 1 + 1, 0, none⟩) iz (by simp)).trans i3; have y4 := (KE.out.frozen (a := ⟨w.heap.size + 1 + 1, 1, none⟩) iz (by simp)).trans i4; have y5 := (KE.out.frozen (a := ⟨w.heap.size + 1 + 1, 2, none⟩) iz (by simp)).trans i5; have zz3 := KE.out.size))
  go_wp2_with fail
  refine nd_ret2 (w.heap.size + 1 + 1) (t := 30) (x := .slice a ts.length c) (y := .slice none 0 0) (z := .slice none 0 0) (v := .bool true) rfl rfl rfl ?_ rfl ?_
  · have h := (((Q3.out.kp KE.out (by simp)).set 0 (.slice a ts.length c)).set 1 (.slice none 0 0)).set 2 (.slice none 0 0)
    simpa using h
  · have KF : Kp [] w _ := (((((KW.out).trans KE.out)).setCell (a := ⟨w.heap.size + 1 + 1, 0, none⟩) (.slice a ts.length c) (.inl (by show _ ≤ w.heap.size + 1 + 1; omega))).setCell (a := ⟨w.heap.size + 1 + 1, 1, none⟩) (.slice none 0 0) (.inl (by show _ ≤ w.heap.size + 1 + 1; omega))).setCell (a := ⟨w.heap.size + 1 + 1, 2, none⟩) (.slice none 0 0) (.inl (by show _ ≤ w.heap.size + 1 + 1; omega))
    have KG : Kp [w.heap.size + 1 + 1] w3 _ := (((Kp.refl [w.heap.size + 1 + 1] w3).setCell (a := ⟨w.heap.size + 1 + 1, 0, none⟩) (.slice a ts.length c) (.inr (by simp))).setCell (a := ⟨w.heap.size + 1 + 1, 1, none⟩) (.slice none 0 0) (.inr (by simp))).setCell (a := ⟨w.heap.size + 1 + 1, 2, none⟩) (.slice none 0 0) (.inr (by simp))
    unfold ParsePost; rw [HPS.out]
    exact ⟨a, none, none, c, 0, 0, rfl, ⟨(Own.ps (((HOW.out.kp ((Kp.refl [w.heap.size + 1 + 1 + 1] _).setCell (a := ⟨w.heap.size + 1 + 1 + 1, 0, none⟩) (.slice a ts.length c) (.inr (by simp))) (by intro g hg; have := HN.out g hg; simp; omega)).kp KE.out (by simp)).kp KG (by intro g hg; have := HN.out g hg; simp; omega))), SsAt.nil _ _, KsAt.nil _ _⟩, KF, by intro g hg; simp [ab] at hg; have := HN.out g (by simpa [ab] using hg); omega⟩

set_option maxHeartbeats 1000000 in set_option maxRecDepth 100000 in
theorem parse_leaf_no (P wd : Nat) (pages : Bool) (s l : Bs) (w : World) (hs : s.length ≤ 3909374676453) (hP0 : 1024 ≤ P) (hP : P ≤ 8192) (ht : takeP 1 s = some (1, l)) (ho : restO (listP s.length (pairP P) () l) ≠ some []) :
    Calls Try.prog 32 #[.agg #[.int .i64 P, .int .i64 wd], .string ⟨s.toArray⟩, .bool pages] w (ParsePost w (parseP P wd pages s)) := by
  have hs' : s.length ≤ 140737488351232 := by omega
  have hlen := take1_len ht
  have hv : gotV (takeP 1) 0 (some s) = 1 := by simp [gotV, ht]
  have hr : gotR (takeP 1) (some s) = some l := by simp [gotR, ht]
  have hp : parseP P wd pages s = match listP s.length (pairP P) () l with | some (_, ps, l') => if l' = [] then some ⟨ps, [], []⟩ else none | none => none := by simp only [parseP, ht, if_true]; rfl
  have HV := Lib.hid hv; have HR := Lib.hid hr; have HPP := Lib.hid hp; have HO := Lib.hid ho
  clear hv hr hp ht ho
  go_enter Try.func32, Try.ntmps32
  go_wp2_with fail
  refine (open_any s _).mono ?_
  rintro e w' ⟨rfl, rfl⟩
  go_wp2_with fail
  refine (u8_all (w.heap.size + 1 + 1 + 1 + 1) s (some s) _ (by have := open_st s ((((w.alloc (.cells #[.int .i64 P, .int .i64 wd] 23)).alloc (.cells #[.bool pages] 4)).alloc (.cells #[.slice none 0 0, .slice none 0 0, .slice none 0 0] 30)).alloc (.cells #[.slice none 0 0, .slice none 0 0, .slice none 0 0] 30)); simp only [World.size_alloc] at this; exact this) hs').mono ?_
  rintro e w1 ⟨rfl, k1, r1⟩
  rw [HV.out]
  rw [HR.out] at r1
  obtain ⟨f1, f2, f3, f4, k0, z1⟩ := five k1
  have F1 := Lib.hid f1; have F2 := Lib.hid f2; have F3 := Lib.hid f3; have F4 := Lib.hid f4; have K0 := Lib.hid k0; have R1 := Lib.hid r1
  clear f1 f2 f3 f4 k0 k1 r1
  have f4c0 := F4.out.cell 0; have f4f0 := F4.out.frozen 0
  simp only [List.getElem?_toArray, List.getElem?_cons_zero, List.getElem?_cons_succ] at f4c0
  go_wp2_with fail
  refine (list_pairs (w.heap.size + 1 + 1 + 1 + 1) (w.heap.size) s.length P wd s l w1 hs hP0 hP (by omega) (by omega) (by omega) R1.out F1.out).mono ?_
  rintro e w2 ⟨a, c, ts, rfl, how, k2, hnew, r2, hsome, hnone⟩
  have G4 := Lib.hid (F4.out.kp k2 (by simp only [List.mem_cons, List.not_mem_nil, or_false]; omega)); have G3 := Lib.hid (F3.out.kp k2 (by simp only [List.mem_cons, List.not_mem_nil, or_false]; omega))
  have g0 := G4.out.cell 0; have g1 := G4.out.cell 1; have g2 := G4.out.cell 2; have g3 := G4.out.frozen 0
  have j0 := G3.out.cell 0; have j1 := G3.out.cell 1; have j2 := G3.out.cell 2; have j3 := G3.out.frozen 0; have j4 := G3.out.frozen 1; have j5 := G3.out.frozen 2
  simp only [List.getElem?_toArray, List.getElem?_cons_zero, List.getElem?_cons_succ] at g0 g1 g2 j0 j1 j2
  have HOW := Lib.hid how; have K2 := Lib.hid k2; have HN := Lib.hid hnew; have R2 := Lib.hid r2; have HSO := Lib.hid hsome; have HNO := Lib.hid hnone
  have zz2 := k2.size
  clear how k2 hnew r2 hsome hnone
  go_wp2_with fail
  have HPS : Hid (parseP P wd pages s = none) := Lib.hid (by
    rw [HPP.out]
    have h0 := HO.out
    cases hr : listP s.length (pairP P) () l with
    | none => rfl
    | some r =>
      obtain ⟨u, ps, l'⟩ := r
      rw [hr] at h0
      simp only [restO, Option.map_some, ne_eq, Option.some.injEq] at h0
      simp [h0])
  have RO := R2
  have KW : Hid (Kp [] w (w2.setCell ⟨w.heap.size + 1 + 1 + 1, 0, none⟩ (.slice a ts.length c))) := Lib.hid ((K0.out.from K2.out (by simp only [List.mem_cons, List.not_mem_nil, or_false]; omega)).setCell _ (.inl (by show _ ≤ w.heap.size + 1 + 1 + 1; omega)))
  have Q4 := Lib.hid (G4.out.set 0 (.slice a ts.length c))
  have Q3 := Lib.hid (G3.out.set_other (a := ⟨w.heap.size + 1 + 1 + 1, 0, none⟩) (.slice a ts.length c) (by show (w.heap.size + 1 + 1 + 1) ≠ _; omega))
  have q0 : (w2.setCell ⟨w.heap.size + 1 + 1 + 1, 0, none⟩ (.slice a ts.length c)).cell? ⟨w.heap.size + 1 + 1 + 1, 0, none⟩ = some (.slice a ts.length c) := by have := Q4.out.cell 0; simpa using this
  have q1 : (w2.setCell ⟨w.heap.size + 1 + 1 + 1, 0, none⟩ (.slice a ts.length c)).cell? ⟨w.heap.size + 1 + 1 + 1, 1, none⟩ = some (.slice none 0 0) := by have := Q4.out.cell 1; simpa using this
  have q2 : (w2.setCell ⟨w.heap.size + 1 + 1 + 1, 0, none⟩ (.slice a ts.length c)).cell? ⟨w.heap.size + 1 + 1 + 1, 2, none⟩ = some (.slice none 0 0) := by have := Q4.out.cell 2; simpa using this
  have i0 : (w2.setCell ⟨w.heap.size + 1 + 1 + 1, 0, none⟩ (.slice a ts.length c)).cell? ⟨w.heap.size + 1 + 1, 0, none⟩ = some (.slice none 0 0) := by have := Q3.out.cell 0; simpa using this
  have i1 : (w2.setCell ⟨w.heap.size + 1 + 1 + 1, 0, none⟩ (.slice a ts.length c)).cell? ⟨w.heap.size + 1 + 1, 1, none⟩ = some (.slice none 0 0) := by have := Q3.out.cell 1; simpa using this
  have i2 : (w2.setCell ⟨w.heap.size + 1 + 1 + 1, 0, none⟩ (.slice a ts.length c)).cell? ⟨w.heap.size + 1 + 1, 2, none⟩ = some (.slice none 0 0) := by have := Q3.out.cell 2; simpa using this
  have i3 : (w2.setCell ⟨w.heap.size + 1 + 1 + 1, 0, none⟩ (.slice a ts.length c)).frozen? ⟨w.heap.size + 1 + 1, 0, none⟩ = false := Q3.out.frozen 0
  have i4 : (w2.setCell ⟨w.heap.size + 1 + 1 + 1, 0, none⟩ (.slice a ts.length c)).frozen? ⟨w.heap.size + 1 + 1, 1, none⟩ = false := Q3.out.frozen 1
  have i5 : (w2.setCell ⟨w.heap.size + 1 + 1 + 1, 0, none⟩ (.slice a ts.length c)).frozen? ⟨w.heap.size + 1 + 1, 2, none⟩ = false := Q3.out.frozen 2
  have iz := Q3.out.lt
  clear g0 g1 g2 g3 j0 j1 j2 j3 j4 j5
  have SK := Lib.hid (show ∀ (W : World) (T : List Nat), Kp T (w2.setCell ⟨w.heap.size + 1 + 1 + 1, 0, none⟩ (.slice a ts.length c)) W → (w.heap.size + 1 + 1 + 1) ∉ T → (W.cell? ⟨w.heap.size + 1 + 1 + 1, 0, none⟩ = some (.slice a ts.length c) ∧ W.cell? ⟨w.heap.size + 1 + 1 + 1, 1, none⟩ = some (.slice none 0 0) ∧ W.cell? ⟨w.heap.size + 1 + 1 + 1, 2, none⟩ = some (.slice none 0 0)) from fun W T k h => ⟨k.cell q0 h, k.cell q1 h, k.cell q2 h⟩)
  go_region_held3 (fun W => W.cell? ⟨w.heap.size + 1 + 1 + 1, 0, none⟩ = some (.slice a ts.length c) ∧ W.cell? ⟨w.heap.size + 1 + 1 + 1, 1, none⟩ = some (.slice none 0 0) ∧ W.cell? ⟨w.heap.size + 1 + 1 + 1, 2, none⟩ = some (.slice none 0 0)) (first | exact SK.out _ [] ((Kp.refl [] _).drew) (by simp) | exact SK.out _ [] KE.out (by simp) | exact SK.out _ [w.heap.size + 1 + 1] ((((KE.out.of_nil (T := [w.heap.size + 1 + 1])).setCell _ (.inr (by simp))).setCell _ (.inr (by simp))).setCell _ (.inr (by simp))) (by simp))
    (first | (go_at_call 72; refine (end_no (w.heap.size + 1 + 1 + 1 + 1) s _ _ hs' (RdSt.kp (RO.out.kp ((Kp.refl [w.heap.size + 1 + 1 + 1] _).setCell _ (.inr (by simp))) (by simp)) ((Kp.refl [] _).drew) (by simp)) HO.out).mono ?_; rintro e w3 ⟨gg, rfl, k3⟩; have KE : Hid (Kp [] (w2.setCell ⟨w.heap.size + 1 + 1 + 1, 0, none⟩ (.slice a ts.length c)) w3) := ((Kp.refl [] _).drew).trans k3; clear k3; have y0 := KE.out.cell i0 (by simp); have y1 := KE.out.cell i1 (by simp); have y2 := KE.out.cell i2 (by simp); have y3 := (KE.out.frozen (a := ⟨w.heap.size + 1 + 1, 0, none⟩) iz (by simp)).trans i3; have y4 := (KE.out.frozen (a := ⟨w.heap.size + 1 + 1, 1, none⟩) iz (by simp)).trans i4; have y5 := (KE.out.frozen (a := ⟨w.heap.size + 1 + 1, 2, none⟩) iz (by simp)).trans i5; have zz3 := KE.out.size))
  go_wp2_with fail
  refine nd_ret2 (w.heap.size + 1 + 1) (t := 30) (x := .slice a ts.length c) (y := .slice none 0 0) (z := .slice none 0 0) (v := .bool false) rfl rfl rfl ?_ rfl ?_
  · have h := (((Q3.out.kp KE.out (by simp)).set 0 (.slice a ts.length c)).set 1 (.slice none 0 0)).set 2 (.slice none 0 0)
    simpa using h
  · unfold ParsePost; rw [HPS.out]
    exact ⟨_, _, _, _, _, _, _, _, _, rfl, (((((KW.out).trans KE.out)).setCell (a := ⟨w.heap.size + 1 + 1, 0, none⟩) (.slice a ts.length c) (.inl (by show _ ≤ w.heap.size + 1 + 1; omega))).setCell (a := ⟨w.heap.size + 1 + 1, 1, none⟩) (.slice none 0 0) (.inl (by show _ ≤ w.heap.size + 1 + 1; omega))).setCell (a := ⟨w.heap.size + 1 + 1, 2, none⟩) (.slice none 0 0) (.inl (by show _ ≤ w.heap.size + 1 + 1; omega))⟩

set_option maxHeartbeats 1000000 in set_option maxRecDepth 100000 in
theorem parse_branch_empty (P wd : Nat) (pages : Bool) (s l : Bs) (w : World) (hs : s.length ≤ 3909374676453) (hP0 : 1024 ≤ P) (hP : P ≤ 8192) (hwd : wd ≤ 32) (ht : takeP 1 s = some (2, l)) (hk : ∀ r, listP s.length (kidP P wd pages) (true, []) l = some r → r.2.1 = []) :
    Calls Try.prog 32 #[.agg #[.int .i64 P, .int .i64 wd], .string ⟨s.toArray⟩, .bool pages] w (ParsePost w (parseP P wd pages s)) := by
  have hs' : s.length ≤ 140737488351232 := by omega
  have hlen := take1_len ht
  have hv : gotV (takeP 1) 0 (some s) = 2 := by simp [gotV, ht]
  have hr : gotR (takeP 1) (some s) = some l := by simp [gotR, ht]
  have hp : parseP P wd pages s = match listP s.length (kidP P wd pages) (true, []) l with | some (x, ks, l') => if ks = [] then none else if l' = [] then some ⟨[], x.2, ks⟩ else none | none => none := by simp only [parseP, ht]; rfl
  have HV := Lib.hid hv; have HR := Lib.hid hr; have HPP := Lib.hid hp; have HK := Lib.hid hk
  clear hv hr hp ht hk
  go_enter Try.func32, Try.ntmps32
  go_wp2_with fail
  refine (open_any s _).mono ?_
  rintro e w' ⟨rfl, rfl⟩
  go_wp2_with fail
  refine (u8_all (w.heap.size + 1 + 1 + 1 + 1) s (some s) _ (by have := open_st s ((((w.alloc (.cells #[.int .i64 P, .int .i64 wd] 23)).alloc (.cells #[.bool pages] 4)).alloc (.cells #[.slice none 0 0, .slice none 0 0, .slice none 0 0] 30)).alloc (.cells #[.slice none 0 0, .slice none 0 0, .slice none 0 0] 30)); simp only [World.size_alloc] at this; exact this) hs').mono ?_
  rintro e w1 ⟨rfl, k1, r1⟩
  rw [HV.out]
  rw [HR.out] at r1
  obtain ⟨f1, f2, f3, f4, k0, z1⟩ := five k1
  have F1 := Lib.hid f1; have F2 := Lib.hid f2; have F3 := Lib.hid f3; have F4 := Lib.hid f4; have K0 := Lib.hid k0; have R1 := Lib.hid r1
  clear f1 f2 f3 f4 k0 k1 r1
  have f4c0 := F4.out.cell 2; have f4f0 := F4.out.frozen 2
  simp only [List.getElem?_toArray, List.getElem?_cons_zero, List.getElem?_cons_succ] at f4c0
  go_wp2_with fail
  have Ff : Hid (Blk (w1.alloc (.cells #[.bool true] 4)) w1.heap.size 4 #[.bool true]) := Lib.hid (Blk.new w1 4 #[.bool true])
  refine (list_kids (w.heap.size + 1 + 1 + 1 + 1) (w.heap.size) (w.heap.size + 1) w1.heap.size (w.heap.size + 1 + 1 + 1) s.length P wd pages s l (w1.alloc (.cells #[.bool true] 4)) hs hP0 hP hwd (by omega) (by omega) (by omega) (by omega) (by omega) (by omega) (by omega) (by omega) (by omega) (by omega) (by omega) (R1.out.kp ((Kp.refl [] _).alloc _) (by simp)) (F1.out.alloc _) (F2.out.alloc _) Ff.out (F4.out.alloc _)).mono ?_
  rintro e w2 ⟨a, c, ts, a2, c2, seps, rfl, how, k2, hnew, r2, nb2, own2, hnew2, hsome, hnone⟩
  have G4 := Lib.hid nb2; have G3 := Lib.hid (((F3.out.alloc (.cells #[.bool true] 4))).kp k2 (by simp only [List.mem_cons, List.not_mem_nil, or_false]; omega))
  have g0 := G4.out.cell 0; have g1 := G4.out.cell 1; have g2 := G4.out.cell 2; have g3 := G4.out.frozen 2
  have j0 := G3.out.cell 0; have j1 := G3.out.cell 1; have j2 := G3.out.cell 2; have j3 := G3.out.frozen 0; have j4 := G3.out.frozen 1; have j5 := G3.out.frozen 2
  simp only [List.getElem?_toArray, List.getElem?_cons_zero, List.getElem?_cons_succ] at g0 g1 g2 j0 j1 j2
  have HOW := Lib.hid how; have K2 := Lib.hid k2; have HN := Lib.hid hnew; have R2 := Lib.hid r2; have HSO := Lib.hid hsome; have HNO := Lib.hid hnone; have HOW2 := Lib.hid own2; have HN2 := Lib.hid hnew2
  have zz2 := k2.size
  simp only [World.size_alloc] at zz2
  clear how k2 hnew r2 hsome hnone nb2 own2 hnew2
  have hts : ts = [] := by
    cases hr : listP s.length (kidP P wd pages) (true, []) l with
    | none => exact HNO.out hr
    | some r => rw [(HSO.out _ hr).1]; exact HK.out _ hr
  have htb : ((ts.length : Int) == 0) = true := by rw [hts]; rfl
  have HPS : Hid (parseP P wd pages s = none) := Lib.hid (by
    rw [HPP.out]
    cases hr : listP s.length (kidP P wd pages) (true, []) l with
    | none => rfl
    | some r => simp [HK.out _ hr])
  clear hts
  go_wp2_with fail
  have KW : Hid (Kp [] w (w2.setCell ⟨w.heap.size + 1 + 1 + 1, 2, none⟩ (.slice a ts.length c))) := Lib.hid (((K0.out.alloc (.cells #[.bool true] 4)).from K2.out (by simp only [List.mem_cons, List.not_mem_nil, or_false]; omega)).setCell _ (.inl (by show _ ≤ w.heap.size + 1 + 1 + 1; omega)))
  refine nd_ret2 (w.heap.size + 1 + 1) (t := 30) (x := .slice none 0 0) (y := .slice none 0 0) (z := .slice none 0 0) (v := .bool false) rfl rfl rfl ?_ rfl ?_
  · have h := (((G3.out.set_other (a := ⟨w.heap.size + 1 + 1 + 1, 2, none⟩) (.slice a ts.length c) (by show (w.heap.size + 1 + 1 + 1) ≠ _; omega)).set 0 (.slice none 0 0)).set 1 (.slice none 0 0)).set 2 (.slice none 0 0)
    simpa using h
  · unfold ParsePost; rw [HPS.out]
    exact ⟨_, _, _, _, _, _, _, _, _, rfl, (((KW.out).setCell (a := ⟨w.heap.size + 1 + 1, 0, none⟩) (.slice none 0 0) (.inl (by show _ ≤ w.heap.size + 1 + 1; omega))).setCell (a := ⟨w.heap.size + 1 + 1, 1, none⟩) (.slice none 0 0) (.inl (by show _ ≤ w.heap.size + 1 + 1; omega))).setCell (a := ⟨w.heap.size + 1 + 1, 2, none⟩) (.slice none 0 0) (.inl (by show _ ≤ w.heap.size + 1 + 1; omega))⟩

set_option maxHeartbeats 1000000 in set_option maxRecDepth 100000 in
theorem parse_branch_ok (P wd : Nat) (pages : Bool) (s l : Bs) (w : World) (hs : s.length ≤ 3909374676453) (hP0 : 1024 ≤ P) (hP : P ≤ 8192) (hwd : wd ≤ 32) (ht : takeP 1 s = some (2, l)) (hk : ∃ r, listP s.length (kidP P wd pages) (true, []) l = some r ∧ r.2.1 ≠ []) (ho : restO (listP s.length (kidP P wd pages) (true, []) l) = some []) :
    Calls Try.prog 32 #[.agg #[.int .i64 P, .int .i64 wd], .string ⟨s.toArray⟩, .bool pages] w (ParsePost w (parseP P wd pages s)) := by
  have hs' : s.length ≤ 140737488351232 := by omega
  have hlen := take1_len ht
  have hv : gotV (takeP 1) 0 (some s) = 2 := by simp [gotV, ht]
  have hr : gotR (takeP 1) (some s) = some l := by simp [gotR, ht]
  have hp : parseP P wd pages s = match listP s.length (kidP P wd pages) (true, []) l with | some (x, ks, l') => if ks = [] then none else if l' = [] then some ⟨[], x.2, ks⟩ else none | none => none := by simp only [parseP, ht]; rfl
  have HV := Lib.hid hv; have HR := Lib.hid hr; have HPP := Lib.hid hp; have HK := Lib.hid hk
  have HO := Lib.hid ho; clear ho
  clear hv hr hp ht hk
  go_enter Try.func32, Try.ntmps32
  go_wp2_with fail
  refine (open_any s _).mono ?_
  rintro e w' ⟨rfl, rfl⟩
  go_wp2_with fail
  refine (u8_all (w.heap.size + 1 + 1 + 1 + 1) s (some s) _ (by have := open_st s ((((w.alloc (.cells #[.int .i64 P, .int .i64 wd] 23)).alloc (.cells #[.bool pages] 4)).alloc (.cells #[.slice none 0 0, .slice none 0 0, .slice none 0 0] 30)).alloc (.cells #[.slice none 0 0, .slice none 0 0, .slice none 0 0] 30)); simp only [World.size_alloc] at this; exact this) hs').mono ?_
  rintro e w1 ⟨rfl, k1, r1⟩
  rw [HV.out]
  rw [HR.out] at r1
  obtain ⟨f1, f2, f3, f4, k0, z1⟩ := five k1
  have F1 := Lib.hid f1; have F2 := Lib.hid f2; have F3 := Lib.hid f3; have F4 := Lib.hid f4; have K0 := Lib.hid k0; have R1 := Lib.hid r1
  clear f1 f2 f3 f4 k0 k1 r1
  have f4c0 := F4.out.cell 2; have f4f0 := F4.out.frozen 2
  simp only [List.getElem?_toArray, List.getElem?_cons_zero, List.getElem?_cons_succ] at f4c0
  go_wp2_with fail
  have Ff : Hid (Blk (w1.alloc (.cells #[.bool true] 4)) w1.heap.size 4 #[.bool true]) := Lib.hid (Blk.new w1 4 #[.bool true])
  refine (list_kids (w.heap.size + 1 + 1 + 1 + 1) (w.heap.size) (w.heap.size + 1) w1.heap.size (w.heap.size + 1 + 1 + 1) s.length P wd pages s l (w1.alloc (.cells #[.bool true] 4)) hs hP0 hP hwd (by omega) (by omega) (by omega) (by omega) (by omega) (by omega) (by omega) (by omega) (by omega) (by omega) (by omega) (R1.out.kp ((Kp.refl [] _).alloc _) (by simp)) (F1.out.alloc _) (F2.out.alloc _) Ff.out (F4.out.alloc _)).mono ?_
  rintro e w2 ⟨a, c, ts, a2, c2, seps, rfl, how, k2, hnew, r2, nb2, own2, hnew2, hsome, hnone⟩
  have G4 := Lib.hid nb2; have G3 := Lib.hid (((F3.out.alloc (.cells #[.bool true] 4))).kp k2 (by simp only [List.mem_cons, List.not_mem_nil, or_false]; omega))
  have g0 := G4.out.cell 0; have g1 := G4.out.cell 1; have g2 := G4.out.cell 2; have g3 := G4.out.frozen 2
  have j0 := G3.out.cell 0; have j1 := G3.out.cell 1; have j2 := G3.out.cell 2; have j3 := G3.out.frozen 0; have j4 := G3.out.frozen 1; have j5 := G3.out.frozen 2
  simp only [List.getElem?_toArray, List.getElem?_cons_zero, List.getElem?_cons_succ] at g0 g1 g2 j0 j1 j2
  have HOW := Lib.hid how; have K2 := Lib.hid k2; have HN := Lib.hid hnew; have R2 := Lib.hid r2; have HSO := Lib.hid hsome; have HNO := Lib.hid hnone; have HOW2 := Lib.hid own2; have HN2 := Lib.hid hnew2
  have zz2 := k2.size
  simp only [World.size_alloc] at zz2
  clear how k2 hnew r2 hsome hnone nb2 own2 hnew2
  have hts : ts ≠ [] := by
    obtain ⟨r, hr, hn⟩ := HK.out
    rw [(HSO.out _ hr).1]; exact hn
  have htb : ((ts.length : Int) == 0) = false := by
    simp only [beq_eq_false_iff_ne]; intro e; exact hts (List.eq_nil_of_length_eq_zero (by omega))
  have HPS : Hid (parseP P wd pages s = some ⟨[], seps, ts⟩) := Lib.hid (by
    rw [HPP.out]
    have h0 := HO.out
    obtain ⟨r, hr, hn⟩ := HK.out
    obtain ⟨x, ks, l'⟩ := r
    have h1 := HSO.out _ hr
    rw [hr] at h0
    simp only [restO, Option.map_some, Option.some.injEq] at h0
    simp only at h1 hn
    rw [hr]
    simp only
    rw [if_neg hn, if_pos h0, h1.1, h1.2])
  clear hts
  go_wp2_with fail
  have KW : Hid (Kp [] w (w2.setCell ⟨w.heap.size + 1 + 1 + 1, 2, none⟩ (.slice a ts.length c))) := Lib.hid (((K0.out.alloc (.cells #[.bool true] 4)).from K2.out (by simp only [List.mem_cons, List.not_mem_nil, or_false]; omega)).setCell _ (.inl (by show _ ≤ w.heap.size + 1 + 1 + 1; omega)))
  have RO := Lib.hid (HO.out ▸ R2.out : RdSt w2 (w.heap.size + 1 + 1 + 1 + 1) s (some []))
  have Q4 := Lib.hid (G4.out.set 2 (.slice a ts.length c))
  have Q3 := Lib.hid (G3.out.set_other (a := ⟨w.heap.size + 1 + 1 + 1, 2, none⟩) (.slice a ts.length c) (by show (w.heap.size + 1 + 1 + 1) ≠ _; omega))
  have q0 : (w2.setCell ⟨w.heap.size + 1 + 1 + 1, 2, none⟩ (.slice a ts.length c)).cell? ⟨w.heap.size + 1 + 1 + 1, 0, none⟩ = some (.slice none 0 0) := by have := Q4.out.cell 0; simpa using this
  have q1 : (w2.setCell ⟨w.heap.size + 1 + 1 + 1, 2, none⟩ (.slice a ts.length c)).cell? ⟨w.heap.size + 1 + 1 + 1, 1, none⟩ = some (.slice a2 seps.length c2) := by have := Q4.out.cell 1; simpa using this
  have q2 : (w2.setCell ⟨w.heap.size + 1 + 1 + 1, 2, none⟩ (.slice a ts.length c)).cell? ⟨w.heap.size + 1 + 1 + 1, 2, none⟩ = some (.slice a ts.length c) := by have := Q4.out.cell 2; simpa using this
  have i0 : (w2.setCell ⟨w.heap.size + 1 + 1 + 1, 2, none⟩ (.slice a ts.length c)).cell? ⟨w.heap.size + 1 + 1, 0, none⟩ = some (.slice none 0 0) := by have := Q3.out.cell 0; simpa using this
  have i1 : (w2.setCell ⟨w.heap.size + 1 + 1 + 1, 2, none⟩ (.slice a ts.length c)).cell? ⟨w.heap.size + 1 + 1, 1, none⟩ = some (.slice none 0 0) := by have := Q3.out.cell 1; simpa using this
  have i2 : (w2.setCell ⟨w.heap.size + 1 + 1 + 1, 2, none⟩ (.slice a ts.length c)).cell? ⟨w.heap.size + 1 + 1, 2, none⟩ = some (.slice none 0 0) := by have := Q3.out.cell 2; simpa using this
  have i3 : (w2.setCell ⟨w.heap.size + 1 + 1 + 1, 2, none⟩ (.slice a ts.length c)).frozen? ⟨w.heap.size + 1 + 1, 0, none⟩ = false := Q3.out.frozen 0
  have i4 : (w2.setCell ⟨w.heap.size + 1 + 1 + 1, 2, none⟩ (.slice a ts.length c)).frozen? ⟨w.heap.size + 1 + 1, 1, none⟩ = false := Q3.out.frozen 1
  have i5 : (w2.setCell ⟨w.heap.size + 1 + 1 + 1, 2, none⟩ (.slice a ts.length c)).frozen? ⟨w.heap.size + 1 + 1, 2, none⟩ = false := Q3.out.frozen 2
  have iz := Q3.out.lt
  clear g0 g1 g2 g3 j0 j1 j2 j3 j4 j5
  have SK := Lib.hid (show ∀ (W : World) (T : List Nat), Kp T (w2.setCell ⟨w.heap.size + 1 + 1 + 1, 2, none⟩ (.slice a ts.length c)) W → (w.heap.size + 1 + 1 + 1) ∉ T → (W.cell? ⟨w.heap.size + 1 + 1 + 1, 0, none⟩ = some (.slice none 0 0) ∧ W.cell? ⟨w.heap.size + 1 + 1 + 1, 1, none⟩ = some (.slice a2 seps.length c2) ∧ W.cell? ⟨w.heap.size + 1 + 1 + 1, 2, none⟩ = some (.slice a ts.length c)) from fun W T k h => ⟨k.cell q0 h, k.cell q1 h, k.cell q2 h⟩)
  go_region_held3 (fun W => W.cell? ⟨w.heap.size + 1 + 1 + 1, 0, none⟩ = some (.slice none 0 0) ∧ W.cell? ⟨w.heap.size + 1 + 1 + 1, 1, none⟩ = some (.slice a2 seps.length c2) ∧ W.cell? ⟨w.heap.size + 1 + 1 + 1, 2, none⟩ = some (.slice a ts.length c)) (first | exact SK.out _ [] ((Kp.refl [] _).drew) (by simp) | exact SK.out _ [] KE.out (by simp) | exact SK.out _ [w.heap.size + 1 + 1] ((((KE.out.of_nil (T := [w.heap.size + 1 + 1])).setCell _ (.inr (by simp))).setCell _ (.inr (by simp))).setCell _ (.inr (by simp))) (by simp))
    (first | (go_at_call 72; refine (end_ok (w.heap.size + 1 + 1 + 1 + 1) s _ hs' (RdSt.kp (o := some []) (RO.out.kp ((Kp.refl [w.heap.size + 1 + 1 + 1] _).setCell _ (.inr (by simp))) (by simp)) ((Kp.refl [] _).drew) (by simp))).mono ?_; rintro e w3 ⟨rfl, k3⟩; have KE : Hid (Kp [] (w2.setCell ⟨w.heap.size + 1 + 1 + 1, 2, none⟩ (.slice a ts.length c)) w3) := ((Kp.refl [] _).drew).trans k3; clear k3; have y0 := KE.out.cell i0 (by simp); have y1 := KE.out.cell i1 (by simp); have y2 := KE.out.cell i2 (by simp); have y3 := (KE.out.frozen (a := ⟨w.heap.size + 1 + 1, 0, none⟩) iz (by simp)).trans i3; have y4 := (KE.out.frozen (a := ⟨w.heap.size + 1 + 1, 1, none⟩) iz (by simp)).trans i4; have y5 := (KE.out.frozen (a := ⟨w.heap.size + 1 + 1, 2, none⟩) iz (by simp)).trans i5; have zz3 := KE.out.size))
  go_wp2_with fail
  refine nd_ret2 (w.heap.size + 1 + 1) (t := 30) (x := .slice none 0 0) (y := .slice a2 seps.length c2) (z := .slice a ts.length c) (v := .bool true) rfl rfl rfl ?_ rfl ?_
  · have h := (((Q3.out.kp KE.out (by simp)).set 0 (.slice none 0 0)).set 1 (.slice a2 seps.length c2)).set 2 (.slice a ts.length c)
    simpa using h
  · have KF : Kp [] w _ := (((((KW.out).trans KE.out)).setCell (a := ⟨w.heap.size + 1 + 1, 0, none⟩) (.slice none 0 0) (.inl (by show _ ≤ w.heap.size + 1 + 1; omega))).setCell (a := ⟨w.heap.size + 1 + 1, 1, none⟩) (.slice a2 seps.length c2) (.inl (by show _ ≤ w.heap.size + 1 + 1; omega))).setCell (a := ⟨w.heap.size + 1 + 1, 2, none⟩) (.slice a ts.length c) (.inl (by show _ ≤ w.heap.size + 1 + 1; omega))
    have KG : Kp [w.heap.size + 1 + 1] w3 _ := (((Kp.refl [w.heap.size + 1 + 1] w3).setCell (a := ⟨w.heap.size + 1 + 1, 0, none⟩) (.slice none 0 0) (.inr (by simp))).setCell (a := ⟨w.heap.size + 1 + 1, 1, none⟩) (.slice a2 seps.length c2) (.inr (by simp))).setCell (a := ⟨w.heap.size + 1 + 1, 2, none⟩) (.slice a ts.length c) (.inr (by simp))
    unfold ParsePost; rw [HPS.out]
    exact ⟨none, a2, a, 0, c2, c, rfl, ⟨PsAt.nil _ _, Own.ss ((((HOW2.out.kp ((Kp.refl [w.heap.size + 1 + 1 + 1] _).setCell (a := ⟨w.heap.size + 1 + 1 + 1, 2, none⟩) (.slice a ts.length c) (.inr (by simp))) (by intro g hg; have := HN2.out g hg; simp at this; simp; omega)).kp KE.out (by simp)).kp KG (by intro g hg; have := HN2.out g hg; simp at this; simp; omega))), Own.ks ((((HOW.out.kp ((Kp.refl [w.heap.size + 1 + 1 + 1] _).setCell (a := ⟨w.heap.size + 1 + 1 + 1, 2, none⟩) (.slice a ts.length c) (.inr (by simp))) (by intro g hg; have := HN.out g hg; simp at this; simp; omega)).kp KE.out (by simp)).kp KG (by intro g hg; have := HN.out g hg; simp at this; simp; omega)))⟩, KF, by intro g hg; rcases List.mem_append.1 hg with h | h; (rcases List.mem_append.1 h with h | h; (exact absurd h (by simp [ab])); (have := HN2.out g h; simp at this; omega)); (have := HN.out g h; simp at this; omega)⟩

set_option maxHeartbeats 1000000 in set_option maxRecDepth 100000 in
theorem parse_branch_no (P wd : Nat) (pages : Bool) (s l : Bs) (w : World) (hs : s.length ≤ 3909374676453) (hP0 : 1024 ≤ P) (hP : P ≤ 8192) (hwd : wd ≤ 32) (ht : takeP 1 s = some (2, l)) (hk : ∃ r, listP s.length (kidP P wd pages) (true, []) l = some r ∧ r.2.1 ≠ []) (ho : restO (listP s.length (kidP P wd pages) (true, []) l) ≠ some []) :
    Calls Try.prog 32 #[.agg #[.int .i64 P, .int .i64 wd], .string ⟨s.toArray⟩, .bool pages] w (ParsePost w (parseP P wd pages s)) := by
  have hs' : s.length ≤ 140737488351232 := by omega
  have hlen := take1_len ht
  have hv : gotV (takeP 1) 0 (some s) = 2 := by simp [gotV, ht]
  have hr : gotR (takeP 1) (some s) = some l := by simp [gotR, ht]
  have hp : parseP P wd pages s = match listP s.length (kidP P wd pages) (true, []) l with | some (x, ks, l') => if ks = [] then none else if l' = [] then some ⟨[], x.2, ks⟩ else none | none => none := by simp only [parseP, ht]; rfl
  have HV := Lib.hid hv; have HR := Lib.hid hr; have HPP := Lib.hid hp; have HK := Lib.hid hk
  have HO := Lib.hid ho; clear ho
  clear hv hr hp ht hk
  go_enter Try.func32, Try.ntmps32
  go_wp2_with fail
  refine (open_any s _).mono ?_
  rintro e w' ⟨rfl, rfl⟩
  go_wp2_with fail
  refine (u8_all (w.heap.size + 1 + 1 + 1 + 1) s (some s) _ (by have := open_st s ((((w.alloc (.cells #[.int .i64 P, .int .i64 wd] 23)).alloc (.cells #[.bool pages] 4)).alloc (.cells #[.slice none 0 0, .slice none 0 0, .slice none 0 0] 30)).alloc (.cells #[.slice none 0 0, .slice none 0 0, .slice none 0 0] 30)); simp only [World.size_alloc] at this; exact this) hs').mono ?_
  rintro e w1 ⟨rfl, k1, r1⟩
  rw [HV.out]
  rw [HR.out] at r1
  obtain ⟨f1, f2, f3, f4, k0, z1⟩ := five k1
  have F1 := Lib.hid f1; have F2 := Lib.hid f2; have F3 := Lib.hid f3; have F4 := Lib.hid f4; have K0 := Lib.hid k0; have R1 := Lib.hid r1
  clear f1 f2 f3 f4 k0 k1 r1
  have f4c0 := F4.out.cell 2; have f4f0 := F4.out.frozen 2
  simp only [List.getElem?_toArray, List.getElem?_cons_zero, List.getElem?_cons_succ] at f4c0
  go_wp2_with fail
  have Ff : Hid (Blk (w1.alloc (.cells #[.bool true] 4)) w1.heap.size 4 #[.bool true]) := Lib.hid (Blk.new w1 4 #[.bool true])
  refine (list_kids (w.heap.size + 1 + 1 + 1 + 1) (w.heap.size) (w.heap.size + 1) w1.heap.size (w.heap.size + 1 + 1 + 1) s.length P wd pages s l (w1.alloc (.cells #[.bool true] 4)) hs hP0 hP hwd (by omega) (by omega) (by omega) (by omega) (by omega) (by omega) (by omega) (by omega) (by omega) (by omega) (by omega) (R1.out.kp ((Kp.refl [] _).alloc _) (by simp)) (F1.out.alloc _) (F2.out.alloc _) Ff.out (F4.out.alloc _)).mono ?_
  rintro e w2 ⟨a, c, ts, a2, c2, seps, rfl, how, k2, hnew, r2, nb2, own2, hnew2, hsome, hnone⟩
  have G4 := Lib.hid nb2; have G3 := Lib.hid (((F3.out.alloc (.cells #[.bool true] 4))).kp k2 (by simp only [List.mem_cons, List.not_mem_nil, or_false]; omega))
  have g0 := G4.out.cell 0; have g1 := G4.out.cell 1; have g2 := G4.out.cell 2; have g3 := G4.out.frozen 2
  have j0 := G3.out.cell 0; have j1 := G3.out.cell 1; have j2 := G3.out.cell 2; have j3 := G3.out.frozen 0; have j4 := G3.out.frozen 1; have j5 := G3.out.frozen 2
  simp only [List.getElem?_toArray, List.getElem?_cons_zero, List.getElem?_cons_succ] at g0 g1 g2 j0 j1 j2
  have HOW := Lib.hid how; have K2 := Lib.hid k2; have HN := Lib.hid hnew; have R2 := Lib.hid r2; have HSO := Lib.hid hsome; have HNO := Lib.hid hnone; have HOW2 := Lib.hid own2; have HN2 := Lib.hid hnew2
  have zz2 := k2.size
  simp only [World.size_alloc] at zz2
  clear how k2 hnew r2 hsome hnone nb2 own2 hnew2
  have hts : ts ≠ [] := by
    obtain ⟨r, hr, hn⟩ := HK.out
    rw [(HSO.out _ hr).1]; exact hn
  have htb : ((ts.length : Int) == 0) = false := by
    simp only [beq_eq_false_iff_ne]; intro e; exact hts (List.eq_nil_of_length_eq_zero (by omega))
  have HPS : Hid (parseP P wd pages s = none) := Lib.hid (by
    rw [HPP.out]
    have h0 := HO.out
    obtain ⟨r, hr, hn⟩ := HK.out
    obtain ⟨x, ks, l'⟩ := r
    rw [hr] at h0
    simp only [restO, Option.map_some, ne_eq, Option.some.injEq] at h0
    simp only at hn
    rw [hr]
    simp only
    rw [if_neg hn, if_neg h0])
  clear hts
  go_wp2_with fail
  have KW : Hid (Kp [] w (w2.setCell ⟨w.heap.size + 1 + 1 + 1, 2, none⟩ (.slice a ts.length c))) := Lib.hid (((K0.out.alloc (.cells #[.bool true] 4)).from K2.out (by simp only [List.mem_cons, List.not_mem_nil, or_false]; omega)).setCell _ (.inl (by show _ ≤ w.heap.size + 1 + 1 + 1; omega)))
  have RO := R2
  have Q4 := Lib.hid (G4.out.set 2 (.slice a ts.length c))
  have Q3 := Lib.hid (G3.out.set_other (a := ⟨w.heap.size + 1 + 1 + 1, 2, none⟩) (.slice a ts.length c) (by show (w.heap.size + 1 + 1 + 1) ≠ _; omega))
  have q0 : (w2.setCell ⟨w.heap.size + 1 + 1 + 1, 2, none⟩ (.slice a ts.length c)).cell? ⟨w.heap.size + 1 + 1 + 1, 0, none⟩ = some (.slice none 0 0) := by have := Q4.out.cell 0; simpa using this
  have q1 : (w2.setCell ⟨w.heap.size + 1 + 1 + 1, 2, none⟩ (.slice a ts.length c)).cell? ⟨w.heap.size + 1 + 1 + 1, 1, none⟩ = some (.slice a2 seps.length c2) := by have := Q4.out.cell 1; simpa using this
  have q2 : (w2.setCell ⟨w.heap.size + 1 + 1 + 1, 2, none⟩ (.slice a ts.length c)).cell? ⟨w.heap.size + 1 + 1 + 1, 2, none⟩ = some (.slice a ts.length c) := by have := Q4.out.cell 2; simpa using this
  have i0 : (w2.setCell ⟨w.heap.size + 1 + 1 + 1, 2, none⟩ (.slice a ts.length c)).cell? ⟨w.heap.size + 1 + 1, 0, none⟩ = some (.slice none 0 0) := by have := Q3.out.cell 0; simpa using this
  have i1 : (w2.setCell ⟨w.heap.size + 1 + 1 + 1, 2, none⟩ (.slice a ts.length c)).cell? ⟨w.heap.size + 1 + 1, 1, none⟩ = some (.slice none 0 0) := by have := Q3.out.cell 1; simpa using this
  have i2 : (w2.setCell ⟨w.heap.size + 1 + 1 + 1, 2, none⟩ (.slice a ts.length c)).cell? ⟨w.heap.size + 1 + 1, 2, none⟩ = some (.slice none 0 0) := by have := Q3.out.cell 2; simpa using this
  have i3 : (w2.setCell ⟨w.heap.size + 1 + 1 + 1, 2, none⟩ (.slice a ts.length c)).frozen? ⟨w.heap.size + 1 + 1, 0, none⟩ = false := Q3.out.frozen 0
  have i4 : (w2.setCell ⟨w.heap.size + 1 + 1 + 1, 2, none⟩ (.slice a ts.length c)).frozen? ⟨w.heap.size + 1 + 1, 1, none⟩ = false := Q3.out.frozen 1
  have i5 : (w2.setCell ⟨w.heap.size + 1 + 1 + 1, 2, none⟩ (.slice a ts.length c)).frozen? ⟨w.heap.size + 1 + 1, 2, none⟩ = false := Q3.out.frozen 2
  have iz := Q3.out.lt
  clear g0 g1 g2 g3 j0 j1 j2 j3 j4 j5
  have SK := Lib.hid (show ∀ (W : World) (T : List Nat), Kp T (w2.setCell ⟨w.heap.size + 1 + 1 + 1, 2, none⟩ (.slice a ts.length c)) W → (w.heap.size + 1 + 1 + 1) ∉ T → (W.cell? ⟨w.heap.size + 1 + 1 + 1, 0, none⟩ = some (.slice none 0 0) ∧ W.cell? ⟨w.heap.size + 1 + 1 + 1, 1, none⟩ = some (.slice a2 seps.length c2) ∧ W.cell? ⟨w.heap.size + 1 + 1 + 1, 2, none⟩ = some (.slice a ts.length c)) from fun W T k h => ⟨k.cell q0 h, k.cell q1 h, k.cell q2 h⟩)
  go_region_held3 (fun W => W.cell? ⟨w.heap.size + 1 + 1 + 1, 0, none⟩ = some (.slice none 0 0) ∧ W.cell? ⟨w.heap.size + 1 + 1 + 1, 1, none⟩ = some (.slice a2 seps.length c2) ∧ W.cell? ⟨w.heap.size + 1 + 1 + 1, 2, none⟩ = some (.slice a ts.length c)) (first | exact SK.out _ [] ((Kp.refl [] _).drew) (by simp) | exact SK.out _ [] KE.out (by simp) | exact SK.out _ [w.heap.size + 1 + 1] ((((KE.out.of_nil (T := [w.heap.size + 1 + 1])).setCell _ (.inr (by simp))).setCell _ (.inr (by simp))).setCell _ (.inr (by simp))) (by simp))
    (first | (go_at_call 72; refine (end_no (w.heap.size + 1 + 1 + 1 + 1) s _ _ hs' (RdSt.kp (RO.out.kp ((Kp.refl [w.heap.size + 1 + 1 + 1] _).setCell _ (.inr (by simp))) (by simp)) ((Kp.refl [] _).drew) (by simp)) HO.out).mono ?_; rintro e w3 ⟨gg, rfl, k3⟩; have KE : Hid (Kp [] (w2.setCell ⟨w.heap.size + 1 + 1 + 1, 2, none⟩ (.slice a ts.length c)) w3) := ((Kp.refl [] _).drew).trans k3; clear k3; have y0 := KE.out.cell i0 (by simp); have y1 := KE.out.cell i1 (by simp); have y2 := KE.out.cell i2 (by simp); have y3 := (KE.out.frozen (a := ⟨w.heap.size + 1 + 1, 0, none⟩) iz (by simp)).trans i3; have y4 := (KE.out.frozen (a := ⟨w.heap.size + 1 + 1, 1, none⟩) iz (by simp)).trans i4; have y5 := (KE.out.frozen (a := ⟨w.heap.size + 1 + 1, 2, none⟩) iz (by simp)).trans i5; have zz3 := KE.out.size))
  go_wp2_with fail
  refine nd_ret2 (w.heap.size + 1 + 1) (t := 30) (x := .slice none 0 0) (y := .slice a2 seps.length c2) (z := .slice a ts.length c) (v := .bool false) rfl rfl rfl ?_ rfl ?_
  · have h := (((Q3.out.kp KE.out (by simp)).set 0 (.slice none 0 0)).set 1 (.slice a2 seps.length c2)).set 2 (.slice a ts.length c)
    simpa using h
  · unfold ParsePost; rw [HPS.out]
    exact ⟨_, _, _, _, _, _, _, _, _, rfl, (((((KW.out).trans KE.out)).setCell (a := ⟨w.heap.size + 1 + 1, 0, none⟩) (.slice none 0 0) (.inl (by show _ ≤ w.heap.size + 1 + 1; omega))).setCell (a := ⟨w.heap.size + 1 + 1, 1, none⟩) (.slice a2 seps.length c2) (.inl (by show _ ≤ w.heap.size + 1 + 1; omega))).setCell (a := ⟨w.heap.size + 1 + 1, 2, none⟩) (.slice a ts.length c) (.inl (by show _ ≤ w.heap.size + 1 + 1; omega))⟩

set_option maxHeartbeats 1000000 in set_option maxRecDepth 100000 in
theorem parse_other (P wd : Nat) (pages : Bool) (s : Bs) (w : World) (hs : s.length ≤ 3909374676453) (ht : ∀ r, takeP 1 s = some r → r.1 ≠ 1 ∧ r.1 ≠ 2) :
    Calls Try.prog 32 #[.agg #[.int .i64 P, .int .i64 wd], .string ⟨s.toArray⟩, .bool pages] w (ParsePost w (parseP P wd pages s)) := by
  have hs' : s.length ≤ 140737488351232 := by omega
  have hp : parseP P wd pages s = none := by
    unfold parseP
    cases hr : takeP 1 s with
    | none => rfl
    | some r => have := ht r hr; simp [this.1, this.2]
  obtain ⟨v, hv⟩ : ∃ v, gotV (takeP 1) 0 (some s) = v := ⟨_, rfl⟩
  obtain ⟨o, hr⟩ : ∃ o, gotR (takeP 1) (some s) = o := ⟨_, rfl⟩
  have hvv : v ≠ 1 ∧ v ≠ 2 := by
    rw [← hv]
    cases hr : takeP 1 s with
    | none => simp [gotV, hr]
    | some r => have := ht r hr; simpa [gotV, hr] using this
  have hv1 : ((v : Int) == 1) = false := by simp only [beq_eq_false_iff_ne]; omega
  have hv2 : ((v : Int) == 2) = false := by simp only [beq_eq_false_iff_ne]; omega
  have HV := Lib.hid hv; have HR := Lib.hid hr; have HPS := Lib.hid hp
  clear hv hr hp ht hvv
  go_enter Try.func32, Try.ntmps32
  go_wp2_with fail
  refine (open_any s _).mono ?_
  rintro e w' ⟨rfl, rfl⟩
  go_wp2_with fail
  refine (u8_all (w.heap.size + 1 + 1 + 1 + 1) s (some s) _ (by have := open_st s ((((w.alloc (.cells #[.int .i64 P, .int .i64 wd] 23)).alloc (.cells #[.bool pages] 4)).alloc (.cells #[.slice none 0 0, .slice none 0 0, .slice none 0 0] 30)).alloc (.cells #[.slice none 0 0, .slice none 0 0, .slice none 0 0] 30)); simp only [World.size_alloc] at this; exact this) hs').mono ?_
  rintro e w1 ⟨rfl, k1, r1⟩
  rw [HV.out]
  rw [HR.out] at r1
  obtain ⟨f1, f2, f3, f4, k0, z1⟩ := five k1
  have F1 := Lib.hid f1; have F2 := Lib.hid f2; have F3 := Lib.hid f3; have F4 := Lib.hid f4; have K0 := Lib.hid k0; have R1 := Lib.hid r1
  clear f1 f2 f3 f4 k0 k1 r1
  have j0 := F3.out.cell 0; have j1 := F3.out.cell 1; have j2 := F3.out.cell 2; have j3 := F3.out.frozen 0; have j4 := F3.out.frozen 1; have j5 := F3.out.frozen 2
  simp only [List.getElem?_toArray, List.getElem?_cons_zero, List.getElem?_cons_succ] at j0 j1 j2
  go_wp2_with fail
  refine nd_ret2 (w.heap.size + 1 + 1) (t := 30) (x := .slice none 0 0) (y := .slice none 0 0) (z := .slice none 0 0) (v := .bool false) rfl rfl rfl ?_ rfl ?_
  · have h := ((F3.out.set 0 (.slice none 0 0)).set 1 (.slice none 0 0)).set 2 (.slice none 0 0)
    simpa using h
  · unfold ParsePost; rw [HPS.out]
    exact ⟨_, _, _, _, _, _, _, _, _, rfl, (((K0.out).setCell (a := ⟨w.heap.size + 1 + 1, 0, none⟩) (.slice none 0 0) (.inl (by show _ ≤ w.heap.size + 1 + 1; omega))).setCell (a := ⟨w.heap.size + 1 + 1, 1, none⟩) (.slice none 0 0) (.inl (by show _ ≤ w.heap.size + 1 + 1; omega))).setCell (a := ⟨w.heap.size + 1 + 1, 2, none⟩) (.slice none 0 0) (.inl (by show _ ≤ w.heap.size + 1 + 1; omega))⟩

/-- What parse answers. -/
theorem parse_any (P wd : Nat) (pages : Bool) (s : Bs) (w : World) (hs : s.length ≤ 3909374676453) (hP0 : 1024 ≤ P) (hP : P ≤ 8192) (hwd : wd ≤ 32) :
    Calls Try.prog 32 #[.agg #[.int .i64 P, .int .i64 wd], .string ⟨s.toArray⟩, .bool pages] w (ParsePost w (parseP P wd pages s)) := by
  by_cases ho : ∀ r, takeP 1 s = some r → r.1 ≠ 1 ∧ r.1 ≠ 2
  · exact parse_other P wd pages s w hs ho
  · cases hr : takeP 1 s with
    | none => exact absurd (fun r h => by rw [hr] at h; cases h) ho
    | some r =>
      obtain ⟨t, l⟩ := r
      by_cases h1 : t = 1
      · subst h1
        by_cases h : restO (listP s.length (pairP P) () l) = some []
        · exact parse_leaf_ok P wd pages s l w hs hP0 hP hr h
        · exact parse_leaf_no P wd pages s l w hs hP0 hP hr h
      · by_cases h2 : t = 2
        · subst h2
          by_cases hk : ∀ r, listP s.length (kidP P wd pages) (true, []) l = some r → r.2.1 = []
          · exact parse_branch_empty P wd pages s l w hs hP0 hP hwd hr hk
          · have hk' : ∃ r, listP s.length (kidP P wd pages) (true, []) l = some r ∧ r.2.1 ≠ [] := Classical.byContradiction fun hc => hk fun r h => Classical.byContradiction fun hh => hc ⟨r, h, hh⟩
            by_cases h : restO (listP s.length (kidP P wd pages) (true, []) l) = some []
            · exact parse_branch_ok P wd pages s l w hs hP0 hP hwd hr hk' h
            · exact parse_branch_no P wd pages s l w hs hP0 hP hwd hr hk' h
        · exact absurd (fun r h => by rw [hr] at h; cases h; exact ⟨h1, h2⟩) ho

end Go.Proofs.Ytemicgccgcmmbaa
