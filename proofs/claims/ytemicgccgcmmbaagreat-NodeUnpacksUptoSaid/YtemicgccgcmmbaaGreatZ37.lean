/- The document's copy of a node. -/
import Derived.Test.YtemicgccgcmmbaaGreatZ30
namespace Go.Proofs.YtemicgccgcmmbaaGreat
set_option linter.unusedVariables false
set_option linter.unusedSimpArgs false
open Go Go.RowKit

/-- The same as one step of a region that draws its order. -/
theorem step_app_pair {w : World} {ops : Array Oper} {o : Oper} {A : Act} {K : Act → World → Prop} {Q : Exit → Act → World → Prop} {E : Prop} (hgd : o.guard = none) {s x : Operand} {tx : TypeId}
    (ho : o.op = .call { callee := .builtin .append, args := #[s, x], argTypes := #[24, tx] })
    {a : Option Addr} {n c : Nat} {xs : List Value} (hs : A.eval s = .slice a n c) (hown : Own w 56 2 a n c xs) (m : Nat) (news : List Value) {xv : Value} (hx : A.eval x = xv) (hsrc : Src Tryz.prog 2 tx xv m news w)
    (h63 : n + m ≤ 4398046511104)
    (h : ∀ a' c' w', Own w' 56 2 a' (n + m) c' (xs ++ news) → Kp (ab a) w w' → (∀ g ∈ ab a', g ∈ ab a ∨ w.heap.size ≤ g) → K (A.put o.dst (.slice a' (n + m) c')) w') :
    if Region.wanted o (yielded ops A.tmps) = true then Oper.wp Tryz.prog o A w K Q else E := by
  have hw : Region.wanted o (yielded ops A.tmps) = true := by simp [Region.wanted, hgd]
  rw [if_pos hw]
  subst hx
  obtain ⟨i0, hi, hz0, hz1, hz2⟩ := info_parts Tryz.infoPair
  exact wp_app w s x 24 tx ho 56 i0 (.agg #[.string ⟨#[]⟩, .string ⟨#[]⟩]) 2 32 Tryz.underlying24 hi hz0 hz1 hz2 rfl a n c xs hs hown m news hsrc (by omega) (by unfold maxLen; omega) h

/-- The same as one step of a region that draws its order. -/
theorem step_app_kid {w : World} {ops : Array Oper} {o : Oper} {A : Act} {K : Act → World → Prop} {Q : Exit → Act → World → Prop} {E : Prop} (hgd : o.guard = none) {s x : Operand} {tx : TypeId}
    (ho : o.op = .call { callee := .builtin .append, args := #[s, x], argTypes := #[26, tx] })
    {a : Option Addr} {n c : Nat} {xs : List Value} (hs : A.eval s = .slice a n c) (hown : Own w 59 33 a n c xs) (m : Nat) (news : List Value) {xv : Value} (hx : A.eval x = xv) (hsrc : Src Tryz.prog 33 tx xv m news w)
    (h63 : n + m ≤ 3909374676453)
    (h : ∀ a' c' w', Own w' 59 33 a' (n + m) c' (xs ++ news) → Kp (ab a) w w' → (∀ g ∈ ab a', g ∈ ab a ∨ w.heap.size ≤ g) → K (A.put o.dst (.slice a' (n + m) c')) w') :
    if Region.wanted o (yielded ops A.tmps) = true then Oper.wp Tryz.prog o A w K Q else E := by
  have hw : Region.wanted o (yielded ops A.tmps) = true := by simp [Region.wanted, hgd]
  rw [if_pos hw]
  subst hx
  obtain ⟨i0, hi, hz0, hz1, hz2⟩ := info_parts Tryz.infoKid
  exact wp_app w s x 26 tx ho 59 i0 (.agg Kd.zero.c) 33 36 Tryz.underlying26 hi hz0 hz1 hz2 (Kd.c_size Kd.zero) a n c xs hs hown m news hsrc (by omega) (by unfold maxLen; omega) h

theorem src_pairs' {w : World} {a : Option Addr} {l : List Pr} (h : PsAt w a l) (c : Nat) : Src Tryz.prog 2 24 (.slice a l.length c) l.length (l.flatMap csP) w := by
  cases a with
  | none =>
    cases l with
    | nil => exact Src.ofNil w Tryz.underlying24 c
    | cons x t => obtain ⟨b, o, ha, _⟩ := h 0 x rfl; cases ha
  | some ad => exact src_pairs h c
theorem src_texts' {w : World} {a : Option Addr} {l : List Bs} (h : SsAt w a l) (c : Nat) : Src Tryz.prog 1 25 (.slice a l.length c) l.length (l.flatMap csS) w := by
  cases a with
  | none =>
    cases l with
    | nil => exact Src.ofNil w Tryz.underlying25 c
    | cons x t => obtain ⟨b, o, ha, _⟩ := h 0 x rfl; cases ha
  | some ad => exact src_texts h c
theorem src_kids' {w : World} {a : Option Addr} {l : List Kd} (h : KsAt w a l) (c : Nat) : Src Tryz.prog 33 26 (.slice a l.length c) l.length (l.flatMap csK) w := by
  cases a with
  | none =>
    cases l with
    | nil => exact Src.ofNil w Tryz.underlying26 c
    | cons x t => obtain ⟨b, o, ha, _⟩ := h 0 x rfl; cases ha
  | some ad => exact src_kids h c

set_option maxHeartbeats 4000000 in
set_option maxRecDepth 100000 in
theorem refCopy_any (pa sa ka : Option Addr) (pc sc kc : Nat) (n : Nd) (w : World) (h : NdAt w pa sa ka n) (ho : NdOk n) :
    Calls Tryz.prog 14 #[.agg #[.slice pa n.pairs.length pc, .slice sa n.seps.length sc, .slice ka n.kids.length kc]] w (CopyPost n w) := by
  have hnp := ho.np; have hns := ho.ns; have hnk := ho.nk
  clear ho
  obtain ⟨W0, hW0⟩ : ∃ W0, W0 = (w.alloc (.cells #[.slice pa n.pairs.length pc, .slice sa n.seps.length sc, .slice ka n.kids.length kc] 28)).alloc (.cells #[.slice none 0 0, .slice none 0 0, .slice none 0 0] 28) := ⟨_, rfl⟩
  have kw : Kp [] w W0 := by rw [hW0]; exact ((Kp.refl [] w).alloc _).alloc _
  have b0 : Blk W0 w.heap.size 28 #[.slice pa n.pairs.length pc, .slice sa n.seps.length sc, .slice ka n.kids.length kc] := by rw [hW0]; exact (Blk.new w _ _).alloc _
  have b1 : Blk W0 (w.heap.size + 1) 28 #[.slice none 0 0, .slice none 0 0, .slice none 0 0] := by
    rw [hW0]
    have h := Blk.new (w.alloc (.cells #[.slice pa n.pairs.length pc, .slice sa n.seps.length sc, .slice ka n.kids.length kc] 28)) 28 #[.slice none 0 0, .slice none 0 0, .slice none 0 0]
    simpa using h
  have KW := Lib.hid kw; have B1 := Lib.hid b1; have HP := Lib.hid (PsAt.kp h.ps kw (by simp)); have HS := Lib.hid (SsAt.kp h.ss kw (by simp)); have HK := Lib.hid (KsAt.kp h.ks kw (by simp))
  have SK : Hid (∀ W : World, Kp [w.heap.size + 1] W0 W → (W.cell? ⟨w.heap.size, 0, none⟩ = some (.slice pa n.pairs.length pc) ∧ W.cell? ⟨w.heap.size, 1, none⟩ = some (.slice sa n.seps.length sc) ∧ W.cell? ⟨w.heap.size, 2, none⟩ = some (.slice ka n.kids.length kc))) := Lib.hid (fun W k =>
    have c0 := b0.kp k (by simp)
    ⟨c0.cell 0, c0.cell 1, c0.cell 2⟩)
  have SB : Hid (∀ W : World, Kp [] W0 W → W.cell? ⟨w.heap.size + 1, 0, none⟩ = some (.slice none 0 0) ∧ W.cell? ⟨w.heap.size + 1, 1, none⟩ = some (.slice none 0 0) ∧ W.cell? ⟨w.heap.size + 1, 2, none⟩ = some (.slice none 0 0) ∧
      W.frozen? ⟨w.heap.size + 1, 0, none⟩ = false ∧ W.frozen? ⟨w.heap.size + 1, 1, none⟩ = false ∧ W.frozen? ⟨w.heap.size + 1, 2, none⟩ = false ∧ w.heap.size + 1 < W.heap.size) := Lib.hid (fun W k =>
    have c1 := b1.kp k (by simp)
    ⟨c1.cell 0, c1.cell 1, c1.cell 2, c1.frozen 0, c1.frozen 1, c1.frozen 2, c1.lt⟩)
  have HZ : Hid (w.heap.size + 1 < W0.heap.size) := Lib.hid b1.lt
  clear h kw b0 b1
  have HW0 := Lib.hid hW0
  clear hW0
  go_enter Tryz.func14, Tryz.ntmps14
  go_wp2_with fail
  rw [← HW0.out]
  go_region_held3 (fun W => (W.cell? ⟨w.heap.size, 0, none⟩ = some (.slice pa n.pairs.length pc) ∧ W.cell? ⟨w.heap.size, 1, none⟩ = some (.slice sa n.seps.length sc) ∧ W.cell? ⟨w.heap.size, 2, none⟩ = some (.slice ka n.kids.length kc)))
    (first | exact SK.out _ ((((KT.out.of_nil (T := [w.heap.size + 1])).setCell _ (.inr (by simp))).setCell _ (.inr (by simp))).setCell _ (.inr (by simp))) | exact SK.out _ KT.out.of_nil | exact SK.out _ ((Kp.refl _ _).drew))
    (first
      | (refine step_app_pair rfl rfl (by simp [Act.eval, Act.put]) (Own.nil _ _ _) n.pairs.length (n.pairs.flatMap csP) (by simp [Act.eval, Act.put]) (src_pairs' (PsAt.kp HP.out (by first | exact KT.out | exact (Kp.refl [] _).drew) (by simp)) pc) (by omega) ?_; intro pb pd wP op kp0 np; have kp : Kp [] _ wP := kp0; have OP : Hid (Own wP 56 2 pb n.pairs.length pd (n.pairs.flatMap csP)) := Lib.hid (by simpa using op); have KP := Lib.hid kp; have NP := Lib.hid (fun g hg => (np g hg).resolve_left (by simp [ab])); have KT : Hid (Kp [] W0 wP) := Lib.hid (by first | exact KT.out.trans kp | exact ((Kp.refl [] _).drew).trans kp); have zP := kp.size; clear op kp kp0 np; obtain ⟨y0, y1, y2, y3, y4, y5, y6⟩ := SB.out _ KT.out)
      | (refine step_app_str rfl rfl (by simp [Act.eval, Act.put]) (Own.nil _ _ _) n.seps.length (n.seps.flatMap csS) (by simp [Act.eval, Act.put]) (src_texts' (SsAt.kp HS.out (by first | exact KT.out | exact (Kp.refl [] _).drew) (by simp)) sc) (by omega) ?_; intro sb sd wS op kp0 np; have kp : Kp [] _ wS := kp0; have OS : Hid (Own wS 9 1 sb n.seps.length sd (n.seps.flatMap csS)) := Lib.hid (by simpa using op); have KS := Lib.hid kp; have NS := Lib.hid (fun g hg => (np g hg).resolve_left (by simp [ab])); have KT : Hid (Kp [] W0 wS) := Lib.hid (by first | exact KT.out.trans kp | exact ((Kp.refl [] _).drew).trans kp); have zS := kp.size; clear op kp kp0 np; obtain ⟨y0, y1, y2, y3, y4, y5, y6⟩ := SB.out _ KT.out)
      | (refine step_app_kid rfl rfl (by simp [Act.eval, Act.put]) (Own.nil _ _ _) n.kids.length (n.kids.flatMap csK) (by simp [Act.eval, Act.put]) (src_kids' (KsAt.kp HK.out (by first | exact KT.out | exact (Kp.refl [] _).drew) (by simp)) kc) (by omega) ?_; intro kb kd wK op kp0 np; have kp : Kp [] _ wK := kp0; have OK : Hid (Own wK 59 33 kb n.kids.length kd (n.kids.flatMap csK)) := Lib.hid (by simpa using op); have KK := Lib.hid kp; have NK := Lib.hid (fun g hg => (np g hg).resolve_left (by simp [ab])); have KT : Hid (Kp [] W0 wK) := Lib.hid (by first | exact KT.out.trans kp | exact ((Kp.refl [] _).drew).trans kp); have zK := kp.size; clear op kp kp0 np; obtain ⟨y0, y1, y2, y3, y4, y5, y6⟩ := SB.out _ KT.out))
  all_goals go_wp2_with fail
  all_goals
    have hd : W0.drew.heap.size = W0.heap.size := rfl
    have hf := copy_fin (w := w) (W := W0) (B := w.heap.size + 1) (n := n) (pa := pb) (sa := sb) (ka := kb) (pc := pd) (sc := sd) (kc := kd) KW.out (by omega) HZ.out (B1.out.kp KT.out (by simp)) KT.out
      (by first | exact OP.out | exact Own.kp OP.out KS.out (by simp) | exact Own.kp OP.out KK.out (by simp) | exact Own.kp OP.out (KS.out.trans KK.out) (by simp) | exact Own.kp OP.out (KK.out.trans KS.out) (by simp))
      (by first | exact OS.out | exact Own.kp OS.out KP.out (by simp) | exact Own.kp OS.out KK.out (by simp) | exact Own.kp OS.out (KP.out.trans KK.out) (by simp) | exact Own.kp OS.out (KK.out.trans KP.out) (by simp))
      (by first | exact OK.out | exact Own.kp OK.out KP.out (by simp) | exact Own.kp OK.out KS.out (by simp) | exact Own.kp OK.out (KP.out.trans KS.out) (by simp) | exact Own.kp OK.out (KS.out.trans KP.out) (by simp))
      (by
        intro g hg
        simp only [List.mem_append] at hg
        rcases hg with (h | h) | h
        · have := NP.out g h; omega
        · have := NS.out g h; omega
        · have := NK.out g h; omega)
      (by
        intro g h
        have h1 := NP.out g h; have h2 := OP.out.lt g h
        exact ⟨fun h' => by have h3 := NS.out g h'; have h4 := OS.out.lt g h'; omega, fun h' => by have h3 := NK.out g h'; have h4 := OK.out.lt g h'; omega⟩)
      (by
        intro g h h'
        have h1 := NS.out g h; have h2 := OS.out.lt g h; have h3 := NK.out g h'; have h4 := OK.out.lt g h'
        omega)
      (a := .slice pb n.pairs.length pd) (b := .slice sb n.seps.length sd) (c := .slice kb n.kids.length kd) rfl
    exact nd_ret1 (w.heap.size + 1) rfl rfl hf.1 rfl ⟨pb, sb, kb, pd, sd, kd, rfl, hf.2.1, hf.2.2⟩

end Go.Proofs.YtemicgccgcmmbaaGreat
