/- The document's copy of a node. -/
import Derived.Test.YtemicgccgcmmbaaGreatZ12
import Derived.Test.YtemicgccgcmmbaaGreatZ6
import Derived.Test.YtemicgccgcmmbaaGreatZ11
import Derived.Test.YtemicgccgcmmbaaGreatZ7
import Derived.Laws.StructEq
namespace Go.Proofs.YtemicgccgcmmbaaGreat
set_option linter.unusedVariables false
set_option linter.unusedSimpArgs false
open Go Go.RowKit

/-- The same as one step of a region that draws its order. -/
theorem step_app_pair {w : World} {ops : Array Oper} {o : Oper} {A : Act} {K : Act → World → Prop} {Q : Exit → Act → World → Prop} {E : Prop} (hgd : o.guard = none) {s x : Operand} {tx : TypeId}
    (ho : o.op = .call { callee := .builtin .append, args := #[s, x], argTypes := #[24, tx] })
    {a : Option Addr} {n c : Nat} {xs : List Value} (hs : A.eval s = .slice a n c) (hown : Own w 56 2 a n c xs) (m : Nat) (news : List Value) {xv : Value} (hx : A.eval x = xv) (hsrc : Src Tryz.prog 2 tx xv m news w)
    (h63 : n + m ≤ 4398046511104)
    (h : ∀ a' c' w', Own w' 56 2 a' (n + m) c' (xs ++ news) → Kp (ab a) w w' → (∀ g ∈ ab a', g ∈ ab a ∨ w.heap.size ≤ g) → K (A.put o.dst (.slice a' (n + m) c')) w') :
    if Region.wanted o (yielded ops A.tmps) = true then Oper.wp Tryz.prog o A w K Q else E := by
  have hw : Region.wanted o (yielded ops A.tmps) = true := by simp [Region.wanted, hgd]
  rw [if_pos hw]
  subst hx
  obtain ⟨i0, hi, hz0, hz1, hz2⟩ := info_parts Tryz.infoPair
  exact wp_app w s x 24 tx ho 56 i0 (.agg #[.string ⟨#[]⟩, .string ⟨#[]⟩]) 2 32 Tryz.underlying24 hi hz0 hz1 hz2 rfl a n c xs hs hown m news hsrc (by omega) (by unfold maxLen; omega) h

/-- The same as one step of a region that draws its order. -/
theorem step_app_kid {w : World} {ops : Array Oper} {o : Oper} {A : Act} {K : Act → World → Prop} {Q : Exit → Act → World → Prop} {E : Prop} (hgd : o.guard = none) {s x : Operand} {tx : TypeId}
    (ho : o.op = .call { callee := .builtin .append, args := #[s, x], argTypes := #[26, tx] })
    {a : Option Addr} {n c : Nat} {xs : List Value} (hs : A.eval s = .slice a n c) (hown : Own w 59 33 a n c xs) (m : Nat) (news : List Value) {xv : Value} (hx : A.eval x = xv) (hsrc : Src Tryz.prog 33 tx xv m news w)
    (h63 : n + m ≤ 3909374676453)
    (h : ∀ a' c' w', Own w' 59 33 a' (n + m) c' (xs ++ news) → Kp (ab a) w w' → (∀ g ∈ ab a', g ∈ ab a ∨ w.heap.size ≤ g) → K (A.put o.dst (.slice a' (n + m) c')) w') :
    if Region.wanted o (yielded ops A.tmps) = true then Oper.wp Tryz.prog o A w K Q else E := by
  have hw : Region.wanted o (yielded ops A.tmps) = true := by simp [Region.wanted, hgd]
  rw [if_pos hw]
  subst hx
  obtain ⟨i0, hi, hz0, hz1, hz2⟩ := info_parts Tryz.infoKid
  exact wp_app w s x 26 tx ho 59 i0 (.agg Kd.zero.c) 33 36 Tryz.underlying26 hi hz0 hz1 hz2 (Kd.c_size Kd.zero) a n c xs hs hown m news hsrc (by omega) (by unfold maxLen; omega) h

theorem src_pairs' {w : World} {a : Option Addr} {l : List Pr} (h : PsAt w a l) (c : Nat) : Src Tryz.prog 2 24 (.slice a l.length c) l.length (l.flatMap csP) w := by
  cases a with
  | none =>
    cases l with
    | nil => exact Src.ofNil w Tryz.underlying24 c
    | cons x t => obtain ⟨b, o, ha, _⟩ := h 0 x rfl; cases ha
  | some ad => exact src_pairs h c
theorem src_texts' {w : World} {a : Option Addr} {l : List Bs} (h : SsAt w a l) (c : Nat) : Src Tryz.prog 1 25 (.slice a l.length c) l.length (l.flatMap csS) w := by
  cases a with
  | none =>
    cases l with
    | nil => exact Src.ofNil w Tryz.underlying25 c
    | cons x t => obtain ⟨b, o, ha, _⟩ := h 0 x rfl; cases ha
  | some ad => exact src_texts h c
theorem src_kids' {w : World} {a : Option Addr} {l : List Kd} (h : KsAt w a l) (c : Nat) : Src Tryz.prog 33 26 (.slice a l.length c) l.length (l.flatMap csK) w := by
  cases a with
  | none =>
    cases l with
    | nil => exact Src.ofNil w Tryz.underlying26 c
    | cons x t => obtain ⟨b, o, ha, _⟩ := h 0 x rfl; cases ha
  | some ad => exact src_kids h c

set_option maxHeartbeats 4000000 in
set_option maxRecDepth 100000 in
theorem refCopy_any (pa sa ka : Option Addr) (pc sc kc : Nat) (n : Nd) (w : World) (h : NdAt w pa sa ka n) (ho : NdOk n) :
    Calls Tryz.prog 14 #[.agg #[.slice pa n.pairs.length pc, .slice sa n.seps.length sc, .slice ka n.kids.length kc]] w (CopyPost n w) := by
  have hnp := ho.np; have hns := ho.ns; have hnk := ho.nk
  clear ho
  obtain ⟨W0, hW0⟩ : ∃ W0, W0 = (w.alloc (.cells #[.slice pa n.pairs.length pc, .slice sa n.seps.length sc, .slice ka n.kids.length kc] 28)).alloc (.cells #[.slice none 0 0, .slice none 0 0, .slice none 0 0] 28) := ⟨_, rfl⟩
  have kw : Kp [] w W0 := by rw [hW0]; exact ((Kp.refl [] w).alloc _).alloc _
  have b0 : Blk W0 w.heap.size 28 #[.slice pa n.pairs.length pc, .slice sa n.seps.length sc, .slice ka n.kids.length kc] := by rw [hW0]; exact (Blk.new w _ _).alloc _
  have b1 : Blk W0 (w.heap.size + 1) 28 #[.slice none 0 0, .slice none 0 0, .slice none 0 0] := by
    rw [hW0]
    have h := Blk.new (w.alloc (.cells #[.slice pa n.pairs.length pc, .slice sa n.seps.length sc, .slice ka n.kids.length kc] 28)) 28 #[.slice none 0 0, .slice none 0 0, .slice none 0 0]
    simpa using h
  have KW := Lib.hid kw; have B1 := Lib.hid b1; have HP := Lib.hid (PsAt.kp h.ps kw (by simp)); have HS := Lib.hid (SsAt.kp h.ss kw (by simp)); have HK := Lib.hid (KsAt.kp h.ks kw (by simp))
  have SK : Hid (∀ W : World, Kp [w.heap.size + 1] W0 W → (W.cell? ⟨w.heap.size, 0, none⟩ = some (.slice pa n.pairs.length pc) ∧ W.cell? ⟨w.heap.size, 1, none⟩ = some (.slice sa n.seps.length sc) ∧ W.cell? ⟨w.heap.size, 2, none⟩ = some (.slice ka n.kids.length kc))) := Lib.hid (fun W k =>
    have c0 := b0.kp k (by simp)
    ⟨c0.cell 0, c0.cell 1, c0.cell 2⟩)
  have SB : Hid (∀ W : World, Kp [] W0 W → W.cell? ⟨w.heap.size + 1, 0, none⟩ = some (.slice none 0 0) ∧ W.cell? ⟨w.heap.size + 1, 1, none⟩ = some (.slice none 0 0) ∧ W.cell? ⟨w.heap.size + 1, 2, none⟩ = some (.slice none 0 0) ∧
      W.frozen? ⟨w.heap.size + 1, 0, none⟩ = false ∧ W.frozen? ⟨w.heap.size + 1, 1, none⟩ = false ∧ W.frozen? ⟨w.heap.size + 1, 2, none⟩ = false ∧ w.heap.size + 1 < W.heap.size) := Lib.hid (fun W k =>
    have c1 := b1.kp k (by simp)
    ⟨c1.cell 0, c1.cell 1, c1.cell 2, c1.frozen 0, c1.frozen 1, c1.frozen 2, c1.lt⟩)
  have HZ : Hid (w.heap.size + 1 < W0.heap.size) := Lib.hid b1.lt
  clear h kw b0 b1
  have HW0 := Lib.hid hW0
  clear hW0
  go_enter Tryz.func14, Tryz.ntmps14
  go_wp2_with fail
  rw [← HW0.out]
  go_region_held3 (fun W => (W.cell? ⟨w.heap.size, 0, none⟩ = some (.slice pa n.pairs.length pc) ∧ W.cell? ⟨w.heap.size, 1, none⟩ = some (.slice sa n.seps.length sc) ∧ W.cell? ⟨w.heap.size, 2, none⟩ = some (.slice ka n.kids.length kc)))
    (first | exact SK.out _ ((((KT.out.of_nil (T := [w.heap.size + 1])).setCell _ (.inr (by simp))).setCell _ (.inr (by simp))).setCell _ (.inr (by simp))) | exact SK.out _ KT.out.of_nil | exact SK.out _ ((Kp.refl _ _).drew))
    (first
      | (refine step_app_pair rfl rfl (by simp [Act.eval, Act.put]) (Own.nil _ _ _) n.pairs.length (n.pairs.flatMap csP) (by simp [Act.eval, Act.put]) (src_pairs' (PsAt.kp HP.out (by first | exact KT.out | exact (Kp.refl [] _).drew) (by simp)) pc) (by omega) ?_; intro pb pd wP op kp0 np; have kp : Kp [] _ wP := kp0; have OP : Hid (Own wP 56 2 pb n.pairs.length pd (n.pairs.flatMap csP)) := Lib.hid (by simpa using op); have KP := Lib.hid kp; have NP := Lib.hid (fun g hg => (np g hg).resolve_left (by simp [ab])); have KT : Hid (Kp [] W0 wP) := Lib.hid (by first | exact KT.out.trans kp | exact ((Kp.refl [] _).drew).trans kp); have zP := kp.size; clear op kp kp0 np; obtain ⟨y0, y1, y2, y3, y4, y5, y6⟩ := SB.out _ KT.out)
      | (refine step_app_str rfl rfl (by simp [Act.eval, Act.put]) (Own.nil _ _ _) n.seps.length (n.seps.flatMap csS) (by simp [Act.eval, Act.put]) (src_texts' (SsAt.kp HS.out (by first | exact KT.out | exact (Kp.refl [] _).drew) (by simp)) sc) (by omega) ?_; intro sb sd wS op kp0 np; have kp : Kp [] _ wS := kp0; have OS : Hid (Own wS 9 1 sb n.seps.length sd (n.seps.flatMap csS)) := Lib.hid (by simpa using op); have KS := Lib.hid kp; have NS := Lib.hid (fun g hg => (np g hg).resolve_left (by simp [ab])); have KT : Hid (Kp [] W0 wS) := Lib.hid (by first | exact KT.out.trans kp | exact ((Kp.refl [] _).drew).trans kp); have zS := kp.size; clear op kp kp0 np; obtain ⟨y0, y1, y2, y3, y4, y5, y6⟩ := SB.out _ KT.out)
      | (refine step_app_kid rfl rfl (by simp [Act.eval, Act.put]) (Own.nil _ _ _) n.kids.length (n.kids.flatMap csK) (by simp [Act.eval, Act.put]) (src_kids' (KsAt.kp HK.out (by first | exact KT.out | exact (Kp.refl [] _).drew) (by simp)) kc) (by omega) ?_; intro kb kd wK op kp0 np; have kp : Kp [] _ wK := kp0; have OK : Hid (Own wK 59 33 kb n.kids.length kd (n.kids.flatMap csK)) := Lib.hid (by simpa using op); have KK := Lib.hid kp; have NK := Lib.hid (fun g hg => (np g hg).resolve_left (by simp [ab])); have KT : Hid (Kp [] W0 wK) := Lib.hid (by first | exact KT.out.trans kp | exact ((Kp.refl [] _).drew).trans kp); have zK := kp.size; clear op kp kp0 np; obtain ⟨y0, y1, y2, y3, y4, y5, y6⟩ := SB.out _ KT.out))
  all_goals go_wp2_with fail
  all_goals
    have hd : W0.drew.heap.size = W0.heap.size := rfl
    have hf := copy_fin (w := w) (W := W0) (B := w.heap.size + 1) (n := n) (pa := pb) (sa := sb) (ka := kb) (pc := pd) (sc := sd) (kc := kd) KW.out (by omega) HZ.out (B1.out.kp KT.out (by simp)) KT.out
      (by first | exact OP.out | exact Own.kp OP.out KS.out (by simp) | exact Own.kp OP.out KK.out (by simp) | exact Own.kp OP.out (KS.out.trans KK.out) (by simp) | exact Own.kp OP.out (KK.out.trans KS.out) (by simp))
      (by first | exact OS.out | exact Own.kp OS.out KP.out (by simp) | exact Own.kp OS.out KK.out (by simp) | exact Own.kp OS.out (KP.out.trans KK.out) (by simp) | exact Own.kp OS.out (KK.out.trans KP.out) (by simp))
      (by first | exact OK.out | exact Own.kp OK.out KP.out (by simp) | exact Own.kp OK.out KS.out (by simp) | exact Own.kp OK.out (KP.out.trans KS.out) (by simp) | exact Own.kp OK.out (KS.out.trans KP.out) (by simp))
      (by
        intro g hg
        simp only [List.mem_append] at hg
        rcases hg with (h | h) | h
        · have := NP.out g h; omega
        · have := NS.out g h; omega
        · have := NK.out g h; omega)
      (by
        intro g h
        have h1 := NP.out g h; have h2 := OP.out.lt g h
        exact ⟨fun h' => by have h3 := NS.out g h'; have h4 := OS.out.lt g h'; omega, fun h' => by have h3 := NK.out g h'; have h4 := OK.out.lt g h'; omega⟩)
      (by
        intro g h h'
        have h1 := NS.out g h; have h2 := OS.out.lt g h; have h3 := NK.out g h'; have h4 := OK.out.lt g h'
        omega)
      (a := .slice pb n.pairs.length pd) (b := .slice sb n.seps.length sd) (c := .slice kb n.kids.length kd) rfl
    exact nd_ret1 (w.heap.size + 1) rfl rfl hf.1 rfl ⟨pb, sb, kb, pd, sd, kd, rfl, hf.2.1, hf.2.2⟩

end Go.Proofs.YtemicgccgcmmbaaGreat

/- append onto an owned slice, and what becomes of the old one: it reads as before. -/
namespace Go.Proofs.YtemicgccgcmmbaaGreat
set_option linter.unusedVariables false
set_option linter.unusedSimpArgs false
open Go Go.RowKit

section
variable {P : Program} (w : World)

theorem run_app2 (t tx ty e : TypeId) (i : TypeInfo) (z : Value) (size bytes : Nat) (ht : P.underlying t = some (.slice e)) (hi : P.info? e = some i) (hz : i.zero = some z)
    (hsize : i.size = size) (hby : i.bytes = bytes) (hzs : z.cells.size = size)
    (a : Option Addr) (n c : Nat) (xs : List Value) (hown : Own w e size a n c xs) (x : Value) (m : Nat) (news : List Value) (hs : Src P size tx x m news w)
    (hbytes : (n + m) * bytes ≤ 140737488355328) (h63 : n + m ≤ maxLen) :
    ∃ a' c' w', (Builtin.append_ #[t, tx] ty #[.slice a n c, x]).run P w = .ok (.slice a' (n + m) c') w' ∧ Own w' e size a' (n + m) c' (xs ++ news) ∧ Kp (ab a) w w' ∧ (∀ g ∈ ab a', g ∈ ab a ∨ w.heap.size ≤ g) ∧ Own w' e size a n c xs := by
  subst hsize
  subst hby
  have hlen : (xs ++ news).length = (n + m) * i.size := by rw [List.length_append, hown.1, hs.newsLen, Nat.add_mul]
  have grown : ∀ (old : Nat) (a0 : Option Addr), c = old → old < n + m → (Builtin.firstCells i.size n (.slice a0 n old)).run P w.drew = .ok xs.toArray w.drew →
      a0 = a → ∃ a' c' w', (Builtin.append_ #[t, tx] ty #[.slice a n c, x]).run P w = .ok (.slice a' (n + m) c') w' ∧ Own w' e i.size a' (n + m) c' (xs ++ news) ∧ Kp (ab a) w w' ∧ (∀ g ∈ ab a', g ∈ ab a ∨ w.heap.size ≤ g) ∧ Own w' e i.size a n c xs := by
    intro old a0 hc ho hf ha
    subst hc ha
    have hr := run_append_grow_src w t tx ty e i z ht hi hz a0 n c xs hf x m news hs ho (by simp only [maxLen] at h63; omega) (growslice_fits (by omega) hbytes)
    have hge := grownCap_ge w (n + m) c e
    have hcm : grownCap w (n + m) c e ≤ maxLen := grownCap_le_maxLen w (n + m) c e h63
    refine ⟨_, _, _, hr, ⟨hlen, .inr ⟨w.heap.size, _, _, rfl, Nat.zero_le _, heap_alloc_new w.drew _, hge, hcm, ?_, ?_⟩⟩, ((Kp.refl _ _).drew).alloc _, fun g hg => .inr (by simp [ab] at hg; omega), hown.kp (((Kp.refl [] _).drew).alloc _) (by simp)⟩
    · simp only [Array.size_append, List.size_toArray, size_zeroCells, hzs, hlen, ← Nat.add_mul]
      congr 1
      omega
    · simp only [Array.toList_append]
      rw [← hlen]
      exact List.take_left
  rcases hown.block.2 with ⟨rfl, rfl, rfl⟩ | ⟨g, cur, rfl, hb, hnc, hcm, hcs, htake⟩
  · have hx : xs = [] := List.eq_nil_of_length_eq_zero (by simpa using hown.1)
    subst hx
    by_cases hm : m = 0
    · subst hm
      have hn : news = [] := List.eq_nil_of_length_eq_zero (by simpa using hs.newsLen)
      subst hn
      refine ⟨none, 0, w, ?_, Own.nil w e i.size, Kp.refl _ _, by simp [ab], hown⟩
      rcases hs.kind with ⟨e', hk⟩ | hk <;> simp [Builtin.append_, run_underlying ht, run_underlying hk, sizeOf, typeInfo, hi, hs.len, hs.cells]
    · exact grown 0 none rfl (by omega) (by simp [Builtin.firstCells]) rfl
  · by_cases hroom : n + m ≤ c
    · have hfit : n * i.size + news.length ≤ cur.size := by rw [hs.newsLen, hcs, ← Nat.add_mul]; exact Nat.mul_le_mul_right _ hroom
      have hst := run_storeCells_at P g (n * i.size) e news 0 cur w hb (by simpa using hfit) hs.one
      simp only [Nat.add_zero] at hst
      refine ⟨some ⟨g, 0, none⟩, c, w.setRow g (cur.toList.take (n * i.size) ++ news ++ cur.toList.drop (n * i.size + news.length)).toArray, ?_, ⟨hlen, .inr ⟨g, c, (cur.toList.take (n * i.size) ++ news ++ cur.toList.drop (n * i.size + news.length)).toArray, rfl, Nat.zero_le _, setRow_heap w g cur _ e _ hb, hroom, hcm, ?_, ?_⟩⟩, (Kp.refl _ _).setRow _ _ (.inr (by simp [ab])), fun g' hg' => .inl hg', ?_⟩
      · rcases hs.kind with ⟨e', hk⟩ | hk <;> simp [Builtin.append_, run_underlying ht, run_underlying hk, sizeOf, typeInfo, hi, hs.len, hroom, hs.cells, Addr.add_lit, hst]
      · simp only [List.size_toArray, List.length_append, List.length_take, List.length_drop, Array.length_toList]
        omega
      · rw [htake, ← hlen]
        exact List.take_left
      · refine ⟨hown.1, .inr ⟨g, c, (cur.toList.take (n * i.size) ++ news ++ cur.toList.drop (n * i.size + news.length)).toArray, rfl, Nat.zero_le _, setRow_heap w g cur _ e _ hb, hnc, hcm, ?_, ?_⟩⟩
        · simp only [List.size_toArray, List.length_append, List.length_take, List.length_drop, Array.length_toList]
          omega
        · rw [htake, ← hown.1, List.append_assoc]
          exact List.take_left
    · have holds : ∀ j u, xs[j]? = some u → w.drew.cell? ((⟨g, 0, none⟩ : Addr).add j) = some u := hown.cells rfl
      exact grown c (some ⟨g, 0, none⟩) rfl (by omega) (run_firstCells_some w.drew i.size n ⟨g, 0, none⟩ n c xs hown.1 holds) rfl

theorem wp_app2 {o : Oper} {A : Act} {K : Act → World → Prop} {Q : Exit → Act → World → Prop} (s x : Operand) (t tx : TypeId)
    (ho : o.op = .call { callee := .builtin .append, args := #[s, x], argTypes := #[t, tx] })
    (e : TypeId) (i : TypeInfo) (z : Value) (size bytes : Nat) (ht : P.underlying t = some (.slice e)) (hi : P.info? e = some i) (hz : i.zero = some z)
    (hsize : i.size = size) (hby : i.bytes = bytes) (hzs : z.cells.size = size)
    (a : Option Addr) (n c : Nat) (xs : List Value) (hs : A.eval s = .slice a n c) (hown : Own w e size a n c xs) (m : Nat) (news : List Value) (hsrc : Src P size tx (A.eval x) m news w)
    (hbytes : (n + m) * bytes ≤ 140737488355328) (h63 : n + m ≤ maxLen)
    (h : ∀ a' c' w', Own w' e size a' (n + m) c' (xs ++ news) → Kp (ab a) w w' → (∀ g ∈ ab a', g ∈ ab a ∨ w.heap.size ≤ g) → Own w' e size a n c xs → K (A.put o.dst (.slice a' (n + m) c')) w') : o.wp P A w K Q := by
  obtain ⟨a', c', w', hr, h2, h3, h4, h5⟩ := run_app2 (P := P) w t tx o.type e i z size bytes ht hi hz hsize hby hzs a n c xs hown _ m news hsrc hbytes h63
  unfold Oper.wp execOp
  simp only [ho, resolve, invoke, builtin, Sem.run_bind, Sem.run_pure, Result.andThen_ok, List.map_toArray, List.map_cons, List.map_nil, hs, hr]
  exact h a' c' w' h2 h3 h4 h5

theorem wpList_app2 {ops : Array Oper} {rest : List Oper} {o : Oper} {A : Act} {Q : Exit → Act → World → Prop} (hgd : o.guard = none) (s x : Operand) (t tx : TypeId)
    (ho : o.op = .call { callee := .builtin .append, args := #[s, x], argTypes := #[t, tx] })
    (e : TypeId) (i : TypeInfo) (z : Value) (size bytes : Nat) (ht : P.underlying t = some (.slice e)) (hi : P.info? e = some i) (hz : i.zero = some z)
    (hsize : i.size = size) (hby : i.bytes = bytes) (hzs : z.cells.size = size)
    (a : Option Addr) (n c : Nat) (xs : List Value) (hs : A.eval s = .slice a n c) (hown : Own w e size a n c xs) (m : Nat) (news : List Value) (hsrc : Src P size tx (A.eval x) m news w)
    (hbytes : (n + m) * bytes ≤ 140737488355328) (h63 : n + m ≤ maxLen)
    (h : ∀ a' c' w', Own w' e size a' (n + m) c' (xs ++ news) → Kp (ab a) w w' → (∀ g ∈ ab a', g ∈ ab a ∨ w.heap.size ≤ g) → Own w' e size a n c xs → wpList P ops Q rest (A.put o.dst (.slice a' (n + m) c')) w') : wpList P ops Q (o :: rest) A w :=
  wpList_plain hgd fun _ hK => wp_app2 w s x t tx ho e i z size bytes ht hi hz hsize hby hzs a n c xs hs hown m news hsrc hbytes h63 fun a' c' w' h2 h3 h4 h5 => hK _ _ (h a' c' w' h2 h3 h4 h5)
end

theorem wpList_app2_pair {w : World} {ops : Array Oper} {rest : List Oper} {o : Oper} {A : Act} {Q : Exit → Act → World → Prop} (hgd : o.guard = none) {s x : Operand} {tx : TypeId}
    (ho : o.op = .call { callee := .builtin .append, args := #[s, x], argTypes := #[24, tx] })
    {a : Option Addr} {n c : Nat} {xs : List Value} (hs : A.eval s = .slice a n c) (hown : Own w 56 2 a n c xs) (m : Nat) (news : List Value) (hsrc : Src Tryz.prog 2 tx (A.eval x) m news w)
    (h63 : n + m ≤ 4398046511104)
    (h : ∀ a' c' w', Own w' 56 2 a' (n + m) c' (xs ++ news) → Kp (ab a) w w' → (∀ g ∈ ab a', g ∈ ab a ∨ w.heap.size ≤ g) → Own w' 56 2 a n c xs → wpList Tryz.prog ops Q rest (A.put o.dst (.slice a' (n + m) c')) w') : wpList Tryz.prog ops Q (o :: rest) A w := by
  obtain ⟨i0, hi, hz0, hz1, hz2⟩ := info_parts Tryz.infoPair
  exact wpList_app2 w hgd s x 24 tx ho 56 i0 (.agg #[.string ⟨#[]⟩, .string ⟨#[]⟩]) 2 32 Tryz.underlying24 hi hz0 hz1 hz2 rfl a n c xs hs hown m news hsrc (by omega) (by unfold maxLen; omega) h

theorem wpList_app2_kid {w : World} {ops : Array Oper} {rest : List Oper} {o : Oper} {A : Act} {Q : Exit → Act → World → Prop} (hgd : o.guard = none) {s x : Operand} {tx : TypeId}
    (ho : o.op = .call { callee := .builtin .append, args := #[s, x], argTypes := #[26, tx] })
    {a : Option Addr} {n c : Nat} {xs : List Value} (hs : A.eval s = .slice a n c) (hown : Own w 59 33 a n c xs) (m : Nat) (news : List Value) (hsrc : Src Tryz.prog 33 tx (A.eval x) m news w)
    (h63 : n + m ≤ 3909374676453)
    (h : ∀ a' c' w', Own w' 59 33 a' (n + m) c' (xs ++ news) → Kp (ab a) w w' → (∀ g ∈ ab a', g ∈ ab a ∨ w.heap.size ≤ g) → Own w' 59 33 a n c xs → wpList Tryz.prog ops Q rest (A.put o.dst (.slice a' (n + m) c')) w') : wpList Tryz.prog ops Q (o :: rest) A w := by
  obtain ⟨i0, hi, hz0, hz1, hz2⟩ := info_parts Tryz.infoKid
  exact wpList_app2 w hgd s x 26 tx ho 59 i0 (.agg Kd.zero.c) 33 36 Tryz.underlying26 hi hz0 hz1 hz2 (Kd.c_size Kd.zero) a n c xs hs hown m news hsrc (by omega) (by unfold maxLen; omega) h

theorem wpList_app2_str {w : World} {ops : Array Oper} {rest : List Oper} {o : Oper} {A : Act} {Q : Exit → Act → World → Prop} (hgd : o.guard = none) {s x : Operand} {tx : TypeId}
    (ho : o.op = .call { callee := .builtin .append, args := #[s, x], argTypes := #[25, tx] })
    {a : Option Addr} {n c : Nat} {xs : List Value} (hs : A.eval s = .slice a n c) (hown : Own w 9 1 a n c xs) (m : Nat) (news : List Value) (hsrc : Src Tryz.prog 1 tx (A.eval x) m news w)
    (h63 : n + m ≤ 8796093022208)
    (h : ∀ a' c' w', Own w' 9 1 a' (n + m) c' (xs ++ news) → Kp (ab a) w w' → (∀ g ∈ ab a', g ∈ ab a ∨ w.heap.size ≤ g) → Own w' 9 1 a n c xs → wpList Tryz.prog ops Q rest (A.put o.dst (.slice a' (n + m) c')) w') : wpList Tryz.prog ops Q (o :: rest) A w := by
  obtain ⟨i0, hi, hz0, hz1, hz2⟩ := info_parts Tryz.infoStr
  exact wpList_app2 w hgd s x 25 tx ho 9 i0 (.string ⟨#[]⟩) 1 16 Tryz.underlying25 hi hz0 hz1 hz2 rfl a n c xs hs hown m news hsrc (by omega) (by unfold maxLen; omega) h

end Go.Proofs.YtemicgccgcmmbaaGreat

/- lent: a node in lists of its own, with marks behind them. -/
namespace Go.Proofs.YtemicgccgcmmbaaGreat
set_option linter.unusedVariables false
set_option linter.unusedSimpArgs false
open Go Go.RowKit

def mkB : Bs := [109, 97, 114, 107]
def kMark : Kd := ⟨77, Dg.zero⟩
def Nd.mk1 (n : Nd) : Nd := ⟨n.pairs ++ [(mkB, [])], n.seps ++ [mkB], n.kids ++ [kMark]⟩

/-- What a law that holds up to a bulk asks of a node. -/
structure NdFew (n : Nd) : Prop where
  np : n.pairs.length ≤ 1048576
  ns : n.seps.length ≤ 1048576
  nk : n.kids.length ≤ 1048576

/-- A node in lists of its own, its three slices in a block. -/
structure LtI (w wr : World) (lo B3 : Nat) (nd : Array Value) (pb sb kb : Option Addr) (pd sd kd : Nat) (m : Nd) : Prop where
  kp : Kp [] w wr
  b0 : Blk wr w.heap.size 28 nd
  b1 : Blk wr (w.heap.size + 1) 28 #[.slice none 0 0, .slice none 0 0, .slice none 0 0]
  b3 : Blk wr B3 28 #[.slice pb m.pairs.length pd, .slice sb m.seps.length sd, .slice kb m.kids.length kd]
  own : Own3 wr lo pb sb kb pd sd kd m
  lw : w.heap.size + 1 < lo
  b3l : lo ≤ B3
  hi : ∀ g ∈ ab pb ++ ab sb ++ ab kb, g ≠ B3

theorem LtI.mid {w wr : World} {lo B3 : Nat} {nd : Array Value} {pb sb kb : Option Addr} {pd sd kd : Nat} {m : Nd} (h : LtI w wr lo B3 nd pb sb kb pd sd kd m) {S : List Nat} {o : Obj} {w2 : World} (k : Kp S (wr.alloc o) w2) (hs : ∀ g ∈ S, g ∈ ab pb ++ ab sb ++ ab kb) :
    Blk w2 B3 28 #[.slice pb m.pairs.length pd, .slice sb m.seps.length sd, .slice kb m.kids.length kd] :=
  (h.b3.alloc o).kp k (fun e => h.hi B3 (hs _ e) rfl)
theorem LtI.facts {w2 : World} {B3 : Nat} {x y z : Value} (h : Blk w2 B3 28 #[x, y, z]) :
    w2.cell? ⟨B3, 0, none⟩ = some x ∧ w2.cell? ⟨B3, 1, none⟩ = some y ∧ w2.cell? ⟨B3, 2, none⟩ = some z ∧ w2.frozen? ⟨B3, 0, none⟩ = false ∧ w2.frozen? ⟨B3, 1, none⟩ = false ∧ w2.frozen? ⟨B3, 2, none⟩ = false ∧ B3 < w2.heap.size :=
  ⟨h.cell 0, h.cell 1, h.cell 2, h.frozen 0, h.frozen 1, h.frozen 2, h.lt⟩

/-- A list has grown (or lies elsewhere now), and is written into the node. -/
theorem LtI.step {w wr : World} {lo B3 : Nat} {nd : Array Value} {pb sb kb : Option Addr} {pd sd kd : Nat} {m : Nd} (h : LtI w wr lo B3 nd pb sb kb pd sd kd m) {S : List Nat} {o : Obj} {w2 : World} (k : Kp S (wr.alloc o) w2) (hs : ∀ g ∈ S, g ∈ ab pb ++ ab sb ++ ab kb)
    {pb' sb' kb' : Option Addr} {pd' sd' kd' : Nat} {m' : Nd} {f : Nat} {v : Value}
    (hb : Blk (w2.setCell ⟨B3, f, none⟩ v) B3 28 #[.slice pb' m'.pairs.length pd', .slice sb' m'.seps.length sd', .slice kb' m'.kids.length kd'])
    (o1 : Own w2 56 2 pb' m'.pairs.length pd' (m'.pairs.flatMap csP)) (o2 : Own w2 9 1 sb' m'.seps.length sd' (m'.seps.flatMap csS)) (o3 : Own w2 59 33 kb' m'.kids.length kd' (m'.kids.flatMap csK))
    (hn : ∀ g ∈ ab pb' ++ ab sb' ++ ab kb', g ∈ ab pb ++ ab sb ++ ab kb ∨ (wr.alloc o).heap.size ≤ g) (d1 : ∀ g ∈ ab pb', g ∉ ab sb' ∧ g ∉ ab kb') (d2 : ∀ g ∈ ab sb', g ∉ ab kb') :
    LtI w (w2.setCell ⟨B3, f, none⟩ v) lo B3 nd pb' sb' kb' pd' sd' kd' m' := by
  have hlo : ∀ g ∈ ab pb' ++ ab sb' ++ ab kb', lo ≤ g ∧ g ≠ B3 := by
    intro g hg
    have hz := h.b3.lt
    have hb3 := h.b3l
    have hsz : (wr.alloc o).heap.size = wr.heap.size + 1 := by simp
    rcases hn g hg with h1 | h1
    · exact ⟨h.own.lo g h1, h.hi g h1⟩
    · exact ⟨by omega, by omega⟩
  have kv : Kp [B3] w2 (w2.setCell ⟨B3, f, none⟩ v) := (Kp.refl [B3] w2).setCell _ (.inr (by simp))
  have hlw := h.lw
  have hb3 := h.b3l
  have hS : ∀ x, x < lo → x ∉ S := fun x hx e => by have := h.own.lo x (hs x e); omega
  refine ⟨?_, ((h.b0.alloc o).kp k (hS _ (by omega))).kp kv (by simp; omega), ((h.b1.alloc o).kp k (hS _ (by omega))).kp kv (by simp; omega), hb, ?_, h.lw, h.b3l, fun g hg => (hlo g hg).2⟩
  · refine ((h.kp.alloc o).from k (fun g hg => .inl ?_)).from kv (fun g hg => .inl ?_)
    · have := h.own.lo g (hs g hg); omega
    · simp at hg; omega
  · exact Own3.kp ⟨o1, o2, o3, fun g hg => (hlo g hg).1, d1, d2⟩ kv (fun g hg => by have := (hlo g hg).2; simpa using this)

theorem LtI.start {w W w1 : World} {nd : Array Value} {pb sb kb : Option Addr} {pd sd kd : Nat} {n : Nd} (h0 : Blk W w.heap.size 28 nd) (h1 : Blk W (w.heap.size + 1) 28 #[.slice none 0 0, .slice none 0 0, .slice none 0 0]) (k0 : Kp [] w W) (k : Kp [] W w1) (ow : Own3 w1 W.heap.size pb sb kb pd sd kd n) :
    LtI w (w1.alloc (.cells #[.slice pb n.pairs.length pd, .slice sb n.seps.length sd, .slice kb n.kids.length kd] 28)) W.heap.size w1.heap.size nd pb sb kb pd sd kd n := by
  have ka : Kp [] w1 (w1.alloc (.cells #[.slice pb n.pairs.length pd, .slice sb n.seps.length sd, .slice kb n.kids.length kd] 28)) := (Kp.refl [] w1).alloc _
  refine ⟨(k0.trans k).trans ka, (h0.kp k (by simp)).kp ka (by simp), (h1.kp k (by simp)).kp ka (by simp), Blk.new w1 _ _, Own3.kp ow ka (by simp), h1.lt, k.size, ?_⟩
  intro g hg
  simp only [List.mem_append] at hg
  rcases hg with (hg | hg) | hg
  · have := ow.ps.lt g hg; omega
  · have := ow.ss.lt g hg; omega
  · have := ow.ks.lt g hg; omega

def LentPost (n : Nd) (w : World) (e : Ending) (w' : World) : Prop :=
  ∃ gp gs gk pc sc kc, e = .returned (.agg #[.slice (some ⟨gp, 0, none⟩) n.pairs.length pc, .slice (some ⟨gs, 0, none⟩) n.seps.length sc, .slice (some ⟨gk, 0, none⟩) n.kids.length kc]) ∧ Own3 w' w.heap.size (some ⟨gp, 0, none⟩) (some ⟨gs, 0, none⟩) (some ⟨gk, 0, none⟩) pc sc kc n.mk1 ∧ Kp [] w w'

theorem LtI.pairs {w wr : World} {lo B3 : Nat} {nd : Array Value} {pb sb kb : Option Addr} {pd sd kd : Nat} {m : Nd} (h : LtI w wr lo B3 nd pb sb kb pd sd kd m) {o : Obj} {w2 : World} (k : Kp (ab pb) (wr.alloc o) w2) {pb' : Option Addr} {pd' : Nat} {x : Pr}
    (ow : Own w2 56 2 pb' (m.pairs.length + 1) pd' (m.pairs.flatMap csP ++ csP x)) (hn : ∀ g ∈ ab pb', g ∈ ab pb ∨ (wr.alloc o).heap.size ≤ g) :
    LtI w (w2.setCell ⟨B3, 0, none⟩ (.slice pb' (m.pairs.length + 1) pd')) lo B3 nd pb' sb kb pd' sd kd ⟨m.pairs ++ [x], m.seps, m.kids⟩ := by
  have hm := h.mid k (fun g hg => by simp [hg])
  have hz : (wr.alloc o).heap.size = wr.heap.size + 1 := by simp
  have k0 : Kp [] wr (wr.alloc o) := (Kp.refl [] wr).alloc o
  refine h.step k (fun g hg => by simp [hg]) ?_ ?_ ((h.own.ss.kp k0 (by simp)).kp k (fun g hg h' => (h.own.d1 g h').1 hg)) ((h.own.ks.kp k0 (by simp)).kp k (fun g hg h' => (h.own.d1 g h').2 hg)) ?_ ?_ h.own.d2
  · have := hm.set 0 (.slice pb' (m.pairs.length + 1) pd'); simpa using this
  · simpa [List.flatMap_append] using ow
  · intro g hg
    simp only [List.mem_append] at hg ⊢
    rcases hg with (hg | hg) | hg
    · rcases hn g hg with h1 | h1
      · exact .inl (.inl (.inl h1))
      · exact .inr h1
    · exact .inl (.inl (.inr hg))
    · exact .inl (.inr hg)
  · intro g hg
    rcases hn g hg with h1 | h1
    · exact h.own.d1 g h1
    · exact ⟨fun e => by have := h.own.ss.lt g e; omega, fun e => by have := h.own.ks.lt g e; omega⟩
theorem LtI.texts {w wr : World} {lo B3 : Nat} {nd : Array Value} {pb sb kb : Option Addr} {pd sd kd : Nat} {m : Nd} (h : LtI w wr lo B3 nd pb sb kb pd sd kd m) {o : Obj} {w2 : World} (k : Kp (ab sb) (wr.alloc o) w2) {sb' : Option Addr} {sd' : Nat} {x : Bs}
    (ow : Own w2 9 1 sb' (m.seps.length + 1) sd' (m.seps.flatMap csS ++ csS x)) (hn : ∀ g ∈ ab sb', g ∈ ab sb ∨ (wr.alloc o).heap.size ≤ g) :
    LtI w (w2.setCell ⟨B3, 1, none⟩ (.slice sb' (m.seps.length + 1) sd')) lo B3 nd pb sb' kb pd sd' kd ⟨m.pairs, m.seps ++ [x], m.kids⟩ := by
  have hm := h.mid k (fun g hg => by simp [hg])
  have hz : (wr.alloc o).heap.size = wr.heap.size + 1 := by simp
  have k0 : Kp [] wr (wr.alloc o) := (Kp.refl [] wr).alloc o
  refine h.step k (fun g hg => by simp [hg]) ?_ ((h.own.ps.kp k0 (by simp)).kp k (fun g hg h' => (h.own.d1 g hg).1 h')) ?_ ((h.own.ks.kp k0 (by simp)).kp k (fun g hg h' => h.own.d2 g h' hg)) ?_ ?_ ?_
  · have := hm.set 1 (.slice sb' (m.seps.length + 1) sd'); simpa using this
  · simpa [List.flatMap_append] using ow
  · intro g hg
    simp only [List.mem_append] at hg ⊢
    rcases hg with (hg | hg) | hg
    · exact .inl (.inl (.inl hg))
    · rcases hn g hg with h1 | h1
      · exact .inl (.inl (.inr h1))
      · exact .inr h1
    · exact .inl (.inr hg)
  · intro g hg
    refine ⟨fun e => ?_, (h.own.d1 g hg).2⟩
    rcases hn g e with h1 | h1
    · exact (h.own.d1 g hg).1 h1
    · have := h.own.ps.lt g hg; omega
  · intro g hg
    rcases hn g hg with h1 | h1
    · exact h.own.d2 g h1
    · exact fun e => by have := h.own.ks.lt g e; omega
theorem LtI.kids {w wr : World} {lo B3 : Nat} {nd : Array Value} {pb sb kb : Option Addr} {pd sd kd : Nat} {m : Nd} (h : LtI w wr lo B3 nd pb sb kb pd sd kd m) {o : Obj} {w2 : World} (k : Kp (ab kb) (wr.alloc o) w2) {kb' : Option Addr} {kd' : Nat} {x : Kd}
    (ow : Own w2 59 33 kb' (m.kids.length + 1) kd' (m.kids.flatMap csK ++ csK x)) (hn : ∀ g ∈ ab kb', g ∈ ab kb ∨ (wr.alloc o).heap.size ≤ g) :
    LtI w (w2.setCell ⟨B3, 2, none⟩ (.slice kb' (m.kids.length + 1) kd')) lo B3 nd pb sb kb' pd sd kd' ⟨m.pairs, m.seps, m.kids ++ [x]⟩ := by
  have hm := h.mid k (fun g hg => by simp [hg])
  have hz : (wr.alloc o).heap.size = wr.heap.size + 1 := by simp
  have k0 : Kp [] wr (wr.alloc o) := (Kp.refl [] wr).alloc o
  refine h.step k (fun g hg => by simp [hg]) ?_ ((h.own.ps.kp k0 (by simp)).kp k (fun g hg h' => (h.own.d1 g hg).2 h')) ((h.own.ss.kp k0 (by simp)).kp k (fun g hg h' => h.own.d2 g hg h')) ?_ ?_ ?_ ?_
  · have := hm.set 2 (.slice kb' (m.kids.length + 1) kd'); simpa using this
  · simpa [List.flatMap_append] using ow
  · intro g hg
    simp only [List.mem_append] at hg ⊢
    rcases hg with (hg | hg) | hg
    · exact .inl (.inl (.inl hg))
    · exact .inl (.inl (.inr hg))
    · rcases hn g hg with h1 | h1
      · exact .inl (.inr h1)
      · exact .inr h1
  · intro g hg
    refine ⟨(h.own.d1 g hg).1, fun e => ?_⟩
    rcases hn g e with h1 | h1
    · exact (h.own.d1 g hg).2 h1
    · have := h.own.ps.lt g hg; omega
  · intro g hg e
    rcases hn g e with h1 | h1
    · exact h.own.d2 g hg h1
    · have := h.own.ss.lt g hg; omega

end Go.Proofs.YtemicgccgcmmbaaGreat

/- lent: the walk. -/
namespace Go.Proofs.YtemicgccgcmmbaaGreat
set_option linter.unusedVariables false
set_option linter.unusedSimpArgs false
open Go Go.RowKit

theorem own_some {w : World} {e : TypeId} {size : Nat} {a : Option Addr} {n c : Nat} {xs : List Value} (h : Own w e size a n c xs) (h0 : 0 < n) : ∃ g, a = some ⟨g, 0, none⟩ ∧ n ≤ c ∧ c ≤ maxLen := by
  rcases h.block.2 with ⟨_, h1, _⟩ | ⟨g, cur, h1, hb, h2, h3, _⟩
  · omega
  · exact ⟨g, h1, h2, h3⟩
theorem mark_str : (⟨#[109, 97, 114, 107]⟩ : ByteArray) = ⟨mkB.toArray⟩ := rfl
set_option maxHeartbeats 4000000 in
set_option maxRecDepth 100000 in
theorem lent_any (pa sa ka : Option Addr) (pc sc kc : Nat) (n : Nd) (w : World) (h : NdAt w pa sa ka n) (ho : NdOk n) (hf : NdFew n) :
    Calls Tryz.prog 21 #[.agg #[.slice pa n.pairs.length pc, .slice sa n.seps.length sc, .slice ka n.kids.length kc]] w (LentPost n w) := by
  have fp := hf.np; have fs := hf.ns; have fk := hf.nk
  obtain ⟨W0, hW0⟩ : ∃ W0, W0 = (w.alloc (.cells #[.slice pa n.pairs.length pc, .slice sa n.seps.length sc, .slice ka n.kids.length kc] 28)).alloc (.cells #[.slice none 0 0, .slice none 0 0, .slice none 0 0] 28) := ⟨_, rfl⟩
  have kw : Kp [] w W0 := by rw [hW0]; exact ((Kp.refl [] w).alloc _).alloc _
  have b0 : Blk W0 w.heap.size 28 #[.slice pa n.pairs.length pc, .slice sa n.seps.length sc, .slice ka n.kids.length kc] := by rw [hW0]; exact (Blk.new w _ _).alloc _
  have b1 : Blk W0 (w.heap.size + 1) 28 #[.slice none 0 0, .slice none 0 0, .slice none 0 0] := by
    rw [hW0]
    have h := Blk.new (w.alloc (.cells #[.slice pa n.pairs.length pc, .slice sa n.seps.length sc, .slice ka n.kids.length kc] 28)) 28 #[.slice none 0 0, .slice none 0 0, .slice none 0 0]
    simpa using h
  have KW := Lib.hid kw; have B0 := Lib.hid b0; have B1 := Lib.hid b1; have H := Lib.hid (h.kp0 kw); have HO := Lib.hid ho
  have HW0 := Lib.hid hW0
  clear h kw b0 b1 ho hf hW0
  go_enter Tryz.func21, Tryz.ntmps21
  go_wp2_with fail
  rw [← HW0.out]
  refine (refCopy_any _ _ _ _ _ _ n _ H.out HO.out).mono ?_
  rintro e w1 ⟨pb, sb, kb, pd, sd, kd, rfl, ow, k1⟩
  have L1 := Lib.hid (LtI.start B0.out B1.out KW.out k1 ow)
  have z1 := ow.ps.block.1
  clear ow k1
  go_wp2_with (first
    | (at_builtin; refine wpList_app2_pair rfl rfl rfl (L1.out.own.ps.kp ((Kp.refl [] _).alloc _) (by simp)) 1 _ (src_row Tryz.underlying24 _ _ _ _ (by simp) rfl (by simp [Value.oneCell'])) (by omega) ?_; intro pb2 pd2 w2 o2 k2 n2 _o; have L2 := Lib.hid (LtI.pairs (x := (mkB, [])) L1.out k2 o2 n2); obtain ⟨y0, y1, y2, y3, y4, y5, y6⟩ := LtI.facts (L1.out.mid k2 (fun g hg => by simp [hg])); clear o2 k2 n2)
    | (at_builtin; refine wpList_app2_str rfl rfl rfl (L2.out.own.ss.kp ((Kp.refl [] _).alloc _) (by simp)) 1 _ (src_row Tryz.underlying25 _ _ _ _ (by simp) rfl (by simp [Value.oneCell'])) (by omega) ?_; intro sb2 sd2 w3 o3 k3 n3 _o; have L3 := Lib.hid (LtI.texts (x := mkB) L2.out k3 o3 n3); obtain ⟨y0, y1, y2, y3, y4, y5, y6⟩ := LtI.facts (L2.out.mid k3 (fun g hg => by simp [hg])); clear o3 k3 n3)
    | (at_builtin; refine wpList_app2_kid rfl rfl rfl (L3.out.own.ks.kp ((Kp.refl [] _).alloc _) (by simp)) 1 _ (src_row Tryz.underlying26 _ _ _ _ (by simp) (Kd.c_size kMark) (Kd.c_one kMark)) (by omega) ?_; intro kb2 kd2 w4 o4 k4 n4 _o; have L4 := Lib.hid (LtI.kids (x := kMark) L3.out k4 o4 n4); obtain ⟨y0, y1, y2, y3, y4, y5, y6⟩ := LtI.facts (L3.out.mid k4 (fun g hg => by simp [hg])); clear o4 k4 n4))
  clear y0 y1 y2 y3 y4 y5 y6
  obtain ⟨gp, rfl, hc1, hm1⟩ := own_some L4.out.own.ps (by simp)
  obtain ⟨gs, rfl, hc2, hm2⟩ := own_some L4.out.own.ss (by simp)
  obtain ⟨gk, rfl, hc3, hm3⟩ := own_some L4.out.own.ks (by simp)
  simp only [List.length_append, List.length_cons, List.length_nil, Nat.zero_add] at hc1 hc2 hc3
  obtain ⟨W5, hW5⟩ : ∃ W, W = w4.setCell ⟨w1.heap.size, 2, none⟩ (.slice (some ⟨gk, 0, none⟩) (n.kids.length + 1) kd2) := ⟨_, rfl⟩
  have L6 : Hid (LtI w W5 W0.heap.size w1.heap.size #[.slice pa n.pairs.length pc, .slice sa n.seps.length sc, .slice ka n.kids.length kc] (some ⟨gp, 0, none⟩) (some ⟨gs, 0, none⟩) (some ⟨gk, 0, none⟩) pd2 sd2 kd2 n.mk1) := by rw [hW5]; exact L4
  rw [← hW5]
  clear L1 L2 L3 L4 hW5
  have ln1 : n.mk1.pairs.length = n.pairs.length + 1 := by simp [Nd.mk1]
  have ln2 : n.mk1.seps.length = n.seps.length + 1 := by simp [Nd.mk1]
  have ln3 : n.mk1.kids.length = n.kids.length + 1 := by simp [Nd.mk1]
  have hne : w1.heap.size ≠ w.heap.size + 1 := by have := L6.out.lw; have := L6.out.b3l; omega
  have SK : Hid (∀ W : World, Kp [w.heap.size + 1] W5 W → (W.cell? ⟨w.heap.size, 0, none⟩ = some (.slice pa n.pairs.length pc) ∧ W.cell? ⟨w.heap.size, 1, none⟩ = some (.slice sa n.seps.length sc) ∧ W.cell? ⟨w.heap.size, 2, none⟩ = some (.slice ka n.kids.length kc) ∧ W.cell? ⟨w1.heap.size, 0, none⟩ = some (.slice (some ⟨gp, 0, none⟩) (n.pairs.length + 1) pd2) ∧ W.cell? ⟨w1.heap.size, 1, none⟩ = some (.slice (some ⟨gs, 0, none⟩) (n.seps.length + 1) sd2) ∧ W.cell? ⟨w1.heap.size, 2, none⟩ = some (.slice (some ⟨gk, 0, none⟩) (n.kids.length + 1) kd2))) := Lib.hid (fun W k => by
    have c0 := L6.out.b0.kp k (by simp)
    have c3 := L6.out.b3.kp k (by simpa using hne)
    rw [ln1, ln2, ln3] at c3
    exact ⟨c0.cell 0, c0.cell 1, c0.cell 2, c3.cell 0, c3.cell 1, c3.cell 2⟩)
  obtain ⟨y0, y1, y2, y3, y4, y5, y6⟩ := LtI.facts L6.out.b1
  clear ln1 ln2 ln3
  have i1 : (n.pairs.length : Int) ≤ (pd2 : Int) := by omega
  have i2 : (n.seps.length : Int) ≤ (sd2 : Int) := by omega
  have i3 : (n.kids.length : Int) ≤ (kd2 : Int) := by omega
  have j1 : (0 : Int) ≤ (n.pairs.length : Int) := by omega
  have j2 : (0 : Int) ≤ (n.seps.length : Int) := by omega
  have j3 : (0 : Int) ≤ (n.kids.length : Int) := by omega
  have l1 : n.pairs.length ≤ pd2 := by omega
  have l2 : n.seps.length ≤ sd2 := by omega
  have l3 : n.kids.length ≤ kd2 := by omega
  go_region_held3 (fun W => W.cell? ⟨w.heap.size, 0, none⟩ = some (.slice pa n.pairs.length pc) ∧ W.cell? ⟨w.heap.size, 1, none⟩ = some (.slice sa n.seps.length sc) ∧ W.cell? ⟨w.heap.size, 2, none⟩ = some (.slice ka n.kids.length kc) ∧ W.cell? ⟨w1.heap.size, 0, none⟩ = some (.slice (some ⟨gp, 0, none⟩) (n.pairs.length + 1) pd2) ∧ W.cell? ⟨w1.heap.size, 1, none⟩ = some (.slice (some ⟨gs, 0, none⟩) (n.seps.length + 1) sd2) ∧ W.cell? ⟨w1.heap.size, 2, none⟩ = some (.slice (some ⟨gk, 0, none⟩) (n.kids.length + 1) kd2))
    (first | exact SK.out _ ((((Kp.refl [w.heap.size + 1] W5).drew.setCell _ (.inr (by simp))).setCell _ (.inr (by simp))).setCell _ (.inr (by simp))) | exact SK.out _ ((Kp.refl _ _).drew))
    (fail)
  all_goals go_wp2_with fail
  all_goals
    have kG : Kp [w.heap.size + 1] W5 (((W5.setCell ⟨w.heap.size + 1, 0, none⟩ (.slice (some ⟨gp, 0, none⟩) n.pairs.length pd2)).setCell ⟨w.heap.size + 1, 1, none⟩ (.slice (some ⟨gs, 0, none⟩) n.seps.length sd2)).setCell ⟨w.heap.size + 1, 2, none⟩ (.slice (some ⟨gk, 0, none⟩) n.kids.length kd2)).drew := ((((Kp.refl [w.heap.size + 1] W5).setCell _ (.inr (by simp))).setCell _ (.inr (by simp))).setCell _ (.inr (by simp))).drew
    have hb : Blk (((W5.setCell ⟨w.heap.size + 1, 0, none⟩ (.slice (some ⟨gp, 0, none⟩) n.pairs.length pd2)).setCell ⟨w.heap.size + 1, 1, none⟩ (.slice (some ⟨gs, 0, none⟩) n.seps.length sd2)).setCell ⟨w.heap.size + 1, 2, none⟩ (.slice (some ⟨gk, 0, none⟩) n.kids.length kd2)).drew (w.heap.size + 1) 28 #[.slice (some ⟨gp, 0, none⟩) n.pairs.length pd2, .slice (some ⟨gs, 0, none⟩) n.seps.length sd2, .slice (some ⟨gk, 0, none⟩) n.kids.length kd2] := by
      have h := (((L6.out.b1.set 0 (.slice (some ⟨gp, 0, none⟩) n.pairs.length pd2)).set 1 (.slice (some ⟨gs, 0, none⟩) n.seps.length sd2)).set 2 (.slice (some ⟨gk, 0, none⟩) n.kids.length kd2)).drew
      simpa using h
    have hlw := L6.out.lw
    refine nd_ret1 (w.heap.size + 1) rfl rfl hb rfl ⟨gp, gs, gk, pd2, sd2, kd2, rfl, Own3.le (L6.out.own.kp kG (fun g hg => by have := L6.out.own.lo g hg; simp; omega)) (by omega), L6.out.kp.from kG (fun g hg => by simp at hg; subst hg; exact .inl (by omega))⟩

end Go.Proofs.YtemicgccgcmmbaaGreat

/- Pairs are compared. -/
namespace Go.Proofs.YtemicgccgcmmbaaGreat
set_option linter.unusedVariables false
set_option linter.unusedSimpArgs false
open Go Go.RowKit

theorem eq_pair0 (w : World) (a b c d : Bs) : (Op.equalIn 10000 56 (.agg #[.string ⟨a.toArray⟩, .string ⟨b.toArray⟩]) (.agg #[.string ⟨c.toArray⟩, .string ⟨d.toArray⟩])).run Tryz.prog w = .ok (a == c && b == d) w := by
  rw [run_equalIn_agg w 9999 56 _ _ (by kernel_rfl) (by kernel_rfl)]
  have hf : (Tryz.prog.fieldsOf 56).toList.map (fun f => (f.type, f.offset)) = [(9, 0), (9, 1)] := by kernel_rfl
  have hp : ∀ f ∈ (Tryz.prog.fieldsOf 56).toList, f.name ≠ "_" := by
    have : ((Tryz.prog.fieldsOf 56).toList.all fun f => f.name != "_") = true := by kernel_rfl
    intro f hf; simpa using List.all_eq_true.1 this f hf
  generalize (Tryz.prog.fieldsOf 56).toList = fs at hf hp
  obtain ⟨f0, f1, rfl⟩ : ∃ f0 f1, fs = [f0, f1] := by
    have hl : fs.length = 2 := by have := congrArg List.length hf; simpa using this
    match fs, hl with
    | [a, b], _ => exact ⟨a, b, rfl⟩
  · simp only [List.map_cons, List.map_nil, List.cons.injEq, Prod.mk.injEq, and_true] at hf
    obtain ⟨⟨a0, a1⟩, b0, b1⟩ := hf
    have n0 := hp f0 (by simp)
    have n1 := hp f1 (by simp)
    have hu : Tryz.prog.underlying 9 = some .string := Tryz.underlying9
    have hs : ∀ x y : Bs, (Op.equalIn 9999 9 (.string ⟨x.toArray⟩) (.string ⟨y.toArray⟩)).run Tryz.prog w = .ok (x == y) w := fun x y => by
      rw [run_equalIn_string w 9998 _ _ _ hu]; simp
    cases h1 : (a == c) <;> cases h2 : (b == d) <;>
      simp [Op.eqFields, n0, n1, a0, a1, b0, b1, part, isAgg, Sem.run_bind, run_underlying hu, hs, h1, h2, Sem.run_ite]
/-- Are two pairs the same? -/
def prEq (a b c d : Bs) : Bool := a == c && b == d
theorem prEq_iff {p q : Pr} : prEq p.1 p.2 q.1 q.2 = true ↔ p = q := by
  simp [prEq, Prod.ext_iff]
@[go_sem ↓] theorem eq_pair (w : World) (a b c d : Bs) : (Op.equalIn 10000 56 (.agg #[.string ⟨a.toArray⟩, .string ⟨b.toArray⟩]) (.agg #[.string ⟨c.toArray⟩, .string ⟨d.toArray⟩])).run Tryz.prog w = .ok (prEq a b c d) w := eq_pair0 w a b c d
@[go_sem] theorem guard_pair : Tryz.prog.eqGuardType Tryz.prog.depth 56 = false := by kernel_rfl

theorem pgN_iff {pages : Bool} {x y : Nd} : pgN pages x = pgN pages y ↔ x.pairs = y.pairs ∧ x.seps = y.seps ∧ x.kids.map (kdP pages) = y.kids.map (kdP pages) := by
  obtain ⟨a, b, c⟩ := x; obtain ⟨a', b', c'⟩ := y
  have h0 : ∀ c : List Kd, c.map (kdP true) = c := fun c => by
    have : kdP true = id := by funext k; rfl
    rw [this, List.map_id]
  have h1 : ∀ c : List Kd, c.map (kdP false) = c.map (fun k => ⟨0, k.sum⟩) := fun c => by
    have : kdP false = fun k => ⟨0, k.sum⟩ := by funext k; rfl
    rw [this]
  cases pages
  · simp only [pgN, Bool.false_eq_true, if_false, Nd.bare, Nd.mk.injEq, h1]
  · simp only [pgN, if_true, Nd.mk.injEq, h0]

theorem take_eq_step {α : Type} {l m : List α} {k : Nat} {x y : α} (h : l.take k = m.take k) (hx : l[k]? = some x) (hy : m[k]? = some y) (e : x = y) : l.take (k + 1) = m.take (k + 1) := by
  rw [List.take_add_one, List.take_add_one, hx, hy, h, e]
theorem ne_at {α : Type} {l m : List α} {k : Nat} {x y : α} (hx : l[k]? = some x) (hy : m[k]? = some y) (e : x ≠ y) : l ≠ m := fun h => e (by rw [h, hy] at hx; exact (Option.some.inj hx).symm)

end Go.Proofs.YtemicgccgcmmbaaGreat

/- The document's comparison of two nodes. -/
namespace Go.Proofs.YtemicgccgcmmbaaGreat
set_option linter.unusedVariables false
set_option linter.unusedSimpArgs false
open Go Go.RowKit

theorem run_part_dg (w : World) (k : Kd) : (part 36 k.c 1).run Tryz.prog w = .ok (.agg k.sum.c) w := by
  have hu : Tryz.prog.underlying 36 = some (.array 32 5) := Tryz.underlying36
  have hs : (Tryz.prog.info? 36).map (·.size) = some 32 := by kernel_rfl
  cases hq : Tryz.prog.info? 36 with
  | none => simp [hq] at hs
  | some i =>
    have hi : i.size = 32 := by simpa [hq] using hs
    have he : k.c.extract 1 (1 + 32) = k.sum.c := Kd.extract1 k
    simp only [part, isAgg, Sem.run_bind, run_underlying hu, Result.andThen_ok, Sem.run_pure, if_true, sizeOf, typeInfo, run_program, hq, hi, he]
theorem run_part_pg (w : World) (k : Kd) : (part 57 k.c 0).run Tryz.prog w = .ok (.int .u32 (k.page : Int)) w := by
  have hu : Tryz.prog.underlying 57 = some (.int .u32) := Tryz.underlying57
  have h0 := Kd.get0 k
  simp [part, isAgg, Sem.run_bind, run_underlying hu, Kd.getE0]
theorem eq_dg9 (w : World) (a b : Dg) : (Op.equalIn 9999 36 (.agg a.c) (.agg b.c)).run Tryz.prog w = .ok (decide (a = b)) w := by
  have := run_equalIn_u8 (P := Tryz.prog) w 9997 36 32 5 Tryz.underlying36 Tryz.underlying5 (by kernel_rfl) a.l b.l a.h b.h
  rw [show (decide (a = b)) = (a.l == b.l) by rw [Bool.eq_iff_iff]; simp; exact ⟨fun h => by rw [h], Dg.ext'⟩]
  exact this
theorem kd_dec (a b : Kd) : decide (a = b) = (((a.page : Int) == (b.page : Int)) && decide (a.sum = b.sum)) := by
  obtain ⟨p, s⟩ := a; obtain ⟨p', s'⟩ := b
  rw [Bool.eq_iff_iff]; simp only [Kd.mk.injEq, decide_eq_true_eq, Bool.and_eq_true, beq_iff_eq, Int.ofNat_inj]
/-- Two fields are compared, the second where the first is alike. -/
theorem eqFields_two {P : Program} (w : World) (d : Nat) (xs ys : Array Value) (f0 f1 : Field) (x0 x1 y0 y1 : Value) (u0 u1 : Bool) (n0 : f0.name ≠ "_") (n1 : f1.name ≠ "_")
    (h0 : (part f0.type xs f0.offset).run P w = .ok x0 w) (h1 : (part f0.type ys f0.offset).run P w = .ok y0 w) (h2 : (Op.equalIn d f0.type x0 y0).run P w = .ok u0 w)
    (k0 : (part f1.type xs f1.offset).run P w = .ok x1 w) (k1 : (part f1.type ys f1.offset).run P w = .ok y1 w) (k2 : (Op.equalIn d f1.type x1 y1).run P w = .ok u1 w) :
    (Op.eqFields d xs ys [f0, f1]).run P w = .ok (u0 && u1) w := by
  cases u0 <;> cases u1 <;> simp [Op.eqFields, n0, n1, Sem.run_bind, h0, h1, h2, k0, k1, k2, Sem.run_ite]
theorem eq_kid0 (w : World) (a b : Kd) : (Op.equalIn 10000 59 (.agg a.c) (.agg b.c)).run Tryz.prog w = .ok (((a.page : Int) == (b.page : Int)) && decide (a.sum = b.sum)) w := by
  rw [run_equalIn_agg w 9999 59 _ _ (by kernel_rfl) (by kernel_rfl)]
  have hf : (Tryz.prog.fieldsOf 59).toList.map (fun f => (f.type, f.offset)) = [(57, 0), (36, 1)] := by kernel_rfl
  have hp : ∀ f ∈ (Tryz.prog.fieldsOf 59).toList, f.name ≠ "_" := by
    have : ((Tryz.prog.fieldsOf 59).toList.all fun f => f.name != "_") = true := by kernel_rfl
    intro f hf; simpa using List.all_eq_true.1 this f hf
  generalize (Tryz.prog.fieldsOf 59).toList = fs at hf hp
  obtain ⟨f0, f1, rfl⟩ : ∃ f0 f1, fs = [f0, f1] := by
    have hl : fs.length = 2 := by have := congrArg List.length hf; simpa using this
    match fs, hl with
    | [a, b], _ => exact ⟨a, b, rfl⟩
  simp only [List.map_cons, List.map_nil, List.cons.injEq, Prod.mk.injEq, and_true] at hf
  obtain ⟨⟨a0, a1⟩, b0, b1⟩ := hf
  exact eqFields_two w 9999 a.c b.c f0 f1 _ _ _ _ _ _ (hp f0 (by simp)) (hp f1 (by simp)) (by rw [a0, a1]; exact run_part_pg w a) (by rw [a0, a1]; exact run_part_pg w b) (by rw [a0]; exact run_equalIn_int w 9998 _ _ _ _ _ Tryz.underlying57)
    (by rw [b0, b1]; exact run_part_dg w a) (by rw [b0, b1]; exact run_part_dg w b) (by rw [b0]; exact eq_dg9 w a.sum b.sum)
@[go_sem ↓] theorem eq_kid (w : World) (a b : Kd) : (Op.equalIn 10000 59 (.agg a.c) (.agg b.c)).run Tryz.prog w = .ok (decide (a = b)) w := by
  rw [kd_dec]; exact eq_kid0 w a b
@[go_sem] theorem guard_kid : Tryz.prog.eqGuardType Tryz.prog.depth 59 = false := by kernel_rfl

set_option maxHeartbeats 1000000 in set_option maxRecDepth 100000 in
theorem refSame_any (pa sa ka qa ta la : Option Addr) (pc sc kc qc tc lc : Nat) (x y : Nd) (w : World) (hx : NdAt w pa sa ka x) (hy : NdAt w qa ta la y) (ox : NdOk x) (oy : NdOk y) :
    Calls Tryz.prog 10 #[.agg #[.slice pa x.pairs.length pc, .slice sa x.seps.length sc, .slice ka x.kids.length kc], .agg #[.slice qa y.pairs.length qc, .slice ta y.seps.length tc, .slice la y.kids.length lc]] w
      (Rets (.bool (decide (x = y))) w) := by
  have HX := Lib.hid hx; have HY := Lib.hid hy; clear hx hy
  have np := ox.np; have ns := ox.ns; have nk := ox.nk
  clear ox oy
  by_cases h1 : x.pairs.length = y.pairs.length
  case neg =>
    have hb : ((x.pairs.length : Int) != (y.pairs.length : Int)) = true := by simp only [bne_iff_ne, ne_eq]; omega
    have HF : Hid (decide (x = y) = false) := decide_eq_false (fun h => h1 (by rw [h]))
    clear h1
    go_enter Tryz.func10, Tryz.ntmps10
    go_wp2_with fail
    go_ret
    rw [HF.out]
    exact ⟨rfl, by (try simp only [alloc_ext, drew_ext, drewN_ext, ext_ext]); exact ⟨_, _, rfl⟩⟩
  have hb1 : ((x.pairs.length : Int) != (y.pairs.length : Int)) = false := by simp only [bne_eq_false_iff_eq]; omega
  by_cases h2 : x.seps.length = y.seps.length
  case neg =>
    have hb : ((x.seps.length : Int) != (y.seps.length : Int)) = true := by simp only [bne_iff_ne, ne_eq]; omega
    have HF : Hid (decide (x = y) = false) := decide_eq_false (fun h => h2 (by rw [h]))
    clear h1 h2
    go_enter Tryz.func10, Tryz.ntmps10
    go_wp2_with fail
    go_ret
    rw [HF.out]
    exact ⟨rfl, by (try simp only [alloc_ext, drew_ext, drewN_ext, ext_ext]); exact ⟨_, _, rfl⟩⟩
  have hb2 : ((x.seps.length : Int) != (y.seps.length : Int)) = false := by simp only [bne_eq_false_iff_eq]; omega
  by_cases h3 : x.kids.length = y.kids.length
  case neg =>
    have hb : ((x.kids.length : Int) != (y.kids.length : Int)) = true := by simp only [bne_iff_ne, ne_eq]; omega
    have HF : Hid (decide (x = y) = false) := decide_eq_false (fun h => h3 (by rw [h]))
    clear h1 h2 h3
    go_enter Tryz.func10, Tryz.ntmps10
    go_wp2_with fail
    go_ret
    rw [HF.out]
    exact ⟨rfl, by (try simp only [alloc_ext, drew_ext, drewN_ext, ext_ext]); exact ⟨_, _, rfl⟩⟩
  have hb3 : ((x.kids.length : Int) != (y.kids.length : Int)) = false := by simp only [bne_eq_false_iff_eq]; omega
  have g1 : x.pairs.length ≤ y.pairs.length := by omega
  have g1' : y.pairs.length ≤ x.pairs.length := by omega
  have g2 : x.seps.length ≤ y.seps.length := by omega
  have g2' : y.seps.length ≤ x.seps.length := by omega
  have g3 : x.kids.length ≤ y.kids.length := by omega
  have g3' : y.kids.length ≤ x.kids.length := by omega
  clear h1 h2 h3
  go_enter Tryz.func10, Tryz.ntmps10
  go_wp2_with fail
  clear hb1 hb2 hb3
  go_loopw [4, 5] (fun _ i wr => ∃ k bs n, i = .int .i64 (k : Nat) ∧ k ≤ x.pairs.length ∧ wr = ext ((w.alloc (.cells #[.slice pa x.pairs.length pc, .slice sa x.seps.length sc, .slice ka x.kids.length kc] 28)).alloc (.cells #[.slice qa y.pairs.length qc, .slice ta y.seps.length tc, .slice la y.kids.length lc] 28)) bs n ∧ Hid (x.pairs.take k = y.pairs.take k)) (fun _ i _ => x.pairs.length - (intOf i).toNat)
  case atStart => exact ⟨0, [], 0, rfl, Nat.zero_le _, ext_zero _, by simp [Hid]⟩
  case round =>
    obtain ⟨k, bs, n, rfl, hk, rfl, HE⟩ := hrel
    by_cases hlt : k < x.pairs.length
    · obtain ⟨p, hp⟩ : ∃ p, x.pairs[k]? = some p := ⟨_, List.getElem?_eq_getElem hlt⟩
      obtain ⟨q, hq⟩ : ∃ q, y.pairs[k]? = some q := ⟨_, List.getElem?_eq_getElem (by omega)⟩
      obtain ⟨b, o, rfl, hb, cf1, cf2⟩ := HX.out.ps k p hp
      obtain ⟨b', o', rfl, hb', cg1, cg2⟩ := HY.out.ps k q hq
      have HP := Lib.hid hp; have HQ := Lib.hid hq; clear hp hq
      rcases hd : prEq p.1 p.2 q.1 q.2 with _ | _
      · have HF : Hid (decide (x = y) = false) := decide_eq_false (fun h => ne_at HP.out HQ.out (fun e => by rw [prEq_iff.2 e] at hd; cases hd) (by rw [h]))
        go_wp2_with fail
        refine wp_region_ext (by kernel_rfl) (by kernel_rfl) ?_
        repeat (go_big_quiet_step (fail))
        (refine wpQuiet_nil ?_; intro _ hw'; obtain ⟨⟨bsq, nq⟩, hw''⟩ := hw'; subst hw'')
        go_wp2_with fail
        go_ret
        rw [HF.out]
        exact ⟨rfl, by (try simp only [alloc_ext, drew_ext, drewN_ext, ext_ext]); exact ⟨_, _, rfl⟩⟩
      · have HE' : Hid (x.pairs.take (k + 1) = y.pairs.take (k + 1)) := Lib.hid (take_eq_step HE.out HP.out HQ.out (prEq_iff.1 hd))
        go_wp2_with fail
        refine wp_region_ext (by kernel_rfl) (by kernel_rfl) ?_
        repeat (go_big_quiet_step (fail))
        (refine wpQuiet_nil ?_; intro _ hw'; obtain ⟨⟨bsq, nq⟩, hw''⟩ := hw'; subst hw'')
        go_wp2_with fail
        go_roundw
        case rel => exact ⟨k + 1, _, _, by go_num, by omega, by (try simp only [ext_alloc, ext_drew, ext_drewN, ext_ext]); rfl, HE'⟩
        case measure => simp [intOf]; omega
    · have hpe : Hid (x.pairs = y.pairs) := Lib.hid (by have := HE.out; rwa [List.take_of_length_le (by omega), List.take_of_length_le (by omega)] at this)
      clear HE
      go_wp2_with fail
      go_loopw [4, 6] (fun _ i wr => ∃ k bs n, i = .int .i64 (k : Nat) ∧ k ≤ x.seps.length ∧ wr = ext ((w.alloc (.cells #[.slice pa x.pairs.length pc, .slice sa x.seps.length sc, .slice ka x.kids.length kc] 28)).alloc (.cells #[.slice qa y.pairs.length qc, .slice ta y.seps.length tc, .slice la y.kids.length lc] 28)) bs n ∧ Hid (x.seps.take k = y.seps.take k)) (fun _ i _ => x.seps.length - (intOf i).toNat)
      case atStart => exact ⟨0, _, _, rfl, Nat.zero_le _, rfl, by simp [Hid]⟩
      case round =>
        obtain ⟨k, bs, n, rfl, hk, rfl, HE⟩ := hrel
        by_cases hlt : k < x.seps.length
        · obtain ⟨p, hp⟩ : ∃ p, x.seps[k]? = some p := ⟨_, List.getElem?_eq_getElem hlt⟩
          obtain ⟨q, hq⟩ : ∃ q, y.seps[k]? = some q := ⟨_, List.getElem?_eq_getElem (by omega)⟩
          obtain ⟨b, o, rfl, hb, cf1⟩ := HX.out.ss k p hp
          obtain ⟨b', o', rfl, hb', cg1⟩ := HY.out.ss k q hq
          have HP := Lib.hid hp; have HQ := Lib.hid hq; clear hp hq
          rcases hd : (p == q) with _ | _
          · have HF : Hid (decide (x = y) = false) := decide_eq_false (fun h => ne_at HP.out HQ.out (by simpa using hd) (by rw [h]))
            go_wp2_with fail
            refine wp_region_ext (by kernel_rfl) (by kernel_rfl) ?_
            repeat (go_big_quiet_step (fail))
            (refine wpQuiet_nil ?_; intro _ hw'; obtain ⟨⟨bsq, nq⟩, hw''⟩ := hw'; subst hw'')
            go_wp2_with fail
            go_ret
            rw [HF.out]
            exact ⟨rfl, by (try simp only [alloc_ext, drew_ext, drewN_ext, ext_ext]); exact ⟨_, _, rfl⟩⟩
          · have HE' : Hid (x.seps.take (k + 1) = y.seps.take (k + 1)) := Lib.hid (take_eq_step HE.out HP.out HQ.out (by simpa using hd))
            go_wp2_with fail
            refine wp_region_ext (by kernel_rfl) (by kernel_rfl) ?_
            repeat (go_big_quiet_step (fail))
            (refine wpQuiet_nil ?_; intro _ hw'; obtain ⟨⟨bsq, nq⟩, hw''⟩ := hw'; subst hw'')
            go_wp2_with fail
            go_roundw
            case rel => exact ⟨k + 1, _, _, by go_num, by omega, by (try simp only [ext_alloc, ext_drew, ext_drewN, ext_ext]); rfl, HE'⟩
            case measure => simp [intOf]; omega
        · have hse : Hid (x.seps = y.seps) := Lib.hid (by have := HE.out; rwa [List.take_of_length_le (by omega), List.take_of_length_le (by omega)] at this)
          clear HE
          go_wp2_with fail
          go_loopw [4, 7] (fun _ i wr => ∃ k bs n, i = .int .i64 (k : Nat) ∧ k ≤ x.kids.length ∧ wr = ext ((w.alloc (.cells #[.slice pa x.pairs.length pc, .slice sa x.seps.length sc, .slice ka x.kids.length kc] 28)).alloc (.cells #[.slice qa y.pairs.length qc, .slice ta y.seps.length tc, .slice la y.kids.length lc] 28)) bs n ∧ Hid (x.kids.take k = y.kids.take k)) (fun _ i _ => x.kids.length - (intOf i).toNat)
          case atStart => exact ⟨0, _, _, rfl, Nat.zero_le _, rfl, by simp [Hid]⟩
          case round =>
            obtain ⟨k, bs, n, rfl, hk, rfl, HE⟩ := hrel
            by_cases hlt : k < x.kids.length
            · obtain ⟨p, hp⟩ : ∃ p, x.kids[k]? = some p := ⟨_, List.getElem?_eq_getElem hlt⟩
              obtain ⟨q, hq⟩ : ∃ q, y.kids[k]? = some q := ⟨_, List.getElem?_eq_getElem (by omega)⟩
              obtain ⟨b, o, rfl, hb, r1⟩ := HX.out.ks k p hp
              obtain ⟨b', o', rfl, hb', r2⟩ := HY.out.ks k q hq
              have HP := Lib.hid hp; have HQ := Lib.hid hq; clear hp hq
              rcases hd : decide (p = q) with _ | _
              · have HF : Hid (decide (x = y) = false) := decide_eq_false (fun h => ne_at HP.out HQ.out (by simpa using hd) (by rw [h]))
                go_wp2_with fail
                refine wp_region_ext (by kernel_rfl) (by kernel_rfl) ?_
                repeat (go_big_quiet_step (fail))
                (refine wpQuiet_nil ?_; intro _ hw'; obtain ⟨⟨bsq, nq⟩, hw''⟩ := hw'; subst hw'')
                go_wp2_with fail
                go_ret
                rw [HF.out]
                exact ⟨rfl, by (try simp only [alloc_ext, drew_ext, drewN_ext, ext_ext]); exact ⟨_, _, rfl⟩⟩
              · have HE' : Hid (x.kids.take (k + 1) = y.kids.take (k + 1)) := Lib.hid (take_eq_step HE.out HP.out HQ.out (by simpa using hd))
                go_wp2_with fail
                refine wp_region_ext (by kernel_rfl) (by kernel_rfl) ?_
                repeat (go_big_quiet_step (fail))
                (refine wpQuiet_nil ?_; intro _ hw'; obtain ⟨⟨bsq, nq⟩, hw''⟩ := hw'; subst hw'')
                go_wp2_with fail
                go_roundw
                case rel => exact ⟨k + 1, _, _, by go_num, by omega, by (try simp only [ext_alloc, ext_drew, ext_drewN, ext_ext]); rfl, HE'⟩
                case measure => simp [intOf]; omega
            · have HF : Hid (decide (x = y) = true) := Lib.hid (decide_eq_true (by
                have hke := HE.out
                rw [List.take_of_length_le (by omega), List.take_of_length_le (by omega)] at hke
                have h1 := hpe.out; have h2 := hse.out
                obtain ⟨a, b, c⟩ := x; obtain ⟨a', b', c'⟩ := y
                simp only at h1 h2 hke
                rw [h1, h2, hke]))
              go_wp2_with fail
              go_ret
              rw [HF.out]
              exact ⟨rfl, by (try simp only [alloc_ext, drew_ext, drewN_ext, ext_ext]); exact ⟨_, _, rfl⟩⟩

end Go.Proofs.YtemicgccgcmmbaaGreat

/- kept: a lent node is as it was, its marks too. -/
namespace Go.Proofs.YtemicgccgcmmbaaGreat
set_option linter.unusedVariables false
set_option linter.unusedSimpArgs false
open Go Go.RowKit

theorem SsAt.take {w : World} {a : Option Addr} {l : List Bs} (h : SsAt w a l) (k : Nat) : SsAt w a (l.take k) := fun i p hp => by
  rw [List.getElem?_take] at hp
  split at hp
  · exact h i p hp
  · cases hp
theorem KsAt.take {w : World} {a : Option Addr} {l : List Kd} (h : KsAt w a l) (k : Nat) : KsAt w a (l.take k) := fun i p hp => by
  rw [List.getElem?_take] at hp
  split at hp
  · exact h i p hp
  · cases hp
theorem PsAt.pre {w : World} {a : Option Addr} {l m : List Pr} (h : PsAt w a (l ++ m)) : PsAt w a l := fun i p hp => h i p (by rw [List.getElem?_append_left (List.getElem?_eq_some_iff.1 hp).1]; exact hp)
theorem SsAt.pre {w : World} {a : Option Addr} {l m : List Bs} (h : SsAt w a (l ++ m)) : SsAt w a l := fun i p hp => h i p (by rw [List.getElem?_append_left (List.getElem?_eq_some_iff.1 hp).1]; exact hp)
theorem KsAt.pre {w : World} {a : Option Addr} {l m : List Kd} (h : KsAt w a (l ++ m)) : KsAt w a l := fun i p hp => h i p (by rw [List.getElem?_append_left (List.getElem?_eq_some_iff.1 hp).1]; exact hp)

/-- A lent node, and its marks. -/
theorem Own3.lent {w : World} {lo gp gs gk pc sc kc : Nat} {n : Nd} (h : Own3 w lo (some ⟨gp, 0, none⟩) (some ⟨gs, 0, none⟩) (some ⟨gk, 0, none⟩) pc sc kc n.mk1) :
    NdAt w (some ⟨gp, 0, none⟩) (some ⟨gs, 0, none⟩) (some ⟨gk, 0, none⟩) n ∧ w.cell? ⟨gp, n.pairs.length * 2, none⟩ = some (.string ⟨#[109, 97, 114, 107]⟩) ∧ w.cell? ⟨gs, n.seps.length, none⟩ = some (.string ⟨#[109, 97, 114, 107]⟩) ∧ w.cell? ⟨gk, n.kids.length * 33, none⟩ = some (.int .u32 77) ∧
      (gp < w.heap.size ∧ gs < w.heap.size ∧ gk < w.heap.size) ∧ n.pairs.length + 1 ≤ pc ∧ n.seps.length + 1 ≤ sc ∧ n.kids.length + 1 ≤ kc := by
  have ha := h.at
  have l1 : n.mk1.pairs.length = n.pairs.length + 1 := by simp [Nd.mk1]
  have l2 : n.mk1.seps.length = n.seps.length + 1 := by simp [Nd.mk1]
  have l3 : n.mk1.kids.length = n.kids.length + 1 := by simp [Nd.mk1]
  obtain ⟨b, o, e, hb1, c1, _⟩ := ha.ps n.pairs.length (mkB, []) (by simp [Nd.mk1])
  cases e
  obtain ⟨b, o, e, hb2, c2⟩ := ha.ss n.seps.length mkB (by simp [Nd.mk1])
  cases e
  obtain ⟨b, o, e, hb3, r3⟩ := ha.ks n.kids.length kMark (by simp [Nd.mk1])
  cases e
  have cp := (rowAt?_cell r3).2 0 _ (Kd.get0 kMark)
  refine ⟨⟨ha.ps.pre, ha.ss.pre, ha.ks.pre⟩, by simpa [mkB] using c1, by simpa [mkB] using c2, by simpa [Addr.add_lit, kMark] using cp, ⟨hb1, hb2, hb3⟩, ?_, ?_, ?_⟩
  · obtain ⟨g, _, h1, _⟩ := own_some h.ps (by omega); omega
  · obtain ⟨g, _, h1, _⟩ := own_some h.ss (by omega); omega
  · obtain ⟨g, _, h1, _⟩ := own_some h.ks (by omega); omega

theorem refSame_true (pa sa ka qa ta la : Option Addr) (pc sc kc qc tc lc : Nat) (x y : Nd) (w : World) (hx : NdAt w pa sa ka x) (hy : NdAt w qa ta la y) (ox : NdOk x) (oy : NdOk y) (h : x = y) :
    Calls Tryz.prog 10 #[.agg #[.slice pa x.pairs.length pc, .slice sa x.seps.length sc, .slice ka x.kids.length kc], .agg #[.slice qa y.pairs.length qc, .slice ta y.seps.length tc, .slice la y.kids.length lc]] w (Rets (.bool true) w) := by
  have := refSame_any pa sa ka qa ta la pc sc kc qc tc lc x y w hx hy ox oy
  rwa [decide_eq_true h] at this

set_option maxHeartbeats 1000000 in set_option maxRecDepth 100000 in
theorem kept_any (gp gs gk pc sc kc : Nat) (lo : Nat) (qa ta la : Option Addr) (qc tc lc : Nat) (n : Nd) (w : World) (hx : Own3 w lo (some ⟨gp, 0, none⟩) (some ⟨gs, 0, none⟩) (some ⟨gk, 0, none⟩) pc sc kc n.mk1) (hy : NdAt w qa ta la n) (ho : NdOk n) (hf : NdFew n) :
    Calls Tryz.prog 25 #[.agg #[.slice (some ⟨gp, 0, none⟩) n.pairs.length pc, .slice (some ⟨gs, 0, none⟩) n.seps.length sc, .slice (some ⟨gk, 0, none⟩) n.kids.length kc], .agg #[.slice qa n.pairs.length qc, .slice ta n.seps.length tc, .slice la n.kids.length lc]] w
      (Rets (.bool true) w) := by
  obtain ⟨hn, c1, c2, c3, ⟨g1, g2, g3⟩, k1, k2, k3⟩ := hx.lent
  have fp := hf.np; have fs := hf.ns; have fk := hf.nk
  have HN := Lib.hid hn; have HY := Lib.hid hy; have HO := Lib.hid ho
  clear hn hy ho hf hx
  have e1 : IntKind.i64.wrap ((n.pairs.length : Int) + 1) = n.pairs.length + 1 := IntWalk.i64_in _ (by omega)
  have e2 : IntKind.i64.wrap ((n.seps.length : Int) + 1) = n.seps.length + 1 := IntWalk.i64_in _ (by omega)
  have e3 : IntKind.i64.wrap ((n.kids.length : Int) + 1) = n.kids.length + 1 := IntWalk.i64_in _ (by omega)
  have i1 : (n.pairs.length : Int) + 1 ≤ (pc : Int) := by omega
  have i2 : (n.seps.length : Int) + 1 ≤ (sc : Int) := by omega
  have i3 : (n.kids.length : Int) + 1 ≤ (kc : Int) := by omega
  have j1 : (0 : Int) ≤ (n.pairs.length : Int) + 1 := by omega
  have j2 : (0 : Int) ≤ (n.seps.length : Int) + 1 := by omega
  have j3 : (0 : Int) ≤ (n.kids.length : Int) + 1 := by omega
  go_enter Tryz.func25, Tryz.ntmps25
  go_wp2_with fail
  refine wp_region_ext (by kernel_rfl) (by kernel_rfl) ?_
  repeat (go_big_quiet_step (fail))
  (refine wpQuiet_nil ?_; intro _ hw'; obtain ⟨⟨bsq, nq⟩, hw''⟩ := hw'; subst hw'')
  clear e1 e2 e3 i1 i2 i3 j1 j2 j3
  go_wp2_with fail
  refine (refSame_true _ _ _ _ _ _ _ _ _ _ _ _ n n _ (HN.out.kp0 ((Kp.refl [] _).alloc _ |>.alloc _ |>.ext _ _)) (HY.out.kp0 ((Kp.refl [] _).alloc _ |>.alloc _ |>.ext _ _)) HO.out HO.out rfl).mono ?_
  rintro e w' ⟨rfl, bs, m, rfl⟩
  go_wp2_with fail
  go_ret
  exact ⟨rfl, by (try simp only [alloc_ext, drew_ext, drewN_ext, ext_ext]); exact ⟨_, _, rfl⟩⟩

end Go.Proofs.YtemicgccgcmmbaaGreat

/- A copied node's kid is written; what is known of sizes. -/
namespace Go.Proofs.YtemicgccgcmmbaaGreat
set_option linter.unusedVariables false
set_option linter.unusedSimpArgs false
open Go Go.RowKit

theorem Own.set {w : World} {e : TypeId} {size g n c : Nat} {xs : List Value} (h : Own w e size (some ⟨g, 0, none⟩) n c xs) (j : Nat) (v : Value) : Own (w.setCell ⟨g, j, none⟩ v) e size (some ⟨g, 0, none⟩) n c (xs.set j v) := by
  rcases h.block with ⟨h0, ⟨h1, _⟩ | ⟨g', cur, h1, hb, h2, h3, h4, h5⟩⟩
  · cases h1
  · cases h1
    refine ⟨by rw [List.length_set]; exact h0, .inr ⟨g, c, cur.setIfInBounds j v, rfl, Nat.zero_le _, Blk.set hb j v, h2, h3, by simpa using h4, ?_⟩⟩
    rw [Array.toList_setIfInBounds, List.take_set, h5]
theorem flat_set {T : Type} (cells : T → List Value) (size : Nat) (hsz : ∀ x, (cells x).length = size) : ∀ (l : List T) (k r : Nat) (x y : T) (v : Value), l[k]? = some x → r < size → (cells x).set r v = cells y → (l.flatMap cells).set (k * size + r) v = (l.set k y).flatMap cells
  | [], k, r, x, y, v, h, _, _ => by simp at h
  | z :: t, 0, r, x, y, v, h, hr, hc => by
    simp at h; subst h
    rw [List.flatMap_cons, Nat.zero_mul, Nat.zero_add, List.set_append_left _ _ (by rw [hsz]; exact hr), hc, List.set_cons_zero, List.flatMap_cons]
  | z :: t, k + 1, r, x, y, v, h, hr, hc => by
    have ih := flat_set cells size hsz t k r x y v (by simpa using h) hr hc
    rw [List.flatMap_cons, List.set_append_right _ _ (by rw [hsz, Nat.succ_mul]; omega), hsz, List.set_cons_succ, List.flatMap_cons, ← ih]
    congr 2
    rw [Nat.succ_mul]; omega
theorem own_page {w : World} {g c k : Nat} {ks : List Kd} {x : Kd} (h : Own w 59 33 (some ⟨g, 0, none⟩) ks.length c (ks.flatMap csK)) (hx : ks[k]? = some x) (pg : Nat) :
    Own (w.setCell ⟨g, k * 33, none⟩ (.int .u32 (pg : Int))) 59 33 (some ⟨g, 0, none⟩) (ks.set k ⟨pg, x.sum⟩).length c ((ks.set k ⟨pg, x.sum⟩).flatMap csK) := by
  have := h.set (k * 33) (.int .u32 (pg : Int))
  rw [← Nat.add_zero (k * 33), flat_set csK 33 (fun x => by simp) ks k 0 x ⟨pg, x.sum⟩ _ hx (by omega) (by simp [csK, Kd.c]), Nat.add_zero] at this
  rwa [List.length_set]

/-- A node copied, its pages being written. -/
structure SzI (w wr : World) (lo B8 : Nat) (fr nd : Array Value) (pb sb kb : Option Addr) (pd sd kd : Nat) (n : Nd) (ks : List Kd) : Prop where
  kp : Kp [] w wr
  b0 : Blk wr w.heap.size 23 fr
  b1 : Blk wr (w.heap.size + 1) 28 nd
  b8 : Blk wr B8 28 #[.slice pb n.pairs.length pd, .slice sb n.seps.length sd, .slice kb n.kids.length kd]
  own : Own3 wr lo pb sb kb pd sd kd ⟨n.pairs, n.seps, ks⟩
  lw : w.heap.size + 1 < lo
  hi : ∀ g ∈ ab pb ++ ab sb ++ ab kb, g < B8
  sm : ks.map (kdP false) = n.kids.map (kdP false)
  pg : ∀ k ∈ ks, k.page < 4294967296

theorem SzI.len {w wr : World} {lo B8 : Nat} {fr nd : Array Value} {pb sb kb : Option Addr} {pd sd kd : Nat} {n : Nd} {ks : List Kd} (h : SzI w wr lo B8 fr nd pb sb kb pd sd kd n ks) : ks.length = n.kids.length := by
  have := congrArg List.length h.sm; simpa using this
theorem SzI.put {w wr : World} {lo B8 : Nat} {fr nd : Array Value} {pb sb : Option Addr} {g : Nat} {pd sd kd : Nat} {n : Nd} {ks : List Kd} (h : SzI w wr lo B8 fr nd pb sb (some ⟨g, 0, none⟩) pd sd kd n ks) {k : Nat} {x : Kd} (hx : ks[k]? = some x) (pg : Nat) (hp : pg < 4294967296) :
    SzI w (wr.setCell ⟨g, k * 33, none⟩ (.int .u32 (pg : Int))) lo B8 fr nd pb sb (some ⟨g, 0, none⟩) pd sd kd n (ks.set k ⟨pg, x.sum⟩) := by
  have hg := h.own.lo g (by simp [ab])
  have hg2 := h.hi g (by simp [ab])
  have hlw := h.lw
  have k1 : Kp [g] wr (wr.setCell ⟨g, k * 33, none⟩ (.int .u32 (pg : Int))) := (Kp.refl [g] wr).setCell _ (.inr (by simp))
  refine ⟨h.kp.from k1 (fun y hy => by simp at hy; subst hy; exact .inl (by omega)), h.b0.kp k1 (by simp; omega), h.b1.kp k1 (by simp; omega), h.b8.kp k1 (by simp; omega), ?_, hlw, h.hi, ?_, ?_⟩
  · refine ⟨h.own.ps.kp k1 (fun y hy => by have := (h.own.d1 y hy).2; simpa [ab] using this), h.own.ss.kp k1 (fun y hy => by have := h.own.d2 y hy; simpa [ab] using this), own_page h.own.ks hx pg, h.own.lo, h.own.d1, h.own.d2⟩
  · rw [← h.sm, List.map_set]
    refine List.ext_getElem? fun i => ?_
    have hlt : k < ks.length := (List.getElem?_eq_some_iff.1 hx).1
    rw [List.getElem?_set]
    by_cases he : k = i
    · subst he
      rw [if_pos rfl, if_pos (by simpa using hlt), List.getElem?_map, hx]
      rfl
    · rw [if_neg he]
  · intro y hy
    rcases List.mem_or_eq_of_mem_set hy with h1 | rfl
    · exact h.pg y h1
    · exact hp

theorem SzI.next {w wr : World} {lo B8 : Nat} {fr nd : Array Value} {pb sb kb : Option Addr} {pd sd kd : Nat} {n : Nd} {ks : List Kd} (h : SzI w wr lo B8 fr nd pb sb kb pd sd kd n ks) {w' : World} (k : Kp [] wr w') : SzI w w' lo B8 fr nd pb sb kb pd sd kd n ks :=
  ⟨h.kp.trans k, h.b0.kp k (by simp), h.b1.kp k (by simp), h.b8.kp k (by simp), h.own.kp k (by simp), h.lw, h.hi, h.sm, h.pg⟩

theorem SzI.start {w w1 : World} {fr : Array Value} {nd : Array Value} {pb sb kb : Option Addr} {pd sd kd : Nat} {n : Nd} {W : World} (ho : NdOk n) (h0 : Blk W w.heap.size 23 fr) (h1 : Blk W (w.heap.size + 1) 28 nd) (k0 : Kp [] w W) (k : Kp [] W w1) (ow : Own3 w1 W.heap.size pb sb kb pd sd kd n) :
    SzI w (w1.alloc (.cells #[.slice pb n.pairs.length pd, .slice sb n.seps.length sd, .slice kb n.kids.length kd] 28)) W.heap.size w1.heap.size fr nd pb sb kb pd sd kd n n.kids := by
  have ka : Kp [] w1 (w1.alloc (.cells #[.slice pb n.pairs.length pd, .slice sb n.seps.length sd, .slice kb n.kids.length kd] 28)) := (Kp.refl [] w1).alloc _
  refine ⟨(k0.trans k).trans ka, (h0.kp k (by simp)).kp ka (by simp), (h1.kp k (by simp)).kp ka (by simp), Blk.new w1 _ _, Own3.kp ow ka (by simp), h1.lt, ?_, rfl, ho.pg⟩
  intro g hg
  simp only [List.mem_append] at hg
  rcases hg with (hg | hg) | hg
  · exact ow.ps.lt g hg
  · exact ow.ss.lt g hg
  · exact ow.ks.lt g hg

/-! Sizes. -/
theorem size_bare (p wd : Int) (n : Nd) : SizeE p wd n.bare = SizeE p wd n := by
  unfold SizeE; rw [checkE_bare, sizeN_bare]
theorem size_pages {p wd : Int} {n : Nd} {ks : List Kd} (h : ks.map (kdP false) = n.kids.map (kdP false)) : SizeE p wd ⟨n.pairs, n.seps, ks⟩ = SizeE p wd n := by
  rw [← size_bare p wd ⟨n.pairs, n.seps, ks⟩, ← size_bare p wd n]
  congr 1
  simp only [Nd.bare, Nd.mk.injEq, true_and]
  rw [kdP_false] at h; exact h

theorem cntN_two {n : Nat} (h : n ≤ 8192) : cntN n ≤ 2 := cntN_le 2 n (by omega) (by omega)
theorem size_bounds {P wd : Nat} {n : Nd} (h : checkE P wd n = 0) (ho : NdOk n) : 2 ≤ SizeE P wd n ∧ SizeE P wd n ≤ 11 + n.pairs.length * (P / 16 + P / 8 + 4) + n.kids.length * (P / 16 + 6 + wd) := by
  obtain ⟨hr, hs⟩ := checkE_ok h
  have hr' := rightB_iff.1 hr
  simp only [Int.toNat_natCast] at hs
  have e : SizeE (P : Int) wd n = sizeN wd n := by unfold SizeE; rw [if_pos h]; simp
  rw [e]
  have hnp := ho.np; have hnk := ho.nk
  unfold sizeN
  cases hl : leafB n
  · obtain ⟨e1, e2, e3, e4⟩ := branch_good hs hl
    have h1 := sum_le txN (2 + P / 16) n.seps (fun s hs => by have := e3 s hs; have := cntN_two (n := s.length) (by omega); unfold txN; omega)
    have h2 := cntN_le9 n.kids.length (by omega)
    have h3 := cntN_pos n.kids.length
    simp only [Bool.false_eq_true, if_false]
    have h4 : n.seps.length * (2 + P / 16) ≤ n.kids.length * (2 + P / 16) := Nat.mul_le_mul_right _ (by omega)
    have h5 : n.kids.length * (P / 16 + 6 + wd) = n.kids.length * (2 + P / 16) + n.kids.length * (4 + wd) := by rw [← Nat.mul_add]; congr 1; omega
    omega
  · have hlg := leaf_good hs hl
    have h1 := sum_le prN (P / 16 + P / 8 + 4) n.pairs (fun x hx => by
      have := hlg x hx
      have h1 := cntN_two (n := x.1.length) (by omega); have h2 := cntN_two (n := x.2.length) (by omega)
      unfold prN txN; omega)
    have h2 := cntN_le9 n.pairs.length (by omega)
    have h3 := cntN_pos n.pairs.length
    simp only [if_true]
    omega

theorem rises_take : ∀ (l : List Bs) (m k : Nat) (pv : Option Bs), risesFrom m pv l = true → risesFrom m pv (l.take k) = true
  | [], m, k, pv, h => by simp [risesFrom]
  | x :: t, m, 0, pv, h => rfl
  | x :: t, m, k + 1, pv, h => by
    simp only [List.take_succ_cons]
    unfold risesFrom at h ⊢
    simp only [Bool.and_eq_true] at h ⊢
    exact ⟨h.1, rises_take t m k _ h.2⟩

/-- One pair less. -/
theorem size_less {P wd : Nat} {n : Nd} {ks : List Kd} {x : Pr} (h : checkE P wd n = 0) (hk : ks.map (kdP false) = n.kids.map (kdP false)) (h1 : n.pairs[n.pairs.length - 1]? = some x) (h2 : 0 < n.pairs.length) (h3 : n.pairs.length < 128) :
    ∃ d, SizeE P wd n = SizeE P wd ⟨n.pairs.take (n.pairs.length - 1), n.seps, ks⟩ + d ∧ x.1.length + x.2.length + 2 ≤ d ∧ d ≤ x.1.length + x.2.length + 4 := by
  obtain ⟨hr, hs⟩ := checkE_ok h
  have hr' := rightB_iff.1 hr
  simp only [Int.toNat_natCast] at hs
  have hl : leafB n = true := by
    cases hl : leafB n
    · have := (branch_good hs hl).1; rw [this] at h2; simp at h2
    · rfl
  obtain ⟨e1, e2⟩ := leafB_iff.1 hl
  have hks : ks = [] := by rw [e2] at hk; simpa using hk
  subst hks
  have hlg := leaf_good hs hl
  have hx := hlg x (List.mem_of_getElem? h1)
  have hl2 : leafB ⟨n.pairs.take (n.pairs.length - 1), n.seps, []⟩ = true := by rw [e1]; rfl
  have hc2 : checkE P wd ⟨n.pairs.take (n.pairs.length - 1), n.seps, []⟩ = 0 := by
    unfold checkE shapedB
    rw [if_pos hr, if_pos hl2, Int.toNat_natCast]
    unfold shapedB at hs
    rw [if_pos hl] at hs
    simp only [Bool.and_eq_true, Bool.not_eq_true'] at hs
    rw [if_pos]
    simp only [Bool.and_eq_true, Bool.not_eq_true']
    refine ⟨?_, ?_⟩
    · rw [List.map_take]; exact rises_take _ _ _ _ hs.1
    · rw [List.any_eq_false]
      intro y hy
      exact List.any_eq_false.1 hs.2 y (List.mem_of_mem_take hy)
  have s1 : SizeE (P : Int) wd n = sizeN wd n := by unfold SizeE; rw [if_pos h]; simp
  have s2 : SizeE (P : Int) wd ⟨n.pairs.take (n.pairs.length - 1), n.seps, []⟩ = sizeN wd ⟨n.pairs.take (n.pairs.length - 1), n.seps, []⟩ := by unfold SizeE; rw [if_pos hc2]; simp
  rw [s1, s2]
  unfold sizeN
  rw [if_pos hl, if_pos hl2]
  have ht := sum_take prN n.pairs (n.pairs.length - 1) x h1
  rw [show n.pairs.length - 1 + 1 = n.pairs.length by omega, List.take_length] at ht
  have c1 := cntN_small h3
  have c2 : cntN (n.pairs.take (n.pairs.length - 1)).length = 1 := cntN_small (by simp; omega)
  have k1 := cntN_two (n := x.1.length) (by omega); have k2 := cntN_two (n := x.2.length) (by omega)
  have j1 := cntN_pos x.1.length; have j2 := cntN_pos x.2.length
  refine ⟨prN x, ?_, ?_, ?_⟩
  · simp only [c1, c2, ht]; omega
  · unfold prN txN; omega
  · unfold prN txN; omega

theorem PsAt.take {w : World} {a : Option Addr} {l : List Pr} (h : PsAt w a l) (k : Nat) : PsAt w a (l.take k) := fun i p hp => by
  rw [List.getElem?_take] at hp
  split at hp
  · exact h i p hp
  · cases hp

end Go.Proofs.YtemicgccgcmmbaaGreat

/- What spoil and grown do to lists of one's own. -/
namespace Go.Proofs.YtemicgccgcmmbaaGreat
set_option linter.unusedVariables false
set_option linter.unusedSimpArgs false
open Go Go.RowKit

def Nd.app (n t : Nd) : Nd := ⟨n.pairs ++ t.pairs, n.seps ++ t.seps, n.kids ++ t.kids⟩
def Nd.none : Nd := ⟨[], [], []⟩
theorem Nd.app_none (n : Nd) : n.app Nd.none = n := by simp [Nd.app, Nd.none]
def Nd.marks : Nd := ⟨[(mkB, [])], [mkB], [kMark]⟩
theorem Nd.mk1_app (n : Nd) : n.mk1 = n.app Nd.marks := rfl

structure SpI (w wr : World) (lo : Nat) (pa sa ka : Option Addr) (pc sc kc : Nat) (nd : Array Value) (m : Nd) : Prop where
  kp : Kp (ab pa ++ ab sa ++ ab ka) w wr
  bx : Blk wr w.heap.size 28 nd
  own : Own3 wr lo pa sa ka pc sc kc m
  hi : ∀ g ∈ ab pa ++ ab sa ++ ab ka, g < w.heap.size

theorem SpI.next {w wr : World} {lo : Nat} {pa sa ka : Option Addr} {pc sc kc : Nat} {nd : Array Value} {m : Nd} (h : SpI w wr lo pa sa ka pc sc kc nd m) {w' : World} (k : Kp [] wr w') : SpI w w' lo pa sa ka pc sc kc nd m :=
  ⟨h.kp.trans k.of_nil, h.bx.kp k (by simp), h.own.kp k (by simp), h.hi⟩
theorem SpI.start {w : World} {lo : Nat} {pa sa ka : Option Addr} {pc sc kc : Nat} {nd : Array Value} {m : Nd} (h : Own3 w lo pa sa ka pc sc kc m) : SpI w (w.alloc (.cells nd 28)) lo pa sa ka pc sc kc nd m :=
  ⟨(Kp.refl _ _).alloc _, Blk.new w _ _, h.kp ((Kp.refl [] w).alloc _) (by simp), fun g hg => by
    simp only [List.mem_append] at hg
    rcases hg with (hg | hg) | hg
    · exact h.ps.lt g hg
    · exact h.ss.lt g hg
    · exact h.ks.lt g hg⟩

theorem own_pair {w : World} {g c k : Nat} {ps : List Pr} {x : Pr} (h : Own w 56 2 (some ⟨g, 0, none⟩) ps.length c (ps.flatMap csP)) (hx : ps[k]? = some x) (y : Pr) :
    Own ((w.setCell ⟨g, k * 2, none⟩ (.string ⟨y.1.toArray⟩)).setCell ⟨g, k * 2 + 1, none⟩ (.string ⟨y.2.toArray⟩)) 56 2 (some ⟨g, 0, none⟩) (ps.set k y).length c ((ps.set k y).flatMap csP) := by
  have hk : k < ps.length := (List.getElem?_eq_some_iff.1 hx).1
  have h1 := (h.set (k * 2) (.string ⟨y.1.toArray⟩)).set (k * 2 + 1) (.string ⟨y.2.toArray⟩)
  rw [show (ps.flatMap csP).set (k * 2) (.string ⟨y.1.toArray⟩) = (ps.flatMap csP).set (k * 2 + 0) (.string ⟨y.1.toArray⟩) from rfl, flat_set csP 2 (fun _ => rfl) ps k 0 x (y.1, x.2) _ hx (by omega) rfl,
    flat_set csP 2 (fun _ => rfl) (ps.set k (y.1, x.2)) k 1 (y.1, x.2) y _ (by rw [List.getElem?_set_self hk]) (by omega) rfl, List.set_set] at h1
  rwa [List.length_set]
theorem own_text {w : World} {g c k : Nat} {ss : List Bs} {x : Bs} (h : Own w 9 1 (some ⟨g, 0, none⟩) ss.length c (ss.flatMap csS)) (hx : ss[k]? = some x) (y : Bs) :
    Own (w.setCell ⟨g, k, none⟩ (.string ⟨y.toArray⟩)) 9 1 (some ⟨g, 0, none⟩) (ss.set k y).length c ((ss.set k y).flatMap csS) := by
  have h1 := h.set k (.string ⟨y.toArray⟩)
  have h2 := flat_set csS 1 (fun _ => rfl) ss k 0 x y (.string ⟨y.toArray⟩) hx (by omega) rfl
  rw [Nat.mul_one, Nat.add_zero] at h2
  rw [h2] at h1
  rwa [List.length_set]
theorem flat_put {T : Type} (cells : T → List Value) (size : Nat) (hsz : ∀ x, (cells x).length = size) : ∀ (l : List T) (k : Nat) (y : T), k < l.length → (l.flatMap cells).take (k * size) ++ cells y ++ (l.flatMap cells).drop (k * size + size) = (l.set k y).flatMap cells
  | [], k, y, h => by simp at h
  | z :: t, 0, y, h => by
    have hd : List.drop size (cells z ++ t.flatMap cells) = t.flatMap cells := by
      rw [List.drop_append_of_le_length (by rw [hsz]; exact Nat.le_refl _), List.drop_of_length_le (by rw [hsz]; exact Nat.le_refl _)]; rfl
    simp only [List.flatMap_cons, Nat.zero_mul, List.take_zero, List.nil_append, Nat.zero_add, List.set_cons_zero, hd]
  | z :: t, k + 1, y, h => by
    have ih := flat_put cells size hsz t k y (by simpa using h)
    have e1 : List.take ((k + 1) * size) (cells z ++ t.flatMap cells) = cells z ++ List.take (k * size) (t.flatMap cells) := by
      rw [Nat.succ_mul, Nat.add_comm, show size + k * size = (cells z).length + k * size by rw [hsz], List.take_length_add_append]
    have e2 : List.drop ((k + 1) * size + size) (cells z ++ t.flatMap cells) = List.drop (k * size + size) (t.flatMap cells) := by
      rw [Nat.succ_mul, show k * size + size + size = (cells z).length + (k * size + size) by rw [hsz]; omega, List.drop_length_add_append]
    simp only [List.flatMap_cons, List.set_cons_succ, e1, e2, ← ih, List.append_assoc]
theorem take_put {α : Type} (l y : List α) (a s n : Nat) (hy : y.length = s) (h : a + s ≤ n) (hl : n ≤ l.length) : (l.take a ++ y ++ l.drop (a + s)).take n = (l.take n).take a ++ y ++ (l.take n).drop (a + s) := by
  have h1 : (l.take a).length = a := by simp; omega
  have h2 : (l.take a ++ y).length = a + s := by rw [List.length_append, h1, hy]
  have h3 : (l.take n).take a = l.take a := by rw [List.take_take, Nat.min_eq_left (by omega)]
  rw [List.take_append, List.take_append, List.drop_take, h2, h1, h3, List.take_of_length_le (l := l.take a) (by omega), List.take_of_length_le (l := y) (by omega)]
theorem own_kid {w : World} {g c k : Nat} {ks : List Kd} (h : Own w 59 33 (some ⟨g, 0, none⟩) ks.length c (ks.flatMap csK)) (hk : k < ks.length) (y : Kd) {cur : Array Value} (hc : own? w g = some cur) :
    Own (w.setRow g (spl cur (k * 33) y.c)) 59 33 (some ⟨g, 0, none⟩) (ks.set k y).length c ((ks.set k y).flatMap csK) ∧ k * 33 + 33 ≤ cur.size := by
  rcases h.block with ⟨h0, ⟨h1, _⟩ | ⟨g', cur', h1, hb, h2, h3, h4, h5⟩⟩
  · cases h1
  · cases h1
    rw [own?_blk hb] at hc
    cases hc
    have hlen : k * 33 + 33 ≤ ks.length * 33 := by omega
    have hcs : ks.length * 33 ≤ cur.size := by rw [h4]; exact Nat.mul_le_mul_right _ h2
    have hsp : (spl cur (k * 33) y.c).size = cur.size := spl_size _ _ _ (by simp; omega)
    refine ⟨⟨by rw [flat_len csK 33 (fun x => by simp)], .inr ⟨g, c, spl cur (k * 33) y.c, rfl, Nat.zero_le _, setRow_heap w g cur _ _ _ hb, by rw [List.length_set]; exact h2, h3, by rw [hsp]; exact h4, ?_⟩⟩, by omega⟩
    rw [List.length_set, ← flat_put csK 33 (fun x => by simp) ks k y hk, ← h5]
    have hy : y.c.toList.length = 33 := by simp
    simp only [spl, Kd.c_size]
    exact take_put cur.toList y.c.toList (k * 33) 33 (ks.length * 33) hy (by omega) (by simpa using hcs)

theorem SpI.pair {w wr : World} {lo : Nat} {g : Nat} {sa ka : Option Addr} {pc sc kc : Nat} {nd : Array Value} {m : Nd} (h : SpI w wr lo (some ⟨g, 0, none⟩) sa ka pc sc kc nd m) {k : Nat} {x : Pr} (hx : m.pairs[k]? = some x) (y : Pr) :
    SpI w ((wr.setCell ⟨g, k * 2, none⟩ (.string ⟨y.1.toArray⟩)).setCell ⟨g, k * 2 + 1, none⟩ (.string ⟨y.2.toArray⟩)) lo (some ⟨g, 0, none⟩) sa ka pc sc kc nd ⟨m.pairs.set k y, m.seps, m.kids⟩ := by
  have hg := h.hi g (by simp [ab])
  have k1 : Kp [g] wr ((wr.setCell ⟨g, k * 2, none⟩ (.string ⟨y.1.toArray⟩)).setCell ⟨g, k * 2 + 1, none⟩ (.string ⟨y.2.toArray⟩)) := ((Kp.refl [g] wr).setCell _ (.inr (by simp))).setCell _ (.inr (by simp))
  refine ⟨h.kp.trans (k1.mono (fun a _ ha => by simp at ha; simp [ab, ha])), h.bx.kp k1 (by simp; omega), ⟨own_pair h.own.ps hx y, h.own.ss.kp k1 (fun a ha => ?_), h.own.ks.kp k1 (fun a ha => ?_), h.own.lo, h.own.d1, h.own.d2⟩, h.hi⟩
  · simp; rintro rfl; exact (h.own.d1 a (by simp [ab])).1 ha
  · simp; rintro rfl; exact (h.own.d1 a (by simp [ab])).2 ha
theorem SpI.text {w wr : World} {lo : Nat} {g : Nat} {pa ka : Option Addr} {pc sc kc : Nat} {nd : Array Value} {m : Nd} (h : SpI w wr lo pa (some ⟨g, 0, none⟩) ka pc sc kc nd m) {k : Nat} {x : Bs} (hx : m.seps[k]? = some x) (y : Bs) :
    SpI w (wr.setCell ⟨g, k, none⟩ (.string ⟨y.toArray⟩)) lo pa (some ⟨g, 0, none⟩) ka pc sc kc nd ⟨m.pairs, m.seps.set k y, m.kids⟩ := by
  have hg := h.hi g (by simp [ab])
  have k1 : Kp [g] wr (wr.setCell ⟨g, k, none⟩ (.string ⟨y.toArray⟩)) := (Kp.refl [g] wr).setCell _ (.inr (by simp))
  refine ⟨h.kp.trans (k1.mono (fun a _ ha => by simp at ha; simp [ab, ha])), h.bx.kp k1 (by simp; omega), ⟨h.own.ps.kp k1 (fun a ha => ?_), own_text h.own.ss hx y, h.own.ks.kp k1 (fun a ha => ?_), h.own.lo, h.own.d1, h.own.d2⟩, h.hi⟩
  · simp; rintro rfl; exact (h.own.d1 a ha).1 (by simp [ab])
  · simp; rintro rfl; exact h.own.d2 a (by simp [ab]) ha
theorem SpI.kid {w wr : World} {lo : Nat} {g : Nat} {pa sa : Option Addr} {pc sc kc : Nat} {nd : Array Value} {m : Nd} (h : SpI w wr lo pa sa (some ⟨g, 0, none⟩) pc sc kc nd m) {k : Nat} (hk : k < m.kids.length) (y : Kd) {cur : Array Value} (hc : own? wr g = some cur) :
    SpI w (wr.setRow g (spl cur (k * 33) y.c)) lo pa sa (some ⟨g, 0, none⟩) pc sc kc nd ⟨m.pairs, m.seps, m.kids.set k y⟩ := by
  have hg := h.hi g (by simp [ab])
  have k1 : Kp [g] wr (wr.setRow g (spl cur (k * 33) y.c)) := (Kp.refl [g] wr).setRow _ _ (.inr (by simp))
  refine ⟨h.kp.trans (k1.mono (fun a _ ha => by simp at ha; simp [ab, ha])), h.bx.kp k1 (by simp; omega), ⟨h.own.ps.kp k1 (fun a ha => ?_), h.own.ss.kp k1 (fun a ha => ?_), (own_kid h.own.ks hk y hc).1, h.own.lo, h.own.d1, h.own.d2⟩, h.hi⟩
  · simp; rintro rfl; exact (h.own.d1 a ha).2 (by simp [ab])
  · simp; rintro rfl; exact h.own.d2 a ha (by simp [ab])

/-- A list whose first places are written over. -/
def over {α : Type} (k : Nat) (y : α) (l : List α) : List α := List.replicate k y ++ l.drop k
theorem over_zero {α : Type} (y : α) (l : List α) : over 0 y l = l := by simp [over]
theorem over_len {α : Type} {k : Nat} (y : α) {l : List α} (h : k ≤ l.length) : (over k y l).length = l.length := by simp [over]; omega
theorem over_get {α : Type} {k : Nat} (y : α) {l : List α} {x : α} (h : l[k]? = some x) : (over k y l)[k]? = some x := by
  unfold over
  rw [List.getElem?_append_right (by simp), List.length_replicate, Nat.sub_self, List.getElem?_drop, Nat.add_zero, h]
theorem over_set0 {α : Type} {k : Nat} (y : α) {l : List α} (h : k < l.length) : (over k y l).set k y = over (k + 1) y l := by
  unfold over
  rw [List.set_append_right _ _ (by simp), List.length_replicate, Nat.sub_self, List.drop_eq_getElem_cons h, List.set_cons_zero, List.replicate_succ', List.append_assoc]
  rfl
theorem over_all {α : Type} (y : α) (l t : List α) : over l.length y (l ++ t) = List.replicate l.length y ++ t := by simp [over]

def xB (mark : UInt8) : Bs := [120, mark]
def yB (mark : UInt8) : Bs := [121, mark]
/-- A node written over. -/
def Nd.spoilt (n : Nd) (mark : UInt8) : Nd := ⟨List.replicate n.pairs.length (xB mark, []), List.replicate n.seps.length (xB mark), List.replicate n.kids.length ⟨mark.toNat, Dg.zero⟩⟩

end Go.Proofs.YtemicgccgcmmbaaGreat
