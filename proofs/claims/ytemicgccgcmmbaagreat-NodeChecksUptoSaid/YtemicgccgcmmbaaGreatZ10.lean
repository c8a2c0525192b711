/- The document's Check, Tag, Bare. -/
import Derived.Test.YtemicgccgcmmbaaGreatZ4
import Derived.Test.YtemicgccgcmmbaaGreatZ6
import Derived.Test.YtemicgccgcmmbaaGreatZ9
import Derived.Test.YtemicgccgcmmbaaGreatZ2
import Derived.Laws.StructEq
import Derived.Test.YtemicgccgcmmbaaGreatZ5
import Derived.Deep.Cut
import Derived.Deep.RegionHeld3
import Derived.Test.YtemicgccgcmmbaaGreatZ7
import Derived.Below
namespace Go.Proofs.YtemicgccgcmmbaaGreat
set_option linter.unusedVariables false
set_option linter.unusedSimpArgs false
open Go Go.RowKit

set_option maxHeartbeats 1000000 in set_option maxRecDepth 100000 in
theorem rcheck_any (p wd : Int) (pa sa ka : Option Addr) (pc sc kc : Nat) (n : Nd) (w : World) (h : NdAt w pa sa ka n) (ho : NdOk n) :
    Calls Tryz.prog 15 #[.agg #[.int .i64 p, .int .i64 wd], .agg #[.slice pa n.pairs.length pc, .slice sa n.seps.length sc, .slice ka n.kids.length kc]] w (Rets (.int .i64 (checkE p wd n)) w) := by
  cases hr : rightB p wd
  · have : checkE p wd n = 2 := by simp [checkE, hr]
    rw [this]
    have HR := Lib.hid hr; clear hr this
    go_enter Tryz.func15, Tryz.ntmps15
    go_wp2_with fail
    refine (rright_any _ _ _).mono ?_
    rintro e w' ⟨rfl, bs, m, rfl⟩
    rw [HR.out]
    go_wp2_with fail
    go_ret
    exact ⟨rfl, by (try simp only [alloc_ext, drew_ext, drewN_ext, ext_ext]); exact ⟨_, _, rfl⟩⟩
  · obtain ⟨P, rfl⟩ := Int.eq_ofNat_of_zero_le (show 0 ≤ p by have := rightB_iff.1 hr; omega)
    obtain ⟨d, rfl⟩ := Int.eq_ofNat_of_zero_le (show 0 ≤ wd by have := rightB_iff.1 hr; omega)
    have hS : ∀ W, NdAt W pa sa ka n → Calls Tryz.prog 43 #[.agg #[.int .i64 (P : Int), .int .i64 (d : Int)], .agg #[.slice pa n.pairs.length pc, .slice sa n.seps.length sc, .slice ka n.kids.length kc]] W (Rets (.bool (shapedB P d n)) W) := by
      intro W hW
      cases hl : leafB n
      · exact rshaped_branch P d pa sa ka pc sc kc n W hr hl hW ho
      · exact rshaped_leaf P d pa sa ka pc sc kc n W hr hl hW ho
    have hc : checkE P d n = if shapedB P d n = true then 0 else 70 := by simp [checkE, hr]
    rw [hc]
    obtain ⟨s, hs⟩ : ∃ s, shapedB P d n = s := ⟨_, rfl⟩
    rw [hs] at hS ⊢
    have HS := Lib.hid hS
    have HR := Lib.hid hr
    have H := Lib.hid h
    clear hS hr hs hc h ho
    cases s
    · go_enter Tryz.func15, Tryz.ntmps15
      go_wp2_with fail
      refine (rright_any _ _ _).mono ?_
      rintro e w' ⟨rfl, bs, m, rfl⟩
      rw [HR.out]
      go_wp2_with fail
      refine (HS.out _ (H.out.kp0 ((((Kp.refl [] _).alloc _).alloc _).ext _ _))).mono ?_
      rintro e w' ⟨rfl, bs2, m2, rfl⟩
      go_wp2_with fail
      go_ret
      exact ⟨rfl, by (try simp only [alloc_ext, drew_ext, drewN_ext, ext_ext]); exact ⟨_, _, rfl⟩⟩
    · go_enter Tryz.func15, Tryz.ntmps15
      go_wp2_with fail
      refine (rright_any _ _ _).mono ?_
      rintro e w' ⟨rfl, bs, m, rfl⟩
      rw [HR.out]
      go_wp2_with fail
      refine (HS.out _ (H.out.kp0 ((((Kp.refl [] _).alloc _).alloc _).ext _ _))).mono ?_
      rintro e w' ⟨rfl, bs2, m2, rfl⟩
      go_wp2_with fail
      go_ret
      exact ⟨rfl, by (try simp only [alloc_ext, drew_ext, drewN_ext, ext_ext]); exact ⟨_, _, rfl⟩⟩

set_option maxHeartbeats 1000000 in set_option maxRecDepth 100000 in
theorem rtag_any (pa sa ka : Option Addr) (pc sc kc : Nat) (n : Nd) (w : World) :
    Calls Tryz.prog 19 #[.agg #[.slice pa n.pairs.length pc, .slice sa n.seps.length sc, .slice ka n.kids.length kc]] w (Rets (.string ⟨(tagN n).toArray⟩) w) := by
  cases hl : leafB n
  · have hl2 : decide (n.seps.length = 0 ∧ n.kids.length = 0) = false := hl
    have ht : tagN n = [98, 114, 97, 110, 99, 104] := by unfold tagN; rw [hl]; rfl
    rw [ht]
    have HL := Lib.hid hl2
    clear hl hl2 ht
    go_enter Tryz.func19, Tryz.ntmps19
    go_wp2_with fail
    refine (rleaf_any _ _ _ _ _ _ _ _ _ _).mono ?_
    rintro e w' ⟨rfl, bs, m, rfl⟩
    rw [HL.out]
    go_wp2_with fail
    go_ret
    exact ⟨rfl, by (try simp only [alloc_ext, drew_ext, drewN_ext, ext_ext]); exact ⟨_, _, rfl⟩⟩
  · have hl2 : decide (n.seps.length = 0 ∧ n.kids.length = 0) = true := hl
    have ht : tagN n = [108, 101, 97, 102] := by unfold tagN; rw [hl]; rfl
    rw [ht]
    have HL := Lib.hid hl2
    clear hl hl2 ht
    go_enter Tryz.func19, Tryz.ntmps19
    go_wp2_with fail
    refine (rleaf_any _ _ _ _ _ _ _ _ _ _).mono ?_
    rintro e w' ⟨rfl, bs, m, rfl⟩
    rw [HL.out]
    go_wp2_with fail
    go_ret
    exact ⟨rfl, by (try simp only [alloc_ext, drew_ext, drewN_ext, ext_ext]); exact ⟨_, _, rfl⟩⟩

/-- The first kids of a list have lost their pages. -/
def bareK (k : Nat) (l : List Kd) : List Kd := (l.take k).map (fun x => ⟨0, x.sum⟩) ++ l.drop k
theorem bareK_zero (l : List Kd) : bareK 0 l = l := by simp [bareK]
theorem bareK_len (k : Nat) (l : List Kd) : (bareK k l).length = l.length := by simp [bareK]; omega
theorem bareK_get {k : Nat} {l : List Kd} {x : Kd} (h : l[k]? = some x) : (bareK k l)[k]? = some x := by
  obtain ⟨hk, rfl⟩ := List.getElem?_eq_some_iff.1 h
  unfold bareK
  rw [List.getElem?_append_right (by simp; omega)]
  simp only [List.length_map, List.length_take, List.getElem?_drop]
  rw [show k + (k - min k l.length) = k by omega, h]
theorem bareK_set {k : Nat} {l : List Kd} {x : Kd} (h : l[k]? = some x) : (bareK k l).set k ⟨0, x.sum⟩ = bareK (k + 1) l := by
  obtain ⟨hk, rfl⟩ := List.getElem?_eq_some_iff.1 h
  unfold bareK
  rw [List.set_append_right _ _ (by simp; omega)]
  simp only [List.length_map, List.length_take]
  rw [show k - min k l.length = 0 by omega, List.drop_eq_getElem_cons hk, List.set_cons_zero, List.take_add_one, h, Option.toList_some, List.map_append, List.append_assoc]
  rfl
theorem bareK_all (l : List Kd) : bareK l.length l = l.map (fun x => ⟨0, x.sum⟩) := by simp [bareK]

/-- The kids lose their pages, one by one. -/
structure BrI (W0 wr : World) (B2 B : Nat) (pa sa ka : Option Addr) (pc sc kc : Nat) (m : Nd) : Prop where
  kp : Kp [] W0 wr
  b2 : Blk wr B2 28 #[.slice none 0 0, .slice none 0 0, .slice none 0 0]
  b3 : Blk wr B 28 #[.slice pa m.pairs.length pc, .slice sa m.seps.length sc, .slice ka m.kids.length kc]
  own : Own3 wr W0.heap.size pa sa ka pc sc kc m
  lt : B2 < W0.heap.size
  ne : B ∉ ab ka

theorem BrI.page {W0 wr : World} {B2 B g : Nat} {pa sa : Option Addr} {pc sc kc : Nat} {m : Nd} (h : BrI W0 wr B2 B pa sa (some ⟨g, 0, none⟩) pc sc kc m) {k : Nat} {x : Kd} (hx : m.kids[k]? = some x) :
    BrI W0 (wr.setCell ⟨g, k * 33, none⟩ (.int .u32 0)) B2 B pa sa (some ⟨g, 0, none⟩) pc sc kc ⟨m.pairs, m.seps, m.kids.set k ⟨0, x.sum⟩⟩ := by
  have hg := h.own.lo g (by simp [ab])
  have hne := h.ne
  have hlt := h.lt
  have k1 : Kp [g] wr (wr.setCell ⟨g, k * 33, none⟩ (.int .u32 0)) := (Kp.refl [g] wr).setCell _ (.inr (by simp))
  refine ⟨h.kp.from k1 (fun a ha => by simp at ha; subst ha; exact .inl hg), h.b2.kp k1 (by simp; omega), ?_, ⟨h.own.ps.kp k1 (fun a ha => ?_), h.own.ss.kp k1 (fun a ha => ?_), own_page h.own.ks hx 0, h.own.lo, h.own.d1, h.own.d2⟩, hlt, hne⟩
  · rw [show (⟨m.pairs, m.seps, m.kids.set k ⟨0, x.sum⟩⟩ : Nd).kids.length = m.kids.length from List.length_set ..]
    exact h.b3.kp k1 (fun e => hne (by simpa [ab] using e))
  · simp; rintro rfl; exact (h.own.d1 a ha).2 (by simp [ab])
  · simp; rintro rfl; exact h.own.d2 a ha (by simp [ab])

set_option maxHeartbeats 2000000 in
set_option maxRecDepth 100000 in
theorem rbare_any (pa sa ka : Option Addr) (pc sc kc : Nat) (n : Nd) (w : World) (h : NdAt w pa sa ka n) (ho : NdOk n) :
    Calls Tryz.prog 16 #[.agg #[.slice pa n.pairs.length pc, .slice sa n.seps.length sc, .slice ka n.kids.length kc]] w (CopyPost n.bare w) := by
  have hnk := ho.nk
  obtain ⟨W0, hW0⟩ : ∃ W0, W0 = (w.alloc (.cells #[.slice pa n.pairs.length pc, .slice sa n.seps.length sc, .slice ka n.kids.length kc] 28)).alloc (.cells #[.slice none 0 0, .slice none 0 0, .slice none 0 0] 28) := ⟨_, rfl⟩
  have kw : Kp [] w W0 := by rw [hW0]; exact ((Kp.refl [] w).alloc _).alloc _
  have b1 : Blk W0 (w.heap.size + 1) 28 #[.slice none 0 0, .slice none 0 0, .slice none 0 0] := by
    rw [hW0]
    have h := Blk.new (w.alloc (.cells #[.slice pa n.pairs.length pc, .slice sa n.seps.length sc, .slice ka n.kids.length kc] 28)) 28 #[.slice none 0 0, .slice none 0 0, .slice none 0 0]
    simpa using h
  have hz0 : W0.heap.size = w.heap.size + 2 := by rw [hW0]; simp
  have H := Lib.hid (h.kp0 kw); have HO := Lib.hid ho; have KW := Lib.hid kw; have B1 := Lib.hid b1; have HZ := Lib.hid hz0; have HW0 := Lib.hid hW0
  clear h ho kw b1 hz0 hW0
  go_enter Tryz.func16, Tryz.ntmps16
  go_wp2_with fail
  rw [← HW0.out]
  refine (refCopy_any _ _ _ _ _ _ n _ H.out HO.out).mono ?_
  rintro e w1 ⟨qa, ta, la, qc, tc, lc, rfl, ow, k1⟩
  have hz1 := k1.size
  have hz0 := HZ.out
  have BI : Hid (BrI W0 (w1.alloc (.cells #[.slice qa n.pairs.length qc, .slice ta n.seps.length tc, .slice la n.kids.length lc] 28)) (w.heap.size + 1) w1.heap.size qa ta la qc tc lc ⟨n.pairs, n.seps, bareK 0 n.kids⟩) := Lib.hid (by
    rw [bareK_zero]
    exact ⟨k1.alloc _, (B1.out.kp k1 (by simp)).alloc _, Blk.new _ _ _, ow.kp ((Kp.refl [] w1).alloc _) (by simp), by omega, fun e => by have := ow.ks.lt _ e; omega⟩)
  clear ow k1
  go_wp2_with fail
  go_loopw [4] (fun i wr => ∃ (k : Nat), i = .int .i64 k ∧ k ≤ n.kids.length ∧ Hid (BrI W0 wr (w.heap.size + 1) w1.heap.size qa ta la qc tc lc ⟨n.pairs, n.seps, bareK k n.kids⟩)) (fun i _ => n.kids.length - (intOf i).toNat)
  case atStart => exact ⟨0, rfl, Nat.zero_le _, BI⟩
  case round =>
    clear BI
    obtain ⟨k, rfl, hk, BI⟩ := hrel
    have c0 := BI.out.b3.cell 0; have c1 := BI.out.b3.cell 1; have c2 := BI.out.b3.cell 2; have l3 := BI.out.b3.lt
    simp only [bareK_len] at c2
    simp at c0 c1 c2
    by_cases hlt : k < n.kids.length
    · obtain ⟨x, hx⟩ : ∃ x, n.kids[k]? = some x := ⟨_, List.getElem?_eq_getElem hlt⟩
      rcases BI.out.own.ks.block.2 with ⟨_, h1, _⟩ | ⟨g, cur, rfl, hb, h2, h3, h4, h5⟩
      · rw [bareK_len] at h1; omega
      have f1 := hb.frozen (k * 33)
      have lg := hb.lt
      have hcur : k * 33 < cur.size := by
        rw [h4]
        simp only [bareK_len] at h2
        omega
      have cg : wr.cell? ⟨g, k * 33, none⟩ = some cur[k * 33] := by rw [hb.cell]; exact Array.getElem?_eq_getElem hcur
      obtain ⟨u, hu⟩ : ∃ u, cur[k * 33] = u := ⟨_, rfl⟩
      rw [hu] at cg
      have HS := Lib.hid (BI.out.page (bareK_get hx))
      have HX := Lib.hid hx
      clear hx h2 h3 h4 h5 hb hu hcur
      go_wp2_with fail
      go_roundw
      case rel => exact ⟨k + 1, by go_num, by omega, Lib.hid (by have h := HS.out; rw [bareK_set HX.out] at h; exact h)⟩
      case measure => simp [intOf]; omega
    · obtain rfl : k = n.kids.length := by omega
      have d0 := BI.out.b2.cell 0; have d1 := BI.out.b2.cell 1; have d2 := BI.out.b2.cell 2; have l2 := BI.out.b2.lt
      have g0 := BI.out.b2.frozen 0; have g1 := BI.out.b2.frozen 1; have g2 := BI.out.b2.frozen 2
      simp at d0 d1 d2
      go_wp2_with fail
      have hf := copy_fin (w := w) (W := W0) (wF := wr) (B := w.heap.size + 1) (n := n.bare) (pa := qa) (sa := ta) (ka := la) (pc := qc) (sc := tc) (kc := lc) KW.out (by omega) (by have := HZ.out; omega) BI.out.b2 BI.out.kp
        BI.out.own.ps BI.out.own.ss (by have h := BI.out.own.ks; rw [bareK_all] at h; exact h) BI.out.own.lo BI.out.own.d1 BI.out.own.d2
        (a := .slice qa n.pairs.length qc) (b := .slice ta n.seps.length tc) (c := .slice la n.kids.length lc) rfl
      refine nd_ret1 (w.heap.size + 1) rfl rfl hf.1 rfl ?_
      refine ⟨qa, ta, la, qc, tc, lc, ?_, hf.2.1, hf.2.2⟩
      simp [Nd.bare]

end Go.Proofs.YtemicgccgcmmbaaGreat

/- Pairs are compared. -/
namespace Go.Proofs.YtemicgccgcmmbaaGreat
set_option linter.unusedVariables false
set_option linter.unusedSimpArgs false
open Go Go.RowKit

theorem eq_pair0 (w : World) (a b c d : Bs) : (Op.equalIn 10000 56 (.agg #[.string ⟨a.toArray⟩, .string ⟨b.toArray⟩]) (.agg #[.string ⟨c.toArray⟩, .string ⟨d.toArray⟩])).run Tryz.prog w = .ok (a == c && b == d) w := by
  rw [run_equalIn_agg w 9999 56 _ _ (by kernel_rfl) (by kernel_rfl)]
  have hf : (Tryz.prog.fieldsOf 56).toList.map (fun f => (f.type, f.offset)) = [(9, 0), (9, 1)] := by kernel_rfl
  have hp : ∀ f ∈ (Tryz.prog.fieldsOf 56).toList, f.name ≠ "_" := by
    have : ((Tryz.prog.fieldsOf 56).toList.all fun f => f.name != "_") = true := by kernel_rfl
    intro f hf; simpa using List.all_eq_true.1 this f hf
  generalize (Tryz.prog.fieldsOf 56).toList = fs at hf hp
  obtain ⟨f0, f1, rfl⟩ : ∃ f0 f1, fs = [f0, f1] := by
    have hl : fs.length = 2 := by have := congrArg List.length hf; simpa using this
    match fs, hl with
    | [a, b], _ => exact ⟨a, b, rfl⟩
  · simp only [List.map_cons, List.map_nil, List.cons.injEq, Prod.mk.injEq, and_true] at hf
    obtain ⟨⟨a0, a1⟩, b0, b1⟩ := hf
    have n0 := hp f0 (by simp)
    have n1 := hp f1 (by simp)
    have hu : Tryz.prog.underlying 9 = some .string := Tryz.underlying9
    have hs : ∀ x y : Bs, (Op.equalIn 9999 9 (.string ⟨x.toArray⟩) (.string ⟨y.toArray⟩)).run Tryz.prog w = .ok (x == y) w := fun x y => by
      rw [run_equalIn_string w 9998 _ _ _ hu]; simp
    cases h1 : (a == c) <;> cases h2 : (b == d) <;>
      simp [Op.eqFields, n0, n1, a0, a1, b0, b1, part, isAgg, Sem.run_bind, run_underlying hu, hs, h1, h2, Sem.run_ite]
/-- Are two pairs the same? -/
def prEq (a b c d : Bs) : Bool := a == c && b == d
theorem prEq_iff {p q : Pr} : prEq p.1 p.2 q.1 q.2 = true ↔ p = q := by
  simp [prEq, Prod.ext_iff]
@[go_sem ↓] theorem eq_pair (w : World) (a b c d : Bs) : (Op.equalIn 10000 56 (.agg #[.string ⟨a.toArray⟩, .string ⟨b.toArray⟩]) (.agg #[.string ⟨c.toArray⟩, .string ⟨d.toArray⟩])).run Tryz.prog w = .ok (prEq a b c d) w := eq_pair0 w a b c d
@[go_sem] theorem guard_pair : Tryz.prog.eqGuardType Tryz.prog.depth 56 = false := by kernel_rfl

theorem pgN_iff {pages : Bool} {x y : Nd} : pgN pages x = pgN pages y ↔ x.pairs = y.pairs ∧ x.seps = y.seps ∧ x.kids.map (kdP pages) = y.kids.map (kdP pages) := by
  obtain ⟨a, b, c⟩ := x; obtain ⟨a', b', c'⟩ := y
  have h0 : ∀ c : List Kd, c.map (kdP true) = c := fun c => by
    have : kdP true = id := by funext k; rfl
    rw [this, List.map_id]
  have h1 : ∀ c : List Kd, c.map (kdP false) = c.map (fun k => ⟨0, k.sum⟩) := fun c => by
    have : kdP false = fun k => ⟨0, k.sum⟩ := by funext k; rfl
    rw [this]
  cases pages
  · simp only [pgN, Bool.false_eq_true, if_false, Nd.bare, Nd.mk.injEq, h1]
  · simp only [pgN, if_true, Nd.mk.injEq, h0]

theorem take_eq_step {α : Type} {l m : List α} {k : Nat} {x y : α} (h : l.take k = m.take k) (hx : l[k]? = some x) (hy : m[k]? = some y) (e : x = y) : l.take (k + 1) = m.take (k + 1) := by
  rw [List.take_add_one, List.take_add_one, hx, hy, h, e]
theorem ne_at {α : Type} {l m : List α} {k : Nat} {x y : α} (hx : l[k]? = some x) (hy : m[k]? = some y) (e : x ≠ y) : l ≠ m := fun h => e (by rw [h, hy] at hx; exact (Option.some.inj hx).symm)

end Go.Proofs.YtemicgccgcmmbaaGreat

/- The document's comparison of two nodes. -/
namespace Go.Proofs.YtemicgccgcmmbaaGreat
set_option linter.unusedVariables false
set_option linter.unusedSimpArgs false
open Go Go.RowKit

theorem run_part_dg (w : World) (k : Kd) : (part 36 k.c 1).run Tryz.prog w = .ok (.agg k.sum.c) w := by
  have hu : Tryz.prog.underlying 36 = some (.array 32 5) := Tryz.underlying36
  have hs : (Tryz.prog.info? 36).map (·.size) = some 32 := by kernel_rfl
  cases hq : Tryz.prog.info? 36 with
  | none => simp [hq] at hs
  | some i =>
    have hi : i.size = 32 := by simpa [hq] using hs
    have he : k.c.extract 1 (1 + 32) = k.sum.c := Kd.extract1 k
    simp only [part, isAgg, Sem.run_bind, run_underlying hu, Result.andThen_ok, Sem.run_pure, if_true, sizeOf, typeInfo, run_program, hq, hi, he]
theorem run_part_pg (w : World) (k : Kd) : (part 57 k.c 0).run Tryz.prog w = .ok (.int .u32 (k.page : Int)) w := by
  have hu : Tryz.prog.underlying 57 = some (.int .u32) := Tryz.underlying57
  have h0 := Kd.get0 k
  simp [part, isAgg, Sem.run_bind, run_underlying hu, Kd.getE0]
theorem eq_dg9 (w : World) (a b : Dg) : (Op.equalIn 9999 36 (.agg a.c) (.agg b.c)).run Tryz.prog w = .ok (decide (a = b)) w := by
  have := run_equalIn_u8 (P := Tryz.prog) w 9997 36 32 5 Tryz.underlying36 Tryz.underlying5 (by kernel_rfl) a.l b.l a.h b.h
  rw [show (decide (a = b)) = (a.l == b.l) by rw [Bool.eq_iff_iff]; simp; exact ⟨fun h => by rw [h], Dg.ext'⟩]
  exact this
theorem kd_dec (a b : Kd) : decide (a = b) = (((a.page : Int) == (b.page : Int)) && decide (a.sum = b.sum)) := by
  obtain ⟨p, s⟩ := a; obtain ⟨p', s'⟩ := b
  rw [Bool.eq_iff_iff]; simp only [Kd.mk.injEq, decide_eq_true_eq, Bool.and_eq_true, beq_iff_eq, Int.ofNat_inj]
/-- Two fields are compared, the second where the first is alike. -/
theorem eqFields_two {P : Program} (w : World) (d : Nat) (xs ys : Array Value) (f0 f1 : Field) (x0 x1 y0 y1 : Value) (u0 u1 : Bool) (n0 : f0.name ≠ "_") (n1 : f1.name ≠ "_")
    (h0 : (part f0.type xs f0.offset).run P w = .ok x0 w) (h1 : (part f0.type ys f0.offset).run P w = .ok y0 w) (h2 : (Op.equalIn d f0.type x0 y0).run P w = .ok u0 w)
    (k0 : (part f1.type xs f1.offset).run P w = .ok x1 w) (k1 : (part f1.type ys f1.offset).run P w = .ok y1 w) (k2 : (Op.equalIn d f1.type x1 y1).run P w = .ok u1 w) :
    (Op.eqFields d xs ys [f0, f1]).run P w = .ok (u0 && u1) w := by
  cases u0 <;> cases u1 <;> simp [Op.eqFields, n0, n1, Sem.run_bind, h0, h1, h2, k0, k1, k2, Sem.run_ite]
theorem eq_kid0 (w : World) (a b : Kd) : (Op.equalIn 10000 59 (.agg a.c) (.agg b.c)).run Tryz.prog w = .ok (((a.page : Int) == (b.page : Int)) && decide (a.sum = b.sum)) w := by
  rw [run_equalIn_agg w 9999 59 _ _ (by kernel_rfl) (by kernel_rfl)]
  have hf : (Tryz.prog.fieldsOf 59).toList.map (fun f => (f.type, f.offset)) = [(57, 0), (36, 1)] := by kernel_rfl
  have hp : ∀ f ∈ (Tryz.prog.fieldsOf 59).toList, f.name ≠ "_" := by
    have : ((Tryz.prog.fieldsOf 59).toList.all fun f => f.name != "_") = true := by kernel_rfl
    intro f hf; simpa using List.all_eq_true.1 this f hf
  generalize (Tryz.prog.fieldsOf 59).toList = fs at hf hp
  obtain ⟨f0, f1, rfl⟩ : ∃ f0 f1, fs = [f0, f1] := by
    have hl : fs.length = 2 := by have := congrArg List.length hf; simpa using this
    match fs, hl with
    | [a, b], _ => exact ⟨a, b, rfl⟩
  simp only [List.map_cons, List.map_nil, List.cons.injEq, Prod.mk.injEq, and_true] at hf
  obtain ⟨⟨a0, a1⟩, b0, b1⟩ := hf
  exact eqFields_two w 9999 a.c b.c f0 f1 _ _ _ _ _ _ (hp f0 (by simp)) (hp f1 (by simp)) (by rw [a0, a1]; exact run_part_pg w a) (by rw [a0, a1]; exact run_part_pg w b) (by rw [a0]; exact run_equalIn_int w 9998 _ _ _ _ _ Tryz.underlying57)
    (by rw [b0, b1]; exact run_part_dg w a) (by rw [b0, b1]; exact run_part_dg w b) (by rw [b0]; exact eq_dg9 w a.sum b.sum)
@[go_sem ↓] theorem eq_kid (w : World) (a b : Kd) : (Op.equalIn 10000 59 (.agg a.c) (.agg b.c)).run Tryz.prog w = .ok (decide (a = b)) w := by
  rw [kd_dec]; exact eq_kid0 w a b
@[go_sem] theorem guard_kid : Tryz.prog.eqGuardType Tryz.prog.depth 59 = false := by kernel_rfl

set_option maxHeartbeats 1000000 in set_option maxRecDepth 100000 in
theorem refSame_any (pa sa ka qa ta la : Option Addr) (pc sc kc qc tc lc : Nat) (x y : Nd) (w : World) (hx : NdAt w pa sa ka x) (hy : NdAt w qa ta la y) (ox : NdOk x) (oy : NdOk y) :
    Calls Tryz.prog 10 #[.agg #[.slice pa x.pairs.length pc, .slice sa x.seps.length sc, .slice ka x.kids.length kc], .agg #[.slice qa y.pairs.length qc, .slice ta y.seps.length tc, .slice la y.kids.length lc]] w
      (Rets (.bool (decide (x = y))) w) := by
  have HX := Lib.hid hx; have HY := Lib.hid hy; clear hx hy
  have np := ox.np; have ns := ox.ns; have nk := ox.nk
  clear ox oy
  by_cases h1 : x.pairs.length = y.pairs.length
  case neg =>
    have hb : ((x.pairs.length : Int) != (y.pairs.length : Int)) = true := by simp only [bne_iff_ne, ne_eq]; omega
    have HF : Hid (decide (x = y) = false) := decide_eq_false (fun h => h1 (by rw [h]))
    clear h1
    go_enter Tryz.func10, Tryz.ntmps10
    go_wp2_with fail
    go_ret
    rw [HF.out]
    exact ⟨rfl, by (try simp only [alloc_ext, drew_ext, drewN_ext, ext_ext]); exact ⟨_, _, rfl⟩⟩
  have hb1 : ((x.pairs.length : Int) != (y.pairs.length : Int)) = false := by simp only [bne_eq_false_iff_eq]; omega
  by_cases h2 : x.seps.length = y.seps.length
  case neg =>
    have hb : ((x.seps.length : Int) != (y.seps.length : Int)) = true := by simp only [bne_iff_ne, ne_eq]; omega
    have HF : Hid (decide (x = y) = false) := decide_eq_false (fun h => h2 (by rw [h]))
    clear h1 h2
    go_enter Tryz.func10, Tryz.ntmps10
    go_wp2_with fail
    go_ret
    rw [HF.out]
    exact ⟨rfl, by (try simp only [alloc_ext, drew_ext, drewN_ext, ext_ext]); exact ⟨_, _, rfl⟩⟩
  have hb2 : ((x.seps.length : Int) != (y.seps.length : Int)) = false := by simp only [bne_eq_false_iff_eq]; omega
  by_cases h3 : x.kids.length = y.kids.length
  case neg =>
    have hb : ((x.kids.length : Int) != (y.kids.length : Int)) = true := by simp only [bne_iff_ne, ne_eq]; omega
    have HF : Hid (decide (x = y) = false) := decide_eq_false (fun h => h3 (by rw [h]))
    clear h1 h2 h3
    go_enter Tryz.func10, Tryz.ntmps10
    go_wp2_with fail
    go_ret
    rw [HF.out]
    exact ⟨rfl, by (try simp only [alloc_ext, drew_ext, drewN_ext, ext_ext]); exact ⟨_, _, rfl⟩⟩
  have hb3 : ((x.kids.length : Int) != (y.kids.length : Int)) = false := by simp only [bne_eq_false_iff_eq]; omega
  have g1 : x.pairs.length ≤ y.pairs.length := by omega
  have g1' : y.pairs.length ≤ x.pairs.length := by omega
  have g2 : x.seps.length ≤ y.seps.length := by omega
  have g2' : y.seps.length ≤ x.seps.length := by omega
  have g3 : x.kids.length ≤ y.kids.length := by omega
  have g3' : y.kids.length ≤ x.kids.length := by omega
  clear h1 h2 h3
  go_enter Tryz.func10, Tryz.ntmps10
  go_wp2_with fail
  clear hb1 hb2 hb3
  go_loopw [4, 5] (fun _ i wr => ∃ k bs n, i = .int .i64 (k : Nat) ∧ k ≤ x.pairs.length ∧ wr = ext ((w.alloc (.cells #[.slice pa x.pairs.length pc, .slice sa x.seps.length sc, .slice ka x.kids.length kc] 28)).alloc (.cells #[.slice qa y.pairs.length qc, .slice ta y.seps.length tc, .slice la y.kids.length lc] 28)) bs n ∧ Hid (x.pairs.take k = y.pairs.take k)) (fun _ i _ => x.pairs.length - (intOf i).toNat)
  case atStart => exact ⟨0, [], 0, rfl, Nat.zero_le _, ext_zero _, by simp [Hid]⟩
  case round =>
    obtain ⟨k, bs, n, rfl, hk, rfl, HE⟩ := hrel
    by_cases hlt : k < x.pairs.length
    · obtain ⟨p, hp⟩ : ∃ p, x.pairs[k]? = some p := ⟨_, List.getElem?_eq_getElem hlt⟩
      obtain ⟨q, hq⟩ : ∃ q, y.pairs[k]? = some q := ⟨_, List.getElem?_eq_getElem (by omega)⟩
      obtain ⟨b, o, rfl, hb, cf1, cf2⟩ := HX.out.ps k p hp
      obtain ⟨b', o', rfl, hb', cg1, cg2⟩ := HY.out.ps k q hq
      have HP := Lib.hid hp; have HQ := Lib.hid hq; clear hp hq
      rcases hd : prEq p.1 p.2 q.1 q.2 with _ | _
      · have HF : Hid (decide (x = y) = false) := decide_eq_false (fun h => ne_at HP.out HQ.out (fun e => by rw [prEq_iff.2 e] at hd; cases hd) (by rw [h]))
        go_wp2_with fail
        refine wp_region_ext (by kernel_rfl) (by kernel_rfl) ?_
        repeat (go_big_quiet_step (fail))
        (refine wpQuiet_nil ?_; intro _ hw'; obtain ⟨⟨bsq, nq⟩, hw''⟩ := hw'; subst hw'')
        go_wp2_with fail
        go_ret
        rw [HF.out]
        exact ⟨rfl, by (try simp only [alloc_ext, drew_ext, drewN_ext, ext_ext]); exact ⟨_, _, rfl⟩⟩
      · have HE' : Hid (x.pairs.take (k + 1) = y.pairs.take (k + 1)) := Lib.hid (take_eq_step HE.out HP.out HQ.out (prEq_iff.1 hd))
        go_wp2_with fail
        refine wp_region_ext (by kernel_rfl) (by kernel_rfl) ?_
        repeat (go_big_quiet_step (fail))
        (refine wpQuiet_nil ?_; intro _ hw'; obtain ⟨⟨bsq, nq⟩, hw''⟩ := hw'; subst hw'')
        go_wp2_with fail
        go_roundw
        case rel => exact ⟨k + 1, _, _, by go_num, by omega, by (try simp only [ext_alloc, ext_drew, ext_drewN, ext_ext]); rfl, HE'⟩
        case measure => simp [intOf]; omega
    · have hpe : Hid (x.pairs = y.pairs) := Lib.hid (by have := HE.out; rwa [List.take_of_length_le (by omega), List.take_of_length_le (by omega)] at this)
      clear HE
      go_wp2_with fail
      go_loopw [4, 6] (fun _ i wr => ∃ k bs n, i = .int .i64 (k : Nat) ∧ k ≤ x.seps.length ∧ wr = ext ((w.alloc (.cells #[.slice pa x.pairs.length pc, .slice sa x.seps.length sc, .slice ka x.kids.length kc] 28)).alloc (.cells #[.slice qa y.pairs.length qc, .slice ta y.seps.length tc, .slice la y.kids.length lc] 28)) bs n ∧ Hid (x.seps.take k = y.seps.take k)) (fun _ i _ => x.seps.length - (intOf i).toNat)
      case atStart => exact ⟨0, _, _, rfl, Nat.zero_le _, rfl, by simp [Hid]⟩
      case round =>
        obtain ⟨k, bs, n, rfl, hk, rfl, HE⟩ := hrel
        by_cases hlt : k < x.seps.length
        · obtain ⟨p, hp⟩ : ∃ p, x.seps[k]? = some p := ⟨_, List.getElem?_eq_getElem hlt⟩
          obtain ⟨q, hq⟩ : ∃ q, y.seps[k]? = some q := ⟨_, List.getElem?_eq_getElem (by omega)⟩
          obtain ⟨b, o, rfl, hb, cf1⟩ := HX.out.ss k p hp
          obtain ⟨b', o', rfl, hb', cg1⟩ := HY.out.ss k q hq
          have HP := Lib.hid hp; have HQ := Lib.hid hq; clear hp hq
          rcases hd : (p == q) with _ | _
          · have HF : Hid (decide (x = y) = false) := decide_eq_false (fun h => ne_at HP.out HQ.out (by simpa using hd) (by rw [h]))
            go_wp2_with fail
            refine wp_region_ext (by kernel_rfl) (by kernel_rfl) ?_
            repeat (go_big_quiet_step (fail))
            (refine wpQuiet_nil ?_; intro _ hw'; obtain ⟨⟨bsq, nq⟩, hw''⟩ := hw'; subst hw'')
            go_wp2_with fail
            go_ret
            rw [HF.out]
            exact ⟨rfl, by (try simp only [alloc_ext, drew_ext, drewN_ext, ext_ext]); exact ⟨_, _, rfl⟩⟩
          · have HE' : Hid (x.seps.take (k + 1) = y.seps.take (k + 1)) := Lib.hid (take_eq_step HE.out HP.out HQ.out (by simpa using hd))
            go_wp2_with fail
            refine wp_region_ext (by kernel_rfl) (by kernel_rfl) ?_
            repeat (go_big_quiet_step (fail))
            (refine wpQuiet_nil ?_; intro _ hw'; obtain ⟨⟨bsq, nq⟩, hw''⟩ := hw'; subst hw'')
            go_wp2_with fail
            go_roundw
            case rel => exact ⟨k + 1, _, _, by go_num, by omega, by (try simp only [ext_alloc, ext_drew, ext_drewN, ext_ext]); rfl, HE'⟩
            case measure => simp [intOf]; omega
        · have hse : Hid (x.seps = y.seps) := Lib.hid (by have := HE.out; rwa [List.take_of_length_le (by omega), List.take_of_length_le (by omega)] at this)
          clear HE
          go_wp2_with fail
          go_loopw [4, 7] (fun _ i wr => ∃ k bs n, i = .int .i64 (k : Nat) ∧ k ≤ x.kids.length ∧ wr = ext ((w.alloc (.cells #[.slice pa x.pairs.length pc, .slice sa x.seps.length sc, .slice ka x.kids.length kc] 28)).alloc (.cells #[.slice qa y.pairs.length qc, .slice ta y.seps.length tc, .slice la y.kids.length lc] 28)) bs n ∧ Hid (x.kids.take k = y.kids.take k)) (fun _ i _ => x.kids.length - (intOf i).toNat)
          case atStart => exact ⟨0, _, _, rfl, Nat.zero_le _, rfl, by simp [Hid]⟩
          case round =>
            obtain ⟨k, bs, n, rfl, hk, rfl, HE⟩ := hrel
            by_cases hlt : k < x.kids.length
            · obtain ⟨p, hp⟩ : ∃ p, x.kids[k]? = some p := ⟨_, List.getElem?_eq_getElem hlt⟩
              obtain ⟨q, hq⟩ : ∃ q, y.kids[k]? = some q := ⟨_, List.getElem?_eq_getElem (by omega)⟩
              obtain ⟨b, o, rfl, hb, r1⟩ := HX.out.ks k p hp
              obtain ⟨b', o', rfl, hb', r2⟩ := HY.out.ks k q hq
              have HP := Lib.hid hp; have HQ := Lib.hid hq; clear hp hq
              rcases hd : decide (p = q) with _ | _
              · have HF : Hid (decide (x = y) = false) := decide_eq_false (fun h => ne_at HP.out HQ.out (by simpa using hd) (by rw [h]))
                go_wp2_with fail
                refine wp_region_ext (by kernel_rfl) (by kernel_rfl) ?_
                repeat (go_big_quiet_step (fail))
                (refine wpQuiet_nil ?_; intro _ hw'; obtain ⟨⟨bsq, nq⟩, hw''⟩ := hw'; subst hw'')
                go_wp2_with fail
                go_ret
                rw [HF.out]
                exact ⟨rfl, by (try simp only [alloc_ext, drew_ext, drewN_ext, ext_ext]); exact ⟨_, _, rfl⟩⟩
              · have HE' : Hid (x.kids.take (k + 1) = y.kids.take (k + 1)) := Lib.hid (take_eq_step HE.out HP.out HQ.out (by simpa using hd))
                go_wp2_with fail
                refine wp_region_ext (by kernel_rfl) (by kernel_rfl) ?_
                repeat (go_big_quiet_step (fail))
                (refine wpQuiet_nil ?_; intro _ hw'; obtain ⟨⟨bsq, nq⟩, hw''⟩ := hw'; subst hw'')
                go_wp2_with fail
                go_roundw
                case rel => exact ⟨k + 1, _, _, by go_num, by omega, by (try simp only [ext_alloc, ext_drew, ext_drewN, ext_ext]); rfl, HE'⟩
                case measure => simp [intOf]; omega
            · have HF : Hid (decide (x = y) = true) := Lib.hid (decide_eq_true (by
                have hke := HE.out
                rw [List.take_of_length_le (by omega), List.take_of_length_le (by omega)] at hke
                have h1 := hpe.out; have h2 := hse.out
                obtain ⟨a, b, c⟩ := x; obtain ⟨a', b', c'⟩ := y
                simp only at h1 h2 hke
                rw [h1, h2, hke]))
              go_wp2_with fail
              go_ret
              rw [HF.out]
              exact ⟨rfl, by (try simp only [alloc_ext, drew_ext, drewN_ext, ext_ext]); exact ⟨_, _, rfl⟩⟩

end Go.Proofs.YtemicgccgcmmbaaGreat

/- The two nodes of 'lives', in plain words. -/
namespace Go.Proofs.YtemicgccgcmmbaaGreat
set_option linter.unusedVariables false
set_option linter.unusedSimpArgs false
open Go Go.RowKit

def lN : Nd := ⟨[([97], [120]), ([98], [])], [], []⟩
def bN : Nd := ⟨[], [[109]], [⟨5, Dg.pad [10, 11]⟩, ⟨9, Dg.pad [12, 13]⟩]⟩
def tS : Bs := [2, 2, 0, 0, 0, 5, 10, 11, 1, 109, 0, 0, 0, 9, 12, 13]

theorem l_size : SizeE 1024 2 lN = 9 := by decide +kernel
theorem l_pack : packE 1024 2 lN = 0 := by decide +kernel
theorem l_packS : packS 1024 2 lN = [1, 2, 1, 97, 1, 120, 1, 98, 0] := by decide +kernel
theorem b_pack : packE 1024 2 bN = 0 := by decide +kernel
theorem b_packS : packS 1024 2 bN = tS := by decide +kernel
theorem b_plain : mayE 1024 2 bN = 0 := by decide +kernel
theorem b_plainS : plainS 1024 2 bN = [2, 2, 10, 11, 1, 109, 12, 13] := by decide +kernel
theorem b_unpack : unpackP 1024 2 tS = some bN := by decide +kernel
theorem l_ok : NdOk lN := ⟨by decide, by decide, by decide, by decide, by decide, by decide⟩
theorem b_ok : NdOk bN := ⟨by decide, by decide, by decide, by decide, by decide, by decide⟩

end Go.Proofs.YtemicgccgcmmbaaGreat

/- 'lives' answers true. -/
namespace Go.Proofs.YtemicgccgcmmbaaGreat
set_option linter.unusedVariables false
set_option linter.unusedSimpArgs false
open Go Go.RowKit

def k5 : Kd := ⟨5, Dg.pad [10, 11]⟩
def k9 : Kd := ⟨9, Dg.pad [12, 13]⟩
def two : Array Value := k5.c ++ k9.c
def dA : Dg := Dg.pad [10, 11]
def dB : Dg := Dg.pad [12, 13]
def bd2 (t : TypeId) (x y : Value) : Sem Next := do pure (.value (← Instr.build t #[(0, x), (1, y)]))
def bs2 (t : TypeId) (x y : Value) : Sem Next := do pure (.value (← Instr.buildSlice t 2 #[(0, x), (1, y)]))
@[go_sem ↓] theorem exec_bd_dg (a : Act) (dst : Option Tmp) (x y : Operand) (ty : TypeId) (pos : String) (after : Array Edge) (guard : Option (Nat × Bool)) :
    execOp a.eval { dst, op := .build 36 #[(0, x), (1, y)], type := ty, pos, after, guard } = bd2 36 (a.eval x) (a.eval y) := by simp [execOp, bd2]
@[go_sem ↓] theorem exec_bd_kd (a : Act) (dst : Option Tmp) (x y : Operand) (ty : TypeId) (pos : String) (after : Array Edge) (guard : Option (Nat × Bool)) :
    execOp a.eval { dst, op := .build 59 #[(0, x), (1, y)], type := ty, pos, after, guard } = bd2 59 (a.eval x) (a.eval y) := by simp [execOp, bd2]
@[go_sem ↓] theorem exec_bs2_kd (a : Act) (dst : Option Tmp) (x y : Operand) (ty : TypeId) (pos : String) (after : Array Edge) (guard : Option (Nat × Bool)) :
    execOp a.eval { dst, op := .buildSlice 26 2 #[(0, x), (1, y)], type := ty, pos, after, guard } = bs2 26 (a.eval x) (a.eval y) := by simp [execOp, bs2]
@[go_sem] theorem build_dA (w : World) : (bd2 36 (.int .u8 10) (.int .u8 11)).run Tryz.prog w = .ok (.value (.agg dA.c)) w := by kernel_rfl
@[go_sem] theorem build_dB (w : World) : (bd2 36 (.int .u8 12) (.int .u8 13)).run Tryz.prog w = .ok (.value (.agg dB.c)) w := by kernel_rfl
@[go_sem] theorem build_k5 (w : World) : (bd2 59 (.int .u32 5) (.agg dA.c)).run Tryz.prog w = .ok (.value (.agg k5.c)) w := by kernel_rfl
@[go_sem] theorem build_k9 (w : World) : (bd2 59 (.int .u32 9) (.agg dB.c)).run Tryz.prog w = .ok (.value (.agg k9.c)) w := by kernel_rfl
@[go_sem] theorem build_two (w : World) : (bs2 26 (.agg k5.c) (.agg k9.c)).run Tryz.prog w = .ok (.value (.slice (some ⟨w.heap.size, 0, none⟩) 2 2)) (w.alloc (.cells two 59)) := by kernel_rfl

def lW (w : World) : World := (((((w.alloc (.cells #[.int .i64 1024, .int .i64 2] 23)).alloc (.cells #[.string ⟨#[97]⟩, .string ⟨#[120]⟩, .string ⟨#[98]⟩, .string ⟨#[]⟩] 56)).alloc (.cells #[.slice (some ⟨w.heap.size + 1, 0, none⟩) 2 2, .slice none 0 0, .slice none 0 0] 28)).alloc (.cells #[.string ⟨#[109]⟩] 9)).alloc (.cells two 59)).alloc (.cells #[.slice none 0 0, .slice (some ⟨w.heap.size + 1 + 1 + 1, 0, none⟩) 1 1, .slice (some ⟨w.heap.size + 1 + 1 + 1 + 1, 0, none⟩) 2 2] 28)

theorem lW_l (w : World) : NdAt (lW w) (some ⟨w.heap.size + 1, 0, none⟩) none none lN := by
  have hb : Blk (lW w) (w.heap.size + 1) 56 #[.string ⟨#[97]⟩, .string ⟨#[120]⟩, .string ⟨#[98]⟩, .string ⟨#[]⟩] := by
    have h := ((((Blk.new (w.alloc (.cells #[.int .i64 1024, .int .i64 2] 23)) 56 #[.string ⟨#[97]⟩, .string ⟨#[120]⟩, .string ⟨#[98]⟩, .string ⟨#[]⟩]).alloc (.cells #[.slice (some ⟨w.heap.size + 1, 0, none⟩) 2 2, .slice none 0 0, .slice none 0 0] 28)).alloc (.cells #[.string ⟨#[109]⟩] 9)).alloc (.cells two 59)).alloc (.cells #[.slice none 0 0, .slice (some ⟨w.heap.size + 1 + 1 + 1, 0, none⟩) 1 1, .slice (some ⟨w.heap.size + 1 + 1 + 1 + 1, 0, none⟩) 2 2] 28)
    simp only [World.size_alloc] at h
    exact h
  refine ⟨?_, SsAt.nil _ _, KsAt.nil _ _⟩
  intro i p hp
  match i, hp with
  | 0, hp => simp [lN] at hp; subst hp; exact ⟨_, _, rfl, hb.lt, hb.cell 0, hb.cell 1⟩
  | 1, hp => simp [lN] at hp; subst hp; exact ⟨_, _, rfl, hb.lt, hb.cell 2, hb.cell 3⟩
  | i + 2, hp => simp [lN] at hp
theorem lW_b (w : World) : NdAt (lW w) none (some ⟨w.heap.size + 1 + 1 + 1, 0, none⟩) (some ⟨w.heap.size + 1 + 1 + 1 + 1, 0, none⟩) bN := by
  have hb : Blk (lW w) (w.heap.size + 1 + 1 + 1) 9 #[.string ⟨#[109]⟩] := by
    have h := ((Blk.new (((w.alloc (.cells #[.int .i64 1024, .int .i64 2] 23)).alloc (.cells #[.string ⟨#[97]⟩, .string ⟨#[120]⟩, .string ⟨#[98]⟩, .string ⟨#[]⟩] 56)).alloc (.cells #[.slice (some ⟨w.heap.size + 1, 0, none⟩) 2 2, .slice none 0 0, .slice none 0 0] 28)) 9 #[.string ⟨#[109]⟩]).alloc (.cells two 59)).alloc (.cells #[.slice none 0 0, .slice (some ⟨w.heap.size + 1 + 1 + 1, 0, none⟩) 1 1, .slice (some ⟨w.heap.size + 1 + 1 + 1 + 1, 0, none⟩) 2 2] 28)
    simp only [World.size_alloc] at h
    exact h
  have hk : Blk (lW w) (w.heap.size + 1 + 1 + 1 + 1) 59 two := by
    have h := (Blk.new ((((w.alloc (.cells #[.int .i64 1024, .int .i64 2] 23)).alloc (.cells #[.string ⟨#[97]⟩, .string ⟨#[120]⟩, .string ⟨#[98]⟩, .string ⟨#[]⟩] 56)).alloc (.cells #[.slice (some ⟨w.heap.size + 1, 0, none⟩) 2 2, .slice none 0 0, .slice none 0 0] 28)).alloc (.cells #[.string ⟨#[109]⟩] 9)) 59 two).alloc (.cells #[.slice none 0 0, .slice (some ⟨w.heap.size + 1 + 1 + 1, 0, none⟩) 1 1, .slice (some ⟨w.heap.size + 1 + 1 + 1 + 1, 0, none⟩) 2 2] 28)
    simp only [World.size_alloc] at h
    exact h
  have hrow : ∀ o, rowAt? (lW w) ⟨w.heap.size + 1 + 1 + 1 + 1, o, none⟩ 33 = if o + 33 ≤ two.size then some (two.extract o (o + 33)) else none := by
    intro o; unfold Blk at hk; simp [rowAt?, hk]
  refine ⟨PsAt.nil _ _, ?_, ?_⟩
  · intro i p hp
    match i, hp with
    | 0, hp => simp [bN] at hp; subst hp; exact ⟨_, _, rfl, hb.lt, hb.cell 0⟩
    | i + 1, hp => simp [bN] at hp
  · intro i p hp
    match i, hp with
    | 0, hp =>
      simp [bN] at hp; subst hp
      exact ⟨_, _, rfl, hk.lt, by rw [hrow]; kernel_rfl⟩
    | 1, hp =>
      simp [bN] at hp; subst hp
      exact ⟨_, _, rfl, hk.lt, by rw [hrow]; kernel_rfl⟩
    | i + 2, hp => simp [bN] at hp

theorem lW_f (w : World) : Blk (lW w) w.heap.size 23 #[.int .i64 1024, .int .i64 2] := by
  have h := (((((Blk.new w 23 #[.int .i64 1024, .int .i64 2]).alloc (.cells #[.string ⟨#[97]⟩, .string ⟨#[120]⟩, .string ⟨#[98]⟩, .string ⟨#[]⟩] 56)).alloc (.cells #[.slice (some ⟨w.heap.size + 1, 0, none⟩) 2 2, .slice none 0 0, .slice none 0 0] 28)).alloc (.cells #[.string ⟨#[109]⟩] 9)).alloc (.cells two 59)).alloc (.cells #[.slice none 0 0, .slice (some ⟨w.heap.size + 1 + 1 + 1, 0, none⟩) 1 1, .slice (some ⟨w.heap.size + 1 + 1 + 1 + 1, 0, none⟩) 2 2] 28)
  exact h
theorem lW_ln (w : World) : Blk (lW w) (w.heap.size + 1 + 1) 28 #[.slice (some ⟨w.heap.size + 1, 0, none⟩) 2 2, .slice none 0 0, .slice none 0 0] := by
  have h := (((Blk.new ((w.alloc (.cells #[.int .i64 1024, .int .i64 2] 23)).alloc (.cells #[.string ⟨#[97]⟩, .string ⟨#[120]⟩, .string ⟨#[98]⟩, .string ⟨#[]⟩] 56)) 28 #[.slice (some ⟨w.heap.size + 1, 0, none⟩) 2 2, .slice none 0 0, .slice none 0 0]).alloc (.cells #[.string ⟨#[109]⟩] 9)).alloc (.cells two 59)).alloc (.cells #[.slice none 0 0, .slice (some ⟨w.heap.size + 1 + 1 + 1, 0, none⟩) 1 1, .slice (some ⟨w.heap.size + 1 + 1 + 1 + 1, 0, none⟩) 2 2] 28)
  simp only [World.size_alloc] at h
  exact h
theorem lW_bn (w : World) : Blk (lW w) (w.heap.size + 1 + 1 + 1 + 1 + 1) 28 #[.slice none 0 0, .slice (some ⟨w.heap.size + 1 + 1 + 1, 0, none⟩) 1 1, .slice (some ⟨w.heap.size + 1 + 1 + 1 + 1, 0, none⟩) 2 2] := by
  have h := Blk.new (((((w.alloc (.cells #[.int .i64 1024, .int .i64 2] 23)).alloc (.cells #[.string ⟨#[97]⟩, .string ⟨#[120]⟩, .string ⟨#[98]⟩, .string ⟨#[]⟩] 56)).alloc (.cells #[.slice (some ⟨w.heap.size + 1, 0, none⟩) 2 2, .slice none 0 0, .slice none 0 0] 28)).alloc (.cells #[.string ⟨#[109]⟩] 9)).alloc (.cells two 59)) 28 #[.slice none 0 0, .slice (some ⟨w.heap.size + 1 + 1 + 1, 0, none⟩) 1 1, .slice (some ⟨w.heap.size + 1 + 1 + 1 + 1, 0, none⟩) 2 2]
  simp only [World.size_alloc] at h
  exact h

set_option maxHeartbeats 1000000 in set_option maxRecDepth 100000 in
theorem lives_any (w : World) : Calls Tryz.prog 12 #[] w (Rets (.bool true) w) := by
  have LL := Lib.hid (lW_l w); have LB := Lib.hid (lW_b w)
  have hkw : Kp [] w (lW w) := ((((((Kp.refl [] w).alloc _).alloc _).alloc _).alloc _).alloc _).alloc _
  have HKW := Lib.hid hkw; clear hkw
  go_enter Tryz.func12, Tryz.ntmps12
  go_wp2_with fail
  have hl0 := (lW_f w).cell 0; have hl1 := (lW_f w).cell 1
  have ha0 := (lW_ln w).cell 0; have ha1 := (lW_ln w).cell 1; have ha2 := (lW_ln w).cell 2
  have hb0 := (lW_bn w).cell 0; have hb1 := (lW_bn w).cell 1; have hb2 := (lW_bn w).cell 2
  have hlt := (lW_bn w).lt
  simp only [List.getElem?_toArray, List.getElem?_cons_zero, List.getElem?_cons_succ] at hl0 hl1 ha0 ha1 ha2 hb0 hb1 hb2
  have hlt0 : w.heap.size < (lW w).heap.size := by omega
  have hlt2 : w.heap.size + 1 + 1 < (lW w).heap.size := by omega
  refine (Pack_any 1024 2 _ _ _ _ _ _ lN (lW w) LL.out l_ok).mono ?_
  rintro e w1 ⟨rfl, bs1, m1, rfl⟩
  rw [l_pack, l_packS]
  go_wp2_with fail
  refine (Pack_any 1024 2 _ _ _ _ _ _ bN _ (LB.out.kp0 ((Kp.refl [] _).ext _ _)) b_ok).mono ?_
  rintro e w1 ⟨rfl, bs2, m2, rfl⟩
  rw [b_pack, b_packS]
  go_wp2_with fail
  refine (Plain_any 1024 2 _ _ _ _ _ _ bN _ (LB.out.kp0 ((Kp.refl [] _).ext _ _)) b_ok).mono ?_
  rintro e w1 ⟨rfl, bs3, m3, rfl⟩
  rw [b_plain, b_plainS]
  go_wp2_with fail
  refine (Unpack_any 1024 2 tS _ (by decide)).mono ?_
  rintro e w1 h1
  rw [b_unpack] at h1
  obtain ⟨pa, sa, ka, pc, sc, kc, rfl, nd, k1, hnew⟩ := h1
  obtain ⟨b0, o0, hka, hb0', r0⟩ := nd.ks 0 k5 rfl
  obtain ⟨b1, o1, hka1, hb1', r1⟩ := nd.ks 1 k9 rfl
  rw [hka] at hka1
  cases hka1
  subst hka
  have cp := (rowAt?_cell r1).2 0 (.int .u32 9) (Kd.get0 k9)
  have rs := rowAt?_sub r0 1 32 (by omega)
  have hx : k5.c.extract 1 (1 + 32) = dA.c := Kd.extract1 k5
  rw [hx] at rs
  simp only [Addr.add_lit, Nat.zero_mul, Nat.one_mul, Nat.add_zero] at cp rs
  have LZ : Hid (NdAt w1 (some ⟨w.heap.size + 1, 0, none⟩) none none lN) := Lib.hid (LL.out.kp0 (((Kp.refl [] _).ext _ _).trans k1))
  have KW := Lib.hid ((HKW.out.ext _ _).trans k1)
  have zz := k1.size
  simp only [ext_size] at zz
  have n1 : w.heap.size < w1.heap.size := by omega
  have n2 : w.heap.size + 1 + 1 < w1.heap.size := by omega
  have e0 := ((Kp.refl [] (lW w)).ext _ _ |>.trans k1).cell hl0 (by simp); have e1 := ((Kp.refl [] (lW w)).ext _ _ |>.trans k1).cell hl1 (by simp)
  have e2 := ((Kp.refl [] (lW w)).ext _ _ |>.trans k1).cell ha0 (by simp); have e3 := ((Kp.refl [] (lW w)).ext _ _ |>.trans k1).cell ha1 (by simp); have e4 := ((Kp.refl [] (lW w)).ext _ _ |>.trans k1).cell ha2 (by simp)
  clear r0 r1 hx nd k1 hnew hl0 hl1 ha0 ha1 ha2 hb0 hb1 hb2 zz
  go_wp2_with fail
  refine (Size_any 1024 2 _ _ _ _ _ _ lN _ (LZ.out.kp0 ((Kp.refl [] _).alloc _)) l_ok).mono ?_
  rintro e w2 ⟨rfl, bs4, m4, rfl⟩
  rw [l_size]
  go_wp2_with fail
  go_ret
  exact ⟨rfl, ((KW.out.alloc _).ext _ _).to_ext⟩

end Go.Proofs.YtemicgccgcmmbaaGreat

/- NodeSums answers true. Printed by gensums.py. -/
namespace Go.Proofs.YtemicgccgcmmbaaGreat
set_option linter.unusedVariables false
set_option linter.unusedSimpArgs false
open Go Go.RowKit

theorem sumN_snd (p wd : Int) (n : Nd) : (sumN p wd n).2 = mayE p wd n := by
  unfold sumN
  split
  · rename_i h
    have hr := (rightB_iff.1 (checkE_ok (mayE_ok h).1).1).2
    unfold digS
    rw [if_pos hr, if_pos (tagN_ok n).1]
    unfold ofS
    rw [if_pos hr, h]
  · rfl
theorem sumN_fst {p wd : Int} {n : Nd} (h : mayE p wd n = 0) : (sumN p wd n).1 = (ofS wd (textT (tagN n) [plainS p wd n])).1 := by
  unfold sumN
  rw [if_pos h]
  have hr := (rightB_iff.1 (checkE_ok (mayE_ok h).1).1).2
  unfold digS
  rw [if_pos hr, if_pos (tagN_ok n).1]
theorem may_check (p wd : Int) (n : Nd) : mayE p wd n = checkE p wd n ∨ (mayE p wd n = 71 ∧ checkE p wd n = 0) := by
  unfold mayE
  split
  · rename_i h
    split
    · exact .inr ⟨rfl, h⟩
    · exact .inl h.symm
  · exact .inl rfl
theorem textT_inj {t t' s s' : Bs} (h1 : t.length ≤ 64) (h2 : t'.length ≤ 64) (h : textT t [s] = textT t' [s']) : t = t' ∧ s = s' := by
  unfold textT at h
  simp only [List.cons_append, List.cons.injEq, List.flatMap_cons, List.flatMap_nil, List.append_nil] at h
  have h4 := h.2
  have h5 : t.length = t'.length := by
    have h3 := congrArg UInt8.toNat h.1
    rw [UInt8.toNat_ofNat', UInt8.toNat_ofNat'] at h3
    omega
  have h6 := List.append_inj h4 h5
  exact ⟨h6.1, (List.append_inj h6.2 (by simp [be4L])).2⟩
theorem sums_ne {p wd : Int} {a b : Nd} (ha : mayE p wd a = 0) (hb : mayE p wd b = 0) (oa : NdOk a) (ob : NdOk b) (hne : a.bare ≠ b.bare) :
    textT (tagN a) [plainS p wd a] ≠ textT (tagN b) [plainS p wd b] := by
  intro h
  obtain ⟨_, h2⟩ := textT_inj (by have := (tagN_ok a).2; omega) (by have := (tagN_ok b).2; omega) h
  have r1 := read_plain ha oa
  have r2 := read_plain hb ob
  rw [h2, r2] at r1
  exact hne (Option.some.inj r1).symm
theorem sums_clash {p wd : Int} {a b : Nd} (ha : mayE p wd a = 0) (hb : mayE p wd b = 0) (oa : NdOk a) (ob : NdOk b) (hne : a.bare ≠ b.bare) (hs : (sumN p wd a).1 = (sumN p wd b).1) :
    clashB wd (textT (tagN a) [plainS p wd a]) (textT (tagN b) [plainS p wd b]) = true := by
  have hr := (rightB_iff.1 (checkE_ok (mayE_ok ha).1).1).2
  unfold clashB
  rw [decide_eq_true_iff, ← sumN_fst ha, ← sumN_fst hb]
  refine ⟨?_, sums_ne ha hb oa ob hne, hs⟩
  unfold ofS
  rw [if_pos hr]

theorem Kp.setCells {S : List Nat} {b : World} (g : Nat) (hg : b.heap.size ≤ g ∨ g ∈ S) : ∀ (vs : List Value) (o : Nat) {w : World}, Kp S b w → Kp S b (w.setCells g o vs)
  | [], _, _, h => h
  | v :: r, o, _, h => Kp.setCells g hg r (o + 1) (h.setCell (a := ⟨g, o, none⟩) v hg)
theorem blk_setCells {g : Nat} {t : TypeId} : ∀ (vs : List Value) (o : Nat) (w : World) (c : Array Value), Blk w g t c → o + vs.length ≤ c.size →
    ∃ c', Blk (w.setCells g o vs) g t c' ∧ c'.size = c.size ∧ (∀ j, j < o → c'[j]? = c[j]?) ∧ ∀ j v, vs[j]? = some v → c'[o + j]? = some v
  | [], o, w, c, h, _ => ⟨c, h, rfl, fun _ _ => rfl, fun j v hv => by simp at hv⟩
  | v :: r, o, w, c, h, hl => by
    simp only [List.length_cons] at hl
    obtain ⟨c', h1, h2, h3, h4⟩ := blk_setCells r (o + 1) _ _ (h.set o v) (by simp; omega)
    refine ⟨c', h1, by rw [h2]; simp, fun j hj => ?_, fun j u hu => ?_⟩
    · rw [h3 j (by omega), Array.getElem?_setIfInBounds_ne (by omega)]
    · cases j with
      | zero =>
        simp at hu; subst hu
        rw [Nat.add_zero, h3 o (by omega), Array.getElem?_setIfInBounds_self_of_lt (by omega)]
      | succ j =>
        have := h4 j u (by simpa using hu)
        rwa [show o + 1 + j = o + (j + 1) by omega] at this
theorem Blk.setDg {w : World} {g : Nat} {t : TypeId} {c : Array Value} (h : Blk w g t c) (hc : c.size = 32) (d : Dg) : Blk (w.setCells g 0 (bC d.l)) g t d.c := by
  have hl : (bC d.l).length = 32 := by rw [bC_length, d.h]
  obtain ⟨c', h1, h2, _, h4⟩ := blk_setCells (bC d.l) 0 w c h (by omega)
  have : c' = d.c := by
    apply Array.ext_getElem?
    intro j
    by_cases hj : j < 32
    · have h5 := h4 j ((bC d.l)[j]'(by omega)) (List.getElem?_eq_getElem (by omega))
      rw [Nat.zero_add] at h5
      rw [h5]
      simp only [Dg.c, List.getElem?_toArray]
      exact (List.getElem?_eq_getElem (by omega)).symm
    · rw [Array.getElem?_eq_none (by omega), Array.getElem?_eq_none (by rw [Dg.c_size]; omega)]
  rwa [this] at h1
theorem there_blk {w : World} {g : Nat} {t : TypeId} {c : Array Value} (h : Blk w g t c) (hc : c.size = 32) (d : Dg) : w.there g 0 (bC d.l).length := by
  intro j hj
  rw [bC_length, d.h] at hj
  rw [Nat.zero_add]
  refine ⟨?_, h.frozen j⟩
  rw [h.cell j, Array.getElem?_eq_getElem (by omega)]
  rfl
theorem dg_info (d : Dg) : (Tryz.prog.info? 36).map (·.size) = some (bC d.l).length := by
  rw [bC_length, d.h]; kernel_rfl

theorem NdOk.bare {n : Nd} (h : NdOk n) : NdOk n.bare :=
  ⟨h.np, h.ns, by have := h.nk; simpa [Nd.bare] using this, h.sp, h.ss, fun k hk => by simp [Nd.bare] at hk; obtain ⟨x, _, rfl⟩ := hk; show (0 : Nat) < 4294967296; decide⟩
theorem refSame_dd (pa sa ka qa ta la : Option Addr) (pc sc kc qc tc lc : Nat) (x y : Nd) (w : World) (hx : NdAt w pa sa ka x) (hy : NdAt w qa ta la y) (ox : NdOk x) (oy : NdOk y) {d : Bool} (h : decide (x = y) = d) :
    Calls Tryz.prog 10 #[.agg #[.slice pa x.pairs.length pc, .slice sa x.seps.length sc, .slice ka x.kids.length kc], .agg #[.slice qa y.pairs.length qc, .slice ta y.seps.length tc, .slice la y.kids.length lc]] w (Rets (.bool d) w) := by
  subst h; exact refSame_any pa sa ka qa ta la pc sc kc qc tc lc x y w hx hy ox oy

theorem zd_a (W : World) : Blk (W.alloc (.cells Dg.zero.c 36)) W.heap.size 36 Dg.zero.c := Blk.new W _ _

set_option maxHeartbeats 8000000 in
set_option maxRecDepth 100000 in
theorem sums_law (p wd : Int) (pa sa ka qa ta la : Option Addr) (pc sc kc qc tc lc : Nat) (a b : Nd) (w : World) (ha : NdAt w pa sa ka a) (hb : NdAt w qa ta la b) (oa : NdOk a) (ob : NdOk b) :
    Calls Tryz.prog 4 #[.agg #[.int .i64 p, .int .i64 wd], .agg #[.slice pa a.pairs.length pc, .slice sa a.seps.length sc, .slice ka a.kids.length kc], .agg #[.slice qa b.pairs.length qc, .slice ta b.seps.length tc, .slice la b.kids.length lc]] w fun e w' => e = .returned (.bool true) ∧ Kp [] w w' := by
  obtain ⟨W0, hW0⟩ : ∃ W0, W0 = ((w.alloc (.cells #[.int .i64 p, .int .i64 wd] 23)).alloc (.cells #[.slice pa a.pairs.length pc, .slice sa a.seps.length sc, .slice ka a.kids.length kc] 28)).alloc (.cells #[.slice qa b.pairs.length qc, .slice ta b.seps.length tc, .slice la b.kids.length lc] 28) := ⟨_, rfl⟩
  have kw : Kp [] w W0 := by rw [hW0]; exact (((Kp.refl [] w).alloc _).alloc _).alloc _
  have b0 : Blk W0 w.heap.size 23 #[.int .i64 p, .int .i64 wd] := by rw [hW0]; exact ((Blk.new w _ _).alloc _).alloc _
  have b1 : Blk W0 (w.heap.size + 1) 28 #[.slice pa a.pairs.length pc, .slice sa a.seps.length sc, .slice ka a.kids.length kc] := by
    rw [hW0]
    have h := (Blk.new (w.alloc (.cells #[.int .i64 p, .int .i64 wd] 23)) 28 #[.slice pa a.pairs.length pc, .slice sa a.seps.length sc, .slice ka a.kids.length kc]).alloc (.cells #[.slice qa b.pairs.length qc, .slice ta b.seps.length tc, .slice la b.kids.length lc] 28)
    simpa using h
  have b2 : Blk W0 (w.heap.size + 2) 28 #[.slice qa b.pairs.length qc, .slice ta b.seps.length tc, .slice la b.kids.length lc] := by
    rw [hW0]
    have h := Blk.new ((w.alloc (.cells #[.int .i64 p, .int .i64 wd] 23)).alloc (.cells #[.slice pa a.pairs.length pc, .slice sa a.seps.length sc, .slice ka a.kids.length kc] 28)) 28 #[.slice qa b.pairs.length qc, .slice ta b.seps.length tc, .slice la b.kids.length lc]
    simpa using h
  have hz0 : W0.heap.size = w.heap.size + 3 := by rw [hW0]; simp
  have SK : Hid (∀ W : World, Kp [] W0 W → ((W.cell? ⟨w.heap.size, 0, none⟩ = some (.int .i64 p) ∧ W.cell? ⟨w.heap.size, 1, none⟩ = some (.int .i64 wd)) ∧ (W.cell? ⟨w.heap.size + 1, 0, none⟩ = some (.slice pa a.pairs.length pc) ∧ W.cell? ⟨w.heap.size + 1, 1, none⟩ = some (.slice sa a.seps.length sc) ∧ W.cell? ⟨w.heap.size + 1, 2, none⟩ = some (.slice ka a.kids.length kc)) ∧ (W.cell? ⟨w.heap.size + 2, 0, none⟩ = some (.slice qa b.pairs.length qc) ∧ W.cell? ⟨w.heap.size + 2, 1, none⟩ = some (.slice ta b.seps.length tc) ∧ W.cell? ⟨w.heap.size + 2, 2, none⟩ = some (.slice la b.kids.length lc)))) := Lib.hid (fun W k =>
    have c0 := b0.kp k (by simp); have c1 := b1.kp k (by simp); have c2 := b2.kp k (by simp)
    ⟨⟨c0.cell 0, c0.cell 1⟩, ⟨c1.cell 0, c1.cell 1, c1.cell 2⟩, ⟨c2.cell 0, c2.cell 1, c2.cell 2⟩⟩)
  have ZK : Hid (∀ W : World, Kp [] W0 W → w.heap.size + 2 < W.heap.size) := Lib.hid (fun W k => by have := k.size; omega)
  have KW := Lib.hid kw; have HA := Lib.hid (ha.kp0 kw); have HB := Lib.hid (hb.kp0 kw); have OA := Lib.hid oa; have OB := Lib.hid ob
  have HZ0 := Lib.hid hz0
  have hz1 : w.heap.size + 2 < W0.heap.size := by omega
  have HW0 := Lib.hid hW0
  obtain ⟨⟨da, ea⟩, hsa⟩ : ∃ x, sumN p wd a = x := ⟨_, rfl⟩
  obtain ⟨⟨db, eb⟩, hsb⟩ : ∃ x, sumN p wd b = x := ⟨_, rfl⟩
  have HSa := Lib.hid hsa; have HSb := Lib.hid hsb
  have q1 := bC_one da.l; have q2 := dg_info da; have q3 := bC_one db.l; have q4 := dg_info db
  clear ha hb oa ob kw b0 b1 b2 hW0 hz0 hsa hsb
  go_enter Tryz.func4, Tryz.ntmps4
  go_wp2_with fail
  rw [← HW0.out]
  refine (lives_any _).mono ?_
  rintro e w0 ⟨rfl, hx0⟩
  have KC : Hid (Kp [] W0 w0) := Lib.hid (by obtain ⟨bx, nx, rfl⟩ := hx0; exact (Kp.refl [] _).ext _ _)
  have zc := ZK.out _ KC.out
  have szc := KC.out.size
  clear hx0
  go_wp2_with fail
  go_cut [7, 8] from 19 (fun v7 v8 wr => ∃ B7, v7 = .pointer (some ⟨B7, 0, none⟩) ∧ v8 = .int .i64 ea ∧ Hid (Kp [] W0 wr) ∧ Hid (Blk wr B7 36 da.c))
  case first =>
    go_region_held3 (fun W => ((W.cell? ⟨w.heap.size, 0, none⟩ = some (.int .i64 p) ∧ W.cell? ⟨w.heap.size, 1, none⟩ = some (.int .i64 wd)) ∧ (W.cell? ⟨w.heap.size + 1, 0, none⟩ = some (.slice pa a.pairs.length pc) ∧ W.cell? ⟨w.heap.size + 1, 1, none⟩ = some (.slice sa a.seps.length sc) ∧ W.cell? ⟨w.heap.size + 1, 2, none⟩ = some (.slice ka a.kids.length kc)) ∧ (W.cell? ⟨w.heap.size + 2, 0, none⟩ = some (.slice qa b.pairs.length qc) ∧ W.cell? ⟨w.heap.size + 2, 1, none⟩ = some (.slice ta b.seps.length tc) ∧ W.cell? ⟨w.heap.size + 2, 2, none⟩ = some (.slice la b.kids.length lc))))
      (exact SK.out _ (by repeat first | with_reducible exact KT4.out | with_reducible exact KT3.out | with_reducible exact KT2.out | with_reducible exact KT1.out | with_reducible exact KC.out | with_reducible exact Kp.refl _ _ | with_reducible refine Kp.drew ?_ | with_reducible refine Kp.alloc ?_ _ | with_reducible refine Kp.setCells _ (.inl (by first | exact Nat.le_refl _ | (simp; done) | (simp; omega) | omega)) _ _ ?_ | with_reducible refine Kp.setRow ?_ _ _ (.inl (by first | exact Nat.le_refl _ | (simp; done) | (simp; omega) | omega))))
      (first
        | ((with_reducible (go_at_call 14)); refine (refCopy_any pa sa ka pc sc kc a _ (HA.out.kp0 (by repeat first | with_reducible exact KT4.out | with_reducible exact KT3.out | with_reducible exact KT2.out | with_reducible exact KT1.out | with_reducible exact KC.out | with_reducible exact Kp.refl _ _ | with_reducible refine Kp.drew ?_ | with_reducible refine Kp.alloc ?_ _ | with_reducible refine Kp.setCells _ (.inl (by first | exact Nat.le_refl _ | (simp; done) | (simp; omega) | omega)) _ _ ?_ | with_reducible refine Kp.setRow ?_ _ _ (.inl (by first | exact Nat.le_refl _ | (simp; done) | (simp; omega) | omega)))) OA.out).mono ?_; rintro e w1 ⟨ca, cb, cc, cp1, cp2, cp3, rfl, oc, k1⟩; have KT1 : Hid (Kp [] W0 w1) := Lib.hid (Kp.trans (by repeat first | with_reducible exact KT4.out | with_reducible exact KT3.out | with_reducible exact KT2.out | with_reducible exact KT1.out | with_reducible exact KC.out | with_reducible exact Kp.refl _ _ | with_reducible refine Kp.drew ?_ | with_reducible refine Kp.alloc ?_ _ | with_reducible refine Kp.setCells _ (.inl (by first | exact Nat.le_refl _ | (simp; done) | (simp; omega) | omega)) _ _ ?_ | with_reducible refine Kp.setRow ?_ _ _ (.inl (by first | exact Nat.le_refl _ | (simp; done) | (simp; omega) | omega))) k1); have OC := Lib.hid oc; (try (with_reducible have zb := Blk.kp ((zd_a w0).drew) k1 (by simp); have zl := zb.lt)); have K1 := Lib.hid k1; have KX1 : Hid (Kp [] w0 w1) := Lib.hid (Kp.trans (by repeat first | with_reducible exact Kp.refl _ _ | with_reducible refine Kp.drew ?_ | with_reducible refine Kp.alloc ?_ _) k1); have sx1 := KX1.out.size; have sz1 := KT1.out.size; clear oc k1)
        | ((with_reducible (go_at_call 13)); refine (nsum_any p wd ca cb cc cp1 cp2 cp3 a _ (OC.out.at.kp0 (by repeat first | with_reducible exact Kp.refl _ _ | with_reducible refine Kp.drew ?_ | with_reducible refine Kp.alloc ?_ _)) OA.out).mono ?_; rintro e w2 ⟨rfl, hx⟩; rw [HSa.out]; have k2 : Kp [] _ w2 := (by obtain ⟨bx, nx, rfl⟩ := hx; exact (Kp.refl [] _).ext _ _); have KT2 : Hid (Kp [] W0 w2) := Lib.hid (Kp.trans (by repeat first | with_reducible exact KT4.out | with_reducible exact KT3.out | with_reducible exact KT2.out | with_reducible exact KT1.out | with_reducible exact KC.out | with_reducible exact Kp.refl _ _ | with_reducible refine Kp.drew ?_ | with_reducible refine Kp.alloc ?_ _ | with_reducible refine Kp.setCells _ (.inl (by first | exact Nat.le_refl _ | (simp; done) | (simp; omega) | omega)) _ _ ?_ | with_reducible refine Kp.setRow ?_ _ _ (.inl (by first | exact Nat.le_refl _ | (simp; done) | (simp; omega) | omega))) k2); (try (with_reducible have zb2 := Blk.kp zb k2 (by simp); have tz := there_blk zb2 rfl da; have zl2 := zb2.lt)); (try (with_reducible have zb2 := Blk.kp (zb.alloc _) k2 (by simp); have tz := there_blk zb2 rfl da; have zl2 := zb2.lt)); (try (with_reducible have zb2 := Blk.kp (zd_a w1) k2 (by simp); have tz := there_blk zb2 rfl da; have zl2 := zb2.lt)); have K2 := Lib.hid k2; have KX2 : Hid (Kp [] w0 w2) := Lib.hid (Kp.trans (by repeat first | with_reducible exact KX1.out | with_reducible exact Kp.refl _ _ | with_reducible refine Kp.drew ?_ | with_reducible refine Kp.alloc ?_ _) k2); have sx2 := KX2.out.size; have sz2 := KT2.out.size; have tn := there_blk (zd_a w2) rfl da; clear hx k2))
    all_goals go_wp2_with fail
    all_goals go_meet
    all_goals
      refine ⟨_, rfl, rfl, Lib.hid ?kk, Lib.hid ?bb⟩
      case kk => exact (by repeat first | with_reducible exact KT4.out | with_reducible exact KT3.out | with_reducible exact KT2.out | with_reducible exact KT1.out | with_reducible exact KC.out | with_reducible exact Kp.refl _ _ | with_reducible refine Kp.drew ?_ | with_reducible refine Kp.alloc ?_ _ | with_reducible refine Kp.setCells _ (.inl (by first | exact Nat.le_refl _ | (simp; done) | (simp; omega) | omega)) _ _ ?_ | with_reducible refine Kp.setRow ?_ _ _ (.inl (by first | exact Nat.le_refl _ | (simp; done) | (simp; omega) | omega)))
      case bb => first | exact zb2.setDg rfl _ | exact (zd_a w2).setDg rfl _
  case rest =>
    obtain ⟨B7, rfl, rfl, KC0, D7⟩ := hcut
    clear KC zc szc
    have KC := KC0
    clear KC0
    have zc := ZK.out _ KC.out
    have szc := KC.out.size
    go_wp2_with fail
    go_cut [9, 10] from 19 (fun v9 v10 wr => ∃ B9, v9 = .pointer (some ⟨B9, 0, none⟩) ∧ v10 = .int .i64 eb ∧ Hid (Kp [] W0 wr) ∧ Hid (Blk wr B7 36 da.c) ∧ Hid (Blk wr B9 36 db.c))
    case first =>
      go_region_held3 (fun W => ((W.cell? ⟨w.heap.size, 0, none⟩ = some (.int .i64 p) ∧ W.cell? ⟨w.heap.size, 1, none⟩ = some (.int .i64 wd)) ∧ (W.cell? ⟨w.heap.size + 1, 0, none⟩ = some (.slice pa a.pairs.length pc) ∧ W.cell? ⟨w.heap.size + 1, 1, none⟩ = some (.slice sa a.seps.length sc) ∧ W.cell? ⟨w.heap.size + 1, 2, none⟩ = some (.slice ka a.kids.length kc)) ∧ (W.cell? ⟨w.heap.size + 2, 0, none⟩ = some (.slice qa b.pairs.length qc) ∧ W.cell? ⟨w.heap.size + 2, 1, none⟩ = some (.slice ta b.seps.length tc) ∧ W.cell? ⟨w.heap.size + 2, 2, none⟩ = some (.slice la b.kids.length lc))))
        (exact SK.out _ (by repeat first | with_reducible exact KT4.out | with_reducible exact KT3.out | with_reducible exact KT2.out | with_reducible exact KT1.out | with_reducible exact KC.out | with_reducible exact Kp.refl _ _ | with_reducible refine Kp.drew ?_ | with_reducible refine Kp.alloc ?_ _ | with_reducible refine Kp.setCells _ (.inl (by first | exact Nat.le_refl _ | (simp; done) | (simp; omega) | omega)) _ _ ?_ | with_reducible refine Kp.setRow ?_ _ _ (.inl (by first | exact Nat.le_refl _ | (simp; done) | (simp; omega) | omega))))
        (first
          | ((with_reducible (go_at_call 14)); refine (refCopy_any qa ta la qc tc lc b _ (HB.out.kp0 (by repeat first | with_reducible exact KT4.out | with_reducible exact KT3.out | with_reducible exact KT2.out | with_reducible exact KT1.out | with_reducible exact KC.out | with_reducible exact Kp.refl _ _ | with_reducible refine Kp.drew ?_ | with_reducible refine Kp.alloc ?_ _ | with_reducible refine Kp.setCells _ (.inl (by first | exact Nat.le_refl _ | (simp; done) | (simp; omega) | omega)) _ _ ?_ | with_reducible refine Kp.setRow ?_ _ _ (.inl (by first | exact Nat.le_refl _ | (simp; done) | (simp; omega) | omega)))) OB.out).mono ?_; rintro e w1 ⟨ca, cb, cc, cp1, cp2, cp3, rfl, oc, k1⟩; have KT1 : Hid (Kp [] W0 w1) := Lib.hid (Kp.trans (by repeat first | with_reducible exact KT4.out | with_reducible exact KT3.out | with_reducible exact KT2.out | with_reducible exact KT1.out | with_reducible exact KC.out | with_reducible exact Kp.refl _ _ | with_reducible refine Kp.drew ?_ | with_reducible refine Kp.alloc ?_ _ | with_reducible refine Kp.setCells _ (.inl (by first | exact Nat.le_refl _ | (simp; done) | (simp; omega) | omega)) _ _ ?_ | with_reducible refine Kp.setRow ?_ _ _ (.inl (by first | exact Nat.le_refl _ | (simp; done) | (simp; omega) | omega))) k1); have OC := Lib.hid oc; (try (with_reducible have zb := Blk.kp ((zd_a wc).drew) k1 (by simp); have zl := zb.lt)); have K1 := Lib.hid k1; have KX1 : Hid (Kp [] wc w1) := Lib.hid (Kp.trans (by repeat first | with_reducible exact Kp.refl _ _ | with_reducible refine Kp.drew ?_ | with_reducible refine Kp.alloc ?_ _) k1); have sx1 := KX1.out.size; have sz1 := KT1.out.size; clear oc k1)
          | ((with_reducible (go_at_call 13)); refine (nsum_any p wd ca cb cc cp1 cp2 cp3 b _ (OC.out.at.kp0 (by repeat first | with_reducible exact Kp.refl _ _ | with_reducible refine Kp.drew ?_ | with_reducible refine Kp.alloc ?_ _)) OB.out).mono ?_; rintro e w2 ⟨rfl, hx⟩; rw [HSb.out]; have k2 : Kp [] _ w2 := (by obtain ⟨bx, nx, rfl⟩ := hx; exact (Kp.refl [] _).ext _ _); have KT2 : Hid (Kp [] W0 w2) := Lib.hid (Kp.trans (by repeat first | with_reducible exact KT4.out | with_reducible exact KT3.out | with_reducible exact KT2.out | with_reducible exact KT1.out | with_reducible exact KC.out | with_reducible exact Kp.refl _ _ | with_reducible refine Kp.drew ?_ | with_reducible refine Kp.alloc ?_ _ | with_reducible refine Kp.setCells _ (.inl (by first | exact Nat.le_refl _ | (simp; done) | (simp; omega) | omega)) _ _ ?_ | with_reducible refine Kp.setRow ?_ _ _ (.inl (by first | exact Nat.le_refl _ | (simp; done) | (simp; omega) | omega))) k2); (try (with_reducible have zb2 := Blk.kp zb k2 (by simp); have tz := there_blk zb2 rfl db; have zl2 := zb2.lt)); (try (with_reducible have zb2 := Blk.kp (zb.alloc _) k2 (by simp); have tz := there_blk zb2 rfl db; have zl2 := zb2.lt)); (try (with_reducible have zb2 := Blk.kp (zd_a w1) k2 (by simp); have tz := there_blk zb2 rfl db; have zl2 := zb2.lt)); have K2 := Lib.hid k2; have KX2 : Hid (Kp [] wc w2) := Lib.hid (Kp.trans (by repeat first | with_reducible exact KX1.out | with_reducible exact Kp.refl _ _ | with_reducible refine Kp.drew ?_ | with_reducible refine Kp.alloc ?_ _) k2); have sx2 := KX2.out.size; have sz2 := KT2.out.size; have tn := there_blk (zd_a w2) rfl db; clear hx k2))
      all_goals go_wp2_with fail
      all_goals go_meet
      all_goals
        refine ⟨_, rfl, rfl, Lib.hid ?kk, Lib.hid ?b7, Lib.hid ?bb⟩
        case kk => exact (by repeat first | with_reducible exact KT4.out | with_reducible exact KT3.out | with_reducible exact KT2.out | with_reducible exact KT1.out | with_reducible exact KC.out | with_reducible exact Kp.refl _ _ | with_reducible refine Kp.drew ?_ | with_reducible refine Kp.alloc ?_ _ | with_reducible refine Kp.setCells _ (.inl (by first | exact Nat.le_refl _ | (simp; done) | (simp; omega) | omega)) _ _ ?_ | with_reducible refine Kp.setRow ?_ _ _ (.inl (by first | exact Nat.le_refl _ | (simp; done) | (simp; omega) | omega)))
        case b7 => exact D7.out.kp (S := []) (by repeat first | with_reducible exact KX2.out | with_reducible exact Kp.refl _ _ | with_reducible refine Kp.drew ?_ | with_reducible refine Kp.alloc ?_ _ | with_reducible refine Kp.setCells _ (.inl (by first | exact Nat.le_refl _ | (simp; done) | (simp; omega) | omega)) _ _ ?_) (by simp)
        case bb => first | exact zb2.setDg rfl _ | exact (zd_a w2).setDg rfl _
    case rest =>
      obtain ⟨B9, rfl, rfl, KC1, D71, D9⟩ := hcut
      clear KC zc szc D7
      have KC := KC1
      clear KC1
      have zc := ZK.out _ KC.out
      have szc := KC.out.size
      have r7 : rowAt? wc ⟨B7, 0, none⟩ 32 = some da.c := by have h := rowAt?_blk D71.out; rwa [Dg.c_size] at h
      have r9 : rowAt? wc ⟨B9, 0, none⟩ 32 = some db.c := by have h := rowAt?_blk D9.out; rwa [Dg.c_size] at h
      have l7 := D71.out.lt
      have l9 := D9.out.lt
      obtain ⟨⟨f0, f1⟩, ⟨a0, a1, a2⟩, ⟨c0, c1, c2⟩⟩ := SK.out _ KC.out
      obtain ⟨ca, hca⟩ : ∃ ca, checkE p wd a = ca := ⟨_, rfl⟩
      obtain ⟨cb, hcb⟩ : ∃ cb, checkE p wd b = cb := ⟨_, rfl⟩
      have HCA := Lib.hid hca
      have HCB := Lib.hid hcb
      have hea : mayE p wd a = ea := by have h := sumN_snd p wd a; rw [HSa.out] at h; exact h.symm
      have heb : mayE p wd b = eb := by have h := sumN_snd p wd b; rw [HSb.out] at h; exact h.symm
      have HEA := Lib.hid hea
      have HEB := Lib.hid heb
      have xa : ((ea != ca) = false) ∨ ((ea != ca) = true ∧ (ea != 71) = false) := by
        rw [← hea, ← hca]
        rcases may_check p wd a with h | ⟨h, h'⟩
        · exact .inl (by rw [h]; simp)
        · exact .inr ⟨by rw [h, h']; rfl, by rw [h]; rfl⟩
      have xb : ((eb != cb) = false) ∨ ((eb != cb) = true ∧ (eb != 71) = false) := by
        rw [← heb, ← hcb]
        rcases may_check p wd b with h | ⟨h, h'⟩
        · exact .inl (by rw [h]; simp)
        · exact .inr ⟨by rw [h, h']; rfl, by rw [h]; rfl⟩
      by_cases h0 : ea = 0 ∧ eb = 0
      case neg =>
        have hz : ((ea != 0) = true) ∨ ((ea != 0) = false ∧ (eb != 0) = true) := by
          by_cases h1 : ea = 0
          · have h2 : eb ≠ 0 := fun h => h0 ⟨h1, h⟩
            exact .inr ⟨by simp [h1], by simpa using h2⟩
          · exact .inl (by simpa using h1)
        clear h0 hca hcb hea heb
        rcases xa with xa | ⟨xa, xa'⟩ <;> rcases xb with xb | ⟨xb, xb'⟩ <;> rcases hz with hz | ⟨hz, hz'⟩
        all_goals
          go_wp2_with fail
          refine (rcheck_any p wd pa sa ka pc sc kc a _ (HA.out.kp0 KC.out) OA.out).mono ?_
          rintro e w5 ⟨rfl, bs5, m5, rfl⟩
          rw [HCA.out]
          go_wp2_with fail
          refine (rcheck_any p wd qa ta la qc tc lc b _ (HB.out.kp0 (KC.out.ext _ _)) OB.out).mono ?_
          rintro e w6 ⟨rfl, bs6, m6, rfl⟩
          rw [HCB.out]
          go_wp2_with fail
          go_ret
          exact ⟨rfl, (KW.out.trans KC.out).ext _ _⟩
      case pos =>
        obtain ⟨rfl, rfl⟩ := h0
        obtain rfl : ca = 0 := by
          rcases xa with h | ⟨_, h⟩
          · have h2 : (0 : Int) = ca := by simpa using h
            exact h2.symm
          · exact absurd h (by decide)
        obtain rfl : cb = 0 := by
          rcases xb with h | ⟨_, h⟩
          · have h2 : (0 : Int) = cb := by simpa using h
            exact h2.symm
          · exact absurd h (by decide)
        clear xa xb
        by_cases hd : da = db
        case neg =>
          clear hca hcb hea heb
          go_wp2_with fail
          refine (rcheck_any p wd pa sa ka pc sc kc a _ (HA.out.kp0 KC.out) OA.out).mono ?_
          rintro e w5 ⟨rfl, bs5, m5, rfl⟩
          rw [HCA.out]
          go_wp2_with fail
          refine (rcheck_any p wd qa ta la qc tc lc b _ (HB.out.kp0 (KC.out.ext _ _)) OB.out).mono ?_
          rintro e w6 ⟨rfl, bs6, m6, rfl⟩
          rw [HCB.out]
          go_wp2_with fail
          go_ret
          exact ⟨rfl, (KW.out.trans KC.out).ext _ _⟩
        case pos =>
          subst hd
          obtain ⟨T1, hT1⟩ : ∃ T1, textT (tagN a) [plainS p wd a] = T1 := ⟨_, rfl⟩
          obtain ⟨T2, hT2⟩ : ∃ T2, textT (tagN b) [plainS p wd b] = T2 := ⟨_, rfl⟩
          obtain ⟨S1, hS1⟩ : ∃ S1, plainS p wd a = S1 := ⟨_, rfl⟩
          obtain ⟨S2, hS2⟩ : ∃ S2, plainS p wd b = S2 := ⟨_, rfl⟩
          have l1 : T1.length ≤ 140737488355000 := by have h1 := plainS_le hea; have h2 := (tagN_ok a).2; rw [← hT1, textT1]; omega
          have l2 : T2.length ≤ 140737488355000 := by have h1 := plainS_le heb; have h2 := (tagN_ok b).2; rw [← hT2, textT1]; omega
          have hcl : a.bare ≠ b.bare → clashB wd T1 T2 = true ∧ (T1 == T2) = false := fun hne =>
            ⟨by rw [← hT1, ← hT2]; exact sums_clash hea heb OA.out OB.out hne (by rw [HSa.out, HSb.out]), by
              have h := sums_ne hea heb OA.out OB.out hne
              rw [hT1, hT2] at h
              simpa using h⟩
          have tg1 := tagN_ok a
          have tg2 := tagN_ok b
          have e1 : 1 ≤ (tagN a).length ∧ (tagN a).length ≤ 64 := by have h := tg1.1; unfold tagE at h; split at h; assumption; cases h
          have e2 : 1 ≤ (tagN b).length ∧ (tagN b).length ≤ 64 := by have h := tg2.1; unfold tagE at h; split at h; assumption; cases h
          have HE1 := Lib.hid e1; have HE2 := Lib.hid e2; have HL1 := Lib.hid l1; have HL2 := Lib.hid l2; have HCL := Lib.hid hcl
          rw [hS1] at hT1
          rw [hS2] at hT2
          have HT1 := Lib.hid hT1; have HT2 := Lib.hid hT2; have HS1 := Lib.hid hS1; have HS2 := Lib.hid hS2
          have BO := Lib.hid (NdOk.bare OA.out); have BP := Lib.hid (NdOk.bare OB.out)
          obtain ⟨ds, hds⟩ : ∃ ds, decide (a.bare = b.bare) = ds := ⟨_, rfl⟩
          have HDS := Lib.hid hds
          clear hca hcb hea heb hT1 hT2 hS1 hS2 l1 l2 hcl tg1 tg2 e1 e2 hds
          go_wp2_with fail
          refine (rcheck_any p wd pa sa ka pc sc kc a _ (HA.out.kp0 KC.out) OA.out).mono ?_
          rintro e w5 ⟨rfl, bs5, m5, rfl⟩
          rw [HCA.out]
          go_wp2_with fail
          refine (rcheck_any p wd qa ta la qc tc lc b _ (HB.out.kp0 (KC.out.ext _ _)) OB.out).mono ?_
          rintro e w6 ⟨rfl, bs6, m6, rfl⟩
          rw [HCB.out]
          go_wp2_with fail
          generalize hwx : Proofs.YtemicgccgcmmbaaGreat.ext wc (bs5 ++ bs6) (m5 + m6) = wx
          have KY : Hid (Kp [] W0 wx) := Lib.hid (by rw [← hwx]; exact KC.out.ext _ _)
          clear hwx r7 r9 f0 f1 a0 a1 a2 c0 c1 c2 KC zc szc D71 D9 l7 l9
          have KC := KY
          clear KY
          have zc := ZK.out _ KC.out
          have szc := KC.out.size
          go_region_held3 (fun W => ((W.cell? ⟨w.heap.size, 0, none⟩ = some (.int .i64 p) ∧ W.cell? ⟨w.heap.size, 1, none⟩ = some (.int .i64 wd)) ∧ (W.cell? ⟨w.heap.size + 1, 0, none⟩ = some (.slice pa a.pairs.length pc) ∧ W.cell? ⟨w.heap.size + 1, 1, none⟩ = some (.slice sa a.seps.length sc) ∧ W.cell? ⟨w.heap.size + 1, 2, none⟩ = some (.slice ka a.kids.length kc)) ∧ (W.cell? ⟨w.heap.size + 2, 0, none⟩ = some (.slice qa b.pairs.length qc) ∧ W.cell? ⟨w.heap.size + 2, 1, none⟩ = some (.slice ta b.seps.length tc) ∧ W.cell? ⟨w.heap.size + 2, 2, none⟩ = some (.slice la b.kids.length lc))))
            (exact SK.out _ (by repeat first | with_reducible exact KT9.out | with_reducible exact KT8.out | with_reducible exact KT7.out | with_reducible exact KT6.out | with_reducible exact KT5.out | with_reducible exact KT4.out | with_reducible exact KT3.out | with_reducible exact KC.out | with_reducible exact Kp.refl _ _ | with_reducible refine Kp.drew ?_ | with_reducible refine Kp.ext ?_ _ _ | with_reducible refine Kp.alloc ?_ _))
            (first
              | ((with_reducible (go_at_call 10)); refine (refSame_dd xa xb xc ya yb yc xp1 xp2 xp3 yp1 yp2 yp3 a.bare b.bare _ (OX.out.at.kp0 K34.out) (OY.out.at.kp0 (by repeat first | with_reducible exact Kp.refl _ _ | with_reducible refine Kp.drew ?_ | with_reducible refine Kp.ext ?_ _ _ | with_reducible refine Kp.alloc ?_ _)) BO.out BP.out HDS.out).mono ?_; rintro e w5 ⟨rfl, hx⟩; have KT5 : Hid (Kp [] W0 w5) := Lib.hid (by obtain ⟨bx, nx, rfl⟩ := hx; exact Kp.ext (by repeat first | with_reducible exact KT9.out | with_reducible exact KT8.out | with_reducible exact KT7.out | with_reducible exact KT6.out | with_reducible exact KT5.out | with_reducible exact KT4.out | with_reducible exact KT3.out | with_reducible exact KC.out | with_reducible exact Kp.refl _ _ | with_reducible refine Kp.drew ?_ | with_reducible refine Kp.ext ?_ _ _ | with_reducible refine Kp.alloc ?_ _) _ _); clear hx)
              | ((with_reducible (go_at_call 16)); have _hk := KT3.out; clear _hk; refine (rbare_any qa ta la qc tc lc b _ (HB.out.kp0 (by repeat first | with_reducible exact KT9.out | with_reducible exact KT8.out | with_reducible exact KT7.out | with_reducible exact KT6.out | with_reducible exact KT5.out | with_reducible exact KT4.out | with_reducible exact KT3.out | with_reducible exact KC.out | with_reducible exact Kp.refl _ _ | with_reducible refine Kp.drew ?_ | with_reducible refine Kp.ext ?_ _ _ | with_reducible refine Kp.alloc ?_ _)) OB.out).mono ?_; rintro e w4 ⟨ya, yb, yc, yp1, yp2, yp3, rfl, oy, k4⟩; have KT4 : Hid (Kp [] W0 w4) := Lib.hid (Kp.trans (by repeat first | with_reducible exact KT9.out | with_reducible exact KT8.out | with_reducible exact KT7.out | with_reducible exact KT6.out | with_reducible exact KT5.out | with_reducible exact KT4.out | with_reducible exact KT3.out | with_reducible exact KC.out | with_reducible exact Kp.refl _ _ | with_reducible refine Kp.drew ?_ | with_reducible refine Kp.ext ?_ _ _ | with_reducible refine Kp.alloc ?_ _) k4); have K34 : Hid (Kp [] w3 w4) := Lib.hid (Kp.trans (by repeat first | with_reducible exact Kp.refl _ _ | with_reducible refine Kp.drew ?_ | with_reducible refine Kp.ext ?_ _ _ | with_reducible refine Kp.alloc ?_ _) k4); have OY := Lib.hid oy; clear oy k4)
              | ((with_reducible (go_at_call 16)); refine (rbare_any pa sa ka pc sc kc a _ (HA.out.kp0 (by repeat first | with_reducible exact KT9.out | with_reducible exact KT8.out | with_reducible exact KT7.out | with_reducible exact KT6.out | with_reducible exact KT5.out | with_reducible exact KT4.out | with_reducible exact KT3.out | with_reducible exact KC.out | with_reducible exact Kp.refl _ _ | with_reducible refine Kp.drew ?_ | with_reducible refine Kp.ext ?_ _ _ | with_reducible refine Kp.alloc ?_ _)) OA.out).mono ?_; rintro e w3 ⟨xa, xb, xc, xp1, xp2, xp3, rfl, ox, k3⟩; have KT3 : Hid (Kp [] W0 w3) := Lib.hid (Kp.trans (by repeat first | with_reducible exact KT9.out | with_reducible exact KT8.out | with_reducible exact KT7.out | with_reducible exact KT6.out | with_reducible exact KT5.out | with_reducible exact KT4.out | with_reducible exact KT3.out | with_reducible exact KC.out | with_reducible exact Kp.refl _ _ | with_reducible refine Kp.drew ?_ | with_reducible refine Kp.ext ?_ _ _ | with_reducible refine Kp.alloc ?_ _) k3); have OX := Lib.hid ox; clear ox k3))
          all_goals
            clear KC zc szc
            have zc := ZK.out _ KT5.out
            cases ds
            case true =>
              go_wp2_with fail
              go_ret
              exact ⟨rfl, KW.out.trans KT5.out⟩
            case false =>
              obtain ⟨hc1, hc2⟩ := HCL.out (of_decide_eq_false HDS.out)
              have HC1 := Lib.hid hc1
              clear hc1
              go_wp2_with fail
              go_region_held3 (fun W => ((W.cell? ⟨w.heap.size, 0, none⟩ = some (.int .i64 p) ∧ W.cell? ⟨w.heap.size, 1, none⟩ = some (.int .i64 wd)) ∧ (W.cell? ⟨w.heap.size + 1, 0, none⟩ = some (.slice pa a.pairs.length pc) ∧ W.cell? ⟨w.heap.size + 1, 1, none⟩ = some (.slice sa a.seps.length sc) ∧ W.cell? ⟨w.heap.size + 1, 2, none⟩ = some (.slice ka a.kids.length kc)) ∧ (W.cell? ⟨w.heap.size + 2, 0, none⟩ = some (.slice qa b.pairs.length qc) ∧ W.cell? ⟨w.heap.size + 2, 1, none⟩ = some (.slice ta b.seps.length tc) ∧ W.cell? ⟨w.heap.size + 2, 2, none⟩ = some (.slice la b.kids.length lc))))
                (exact SK.out _ (by repeat first | with_reducible exact KT9.out | with_reducible exact KT8.out | with_reducible exact KT7.out | with_reducible exact KT6.out | with_reducible exact KT5.out | with_reducible exact KT4.out | with_reducible exact KT3.out | with_reducible exact KC.out | with_reducible exact Kp.refl _ _ | with_reducible refine Kp.drew ?_ | with_reducible refine Kp.ext ?_ _ _ | with_reducible refine Kp.alloc ?_ _))
                (first
                  | ((with_reducible (go_at_call 17)); refine (Plain_any p wd xa xb xc xp1 xp2 xp3 a _ (OX.out.at.kp0 (by repeat first | with_reducible exact Kp.refl _ _ | with_reducible refine Kp.drew ?_ | with_reducible refine Kp.ext ?_ _ _ | with_reducible refine Kp.alloc ?_ _)) OA.out).mono ?_; rintro e w7 ⟨rfl, hx⟩; rw [HEA.out, HS1.out]; have KT7 : Hid (Kp [] W0 w7) := Lib.hid (by obtain ⟨bx, nx, rfl⟩ := hx; exact Kp.ext (by repeat first | with_reducible exact KT9.out | with_reducible exact KT8.out | with_reducible exact KT7.out | with_reducible exact KT6.out | with_reducible exact KT5.out | with_reducible exact KT4.out | with_reducible exact KT3.out | with_reducible exact KC.out | with_reducible exact Kp.refl _ _ | with_reducible refine Kp.drew ?_ | with_reducible refine Kp.ext ?_ _ _ | with_reducible refine Kp.alloc ?_ _) _ _); clear hx)
                  | ((with_reducible (go_at_call 14)); refine (refCopy_any pa sa ka pc sc kc a _ (HA.out.kp0 (by repeat first | with_reducible exact KT9.out | with_reducible exact KT8.out | with_reducible exact KT7.out | with_reducible exact KT6.out | with_reducible exact KT5.out | with_reducible exact KT4.out | with_reducible exact KT3.out | with_reducible exact KC.out | with_reducible exact Kp.refl _ _ | with_reducible refine Kp.drew ?_ | with_reducible refine Kp.ext ?_ _ _ | with_reducible refine Kp.alloc ?_ _)) OA.out).mono ?_; rintro e w6 ⟨xa, xb, xc, xp1, xp2, xp3, rfl, ox, k6⟩; have KT6 : Hid (Kp [] W0 w6) := Lib.hid (Kp.trans (by repeat first | with_reducible exact KT9.out | with_reducible exact KT8.out | with_reducible exact KT7.out | with_reducible exact KT6.out | with_reducible exact KT5.out | with_reducible exact KT4.out | with_reducible exact KT3.out | with_reducible exact KC.out | with_reducible exact Kp.refl _ _ | with_reducible refine Kp.drew ?_ | with_reducible refine Kp.ext ?_ _ _ | with_reducible refine Kp.alloc ?_ _) k6); have OX := Lib.hid ox; clear ox k6))
              all_goals
                have zc7 := ZK.out _ KT7.out
                go_wp2_with fail
                go_region_held3 (fun W => ((W.cell? ⟨w.heap.size, 0, none⟩ = some (.int .i64 p) ∧ W.cell? ⟨w.heap.size, 1, none⟩ = some (.int .i64 wd)) ∧ (W.cell? ⟨w.heap.size + 1, 0, none⟩ = some (.slice pa a.pairs.length pc) ∧ W.cell? ⟨w.heap.size + 1, 1, none⟩ = some (.slice sa a.seps.length sc) ∧ W.cell? ⟨w.heap.size + 1, 2, none⟩ = some (.slice ka a.kids.length kc)) ∧ (W.cell? ⟨w.heap.size + 2, 0, none⟩ = some (.slice qa b.pairs.length qc) ∧ W.cell? ⟨w.heap.size + 2, 1, none⟩ = some (.slice ta b.seps.length tc) ∧ W.cell? ⟨w.heap.size + 2, 2, none⟩ = some (.slice la b.kids.length lc))))
                  (exact SK.out _ (by repeat first | with_reducible exact KT9.out | with_reducible exact KT8.out | with_reducible exact KT7.out | with_reducible exact KT6.out | with_reducible exact KT5.out | with_reducible exact KT4.out | with_reducible exact KT3.out | with_reducible exact KC.out | with_reducible exact Kp.refl _ _ | with_reducible refine Kp.drew ?_ | with_reducible refine Kp.ext ?_ _ _ | with_reducible refine Kp.alloc ?_ _))
                  (first
                    | ((with_reducible (go_at_call 17)); refine (Plain_any p wd ya yb yc yp1 yp2 yp3 b _ (OY.out.at.kp0 (by repeat first | with_reducible exact Kp.refl _ _ | with_reducible refine Kp.drew ?_ | with_reducible refine Kp.ext ?_ _ _ | with_reducible refine Kp.alloc ?_ _)) OB.out).mono ?_; rintro e w9 ⟨rfl, hx⟩; rw [HEB.out, HS2.out]; have KT9 : Hid (Kp [] W0 w9) := Lib.hid (by obtain ⟨bx, nx, rfl⟩ := hx; exact Kp.ext (by repeat first | with_reducible exact KT9.out | with_reducible exact KT8.out | with_reducible exact KT7.out | with_reducible exact KT6.out | with_reducible exact KT5.out | with_reducible exact KT4.out | with_reducible exact KT3.out | with_reducible exact KC.out | with_reducible exact Kp.refl _ _ | with_reducible refine Kp.drew ?_ | with_reducible refine Kp.ext ?_ _ _ | with_reducible refine Kp.alloc ?_ _) _ _); clear hx)
                    | ((with_reducible (go_at_call 14)); refine (refCopy_any qa ta la qc tc lc b _ (HB.out.kp0 (by repeat first | with_reducible exact KT9.out | with_reducible exact KT8.out | with_reducible exact KT7.out | with_reducible exact KT6.out | with_reducible exact KT5.out | with_reducible exact KT4.out | with_reducible exact KT3.out | with_reducible exact KC.out | with_reducible exact Kp.refl _ _ | with_reducible refine Kp.drew ?_ | with_reducible refine Kp.ext ?_ _ _ | with_reducible refine Kp.alloc ?_ _)) OB.out).mono ?_; rintro e w8 ⟨ya, yb, yc, yp1, yp2, yp3, rfl, oy, k8⟩; have KT8 : Hid (Kp [] W0 w8) := Lib.hid (Kp.trans (by repeat first | with_reducible exact KT9.out | with_reducible exact KT8.out | with_reducible exact KT7.out | with_reducible exact KT6.out | with_reducible exact KT5.out | with_reducible exact KT4.out | with_reducible exact KT3.out | with_reducible exact KC.out | with_reducible exact Kp.refl _ _ | with_reducible refine Kp.drew ?_ | with_reducible refine Kp.ext ?_ _ _ | with_reducible refine Kp.alloc ?_ _) k8); have OY := Lib.hid oy; clear oy k8))
              all_goals
                have zc9 := ZK.out _ KT9.out
                obtain ⟨⟨f0, f1⟩, ⟨a0, a1, a2⟩, ⟨c0, c1, c2⟩⟩ := SK.out _ KT9.out
                go_wp2_with fail
                refine (rtag_any pa sa ka pc sc kc a _).mono ?_
                rintro e wa ⟨rfl, ba, ma, rfl⟩
                go_wp2_with fail
                refine (rtext_any (tagN a) [S1] _ _ _ (SsAt1 _ _ _ (by simp)) HE1.out.1 HE1.out.2 (by rw [HT1.out]; have := HL1.out; omega) (by simp)).mono ?_
                rintro e wb ⟨rfl, bb, mb, rfl⟩
                rw [HT1.out]
                go_wp2_with fail
                refine (rtag_any qa ta la qc tc lc b _).mono ?_
                rintro e we ⟨rfl, be, me, rfl⟩
                go_wp2_with fail
                refine (rtext_any (tagN b) [S2] _ _ _ (SsAt1 _ _ _ (by simp)) HE2.out.1 HE2.out.2 (by rw [HT2.out]; have := HL2.out; omega) (by simp)).mono ?_
                rintro e wf ⟨rfl, bf, mf, rfl⟩
                rw [HT2.out]
                go_wp2_with fail
                refine (clash_any wd T1 T2 _ HL1.out HL2.out).mono ?_
                rintro e wg ⟨rfl, bg, mg, rfl⟩
                rw [HC1.out]
                go_wp2_with fail
                go_ret
                exact ⟨rfl, KW.out.trans (by repeat first | with_reducible exact KT9.out | with_reducible refine Kp.ext ?_ _ _ | with_reducible refine Kp.alloc ?_ _)⟩

end Go.Proofs.YtemicgccgcmmbaaGreat

/- This program's frame and node, opened where they come in. -/
namespace Go.Proofs.YtemicgccgcmmbaaGreat
set_option linter.unusedVariables false
set_option linter.unusedSimpArgs false
open Go Go.RowKit Go.ChangeShapes Go.WideShapes Go.Deep Go.Joins

theorem pair_struct : ∃ f0 f1, Tryz.prog.underlying 56 = some (.struct #[f0, f1]) ∧ f0.type = 9 ∧ f1.type = 9 ∧ f0.offset = 0 ∧ f1.offset = 1 := ⟨_, _, Tryz.underlying56, rfl, rfl, rfl, rfl⟩
theorem kid_struct : ∃ f0 f1, Tryz.prog.underlying 59 = some (.struct #[f0, f1]) ∧ f0.type = 57 ∧ f1.type = 36 ∧ f0.offset = 0 ∧ f1.offset = 1 := ⟨_, _, Tryz.underlying59, rfl, rfl, rfl, rfl⟩
theorem node_struct : ∃ f0 f1 f2, Tryz.prog.underlying 28 = some (.struct #[f0, f1, f2]) ∧ f0.type = 24 ∧ f1.type = 25 ∧ f2.type = 26 ∧ f0.offset = 0 ∧ f1.offset = 1 ∧ f2.offset = 2 := ⟨_, _, _, Tryz.underlying28, rfl, rfl, rfl, rfl, rfl, rfl⟩
theorem frame_struct : ∃ f0 f1, Tryz.prog.underlying 23 = some (.struct #[f0, f1]) ∧ f0.type = 3 ∧ f1.type = 3 ∧ f0.offset = 0 ∧ f1.offset = 1 := ⟨_, _, Tryz.underlying23, rfl, rfl, rfl, rfl⟩

section
variable {H : Type} {enc : TypeId × Value → H} {w : World} {base : Nat} {spare : Nat → Bool} {held : Bool}

theorem agg_two {v : Value} {a b : Value} (h : v.cells.toList = [a, b]) : v = .agg #[a, b] := by
  cases v <;> simp [Value.cells] at h
  rename_i cs
  obtain ⟨l⟩ := cs
  simp at h; simp [h]
theorem agg_three {v : Value} {a b c : Value} (h : v.cells.toList = [a, b, c]) : v = .agg #[a, b, c] := by
  cases v <;> simp [Value.cells] at h
  rename_i cs
  obtain ⟨l⟩ := cs
  simp at h; simp [h]

/-- A frame that comes in. -/
theorem open_frame {v : Value} {d : DataW H} {p : List MemPlace} (h : DataW.Trod enc Tryz.prog w base spare held 23 v d p) : ∃ pg wd : Int, v = .agg #[.int .i64 pg, .int .i64 wd] ∧ p = [] := by
  obtain ⟨fuel, hf⟩ := h
  obtain ⟨f0, f1, hu, e0, e1, o0, o1⟩ := frame_struct
  obtain ⟨y0, y1, n, hx, hl, h0, h1⟩ := trod_struct2 hu hf
  have hc : Tryz.prog.cellsOf 23 = 2 := by kernel_rfl
  have hi : Tryz.prog.cellsOf 3 = 1 := by kernel_rfl
  rw [hc] at hl
  rw [e0, o0, hi] at h0
  rw [e1, o1, hi] at h1
  obtain ⟨z0, q0, r0, _⟩ := DataW.trod_int Tryz.underlying3 h0
  obtain ⟨z1, q1, r1, _⟩ := DataW.trod_int Tryz.underlying3 h1
  simp only [Prod.mk.injEq] at hx
  refine ⟨z0, z1, agg_two ?_, by rw [hx.2, r0, r1]; rfl⟩
  generalize v.cells.toList = cs at *
  match cs, hl with
  | [a, b], _ => simp at q0 q1; rw [q0, q1]

/-- A node that comes in. -/
theorem open_node {v : Value} {d : DataW H} {p : List MemPlace} (h : DataW.Trod enc Tryz.prog w base spare held 28 v d p) (hz : ∀ m ∈ d.weights Tryz.prog 28, m ≤ reachBytes) :
    ∃ (pa sa ka : Option Addr) (pc sc kc : Nat) (n : Nd), v = .agg #[.slice pa n.pairs.length pc, .slice sa n.seps.length sc, .slice ka n.kids.length kc] ∧ NdAt w pa sa ka n ∧ NdOk n := by
  obtain ⟨fuel, hf⟩ := h
  obtain ⟨f0, f1, f2, hu, e0, e1, e2, o0, o1, o2⟩ := node_struct
  obtain ⟨y0, y1, y2, n, hx, hl, h0, h1, h2⟩ := trod_struct3 hu hf
  have hc : Tryz.prog.cellsOf 28 = 3 := by kernel_rfl
  have i0 : Tryz.prog.cellsOf 24 = 1 := by kernel_rfl
  have i1 : Tryz.prog.cellsOf 25 = 1 := by kernel_rfl
  have i2 : Tryz.prog.cellsOf 26 = 1 := by kernel_rfl
  rw [hc] at hl
  rw [e0, o0, i0] at h0
  rw [e1, o1, i1] at h1
  rw [e2, o2, i2] at h2
  simp only [Prod.mk.injEq] at hx
  rw [hx.1] at hz
  simp only [DataW.weights, hu, List.map_cons, List.map_nil, DataW.weightsEach, List.append_nil, List.mem_append, e0, e1, e2] at hz
  obtain ⟨f0, f1, hp, e0, e1, o0, o1⟩ := pair_struct
  obtain ⟨pa, pc, ps, q0, a0, b0, c0⟩ := open_pairs (w := w) Tryz.underlying24 hp e0 e1 o0 o1 Tryz.underlying9 (by kernel_rfl) (by kernel_rfl) (by kernel_rfl) h0 (fun m hm => hz m (.inl hm))
  obtain ⟨sa, sc, ss, q1, a1, b1, c1⟩ := open_texts (w := w) Tryz.underlying25 Tryz.underlying9 (by kernel_rfl) (by kernel_rfl) h1 (fun m hm => hz m (.inr (.inl hm)))
  obtain ⟨f0, f1, hk, e0, e1, o0, o1⟩ := kid_struct
  obtain ⟨ka, kc, ks, q2, a2, b2, c2⟩ := open_kids (w := w) Tryz.underlying26 hk e0 e1 o0 o1 Tryz.underlying57 (by kernel_rfl) Tryz.underlying36 Tryz.underlying5 (by kernel_rfl) (by kernel_rfl) (by kernel_rfl) (by kernel_rfl) h2 (fun m hm => hz m (.inr (.inr hm)))
  refine ⟨pa, sa, ka, pc, sc, kc, ⟨ps, ss, ks⟩, agg_three ?_, ⟨a0, a1, a2⟩, ⟨b0, b1, b2, c0, c1, c2⟩⟩
  generalize v.cells.toList = cs at *
  match cs, hl with
  | [a, b, c], _ => simp at q0 q1 q2; simp [q0, q1, q2]

theorem weights_at {P : Program} {ts : List TypeId} {ds : List (DataW H)} (h : (DataW.weightsEach P ts ds).all (· ≤ reachBytes) = true) {j : Nat} {t : TypeId} {d : DataW H} (ht : ts[j]? = some t) (hd : ds[j]? = some d) : ∀ n ∈ d.weights P t, n ≤ reachBytes := fun n hn => by
  have := List.all_eq_true.1 h _ (DataW.weights_mem_each ht hd n hn)
  simpa using this
end

theorem laidOut : laidOutB Tryz.prog = true := by kernel_rfl

end Go.Proofs.YtemicgccgcmmbaaGreat
