/- Pairs are compared. -/
import Derived.Test.YtemicgccgcmmbaaGreatZ28
import Derived.Test.YtemicgccgcmmbaaGreatZ20
import Derived.Laws.StructEq
namespace Go.Proofs.YtemicgccgcmmbaaGreat
set_option linter.unusedVariables false
set_option linter.unusedSimpArgs false
open Go Go.RowKit

theorem eq_pair0 (w : World) (a b c d : Bs) : (Op.equalIn 10000 56 (.agg #[.string ⟨a.toArray⟩, .string ⟨b.toArray⟩]) (.agg #[.string ⟨c.toArray⟩, .string ⟨d.toArray⟩])).run Tryz.prog w = .ok (a == c && b == d) w := by
  rw [run_equalIn_agg w 9999 56 _ _ (by kernel_rfl) (by kernel_rfl)]
  have hf : (Tryz.prog.fieldsOf 56).toList.map (fun f => (f.type, f.offset)) = [(9, 0), (9, 1)] := by kernel_rfl
  have hp : ∀ f ∈ (Tryz.prog.fieldsOf 56).toList, f.name ≠ "_" := by
    have : ((Tryz.prog.fieldsOf 56).toList.all fun f => f.name != "_") = true := by kernel_rfl
    intro f hf; simpa using List.all_eq_true.1 this f hf
  generalize (Tryz.prog.fieldsOf 56).toList = fs at hf hp
  obtain ⟨f0, f1, rfl⟩ : ∃ f0 f1, fs = [f0, f1] := by
    have hl : fs.length = 2 := by have := congrArg List.length hf; simpa using this
    match fs, hl with
    | [a, b], _ => exact ⟨a, b, rfl⟩
  · simp only [List.map_cons, List.map_nil, List.cons.injEq, Prod.mk.injEq, and_true] at hf
    obtain ⟨⟨a0, a1⟩, b0, b1⟩ := hf
    have n0 := hp f0 (by simp)
    have n1 := hp f1 (by simp)
    have hu : Tryz.prog.underlying 9 = some .string := Tryz.underlying9
    have hs : ∀ x y : Bs, (Op.equalIn 9999 9 (.string ⟨x.toArray⟩) (.string ⟨y.toArray⟩)).run Tryz.prog w = .ok (x == y) w := fun x y => by
      rw [run_equalIn_string w 9998 _ _ _ hu]; simp
    cases h1 : (a == c) <;> cases h2 : (b == d) <;>
      simp [Op.eqFields, n0, n1, a0, a1, b0, b1, part, isAgg, Sem.run_bind, run_underlying hu, hs, h1, h2, Sem.run_ite]
/-- Are two pairs the same? -/
def prEq (a b c d : Bs) : Bool := a == c && b == d
theorem prEq_iff {p q : Pr} : prEq p.1 p.2 q.1 q.2 = true ↔ p = q := by
  simp [prEq, Prod.ext_iff]
@[go_sem ↓] theorem eq_pair (w : World) (a b c d : Bs) : (Op.equalIn 10000 56 (.agg #[.string ⟨a.toArray⟩, .string ⟨b.toArray⟩]) (.agg #[.string ⟨c.toArray⟩, .string ⟨d.toArray⟩])).run Tryz.prog w = .ok (prEq a b c d) w := eq_pair0 w a b c d
@[go_sem] theorem guard_pair : Tryz.prog.eqGuardType Tryz.prog.depth 56 = false := by kernel_rfl

theorem pgN_iff {pages : Bool} {x y : Nd} : pgN pages x = pgN pages y ↔ x.pairs = y.pairs ∧ x.seps = y.seps ∧ x.kids.map (kdP pages) = y.kids.map (kdP pages) := by
  obtain ⟨a, b, c⟩ := x; obtain ⟨a', b', c'⟩ := y
  have h0 : ∀ c : List Kd, c.map (kdP true) = c := fun c => by
    have : kdP true = id := by funext k; rfl
    rw [this, List.map_id]
  have h1 : ∀ c : List Kd, c.map (kdP false) = c.map (fun k => ⟨0, k.sum⟩) := fun c => by
    have : kdP false = fun k => ⟨0, k.sum⟩ := by funext k; rfl
    rw [this]
  cases pages
  · simp only [pgN, Bool.false_eq_true, if_false, Nd.bare, Nd.mk.injEq, h1]
  · simp only [pgN, if_true, Nd.mk.injEq, h0]

theorem take_eq_step {α : Type} {l m : List α} {k : Nat} {x y : α} (h : l.take k = m.take k) (hx : l[k]? = some x) (hy : m[k]? = some y) (e : x = y) : l.take (k + 1) = m.take (k + 1) := by
  rw [List.take_add_one, List.take_add_one, hx, hy, h, e]
theorem ne_at {α : Type} {l m : List α} {k : Nat} {x y : α} (hx : l[k]? = some x) (hy : m[k]? = some y) (e : x ≠ y) : l ≠ m := fun h => e (by rw [h, hy] at hx; exact (Option.some.inj hx).symm)

end Go.Proofs.YtemicgccgcmmbaaGreat

/- The document's comparison of two nodes. -/
namespace Go.Proofs.YtemicgccgcmmbaaGreat
set_option linter.unusedVariables false
set_option linter.unusedSimpArgs false
open Go Go.RowKit

theorem run_part_dg (w : World) (k : Kd) : (part 36 k.c 1).run Tryz.prog w = .ok (.agg k.sum.c) w := by
  have hu : Tryz.prog.underlying 36 = some (.array 32 5) := Tryz.underlying36
  have hs : (Tryz.prog.info? 36).map (·.size) = some 32 := by kernel_rfl
  cases hq : Tryz.prog.info? 36 with
  | none => simp [hq] at hs
  | some i =>
    have hi : i.size = 32 := by simpa [hq] using hs
    have he : k.c.extract 1 (1 + 32) = k.sum.c := Kd.extract1 k
    simp only [part, isAgg, Sem.run_bind, run_underlying hu, Result.andThen_ok, Sem.run_pure, if_true, sizeOf, typeInfo, run_program, hq, hi, he]
theorem run_part_pg (w : World) (k : Kd) : (part 57 k.c 0).run Tryz.prog w = .ok (.int .u32 (k.page : Int)) w := by
  have hu : Tryz.prog.underlying 57 = some (.int .u32) := Tryz.underlying57
  have h0 := Kd.get0 k
  simp [part, isAgg, Sem.run_bind, run_underlying hu, Kd.getE0]
theorem eq_dg9 (w : World) (a b : Dg) : (Op.equalIn 9999 36 (.agg a.c) (.agg b.c)).run Tryz.prog w = .ok (decide (a = b)) w := by
  have := run_equalIn_u8 (P := Tryz.prog) w 9997 36 32 5 Tryz.underlying36 Tryz.underlying5 (by kernel_rfl) a.l b.l a.h b.h
  rw [show (decide (a = b)) = (a.l == b.l) by rw [Bool.eq_iff_iff]; simp; exact ⟨fun h => by rw [h], Dg.ext'⟩]
  exact this
theorem kd_dec (a b : Kd) : decide (a = b) = (((a.page : Int) == (b.page : Int)) && decide (a.sum = b.sum)) := by
  obtain ⟨p, s⟩ := a; obtain ⟨p', s'⟩ := b
  rw [Bool.eq_iff_iff]; simp only [Kd.mk.injEq, decide_eq_true_eq, Bool.and_eq_true, beq_iff_eq, Int.ofNat_inj]
/-- Two fields are compared, the second where the first is alike. -/
theorem eqFields_two {P : Program} (w : World) (d : Nat) (xs ys : Array Value) (f0 f1 : Field) (x0 x1 y0 y1 : Value) (u0 u1 : Bool) (n0 : f0.name ≠ "_") (n1 : f1.name ≠ "_")
    (h0 : (part f0.type xs f0.offset).run P w = .ok x0 w) (h1 : (part f0.type ys f0.offset).run P w = .ok y0 w) (h2 : (Op.equalIn d f0.type x0 y0).run P w = .ok u0 w)
    (k0 : (part f1.type xs f1.offset).run P w = .ok x1 w) (k1 : (part f1.type ys f1.offset).run P w = .ok y1 w) (k2 : (Op.equalIn d f1.type x1 y1).run P w = .ok u1 w) :
    (Op.eqFields d xs ys [f0, f1]).run P w = .ok (u0 && u1) w := by
  cases u0 <;> cases u1 <;> simp [Op.eqFields, n0, n1, Sem.run_bind, h0, h1, h2, k0, k1, k2, Sem.run_ite]
theorem eq_kid0 (w : World) (a b : Kd) : (Op.equalIn 10000 59 (.agg a.c) (.agg b.c)).run Tryz.prog w = .ok (((a.page : Int) == (b.page : Int)) && decide (a.sum = b.sum)) w := by
  rw [run_equalIn_agg w 9999 59 _ _ (by kernel_rfl) (by kernel_rfl)]
  have hf : (Tryz.prog.fieldsOf 59).toList.map (fun f => (f.type, f.offset)) = [(57, 0), (36, 1)] := by kernel_rfl
  have hp : ∀ f ∈ (Tryz.prog.fieldsOf 59).toList, f.name ≠ "_" := by
    have : ((Tryz.prog.fieldsOf 59).toList.all fun f => f.name != "_") = true := by kernel_rfl
    intro f hf; simpa using List.all_eq_true.1 this f hf
  generalize (Tryz.prog.fieldsOf 59).toList = fs at hf hp
  obtain ⟨f0, f1, rfl⟩ : ∃ f0 f1, fs = [f0, f1] := by
    have hl : fs.length = 2 := by have := congrArg List.length hf; simpa using this
    match fs, hl with
    | [a, b], _ => exact ⟨a, b, rfl⟩
  simp only [List.map_cons, List.map_nil, List.cons.injEq, Prod.mk.injEq, and_true] at hf
  obtain ⟨⟨a0, a1⟩, b0, b1⟩ := hf
  exact eqFields_two w 9999 a.c b.c f0 f1 _ _ _ _ _ _ (hp f0 (by simp)) (hp f1 (by simp)) (by rw [a0, a1]; exact run_part_pg w a) (by rw [a0, a1]; exact run_part_pg w b) (by rw [a0]; exact run_equalIn_int w 9998 _ _ _ _ _ Tryz.underlying57)
    (by rw [b0, b1]; exact run_part_dg w a) (by rw [b0, b1]; exact run_part_dg w b) (by rw [b0]; exact eq_dg9 w a.sum b.sum)
@[go_sem ↓] theorem eq_kid (w : World) (a b : Kd) : (Op.equalIn 10000 59 (.agg a.c) (.agg b.c)).run Tryz.prog w = .ok (decide (a = b)) w := by
  rw [kd_dec]; exact eq_kid0 w a b
@[go_sem] theorem guard_kid : Tryz.prog.eqGuardType Tryz.prog.depth 59 = false := by kernel_rfl

set_option maxHeartbeats 1000000 in set_option maxRecDepth 100000 in
theorem refSame_any (pa sa ka qa ta la : Option Addr) (pc sc kc qc tc lc : Nat) (x y : Nd) (w : World) (hx : NdAt w pa sa ka x) (hy : NdAt w qa ta la y) (ox : NdOk x) (oy : NdOk y) :
    Calls Tryz.prog 10 #[.agg #[.slice pa x.pairs.length pc, .slice sa x.seps.length sc, .slice ka x.kids.length kc], .agg #[.slice qa y.pairs.length qc, .slice ta y.seps.length tc, .slice la y.kids.length lc]] w
      (Rets (.bool (decide (x = y))) w) := by
  have HX := Lib.hid hx; have HY := Lib.hid hy; clear hx hy
  have np := ox.np; have ns := ox.ns; have nk := ox.nk
  clear ox oy
  by_cases h1 : x.pairs.length = y.pairs.length
  case neg =>
    have hb : ((x.pairs.length : Int) != (y.pairs.length : Int)) = true := by simp only [bne_iff_ne, ne_eq]; omega
    have HF : Hid (decide (x = y) = false) := decide_eq_false (fun h => h1 (by rw [h]))
    clear h1
    go_enter Tryz.func10, Tryz.ntmps10
    go_wp2_with fail
    go_ret
    rw [HF.out]
    exact ⟨rfl, by (try simp only [alloc_ext, drew_ext, drewN_ext, ext_ext]); exact ⟨_, _, rfl⟩⟩
  have hb1 : ((x.pairs.length : Int) != (y.pairs.length : Int)) = false := by simp only [bne_eq_false_iff_eq]; omega
  by_cases h2 : x.seps.length = y.seps.length
  case neg =>
    have hb : ((x.seps.length : Int) != (y.seps.length : Int)) = true := by simp only [bne_iff_ne, ne_eq]; omega
    have HF : Hid (decide (x = y) = false) := decide_eq_false (fun h => h2 (by rw [h]))
    clear h1 h2
    go_enter Tryz.func10, Tryz.ntmps10
    go_wp2_with fail
    go_ret
    rw [HF.out]
    exact ⟨rfl, by (try simp only [alloc_ext, drew_ext, drewN_ext, ext_ext]); exact ⟨_, _, rfl⟩⟩
  have hb2 : ((x.seps.length : Int) != (y.seps.length : Int)) = false := by simp only [bne_eq_false_iff_eq]; omega
  by_cases h3 : x.kids.length = y.kids.length
  case neg =>
    have hb : ((x.kids.length : Int) != (y.kids.length : Int)) = true := by simp only [bne_iff_ne, ne_eq]; omega
    have HF : Hid (decide (x = y) = false) := decide_eq_false (fun h => h3 (by rw [h]))
    clear h1 h2 h3
    go_enter Tryz.func10, Tryz.ntmps10
    go_wp2_with fail
    go_ret
    rw [HF.out]
    exact ⟨rfl, by (try simp only [alloc_ext, drew_ext, drewN_ext, ext_ext]); exact ⟨_, _, rfl⟩⟩
  have hb3 : ((x.kids.length : Int) != (y.kids.length : Int)) = false := by simp only [bne_eq_false_iff_eq]; omega
  have g1 : x.pairs.length ≤ y.pairs.length := by omega
  have g1' : y.pairs.length ≤ x.pairs.length := by omega
  have g2 : x.seps.length ≤ y.seps.length := by omega
  have g2' : y.seps.length ≤ x.seps.length := by omega
  have g3 : x.kids.length ≤ y.kids.length := by omega
  have g3' : y.kids.length ≤ x.kids.length := by omega
  clear h1 h2 h3
  go_enter Tryz.func10, Tryz.ntmps10
  go_wp2_with fail
  clear hb1 hb2 hb3
  go_loopw [4, 5] (fun _ i wr => ∃ k bs n, i = .int .i64 (k : Nat) ∧ k ≤ x.pairs.length ∧ wr = ext ((w.alloc (.cells #[.slice pa x.pairs.length pc, .slice sa x.seps.length sc, .slice ka x.kids.length kc] 28)).alloc (.cells #[.slice qa y.pairs.length qc, .slice ta y.seps.length tc, .slice la y.kids.length lc] 28)) bs n ∧ Hid (x.pairs.take k = y.pairs.take k)) (fun _ i _ => x.pairs.length - (intOf i).toNat)
  case atStart => exact ⟨0, [], 0, rfl, Nat.zero_le _, ext_zero _, by simp [Hid]⟩
  case round =>
    obtain ⟨k, bs, n, rfl, hk, rfl, HE⟩ := hrel
    by_cases hlt : k < x.pairs.length
    · obtain ⟨p, hp⟩ : ∃ p, x.pairs[k]? = some p := ⟨_, List.getElem?_eq_getElem hlt⟩
      obtain ⟨q, hq⟩ : ∃ q, y.pairs[k]? = some q := ⟨_, List.getElem?_eq_getElem (by omega)⟩
      obtain ⟨b, o, rfl, hb, cf1, cf2⟩ := HX.out.ps k p hp
      obtain ⟨b', o', rfl, hb', cg1, cg2⟩ := HY.out.ps k q hq
      have HP := Lib.hid hp; have HQ := Lib.hid hq; clear hp hq
      rcases hd : prEq p.1 p.2 q.1 q.2 with _ | _
      · have HF : Hid (decide (x = y) = false) := decide_eq_false (fun h => ne_at HP.out HQ.out (fun e => by rw [prEq_iff.2 e] at hd; cases hd) (by rw [h]))
        go_wp2_with fail
        refine wp_region_ext (by kernel_rfl) (by kernel_rfl) ?_
        repeat (go_big_quiet_step (fail))
        (refine wpQuiet_nil ?_; intro _ hw'; obtain ⟨⟨bsq, nq⟩, hw''⟩ := hw'; subst hw'')
        go_wp2_with fail
        go_ret
        rw [HF.out]
        exact ⟨rfl, by (try simp only [alloc_ext, drew_ext, drewN_ext, ext_ext]); exact ⟨_, _, rfl⟩⟩
      · have HE' : Hid (x.pairs.take (k + 1) = y.pairs.take (k + 1)) := Lib.hid (take_eq_step HE.out HP.out HQ.out (prEq_iff.1 hd))
        go_wp2_with fail
        refine wp_region_ext (by kernel_rfl) (by kernel_rfl) ?_
        repeat (go_big_quiet_step (fail))
        (refine wpQuiet_nil ?_; intro _ hw'; obtain ⟨⟨bsq, nq⟩, hw''⟩ := hw'; subst hw'')
        go_wp2_with fail
        go_roundw
        case rel => exact ⟨k + 1, _, _, by go_num, by omega, by (try simp only [ext_alloc, ext_drew, ext_drewN, ext_ext]); rfl, HE'⟩
        case measure => simp [intOf]; omega
    · have hpe : Hid (x.pairs = y.pairs) := Lib.hid (by have := HE.out; rwa [List.take_of_length_le (by omega), List.take_of_length_le (by omega)] at this)
      clear HE
      go_wp2_with fail
      go_loopw [4, 6] (fun _ i wr => ∃ k bs n, i = .int .i64 (k : Nat) ∧ k ≤ x.seps.length ∧ wr = ext ((w.alloc (.cells #[.slice pa x.pairs.length pc, .slice sa x.seps.length sc, .slice ka x.kids.length kc] 28)).alloc (.cells #[.slice qa y.pairs.length qc, .slice ta y.seps.length tc, .slice la y.kids.length lc] 28)) bs n ∧ Hid (x.seps.take k = y.seps.take k)) (fun _ i _ => x.seps.length - (intOf i).toNat)
      case atStart => exact ⟨0, _, _, rfl, Nat.zero_le _, rfl, by simp [Hid]⟩
      case round =>
        obtain ⟨k, bs, n, rfl, hk, rfl, HE⟩ := hrel
        by_cases hlt : k < x.seps.length
        · obtain ⟨p, hp⟩ : ∃ p, x.seps[k]? = some p := ⟨_, List.getElem?_eq_getElem hlt⟩
          obtain ⟨q, hq⟩ : ∃ q, y.seps[k]? = some q := ⟨_, List.getElem?_eq_getElem (by omega)⟩
          obtain ⟨b, o, rfl, hb, cf1⟩ := HX.out.ss k p hp
          obtain ⟨b', o', rfl, hb', cg1⟩ := HY.out.ss k q hq
          have HP := Lib.hid hp; have HQ := Lib.hid hq; clear hp hq
          rcases hd : (p == q) with _ | _
          · have HF : Hid (decide (x = y) = false) := decide_eq_false (fun h => ne_at HP.out HQ.out (by simpa using hd) (by rw [h]))
            go_wp2_with fail
            refine wp_region_ext (by kernel_rfl) (by kernel_rfl) ?_
            repeat (go_big_quiet_step (fail))
            (refine wpQuiet_nil ?_; intro _ hw'; obtain ⟨⟨bsq, nq⟩, hw''⟩ := hw'; subst hw'')
            go_wp2_with fail
            go_ret
            rw [HF.out]
            exact ⟨rfl, by (try simp only [alloc_ext, drew_ext, drewN_ext, ext_ext]); exact ⟨_, _, rfl⟩⟩
          · have HE' : Hid (x.seps.take (k + 1) = y.seps.take (k + 1)) := Lib.hid (take_eq_step HE.out HP.out HQ.out (by simpa using hd))
            go_wp2_with fail
            refine wp_region_ext (by kernel_rfl) (by kernel_rfl) ?_
            repeat (go_big_quiet_step (fail))
            (refine wpQuiet_nil ?_; intro _ hw'; obtain ⟨⟨bsq, nq⟩, hw''⟩ := hw'; subst hw'')
            go_wp2_with fail
            go_roundw
            case rel => exact ⟨k + 1, _, _, by go_num, by omega, by (try simp only [ext_alloc, ext_drew, ext_drewN, ext_ext]); rfl, HE'⟩
            case measure => simp [intOf]; omega
        · have hse : Hid (x.seps = y.seps) := Lib.hid (by have := HE.out; rwa [List.take_of_length_le (by omega), List.take_of_length_le (by omega)] at this)
          clear HE
          go_wp2_with fail
          go_loopw [4, 7] (fun _ i wr => ∃ k bs n, i = .int .i64 (k : Nat) ∧ k ≤ x.kids.length ∧ wr = ext ((w.alloc (.cells #[.slice pa x.pairs.length pc, .slice sa x.seps.length sc, .slice ka x.kids.length kc] 28)).alloc (.cells #[.slice qa y.pairs.length qc, .slice ta y.seps.length tc, .slice la y.kids.length lc] 28)) bs n ∧ Hid (x.kids.take k = y.kids.take k)) (fun _ i _ => x.kids.length - (intOf i).toNat)
          case atStart => exact ⟨0, _, _, rfl, Nat.zero_le _, rfl, by simp [Hid]⟩
          case round =>
            obtain ⟨k, bs, n, rfl, hk, rfl, HE⟩ := hrel
            by_cases hlt : k < x.kids.length
            · obtain ⟨p, hp⟩ : ∃ p, x.kids[k]? = some p := ⟨_, List.getElem?_eq_getElem hlt⟩
              obtain ⟨q, hq⟩ : ∃ q, y.kids[k]? = some q := ⟨_, List.getElem?_eq_getElem (by omega)⟩
              obtain ⟨b, o, rfl, hb, r1⟩ := HX.out.ks k p hp
              obtain ⟨b', o', rfl, hb', r2⟩ := HY.out.ks k q hq
              have HP := Lib.hid hp; have HQ := Lib.hid hq; clear hp hq
              rcases hd : decide (p = q) with _ | _
              · have HF : Hid (decide (x = y) = false) := decide_eq_false (fun h => ne_at HP.out HQ.out (by simpa using hd) (by rw [h]))
                go_wp2_with fail
                refine wp_region_ext (by kernel_rfl) (by kernel_rfl) ?_
                repeat (go_big_quiet_step (fail))
                (refine wpQuiet_nil ?_; intro _ hw'; obtain ⟨⟨bsq, nq⟩, hw''⟩ := hw'; subst hw'')
                go_wp2_with fail
                go_ret
                rw [HF.out]
                exact ⟨rfl, by (try simp only [alloc_ext, drew_ext, drewN_ext, ext_ext]); exact ⟨_, _, rfl⟩⟩
              · have HE' : Hid (x.kids.take (k + 1) = y.kids.take (k + 1)) := Lib.hid (take_eq_step HE.out HP.out HQ.out (by simpa using hd))
                go_wp2_with fail
                refine wp_region_ext (by kernel_rfl) (by kernel_rfl) ?_
                repeat (go_big_quiet_step (fail))
                (refine wpQuiet_nil ?_; intro _ hw'; obtain ⟨⟨bsq, nq⟩, hw''⟩ := hw'; subst hw'')
                go_wp2_with fail
                go_roundw
                case rel => exact ⟨k + 1, _, _, by go_num, by omega, by (try simp only [ext_alloc, ext_drew, ext_drewN, ext_ext]); rfl, HE'⟩
                case measure => simp [intOf]; omega
            · have HF : Hid (decide (x = y) = true) := Lib.hid (decide_eq_true (by
                have hke := HE.out
                rw [List.take_of_length_le (by omega), List.take_of_length_le (by omega)] at hke
                have h1 := hpe.out; have h2 := hse.out
                obtain ⟨a, b, c⟩ := x; obtain ⟨a', b', c'⟩ := y
                simp only at h1 h2 hke
                rw [h1, h2, hke]))
              go_wp2_with fail
              go_ret
              rw [HF.out]
              exact ⟨rfl, by (try simp only [alloc_ext, drew_ext, drewN_ext, ext_ext]); exact ⟨_, _, rfl⟩⟩

end Go.Proofs.YtemicgccgcmmbaaGreat
