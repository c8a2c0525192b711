/- The law's own comparison of two nodes. -/
import Derived.Test.YtemicgccgcmmbaaLaw2
import Derived.Test.YtemicgccgcmmbaaRow
import Derived.Laws.StructEq
namespace Go.Proofs.Ytemicgccgcmmbaa
set_option linter.unusedVariables false
set_option linter.unusedSimpArgs false
open Go Go.RowKit

theorem eq_pair0 (w : World) (a b c d : Bs) : (Op.equalIn 10000 48 (.agg #[.string ⟨a.toArray⟩, .string ⟨b.toArray⟩]) (.agg #[.string ⟨c.toArray⟩, .string ⟨d.toArray⟩])).run Try.prog w = .ok (a == c && b == d) w := by
  rw [run_equalIn_agg w 9999 48 _ _ (by kernel_rfl) (by kernel_rfl)]
  have hf : (Try.prog.fieldsOf 48).toList.map (fun f => (f.type, f.offset)) = [(9, 0), (9, 1)] := by kernel_rfl
  have hp : ∀ f ∈ (Try.prog.fieldsOf 48).toList, f.name ≠ "_" := by
    have : ((Try.prog.fieldsOf 48).toList.all fun f => f.name != "_") = true := by kernel_rfl
    intro f hf; simpa using List.all_eq_true.1 this f hf
  generalize (Try.prog.fieldsOf 48).toList = fs at hf hp
  obtain ⟨f0, f1, rfl⟩ : ∃ f0 f1, fs = [f0, f1] := by
    have hl : fs.length = 2 := by have := congrArg List.length hf; simpa using this
    match fs, hl with
    | [a, b], _ => exact ⟨a, b, rfl⟩
  · simp only [List.map_cons, List.map_nil, List.cons.injEq, Prod.mk.injEq, and_true] at hf
    obtain ⟨⟨a0, a1⟩, b0, b1⟩ := hf
    have n0 := hp f0 (by simp)
    have n1 := hp f1 (by simp)
    have hu : Try.prog.underlying 9 = some .string := Try.underlying9
    have hs : ∀ x y : Bs, (Op.equalIn 9999 9 (.string ⟨x.toArray⟩) (.string ⟨y.toArray⟩)).run Try.prog w = .ok (x == y) w := fun x y => by
      rw [run_equalIn_string w 9998 _ _ _ hu]; simp
    cases h1 : (a == c) <;> cases h2 : (b == d) <;>
      simp [Op.eqFields, n0, n1, a0, a1, b0, b1, part, isAgg, Sem.run_bind, run_underlying hu, hs, h1, h2, Sem.run_ite]
/-- Are two pairs the same? -/
def prEq (a b c d : Bs) : Bool := a == c && b == d
theorem prEq_iff {p q : Pr} : prEq p.1 p.2 q.1 q.2 = true ↔ p = q := by
  simp [prEq, Prod.ext_iff]
@[go_sem ↓] theorem eq_pair (w : World) (a b c d : Bs) : (Op.equalIn 10000 48 (.agg #[.string ⟨a.toArray⟩, .string ⟨b.toArray⟩]) (.agg #[.string ⟨c.toArray⟩, .string ⟨d.toArray⟩])).run Try.prog w = .ok (prEq a b c d) w := eq_pair0 w a b c d
@[go_sem] theorem guard_pair : Try.prog.eqGuardType Try.prog.depth 48 = false := by kernel_rfl

theorem pgN_iff {pages : Bool} {x y : Nd} : pgN pages x = pgN pages y ↔ x.pairs = y.pairs ∧ x.seps = y.seps ∧ x.kids.map (kdP pages) = y.kids.map (kdP pages) := by
  obtain ⟨a, b, c⟩ := x; obtain ⟨a', b', c'⟩ := y
  have h0 : ∀ c : List Kd, c.map (kdP true) = c := fun c => by
    have : kdP true = id := by funext k; rfl
    rw [this, List.map_id]
  have h1 : ∀ c : List Kd, c.map (kdP false) = c.map (fun k => ⟨0, k.sum⟩) := fun c => by
    have : kdP false = fun k => ⟨0, k.sum⟩ := by funext k; rfl
    rw [this]
  cases pages
  · simp only [pgN, Bool.false_eq_true, if_false, Nd.bare, Nd.mk.injEq, h1]
  · simp only [pgN, if_true, Nd.mk.injEq, h0]

theorem take_eq_step {α : Type} {l m : List α} {k : Nat} {x y : α} (h : l.take k = m.take k) (hx : l[k]? = some x) (hy : m[k]? = some y) (e : x = y) : l.take (k + 1) = m.take (k + 1) := by
  rw [List.take_add_one, List.take_add_one, hx, hy, h, e]
theorem ne_at {α : Type} {l m : List α} {k : Nat} {x y : α} (hx : l[k]? = some x) (hy : m[k]? = some y) (e : x ≠ y) : l ≠ m := fun h => e (by rw [h, hy] at hx; exact (Option.some.inj hx).symm)

set_option maxHeartbeats 1000000 in set_option maxRecDepth 100000 in
theorem same_any (bare : Bool) (pa sa ka qa ta la : Option Addr) (pc sc kc qc tc lc : Nat) (x y : Nd) (w : World) (hx : NdAt w pa sa ka x) (hy : NdAt w qa ta la y) (ox : NdOk x) (oy : NdOk y) :
    Calls Try.prog 16 #[.agg #[.slice pa x.pairs.length pc, .slice sa x.seps.length sc, .slice ka x.kids.length kc], .agg #[.slice qa y.pairs.length qc, .slice ta y.seps.length tc, .slice la y.kids.length lc], .bool bare] w
      (Rets (.bool (decide (pgN (!bare) x = pgN (!bare) y))) w) := by
  have HX := Lib.hid hx; have HY := Lib.hid hy; clear hx hy
  have np := ox.np; have ns := ox.ns; have nk := ox.nk
  clear ox oy
  by_cases h1 : x.pairs.length = y.pairs.length
  case neg =>
    have hb : ((x.pairs.length : Int) != (y.pairs.length : Int)) = true := by simp only [bne_iff_ne, ne_eq]; omega
    have HF : Hid (decide (pgN (!bare) x = pgN (!bare) y) = false) := decide_eq_false (fun h => h1 (by rw [(pgN_iff.1 h).1]))
    clear h1
    go_enter Try.func16, Try.ntmps16
    go_wp2_with fail
    go_ret
    rw [HF.out]
    exact ⟨rfl, by (try simp only [alloc_ext, drew_ext, drewN_ext, ext_ext]); exact ⟨_, _, rfl⟩⟩
  have hb1 : ((x.pairs.length : Int) != (y.pairs.length : Int)) = false := by simp only [bne_eq_false_iff_eq]; omega
  by_cases h2 : x.seps.length = y.seps.length
  case neg =>
    have hb : ((x.seps.length : Int) != (y.seps.length : Int)) = true := by simp only [bne_iff_ne, ne_eq]; omega
    have HF : Hid (decide (pgN (!bare) x = pgN (!bare) y) = false) := decide_eq_false (fun h => h2 (by rw [(pgN_iff.1 h).2.1]))
    clear h1 h2
    go_enter Try.func16, Try.ntmps16
    go_wp2_with fail
    go_ret
    rw [HF.out]
    exact ⟨rfl, by (try simp only [alloc_ext, drew_ext, drewN_ext, ext_ext]); exact ⟨_, _, rfl⟩⟩
  have hb2 : ((x.seps.length : Int) != (y.seps.length : Int)) = false := by simp only [bne_eq_false_iff_eq]; omega
  by_cases h3 : x.kids.length = y.kids.length
  case neg =>
    have hb : ((x.kids.length : Int) != (y.kids.length : Int)) = true := by simp only [bne_iff_ne, ne_eq]; omega
    have HF : Hid (decide (pgN (!bare) x = pgN (!bare) y) = false) := decide_eq_false (fun h => h3 (by have := congrArg List.length (pgN_iff.1 h).2.2; simpa using this))
    clear h1 h2 h3
    go_enter Try.func16, Try.ntmps16
    go_wp2_with fail
    go_ret
    rw [HF.out]
    exact ⟨rfl, by (try simp only [alloc_ext, drew_ext, drewN_ext, ext_ext]); exact ⟨_, _, rfl⟩⟩
  have hb3 : ((x.kids.length : Int) != (y.kids.length : Int)) = false := by simp only [bne_eq_false_iff_eq]; omega
  have g1 : x.pairs.length ≤ y.pairs.length := by omega
  have g1' : y.pairs.length ≤ x.pairs.length := by omega
  have g2 : x.seps.length ≤ y.seps.length := by omega
  have g2' : y.seps.length ≤ x.seps.length := by omega
  have g3 : x.kids.length ≤ y.kids.length := by omega
  have g3' : y.kids.length ≤ x.kids.length := by omega
  clear h1 h2 h3
  go_enter Try.func16, Try.ntmps16
  go_wp2_with fail
  clear hb1 hb2 hb3
  go_loopw [6, 7] (fun _ i wr => ∃ k bs n, i = .int .i64 (k : Nat) ∧ k ≤ x.pairs.length ∧ wr = ext ((w.alloc (.cells #[.slice pa x.pairs.length pc, .slice sa x.seps.length sc, .slice ka x.kids.length kc] 30)).alloc (.cells #[.slice qa y.pairs.length qc, .slice ta y.seps.length tc, .slice la y.kids.length lc] 30)) bs n ∧ Hid (x.pairs.take k = y.pairs.take k)) (fun _ i _ => x.pairs.length - (intOf i).toNat)
  case atStart => exact ⟨0, [], 0, rfl, Nat.zero_le _, ext_zero _, by simp [Hid]⟩
  case round =>
    obtain ⟨k, bs, n, rfl, hk, rfl, HE⟩ := hrel
    by_cases hlt : k < x.pairs.length
    · obtain ⟨p, hp⟩ : ∃ p, x.pairs[k]? = some p := ⟨_, List.getElem?_eq_getElem hlt⟩
      obtain ⟨q, hq⟩ : ∃ q, y.pairs[k]? = some q := ⟨_, List.getElem?_eq_getElem (by omega)⟩
      obtain ⟨b, o, rfl, hb, cf1, cf2⟩ := HX.out.ps k p hp
      obtain ⟨b', o', rfl, hb', cg1, cg2⟩ := HY.out.ps k q hq
      have HP := Lib.hid hp; have HQ := Lib.hid hq; clear hp hq
      rcases hd : prEq p.1 p.2 q.1 q.2 with _ | _
      · have HF : Hid (decide (pgN (!bare) x = pgN (!bare) y) = false) := decide_eq_false (fun h => ne_at HP.out HQ.out (fun e => by rw [prEq_iff.2 e] at hd; cases hd) (pgN_iff.1 h).1)
        go_wp2_with fail
        refine wp_region_ext (by kernel_rfl) (by kernel_rfl) ?_
        repeat (go_big_quiet_step (fail))
        (refine wpQuiet_nil ?_; intro _ hw'; obtain ⟨⟨bsq, nq⟩, hw''⟩ := hw'; subst hw'')
        go_wp2_with fail
        go_ret
        rw [HF.out]
        exact ⟨rfl, by (try simp only [alloc_ext, drew_ext, drewN_ext, ext_ext]); exact ⟨_, _, rfl⟩⟩
      · have HE' : Hid (x.pairs.take (k + 1) = y.pairs.take (k + 1)) := Lib.hid (take_eq_step HE.out HP.out HQ.out (prEq_iff.1 hd))
        go_wp2_with fail
        refine wp_region_ext (by kernel_rfl) (by kernel_rfl) ?_
        repeat (go_big_quiet_step (fail))
        (refine wpQuiet_nil ?_; intro _ hw'; obtain ⟨⟨bsq, nq⟩, hw''⟩ := hw'; subst hw'')
        go_wp2_with fail
        go_roundw
        case rel => exact ⟨k + 1, _, _, by go_num, by omega, by (try simp only [ext_alloc, ext_drew, ext_drewN, ext_ext]); rfl, HE'⟩
        case measure => simp [intOf]; omega
    · have hpe : Hid (x.pairs = y.pairs) := Lib.hid (by have := HE.out; rwa [List.take_of_length_le (by omega), List.take_of_length_le (by omega)] at this)
      clear HE
      go_wp2_with fail
      go_loopw [6, 8] (fun _ i wr => ∃ k bs n, i = .int .i64 (k : Nat) ∧ k ≤ x.seps.length ∧ wr = ext ((w.alloc (.cells #[.slice pa x.pairs.length pc, .slice sa x.seps.length sc, .slice ka x.kids.length kc] 30)).alloc (.cells #[.slice qa y.pairs.length qc, .slice ta y.seps.length tc, .slice la y.kids.length lc] 30)) bs n ∧ Hid (x.seps.take k = y.seps.take k)) (fun _ i _ => x.seps.length - (intOf i).toNat)
      case atStart => exact ⟨0, _, _, rfl, Nat.zero_le _, rfl, by simp [Hid]⟩
      case round =>
        obtain ⟨k, bs, n, rfl, hk, rfl, HE⟩ := hrel
        by_cases hlt : k < x.seps.length
        · obtain ⟨p, hp⟩ : ∃ p, x.seps[k]? = some p := ⟨_, List.getElem?_eq_getElem hlt⟩
          obtain ⟨q, hq⟩ : ∃ q, y.seps[k]? = some q := ⟨_, List.getElem?_eq_getElem (by omega)⟩
          obtain ⟨b, o, rfl, hb, cf1⟩ := HX.out.ss k p hp
          obtain ⟨b', o', rfl, hb', cg1⟩ := HY.out.ss k q hq
          have HP := Lib.hid hp; have HQ := Lib.hid hq; clear hp hq
          rcases hd : (p == q) with _ | _
          · have HF : Hid (decide (pgN (!bare) x = pgN (!bare) y) = false) := decide_eq_false (fun h => ne_at HP.out HQ.out (by simpa using hd) (pgN_iff.1 h).2.1)
            go_wp2_with fail
            refine wp_region_ext (by kernel_rfl) (by kernel_rfl) ?_
            repeat (go_big_quiet_step (fail))
            (refine wpQuiet_nil ?_; intro _ hw'; obtain ⟨⟨bsq, nq⟩, hw''⟩ := hw'; subst hw'')
            go_wp2_with fail
            go_ret
            rw [HF.out]
            exact ⟨rfl, by (try simp only [alloc_ext, drew_ext, drewN_ext, ext_ext]); exact ⟨_, _, rfl⟩⟩
          · have HE' : Hid (x.seps.take (k + 1) = y.seps.take (k + 1)) := Lib.hid (take_eq_step HE.out HP.out HQ.out (by simpa using hd))
            go_wp2_with fail
            refine wp_region_ext (by kernel_rfl) (by kernel_rfl) ?_
            repeat (go_big_quiet_step (fail))
            (refine wpQuiet_nil ?_; intro _ hw'; obtain ⟨⟨bsq, nq⟩, hw''⟩ := hw'; subst hw'')
            go_wp2_with fail
            go_roundw
            case rel => exact ⟨k + 1, _, _, by go_num, by omega, by (try simp only [ext_alloc, ext_drew, ext_drewN, ext_ext]); rfl, HE'⟩
            case measure => simp [intOf]; omega
        · have hse : Hid (x.seps = y.seps) := Lib.hid (by have := HE.out; rwa [List.take_of_length_le (by omega), List.take_of_length_le (by omega)] at this)
          clear HE
          go_wp2_with fail
          go_loopw [6, 9] (fun _ i wr => ∃ k bs n, i = .int .i64 (k : Nat) ∧ k ≤ x.kids.length ∧ wr = ext ((w.alloc (.cells #[.slice pa x.pairs.length pc, .slice sa x.seps.length sc, .slice ka x.kids.length kc] 30)).alloc (.cells #[.slice qa y.pairs.length qc, .slice ta y.seps.length tc, .slice la y.kids.length lc] 30)) bs n ∧ Hid ((x.kids.map (kdP (!bare))).take k = (y.kids.map (kdP (!bare))).take k)) (fun _ i _ => x.kids.length - (intOf i).toNat)
          case atStart => exact ⟨0, _, _, rfl, Nat.zero_le _, rfl, by simp [Hid]⟩
          case round =>
            obtain ⟨k, bs, n, rfl, hk, rfl, HE⟩ := hrel
            by_cases hlt : k < x.kids.length
            · obtain ⟨p, hp⟩ : ∃ p, x.kids[k]? = some p := ⟨_, List.getElem?_eq_getElem hlt⟩
              obtain ⟨q, hq⟩ : ∃ q, y.kids[k]? = some q := ⟨_, List.getElem?_eq_getElem (by omega)⟩
              obtain ⟨b, o, rfl, hb, r1⟩ := HX.out.ks k p hp
              obtain ⟨b', o', rfl, hb', r2⟩ := HY.out.ks k q hq
              have HP : Hid ((x.kids.map (kdP (!bare)))[k]? = some (kdP (!bare) p)) := Lib.hid (by rw [List.getElem?_map, hp]; rfl)
              have HQ : Hid ((y.kids.map (kdP (!bare)))[k]? = some (kdP (!bare) q)) := Lib.hid (by rw [List.getElem?_map, hq]; rfl)
              clear hp hq
              have cp := (rowAt?_cell r1).2 0 _ (Kd.get0 p)
              have cq := (rowAt?_cell r2).2 0 _ (Kd.get0 q)
              have rs := rowAt?_sub r1 1 32 (by omega)
              have rt := rowAt?_sub r2 1 32 (by omega)
              rw [show (1 + 32) = 33 from rfl, Kd.extract1] at rs rt
              simp only [Addr.add_lit, Nat.add_zero] at cp cq rs rt
              have hres : kdP (!bare) p = kdP (!bare) q → Hid ((x.kids.map (kdP (!bare))).take (k + 1) = (y.kids.map (kdP (!bare))).take (k + 1)) := fun e => Lib.hid (take_eq_step HE.out HP.out HQ.out e)
              have hfl : kdP (!bare) p ≠ kdP (!bare) q → Hid (decide (pgN (!bare) x = pgN (!bare) y) = false) := fun e => Lib.hid (decide_eq_false (fun h => ne_at HP.out HQ.out e (pgN_iff.1 h).2.2))
              clear r1 r2
              rcases hd : decide (p.sum = q.sum) with _ | _
              · have HF := hfl (by intro e; have := congrArg Kd.sum e; cases bare <;> simp [kdP] at this <;> simp [this] at hd)
                clear hfl hres
                go_wp2_with fail
                refine wp_region_ext (by kernel_rfl) (by kernel_rfl) ?_
                repeat (go_big_quiet_step (fail))
                (refine wpQuiet_nil ?_; intro _ hw'; obtain ⟨⟨bsq, nq⟩, hw''⟩ := hw'; subst hw'')
                go_wp2_with fail
                go_ret
                rw [HF.out]
                exact ⟨rfl, by (try simp only [alloc_ext, drew_ext, drewN_ext, ext_ext]); exact ⟨_, _, rfl⟩⟩
              · cases bare
                · rcases hd2 : ((p.page : Int) != (q.page : Int)) with _ | _
                  · have HE' := hres (by simp at hd hd2; obtain ⟨a, b⟩ := p; obtain ⟨c, d⟩ := q; simp [kdP] at hd hd2 ⊢; exact ⟨by omega, hd⟩)
                    clear hfl hres
                    go_wp2_with fail
                    refine wp_region_ext (by kernel_rfl) (by kernel_rfl) ?_
                    repeat (go_big_quiet_step (fail))
                    (refine wpQuiet_nil ?_; intro _ hw'; obtain ⟨⟨bsq, nq⟩, hw''⟩ := hw'; subst hw'')
                    go_wp2_with fail
                    go_roundw
                    case rel => exact ⟨k + 1, _, _, by go_num, by omega, by (try simp only [ext_alloc, ext_drew, ext_drewN, ext_ext]); rfl, HE'⟩
                    case measure => simp [intOf]; omega
                  · have HF := hfl (by intro e; have := congrArg Kd.page e; simp [kdP] at this; simp [this] at hd2)
                    clear hfl hres
                    go_wp2_with fail
                    refine wp_region_ext (by kernel_rfl) (by kernel_rfl) ?_
                    repeat (go_big_quiet_step (fail))
                    (refine wpQuiet_nil ?_; intro _ hw'; obtain ⟨⟨bsq, nq⟩, hw''⟩ := hw'; subst hw'')
                    go_wp2_with fail
                    go_ret
                    rw [HF.out]
                    exact ⟨rfl, by (try simp only [alloc_ext, drew_ext, drewN_ext, ext_ext]); exact ⟨_, _, rfl⟩⟩
                · have HE' := hres (by simp at hd; simp [kdP, hd])
                  clear hfl hres
                  go_wp2_with fail
                  refine wp_region_ext (by kernel_rfl) (by kernel_rfl) ?_
                  repeat (go_big_quiet_step (fail))
                  (refine wpQuiet_nil ?_; intro _ hw'; obtain ⟨⟨bsq, nq⟩, hw''⟩ := hw'; subst hw'')
                  go_wp2_with fail
                  go_roundw
                  case rel => exact ⟨k + 1, _, _, by go_num, by omega, by (try simp only [ext_alloc, ext_drew, ext_drewN, ext_ext]); rfl, HE'⟩
                  case measure => simp [intOf]; omega
            · have HF : Hid (decide (pgN (!bare) x = pgN (!bare) y) = true) := Lib.hid (decide_eq_true (pgN_iff.2 ⟨hpe.out, hse.out, by have := HE.out; rwa [List.take_of_length_le (by simp; omega), List.take_of_length_le (by simp; omega)] at this⟩))
              go_wp2_with fail
              go_ret
              rw [HF.out]
              exact ⟨rfl, by (try simp only [alloc_ext, drew_ext, drewN_ext, ext_ext]); exact ⟨_, _, rfl⟩⟩

end Go.Proofs.Ytemicgccgcmmbaa
