/- The document's comparison of two nodes. -/
import Derived.Test.YtemicgccgcmmbaaZ6
import Derived.Test.YtemicgccgcmmbaaZ5
import Derived.Test.YtemicgccgcmmbaaZ2
import Derived.Test.YtemicgccgcmmbaaZ4
namespace Go.Proofs.Ytemicgccgcmmbaa
set_option linter.unusedVariables false
set_option linter.unusedSimpArgs false
open Go Go.RowKit

theorem run_part_dg (w : World) (k : Kd) : (part 40 k.c 1).run Try.prog w = .ok (.agg k.sum.c) w := by
  have hu : Try.prog.underlying 40 = some (.array 32 5) := Try.underlying40
  have hs : (Try.prog.info? 40).map (·.size) = some 32 := by kernel_rfl
  cases hq : Try.prog.info? 40 with
  | none => simp [hq] at hs
  | some i =>
    have hi : i.size = 32 := by simpa [hq] using hs
    have he : k.c.extract 1 (1 + 32) = k.sum.c := Kd.extract1 k
    simp only [part, isAgg, Sem.run_bind, run_underlying hu, Result.andThen_ok, Sem.run_pure, if_true, sizeOf, typeInfo, run_program, hq, hi, he]
theorem run_part_pg (w : World) (k : Kd) : (part 38 k.c 0).run Try.prog w = .ok (.int .u32 (k.page : Int)) w := by
  have hu : Try.prog.underlying 38 = some (.int .u32) := Try.underlying38
  have h0 := Kd.get0 k
  simp [part, isAgg, Sem.run_bind, run_underlying hu, Kd.getE0]
theorem eq_dg9 (w : World) (a b : Dg) : (Op.equalIn 9999 40 (.agg a.c) (.agg b.c)).run Try.prog w = .ok (decide (a = b)) w := by
  have := run_equalIn_u8 (P := Try.prog) w 9997 40 32 5 Try.underlying40 Try.underlying5 (by kernel_rfl) a.l b.l a.h b.h
  rw [show (decide (a = b)) = (a.l == b.l) by rw [Bool.eq_iff_iff]; simp; exact ⟨fun h => by rw [h], Dg.ext'⟩]
  exact this
theorem kd_dec (a b : Kd) : decide (a = b) = (((a.page : Int) == (b.page : Int)) && decide (a.sum = b.sum)) := by
  obtain ⟨p, s⟩ := a; obtain ⟨p', s'⟩ := b
  rw [Bool.eq_iff_iff]; simp only [Kd.mk.injEq, decide_eq_true_eq, Bool.and_eq_true, beq_iff_eq, Int.ofNat_inj]
/-- Two fields are compared, the second where the first is alike. -/
theorem eqFields_two {P : Program} (w : World) (d : Nat) (xs ys : Array Value) (f0 f1 : Field) (x0 x1 y0 y1 : Value) (u0 u1 : Bool) (n0 : f0.name ≠ "_") (n1 : f1.name ≠ "_")
    (h0 : (part f0.type xs f0.offset).run P w = .ok x0 w) (h1 : (part f0.type ys f0.offset).run P w = .ok y0 w) (h2 : (Op.equalIn d f0.type x0 y0).run P w = .ok u0 w)
    (k0 : (part f1.type xs f1.offset).run P w = .ok x1 w) (k1 : (part f1.type ys f1.offset).run P w = .ok y1 w) (k2 : (Op.equalIn d f1.type x1 y1).run P w = .ok u1 w) :
    (Op.eqFields d xs ys [f0, f1]).run P w = .ok (u0 && u1) w := by
  cases u0 <;> cases u1 <;> simp [Op.eqFields, n0, n1, Sem.run_bind, h0, h1, h2, k0, k1, k2, Sem.run_ite]
theorem eq_kid0 (w : World) (a b : Kd) : (Op.equalIn 10000 42 (.agg a.c) (.agg b.c)).run Try.prog w = .ok (((a.page : Int) == (b.page : Int)) && decide (a.sum = b.sum)) w := by
  rw [run_equalIn_agg w 9999 42 _ _ (by kernel_rfl) (by kernel_rfl)]
  have hf : (Try.prog.fieldsOf 42).toList.map (fun f => (f.type, f.offset)) = [(38, 0), (40, 1)] := by kernel_rfl
  have hp : ∀ f ∈ (Try.prog.fieldsOf 42).toList, f.name ≠ "_" := by
    have : ((Try.prog.fieldsOf 42).toList.all fun f => f.name != "_") = true := by kernel_rfl
    intro f hf; simpa using List.all_eq_true.1 this f hf
  generalize (Try.prog.fieldsOf 42).toList = fs at hf hp
  obtain ⟨f0, f1, rfl⟩ : ∃ f0 f1, fs = [f0, f1] := by
    have hl : fs.length = 2 := by have := congrArg List.length hf; simpa using this
    match fs, hl with
    | [a, b], _ => exact ⟨a, b, rfl⟩
  simp only [List.map_cons, List.map_nil, List.cons.injEq, Prod.mk.injEq, and_true] at hf
  obtain ⟨⟨a0, a1⟩, b0, b1⟩ := hf
  exact eqFields_two w 9999 a.c b.c f0 f1 _ _ _ _ _ _ (hp f0 (by simp)) (hp f1 (by simp)) (by rw [a0, a1]; exact run_part_pg w a) (by rw [a0, a1]; exact run_part_pg w b) (by rw [a0]; exact run_equalIn_int w 9998 _ _ _ _ _ Try.underlying38)
    (by rw [b0, b1]; exact run_part_dg w a) (by rw [b0, b1]; exact run_part_dg w b) (by rw [b0]; exact eq_dg9 w a.sum b.sum)
@[go_sem ↓] theorem eq_kid (w : World) (a b : Kd) : (Op.equalIn 10000 42 (.agg a.c) (.agg b.c)).run Try.prog w = .ok (decide (a = b)) w := by
  rw [kd_dec]; exact eq_kid0 w a b
@[go_sem] theorem guard_kid : Try.prog.eqGuardType Try.prog.depth 42 = false := by kernel_rfl

set_option maxHeartbeats 1000000 in set_option maxRecDepth 100000 in
theorem refSame_any (pa sa ka qa ta la : Option Addr) (pc sc kc qc tc lc : Nat) (x y : Nd) (w : World) (hx : NdAt w pa sa ka x) (hy : NdAt w qa ta la y) (ox : NdOk x) (oy : NdOk y) :
    Calls Try.prog 24 #[.agg #[.slice pa x.pairs.length pc, .slice sa x.seps.length sc, .slice ka x.kids.length kc], .agg #[.slice qa y.pairs.length qc, .slice ta y.seps.length tc, .slice la y.kids.length lc]] w
      (Rets (.bool (decide (x = y))) w) := by
  have HX := Lib.hid hx; have HY := Lib.hid hy; clear hx hy
  have np := ox.np; have ns := ox.ns; have nk := ox.nk
  clear ox oy
  by_cases h1 : x.pairs.length = y.pairs.length
  case neg =>
    have hb : ((x.pairs.length : Int) != (y.pairs.length : Int)) = true := by simp only [bne_iff_ne, ne_eq]; omega
    have HF : Hid (decide (x = y) = false) := decide_eq_false (fun h => h1 (by rw [h]))
    clear h1
    go_enter Try.func24, Try.ntmps24
    go_wp2_with fail
    go_ret
    rw [HF.out]
    exact ⟨rfl, by (try simp only [alloc_ext, drew_ext, drewN_ext, ext_ext]); exact ⟨_, _, rfl⟩⟩
  have hb1 : ((x.pairs.length : Int) != (y.pairs.length : Int)) = false := by simp only [bne_eq_false_iff_eq]; omega
  by_cases h2 : x.seps.length = y.seps.length
  case neg =>
    have hb : ((x.seps.length : Int) != (y.seps.length : Int)) = true := by simp only [bne_iff_ne, ne_eq]; omega
    have HF : Hid (decide (x = y) = false) := decide_eq_false (fun h => h2 (by rw [h]))
    clear h1 h2
    go_enter Try.func24, Try.ntmps24
    go_wp2_with fail
    go_ret
    rw [HF.out]
    exact ⟨rfl, by (try simp only [alloc_ext, drew_ext, drewN_ext, ext_ext]); exact ⟨_, _, rfl⟩⟩
  have hb2 : ((x.seps.length : Int) != (y.seps.length : Int)) = false := by simp only [bne_eq_false_iff_eq]; omega
  by_cases h3 : x.kids.length = y.kids.length
  case neg =>
    have hb : ((x.kids.length : Int) != (y.kids.length : Int)) = true := by simp only [bne_iff_ne, ne_eq]; omega
    have HF : Hid (decide (x = y) = false) := decide_eq_false (fun h => h3 (by rw [h]))
    clear h1 h2 h3
    go_enter Try.func24, Try.ntmps24
    go_wp2_with fail
    go_ret
    rw [HF.out]
    exact ⟨rfl, by (try simp only [alloc_ext, drew_ext, drewN_ext, ext_ext]); exact ⟨_, _, rfl⟩⟩
  have hb3 : ((x.kids.length : Int) != (y.kids.length : Int)) = false := by simp only [bne_eq_false_iff_eq]; omega
  have g1 : x.pairs.length ≤ y.pairs.length := by omega
  have g1' : y.pairs.length ≤ x.pairs.length := by omega
  have g2 : x.seps.length ≤ y.seps.length := by omega
  have g2' : y.seps.length ≤ x.seps.length := by omega
  have g3 : x.kids.length ≤ y.kids.length := by omega
  have g3' : y.kids.length ≤ x.kids.length := by omega
  clear h1 h2 h3
  go_enter Try.func24, Try.ntmps24
  go_wp2_with fail
  clear hb1 hb2 hb3
  go_loopw [4, 5] (fun _ i wr => ∃ k bs n, i = .int .i64 (k : Nat) ∧ k ≤ x.pairs.length ∧ wr = ext ((w.alloc (.cells #[.slice pa x.pairs.length pc, .slice sa x.seps.length sc, .slice ka x.kids.length kc] 30)).alloc (.cells #[.slice qa y.pairs.length qc, .slice ta y.seps.length tc, .slice la y.kids.length lc] 30)) bs n ∧ Hid (x.pairs.take k = y.pairs.take k)) (fun _ i _ => x.pairs.length - (intOf i).toNat)
  case atStart => exact ⟨0, [], 0, rfl, Nat.zero_le _, ext_zero _, by simp [Hid]⟩
  case round =>
    obtain ⟨k, bs, n, rfl, hk, rfl, HE⟩ := hrel
    by_cases hlt : k < x.pairs.length
    · obtain ⟨p, hp⟩ : ∃ p, x.pairs[k]? = some p := ⟨_, List.getElem?_eq_getElem hlt⟩
      obtain ⟨q, hq⟩ : ∃ q, y.pairs[k]? = some q := ⟨_, List.getElem?_eq_getElem (by omega)⟩
      obtain ⟨b, o, rfl, hb, cf1, cf2⟩ := HX.out.ps k p hp
      obtain ⟨b', o', rfl, hb', cg1, cg2⟩ := HY.out.ps k q hq
      have HP := Lib.hid hp; have HQ := Lib.hid hq; clear hp hq
      rcases hd : prEq p.1 p.2 q.1 q.2 with _ | _
      · have HF : Hid (decide (x = y) = false) := decide_eq_false (fun h => ne_at HP.out HQ.out (fun e => by rw [prEq_iff.2 e] at hd; cases hd) (by rw [h]))
        go_wp2_with fail
        refine wp_region_ext (by kernel_rfl) (by kernel_rfl) ?_
        repeat (go_big_quiet_step (fail))
        (refine wpQuiet_nil ?_; intro _ hw'; obtain ⟨⟨bsq, nq⟩, hw''⟩ := hw'; subst hw'')
        go_wp2_with fail
        go_ret
        rw [HF.out]
        exact ⟨rfl, by (try simp only [alloc_ext, drew_ext, drewN_ext, ext_ext]); exact ⟨_, _, rfl⟩⟩
      · have HE' : Hid (x.pairs.take (k + 1) = y.pairs.take (k + 1)) := Lib.hid (take_eq_step HE.out HP.out HQ.out (prEq_iff.1 hd))
        go_wp2_with fail
        refine wp_region_ext (by kernel_rfl) (by kernel_rfl) ?_
        repeat (go_big_quiet_step (fail))
        (refine wpQuiet_nil ?_; intro _ hw'; obtain ⟨⟨bsq, nq⟩, hw''⟩ := hw'; subst hw'')
        go_wp2_with fail
        go_roundw
        case rel => exact ⟨k + 1, _, _, by go_num, by omega, by (try simp only [ext_alloc, ext_drew, ext_drewN, ext_ext]); rfl, HE'⟩
        case measure => simp [intOf]; omega
    · have hpe : Hid (x.pairs = y.pairs) := Lib.hid (by have := HE.out; rwa [List.take_of_length_le (by omega), List.take_of_length_le (by omega)] at this)
      clear HE
      go_wp2_with fail
      go_loopw [4, 6] (fun _ i wr => ∃ k bs n, i = .int .i64 (k : Nat) ∧ k ≤ x.seps.length ∧ wr = ext ((w.alloc (.cells #[.slice pa x.pairs.length pc, .slice sa x.seps.length sc, .slice ka x.kids.length kc] 30)).alloc (.cells #[.slice qa y.pairs.length qc, .slice ta y.seps.length tc, .slice la y.kids.length lc] 30)) bs n ∧ Hid (x.seps.take k = y.seps.take k)) (fun _ i _ => x.seps.length - (intOf i).toNat)
      case atStart => exact ⟨0, _, _, rfl, Nat.zero_le _, rfl, by simp [Hid]⟩
      case round =>
        obtain ⟨k, bs, n, rfl, hk, rfl, HE⟩ := hrel
        by_cases hlt : k < x.seps.length
        · obtain ⟨p, hp⟩ : ∃ p, x.seps[k]? = some p := ⟨_, List.getElem?_eq_getElem hlt⟩
          obtain ⟨q, hq⟩ : ∃ q, y.seps[k]? = some q := ⟨_, List.getElem?_eq_getElem (by omega)⟩
          obtain ⟨b, o, rfl, hb, cf1⟩ := HX.out.ss k p hp
          obtain ⟨b', o', rfl, hb', cg1⟩ := HY.out.ss k q hq
          have HP := Lib.hid hp; have HQ := Lib.hid hq; clear hp hq
          rcases hd : (p == q) with _ | _
          · have HF : Hid (decide (x = y) = false) := decide_eq_false (fun h => ne_at HP.out HQ.out (by simpa using hd) (by rw [h]))
            go_wp2_with fail
            refine wp_region_ext (by kernel_rfl) (by kernel_rfl) ?_
            repeat (go_big_quiet_step (fail))
            (refine wpQuiet_nil ?_; intro _ hw'; obtain ⟨⟨bsq, nq⟩, hw''⟩ := hw'; subst hw'')
            go_wp2_with fail
            go_ret
            rw [HF.out]
            exact ⟨rfl, by (try simp only [alloc_ext, drew_ext, drewN_ext, ext_ext]); exact ⟨_, _, rfl⟩⟩
          · have HE' : Hid (x.seps.take (k + 1) = y.seps.take (k + 1)) := Lib.hid (take_eq_step HE.out HP.out HQ.out (by simpa using hd))
            go_wp2_with fail
            refine wp_region_ext (by kernel_rfl) (by kernel_rfl) ?_
            repeat (go_big_quiet_step (fail))
            (refine wpQuiet_nil ?_; intro _ hw'; obtain ⟨⟨bsq, nq⟩, hw''⟩ := hw'; subst hw'')
            go_wp2_with fail
            go_roundw
            case rel => exact ⟨k + 1, _, _, by go_num, by omega, by (try simp only [ext_alloc, ext_drew, ext_drewN, ext_ext]); rfl, HE'⟩
            case measure => simp [intOf]; omega
        · have hse : Hid (x.seps = y.seps) := Lib.hid (by have := HE.out; rwa [List.take_of_length_le (by omega), List.take_of_length_le (by omega)] at this)
          clear HE
          go_wp2_with fail
          go_loopw [4, 7] (fun _ i wr => ∃ k bs n, i = .int .i64 (k : Nat) ∧ k ≤ x.kids.length ∧ wr = ext ((w.alloc (.cells #[.slice pa x.pairs.length pc, .slice sa x.seps.length sc, .slice ka x.kids.length kc] 30)).alloc (.cells #[.slice qa y.pairs.length qc, .slice ta y.seps.length tc, .slice la y.kids.length lc] 30)) bs n ∧ Hid (x.kids.take k = y.kids.take k)) (fun _ i _ => x.kids.length - (intOf i).toNat)
          case atStart => exact ⟨0, _, _, rfl, Nat.zero_le _, rfl, by simp [Hid]⟩
          case round =>
            obtain ⟨k, bs, n, rfl, hk, rfl, HE⟩ := hrel
            by_cases hlt : k < x.kids.length
            · obtain ⟨p, hp⟩ : ∃ p, x.kids[k]? = some p := ⟨_, List.getElem?_eq_getElem hlt⟩
              obtain ⟨q, hq⟩ : ∃ q, y.kids[k]? = some q := ⟨_, List.getElem?_eq_getElem (by omega)⟩
              obtain ⟨b, o, rfl, hb, r1⟩ := HX.out.ks k p hp
              obtain ⟨b', o', rfl, hb', r2⟩ := HY.out.ks k q hq
              have HP := Lib.hid hp; have HQ := Lib.hid hq; clear hp hq
              rcases hd : decide (p = q) with _ | _
              · have HF : Hid (decide (x = y) = false) := decide_eq_false (fun h => ne_at HP.out HQ.out (by simpa using hd) (by rw [h]))
                go_wp2_with fail
                refine wp_region_ext (by kernel_rfl) (by kernel_rfl) ?_
                repeat (go_big_quiet_step (fail))
                (refine wpQuiet_nil ?_; intro _ hw'; obtain ⟨⟨bsq, nq⟩, hw''⟩ := hw'; subst hw'')
                go_wp2_with fail
                go_ret
                rw [HF.out]
                exact ⟨rfl, by (try simp only [alloc_ext, drew_ext, drewN_ext, ext_ext]); exact ⟨_, _, rfl⟩⟩
              · have HE' : Hid (x.kids.take (k + 1) = y.kids.take (k + 1)) := Lib.hid (take_eq_step HE.out HP.out HQ.out (by simpa using hd))
                go_wp2_with fail
                refine wp_region_ext (by kernel_rfl) (by kernel_rfl) ?_
                repeat (go_big_quiet_step (fail))
                (refine wpQuiet_nil ?_; intro _ hw'; obtain ⟨⟨bsq, nq⟩, hw''⟩ := hw'; subst hw'')
                go_wp2_with fail
                go_roundw
                case rel => exact ⟨k + 1, _, _, by go_num, by omega, by (try simp only [ext_alloc, ext_drew, ext_drewN, ext_ext]); rfl, HE'⟩
                case measure => simp [intOf]; omega
            · have HF : Hid (decide (x = y) = true) := Lib.hid (decide_eq_true (by
                have hke := HE.out
                rw [List.take_of_length_le (by omega), List.take_of_length_le (by omega)] at hke
                have h1 := hpe.out; have h2 := hse.out
                obtain ⟨a, b, c⟩ := x; obtain ⟨a', b', c'⟩ := y
                simp only at h1 h2 hke
                rw [h1, h2, hke]))
              go_wp2_with fail
              go_ret
              rw [HF.out]
              exact ⟨rfl, by (try simp only [alloc_ext, drew_ext, drewN_ext, ext_ext]); exact ⟨_, _, rfl⟩⟩

end Go.Proofs.Ytemicgccgcmmbaa

/- slices.Equal of pairs, texts and kids; node.Same. -/
namespace Go.Proofs.Ytemicgccgcmmbaa
set_option linter.unusedVariables false
set_option linter.unusedSimpArgs false
open Go Go.RowKit

set_option maxHeartbeats 1000000 in set_option maxRecDepth 100000 in
theorem equal_pair (a b : Option Addr) (c d : Nat) (x y : List Pr) (w : World) (hx : PsAt w a x) (hy : PsAt w b y) (lx : x.length ≤ 8796093022208) (ly : y.length ≤ 8796093022208) :
    Calls Try.prog 47 #[.slice a x.length c, .slice b y.length d] w (Rets (.bool (decide (x = y))) w) := by
  have HX := Lib.hid hx; have HY := Lib.hid hy; clear hx hy
  by_cases h1 : x.length = y.length
  case neg =>
    have hb : ((x.length : Int) != (y.length : Int)) = true := by simp only [bne_iff_ne, ne_eq]; omega
    have HF : Hid (decide (x = y) = false) := decide_eq_false (fun h => h1 (by rw [h]))
    clear h1
    go_enter Try.func47, Try.ntmps47
    go_wp2_with fail
    go_ret
    rw [HF.out]
    exact ⟨rfl, [], 0, ext_zero _⟩
  have hb1 : ((x.length : Int) != (y.length : Int)) = false := by simp only [bne_eq_false_iff_eq]; omega
  have g1 : x.length ≤ y.length := by omega
  have g1' : y.length ≤ x.length := by omega
  clear h1
  go_enter Try.func47, Try.ntmps47
  go_wp2_with fail
  clear hb1
  go_loopw [4, 5, 13] (fun _ _ i wr => ∃ k bs n, i = .int .i64 (k : Nat) ∧ k ≤ x.length ∧ wr = ext w bs n ∧ Hid (x.take k = y.take k)) (fun _ _ i _ => x.length - (intOf i).toNat)
  case atStart => exact ⟨0, [], 0, rfl, Nat.zero_le _, ext_zero _, by simp [Hid]⟩
  case round =>
    obtain ⟨k, bs, n, rfl, hk, rfl, HE⟩ := hrel
    by_cases hlt : k < x.length
    · obtain ⟨p, hp⟩ : ∃ p, x[k]? = some p := ⟨_, List.getElem?_eq_getElem hlt⟩
      obtain ⟨q, hq⟩ : ∃ q, y[k]? = some q := ⟨_, List.getElem?_eq_getElem (by omega)⟩
      obtain ⟨b, o, rfl, hb, cf1, cf2⟩ := HX.out k p hp
      obtain ⟨b', o', rfl, hb', cg1, cg2⟩ := HY.out k q hq
      have HP := Lib.hid hp; have HQ := Lib.hid hq; clear hp hq
      rcases hd : prEq p.1 p.2 q.1 q.2 with _ | _
      · have HF : Hid (decide (x = y) = false) := decide_eq_false (ne_at HP.out HQ.out (fun e => by rw [prEq_iff.2 e] at hd; cases hd))
        go_wp2_with fail
        refine wp_region_ext (by kernel_rfl) (by kernel_rfl) ?_
        repeat (go_big_quiet_step (fail))
        (refine wpQuiet_nil ?_; intro _ hw'; obtain ⟨⟨bsq, nq⟩, hw''⟩ := hw'; subst hw'')
        go_wp2_with fail
        go_ret
        rw [HF.out]
        exact ⟨rfl, by (try simp only [alloc_ext, drew_ext, drewN_ext, ext_ext]); exact ⟨_, _, rfl⟩⟩
      · have HE' : Hid (x.take (k + 1) = y.take (k + 1)) := Lib.hid (take_eq_step HE.out HP.out HQ.out (prEq_iff.1 hd))
        go_wp2_with fail
        refine wp_region_ext (by kernel_rfl) (by kernel_rfl) ?_
        repeat (go_big_quiet_step (fail))
        (refine wpQuiet_nil ?_; intro _ hw'; obtain ⟨⟨bsq, nq⟩, hw''⟩ := hw'; subst hw'')
        go_wp2_with fail
        go_roundw
        case rel => exact ⟨k + 1, _, _, by go_num, by omega, by (try simp only [ext_alloc, ext_drew, ext_drewN, ext_ext]); rfl, HE'⟩
        case measure => simp [intOf]; omega
    · have HF : Hid (decide (x = y) = true) := Lib.hid (decide_eq_true (by have := HE.out; rwa [List.take_of_length_le (by omega), List.take_of_length_le (by omega)] at this))
      go_wp2_with fail
      go_ret
      rw [HF.out]
      exact ⟨rfl, by (try simp only [alloc_ext, drew_ext, drewN_ext, ext_ext]); exact ⟨_, _, rfl⟩⟩

set_option maxHeartbeats 1000000 in set_option maxRecDepth 100000 in
theorem equal_text (a b : Option Addr) (c d : Nat) (x y : List Bs) (w : World) (hx : SsAt w a x) (hy : SsAt w b y) (lx : x.length ≤ 8796093022208) (ly : y.length ≤ 8796093022208) :
    Calls Try.prog 48 #[.slice a x.length c, .slice b y.length d] w (Rets (.bool (decide (x = y))) w) := by
  have HX := Lib.hid hx; have HY := Lib.hid hy; clear hx hy
  by_cases h1 : x.length = y.length
  case neg =>
    have hb : ((x.length : Int) != (y.length : Int)) = true := by simp only [bne_iff_ne, ne_eq]; omega
    have HF : Hid (decide (x = y) = false) := decide_eq_false (fun h => h1 (by rw [h]))
    clear h1
    go_enter Try.func48, Try.ntmps48
    go_wp2_with fail
    go_ret
    rw [HF.out]
    exact ⟨rfl, [], 0, ext_zero _⟩
  have hb1 : ((x.length : Int) != (y.length : Int)) = false := by simp only [bne_eq_false_iff_eq]; omega
  have g1 : x.length ≤ y.length := by omega
  have g1' : y.length ≤ x.length := by omega
  clear h1
  go_enter Try.func48, Try.ntmps48
  go_wp2_with fail
  clear hb1
  go_loopw [4, 5, 13] (fun _ _ i wr => ∃ k bs n, i = .int .i64 (k : Nat) ∧ k ≤ x.length ∧ wr = ext w bs n ∧ Hid (x.take k = y.take k)) (fun _ _ i _ => x.length - (intOf i).toNat)
  case atStart => exact ⟨0, [], 0, rfl, Nat.zero_le _, ext_zero _, by simp [Hid]⟩
  case round =>
    obtain ⟨k, bs, n, rfl, hk, rfl, HE⟩ := hrel
    by_cases hlt : k < x.length
    · obtain ⟨p, hp⟩ : ∃ p, x[k]? = some p := ⟨_, List.getElem?_eq_getElem hlt⟩
      obtain ⟨q, hq⟩ : ∃ q, y[k]? = some q := ⟨_, List.getElem?_eq_getElem (by omega)⟩
      obtain ⟨b, o, rfl, hb, cf1⟩ := HX.out k p hp
      obtain ⟨b', o', rfl, hb', cg1⟩ := HY.out k q hq
      have HP := Lib.hid hp; have HQ := Lib.hid hq; clear hp hq
      rcases hd : (p == q) with _ | _
      · have HF : Hid (decide (x = y) = false) := decide_eq_false (ne_at HP.out HQ.out (by simpa using hd))
        go_wp2_with fail
        refine wp_region_ext (by kernel_rfl) (by kernel_rfl) ?_
        repeat (go_big_quiet_step (fail))
        (refine wpQuiet_nil ?_; intro _ hw'; obtain ⟨⟨bsq, nq⟩, hw''⟩ := hw'; subst hw'')
        go_wp2_with fail
        go_ret
        rw [HF.out]
        exact ⟨rfl, by (try simp only [alloc_ext, drew_ext, drewN_ext, ext_ext]); exact ⟨_, _, rfl⟩⟩
      · have HE' : Hid (x.take (k + 1) = y.take (k + 1)) := Lib.hid (take_eq_step HE.out HP.out HQ.out (by simpa using hd))
        go_wp2_with fail
        refine wp_region_ext (by kernel_rfl) (by kernel_rfl) ?_
        repeat (go_big_quiet_step (fail))
        (refine wpQuiet_nil ?_; intro _ hw'; obtain ⟨⟨bsq, nq⟩, hw''⟩ := hw'; subst hw'')
        go_wp2_with fail
        go_roundw
        case rel => exact ⟨k + 1, _, _, by go_num, by omega, by (try simp only [ext_alloc, ext_drew, ext_drewN, ext_ext]); rfl, HE'⟩
        case measure => simp [intOf]; omega
    · have HF : Hid (decide (x = y) = true) := Lib.hid (decide_eq_true (by have := HE.out; rwa [List.take_of_length_le (by omega), List.take_of_length_le (by omega)] at this))
      go_wp2_with fail
      go_ret
      rw [HF.out]
      exact ⟨rfl, by (try simp only [alloc_ext, drew_ext, drewN_ext, ext_ext]); exact ⟨_, _, rfl⟩⟩

set_option maxHeartbeats 1000000 in set_option maxRecDepth 100000 in
theorem equal_kid (a b : Option Addr) (c d : Nat) (x y : List Kd) (w : World) (hx : KsAt w a x) (hy : KsAt w b y) (lx : x.length ≤ 8796093022208) (ly : y.length ≤ 8796093022208) :
    Calls Try.prog 49 #[.slice a x.length c, .slice b y.length d] w (Rets (.bool (decide (x = y))) w) := by
  have HX := Lib.hid hx; have HY := Lib.hid hy; clear hx hy
  by_cases h1 : x.length = y.length
  case neg =>
    have hb : ((x.length : Int) != (y.length : Int)) = true := by simp only [bne_iff_ne, ne_eq]; omega
    have HF : Hid (decide (x = y) = false) := decide_eq_false (fun h => h1 (by rw [h]))
    clear h1
    go_enter Try.func49, Try.ntmps49
    go_wp2_with fail
    go_ret
    rw [HF.out]
    exact ⟨rfl, [], 0, ext_zero _⟩
  have hb1 : ((x.length : Int) != (y.length : Int)) = false := by simp only [bne_eq_false_iff_eq]; omega
  have g1 : x.length ≤ y.length := by omega
  have g1' : y.length ≤ x.length := by omega
  clear h1
  go_enter Try.func49, Try.ntmps49
  go_wp2_with fail
  clear hb1
  go_loopw [4, 5, 13] (fun _ _ i wr => ∃ k bs n, i = .int .i64 (k : Nat) ∧ k ≤ x.length ∧ wr = ext w bs n ∧ Hid (x.take k = y.take k)) (fun _ _ i _ => x.length - (intOf i).toNat)
  case atStart => exact ⟨0, [], 0, rfl, Nat.zero_le _, ext_zero _, by simp [Hid]⟩
  case round =>
    obtain ⟨k, bs, n, rfl, hk, rfl, HE⟩ := hrel
    by_cases hlt : k < x.length
    · obtain ⟨p, hp⟩ : ∃ p, x[k]? = some p := ⟨_, List.getElem?_eq_getElem hlt⟩
      obtain ⟨q, hq⟩ : ∃ q, y[k]? = some q := ⟨_, List.getElem?_eq_getElem (by omega)⟩
      obtain ⟨b, o, rfl, hb, r1⟩ := HX.out k p hp
      obtain ⟨b', o', rfl, hb', r2⟩ := HY.out k q hq
      have HP := Lib.hid hp; have HQ := Lib.hid hq; clear hp hq
      rcases hd : decide (p = q) with _ | _
      · have HF : Hid (decide (x = y) = false) := decide_eq_false (ne_at HP.out HQ.out (by simpa using hd))
        go_wp2_with fail
        refine wp_region_ext (by kernel_rfl) (by kernel_rfl) ?_
        repeat (go_big_quiet_step (fail))
        (refine wpQuiet_nil ?_; intro _ hw'; obtain ⟨⟨bsq, nq⟩, hw''⟩ := hw'; subst hw'')
        go_wp2_with fail
        go_ret
        rw [HF.out]
        exact ⟨rfl, by (try simp only [alloc_ext, drew_ext, drewN_ext, ext_ext]); exact ⟨_, _, rfl⟩⟩
      · have HE' : Hid (x.take (k + 1) = y.take (k + 1)) := Lib.hid (take_eq_step HE.out HP.out HQ.out (by simpa using hd))
        go_wp2_with fail
        refine wp_region_ext (by kernel_rfl) (by kernel_rfl) ?_
        repeat (go_big_quiet_step (fail))
        (refine wpQuiet_nil ?_; intro _ hw'; obtain ⟨⟨bsq, nq⟩, hw''⟩ := hw'; subst hw'')
        go_wp2_with fail
        go_roundw
        case rel => exact ⟨k + 1, _, _, by go_num, by omega, by (try simp only [ext_alloc, ext_drew, ext_drewN, ext_ext]); rfl, HE'⟩
        case measure => simp [intOf]; omega
    · have HF : Hid (decide (x = y) = true) := Lib.hid (decide_eq_true (by have := HE.out; rwa [List.take_of_length_le (by omega), List.take_of_length_le (by omega)] at this))
      go_wp2_with fail
      go_ret
      rw [HF.out]
      exact ⟨rfl, by (try simp only [alloc_ext, drew_ext, drewN_ext, ext_ext]); exact ⟨_, _, rfl⟩⟩

theorem nd_dec (x y : Nd) : decide (x = y) = (decide (x.pairs = y.pairs) && (decide (x.seps = y.seps) && decide (x.kids = y.kids))) := by
  obtain ⟨a, b, c⟩ := x; obtain ⟨a', b', c'⟩ := y
  rw [Bool.eq_iff_iff]; simp

set_option maxHeartbeats 1000000 in set_option maxRecDepth 100000 in
theorem nodeSame_any (pa sa ka qa ta la : Option Addr) (pc sc kc qc tc lc : Nat) (x y : Nd) (w : World) (hx : NdAt w pa sa ka x) (hy : NdAt w qa ta la y) (ox : NdOk x) (oy : NdOk y) :
    Calls Try.prog 23 #[.agg #[.slice pa x.pairs.length pc, .slice sa x.seps.length sc, .slice ka x.kids.length kc], .agg #[.slice qa y.pairs.length qc, .slice ta y.seps.length tc, .slice la y.kids.length lc]] w
      (Rets (.bool (decide (x = y))) w) := by
  have HX := Lib.hid hx; have HY := Lib.hid hy; clear hx hy
  have np := ox.np; have ns := ox.ns; have nk := ox.nk
  have mp := oy.np; have ms := oy.ns; have mk := oy.nk
  clear ox oy
  rcases h1 : decide (x.pairs = y.pairs) with _ | _
  · have HF : Hid (decide (x = y) = false) := Lib.hid (by rw [nd_dec, h1]; rfl)
    have H1 := Lib.hid h1; clear h1
    go_enter Try.func23, Try.ntmps23
    go_wp2_with fail
    refine (equal_pair _ _ _ _ x.pairs y.pairs _ (PsAt.kp HX.out.ps ((Kp.refl [] _).alloc _ |>.alloc _) (by simp)) (PsAt.kp HY.out.ps ((Kp.refl [] _).alloc _ |>.alloc _) (by simp)) (by omega) (by omega)).mono ?_
    rintro e w' ⟨rfl, bs, m, rfl⟩
    rw [H1.out]
    go_wp2_with fail
    go_ret
    rw [HF.out]
    exact ⟨rfl, by (try simp only [alloc_ext, drew_ext, drewN_ext, ext_ext]); exact ⟨_, _, rfl⟩⟩
  rcases h2 : decide (x.seps = y.seps) with _ | _
  · have HF : Hid (decide (x = y) = false) := Lib.hid (by rw [nd_dec, h1, h2]; rfl)
    have H1 := Lib.hid h1; have H2 := Lib.hid h2; clear h1 h2
    go_enter Try.func23, Try.ntmps23
    go_wp2_with fail
    refine (equal_pair _ _ _ _ x.pairs y.pairs _ (PsAt.kp HX.out.ps ((Kp.refl [] _).alloc _ |>.alloc _) (by simp)) (PsAt.kp HY.out.ps ((Kp.refl [] _).alloc _ |>.alloc _) (by simp)) (by omega) (by omega)).mono ?_
    rintro e w' ⟨rfl, bs, m, rfl⟩
    rw [H1.out]
    go_wp2_with fail
    refine (equal_text _ _ _ _ x.seps y.seps _ (SsAt.kp HX.out.ss ((Kp.refl [] _).alloc _ |>.alloc _ |>.ext _ _) (by simp)) (SsAt.kp HY.out.ss ((Kp.refl [] _).alloc _ |>.alloc _ |>.ext _ _) (by simp)) (by omega) (by omega)).mono ?_
    rintro e w' ⟨rfl, bs2, m2, rfl⟩
    rw [H2.out]
    go_wp2_with fail
    go_ret
    rw [HF.out]
    exact ⟨rfl, by (try simp only [alloc_ext, drew_ext, drewN_ext, ext_ext]); exact ⟨_, _, rfl⟩⟩
  have HF : Hid (decide (x = y) = decide (x.kids = y.kids)) := Lib.hid (by rw [nd_dec, h1, h2]; rfl)
  have H1 := Lib.hid h1; have H2 := Lib.hid h2; clear h1 h2
  go_enter Try.func23, Try.ntmps23
  go_wp2_with fail
  refine (equal_pair _ _ _ _ x.pairs y.pairs _ (PsAt.kp HX.out.ps ((Kp.refl [] _).alloc _ |>.alloc _) (by simp)) (PsAt.kp HY.out.ps ((Kp.refl [] _).alloc _ |>.alloc _) (by simp)) (by omega) (by omega)).mono ?_
  rintro e w' ⟨rfl, bs, m, rfl⟩
  rw [H1.out]
  go_wp2_with fail
  refine (equal_text _ _ _ _ x.seps y.seps _ (SsAt.kp HX.out.ss ((Kp.refl [] _).alloc _ |>.alloc _ |>.ext _ _) (by simp)) (SsAt.kp HY.out.ss ((Kp.refl [] _).alloc _ |>.alloc _ |>.ext _ _) (by simp)) (by omega) (by omega)).mono ?_
  rintro e w' ⟨rfl, bs2, m2, rfl⟩
  rw [H2.out]
  go_wp2_with fail
  refine (equal_kid _ _ _ _ x.kids y.kids _ (KsAt.kp HX.out.ks ((Kp.refl [] _).alloc _ |>.alloc _ |>.ext _ _) (by simp)) (KsAt.kp HY.out.ks ((Kp.refl [] _).alloc _ |>.alloc _ |>.ext _ _) (by simp)) (by omega) (by omega)).mono ?_
  rintro e w' ⟨rfl, bs3, m3, rfl⟩
  rw [← HF.out]
  go_wp2_with fail
  go_ret
  exact ⟨rfl, by (try simp only [alloc_ext, drew_ext, drewN_ext, ext_ext]); exact ⟨_, _, rfl⟩⟩

end Go.Proofs.Ytemicgccgcmmbaa

/- kept: a lent node is as it was, its marks too. -/
namespace Go.Proofs.Ytemicgccgcmmbaa
set_option linter.unusedVariables false
set_option linter.unusedSimpArgs false
open Go Go.RowKit

theorem SsAt.take {w : World} {a : Option Addr} {l : List Bs} (h : SsAt w a l) (k : Nat) : SsAt w a (l.take k) := fun i p hp => by
  rw [List.getElem?_take] at hp
  split at hp
  · exact h i p hp
  · cases hp
theorem KsAt.take {w : World} {a : Option Addr} {l : List Kd} (h : KsAt w a l) (k : Nat) : KsAt w a (l.take k) := fun i p hp => by
  rw [List.getElem?_take] at hp
  split at hp
  · exact h i p hp
  · cases hp
theorem PsAt.pre {w : World} {a : Option Addr} {l m : List Pr} (h : PsAt w a (l ++ m)) : PsAt w a l := fun i p hp => h i p (by rw [List.getElem?_append_left (List.getElem?_eq_some_iff.1 hp).1]; exact hp)
theorem SsAt.pre {w : World} {a : Option Addr} {l m : List Bs} (h : SsAt w a (l ++ m)) : SsAt w a l := fun i p hp => h i p (by rw [List.getElem?_append_left (List.getElem?_eq_some_iff.1 hp).1]; exact hp)
theorem KsAt.pre {w : World} {a : Option Addr} {l m : List Kd} (h : KsAt w a (l ++ m)) : KsAt w a l := fun i p hp => h i p (by rw [List.getElem?_append_left (List.getElem?_eq_some_iff.1 hp).1]; exact hp)

/-- A lent node, and its marks. -/
theorem Own3.lent {w : World} {lo gp gs gk pc sc kc : Nat} {n : Nd} (h : Own3 w lo (some ⟨gp, 0, none⟩) (some ⟨gs, 0, none⟩) (some ⟨gk, 0, none⟩) pc sc kc n.mk1) :
    NdAt w (some ⟨gp, 0, none⟩) (some ⟨gs, 0, none⟩) (some ⟨gk, 0, none⟩) n ∧ w.cell? ⟨gp, n.pairs.length * 2, none⟩ = some (.string ⟨#[109, 97, 114, 107]⟩) ∧ w.cell? ⟨gs, n.seps.length, none⟩ = some (.string ⟨#[109, 97, 114, 107]⟩) ∧ w.cell? ⟨gk, n.kids.length * 33, none⟩ = some (.int .u32 77) ∧
      (gp < w.heap.size ∧ gs < w.heap.size ∧ gk < w.heap.size) ∧ n.pairs.length + 1 ≤ pc ∧ n.seps.length + 1 ≤ sc ∧ n.kids.length + 1 ≤ kc := by
  have ha := h.at
  have l1 : n.mk1.pairs.length = n.pairs.length + 1 := by simp [Nd.mk1]
  have l2 : n.mk1.seps.length = n.seps.length + 1 := by simp [Nd.mk1]
  have l3 : n.mk1.kids.length = n.kids.length + 1 := by simp [Nd.mk1]
  obtain ⟨b, o, e, hb1, c1, _⟩ := ha.ps n.pairs.length (mkB, []) (by simp [Nd.mk1])
  cases e
  obtain ⟨b, o, e, hb2, c2⟩ := ha.ss n.seps.length mkB (by simp [Nd.mk1])
  cases e
  obtain ⟨b, o, e, hb3, r3⟩ := ha.ks n.kids.length kMark (by simp [Nd.mk1])
  cases e
  have cp := (rowAt?_cell r3).2 0 _ (Kd.get0 kMark)
  refine ⟨⟨ha.ps.pre, ha.ss.pre, ha.ks.pre⟩, by simpa [mkB] using c1, by simpa [mkB] using c2, by simpa [Addr.add_lit, kMark] using cp, ⟨hb1, hb2, hb3⟩, ?_, ?_, ?_⟩
  · obtain ⟨g, _, h1, _⟩ := own_some h.ps (by omega); omega
  · obtain ⟨g, _, h1, _⟩ := own_some h.ss (by omega); omega
  · obtain ⟨g, _, h1, _⟩ := own_some h.ks (by omega); omega

theorem refSame_true (pa sa ka qa ta la : Option Addr) (pc sc kc qc tc lc : Nat) (x y : Nd) (w : World) (hx : NdAt w pa sa ka x) (hy : NdAt w qa ta la y) (ox : NdOk x) (oy : NdOk y) (h : x = y) :
    Calls Try.prog 24 #[.agg #[.slice pa x.pairs.length pc, .slice sa x.seps.length sc, .slice ka x.kids.length kc], .agg #[.slice qa y.pairs.length qc, .slice ta y.seps.length tc, .slice la y.kids.length lc]] w (Rets (.bool true) w) := by
  have := refSame_any pa sa ka qa ta la pc sc kc qc tc lc x y w hx hy ox oy
  rwa [decide_eq_true h] at this

set_option maxHeartbeats 1000000 in set_option maxRecDepth 100000 in
theorem kept_any (gp gs gk pc sc kc : Nat) (lo : Nat) (qa ta la : Option Addr) (qc tc lc : Nat) (n : Nd) (w : World) (hx : Own3 w lo (some ⟨gp, 0, none⟩) (some ⟨gs, 0, none⟩) (some ⟨gk, 0, none⟩) pc sc kc n.mk1) (hy : NdAt w qa ta la n) (ho : NdOk n) (hf : NdFew n) :
    Calls Try.prog 25 #[.agg #[.slice (some ⟨gp, 0, none⟩) n.pairs.length pc, .slice (some ⟨gs, 0, none⟩) n.seps.length sc, .slice (some ⟨gk, 0, none⟩) n.kids.length kc], .agg #[.slice qa n.pairs.length qc, .slice ta n.seps.length tc, .slice la n.kids.length lc]] w
      (Rets (.bool true) w) := by
  obtain ⟨hn, c1, c2, c3, ⟨g1, g2, g3⟩, k1, k2, k3⟩ := hx.lent
  have fp := hf.np; have fs := hf.ns; have fk := hf.nk
  have HN := Lib.hid hn; have HY := Lib.hid hy; have HO := Lib.hid ho
  clear hn hy ho hf hx
  have e1 : IntKind.i64.wrap ((n.pairs.length : Int) + 1) = n.pairs.length + 1 := IntWalk.i64_in _ (by omega)
  have e2 : IntKind.i64.wrap ((n.seps.length : Int) + 1) = n.seps.length + 1 := IntWalk.i64_in _ (by omega)
  have e3 : IntKind.i64.wrap ((n.kids.length : Int) + 1) = n.kids.length + 1 := IntWalk.i64_in _ (by omega)
  have i1 : (n.pairs.length : Int) + 1 ≤ (pc : Int) := by omega
  have i2 : (n.seps.length : Int) + 1 ≤ (sc : Int) := by omega
  have i3 : (n.kids.length : Int) + 1 ≤ (kc : Int) := by omega
  have j1 : (0 : Int) ≤ (n.pairs.length : Int) + 1 := by omega
  have j2 : (0 : Int) ≤ (n.seps.length : Int) + 1 := by omega
  have j3 : (0 : Int) ≤ (n.kids.length : Int) + 1 := by omega
  go_enter Try.func25, Try.ntmps25
  go_wp2_with fail
  refine wp_region_ext (by kernel_rfl) (by kernel_rfl) ?_
  repeat (go_big_quiet_step (fail))
  (refine wpQuiet_nil ?_; intro _ hw'; obtain ⟨⟨bsq, nq⟩, hw''⟩ := hw'; subst hw'')
  clear e1 e2 e3 i1 i2 i3 j1 j2 j3
  go_wp2_with fail
  refine (refSame_true _ _ _ _ _ _ _ _ _ _ _ _ n n _ (HN.out.kp0 ((Kp.refl [] _).alloc _ |>.alloc _ |>.ext _ _)) (HY.out.kp0 ((Kp.refl [] _).alloc _ |>.alloc _ |>.ext _ _)) HO.out HO.out rfl).mono ?_
  rintro e w' ⟨rfl, bs, m, rfl⟩
  go_wp2_with fail
  go_ret
  exact ⟨rfl, by (try simp only [alloc_ext, drew_ext, drewN_ext, ext_ext]); exact ⟨_, _, rfl⟩⟩

end Go.Proofs.Ytemicgccgcmmbaa

/- The two nodes of 'lives', in plain words. -/
namespace Go.Proofs.Ytemicgccgcmmbaa
set_option linter.unusedVariables false
set_option linter.unusedSimpArgs false
open Go Go.RowKit

def lN : Nd := ⟨[([97], [120]), ([98], [])], [], []⟩
def bN : Nd := ⟨[], [[109]], [⟨5, Dg.pad [10, 11]⟩, ⟨9, Dg.pad [12, 13]⟩]⟩
def tS : Bs := [2, 2, 0, 0, 0, 5, 10, 11, 1, 109, 0, 0, 0, 9, 12, 13]

theorem l_size : SizeE 1024 2 lN = 9 := by decide +kernel
theorem l_pack : packE 1024 2 lN = 0 := by decide +kernel
theorem l_packS : packS 1024 2 lN = [1, 2, 1, 97, 1, 120, 1, 98, 0] := by decide +kernel
theorem b_pack : packE 1024 2 bN = 0 := by decide +kernel
theorem b_packS : packS 1024 2 bN = tS := by decide +kernel
theorem b_plain : mayE 1024 2 bN = 0 := by decide +kernel
theorem b_plainS : plainS 1024 2 bN = [2, 2, 10, 11, 1, 109, 12, 13] := by decide +kernel
theorem b_unpack : unpackP 1024 2 tS = some bN := by decide +kernel
theorem l_ok : NdOk lN := ⟨by decide, by decide, by decide, by decide, by decide, by decide⟩
theorem b_ok : NdOk bN := ⟨by decide, by decide, by decide, by decide, by decide, by decide⟩

end Go.Proofs.Ytemicgccgcmmbaa

/- 'lives' answers true. -/
namespace Go.Proofs.Ytemicgccgcmmbaa
set_option linter.unusedVariables false
set_option linter.unusedSimpArgs false
open Go Go.RowKit

def k5 : Kd := ⟨5, Dg.pad [10, 11]⟩
def k9 : Kd := ⟨9, Dg.pad [12, 13]⟩
def two : Array Value := k5.c ++ k9.c
def dA : Dg := Dg.pad [10, 11]
def dB : Dg := Dg.pad [12, 13]
def bd2 (t : TypeId) (x y : Value) : Sem Next := do pure (.value (← Instr.build t #[(0, x), (1, y)]))
def bs2 (t : TypeId) (x y : Value) : Sem Next := do pure (.value (← Instr.buildSlice t 2 #[(0, x), (1, y)]))
@[go_sem ↓] theorem exec_bd_dg (a : Act) (dst : Option Tmp) (x y : Operand) (ty : TypeId) (pos : String) (after : Array Edge) (guard : Option (Nat × Bool)) :
    execOp a.eval { dst, op := .build 40 #[(0, x), (1, y)], type := ty, pos, after, guard } = bd2 40 (a.eval x) (a.eval y) := by simp [execOp, bd2]
@[go_sem ↓] theorem exec_bd_kd (a : Act) (dst : Option Tmp) (x y : Operand) (ty : TypeId) (pos : String) (after : Array Edge) (guard : Option (Nat × Bool)) :
    execOp a.eval { dst, op := .build 42 #[(0, x), (1, y)], type := ty, pos, after, guard } = bd2 42 (a.eval x) (a.eval y) := by simp [execOp, bd2]
@[go_sem ↓] theorem exec_bs2_kd (a : Act) (dst : Option Tmp) (x y : Operand) (ty : TypeId) (pos : String) (after : Array Edge) (guard : Option (Nat × Bool)) :
    execOp a.eval { dst, op := .buildSlice 28 2 #[(0, x), (1, y)], type := ty, pos, after, guard } = bs2 28 (a.eval x) (a.eval y) := by simp [execOp, bs2]
@[go_sem] theorem build_dA (w : World) : (bd2 40 (.int .u8 10) (.int .u8 11)).run Try.prog w = .ok (.value (.agg dA.c)) w := by kernel_rfl
@[go_sem] theorem build_dB (w : World) : (bd2 40 (.int .u8 12) (.int .u8 13)).run Try.prog w = .ok (.value (.agg dB.c)) w := by kernel_rfl
@[go_sem] theorem build_k5 (w : World) : (bd2 42 (.int .u32 5) (.agg dA.c)).run Try.prog w = .ok (.value (.agg k5.c)) w := by kernel_rfl
@[go_sem] theorem build_k9 (w : World) : (bd2 42 (.int .u32 9) (.agg dB.c)).run Try.prog w = .ok (.value (.agg k9.c)) w := by kernel_rfl
@[go_sem] theorem build_two (w : World) : (bs2 28 (.agg k5.c) (.agg k9.c)).run Try.prog w = .ok (.value (.slice (some ⟨w.heap.size, 0, none⟩) 2 2)) (w.alloc (.cells two 42)) := by kernel_rfl

def lW (w : World) : World := (((((w.alloc (.cells #[.int .i64 1024, .int .i64 2] 23)).alloc (.cells #[.string ⟨#[97]⟩, .string ⟨#[120]⟩, .string ⟨#[98]⟩, .string ⟨#[]⟩] 48)).alloc (.cells #[.slice (some ⟨w.heap.size + 1, 0, none⟩) 2 2, .slice none 0 0, .slice none 0 0] 30)).alloc (.cells #[.string ⟨#[109]⟩] 9)).alloc (.cells two 42)).alloc (.cells #[.slice none 0 0, .slice (some ⟨w.heap.size + 1 + 1 + 1, 0, none⟩) 1 1, .slice (some ⟨w.heap.size + 1 + 1 + 1 + 1, 0, none⟩) 2 2] 30)

theorem lW_l (w : World) : NdAt (lW w) (some ⟨w.heap.size + 1, 0, none⟩) none none lN := by
  have hb : Blk (lW w) (w.heap.size + 1) 48 #[.string ⟨#[97]⟩, .string ⟨#[120]⟩, .string ⟨#[98]⟩, .string ⟨#[]⟩] := by
    have h := ((((Blk.new (w.alloc (.cells #[.int .i64 1024, .int .i64 2] 23)) 48 #[.string ⟨#[97]⟩, .string ⟨#[120]⟩, .string ⟨#[98]⟩, .string ⟨#[]⟩]).alloc (.cells #[.slice (some ⟨w.heap.size + 1, 0, none⟩) 2 2, .slice none 0 0, .slice none 0 0] 30)).alloc (.cells #[.string ⟨#[109]⟩] 9)).alloc (.cells two 42)).alloc (.cells #[.slice none 0 0, .slice (some ⟨w.heap.size + 1 + 1 + 1, 0, none⟩) 1 1, .slice (some ⟨w.heap.size + 1 + 1 + 1 + 1, 0, none⟩) 2 2] 30)
    simp only [World.size_alloc] at h
    exact h
  refine ⟨?_, SsAt.nil _ _, KsAt.nil _ _⟩
  intro i p hp
  match i, hp with
  | 0, hp => simp [lN] at hp; subst hp; exact ⟨_, _, rfl, hb.lt, hb.cell 0, hb.cell 1⟩
  | 1, hp => simp [lN] at hp; subst hp; exact ⟨_, _, rfl, hb.lt, hb.cell 2, hb.cell 3⟩
  | i + 2, hp => simp [lN] at hp
theorem lW_b (w : World) : NdAt (lW w) none (some ⟨w.heap.size + 1 + 1 + 1, 0, none⟩) (some ⟨w.heap.size + 1 + 1 + 1 + 1, 0, none⟩) bN := by
  have hb : Blk (lW w) (w.heap.size + 1 + 1 + 1) 9 #[.string ⟨#[109]⟩] := by
    have h := ((Blk.new (((w.alloc (.cells #[.int .i64 1024, .int .i64 2] 23)).alloc (.cells #[.string ⟨#[97]⟩, .string ⟨#[120]⟩, .string ⟨#[98]⟩, .string ⟨#[]⟩] 48)).alloc (.cells #[.slice (some ⟨w.heap.size + 1, 0, none⟩) 2 2, .slice none 0 0, .slice none 0 0] 30)) 9 #[.string ⟨#[109]⟩]).alloc (.cells two 42)).alloc (.cells #[.slice none 0 0, .slice (some ⟨w.heap.size + 1 + 1 + 1, 0, none⟩) 1 1, .slice (some ⟨w.heap.size + 1 + 1 + 1 + 1, 0, none⟩) 2 2] 30)
    simp only [World.size_alloc] at h
    exact h
  have hk : Blk (lW w) (w.heap.size + 1 + 1 + 1 + 1) 42 two := by
    have h := (Blk.new ((((w.alloc (.cells #[.int .i64 1024, .int .i64 2] 23)).alloc (.cells #[.string ⟨#[97]⟩, .string ⟨#[120]⟩, .string ⟨#[98]⟩, .string ⟨#[]⟩] 48)).alloc (.cells #[.slice (some ⟨w.heap.size + 1, 0, none⟩) 2 2, .slice none 0 0, .slice none 0 0] 30)).alloc (.cells #[.string ⟨#[109]⟩] 9)) 42 two).alloc (.cells #[.slice none 0 0, .slice (some ⟨w.heap.size + 1 + 1 + 1, 0, none⟩) 1 1, .slice (some ⟨w.heap.size + 1 + 1 + 1 + 1, 0, none⟩) 2 2] 30)
    simp only [World.size_alloc] at h
    exact h
  have hrow : ∀ o, rowAt? (lW w) ⟨w.heap.size + 1 + 1 + 1 + 1, o, none⟩ 33 = if o + 33 ≤ two.size then some (two.extract o (o + 33)) else none := by
    intro o; unfold Blk at hk; simp [rowAt?, hk]
  refine ⟨PsAt.nil _ _, ?_, ?_⟩
  · intro i p hp
    match i, hp with
    | 0, hp => simp [bN] at hp; subst hp; exact ⟨_, _, rfl, hb.lt, hb.cell 0⟩
    | i + 1, hp => simp [bN] at hp
  · intro i p hp
    match i, hp with
    | 0, hp =>
      simp [bN] at hp; subst hp
      exact ⟨_, _, rfl, hk.lt, by rw [hrow]; kernel_rfl⟩
    | 1, hp =>
      simp [bN] at hp; subst hp
      exact ⟨_, _, rfl, hk.lt, by rw [hrow]; kernel_rfl⟩
    | i + 2, hp => simp [bN] at hp

theorem lW_f (w : World) : Blk (lW w) w.heap.size 23 #[.int .i64 1024, .int .i64 2] := by
  have h := (((((Blk.new w 23 #[.int .i64 1024, .int .i64 2]).alloc (.cells #[.string ⟨#[97]⟩, .string ⟨#[120]⟩, .string ⟨#[98]⟩, .string ⟨#[]⟩] 48)).alloc (.cells #[.slice (some ⟨w.heap.size + 1, 0, none⟩) 2 2, .slice none 0 0, .slice none 0 0] 30)).alloc (.cells #[.string ⟨#[109]⟩] 9)).alloc (.cells two 42)).alloc (.cells #[.slice none 0 0, .slice (some ⟨w.heap.size + 1 + 1 + 1, 0, none⟩) 1 1, .slice (some ⟨w.heap.size + 1 + 1 + 1 + 1, 0, none⟩) 2 2] 30)
  exact h
theorem lW_ln (w : World) : Blk (lW w) (w.heap.size + 1 + 1) 30 #[.slice (some ⟨w.heap.size + 1, 0, none⟩) 2 2, .slice none 0 0, .slice none 0 0] := by
  have h := (((Blk.new ((w.alloc (.cells #[.int .i64 1024, .int .i64 2] 23)).alloc (.cells #[.string ⟨#[97]⟩, .string ⟨#[120]⟩, .string ⟨#[98]⟩, .string ⟨#[]⟩] 48)) 30 #[.slice (some ⟨w.heap.size + 1, 0, none⟩) 2 2, .slice none 0 0, .slice none 0 0]).alloc (.cells #[.string ⟨#[109]⟩] 9)).alloc (.cells two 42)).alloc (.cells #[.slice none 0 0, .slice (some ⟨w.heap.size + 1 + 1 + 1, 0, none⟩) 1 1, .slice (some ⟨w.heap.size + 1 + 1 + 1 + 1, 0, none⟩) 2 2] 30)
  simp only [World.size_alloc] at h
  exact h
theorem lW_bn (w : World) : Blk (lW w) (w.heap.size + 1 + 1 + 1 + 1 + 1) 30 #[.slice none 0 0, .slice (some ⟨w.heap.size + 1 + 1 + 1, 0, none⟩) 1 1, .slice (some ⟨w.heap.size + 1 + 1 + 1 + 1, 0, none⟩) 2 2] := by
  have h := Blk.new (((((w.alloc (.cells #[.int .i64 1024, .int .i64 2] 23)).alloc (.cells #[.string ⟨#[97]⟩, .string ⟨#[120]⟩, .string ⟨#[98]⟩, .string ⟨#[]⟩] 48)).alloc (.cells #[.slice (some ⟨w.heap.size + 1, 0, none⟩) 2 2, .slice none 0 0, .slice none 0 0] 30)).alloc (.cells #[.string ⟨#[109]⟩] 9)).alloc (.cells two 42)) 30 #[.slice none 0 0, .slice (some ⟨w.heap.size + 1 + 1 + 1, 0, none⟩) 1 1, .slice (some ⟨w.heap.size + 1 + 1 + 1 + 1, 0, none⟩) 2 2]
  simp only [World.size_alloc] at h
  exact h

set_option maxHeartbeats 1000000 in set_option maxRecDepth 100000 in
theorem lives_any (w : World) : Calls Try.prog 13 #[] w (Rets (.bool true) w) := by
  have LL := Lib.hid (lW_l w); have LB := Lib.hid (lW_b w)
  have hkw : Kp [] w (lW w) := ((((((Kp.refl [] w).alloc _).alloc _).alloc _).alloc _).alloc _).alloc _
  have HKW := Lib.hid hkw; clear hkw
  go_enter Try.func13, Try.ntmps13
  go_wp2_with fail
  have hl0 := (lW_f w).cell 0; have hl1 := (lW_f w).cell 1
  have ha0 := (lW_ln w).cell 0; have ha1 := (lW_ln w).cell 1; have ha2 := (lW_ln w).cell 2
  have hb0 := (lW_bn w).cell 0; have hb1 := (lW_bn w).cell 1; have hb2 := (lW_bn w).cell 2
  have hlt := (lW_bn w).lt
  simp only [List.getElem?_toArray, List.getElem?_cons_zero, List.getElem?_cons_succ] at hl0 hl1 ha0 ha1 ha2 hb0 hb1 hb2
  have hlt0 : w.heap.size < (lW w).heap.size := by omega
  have hlt2 : w.heap.size + 1 + 1 < (lW w).heap.size := by omega
  refine (Pack_any 1024 2 _ _ _ _ _ _ lN (lW w) LL.out l_ok).mono ?_
  rintro e w1 ⟨rfl, bs1, m1, rfl⟩
  rw [l_pack, l_packS]
  go_wp2_with fail
  refine (Pack_any 1024 2 _ _ _ _ _ _ bN _ (LB.out.kp0 ((Kp.refl [] _).ext _ _)) b_ok).mono ?_
  rintro e w1 ⟨rfl, bs2, m2, rfl⟩
  rw [b_pack, b_packS]
  go_wp2_with fail
  refine (Plain_any 1024 2 _ _ _ _ _ _ bN _ (LB.out.kp0 ((Kp.refl [] _).ext _ _)) b_ok).mono ?_
  rintro e w1 ⟨rfl, bs3, m3, rfl⟩
  rw [b_plain, b_plainS]
  go_wp2_with fail
  refine (Unpack_any 1024 2 tS _ (by decide)).mono ?_
  rintro e w1 h1
  rw [b_unpack] at h1
  obtain ⟨pa, sa, ka, pc, sc, kc, rfl, nd, k1, hnew⟩ := h1
  obtain ⟨b0, o0, hka, hb0', r0⟩ := nd.ks 0 k5 rfl
  obtain ⟨b1, o1, hka1, hb1', r1⟩ := nd.ks 1 k9 rfl
  rw [hka] at hka1
  cases hka1
  subst hka
  have cp := (rowAt?_cell r1).2 0 (.int .u32 9) (Kd.get0 k9)
  have rs := rowAt?_sub r0 1 32 (by omega)
  have hx : k5.c.extract 1 (1 + 32) = dA.c := Kd.extract1 k5
  rw [hx] at rs
  simp only [Addr.add_lit, Nat.zero_mul, Nat.one_mul, Nat.add_zero] at cp rs
  have LZ : Hid (NdAt w1 (some ⟨w.heap.size + 1, 0, none⟩) none none lN) := Lib.hid (LL.out.kp0 (((Kp.refl [] _).ext _ _).trans k1))
  have KW := Lib.hid ((HKW.out.ext _ _).trans k1)
  have zz := k1.size
  simp only [ext_size] at zz
  have n1 : w.heap.size < w1.heap.size := by omega
  have n2 : w.heap.size + 1 + 1 < w1.heap.size := by omega
  have e0 := ((Kp.refl [] (lW w)).ext _ _ |>.trans k1).cell hl0 (by simp); have e1 := ((Kp.refl [] (lW w)).ext _ _ |>.trans k1).cell hl1 (by simp)
  have e2 := ((Kp.refl [] (lW w)).ext _ _ |>.trans k1).cell ha0 (by simp); have e3 := ((Kp.refl [] (lW w)).ext _ _ |>.trans k1).cell ha1 (by simp); have e4 := ((Kp.refl [] (lW w)).ext _ _ |>.trans k1).cell ha2 (by simp)
  clear r0 r1 hx nd k1 hnew hl0 hl1 ha0 ha1 ha2 hb0 hb1 hb2 zz
  go_wp2_with fail
  refine (Size_any 1024 2 _ _ _ _ _ _ lN _ (LZ.out.kp0 ((Kp.refl [] _).alloc _)) l_ok).mono ?_
  rintro e w2 ⟨rfl, bs4, m4, rfl⟩
  rw [l_size]
  go_wp2_with fail
  go_ret
  exact ⟨rfl, ((KW.out.alloc _).ext _ _).to_ext⟩

end Go.Proofs.Ytemicgccgcmmbaa

/- NodeBack answers true of every frame and node. -/
namespace Go.Proofs.Ytemicgccgcmmbaa
set_option linter.unusedVariables false
set_option linter.unusedSimpArgs false
open Go Go.RowKit

theorem bare_bare (n : Nd) : pgN false n.bare = pgN false n := by
  simp [pgN, Nd.bare]
theorem bare_ok {n : Nd} (h : NdOk n) : NdOk n.bare :=
  ⟨h.np, h.ns, by simpa [Nd.bare] using h.nk, h.sp, h.ss, by intro k hk; simp only [Nd.bare, List.mem_map] at hk; obtain ⟨a, _, rfl⟩ := hk; simp⟩
theorem bare_page {n : Nd} {i : Nat} {k : Kd} (h : n.bare.kids[i]? = some k) : k.page = 0 := by
  simp only [Nd.bare, List.getElem?_map, Option.map_eq_some_iff] at h
  obtain ⟨a, _, rfl⟩ := h; rfl

/-- What is known of a node that has its forms. -/
theorem may_facts {p wd : Int} {n : Nd} (h : mayE p wd n = 0) : (1024 ≤ p ∧ p ≤ 8192) ∧ (1 ≤ wd ∧ wd ≤ 32) ∧ ((plainS p wd n).length : Int) + 4 * n.kids.length = SizeE p wd n ∧ (SizeE p wd n : Int) ≤ p - 32 := by
  obtain ⟨hc, hsz⟩ := mayE_ok h
  have hr' := rightB_iff.1 (checkE_ok hc).1
  obtain ⟨P, rfl⟩ := Int.eq_ofNat_of_zero_le (show 0 ≤ p by omega)
  obtain ⟨d, rfl⟩ := Int.eq_ofNat_of_zero_le (show 0 ≤ wd by omega)
  have hl := formB_len (pages := false) hc
  have hs : SizeE (P : Int) d n = sizeN d n := by unfold SizeE; rw [if_pos hc]; simp
  unfold plainS
  rw [if_pos h, hs]
  simp only [Int.toNat_natCast] at hsz ⊢
  simp only [Bool.false_eq_true, if_false] at hl
  omega
theorem pack_facts {p wd : Int} {n : Nd} (h : packE p wd n = 0) : (packS p wd n).length = SizeE p wd n := by
  obtain ⟨hc, hsz⟩ := mayE_ok (packE_may h)
  have hr' := rightB_iff.1 (checkE_ok hc).1
  obtain ⟨P, rfl⟩ := Int.eq_ofNat_of_zero_le (show 0 ≤ p by omega)
  obtain ⟨d, rfl⟩ := Int.eq_ofNat_of_zero_le (show 0 ≤ wd by omega)
  have hl := formB_len (pages := true) hc
  unfold packS SizeE
  rw [if_pos h, if_pos hc]
  simpa using hl

set_option maxHeartbeats 1000000 in set_option maxRecDepth 100000 in
theorem back_not (p wd : Int) (pa sa ka : Option Addr) (pc sc kc : Nat) (n : Nd) (w : World) (hm : ¬ mayE p wd n = 0) (h : NdAt w pa sa ka n) (ho : NdOk n) :
    Calls Try.prog 4 #[.agg #[.int .i64 p, .int .i64 wd], .agg #[.slice pa n.pairs.length pc, .slice sa n.seps.length sc, .slice ka n.kids.length kc]] w (Rets (.bool true) w) := by
  have he := may_packE hm
  have hs : packS p wd n = [] := by simp [packS, he]
  have ht : plainS p wd n = [] := by simp [plainS, hm]
  have b1 : (packE p wd n == 0) = false := by simpa using he
  have b2 : (packE p wd n != 0) = true := by simpa using he
  have b3 : (mayE p wd n != 0) = true := by simpa using hm
  have HS := Lib.hid hs; have HT := Lib.hid ht; have H := Lib.hid h; have HO := Lib.hid ho
  clear hs ht h ho he hm
  go_enter Try.func4, Try.ntmps4
  go_wp2_with fail
  refine (lives_any _).mono ?_
  rintro e w' ⟨rfl, bs0, m0, rfl⟩
  go_wp2_with fail
  refine (Pack_any p wd _ _ _ _ _ _ n _ (H.out.kp0 (((Kp.refl [] _).alloc _ |>.alloc _ |>.ext _ _))) HO.out).mono ?_
  rintro e w' ⟨rfl, bs1, m1, rfl⟩
  rw [HS.out]
  go_wp2_with fail
  refine (Plain_any p wd _ _ _ _ _ _ n _ (H.out.kp0 (((Kp.refl [] _).alloc _ |>.alloc _ |>.ext _ _))) HO.out).mono ?_
  rintro e w' ⟨rfl, bs2, m2, rfl⟩
  rw [HT.out]
  go_wp2_with fail
  go_ret
  exact ⟨rfl, by (try simp only [alloc_ext, drew_ext, drewN_ext, ext_ext]); exact ⟨_, _, rfl⟩⟩

theorem same_true (bare : Bool) (pa sa ka qa ta la : Option Addr) (pc sc kc qc tc lc : Nat) (x y : Nd) (w : World) (hx : NdAt w pa sa ka x) (hy : NdAt w qa ta la y) (ox : NdOk x) (oy : NdOk y) (h : pgN (!bare) x = pgN (!bare) y) :
    Calls Try.prog 16 #[.agg #[.slice pa x.pairs.length pc, .slice sa x.seps.length sc, .slice ka x.kids.length kc], .agg #[.slice qa y.pairs.length qc, .slice ta y.seps.length tc, .slice la y.kids.length lc], .bool bare] w
      (Rets (.bool true) w) := by
  have := same_any bare pa sa ka qa ta la pc sc kc qc tc lc x y w hx hy ox oy
  rwa [decide_eq_true h] at this
theorem Size_z {p wd : Int} {pa sa ka : Option Addr} {pc sc kc : Nat} {n : Nd} {w : World} {z : Nat} (hz : SizeE p wd n = z) (h : NdAt w pa sa ka n) (ho : NdOk n) :
    Calls Try.prog 17 #[.agg #[.int .i64 p, .int .i64 wd], .agg #[.slice pa n.pairs.length pc, .slice sa n.seps.length sc, .slice ka n.kids.length kc]] w (Rets (.int .i64 (z : Nat)) w) := by
  have := Size_any p wd pa sa ka pc sc kc n w h ho
  rwa [hz] at this

set_option maxHeartbeats 1000000 in set_option maxRecDepth 100000 in
theorem back_any (p wd : Int) (pa sa ka : Option Addr) (pc sc kc : Nat) (n : Nd) (w : World) (h : NdAt w pa sa ka n) (ho : NdOk n) :
    Calls Try.prog 4 #[.agg #[.int .i64 p, .int .i64 wd], .agg #[.slice pa n.pairs.length pc, .slice sa n.seps.length sc, .slice ka n.kids.length kc]] w (Rets (.bool true) w) := by
  by_cases hm : mayE p wd n = 0
  case neg => exact back_not p wd pa sa ka pc sc kc n w hm h ho
  obtain ⟨⟨hp1, hp2⟩, ⟨hw1, hw2⟩, hlen, hsz⟩ := may_facts hm
  have hnk := ho.nk
  have hrd := read_plain hm ho
  have hlt : (plainS p wd n).length ≤ 3909374676453 := by omega
  obtain ⟨z, hz⟩ : ∃ z : Nat, SizeE p wd n = z := ⟨_, rfl⟩
  rw [hz] at hlen hsz
  have HZ := Lib.hid hz; have HM := Lib.hid hm; have HR := Lib.hid hrd; have H := Lib.hid h; have HO := Lib.hid ho
  have b7 : (((plainS p wd n).length : Int) != (z : Int) - 4 * (n.kids.length : Int)) = false := by simp only [bne_eq_false_iff_eq]; omega
  have e1 : IntKind.i64.wrap (4 * (n.kids.length : Int)) = 4 * n.kids.length := IntWalk.i64_in _ (by omega)
  have e2 : IntKind.i64.wrap ((z : Int) - 4 * (n.kids.length : Int)) = z - 4 * n.kids.length := IntWalk.i64_in _ (by omega)
  have hz9 : (z : Int) ≤ 8192 := by omega
  have hbk : n.bare.kids.length ≤ 3909374676453 := by simpa [Nd.bare] using hnk
  clear hlen
  have hb0 : Blk ((w.alloc (.cells #[.int .i64 p, .int .i64 wd] 23)).alloc (.cells #[.slice pa n.pairs.length pc, .slice sa n.seps.length sc, .slice ka n.kids.length kc] 30)) w.heap.size 23 #[.int .i64 p, .int .i64 wd] := (Blk.new w _ _).alloc _
  have hb1 : Blk ((w.alloc (.cells #[.int .i64 p, .int .i64 wd] 23)).alloc (.cells #[.slice pa n.pairs.length pc, .slice sa n.seps.length sc, .slice ka n.kids.length kc] 30)) (w.heap.size + 1) 30 #[.slice pa n.pairs.length pc, .slice sa n.seps.length sc, .slice ka n.kids.length kc] := by
    have h := Blk.new (w.alloc (.cells #[.int .i64 p, .int .i64 wd] 23)) 30 #[.slice pa n.pairs.length pc, .slice sa n.seps.length sc, .slice ka n.kids.length kc]
    simpa using h
  have B0 := Lib.hid hb0; have B1 := Lib.hid hb1
  clear hb0 hb1
  rcases hd : (packE p wd n == 0) with _ | _
  · -- no form with pages
    have hd' : (packE p wd n != 0) = true := by simpa using hd
    clear hrd h ho hm hz
    go_enter Try.func4, Try.ntmps4
    go_wp2_with fail
    refine (lives_any _).mono ?_
    rintro e w' ⟨rfl, bs0, m0, rfl⟩
    go_wp2_with fail
    refine (Pack_any p wd _ _ _ _ _ _ n _ (H.out.kp0 (((Kp.refl [] _).alloc _ |>.alloc _ |>.ext _ _))) HO.out).mono ?_
    rintro e w' ⟨rfl, bs1, m1, rfl⟩
    go_wp2_with fail
    refine (Plain_any p wd _ _ _ _ _ _ n _ (H.out.kp0 (((Kp.refl [] _).alloc _ |>.alloc _ |>.ext _ _))) HO.out).mono ?_
    rintro e w' ⟨rfl, bs2, m2, rfl⟩
    rw [HM.out]
    go_wp2_with fail
    refine (Read_any p wd _ _ hlt).mono ?_
    rintro e w2 h2
    rw [HR.out] at h2
    obtain ⟨pa', sa', ka', pc', sc', kc', rfl, nd, k2, hnew⟩ := h2
    clear hnew
    have C0 := (B0.out.kp ((Kp.refl [] _).ext _ _) (by simp)).kp k2 (by simp)
    have C1 := (B1.out.kp ((Kp.refl [] _).ext _ _) (by simp)).kp k2 (by simp)
    have c0 := C0.cell 0; have c1 := C0.cell 1; have c2 := C1.cell 0; have c3 := C1.cell 1; have c4 := C1.cell 2
    have g0 := C0.lt; have g1 := C1.lt
    simp only [List.getElem?_toArray, List.getElem?_cons_zero, List.getElem?_cons_succ] at c0 c1 c2 c3 c4
    have ND := Lib.hid nd
    have KW : Hid (Kp [] w w2) := Lib.hid (((Kp.refl [] w).alloc _ |>.alloc _ |>.ext _ _).trans k2)
    have H2 : Hid (NdAt w2 pa sa ka n) := Lib.hid (H.out.kp0 KW.out)
    clear C0 C1 nd k2 hd hd' hlt
    go_wp2_with fail
    refine wp_region_ext (by kernel_rfl) (by kernel_rfl) ?_
    repeat (go_big_quiet_step (first | (go_at_call 16; exact Calls.quiet_ext (same_true true _ _ _ _ _ _ _ _ _ _ _ _ n.bare n _ (ND.out.kp0 ((Kp.refl [] _).alloc _ |>.ext _ _)) (H2.out.kp0 ((Kp.refl [] _).alloc _ |>.ext _ _)) (bare_ok HO.out) HO.out (bare_bare n))) | (go_at_call 17; exact Calls.quiet_ext (Size_z HZ.out (H2.out.kp0 ((Kp.refl [] _).alloc _ |>.ext _ _)) HO.out))))
    (refine wpQuiet_nil ?_; intro _ hw'; obtain ⟨⟨bsq, nq⟩, hw''⟩ := hw'; subst hw'')
    clear e1 e2
    go_wp2_with fail
    go_loopw [4, 13] (fun _ i wr => ∃ k, i = .int .i64 (k : Nat) ∧ k ≤ n.bare.kids.length ∧ wr = ext (w2.alloc (.cells #[.slice pa' n.bare.pairs.length pc', .slice sa' n.bare.seps.length sc', .slice ka' n.bare.kids.length kc'] 30)) bsq nq) (fun _ i _ => n.bare.kids.length - (intOf i).toNat)
    case atStart => exact ⟨0, rfl, Nat.zero_le _, rfl⟩
    case round =>
      obtain ⟨k, rfl, hk, rfl⟩ := hrel
      by_cases hlt : k < n.bare.kids.length
      · obtain ⟨x, hx⟩ : ∃ x, n.bare.kids[k]? = some x := ⟨_, List.getElem?_eq_getElem hlt⟩
        obtain ⟨b, o, rfl, hb, r1⟩ := ND.out.ks k x hx
        have cp := (rowAt?_cell r1).2 0 _ (Kd.get0 x)
        rw [bare_page hx] at cp
        simp only [Addr.add_lit, Nat.add_zero] at cp
        clear r1 hx
        go_wp2_with fail
        go_roundw
        case rel => exact ⟨k + 1, by go_num, by omega, by first | trivial | rfl⟩
        case measure => simp [intOf]; omega
      · go_wp2_with fail
        go_ret
        exact ⟨rfl, (KW.out.alloc _ |>.ext _ _).to_ext⟩
  · have hpe : packE p wd n = 0 := by simpa using hd
    have hup := unpack_pack hpe ho
    have hpl := pack_facts hpe
    rw [hz] at hpl
    have hpl' : (packS p wd n).length ≤ 3909374676453 := by omega
    have b5 : (((packS p wd n).length : Int) != (z : Int)) = false := by simp only [bne_eq_false_iff_eq]; omega
    have b6 : ((packS p wd n).length : Int) ≤ p - 32 := by omega
    have HU := Lib.hid hup; have HE := Lib.hid hpe
    clear hrd h ho hm hz hup hpe hpl
    go_enter Try.func4, Try.ntmps4
    go_wp2_with fail
    refine (lives_any _).mono ?_
    rintro e w' ⟨rfl, bs0, m0, rfl⟩
    go_wp2_with fail
    refine (Pack_any p wd _ _ _ _ _ _ n _ (H.out.kp0 (((Kp.refl [] _).alloc _ |>.alloc _ |>.ext _ _))) HO.out).mono ?_
    rintro e w' ⟨rfl, bs1, m1, rfl⟩
    rw [HE.out]
    go_wp2_with fail
    refine (Unpack_any p wd _ _ hpl').mono ?_
    rintro e w1 h1
    rw [HU.out] at h1
    obtain ⟨pa1, sa1, ka1, pc1, sc1, kc1, rfl, nd, k1, hnew⟩ := h1
    clear hnew
    have C0 := (B0.out.kp ((Kp.refl [] _).ext _ _) (by simp)).kp k1 (by simp)
    have C1 := (B1.out.kp ((Kp.refl [] _).ext _ _) (by simp)).kp k1 (by simp)
    have c0 := C0.cell 0; have c1 := C0.cell 1; have c2 := C1.cell 0; have c3 := C1.cell 1; have c4 := C1.cell 2
    have g0 := C0.lt; have g1 := C1.lt
    simp only [List.getElem?_toArray, List.getElem?_cons_zero, List.getElem?_cons_succ] at c0 c1 c2 c3 c4
    have ND1 := Lib.hid nd
    have KW1 : Hid (Kp [] w w1) := Lib.hid (((Kp.refl [] w).alloc _ |>.alloc _ |>.ext _ _).trans k1)
    have H1 : Hid (NdAt w1 pa sa ka n) := Lib.hid (H.out.kp0 KW1.out)
    have D0 := Lib.hid C0; have D1 := Lib.hid C1
    clear C0 C1 nd k1
    go_wp2_with fail
    refine (same_true false _ _ _ _ _ _ _ _ _ _ _ _ n n _ (ND1.out.kp0 ((Kp.refl [] _).alloc _)) (H1.out.kp0 ((Kp.refl [] _).alloc _)) HO.out HO.out rfl).mono ?_
    rintro e w' ⟨rfl, bs3, m3, rfl⟩
    go_wp2_with fail
    refine (Size_z HZ.out (H1.out.kp0 ((Kp.refl [] _).alloc _ |>.ext _ _)) HO.out).mono ?_
    rintro e w' ⟨rfl, bs4, m4, rfl⟩
    go_wp2_with fail
    refine (Plain_any p wd _ _ _ _ _ _ n _ (H1.out.kp0 (((Kp.refl [] _).alloc _ |>.ext _ _))) HO.out).mono ?_
    rintro e w' ⟨rfl, bs2, m2, rfl⟩
    rw [HM.out]
    clear c0 c1 c2 c3 c4 g0 g1 b5 b6 hpl'
    have c0 := D0.out.cell 0; have c1 := D0.out.cell 1; have g0 := D0.out.lt
    simp only [List.getElem?_toArray, List.getElem?_cons_zero, List.getElem?_cons_succ] at c0 c1
    go_wp2_with fail
    clear c0 c1 g0
    refine (Read_any p wd _ _ hlt).mono ?_
    rintro e w2 h2
    rw [HR.out] at h2
    obtain ⟨pa', sa', ka', pc', sc', kc', rfl, nd, k2, hnew⟩ := h2
    clear hnew
    have C0 := ((D0.out.alloc _).kp ((Kp.refl [] _).ext _ _) (by simp)).kp k2 (by simp)
    have C1 := ((D1.out.alloc _).kp ((Kp.refl [] _).ext _ _) (by simp)).kp k2 (by simp)
    have c0 := C0.cell 0; have c1 := C0.cell 1; have c2 := C1.cell 0; have c3 := C1.cell 1; have c4 := C1.cell 2
    have g0 := C0.lt; have g1 := C1.lt
    simp only [List.getElem?_toArray, List.getElem?_cons_zero, List.getElem?_cons_succ] at c0 c1 c2 c3 c4
    have ND := Lib.hid nd
    have KW : Hid (Kp [] w w2) := Lib.hid ((KW1.out.alloc _ |>.ext _ _).trans k2)
    have H2 : Hid (NdAt w2 pa sa ka n) := Lib.hid (H.out.kp0 KW.out)
    clear C0 C1 nd k2 hd hlt
    go_wp2_with fail
    refine wp_region_ext (by kernel_rfl) (by kernel_rfl) ?_
    repeat (go_big_quiet_step (first | (go_at_call 16; exact Calls.quiet_ext (same_true true _ _ _ _ _ _ _ _ _ _ _ _ n.bare n _ (ND.out.kp0 ((Kp.refl [] _).alloc _ |>.ext _ _)) (H2.out.kp0 ((Kp.refl [] _).alloc _ |>.ext _ _)) (bare_ok HO.out) HO.out (bare_bare n))) | (go_at_call 17; exact Calls.quiet_ext (Size_z HZ.out (H2.out.kp0 ((Kp.refl [] _).alloc _ |>.ext _ _)) HO.out))))
    (refine wpQuiet_nil ?_; intro _ hw'; obtain ⟨⟨bsq, nq⟩, hw''⟩ := hw'; subst hw'')
    clear e1 e2
    go_wp2_with fail
    go_loopw [4, 13] (fun _ i wr => ∃ k, i = .int .i64 (k : Nat) ∧ k ≤ n.bare.kids.length ∧ wr = ext (w2.alloc (.cells #[.slice pa' n.bare.pairs.length pc', .slice sa' n.bare.seps.length sc', .slice ka' n.bare.kids.length kc'] 30)) bsq nq) (fun _ i _ => n.bare.kids.length - (intOf i).toNat)
    case atStart => exact ⟨0, rfl, Nat.zero_le _, rfl⟩
    case round =>
      obtain ⟨k, rfl, hk, rfl⟩ := hrel
      by_cases hlt : k < n.bare.kids.length
      · obtain ⟨x, hx⟩ : ∃ x, n.bare.kids[k]? = some x := ⟨_, List.getElem?_eq_getElem hlt⟩
        obtain ⟨b, o, rfl, hb, r1⟩ := ND.out.ks k x hx
        have cp := (rowAt?_cell r1).2 0 _ (Kd.get0 x)
        rw [bare_page hx] at cp
        simp only [Addr.add_lit, Nat.add_zero] at cp
        clear r1 hx
        go_wp2_with fail
        go_roundw
        case rel => exact ⟨k + 1, by go_num, by omega, by first | trivial | rfl⟩
        case measure => simp [intOf]; omega
      · go_wp2_with fail
        go_ret
        exact ⟨rfl, (KW.out.alloc _ |>.ext _ _).to_ext⟩

end Go.Proofs.Ytemicgccgcmmbaa

/- NodeForms answers true of every frame and all bytes. Printed by genforms.py. -/
namespace Go.Proofs.Ytemicgccgcmmbaa
set_option linter.unusedVariables false
set_option linter.unusedSimpArgs false
open Go Go.RowKit

theorem Pack_s {p wd : Int} {pa sa ka : Option Addr} {pc sc kc : Nat} {n : Nd} {w : World} {s : Bs} (he : packE p wd n = 0) (hs : packS p wd n = s) (h : NdAt w pa sa ka n) (ho : NdOk n) :
    Calls Try.prog 14 #[.agg #[.int .i64 p, .int .i64 wd], .agg #[.slice pa n.pairs.length pc, .slice sa n.seps.length sc, .slice ka n.kids.length kc]] w (Rets2 s 0 w) := by
  have := Pack_any p wd pa sa ka pc sc kc n w h ho
  rwa [he, hs] at this
theorem Plain_s {p wd : Int} {pa sa ka : Option Addr} {pc sc kc : Nat} {n : Nd} {w : World} {s : Bs} (he : mayE p wd n = 0) (hs : plainS p wd n = s) (h : NdAt w pa sa ka n) (ho : NdOk n) :
    Calls Try.prog 18 #[.agg #[.int .i64 p, .int .i64 wd], .agg #[.slice pa n.pairs.length pc, .slice sa n.seps.length sc, .slice ka n.kids.length kc]] w (Rets2 s 0 w) := by
  have := Plain_any p wd pa sa ka pc sc kc n w h ho
  rwa [he, hs] at this
theorem Check_0 {p wd : Int} {pa sa ka : Option Addr} {pc sc kc : Nat} {n : Nd} {w : World} (he : checkE p wd n = 0) (h : NdAt w pa sa ka n) (ho : NdOk n) :
    Calls Try.prog 20 #[.agg #[.int .i64 p, .int .i64 wd], .agg #[.slice pa n.pairs.length pc, .slice sa n.seps.length sc, .slice ka n.kids.length kc]] w (Rets (.int .i64 0) w) := by
  have := check_any p wd pa sa ka pc sc kc n w h ho
  rwa [he] at this
theorem unpackE_ne (p wd : Int) : (unpackE p wd == 0) = false := by unfold unpackE; split <;> rfl

set_option maxHeartbeats 1000000 in set_option maxRecDepth 100000 in
theorem forms_any (p wd : Int) (s : Bs) (w : World) (hs : s.length ≤ 3909374676453) :
    Calls Try.prog 5 #[.agg #[.int .i64 p, .int .i64 wd], .string ⟨s.toArray⟩] w (Rets (.bool true) w) := by
  have hue := unpackE_ne p wd
  have hb0 : Blk (w.alloc (.cells #[.int .i64 p, .int .i64 wd] 23)) w.heap.size 23 #[.int .i64 p, .int .i64 wd] := Blk.new w _ _
  have B0 := Lib.hid hb0
  clear hb0
  rcases hU : unpackP p wd s with _ | n
  · have HU := Lib.hid hU
    rcases hR : readP p wd s with _ | m
    · have HR := Lib.hid hR
      clear hU hR
      go_enter Try.func5, Try.ntmps5
      go_wp2_with fail
      refine (lives_any _).mono ?_
      rintro e w' ⟨rfl, bs0, m0, rfl⟩
      go_wp2_with fail
      refine (Unpack_any p wd _ _ hs).mono ?_
      rintro e w1 h1
      rw [HU.out] at h1
      obtain ⟨rfl, k1⟩ := h1
      have C0 := (B0.out.kp ((Kp.refl [] _).ext _ _) (by simp)).kp k1 (by simp)
      have c0 := C0.cell 0; have c1 := C0.cell 1; have g0 := C0.lt
      simp only [List.getElem?_toArray, List.getElem?_cons_zero, List.getElem?_cons_succ] at c0 c1
      have KW1 : Hid (Kp [] w w1) := Lib.hid (((Kp.refl [] w).alloc _ |>.ext _ _).trans k1)
      have D0 := Lib.hid C0
      clear C0 k1
      go_wp2_with fail
      refine (Read_any p wd _ _ hs).mono ?_
      rintro e w2 h2
      rw [HR.out] at h2
      obtain ⟨rfl, k2⟩ := h2
      clear c0 c1 g0
      have C0 := (D0.out.alloc (.cells #[.slice none 0 0, .slice none 0 0, .slice none 0 0] 30)).kp k2 (by simp)
      have C1 := (Blk.new w1 30 #[.slice none 0 0, .slice none 0 0, .slice none 0 0]).kp k2 (by simp)
      have c0 := C0.cell 0; have c1 := C0.cell 1; have c2 := C1.cell 0; have c3 := C1.cell 1; have c4 := C1.cell 2; have g0 := C0.lt; have g1 := C1.lt
      simp only [List.getElem?_toArray, List.getElem?_cons_zero, List.getElem?_cons_succ] at c0 c1 c2 c3 c4
      have KW2 : Hid (Kp [] w w2) := Lib.hid ((KW1.out.alloc _).trans k2)
      clear C0 C1 k2
      go_wp2_with fail
      go_ret
      exact ⟨rfl, Kp.to_ext (KW2.out.trans (by repeat first | exact Kp.refl _ _ | refine Kp.ext ?_ _ _ | refine Kp.alloc ?_ _))⟩
    · have HR := Lib.hid hR
      have hpr := plain_read hR
      have HM := Lib.hid hpr.1; have HT := Lib.hid hpr.2.1; have HC2 := Lib.hid hpr.2.2.1
      have HO2 : Hid (NdOk m) := Lib.hid (parseP_ok hs (readP_ok hR).2.2)
      clear hU hR hpr
      go_enter Try.func5, Try.ntmps5
      go_wp2_with fail
      refine (lives_any _).mono ?_
      rintro e w' ⟨rfl, bs0, m0, rfl⟩
      go_wp2_with fail
      refine (Unpack_any p wd _ _ hs).mono ?_
      rintro e w1 h1
      rw [HU.out] at h1
      obtain ⟨rfl, k1⟩ := h1
      have C0 := (B0.out.kp ((Kp.refl [] _).ext _ _) (by simp)).kp k1 (by simp)
      have c0 := C0.cell 0; have c1 := C0.cell 1; have g0 := C0.lt
      simp only [List.getElem?_toArray, List.getElem?_cons_zero, List.getElem?_cons_succ] at c0 c1
      have KW1 : Hid (Kp [] w w1) := Lib.hid (((Kp.refl [] w).alloc _ |>.ext _ _).trans k1)
      have D0 := Lib.hid C0
      clear C0 k1
      go_wp2_with fail
      refine (Read_any p wd _ _ hs).mono ?_
      rintro e w2 h2
      rw [HR.out] at h2
      obtain ⟨pa2, sa2, ka2, pc2, sc2, kc2, rfl, nd2, k2, hnew⟩ := h2
      clear hnew
      have N2 := Lib.hid nd2
      clear nd2
      clear c0 c1 g0
      have C0 := (D0.out.alloc (.cells #[.slice none 0 0, .slice none 0 0, .slice none 0 0] 30)).kp k2 (by simp)
      have C1 := (Blk.new w1 30 #[.slice none 0 0, .slice none 0 0, .slice none 0 0]).kp k2 (by simp)
      have c0 := C0.cell 0; have c1 := C0.cell 1; have c2 := C1.cell 0; have c3 := C1.cell 1; have c4 := C1.cell 2; have g0 := C0.lt; have g1 := C1.lt
      simp only [List.getElem?_toArray, List.getElem?_cons_zero, List.getElem?_cons_succ] at c0 c1 c2 c3 c4
      have KW2 : Hid (Kp [] w w2) := Lib.hid ((KW1.out.alloc _).trans k2)
      clear C0 C1 k2
      go_wp2_with fail
      refine (Plain_s HM.out HT.out (N2.out.kp0 (by repeat first | exact Kp.refl _ _ | refine Kp.ext ?_ _ _ | refine Kp.alloc ?_ _)) HO2.out).mono ?_
      rintro e w' ⟨rfl, bs5, m5, rfl⟩
      go_wp2_with fail
      refine (Check_0 HC2.out (N2.out.kp0 (by repeat first | exact Kp.refl _ _ | refine Kp.ext ?_ _ _ | refine Kp.alloc ?_ _)) HO2.out).mono ?_
      rintro e w' ⟨rfl, bs6, m6, rfl⟩
      go_wp2_with fail
      go_ret
      exact ⟨rfl, Kp.to_ext (KW2.out.trans (by repeat first | exact Kp.refl _ _ | refine Kp.ext ?_ _ _ | refine Kp.alloc ?_ _))⟩
  · have HU := Lib.hid hU
    have hpu := pack_unpack hU
    have HE := Lib.hid hpu.1; have HS := Lib.hid hpu.2.1; have HC1 := Lib.hid hpu.2.2
    have HO1 : Hid (NdOk n) := Lib.hid (parseP_ok hs (unpackP_ok hU).2.2)
    clear hpu
    rcases hR : readP p wd s with _ | m
    · have HR := Lib.hid hR
      clear hU hR
      go_enter Try.func5, Try.ntmps5
      go_wp2_with fail
      refine (lives_any _).mono ?_
      rintro e w' ⟨rfl, bs0, m0, rfl⟩
      go_wp2_with fail
      refine (Unpack_any p wd _ _ hs).mono ?_
      rintro e w1 h1
      rw [HU.out] at h1
      obtain ⟨pa1, sa1, ka1, pc1, sc1, kc1, rfl, nd1, k1, hnew⟩ := h1
      clear hnew
      have N1 := Lib.hid nd1
      clear nd1
      have C0 := (B0.out.kp ((Kp.refl [] _).ext _ _) (by simp)).kp k1 (by simp)
      have c0 := C0.cell 0; have c1 := C0.cell 1; have g0 := C0.lt
      simp only [List.getElem?_toArray, List.getElem?_cons_zero, List.getElem?_cons_succ] at c0 c1
      have KW1 : Hid (Kp [] w w1) := Lib.hid (((Kp.refl [] w).alloc _ |>.ext _ _).trans k1)
      have D0 := Lib.hid C0
      clear C0 k1
      go_wp2_with fail
      refine (Read_any p wd _ _ hs).mono ?_
      rintro e w2 h2
      rw [HR.out] at h2
      obtain ⟨rfl, k2⟩ := h2
      clear c0 c1 g0
      have C0 := (D0.out.alloc (.cells #[.slice pa1 n.pairs.length pc1, .slice sa1 n.seps.length sc1, .slice ka1 n.kids.length kc1] 30)).kp k2 (by simp)
      have C1 := (Blk.new w1 30 #[.slice pa1 n.pairs.length pc1, .slice sa1 n.seps.length sc1, .slice ka1 n.kids.length kc1]).kp k2 (by simp)
      have c0 := C0.cell 0; have c1 := C0.cell 1; have c2 := C1.cell 0; have c3 := C1.cell 1; have c4 := C1.cell 2; have g0 := C0.lt; have g1 := C1.lt
      simp only [List.getElem?_toArray, List.getElem?_cons_zero, List.getElem?_cons_succ] at c0 c1 c2 c3 c4
      have KW2 : Hid (Kp [] w w2) := Lib.hid ((KW1.out.alloc _).trans k2)
      have N1' : Hid (NdAt w2 pa1 sa1 ka1 n) := Lib.hid (N1.out.kp0 (((Kp.refl [] _).alloc _).trans k2))
      clear C0 C1 k2
      go_wp2_with fail
      refine (Pack_s HE.out HS.out (N1'.out.kp0 (by repeat first | exact Kp.refl _ _ | refine Kp.ext ?_ _ _ | refine Kp.alloc ?_ _)) HO1.out).mono ?_
      rintro e w' ⟨rfl, bs3, m3, rfl⟩
      go_wp2_with fail
      refine (Check_0 HC1.out (N1'.out.kp0 (by repeat first | exact Kp.refl _ _ | refine Kp.ext ?_ _ _ | refine Kp.alloc ?_ _)) HO1.out).mono ?_
      rintro e w' ⟨rfl, bs4, m4, rfl⟩
      go_wp2_with fail
      go_ret
      exact ⟨rfl, Kp.to_ext (KW2.out.trans (by repeat first | exact Kp.refl _ _ | refine Kp.ext ?_ _ _ | refine Kp.alloc ?_ _))⟩
    · have HR := Lib.hid hR
      have hpr := plain_read hR
      have HM := Lib.hid hpr.1; have HT := Lib.hid hpr.2.1; have HC2 := Lib.hid hpr.2.2.1
      have HO2 : Hid (NdOk m) := Lib.hid (parseP_ok hs (readP_ok hR).2.2)
      clear hU hR hpr
      go_enter Try.func5, Try.ntmps5
      go_wp2_with fail
      refine (lives_any _).mono ?_
      rintro e w' ⟨rfl, bs0, m0, rfl⟩
      go_wp2_with fail
      refine (Unpack_any p wd _ _ hs).mono ?_
      rintro e w1 h1
      rw [HU.out] at h1
      obtain ⟨pa1, sa1, ka1, pc1, sc1, kc1, rfl, nd1, k1, hnew⟩ := h1
      clear hnew
      have N1 := Lib.hid nd1
      clear nd1
      have C0 := (B0.out.kp ((Kp.refl [] _).ext _ _) (by simp)).kp k1 (by simp)
      have c0 := C0.cell 0; have c1 := C0.cell 1; have g0 := C0.lt
      simp only [List.getElem?_toArray, List.getElem?_cons_zero, List.getElem?_cons_succ] at c0 c1
      have KW1 : Hid (Kp [] w w1) := Lib.hid (((Kp.refl [] w).alloc _ |>.ext _ _).trans k1)
      have D0 := Lib.hid C0
      clear C0 k1
      go_wp2_with fail
      refine (Read_any p wd _ _ hs).mono ?_
      rintro e w2 h2
      rw [HR.out] at h2
      obtain ⟨pa2, sa2, ka2, pc2, sc2, kc2, rfl, nd2, k2, hnew⟩ := h2
      clear hnew
      have N2 := Lib.hid nd2
      clear nd2
      clear c0 c1 g0
      have C0 := (D0.out.alloc (.cells #[.slice pa1 n.pairs.length pc1, .slice sa1 n.seps.length sc1, .slice ka1 n.kids.length kc1] 30)).kp k2 (by simp)
      have C1 := (Blk.new w1 30 #[.slice pa1 n.pairs.length pc1, .slice sa1 n.seps.length sc1, .slice ka1 n.kids.length kc1]).kp k2 (by simp)
      have c0 := C0.cell 0; have c1 := C0.cell 1; have c2 := C1.cell 0; have c3 := C1.cell 1; have c4 := C1.cell 2; have g0 := C0.lt; have g1 := C1.lt
      simp only [List.getElem?_toArray, List.getElem?_cons_zero, List.getElem?_cons_succ] at c0 c1 c2 c3 c4
      have KW2 : Hid (Kp [] w w2) := Lib.hid ((KW1.out.alloc _).trans k2)
      have N1' : Hid (NdAt w2 pa1 sa1 ka1 n) := Lib.hid (N1.out.kp0 (((Kp.refl [] _).alloc _).trans k2))
      clear C0 C1 k2
      go_wp2_with fail
      refine (Pack_s HE.out HS.out (N1'.out.kp0 (by repeat first | exact Kp.refl _ _ | refine Kp.ext ?_ _ _ | refine Kp.alloc ?_ _)) HO1.out).mono ?_
      rintro e w' ⟨rfl, bs3, m3, rfl⟩
      go_wp2_with fail
      refine (Check_0 HC1.out (N1'.out.kp0 (by repeat first | exact Kp.refl _ _ | refine Kp.ext ?_ _ _ | refine Kp.alloc ?_ _)) HO1.out).mono ?_
      rintro e w' ⟨rfl, bs4, m4, rfl⟩
      go_wp2_with fail
      refine (Plain_s HM.out HT.out (N2.out.kp0 (by repeat first | exact Kp.refl _ _ | refine Kp.ext ?_ _ _ | refine Kp.alloc ?_ _)) HO2.out).mono ?_
      rintro e w' ⟨rfl, bs5, m5, rfl⟩
      go_wp2_with fail
      refine (Check_0 HC2.out (N2.out.kp0 (by repeat first | exact Kp.refl _ _ | refine Kp.ext ?_ _ _ | refine Kp.alloc ?_ _)) HO2.out).mono ?_
      rintro e w' ⟨rfl, bs6, m6, rfl⟩
      go_wp2_with fail
      go_ret
      exact ⟨rfl, Kp.to_ext (KW2.out.trans (by repeat first | exact Kp.refl _ _ | refine Kp.ext ?_ _ _ | refine Kp.alloc ?_ _))⟩

end Go.Proofs.Ytemicgccgcmmbaa

/- A copied node's kid is written; what is known of sizes. -/
namespace Go.Proofs.Ytemicgccgcmmbaa
set_option linter.unusedVariables false
set_option linter.unusedSimpArgs false
open Go Go.RowKit

theorem Own.set {w : World} {e : TypeId} {size g n c : Nat} {xs : List Value} (h : Own w e size (some ⟨g, 0, none⟩) n c xs) (j : Nat) (v : Value) : Own (w.setCell ⟨g, j, none⟩ v) e size (some ⟨g, 0, none⟩) n c (xs.set j v) := by
  rcases h.block with ⟨h0, ⟨h1, _⟩ | ⟨g', cur, h1, hb, h2, h3, h4, h5⟩⟩
  · cases h1
  · cases h1
    refine ⟨by rw [List.length_set]; exact h0, .inr ⟨g, c, cur.setIfInBounds j v, rfl, Nat.zero_le _, Blk.set hb j v, h2, h3, by simpa using h4, ?_⟩⟩
    rw [Array.toList_setIfInBounds, List.take_set, h5]
theorem flat_set {T : Type} (cells : T → List Value) (size : Nat) (hsz : ∀ x, (cells x).length = size) : ∀ (l : List T) (k r : Nat) (x y : T) (v : Value), l[k]? = some x → r < size → (cells x).set r v = cells y → (l.flatMap cells).set (k * size + r) v = (l.set k y).flatMap cells
  | [], k, r, x, y, v, h, _, _ => by simp at h
  | z :: t, 0, r, x, y, v, h, hr, hc => by
    simp at h; subst h
    rw [List.flatMap_cons, Nat.zero_mul, Nat.zero_add, List.set_append_left _ _ (by rw [hsz]; exact hr), hc, List.set_cons_zero, List.flatMap_cons]
  | z :: t, k + 1, r, x, y, v, h, hr, hc => by
    have ih := flat_set cells size hsz t k r x y v (by simpa using h) hr hc
    rw [List.flatMap_cons, List.set_append_right _ _ (by rw [hsz, Nat.succ_mul]; omega), hsz, List.set_cons_succ, List.flatMap_cons, ← ih]
    congr 2
    rw [Nat.succ_mul]; omega
theorem own_page {w : World} {g c k : Nat} {ks : List Kd} {x : Kd} (h : Own w 42 33 (some ⟨g, 0, none⟩) ks.length c (ks.flatMap csK)) (hx : ks[k]? = some x) (pg : Nat) :
    Own (w.setCell ⟨g, k * 33, none⟩ (.int .u32 (pg : Int))) 42 33 (some ⟨g, 0, none⟩) (ks.set k ⟨pg, x.sum⟩).length c ((ks.set k ⟨pg, x.sum⟩).flatMap csK) := by
  have := h.set (k * 33) (.int .u32 (pg : Int))
  rw [← Nat.add_zero (k * 33), flat_set csK 33 (fun x => by simp) ks k 0 x ⟨pg, x.sum⟩ _ hx (by omega) (by simp [csK, Kd.c]), Nat.add_zero] at this
  rwa [List.length_set]

/-- A node copied, its pages being written. -/
structure SzI (w wr : World) (lo B8 : Nat) (fr nd : Array Value) (pb sb kb : Option Addr) (pd sd kd : Nat) (n : Nd) (ks : List Kd) : Prop where
  kp : Kp [] w wr
  b0 : Blk wr w.heap.size 23 fr
  b1 : Blk wr (w.heap.size + 1) 30 nd
  b8 : Blk wr B8 30 #[.slice pb n.pairs.length pd, .slice sb n.seps.length sd, .slice kb n.kids.length kd]
  own : Own3 wr lo pb sb kb pd sd kd ⟨n.pairs, n.seps, ks⟩
  lw : w.heap.size + 1 < lo
  hi : ∀ g ∈ ab pb ++ ab sb ++ ab kb, g < B8
  sm : ks.map (kdP false) = n.kids.map (kdP false)
  pg : ∀ k ∈ ks, k.page < 4294967296

theorem SzI.len {w wr : World} {lo B8 : Nat} {fr nd : Array Value} {pb sb kb : Option Addr} {pd sd kd : Nat} {n : Nd} {ks : List Kd} (h : SzI w wr lo B8 fr nd pb sb kb pd sd kd n ks) : ks.length = n.kids.length := by
  have := congrArg List.length h.sm; simpa using this
theorem SzI.put {w wr : World} {lo B8 : Nat} {fr nd : Array Value} {pb sb : Option Addr} {g : Nat} {pd sd kd : Nat} {n : Nd} {ks : List Kd} (h : SzI w wr lo B8 fr nd pb sb (some ⟨g, 0, none⟩) pd sd kd n ks) {k : Nat} {x : Kd} (hx : ks[k]? = some x) (pg : Nat) (hp : pg < 4294967296) :
    SzI w (wr.setCell ⟨g, k * 33, none⟩ (.int .u32 (pg : Int))) lo B8 fr nd pb sb (some ⟨g, 0, none⟩) pd sd kd n (ks.set k ⟨pg, x.sum⟩) := by
  have hg := h.own.lo g (by simp [ab])
  have hg2 := h.hi g (by simp [ab])
  have hlw := h.lw
  have k1 : Kp [g] wr (wr.setCell ⟨g, k * 33, none⟩ (.int .u32 (pg : Int))) := (Kp.refl [g] wr).setCell _ (.inr (by simp))
  refine ⟨h.kp.from k1 (fun y hy => by simp at hy; subst hy; exact .inl (by omega)), h.b0.kp k1 (by simp; omega), h.b1.kp k1 (by simp; omega), h.b8.kp k1 (by simp; omega), ?_, hlw, h.hi, ?_, ?_⟩
  · refine ⟨h.own.ps.kp k1 (fun y hy => by have := (h.own.d1 y hy).2; simpa [ab] using this), h.own.ss.kp k1 (fun y hy => by have := h.own.d2 y hy; simpa [ab] using this), own_page h.own.ks hx pg, h.own.lo, h.own.d1, h.own.d2⟩
  · rw [← h.sm, List.map_set]
    refine List.ext_getElem? fun i => ?_
    have hlt : k < ks.length := (List.getElem?_eq_some_iff.1 hx).1
    rw [List.getElem?_set]
    by_cases he : k = i
    · subst he
      rw [if_pos rfl, if_pos (by simpa using hlt), List.getElem?_map, hx]
      rfl
    · rw [if_neg he]
  · intro y hy
    rcases List.mem_or_eq_of_mem_set hy with h1 | rfl
    · exact h.pg y h1
    · exact hp

theorem SzI.next {w wr : World} {lo B8 : Nat} {fr nd : Array Value} {pb sb kb : Option Addr} {pd sd kd : Nat} {n : Nd} {ks : List Kd} (h : SzI w wr lo B8 fr nd pb sb kb pd sd kd n ks) {w' : World} (k : Kp [] wr w') : SzI w w' lo B8 fr nd pb sb kb pd sd kd n ks :=
  ⟨h.kp.trans k, h.b0.kp k (by simp), h.b1.kp k (by simp), h.b8.kp k (by simp), h.own.kp k (by simp), h.lw, h.hi, h.sm, h.pg⟩

theorem SzI.start {w w1 : World} {fr : Array Value} {nd : Array Value} {pb sb kb : Option Addr} {pd sd kd : Nat} {n : Nd} {W : World} (ho : NdOk n) (h0 : Blk W w.heap.size 23 fr) (h1 : Blk W (w.heap.size + 1) 30 nd) (k0 : Kp [] w W) (k : Kp [] W w1) (ow : Own3 w1 W.heap.size pb sb kb pd sd kd n) :
    SzI w (w1.alloc (.cells #[.slice pb n.pairs.length pd, .slice sb n.seps.length sd, .slice kb n.kids.length kd] 30)) W.heap.size w1.heap.size fr nd pb sb kb pd sd kd n n.kids := by
  have ka : Kp [] w1 (w1.alloc (.cells #[.slice pb n.pairs.length pd, .slice sb n.seps.length sd, .slice kb n.kids.length kd] 30)) := (Kp.refl [] w1).alloc _
  refine ⟨(k0.trans k).trans ka, (h0.kp k (by simp)).kp ka (by simp), (h1.kp k (by simp)).kp ka (by simp), Blk.new w1 _ _, Own3.kp ow ka (by simp), h1.lt, ?_, rfl, ho.pg⟩
  intro g hg
  simp only [List.mem_append] at hg
  rcases hg with (hg | hg) | hg
  · exact ow.ps.lt g hg
  · exact ow.ss.lt g hg
  · exact ow.ks.lt g hg

/-! Sizes. -/
theorem size_bare (p wd : Int) (n : Nd) : SizeE p wd n.bare = SizeE p wd n := by
  unfold SizeE; rw [checkE_bare, sizeN_bare]
theorem size_pages {p wd : Int} {n : Nd} {ks : List Kd} (h : ks.map (kdP false) = n.kids.map (kdP false)) : SizeE p wd ⟨n.pairs, n.seps, ks⟩ = SizeE p wd n := by
  rw [← size_bare p wd ⟨n.pairs, n.seps, ks⟩, ← size_bare p wd n]
  congr 1
  simp only [Nd.bare, Nd.mk.injEq, true_and]
  rw [kdP_false] at h; exact h

theorem cntN_two {n : Nat} (h : n ≤ 8192) : cntN n ≤ 2 := cntN_le 2 n (by omega) (by omega)
theorem size_bounds {P wd : Nat} {n : Nd} (h : checkE P wd n = 0) (ho : NdOk n) : 2 ≤ SizeE P wd n ∧ SizeE P wd n ≤ 11 + n.pairs.length * (P / 16 + P / 8 + 4) + n.kids.length * (P / 16 + 6 + wd) := by
  obtain ⟨hr, hs⟩ := checkE_ok h
  have hr' := rightB_iff.1 hr
  simp only [Int.toNat_natCast] at hs
  have e : SizeE (P : Int) wd n = sizeN wd n := by unfold SizeE; rw [if_pos h]; simp
  rw [e]
  have hnp := ho.np; have hnk := ho.nk
  unfold sizeN
  cases hl : leafB n
  · obtain ⟨e1, e2, e3, e4⟩ := branch_good hs hl
    have h1 := sum_le txN (2 + P / 16) n.seps (fun s hs => by have := e3 s hs; have := cntN_two (n := s.length) (by omega); unfold txN; omega)
    have h2 := cntN_le9 n.kids.length (by omega)
    have h3 := cntN_pos n.kids.length
    simp only [Bool.false_eq_true, if_false]
    have h4 : n.seps.length * (2 + P / 16) ≤ n.kids.length * (2 + P / 16) := Nat.mul_le_mul_right _ (by omega)
    have h5 : n.kids.length * (P / 16 + 6 + wd) = n.kids.length * (2 + P / 16) + n.kids.length * (4 + wd) := by rw [← Nat.mul_add]; congr 1; omega
    omega
  · have hlg := leaf_good hs hl
    have h1 := sum_le prN (P / 16 + P / 8 + 4) n.pairs (fun x hx => by
      have := hlg x hx
      have h1 := cntN_two (n := x.1.length) (by omega); have h2 := cntN_two (n := x.2.length) (by omega)
      unfold prN txN; omega)
    have h2 := cntN_le9 n.pairs.length (by omega)
    have h3 := cntN_pos n.pairs.length
    simp only [if_true]
    omega

theorem rises_take : ∀ (l : List Bs) (m k : Nat) (pv : Option Bs), risesFrom m pv l = true → risesFrom m pv (l.take k) = true
  | [], m, k, pv, h => by simp [risesFrom]
  | x :: t, m, 0, pv, h => rfl
  | x :: t, m, k + 1, pv, h => by
    simp only [List.take_succ_cons]
    unfold risesFrom at h ⊢
    simp only [Bool.and_eq_true] at h ⊢
    exact ⟨h.1, rises_take t m k _ h.2⟩

/-- One pair less. -/
theorem size_less {P wd : Nat} {n : Nd} {ks : List Kd} {x : Pr} (h : checkE P wd n = 0) (hk : ks.map (kdP false) = n.kids.map (kdP false)) (h1 : n.pairs[n.pairs.length - 1]? = some x) (h2 : 0 < n.pairs.length) (h3 : n.pairs.length < 128) :
    ∃ d, SizeE P wd n = SizeE P wd ⟨n.pairs.take (n.pairs.length - 1), n.seps, ks⟩ + d ∧ x.1.length + x.2.length + 2 ≤ d ∧ d ≤ x.1.length + x.2.length + 4 := by
  obtain ⟨hr, hs⟩ := checkE_ok h
  have hr' := rightB_iff.1 hr
  simp only [Int.toNat_natCast] at hs
  have hl : leafB n = true := by
    cases hl : leafB n
    · have := (branch_good hs hl).1; rw [this] at h2; simp at h2
    · rfl
  obtain ⟨e1, e2⟩ := leafB_iff.1 hl
  have hks : ks = [] := by rw [e2] at hk; simpa using hk
  subst hks
  have hlg := leaf_good hs hl
  have hx := hlg x (List.mem_of_getElem? h1)
  have hl2 : leafB ⟨n.pairs.take (n.pairs.length - 1), n.seps, []⟩ = true := by rw [e1]; rfl
  have hc2 : checkE P wd ⟨n.pairs.take (n.pairs.length - 1), n.seps, []⟩ = 0 := by
    unfold checkE shapedB
    rw [if_pos hr, if_pos hl2, Int.toNat_natCast]
    unfold shapedB at hs
    rw [if_pos hl] at hs
    simp only [Bool.and_eq_true, Bool.not_eq_true'] at hs
    rw [if_pos]
    simp only [Bool.and_eq_true, Bool.not_eq_true']
    refine ⟨?_, ?_⟩
    · rw [List.map_take]; exact rises_take _ _ _ _ hs.1
    · rw [List.any_eq_false]
      intro y hy
      exact List.any_eq_false.1 hs.2 y (List.mem_of_mem_take hy)
  have s1 : SizeE (P : Int) wd n = sizeN wd n := by unfold SizeE; rw [if_pos h]; simp
  have s2 : SizeE (P : Int) wd ⟨n.pairs.take (n.pairs.length - 1), n.seps, []⟩ = sizeN wd ⟨n.pairs.take (n.pairs.length - 1), n.seps, []⟩ := by unfold SizeE; rw [if_pos hc2]; simp
  rw [s1, s2]
  unfold sizeN
  rw [if_pos hl, if_pos hl2]
  have ht := sum_take prN n.pairs (n.pairs.length - 1) x h1
  rw [show n.pairs.length - 1 + 1 = n.pairs.length by omega, List.take_length] at ht
  have c1 := cntN_small h3
  have c2 : cntN (n.pairs.take (n.pairs.length - 1)).length = 1 := cntN_small (by simp; omega)
  have k1 := cntN_two (n := x.1.length) (by omega); have k2 := cntN_two (n := x.2.length) (by omega)
  have j1 := cntN_pos x.1.length; have j2 := cntN_pos x.2.length
  refine ⟨prN x, ?_, ?_, ?_⟩
  · simp only [c1, c2, ht]; omega
  · unfold prN txN; omega
  · unfold prN txN; omega

theorem PsAt.take {w : World} {a : Option Addr} {l : List Pr} (h : PsAt w a l) (k : Nat) : PsAt w a (l.take k) := fun i p hp => by
  rw [List.getElem?_take] at hp
  split at hp
  · exact h i p hp
  · cases hp

end Go.Proofs.Ytemicgccgcmmbaa
