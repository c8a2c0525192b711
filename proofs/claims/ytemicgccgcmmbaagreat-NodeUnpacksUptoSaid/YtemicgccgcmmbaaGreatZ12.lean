/- A node in lists of its own. -/
import Derived.Test.YtemicgccgcmmbaaGreatZ7
import Derived.Test.YtemicgccgcmmbaaGreatZ5
import Derived.Test.YtemicgccgcmmbaaGreatZ8
import Derived.Test.YtemicgccgcmmbaaGreatZ6
import Derived.Deep.RegionLaw
namespace Go.Proofs.YtemicgccgcmmbaaGreat
set_option linter.unusedVariables false
set_option linter.unusedSimpArgs false
open Go Go.RowKit

def CopyPost (n : Nd) (w : World) (e : Ending) (w' : World) : Prop :=
  ∃ pa sa ka pc sc kc, e = .returned (.agg #[.slice pa n.pairs.length pc, .slice sa n.seps.length sc, .slice ka n.kids.length kc]) ∧ Own3 w' w.heap.size pa sa ka pc sc kc n ∧ Kp [] w w'

/-- A node is handed back. -/
theorem nd_ret1 {fn : Func} {R : Ending → World → Prop} {a : Act} {w : World} {p : Tmp} (g : Nat) {t : TypeId} {x y z : Value} (hr : fn.results = #[.cell p 28]) (hp : a.tmps.getD p undef = .pointer (some ⟨g, 0, none⟩)) (hg : Blk w g t #[x, y, z]) (hd : a.defers = []) (hR : R (.returned (.agg #[x, y, z])) w) :
    bodyPost Tryz.prog fn R .ret a w :=
  row_ret g hr Tryz.underlying28 rfl (by kernel_rfl) hp hg hd hR

/-- Behind the three lists the result is written. -/
theorem copy_fin {w W wF : World} {pa sa ka : Option Addr} {pc sc kc : Nat} {n : Nd} {B : Nat} {x y z : Value}
    (hW : Kp [] w W) (hB : w.heap.size ≤ B) (hBW : B < W.heap.size) (hb : Blk wF B 28 #[x, y, z]) (hk : Kp [] W wF)
    (h1 : Own wF 56 2 pa n.pairs.length pc (n.pairs.flatMap csP)) (h2 : Own wF 9 1 sa n.seps.length sc (n.seps.flatMap csS)) (h3 : Own wF 59 33 ka n.kids.length kc (n.kids.flatMap csK))
    (l1 : ∀ g ∈ ab pa ++ ab sa ++ ab ka, W.heap.size ≤ g) (d1 : ∀ g ∈ ab pa, g ∉ ab sa ∧ g ∉ ab ka) (d2 : ∀ g ∈ ab sa, g ∉ ab ka)
    {wG : World} {a b c : Value} (hG : wG = ((wF.setCell ⟨B, 0, none⟩ a).setCell ⟨B, 1, none⟩ b).setCell ⟨B, 2, none⟩ c) :
    Blk wG B 28 #[a, b, c] ∧ Own3 wG w.heap.size pa sa ka pc sc kc n ∧ Kp [] w wG := by
  subst hG
  have hz := hW.size
  have kG : Kp [B] wF (((wF.setCell ⟨B, 0, none⟩ a).setCell ⟨B, 1, none⟩ b).setCell ⟨B, 2, none⟩ c) := (((Kp.refl [B] wF).setCell (a := ⟨B, 0, none⟩) a (.inr (by simp))).setCell (a := ⟨B, 1, none⟩) b (.inr (by simp))).setCell (a := ⟨B, 2, none⟩) c (.inr (by simp))
  refine ⟨?_, ?_, ?_⟩
  · have h := ((hb.set 0 a).set 1 b).set 2 c
    simpa using h
  · exact Own3.kp ⟨h1, h2, h3, fun g hg => Nat.le_trans hz (l1 g hg), d1, d2⟩ kG (fun g hg => by have := l1 g hg; simp; omega)
  · exact (hW.trans hk).from kG (fun g hg => by simp at hg; subst hg; exact .inl hB)

end Go.Proofs.YtemicgccgcmmbaaGreat

/- The document's Check: right, leaf, fits, keys, shaped. -/
namespace Go.Proofs.YtemicgccgcmmbaaGreat
set_option linter.unusedVariables false
set_option linter.unusedSimpArgs false
open Go Go.RowKit

set_option maxHeartbeats 1000000 in set_option maxRecDepth 100000 in
theorem rright_any (p wd : Int) (w : World) : Calls Tryz.prog 30 #[.agg #[.int .i64 p, .int .i64 wd]] w (Rets (.bool (rightB p wd)) w) := by
  by_cases h1024 : p = 1024
  · subst h1024
    by_cases h2 : 1 ≤ wd
    · go_enter Tryz.func30, Tryz.ntmps30
      go_wp2
      go_ret
      exact ⟨ret_bool (by rw [Bool.eq_iff_iff, rightB_iff]; simp; try omega), (by (try simp only [alloc_ext, drew_ext, drewN_ext, ext_ext]); exact ⟨_, _, rfl⟩)⟩
    · go_enter Tryz.func30, Tryz.ntmps30
      go_wp2
      go_ret
      exact ⟨ret_bool (by rw [Bool.eq_iff_iff, rightB_iff]; simp; try omega), (by (try simp only [alloc_ext, drew_ext, drewN_ext, ext_ext]); exact ⟨_, _, rfl⟩)⟩
  by_cases h2048 : p = 2048
  · subst h2048
    by_cases h2 : 1 ≤ wd
    · go_enter Tryz.func30, Tryz.ntmps30
      go_wp2
      go_ret
      exact ⟨ret_bool (by rw [Bool.eq_iff_iff, rightB_iff]; simp; try omega), (by (try simp only [alloc_ext, drew_ext, drewN_ext, ext_ext]); exact ⟨_, _, rfl⟩)⟩
    · go_enter Tryz.func30, Tryz.ntmps30
      go_wp2
      go_ret
      exact ⟨ret_bool (by rw [Bool.eq_iff_iff, rightB_iff]; simp; try omega), (by (try simp only [alloc_ext, drew_ext, drewN_ext, ext_ext]); exact ⟨_, _, rfl⟩)⟩
  by_cases h4096 : p = 4096
  · subst h4096
    by_cases h2 : 1 ≤ wd
    · go_enter Tryz.func30, Tryz.ntmps30
      go_wp2
      go_ret
      exact ⟨ret_bool (by rw [Bool.eq_iff_iff, rightB_iff]; simp; try omega), (by (try simp only [alloc_ext, drew_ext, drewN_ext, ext_ext]); exact ⟨_, _, rfl⟩)⟩
    · go_enter Tryz.func30, Tryz.ntmps30
      go_wp2
      go_ret
      exact ⟨ret_bool (by rw [Bool.eq_iff_iff, rightB_iff]; simp; try omega), (by (try simp only [alloc_ext, drew_ext, drewN_ext, ext_ext]); exact ⟨_, _, rfl⟩)⟩
  by_cases h8192 : p = 8192
  · subst h8192
    by_cases h2 : 1 ≤ wd
    · go_enter Tryz.func30, Tryz.ntmps30
      go_wp2
      go_ret
      exact ⟨ret_bool (by rw [Bool.eq_iff_iff, rightB_iff]; simp; try omega), (by (try simp only [alloc_ext, drew_ext, drewN_ext, ext_ext]); exact ⟨_, _, rfl⟩)⟩
    · go_enter Tryz.func30, Tryz.ntmps30
      go_wp2
      go_ret
      exact ⟨ret_bool (by rw [Bool.eq_iff_iff, rightB_iff]; simp; try omega), (by (try simp only [alloc_ext, drew_ext, drewN_ext, ext_ext]); exact ⟨_, _, rfl⟩)⟩
  have e1 : (p == 1024) = false := by simpa using h1024
  have e2 : (p == 2048) = false := by simpa using h2048
  have e3 : (p == 4096) = false := by simpa using h4096
  have e4 : (p == 8192) = false := by simpa using h8192
  have hr : rightB p wd = false := by
    cases h : rightB p wd
    · rfl
    · have := (rightB_iff.1 h).1; omega
  rw [hr]
  clear h1024 h2048 h4096 h8192 hr
  go_enter Tryz.func30, Tryz.ntmps30
  go_wp2
  go_ret
  exact ⟨rfl, by (try simp only [alloc_ext, drew_ext, drewN_ext, ext_ext]); exact ⟨_, _, rfl⟩⟩

set_option maxHeartbeats 1000000 in set_option maxRecDepth 100000 in
theorem rleaf_any (pa sa ka : Option Addr) (pn sn kn pc sc kc : Nat) (w : World) :
    Calls Tryz.prog 45 #[.agg #[.slice pa pn pc, .slice sa sn sc, .slice ka kn kc]] w (Rets (.bool (decide (sn = 0 ∧ kn = 0))) w) := by
  by_cases h1 : sn = 0
  · have hb : ((sn : Int) == 0) = true := by simp; omega
    go_enter Tryz.func45, Tryz.ntmps45
    go_wp2
    go_ret
    exact ⟨ret_bool (by rw [Bool.eq_iff_iff]; simp; omega), (by (try simp only [alloc_ext, drew_ext, drewN_ext, ext_ext]); exact ⟨_, _, rfl⟩)⟩
  · have hb : ((sn : Int) == 0) = false := by simp; omega
    go_enter Tryz.func45, Tryz.ntmps45
    go_wp2
    go_ret
    exact ⟨ret_bool (by rw [Bool.eq_iff_iff]; simp; omega), (by (try simp only [alloc_ext, drew_ext, drewN_ext, ext_ext]); exact ⟨_, _, rfl⟩)⟩

/-- Behind place k there are zeros alone. -/
def zeroFrom (k : Nat) (l : Bs) : Bool := (l.drop k).all fun b => b == 0
theorem zeroFrom_step {k : Nat} {l : Bs} {b : UInt8} (h : l[k]? = some b) : zeroFrom k l = ((b == 0) && zeroFrom (k + 1) l) := by
  obtain ⟨hk, rfl⟩ := List.getElem?_eq_some_iff.1 h
  unfold zeroFrom
  rw [List.drop_eq_getElem_cons hk, List.all_cons]
theorem zeroFrom_end {l : Bs} : zeroFrom l.length l = true := by unfold zeroFrom; simp
theorem cut_zeros {n : Nat} {d : Dg} (h : n ≤ 32) : zeroFrom n d.l = decide (Dg.cut n d = d) := by
  have hd := d.h
  have hc : Dg.cut n d = d ↔ (Dg.cut n d).l = d.l := ⟨fun h => by rw [h], Dg.ext'⟩
  have hl : (Dg.cut n d).l = d.l.take n ++ List.replicate (32 - n) 0 := by
    unfold Dg.cut Dg.pad padB
    simp only [List.length_take, d.h, List.take_take]
    rw [Nat.min_eq_left h, Nat.min_eq_right h]
  rw [Bool.eq_iff_iff, decide_eq_true_iff, hc, hl]
  constructor
  · intro hz
    conv => rhs; rw [← List.take_append_drop n d.l]
    congr 1
    symm
    rw [List.eq_replicate_iff]
    refine ⟨by simp [hd], fun b hb => ?_⟩
    have := List.all_eq_true.1 hz b hb
    simpa using this
  · intro he
    have h2 : d.l.drop n = List.replicate (32 - n) 0 := by
      have := congrArg (List.drop n) he
      rw [List.drop_left' (by simp [hd]; omega)] at this
      exact this.symm
    unfold zeroFrom
    rw [h2]
    simp

set_option maxHeartbeats 1000000 in set_option maxRecDepth 100000 in
theorem rfits_any (n : Nat) (d : Dg) (w : World) (h1 : 1 ≤ n) (h2 : n ≤ 32) : Calls Tryz.prog 82 #[.int .i64 n, .agg d.c] w (Rets (.bool (fitB n d)) w) := by
  have hf : fitB n d = zeroFrom n d.l := by
    unfold fitB
    rw [cut_zeros h2, decide_eq_true (by omega)]
    rfl
  rw [hf]
  clear hf
  have B0 := Lib.hid (Blk.new w 36 d.c)
  go_enter Tryz.func82, Tryz.ntmps82
  go_wp2_with fail
  go_loopw [5] (fun i wr => ∃ (k : Nat), i = .int .i64 k ∧ n ≤ k ∧ k ≤ 32 ∧ Hid (zeroFrom n d.l = zeroFrom k d.l) ∧ wr = w.alloc (.cells d.c 36)) (fun i _ => 32 - (intOf i).toNat)
  case atStart => exact ⟨n, rfl, by omega, by omega, Lib.hid rfl, rfl⟩
  case round =>
    obtain ⟨k, rfl, hk1, hk2, ZZ, rfl⟩ := hrel
    have hdl := d.h
    by_cases hlt : k < 32
    · obtain ⟨b, hb⟩ : ∃ b, d.l[k]? = some b := ⟨_, List.getElem?_eq_getElem (by omega)⟩
      have c1 : (w.alloc (.cells d.c 36)).cell? ⟨w.heap.size, k, none⟩ = some (.int .u8 (b.toNat : Int)) := by
        rw [B0.out.cell]
        show (bC d.l).toArray[k]? = _
        simp [bC, hb]
      have C1 := Lib.hid c1
      have hst := zeroFrom_step hb
      by_cases hz : b = 0
      · subst hz
        have HS := Lib.hid hst
        clear hdl hb hst
        go_wp2_with fail
        go_roundw
        case rel => exact ⟨k + 1, by go_num, by omega, by omega, Lib.hid (by rw [ZZ.out, HS.out]; rfl), trivial⟩
        case measure => simp [intOf]; omega
      · have hz2 : ((b.toNat : Int) != 0) = true := by
          simp only [bne_iff_ne, ne_eq]
          intro h
          exact hz (UInt8.toNat_inj.1 (by simpa using h))
        have hres : zeroFrom n d.l = false := by
          rw [ZZ.out, hst]
          simp [hz]
        have HR := Lib.hid hres
        clear hdl hb hst hz hres
        go_wp2_with fail
        go_ret
        rw [HR.out]
        exact ⟨rfl, by (try simp only [alloc_ext, drew_ext, drewN_ext, ext_ext]); exact ⟨_, _, rfl⟩⟩
    · obtain rfl : k = 32 := by omega
      have hres : zeroFrom n d.l = true := by
        rw [ZZ.out, ← hdl]; exact zeroFrom_end
      have HR := Lib.hid hres
      clear hdl hres
      go_wp2_with fail
      go_ret
      rw [HR.out]
      exact ⟨rfl, by (try simp only [alloc_ext, drew_ext, drewN_ext, ext_ext]); exact ⟨_, _, rfl⟩⟩

set_option maxHeartbeats 1000000 in set_option maxRecDepth 100000 in
theorem rkeys_any (m : Nat) (a : Option Addr) (c : Nat) (l : List Bs) (w : World) (hm : m ≤ 8192) (hl : l.length ≤ 8796093022208) (hs : ∀ x ∈ l, x.length ≤ 140737488351232) (h : SsAt w a l) :
    Calls Tryz.prog 81 #[.slice a l.length c, .int .i64 m] w (Rets (.bool (risesFrom m none l)) w) := by
  have H := Lib.hid h; clear h
  have HS := Lib.hid hs; clear hs
  go_enter Tryz.func81, Tryz.ntmps81
  go_wp2_with fail
  go_loopw [5] (fun i wr => ∃ k bs n, i = .int .i64 (k : Nat) ∧ k ≤ l.length ∧ wr = ext w bs n ∧ Hid (risesFrom m none l = risesFrom m (if k = 0 then none else l[k - 1]?) (l.drop k))) (fun i _ => l.length - (intOf i).toNat)
  case atStart => exact ⟨0, [], 0, rfl, Nat.zero_le _, (ext_zero _).symm, rfl⟩
  case round =>
    obtain ⟨k, bs, n, rfl, hk, rfl, HE⟩ := hrel
    by_cases hlt : k < l.length
    · obtain ⟨x, hx⟩ : ∃ x, l[k]? = some x := ⟨_, List.getElem?_eq_getElem hlt⟩
      have hd := risesDrop' l k x hx m
      obtain ⟨b, o, rfl, hb, c1⟩ := H.out k x hx
      have hxl : x.length ≤ 140737488351232 := HS.out x (List.mem_of_getElem? hx)
      have HX := Lib.hid hx
      by_cases g1 : x.length < 1
      · have d1 : decide ((x.length : Int) < 1) = true := decide_eq_true (by omega)
        have hr : risesFrom m none l = false := by rw [HE.out]; exact rises_no1 hd g1
        have HR := Lib.hid hr; clear hr hd hx
        go_wp2_with fail
        refine wp_region_ext (by kernel_rfl) (by kernel_rfl) ?_
        repeat (go_big_quiet_step (fail))
        (refine wpQuiet_nil ?_; intro _ hw'; obtain ⟨⟨bsq, nq⟩, hw''⟩ := hw'; subst hw'')
        go_wp2_with fail
        go_ret
        rw [HR.out]
        exact ⟨rfl, by (try simp only [alloc_ext, drew_ext, drewN_ext, ext_ext]); exact ⟨_, _, rfl⟩⟩
      have d1 : decide ((x.length : Int) < 1) = false := decide_eq_false (by omega)
      by_cases g2 : m < x.length
      · have d2 : decide ((m : Int) < (x.length : Int)) = true := decide_eq_true (by omega)
        have hr : risesFrom m none l = false := by rw [HE.out]; exact rises_no2 hd g2
        have HR := Lib.hid hr; clear hr hd hx
        go_wp2_with fail
        refine wp_region_ext (by kernel_rfl) (by kernel_rfl) ?_
        repeat (go_big_quiet_step (fail))
        (refine wpQuiet_nil ?_; intro _ hw'; obtain ⟨⟨bsq, nq⟩, hw''⟩ := hw'; subst hw'')
        go_wp2_with fail
        go_ret
        rw [HR.out]
        exact ⟨rfl, by (try simp only [alloc_ext, drew_ext, drewN_ext, ext_ext]); exact ⟨_, _, rfl⟩⟩
      have d2 : decide ((m : Int) < (x.length : Int)) = false := decide_eq_false (by omega)
      cases k with
      | zero =>
        rw [Nat.add_zero] at c1
        have hr : risesFrom m none l = risesFrom m (if 0 + 1 = 0 then none else l[0 + 1 - 1]?) (l.drop (0 + 1)) := by rw [HE.out]; exact rises_yes0 hd g1 g2
        have HR := Lib.hid hr; clear hr hd hx
        go_wp2_with fail
        refine wp_region_ext (by kernel_rfl) (by kernel_rfl) ?_
        repeat (go_big_quiet_step (fail))
        (refine wpQuiet_nil ?_; intro _ hw'; obtain ⟨⟨bsq, nq⟩, hw''⟩ := hw'; subst hw'')
        go_wp2_with fail
        go_roundw
        case rel => exact ⟨0 + 1, _, _, by go_num, by omega, by (try simp only [ext_alloc, ext_drew, ext_drewN, ext_ext]); rfl, HR⟩
        case measure => simp [intOf]; omega
      | succ j =>
        obtain ⟨q, hq⟩ : ∃ q, l[j]? = some q := ⟨_, List.getElem?_eq_getElem (by omega)⟩
        obtain ⟨b', o', he, hb', c2⟩ := H.out j q hq
        obtain ⟨rfl, rfl⟩ : b' = b ∧ o' = o := by simp only [Option.some.injEq, Addr.mk.injEq] at he; exact ⟨he.1.symm, he.2.1.symm⟩
        have e1 : (if j + 1 = 0 then none else l[j + 1 - 1]?) = some q := by rw [if_neg (by omega)]; exact hq
        rw [e1] at hd
        have hi : IntKind.i64.wrap ((j : Int) + 1 - 1) = (j : Int) := by rw [show (j : Int) + 1 - 1 = j by omega]; exact IntWalk.i64_in _ (by omega)
        have d3 : decide ((0 : Int) < (j : Int) + 1) = true := decide_eq_true (by omega)
        cases hl3 : Op.bytesLess q x
        · have hr : risesFrom m none l = false := by rw [HE.out, e1]; exact rises_no3 hd hl3
          have HR := Lib.hid hr; clear hr hd hx hq e1 he
          go_wp2_with fail
          refine wp_region_ext (by kernel_rfl) (by kernel_rfl) ?_
          repeat (go_big_quiet_step (fail))
          (refine wpQuiet_nil ?_; intro _ hw'; obtain ⟨⟨bsq, nq⟩, hw''⟩ := hw'; subst hw'')
          go_wp2_with fail
          go_ret
          rw [HR.out]
          exact ⟨rfl, by (try simp only [alloc_ext, drew_ext, drewN_ext, ext_ext]); exact ⟨_, _, rfl⟩⟩
        · have hr : risesFrom m none l = risesFrom m (if j + 1 + 1 = 0 then none else l[j + 1 + 1 - 1]?) (l.drop (j + 1 + 1)) := by rw [HE.out, e1]; exact rises_yes hd g1 g2 hl3
          have HR := Lib.hid hr; clear hr hd hx hq e1 he
          go_wp2_with fail
          refine wp_region_ext (by kernel_rfl) (by kernel_rfl) ?_
          repeat (go_big_quiet_step (fail))
          (refine wpQuiet_nil ?_; intro _ hw'; obtain ⟨⟨bsq, nq⟩, hw''⟩ := hw'; subst hw'')
          go_wp2_with fail
          go_roundw
          case rel => exact ⟨j + 1 + 1, _, _, by go_num, by omega, by (try simp only [ext_alloc, ext_drew, ext_drewN, ext_ext]); rfl, HR⟩
          case measure => simp [intOf]; omega
    · obtain rfl : k = l.length := by omega
      have hr : risesFrom m none l = true := by rw [HE.out, List.drop_length]; simp [risesFrom]
      have HR := Lib.hid hr; clear hr
      go_wp2_with fail
      go_ret
      rw [HR.out]
      exact ⟨rfl, by (try simp only [alloc_ext, drew_ext, drewN_ext, ext_ext]); exact ⟨_, _, rfl⟩⟩

end Go.Proofs.YtemicgccgcmmbaaGreat

/- The document's free numbers, texts, fixed numbers, digests. -/
namespace Go.Proofs.YtemicgccgcmmbaaGreat
set_option linter.unusedVariables false
set_option linter.unusedSimpArgs false
open Go Go.RowKit

def cv1 (x : Value) : Sem Value := convert 66 9 x
def slowCv (P : Program) (v : Value) (w : World) : Result Value := (cv1 v).run P w
/-- One byte, made a text. -/
@[go_sem] theorem conv_at (g o : Nat) (w : World) : (convert 66 9 (.slice (some ⟨g, o, none⟩) 1 1)).run Tryz.prog w = match w.cell? ⟨g, o, none⟩ with
    | some (.int .u8 x) => .ok (.string ⟨#[UInt8.ofNat x.toNat]⟩) w
    | _ => slowCv Tryz.prog (.slice (some ⟨g, o, none⟩) 1 1) w := by
  split
  · rename_i x hc
    have hl := run_loadCells_list (P := Tryz.prog) w ⟨g, o, none⟩ [.int .u8 x] (by
      intro j u hj
      match j, hj with
      | 0, hj =>
        simp at hj
        subst hj
        rw [show (⟨g, o, none⟩ : Addr).add 0 = ⟨g, o, none⟩ by simp [Addr.add], hc])
    rw [run_convert_bytes_string w 66 9 5 _ _ _ Tryz.underlying66 Tryz.underlying5 Tryz.underlying9]
    rw [run_bytesToString w ⟨g, o, none⟩ 1 1 [x] (by rw [show (1 : Nat) = [Value.int .u8 x].length from rfl, hl]; simp)]
    simp [ByteArray.empty, ByteArray.emptyWithCapacity]; rfl
  · rfl
theorem byteN' (n : Nat) : (n.toUInt8).toNat = n % 256 := by simp
theorem str_cons (b : UInt8) (l : Bs) : (⟨#[b]⟩ : ByteArray) ++ ⟨l.toArray⟩ = ⟨(b :: l).toArray⟩ := by
  apply ByteArray.ext
  simp [ByteArray.data_append]
theorem str_app (k l : Bs) : (⟨k.toArray⟩ : ByteArray) ++ ⟨l.toArray⟩ = ⟨(k ++ l).toArray⟩ := by
  apply ByteArray.ext
  simp [ByteArray.data_append]
theorem str_snoc (l : Bs) (b : UInt8) : (⟨l.toArray⟩ : ByteArray) ++ ⟨#[b]⟩ = ⟨(l ++ [b]).toArray⟩ := by
  apply ByteArray.ext
  simp [ByteArray.data_append]

theorem ret_str2 {a b : ByteArray} (h : a = b) : Ending.returned (.string a) = .returned (.string b) := by rw [h]

set_option maxHeartbeats 1000000 in set_option maxRecDepth 100000 in
theorem rfree_any (n : Nat) : ∀ (w : World), n < 18446744073709551616 → Calls Tryz.prog 61 #[.int .u64 n] w (Rets (.string ⟨(freeB n).toArray⟩) w) := by
  induction n using Nat.strongRecOn with
  | _ n ih =>
    intro w h64
    by_cases h : n < 128
    · rw [freeB_small h]
      have hw : IntKind.u8.wrap (n : Int) = n := by rw [IntKind.wrap_u8']; omega
      have hm : (n : Int) % 256 = n := by omega
      clear ih
      go_enter Tryz.func61, Tryz.ntmps61
      go_wp2_with fail
      go_ret
      exact ⟨rfl, by (try simp only [alloc_ext, drew_ext, drewN_ext, ext_ext]); exact ⟨_, _, rfl⟩⟩
    · obtain ⟨k, hk⟩ : ∃ k, n / 128 = k := ⟨_, rfl⟩
      obtain ⟨m, hm⟩ : ∃ m, n % 128 = m := ⟨_, rfl⟩
      obtain ⟨b, hb⟩ : ∃ b, (m + 128).toUInt8 = b := ⟨_, rfl⟩
      have hbn : b.toNat = m + 128 := by rw [← hb, byteN']; omega
      have IH := Lib.hid (ih k (by omega))
      clear ih
      rw [freeB_big h, hm, hb, hk]
      have h2 : k < 18446744073709551616 := by omega
      have q1 : (n : Int) / 128 = (k : Int) := by omega
      have q2 : (n : Int) % 128 = (m : Int) := by omega
      have q3 : (m : Int) % 256 = (m : Int) := by omega
      have q4 : (m : Int) + 128 = (b.toNat : Int) := by omega
      have q5 : (b.toNat : Int) % 256 = (b.toNat : Int) := by omega
      have q6 : (b.toNat : Int) < 256 := by omega
      have q7 : (n : Int).tdiv 128 = (k : Int) := by rw [Int.tdiv_eq_ediv_of_nonneg (by omega)]; exact q1
      have q8 : (n : Int).tmod 128 = (m : Int) := by rw [Int.tmod_eq_emod_of_nonneg (by omega)]; exact q2
      have w1 : IntKind.u64.wrap (k : Int) = k := by rw [IntKind.wrap_u64]; omega
      have w2 : IntKind.u8.wrap (m : Int) = m := by rw [IntKind.wrap_u8']; omega
      have w3 : IntKind.u8.wrap ((m : Int) + 128) = (b.toNat : Int) := by rw [IntKind.wrap_u8']; omega
      have w4 : IntKind.u8.wrap (b.toNat : Int) = (b.toNat : Int) := by rw [IntKind.wrap_u8']; omega
      have hl := freeB_len64 k h2
      have hl9 : ¬ 9223372036854775807 < 1 + List.length (freeB k) := by omega
      clear hk hm hb hbn
      go_enter Tryz.func61, Tryz.ntmps61
      go_wp2_with fail
      go_region_law (first
        | (refine step_call rfl 61 rfl #[.int .u64 (k : Int)] (by kernel_rfl) (IH.out _ h2) ?_; rintro e w1 ⟨rfl, bs, j, rfl⟩; refine ⟨_, rfl, ?_⟩))
      all_goals go_wp2_with fail
      all_goals go_ret
      all_goals exact ⟨ret_str2 (str_cons _ _), (by (try simp only [alloc_ext, drew_ext, drewN_ext, ext_ext]); exact ⟨_, _, rfl⟩)⟩

set_option maxHeartbeats 1000000 in set_option maxRecDepth 100000 in
theorem rtx_any (t : Bs) (w : World) (h : t.length ≤ 140737488351232) : Calls Tryz.prog 95 #[.string ⟨t.toArray⟩] w (Rets (.string ⟨(textB t).toArray⟩) w) := by
  have w1 : IntKind.u64.wrap (t.length : Int) = t.length := by rw [IntKind.wrap_u64]; omega
  have h2 : t.length < 18446744073709551616 := by omega
  have hl := freeB_len64 t.length h2
  go_enter Tryz.func95, Tryz.ntmps95
  go_wp2_with fail
  refine (rfree_any t.length _ h2).mono ?_
  rintro e w' ⟨rfl, bs, m, rfl⟩
  have hl9 : ¬ 9223372036854775807 < (freeB t.length).length + t.length := by omega
  go_wp2_with fail
  go_ret
  exact ⟨ret_str2 (str_app _ _), (by (try simp only [alloc_ext, drew_ext, drewN_ext, ext_ext]); exact ⟨_, _, rfl⟩)⟩

set_option maxHeartbeats 1000000 in set_option maxRecDepth 100000 in
theorem rwid_any (n : Nat) (w : World) (h : n ≤ 32) : Calls Tryz.prog 119 #[.int .i64 n] w fun e w' => e = .returned (.int .i64 n) ∧ w = w' := by
  go_enter Tryz.func119, Tryz.ntmps119
  go_wp2_with fail
  go_ret
  exact ⟨rfl, rfl⟩

set_option maxHeartbeats 1000000 in set_option maxRecDepth 100000 in
theorem rfixed_any (size n : Nat) (w : World) (h : n < 18446744073709551616) (hs : size ≤ 1000) : Calls Tryz.prog 96 #[.int .u64 n, .int .i64 size] w (Rets (.string ⟨(fixB size n).toArray⟩) w) := by
  go_enter Tryz.func96, Tryz.ntmps96
  go_wp2_with fail
  go_loopw [0, 5, 6] (fun x t i wr => ∃ (k y : Nat) (s : Bs) (bs : List Obj) (m : Nat), x = .int .u64 y ∧ t = .string ⟨s.toArray⟩ ∧ i = .int .i64 k ∧ k ≤ size ∧ y < 18446744073709551616 ∧ s.length ≤ k ∧ wr = ext w bs m ∧ Hid (y = n / 256 ^ k) ∧ Hid (s = fixB k n)) (fun _ _ i _ => size - (intOf i).toNat)
  case atStart => exact ⟨0, n, [], [], 0, rfl, rfl, rfl, Nat.zero_le _, h, Nat.le_refl _, (ext_zero _).symm, by simp [Hid], rfl⟩
  case round =>
    obtain ⟨k, y, s, bs, m, rfl, rfl, rfl, hk, hy, hsl, rfl, HY, HSS⟩ := hrel
    by_cases hlt : k < size
    · obtain ⟨b, hb⟩ : ∃ b, (y % 256).toUInt8 = b := ⟨_, rfl⟩
      obtain ⟨z, hz⟩ : ∃ z, y / 256 = z := ⟨_, rfl⟩
      have hbn : b.toNat = y % 256 := by rw [← hb, byteN']; omega
      have q1 : IntKind.u8.wrap (y : Int) = (b.toNat : Int) := by rw [IntKind.wrap_u8']; omega
      have q2 : (y : Int) % 256 = (b.toNat : Int) := by omega
      have q3 : (y : Int) / 256 = (z : Int) := by omega
      have q4 : IntKind.u64.wrap (z : Int) = (z : Int) := by rw [IntKind.wrap_u64]; omega
      have hl9 : ¬ 9223372036854775807 < 1 + s.length := by omega
      have hz2 : z < 18446744073709551616 := by omega
      have HN : Hid (b :: s = fixB (k + 1) n) := Lib.hid (by
        show _ = (n / 256 ^ k % 256).toUInt8 :: fixB k n
        rw [← HY.out, hb, HSS.out])
      have HZ : Hid (z = n / 256 ^ (k + 1)) := Lib.hid (by rw [← hz, HY.out, Nat.div_div_eq_div_mul, Nat.pow_succ])
      clear hb hz hbn
      go_wp2_with fail
      go_roundw
      case rel => exact ⟨k + 1, z, b :: s, _, _, by go_num, by simp [str_cons], by go_num, by omega, hz2, by simp; omega, (by (try simp only [alloc_ext, drew_ext, drewN_ext, ext_ext]); rfl), HZ, HN⟩
      case measure => simp [intOf]; omega
    · obtain rfl : k = size := by omega
      go_wp2_with fail
      go_ret
      exact ⟨by rw [← HSS.out]; rfl, (by (try simp only [alloc_ext, drew_ext, drewN_ext, ext_ext]); exact ⟨_, _, rfl⟩)⟩

set_option maxHeartbeats 1000000 in set_option maxRecDepth 100000 in
theorem rdg_any (n : Nat) (d : Dg) (w : World) (h : n ≤ 32) : Calls Tryz.prog 97 #[.int .i64 n, .agg d.c] w (Rets (.string ⟨(d.l.take n).toArray⟩) w) := by
  have hd := d.h
  have B0 := Lib.hid (Blk.new w 36 d.c)
  go_enter Tryz.func97, Tryz.ntmps97
  go_wp2_with fail
  go_loopw [5, 6] (fun t i wr => ∃ (k : Nat) (s : Bs) (bs : List Obj) (m : Nat), t = .string ⟨s.toArray⟩ ∧ i = .int .i64 k ∧ k ≤ n ∧ s.length ≤ k ∧ wr = ext (w.alloc (.cells d.c 36)) bs m ∧ Hid (s = d.l.take k)) (fun _ i _ => n - (intOf i).toNat)
  case atStart => exact ⟨0, [], [], 0, rfl, rfl, Nat.zero_le _, Nat.le_refl _, ext_zero _, by simp [Hid]⟩
  case round =>
    obtain ⟨k, s, bs, m, rfl, rfl, hk, hsl, rfl, HSS⟩ := hrel
    by_cases hlt : k < n
    · obtain ⟨b, hb⟩ : ∃ b, d.l[k]? = some b := ⟨_, List.getElem?_eq_getElem (by omega)⟩
      have c1 : (w.alloc (.cells d.c 36)).cell? ⟨w.heap.size, k, none⟩ = some (.int .u8 (b.toNat : Int)) := by
        rw [B0.out.cell]
        show (bC d.l).toArray[k]? = _
        simp [bC, hb]
      have c2 : d.c[k]? = some (.int .u8 (b.toNat : Int)) := by
        show (bC d.l).toArray[k]? = _
        simp [bC, hb]
      have HN : Hid (s ++ [b] = d.l.take (k + 1)) := Lib.hid (by rw [List.take_add_one, hb, HSS.out]; rfl)
      have hl9 : ¬ 9223372036854775807 < s.length + 1 := by omega
      clear hb
      go_wp2_with (go_at_call 119; refine (rwid_any _ _ h).mono ?_; rintro e w' ⟨rfl, rfl⟩)
      go_roundw
      case rel => exact ⟨k + 1, s ++ [b], _, _, by simp [str_snoc], by go_num, by omega, by simp; omega, (by (try simp only [alloc_ext, drew_ext, drewN_ext, ext_ext]); rfl), HN⟩
      case measure => simp [intOf]; omega
    · obtain rfl : k = n := by omega
      go_wp2_with (go_at_call 119; refine (rwid_any _ _ h).mono ?_; rintro e w' ⟨rfl, rfl⟩)
      go_ret
      exact ⟨by rw [← HSS.out]; rfl, (by (try simp only [alloc_ext, drew_ext, drewN_ext, ext_ext]); exact ⟨_, _, rfl⟩)⟩

end Go.Proofs.YtemicgccgcmmbaaGreat

/- The document's shaped and Check. -/
namespace Go.Proofs.YtemicgccgcmmbaaGreat
set_option linter.unusedVariables false
set_option linter.unusedSimpArgs false
open Go Go.RowKit

def keyC (l : List Pr) : List Value := (l.map fun x => x.1).map fun t => .string ⟨t.toArray⟩
theorem keyC_snoc {l : List Pr} {k : Nat} {x : Pr} (h : l[k]? = some x) : keyC (l.take (k + 1)) = keyC (l.take k) ++ [.string ⟨x.1.toArray⟩] := by
  unfold keyC
  rw [List.take_add_one, h]
  simp

set_option maxHeartbeats 1000000 in set_option maxRecDepth 100000 in
theorem rshaped_leaf (P : Nat) (wd : Int) (pa sa ka : Option Addr) (pc sc kc : Nat) (n : Nd) (w : World) (hr : rightB P wd = true) (hl : leafB n = true) (h : NdAt w pa sa ka n) (ho : NdOk n) :
    Calls Tryz.prog 43 #[.agg #[.int .i64 P, .int .i64 wd], .agg #[.slice pa n.pairs.length pc, .slice sa n.seps.length sc, .slice ka n.kids.length kc]] w (Rets (.bool (shapedB P wd n)) w) := by
  have hP : P ≤ 8192 := by have := rightB_iff.1 hr; omega
  have hs : shapedB P wd n = (risesFrom (P / 16) none (n.pairs.map fun x => x.1) && !(n.pairs.any fun x => decide (P / 8 < x.2.length))) := by
    simp only [shapedB, hl, if_true]
  have hl' : (decide (n.seps.length = 0 ∧ n.kids.length = 0)) = true := hl
  obtain ⟨W0, hW0⟩ : ∃ W0, W0 = (w.alloc (.cells #[.int .i64 P, .int .i64 wd] 23)).alloc (.cells #[.slice pa n.pairs.length pc, .slice sa n.seps.length sc, .slice ka n.kids.length kc] 28) := ⟨_, rfl⟩
  have kw : Kp [] w W0 := by rw [hW0]; exact ((Kp.refl [] w).alloc _).alloc _
  have b0 : Blk W0 w.heap.size 23 #[.int .i64 P, .int .i64 wd] := by rw [hW0]; exact (Blk.new w _ _).alloc _
  have b1 : Blk W0 (w.heap.size + 1) 28 #[.slice pa n.pairs.length pc, .slice sa n.seps.length sc, .slice ka n.kids.length kc] := by
    rw [hW0]
    have h := Blk.new (w.alloc (.cells #[.int .i64 P, .int .i64 wd] 23)) 28 #[.slice pa n.pairs.length pc, .slice sa n.seps.length sc, .slice ka n.kids.length kc]
    simpa using h
  have hz0 : W0.heap.size = w.heap.size + 2 := by rw [hW0]; simp
  have SK : Hid (∀ W : World, Kp [] W0 W → (W.cell? ⟨w.heap.size, 0, none⟩ = some (.int .i64 P) ∧ W.cell? ⟨w.heap.size + 1, 0, none⟩ = some (.slice pa n.pairs.length pc)) ∧ w.heap.size + 1 < W.heap.size) := Lib.hid (fun W k =>
    ⟨⟨(b0.kp k (by simp)).cell 0, (b1.kp k (by simp)).cell 0⟩, by have := k.size; omega⟩)
  have d8 : (P : Int) / 8 = ((P / 8 : Nat) : Int) := by omega
  have D8 := Lib.hid d8
  have d16 : (P : Int) / 16 = ((P / 16 : Nat) : Int) := by omega
  have D16 := Lib.hid d16
  have HS := Lib.hid hs; have HL := Lib.hid hl'
  have hnp := ho.np
  have KW := Lib.hid kw
  have H := Lib.hid (h.kp0 kw); have HO := Lib.hid ho
  have HN := Lib.hid h
  have HW0 := Lib.hid hW0
  have hz1 : w.heap.size + 1 < W0.heap.size := by omega
  clear h ho hr hl hs hl' kw b0 b1 hW0 d8 d16 hz0
  go_enter Tryz.func43, Tryz.ntmps43
  go_wp2_with fail
  refine (rleaf_any _ _ _ _ _ _ _ _ _ _).mono ?_
  rintro e w' ⟨rfl, bs1, m1, rfl⟩
  rw [HL.out]
  go_wp2_with fail
  rw [← HW0.out]
  go_loopw [5, 6] (fun t i wr => ∃ (k : Nat) (a : Option Addr) (c : Nat), t = .slice a k c ∧ i = .int .i64 k ∧ k ≤ n.pairs.length ∧ Hid (Kp [] W0 wr) ∧ Hid (Own wr 9 1 a k c (keyC (n.pairs.take k))) ∧ Hid (∀ g ∈ ab a, W0.heap.size ≤ g) ∧ Hid (∀ x ∈ n.pairs.take k, ¬ P / 8 < x.2.length)) (fun _ i _ => n.pairs.length - (intOf i).toNat)
  case atStart => exact ⟨0, none, 0, rfl, rfl, Nat.zero_le _, Lib.hid ((Kp.refl [] _).ext _ _), Lib.hid (Own.nil _ _ _), Lib.hid (fun g hg => by simp [ab] at hg), Lib.hid (fun x hx => by simp at hx)⟩
  case round =>
    obtain ⟨k, a, c, rfl, rfl, hk, KI, OW, LO, NL⟩ := hrel
    obtain ⟨⟨f0, n0⟩, z0⟩ := SK.out _ KI.out
    by_cases hlt : k < n.pairs.length
    · obtain ⟨x, hx⟩ : ∃ x, n.pairs[k]? = some x := ⟨_, List.getElem?_eq_getElem hlt⟩
      have hps := H.out.ps.kp KI.out (by simp)
      obtain ⟨b, o, rfl, hb, c1, c2⟩ := hps k x hx
      have hxl := HO.out.sp x (List.mem_of_getElem? hx)
      obtain ⟨hx1, hx2⟩ := hxl
      have HX := Lib.hid hx
      have C2 := Lib.hid c2
      clear hps hx c2
      by_cases hlong : P / 8 < x.2.length
      · have hres : shapedB P wd n = false := by
          rw [HS.out, show (n.pairs.any fun x => decide (P / 8 < x.2.length)) = true from List.any_eq_true.2 ⟨x, List.mem_of_getElem? HX.out, decide_eq_true hlong⟩]
          simp
        have HR := Lib.hid hres
        have dd : decide (((P / 8 : Nat) : Int) < (x.2.length : Int)) = true := decide_eq_true (by omega)
        rw [← D8.out] at dd
        clear hres hlong
        go_wp2_with (at_builtin; refine wpList_app_str rfl rfl rfl (OW.out.kp ((Kp.refl [] wr).alloc _) (by simp)) 1 [.string ⟨x.1.toArray⟩] (src_row Tryz.underlying25 wr #[.string ⟨x.1.toArray⟩] 9 wr.heap.size rfl rfl (by simp [Value.oneCell'])) (by omega) ?_; intro a4 c4 w4 o4 k4 n4; have K4 : Hid (Kp [] W0 w4) := Lib.hid ((KI.out.alloc _).from k4 (fun g hg => .inl (LO.out g hg))); have O4 : Hid (Own w4 9 1 a4 (k + 1) c4 (keyC (n.pairs.take (k + 1)))) := Lib.hid (by rw [keyC_snoc HX.out]; exact o4); have L4 : Hid (∀ g ∈ ab a4, W0.heap.size ≤ g) := Lib.hid (fun g hg => (n4 g hg).elim (LO.out g) (fun h => by have := KI.out.size; simp at h; omega)); obtain ⟨⟨f4, n5⟩, z4⟩ := SK.out _ K4.out; obtain ⟨b', o', he, hb4, c14, c24⟩ := (H.out.ps.kp K4.out (by simp)) k x HX.out; obtain ⟨rfl, rfl⟩ : b' = b ∧ o' = o := (by simp only [Option.some.injEq, Addr.mk.injEq] at he; exact ⟨he.1.symm, he.2.1.symm⟩); clear o4 k4 n4 he)
        refine wp_region_ext (by kernel_rfl) (by kernel_rfl) ?_
        repeat (go_big_quiet_step (fail))
        (refine wpQuiet_nil ?_; intro _ hw'; obtain ⟨⟨bsq, nq⟩, hw''⟩ := hw'; subst hw'')
        go_wp2_with fail
        go_ret
        rw [HR.out]
        exact ⟨rfl, Kp.to_ext ((KW.out.trans K4.out).ext _ _)⟩
      · have dd : decide (((P / 8 : Nat) : Int) < (x.2.length : Int)) = false := decide_eq_false (by omega)
        rw [← D8.out] at dd
        have NL4 : Hid (∀ y ∈ n.pairs.take (k + 1), ¬ P / 8 < y.2.length) := Lib.hid (fun y hy => by
          rw [List.take_add_one, HX.out, List.mem_append] at hy
          rcases hy with hy | hy
          · exact NL.out y hy
          · simp at hy; subst hy; exact hlong)
        clear hlong
        go_wp2_with (at_builtin; refine wpList_app_str rfl rfl rfl (OW.out.kp ((Kp.refl [] wr).alloc _) (by simp)) 1 [.string ⟨x.1.toArray⟩] (src_row Tryz.underlying25 wr #[.string ⟨x.1.toArray⟩] 9 wr.heap.size rfl rfl (by simp [Value.oneCell'])) (by omega) ?_; intro a4 c4 w4 o4 k4 n4; have K4 : Hid (Kp [] W0 w4) := Lib.hid ((KI.out.alloc _).from k4 (fun g hg => .inl (LO.out g hg))); have O4 : Hid (Own w4 9 1 a4 (k + 1) c4 (keyC (n.pairs.take (k + 1)))) := Lib.hid (by rw [keyC_snoc HX.out]; exact o4); have L4 : Hid (∀ g ∈ ab a4, W0.heap.size ≤ g) := Lib.hid (fun g hg => (n4 g hg).elim (LO.out g) (fun h => by have := KI.out.size; simp at h; omega)); obtain ⟨⟨f4, n5⟩, z4⟩ := SK.out _ K4.out; obtain ⟨b', o', he, hb4, c14, c24⟩ := (H.out.ps.kp K4.out (by simp)) k x HX.out; obtain ⟨rfl, rfl⟩ : b' = b ∧ o' = o := (by simp only [Option.some.injEq, Addr.mk.injEq] at he; exact ⟨he.1.symm, he.2.1.symm⟩); clear o4 k4 n4 he)
        refine wp_region_ext (by kernel_rfl) (by kernel_rfl) ?_
        repeat (go_big_quiet_step (fail))
        (refine wpQuiet_nil ?_; intro _ hw'; obtain ⟨⟨bsq, nq⟩, hw''⟩ := hw'; subst hw'')
        go_wp2_with fail
        go_roundw
        case rel => exact ⟨k + 1, _, _, rfl, by go_num, by omega, Lib.hid (K4.out.ext _ _), Lib.hid (O4.out.kp ((Kp.refl [] w4).ext _ _) (by simp)), L4, NL4⟩
        case measure => simp [intOf]; omega
    · obtain rfl : k = n.pairs.length := by omega
      have hres : shapedB P wd n = risesFrom (P / 16) none (n.pairs.map fun x => x.1) := by
        have hn : (n.pairs.any fun x => decide (P / 8 < x.2.length)) = false := by
          rw [List.any_eq_false]
          intro x hx
          have h := NL.out x (by rw [List.take_length]; exact hx)
          simpa using h
        rw [HS.out, hn]; simp
      have HR := Lib.hid hres
      have hss : SsAt wr a (n.pairs.map fun x => x.1) := by
        refine Own.ss (c := c) ?_
        have h := OW.out
        rw [List.take_length] at h
        rw [List.length_map]
        exact h
      have HSS := Lib.hid hss
      have hml : (n.pairs.map fun x => x.1).length = n.pairs.length := List.length_map ..
      have HML := Lib.hid hml
      clear hres hss hml
      go_wp2_with fail
      rw [D16.out]
      have hk := rkeys_any (P / 16) a c (n.pairs.map fun x => x.1) wr (by omega) (by rw [HML.out]; omega) (fun t ht => by obtain ⟨x, hx, rfl⟩ := List.mem_map.1 ht; exact (HO.out.sp x hx).1) HSS.out
      rw [HML.out] at hk
      refine hk.mono ?_
      rintro e w' ⟨rfl, bs2, m2, rfl⟩
      rw [← HR.out]
      go_wp2_with fail
      go_ret
      exact ⟨rfl, Kp.to_ext ((KW.out.trans KI.out).ext _ _)⟩

/-- A kid's digest, in a row of kids. -/
theorem row_sum {w : World} {b o : Nat} {k : Kd} (h : rowAt? w ⟨b, o, none⟩ 33 = some k.c) : rowAt? w ⟨b, o + 1, none⟩ 32 = some k.sum.c := by
  unfold rowAt? at h ⊢
  simp only at h ⊢
  split at h
  · rename_i c e f hb
    split at h
    · cases h
    · split at h
      · rename_i hle
        simp only [Option.some.injEq] at h
        rw [if_neg (by simp), if_pos (by omega)]
        congr 1
        rw [← Kd.extract1 k, ← h]
        apply Array.ext'
        simp [List.extract_eq_take_drop]
      · cases h
  · cases h

set_option maxHeartbeats 1000000 in set_option maxRecDepth 100000 in
theorem rshaped_branch (P d : Nat) (pa sa ka : Option Addr) (pc sc kc : Nat) (n : Nd) (w : World) (hr : rightB P d = true) (hl : leafB n = false) (h : NdAt w pa sa ka n) (ho : NdOk n) :
    Calls Tryz.prog 43 #[.agg #[.int .i64 P, .int .i64 d], .agg #[.slice pa n.pairs.length pc, .slice sa n.seps.length sc, .slice ka n.kids.length kc]] w (Rets (.bool (shapedB P d n)) w) := by
  have hP : P ≤ 8192 := by have := rightB_iff.1 hr; omega
  have hd1 : 1 ≤ d := by have := rightB_iff.1 hr; omega
  have hd2 : d ≤ 32 := by have := rightB_iff.1 hr; omega
  have hs : shapedB P d n = (decide (n.pairs.length = 0) && decide (2 ≤ n.kids.length) && decide (n.seps.length + 1 = n.kids.length) && !(n.kids.any fun k => !fitB d k.sum) && risesFrom (P / 16) none n.seps) := by
    simp only [shapedB, hl, Bool.false_eq_true, if_false]
  have hl' : (decide (n.seps.length = 0 ∧ n.kids.length = 0)) = false := hl
  have d16 : (P : Int) / 16 = ((P / 16 : Nat) : Int) := by omega
  have D16 := Lib.hid d16; clear d16
  have HR := Lib.hid hr; clear hr
  have HS := Lib.hid hs; clear hs
  have HL := Lib.hid hl'; clear hl hl'
  have hnp := ho.np
  have hns := ho.ns
  have hnk := ho.nk
  have H := Lib.hid h; have HO := Lib.hid ho; clear h ho
  by_cases h1 : 0 < n.pairs.length
  · have hf : Hid (shapedB P d n = false) := by show _ = _; rw [HS.out, show decide (n.pairs.length = 0) = false from decide_eq_false (by omega)]; rfl
    go_enter Tryz.func43, Tryz.ntmps43
    go_wp2_with fail
    refine (rleaf_any _ _ _ _ _ _ _ _ _ _).mono ?_
    rintro e w' ⟨rfl, bs1, m1, rfl⟩
    rw [HL.out]
    go_wp2_with fail
    go_ret
    rw [hf.out]
    exact ⟨rfl, by (try simp only [alloc_ext, drew_ext, drewN_ext, ext_ext]); exact ⟨_, _, rfl⟩⟩
  by_cases h2 : n.kids.length < 2
  · have hf : Hid (shapedB P d n = false) := by show _ = _; rw [HS.out, show decide (2 ≤ n.kids.length) = false from decide_eq_false (by omega)]; simp
    go_enter Tryz.func43, Tryz.ntmps43
    go_wp2_with fail
    refine (rleaf_any _ _ _ _ _ _ _ _ _ _).mono ?_
    rintro e w' ⟨rfl, bs1, m1, rfl⟩
    rw [HL.out]
    go_wp2_with fail
    go_ret
    rw [hf.out]
    exact ⟨rfl, by (try simp only [alloc_ext, drew_ext, drewN_ext, ext_ext]); exact ⟨_, _, rfl⟩⟩
  by_cases h3 : n.seps.length + 1 = n.kids.length
  case neg =>
    have hf : Hid (shapedB P d n = false) := by show _ = _; rw [HS.out, show decide (n.seps.length + 1 = n.kids.length) = false from decide_eq_false h3]; simp
    have hb : ((n.seps.length : Int) != (n.kids.length : Int) - 1) = true := by simp only [bne_iff_ne, ne_eq]; omega
    have H3 := Lib.hid h3; clear h3
    go_enter Tryz.func43, Tryz.ntmps43
    go_wp2_with fail
    refine (rleaf_any _ _ _ _ _ _ _ _ _ _).mono ?_
    rintro e w' ⟨rfl, bs1, m1, rfl⟩
    rw [HL.out]
    go_wp2_with fail
    go_ret
    rw [hf.out]
    exact ⟨rfl, by (try simp only [alloc_ext, drew_ext, drewN_ext, ext_ext]); exact ⟨_, _, rfl⟩⟩
  have hb : ((n.seps.length : Int) != (n.kids.length : Int) - 1) = false := by simp only [bne_eq_false_iff_eq]; omega
  have hs2 : shapedB P d n = (!(n.kids.any fun k => !fitB d k.sum) && risesFrom (P / 16) none n.seps) := by
    rw [HS.out, decide_eq_true (show n.pairs.length = 0 by omega), decide_eq_true (show 2 ≤ n.kids.length by omega), decide_eq_true h3]; rfl
  have HS2 := Lib.hid hs2; clear hs2
  have H3 := Lib.hid h3; clear h3
  obtain ⟨W0, hW0⟩ : ∃ W0, W0 = (w.alloc (.cells #[.int .i64 P, .int .i64 d] 23)).alloc (.cells #[.slice pa n.pairs.length pc, .slice sa n.seps.length sc, .slice ka n.kids.length kc] 28) := ⟨_, rfl⟩
  have kw : Kp [] w W0 := by rw [hW0]; exact ((Kp.refl [] w).alloc _).alloc _
  have b0 : Blk W0 w.heap.size 23 #[.int .i64 P, .int .i64 d] := by rw [hW0]; exact (Blk.new w _ _).alloc _
  have b1 : Blk W0 (w.heap.size + 1) 28 #[.slice pa n.pairs.length pc, .slice sa n.seps.length sc, .slice ka n.kids.length kc] := by
    rw [hW0]
    have h := Blk.new (w.alloc (.cells #[.int .i64 P, .int .i64 d] 23)) 28 #[.slice pa n.pairs.length pc, .slice sa n.seps.length sc, .slice ka n.kids.length kc]
    simpa using h
  have hz0 : W0.heap.size = w.heap.size + 2 := by rw [hW0]; simp
  have SK : Hid (∀ W : World, Kp [] W0 W → (W.cell? ⟨w.heap.size, 0, none⟩ = some (.int .i64 P) ∧ W.cell? ⟨w.heap.size, 1, none⟩ = some (.int .i64 d) ∧ W.cell? ⟨w.heap.size + 1, 1, none⟩ = some (.slice sa n.seps.length sc) ∧ W.cell? ⟨w.heap.size + 1, 2, none⟩ = some (.slice ka n.kids.length kc)) ∧ w.heap.size + 1 < W.heap.size) := Lib.hid (fun W k =>
    ⟨⟨(b0.kp k (by simp)).cell 0, (b0.kp k (by simp)).cell 1, (b1.kp k (by simp)).cell 1, (b1.kp k (by simp)).cell 2⟩, by have := k.size; omega⟩)
  have HK := Lib.hid (H.out.kp0 kw)
  have KW := Lib.hid kw
  have HW0 := Lib.hid hW0
  have hz1 : w.heap.size + 1 < W0.heap.size := by omega
  clear kw b0 b1 hW0 hz0
  go_enter Tryz.func43, Tryz.ntmps43
  go_wp2_with fail
  refine (rleaf_any _ _ _ _ _ _ _ _ _ _).mono ?_
  rintro e w' ⟨rfl, bs1, m1, rfl⟩
  rw [HL.out]
  go_wp2_with fail
  rw [← HW0.out]
  go_loopw [7] (fun i wr => ∃ (k : Nat), i = .int .i64 k ∧ k ≤ n.kids.length ∧ Hid (Kp [] W0 wr) ∧ Hid (∀ x ∈ n.kids.take k, fitB d x.sum = true)) (fun i _ => n.kids.length - (intOf i).toNat)
  case atStart => exact ⟨0, rfl, Nat.zero_le _, Lib.hid ((Kp.refl [] _).ext _ _), Lib.hid (fun x hx => by simp at hx)⟩
  case round =>
    obtain ⟨k, rfl, hk, KI, FT⟩ := hrel
    obtain ⟨⟨f0, f1, n1, n2⟩, z0⟩ := SK.out _ KI.out
    by_cases hlt : k < n.kids.length
    · obtain ⟨x, hx⟩ : ∃ x, n.kids[k]? = some x := ⟨_, List.getElem?_eq_getElem hlt⟩
      obtain ⟨b, o, rfl, hb, r1⟩ := HK.out.ks.kp KI.out (by simp) k x hx
      have r2 := row_sum r1
      have HX := Lib.hid hx
      clear hx r1
      cases hfit : fitB d x.sum
      · have RF : Hid (∀ W, Calls Tryz.prog 82 #[.int .i64 d, .agg x.sum.c] W (Rets (.bool false) W)) := Lib.hid (fun W => by have := rfits_any d x.sum W hd1 hd2; rwa [hfit] at this)
        have hf : Hid (shapedB P d n = false) := by
          show _ = _
          rw [HS2.out, show (n.kids.any fun k => !fitB d k.sum) = true from List.any_eq_true.2 ⟨x, List.mem_of_getElem? HX.out, by rw [hfit]; rfl⟩]
          rfl
        go_wp2_with fail
        refine wp_region_ext (by kernel_rfl) (by kernel_rfl) ?_
        repeat (go_big_quiet_step ((go_at_call 82; exact Calls.quiet_ext (RF.out _))))
        (refine wpQuiet_nil ?_; intro _ hw'; obtain ⟨⟨bsq, nq⟩, hw''⟩ := hw'; subst hw'')
        go_wp2_with fail
        go_ret
        rw [hf.out]
        exact ⟨rfl, Kp.to_ext (((KW.out.trans KI.out).ext _ _))⟩
      · have RF : Hid (∀ W, Calls Tryz.prog 82 #[.int .i64 d, .agg x.sum.c] W (Rets (.bool true) W)) := Lib.hid (fun W => by have := rfits_any d x.sum W hd1 hd2; rwa [hfit] at this)
        have F4 : Hid (∀ y ∈ n.kids.take (k + 1), fitB d y.sum = true) := Lib.hid (fun y hy => by
          rw [List.take_add_one, HX.out, List.mem_append] at hy
          rcases hy with hy | hy
          · exact FT.out y hy
          · simp at hy; subst hy; exact hfit)
        go_wp2_with fail
        refine wp_region_ext (by kernel_rfl) (by kernel_rfl) ?_
        repeat (go_big_quiet_step ((go_at_call 82; exact Calls.quiet_ext (RF.out _))))
        (refine wpQuiet_nil ?_; intro _ hw'; obtain ⟨⟨bsq, nq⟩, hw''⟩ := hw'; subst hw'')
        go_wp2_with fail
        go_roundw
        case rel => exact ⟨k + 1, by go_num, by omega, Lib.hid (KI.out.ext _ _), F4⟩
        case measure => simp [intOf]; omega
    · obtain rfl : k = n.kids.length := by omega
      have hres : shapedB P d n = risesFrom (P / 16) none n.seps := by
        have hn : (n.kids.any fun k => !fitB d k.sum) = false := by
          rw [List.any_eq_false]
          intro x hx
          have h := FT.out x (by rw [List.take_length]; exact hx)
          simp [h]
        rw [HS2.out, hn]; simp
      have HR2 := Lib.hid hres
      clear hres
      go_wp2_with fail
      rw [D16.out]
      refine (rkeys_any (P / 16) sa sc n.seps _ (by omega) (by omega) (fun x hx => HO.out.ss x hx) (HK.out.ss.kp KI.out (by simp))).mono ?_
      rintro e w' ⟨rfl, bs2, m2, rfl⟩
      rw [← HR2.out]
      go_wp2_with fail
      go_ret
      exact ⟨rfl, Kp.to_ext ((KW.out.trans KI.out).ext _ _)⟩

end Go.Proofs.YtemicgccgcmmbaaGreat

/- The document's Check. -/
namespace Go.Proofs.YtemicgccgcmmbaaGreat
set_option linter.unusedVariables false
set_option linter.unusedSimpArgs false
open Go Go.RowKit

set_option maxHeartbeats 1000000 in set_option maxRecDepth 100000 in
theorem rcheck_any (p wd : Int) (pa sa ka : Option Addr) (pc sc kc : Nat) (n : Nd) (w : World) (h : NdAt w pa sa ka n) (ho : NdOk n) :
    Calls Tryz.prog 15 #[.agg #[.int .i64 p, .int .i64 wd], .agg #[.slice pa n.pairs.length pc, .slice sa n.seps.length sc, .slice ka n.kids.length kc]] w (Rets (.int .i64 (checkE p wd n)) w) := by
  cases hr : rightB p wd
  · have : checkE p wd n = 2 := by simp [checkE, hr]
    rw [this]
    have HR := Lib.hid hr; clear hr this
    go_enter Tryz.func15, Tryz.ntmps15
    go_wp2_with fail
    refine (rright_any _ _ _).mono ?_
    rintro e w' ⟨rfl, bs, m, rfl⟩
    rw [HR.out]
    go_wp2_with fail
    go_ret
    exact ⟨rfl, by (try simp only [alloc_ext, drew_ext, drewN_ext, ext_ext]); exact ⟨_, _, rfl⟩⟩
  · obtain ⟨P, rfl⟩ := Int.eq_ofNat_of_zero_le (show 0 ≤ p by have := rightB_iff.1 hr; omega)
    obtain ⟨d, rfl⟩ := Int.eq_ofNat_of_zero_le (show 0 ≤ wd by have := rightB_iff.1 hr; omega)
    have hS : ∀ W, NdAt W pa sa ka n → Calls Tryz.prog 43 #[.agg #[.int .i64 (P : Int), .int .i64 (d : Int)], .agg #[.slice pa n.pairs.length pc, .slice sa n.seps.length sc, .slice ka n.kids.length kc]] W (Rets (.bool (shapedB P d n)) W) := by
      intro W hW
      cases hl : leafB n
      · exact rshaped_branch P d pa sa ka pc sc kc n W hr hl hW ho
      · exact rshaped_leaf P d pa sa ka pc sc kc n W hr hl hW ho
    have hc : checkE P d n = if shapedB P d n = true then 0 else 70 := by simp [checkE, hr]
    rw [hc]
    obtain ⟨s, hs⟩ : ∃ s, shapedB P d n = s := ⟨_, rfl⟩
    rw [hs] at hS ⊢
    have HS := Lib.hid hS
    have HR := Lib.hid hr
    have H := Lib.hid h
    clear hS hr hs hc h ho
    cases s
    · go_enter Tryz.func15, Tryz.ntmps15
      go_wp2_with fail
      refine (rright_any _ _ _).mono ?_
      rintro e w' ⟨rfl, bs, m, rfl⟩
      rw [HR.out]
      go_wp2_with fail
      refine (HS.out _ (H.out.kp0 ((((Kp.refl [] _).alloc _).alloc _).ext _ _))).mono ?_
      rintro e w' ⟨rfl, bs2, m2, rfl⟩
      go_wp2_with fail
      go_ret
      exact ⟨rfl, by (try simp only [alloc_ext, drew_ext, drewN_ext, ext_ext]); exact ⟨_, _, rfl⟩⟩
    · go_enter Tryz.func15, Tryz.ntmps15
      go_wp2_with fail
      refine (rright_any _ _ _).mono ?_
      rintro e w' ⟨rfl, bs, m, rfl⟩
      rw [HR.out]
      go_wp2_with fail
      refine (HS.out _ (H.out.kp0 ((((Kp.refl [] _).alloc _).alloc _).ext _ _))).mono ?_
      rintro e w' ⟨rfl, bs2, m2, rfl⟩
      go_wp2_with fail
      go_ret
      exact ⟨rfl, by (try simp only [alloc_ext, drew_ext, drewN_ext, ext_ext]); exact ⟨_, _, rfl⟩⟩

end Go.Proofs.YtemicgccgcmmbaaGreat

/- The document's Most and Size. -/
namespace Go.Proofs.YtemicgccgcmmbaaGreat
set_option linter.unusedVariables false
set_option linter.unusedSimpArgs false
open Go Go.RowKit

set_option maxHeartbeats 1000000 in set_option maxRecDepth 100000 in
theorem rmost_any (P : Nat) (wd : Int) (w : World) (h : P ≤ 8192) (h0 : 1024 ≤ P) : Calls Tryz.prog 36 #[.agg #[.int .i64 P, .int .i64 wd]] w (Rets (.int .i64 ((P - 32 : Nat) : Int)) w) := by
  have e : IntKind.i64.wrap ((P : Int) - 32) = ((P - 32 : Nat) : Int) := by rw [show ((P : Int) - 32) = ((P - 32 : Nat) : Int) by omega]; exact IntWalk.i64_in _ (by omega)
  have HE := Lib.hid e
  go_enter Tryz.func36, Tryz.ntmps36
  go_wp2_with fail
  go_ret
  exact ⟨ret_int (by omega), (by (try simp only [alloc_ext, drew_ext, drewN_ext, ext_ext]); exact ⟨_, _, rfl⟩)⟩

theorem free_len {t : Bs} (h : t.length ≤ 8192) : (freeB t.length).length ≤ 9 := by rw [freeB_length]; exact cntN_le9 _ (by omega)

set_option maxHeartbeats 1000000 in set_option maxRecDepth 100000 in
theorem rsize_leaf (P d : Nat) (pa sa ka : Option Addr) (pc sc kc : Nat) (n : Nd) (w : World) (hc : checkE P d n = 0) (hl : leafB n = true) (h : NdAt w pa sa ka n) (ho : NdOk n) :
    Calls Tryz.prog 33 #[.agg #[.int .i64 P, .int .i64 d], .agg #[.slice pa n.pairs.length pc, .slice sa n.seps.length sc, .slice ka n.kids.length kc]] w (Rets (.int .i64 (sizeN d n : Nat)) w) := by
  have hl' : (decide (n.seps.length = 0 ∧ n.kids.length = 0)) = true := hl
  have hs : sizeN d n = 1 + (freeB n.pairs.length).length + (n.pairs.map prN).sum := by unfold sizeN; rw [if_pos hl, freeB_length]
  have hnp := ho.np
  have hc9 : (freeB n.pairs.length).length ≤ 9 := by rw [freeB_length]; exact cntN_le9 n.pairs.length (by omega)
  have hw1 : IntKind.u64.wrap (n.pairs.length : Int) = n.pairs.length := by rw [IntKind.wrap_u64]; omega
  have HSM := Lib.hid (small_of hc)
  have HS := Lib.hid hs; have HL := Lib.hid hl'; have HC := Lib.hid hc
  have H := Lib.hid h; have HO := Lib.hid ho
  clear hs hl hl' h ho hc
  go_enter Tryz.func33, Tryz.ntmps33
  go_wp2_with fail
  refine (rcheck_any P d pa sa ka pc sc kc n _ (H.out.kp0 (((Kp.refl [] _).alloc _).alloc _)) HO.out).mono ?_
  rintro e w' ⟨rfl, bs0, m0, rfl⟩
  rw [HC.out]
  go_wp2_with fail
  refine (rleaf_any _ _ _ _ _ _ _ _ _ _).mono ?_
  rintro e w' ⟨rfl, bs1, m1, rfl⟩
  rw [HL.out]
  go_wp2_with fail
  refine (rfree_any n.pairs.length _ (by omega)).mono ?_
  rintro e w' ⟨rfl, bs2, m2, rfl⟩
  go_wp2_with fail
  go_loopw [5, 6, 7, 8] (fun x i _ _ wr => ∃ k z bs n', i = .int .i64 (k : Nat) ∧ k ≤ n.pairs.length ∧ x = .int .i64 (z : Nat) ∧ z ≤ 20 + k * 20000 ∧ Hid (z = 1 + (freeB n.pairs.length).length + ((n.pairs.take k).map prN).sum) ∧ wr = ext ((w.alloc (.cells #[.int .i64 P, .int .i64 d] 23)).alloc (.cells #[.slice pa n.pairs.length pc, .slice sa n.seps.length sc, .slice ka n.kids.length kc] 28)) bs n') (fun _ i _ _ _ => n.pairs.length - (intOf i).toNat)
  case atStart => exact ⟨0, 1 + (freeB n.pairs.length).length, _, _, rfl, by omega, by go_num, by omega, by show _ = _; simp, rfl⟩
  case round =>
    obtain ⟨k, z, bs, n', rfl, hk, rfl, hz, HZ, rfl⟩ := hrel
    by_cases hlt : k < n.pairs.length
    · obtain ⟨x, hx⟩ : ∃ x, n.pairs[k]? = some x := ⟨_, List.getElem?_eq_getElem hlt⟩
      obtain ⟨b, o, rfl, hb, cf1, cf2⟩ := H.out.ps k x hx
      obtain ⟨hx1, hx2⟩ := HSM.out.sp x (List.mem_of_getElem? hx)
      have hst := sum_take prN _ _ _ hx
      have hf1 := free_len hx1
      have hf2 := free_len hx2
      have hpr : prN x = (freeB x.1.length).length + x.1.length + ((freeB x.2.length).length + x.2.length) := by unfold prN txN; rw [freeB_length, freeB_length]
      have HX := Lib.hid hst; have HPR := Lib.hid hpr; clear hst hx hpr
      have g1 : IntKind.u64.wrap (x.1.length : Int) = x.1.length := by rw [IntKind.wrap_u64]; omega
      have g2 : IntKind.u64.wrap (x.2.length : Int) = x.2.length := by rw [IntKind.wrap_u64]; omega
      have e1 : IntKind.i64.wrap ((z : Int) + x.1.length) = z + x.1.length := IntWalk.i64_in _ (by omega)
      have e2 : IntKind.i64.wrap ((z : Int) + x.1.length + (freeB x.1.length).length) = z + x.1.length + (freeB x.1.length).length := IntWalk.i64_in _ (by omega)
      have e3 : IntKind.i64.wrap ((z : Int) + x.1.length + (freeB x.1.length).length + x.2.length) = z + x.1.length + (freeB x.1.length).length + x.2.length := IntWalk.i64_in _ (by omega)
      have e4 : IntKind.i64.wrap ((z : Int) + x.1.length + (freeB x.1.length).length + x.2.length + (freeB x.2.length).length) = z + x.1.length + (freeB x.1.length).length + x.2.length + (freeB x.2.length).length := IntWalk.i64_in _ (by omega)
      go_wp2_with fail
      refine (rfree_any x.1.length _ (by omega)).mono ?_
      rintro e w' ⟨rfl, bs5, m5, rfl⟩
      go_wp2_with fail
      refine (rfree_any x.2.length _ (by omega)).mono ?_
      rintro e w' ⟨rfl, bs6, m6, rfl⟩
      go_wp2_with fail
      go_roundw
      case rel => exact ⟨k + 1, z + prN x, _, _, by go_num, by omega, by rw [HPR.out]; simp only [Value.int.injEq, true_and]; omega, by rw [HPR.out]; omega, by show _ = _; rw [HX.out, HZ.out]; omega, (by (try simp only [alloc_ext, drew_ext, drewN_ext, ext_ext]); rfl)⟩
      case measure => simp [intOf]; omega
    · obtain rfl : k = n.pairs.length := by omega
      go_wp2_with fail
      go_ret
      exact ⟨ret_int (by rw [HS.out]; have h := HZ.out; rw [List.take_length] at h; omega), (by (try simp only [alloc_ext, drew_ext, drewN_ext, ext_ext]); exact ⟨_, _, rfl⟩)⟩

set_option maxHeartbeats 1000000 in set_option maxRecDepth 100000 in
theorem rsize_branch (P d : Nat) (pa sa ka : Option Addr) (pc sc kc : Nat) (n : Nd) (w : World) (hc : checkE P d n = 0) (hl : leafB n = false) (h : NdAt w pa sa ka n) (ho : NdOk n) :
    Calls Tryz.prog 33 #[.agg #[.int .i64 P, .int .i64 d], .agg #[.slice pa n.pairs.length pc, .slice sa n.seps.length sc, .slice ka n.kids.length kc]] w (Rets (.int .i64 (sizeN d n : Nat)) w) := by
  have hl' : (decide (n.seps.length = 0 ∧ n.kids.length = 0)) = false := hl
  have hs : sizeN d n = 1 + (freeB n.kids.length).length + n.kids.length * (4 + d) + (n.seps.map txN).sum := by unfold sizeN; rw [if_neg (by rw [hl]; simp), freeB_length]
  have hns := ho.ns
  have hnk := ho.nk
  have hd32 : d ≤ 32 := by have := (rightB_iff.1 (checkE_ok hc).1).2; omega
  have hc9 : (freeB n.kids.length).length ≤ 9 := by rw [freeB_length]; exact cntN_le9 n.kids.length (by omega)
  have hw1 : IntKind.u64.wrap (n.kids.length : Int) = n.kids.length := by rw [IntKind.wrap_u64]; omega
  obtain ⟨m0, hm0⟩ : ∃ m0, n.kids.length * (4 + d) = m0 := ⟨_, rfl⟩
  have hm1 : m0 ≤ n.kids.length * 36 := by rw [← hm0]; exact Nat.mul_le_mul_left _ (by omega)
  have hm2 : (n.kids.length : Int) * (4 + d) = m0 := by rw [← hm0]; simp
  have x1 : IntKind.i64.wrap (4 + (d : Int)) = 4 + d := IntWalk.i64_in _ (by omega)
  have x2 : IntKind.i64.wrap (m0 : Int) = m0 := IntWalk.i64_in _ (by omega)
  have x3 : IntKind.i64.wrap (1 + ((freeB n.kids.length).length : Int)) = 1 + (freeB n.kids.length).length := IntWalk.i64_in _ (by omega)
  have x4 : IntKind.i64.wrap (1 + ((freeB n.kids.length).length : Int) + m0) = 1 + (freeB n.kids.length).length + m0 := IntWalk.i64_in _ (by omega)
  rw [hm0] at hs
  have HSM := Lib.hid (small_of hc)
  have HS := Lib.hid hs; have HL := Lib.hid hl'; have HC := Lib.hid hc
  have H := Lib.hid h; have HO := Lib.hid ho
  clear hs hl hl' h ho hc hm0
  obtain ⟨W0, hW0⟩ : ∃ W0, W0 = (w.alloc (.cells #[.int .i64 P, .int .i64 d] 23)).alloc (.cells #[.slice pa n.pairs.length pc, .slice sa n.seps.length sc, .slice ka n.kids.length kc] 28) := ⟨_, rfl⟩
  have kw : Kp [] w W0 := by rw [hW0]; exact ((Kp.refl [] w).alloc _).alloc _
  have b0 : Blk W0 w.heap.size 23 #[.int .i64 P, .int .i64 d] := by rw [hW0]; exact (Blk.new w _ _).alloc _
  have b1 : Blk W0 (w.heap.size + 1) 28 #[.slice pa n.pairs.length pc, .slice sa n.seps.length sc, .slice ka n.kids.length kc] := by
    rw [hW0]
    have h := Blk.new (w.alloc (.cells #[.int .i64 P, .int .i64 d] 23)) 28 #[.slice pa n.pairs.length pc, .slice sa n.seps.length sc, .slice ka n.kids.length kc]
    simpa using h
  have hz0 : W0.heap.size = w.heap.size + 2 := by rw [hW0]; simp
  have SK : Hid (∀ W : World, Kp [] W0 W → (W.cell? ⟨w.heap.size, 0, none⟩ = some (.int .i64 P) ∧ W.cell? ⟨w.heap.size, 1, none⟩ = some (.int .i64 d) ∧ W.cell? ⟨w.heap.size + 1, 0, none⟩ = some (.slice pa n.pairs.length pc) ∧ W.cell? ⟨w.heap.size + 1, 1, none⟩ = some (.slice sa n.seps.length sc) ∧ W.cell? ⟨w.heap.size + 1, 2, none⟩ = some (.slice ka n.kids.length kc)) ∧ w.heap.size + 1 < W.heap.size) := Lib.hid (fun W k =>
    ⟨⟨(b0.kp k (by simp)).cell 0, (b0.kp k (by simp)).cell 1, (b1.kp k (by simp)).cell 0, (b1.kp k (by simp)).cell 1, (b1.kp k (by simp)).cell 2⟩, by have := k.size; omega⟩)
  have HK := Lib.hid (H.out.kp0 kw)
  have KW := Lib.hid kw
  have HW0 := Lib.hid hW0
  have hz1 : w.heap.size + 1 < W0.heap.size := by omega
  clear kw b0 b1 hW0 hz0
  go_enter Tryz.func33, Tryz.ntmps33
  go_wp2_with fail
  rw [← HW0.out]
  refine (rcheck_any P d pa sa ka pc sc kc n _ HK.out HO.out).mono ?_
  rintro e w1 ⟨rfl, hx1⟩
  have K1 : Hid (Kp [] W0 w1) := Lib.hid (by obtain ⟨bx, nx, rfl⟩ := hx1; exact (Kp.refl [] _).ext _ _)
  obtain ⟨⟨f0, f1, n0, n1, n2⟩, z0⟩ := SK.out _ K1.out
  clear hx1
  rw [HC.out]
  go_wp2_with fail
  refine (rleaf_any _ _ _ _ _ _ _ _ _ _).mono ?_
  rintro e w2 ⟨rfl, hx2⟩
  have K2 : Hid (Kp [] W0 w2) := Lib.hid (by obtain ⟨bx, nx, rfl⟩ := hx2; exact K1.out.ext _ _)
  clear hx2 f0 f1 n0 n1 n2 z0
  obtain ⟨⟨f0, f1, n0, n1, n2⟩, z0⟩ := SK.out _ K2.out
  rw [HL.out]
  go_wp2_with fail
  refine wp_region_ext (by kernel_rfl) (by kernel_rfl) ?_
  repeat (go_big_quiet_step ((go_at_call 61; exact Calls.quiet_ext (rfree_any n.kids.length _ (by omega)))))
  (refine wpQuiet_nil ?_; intro _ hw'; obtain ⟨⟨bsq, nq⟩, hw''⟩ := hw'; subst hw'')
  clear f0 f1 n0 n1 n2 z0
  go_wp2_with fail
  go_loopw [9, 10, 11] (fun x i _ wr => ∃ (k z : Nat), i = .int .i64 (k : Nat) ∧ k ≤ n.seps.length ∧ x = .int .i64 (z : Nat) ∧ z ≤ 20 + m0 + k * 20000 ∧ Hid (z = 1 + (freeB n.kids.length).length + m0 + ((n.seps.take k).map txN).sum) ∧ Hid (Kp [] W0 wr)) (fun _ i _ _ => n.seps.length - (intOf i).toNat)
  case atStart => exact ⟨0, 1 + (freeB n.kids.length).length + m0, rfl, by omega, by go_num, by omega, by show _ = _; simp, Lib.hid (K2.out.ext _ _)⟩
  case round =>
    obtain ⟨k, z, rfl, hk, rfl, hz, HZ, KI⟩ := hrel
    obtain ⟨⟨f0, f1, n0, n1, n2⟩, z0⟩ := SK.out _ KI.out
    by_cases hlt : k < n.seps.length
    · obtain ⟨x, hx⟩ : ∃ x, n.seps[k]? = some x := ⟨_, List.getElem?_eq_getElem hlt⟩
      obtain ⟨b, o, rfl, hb, cf1⟩ := HK.out.ss.kp KI.out (by simp) k x hx
      have hx1 := HSM.out.ss x (List.mem_of_getElem? hx)
      have hst := sum_take txN _ _ _ hx
      have hf1 := free_len hx1
      have hpr : txN x = (freeB x.length).length + x.length := by unfold txN; rw [freeB_length]
      have HX := Lib.hid hst; have HPR := Lib.hid hpr; clear hst hx hpr
      have g1 : IntKind.u64.wrap (x.length : Int) = x.length := by rw [IntKind.wrap_u64]; omega
      have e1 : IntKind.i64.wrap ((z : Int) + x.length) = z + x.length := IntWalk.i64_in _ (by omega)
      have e2 : IntKind.i64.wrap ((z : Int) + x.length + (freeB x.length).length) = z + x.length + (freeB x.length).length := IntWalk.i64_in _ (by omega)
      go_wp2_with fail
      refine (rfree_any x.length _ (by omega)).mono ?_
      rintro e w' ⟨rfl, bs5, m5, rfl⟩
      go_wp2_with fail
      go_roundw
      case rel => exact ⟨k + 1, z + txN x, by go_num, by omega, by rw [HPR.out]; simp only [Value.int.injEq, true_and]; omega, by rw [HPR.out]; omega, by show _ = _; rw [HX.out, HZ.out]; omega, Lib.hid (KI.out.ext _ _)⟩
      case measure => simp [intOf]; omega
    · obtain rfl : k = n.seps.length := by omega
      go_wp2_with fail
      go_ret
      exact ⟨ret_int (by rw [HS.out]; have h := HZ.out; rw [List.take_length] at h; omega), Kp.to_ext (KW.out.trans KI.out)⟩

set_option maxHeartbeats 1000000 in set_option maxRecDepth 100000 in
theorem rsize_any (p wd : Int) (pa sa ka : Option Addr) (pc sc kc : Nat) (n : Nd) (w : World) (h : NdAt w pa sa ka n) (ho : NdOk n) :
    Calls Tryz.prog 33 #[.agg #[.int .i64 p, .int .i64 wd], .agg #[.slice pa n.pairs.length pc, .slice sa n.seps.length sc, .slice ka n.kids.length kc]] w (Rets (.int .i64 (SizeE p wd n : Nat)) w) := by
  by_cases hc : checkE p wd n = 0
  · have hr := rightB_iff.1 (checkE_ok hc).1
    obtain ⟨P, rfl⟩ := Int.eq_ofNat_of_zero_le (show 0 ≤ p by omega)
    obtain ⟨d, rfl⟩ := Int.eq_ofNat_of_zero_le (show 0 ≤ wd by omega)
    have hs : SizeE P d n = sizeN d n := by unfold SizeE; rw [if_pos hc]; rfl
    rw [hs]
    cases hl : leafB n
    · exact rsize_branch P d pa sa ka pc sc kc n w hc hl h ho
    · exact rsize_leaf P d pa sa ka pc sc kc n w hc hl h ho
  · have hs : SizeE p wd n = 0 := by unfold SizeE; rw [if_neg hc]
    rw [hs]
    obtain ⟨c, hcc⟩ : ∃ c, checkE p wd n = c := ⟨_, rfl⟩
    rw [hcc] at hc
    have hb : (c != 0) = true := by simpa using hc
    have HC := Lib.hid hcc; have H := Lib.hid h; have HO := Lib.hid ho
    clear hs hc hcc h ho
    go_enter Tryz.func33, Tryz.ntmps33
    go_wp2_with fail
    refine (rcheck_any p wd pa sa ka pc sc kc n _ (H.out.kp0 (((Kp.refl [] _).alloc _).alloc _)) HO.out).mono ?_
    rintro e w' ⟨rfl, bs0, m0, rfl⟩
    rw [HC.out]
    go_wp2_with fail
    go_ret
    exact ⟨rfl, by (try simp only [alloc_ext, drew_ext, drewN_ext, ext_ext]); exact ⟨_, _, rfl⟩⟩

end Go.Proofs.YtemicgccgcmmbaaGreat

/- The document's form of a node. Printed by genrform.py. -/
namespace Go.Proofs.YtemicgccgcmmbaaGreat
set_option linter.unusedVariables false
set_option linter.unusedSimpArgs false
open Go Go.RowKit

@[go_sem] theorem str_app1 (k l : Bs) : (⟨k.toArray⟩ : ByteArray) ++ ⟨l.toArray⟩ = ⟨(k ++ l).toArray⟩ := str_app k l
@[go_sem] theorem str_cons1 (l : Bs) : (⟨#[1]⟩ : ByteArray) ++ ⟨l.toArray⟩ = ⟨(1 :: l).toArray⟩ := str_cons 1 l
@[go_sem] theorem str_cons2 (l : Bs) : (⟨#[2]⟩ : ByteArray) ++ ⟨l.toArray⟩ = ⟨(2 :: l).toArray⟩ := str_cons 2 l
theorem textB_le {t : Bs} (h : t.length ≤ 8192) : (textB t).length ≤ 8201 := by have := free_len h; unfold textB; simp; omega

set_option maxHeartbeats 1000000 in set_option maxRecDepth 100000 in
theorem rform_leaf (P d : Nat) (pages : Bool) (pa sa ka : Option Addr) (pc sc kc : Nat) (n : Nd) (w : World) (hc : checkE P d n = 0) (hl : leafB n = true) (h : NdAt w pa sa ka n) (ho : NdOk n) :
    Calls Tryz.prog 47 #[.agg #[.int .i64 P, .int .i64 d], .agg #[.slice pa n.pairs.length pc, .slice sa n.seps.length sc, .slice ka n.kids.length kc], .bool pages] w (Rets (.string ⟨(formB pages d n).toArray⟩) w) := by
  have hl' : (decide (n.seps.length = 0 ∧ n.kids.length = 0)) = true := hl
  have hs : formB pages d n = 1 :: (freeB n.pairs.length ++ pairsB n.pairs) := by unfold formB; rw [if_pos hl]
  have hnp := ho.np
  have hc9 : (freeB n.pairs.length).length ≤ 9 := by rw [freeB_length]; exact cntN_le9 n.pairs.length (by omega)
  have hw1 : IntKind.u64.wrap (n.pairs.length : Int) = n.pairs.length := by rw [IntKind.wrap_u64]; omega
  have hl9 : ¬ 9223372036854775807 < 1 + List.length (freeB n.pairs.length) := by omega
  have HSM := Lib.hid (small_of hc)
  have HS := Lib.hid hs; have HL := Lib.hid hl'
  have H := Lib.hid h
  clear hs hl hl' h ho hc
  obtain ⟨W0, hW0⟩ : ∃ W0, W0 = (w.alloc (.cells #[.int .i64 P, .int .i64 d] 23)).alloc (.cells #[.slice pa n.pairs.length pc, .slice sa n.seps.length sc, .slice ka n.kids.length kc] 28) := ⟨_, rfl⟩
  have kw : Kp [] w W0 := by rw [hW0]; exact ((Kp.refl [] w).alloc _).alloc _
  have b0 : Blk W0 w.heap.size 23 #[.int .i64 P, .int .i64 d] := by rw [hW0]; exact (Blk.new w _ _).alloc _
  have b1 : Blk W0 (w.heap.size + 1) 28 #[.slice pa n.pairs.length pc, .slice sa n.seps.length sc, .slice ka n.kids.length kc] := by
    rw [hW0]
    have h := Blk.new (w.alloc (.cells #[.int .i64 P, .int .i64 d] 23)) 28 #[.slice pa n.pairs.length pc, .slice sa n.seps.length sc, .slice ka n.kids.length kc]
    simpa using h
  have hz0 : W0.heap.size = w.heap.size + 2 := by rw [hW0]; simp
  have SK : Hid (∀ W : World, Kp [] W0 W → (W.cell? ⟨w.heap.size, 0, none⟩ = some (.int .i64 P) ∧ W.cell? ⟨w.heap.size, 1, none⟩ = some (.int .i64 d) ∧ W.cell? ⟨w.heap.size + 1, 0, none⟩ = some (.slice pa n.pairs.length pc) ∧ W.cell? ⟨w.heap.size + 1, 1, none⟩ = some (.slice sa n.seps.length sc) ∧ W.cell? ⟨w.heap.size + 1, 2, none⟩ = some (.slice ka n.kids.length kc)) ∧ w.heap.size + 1 < W.heap.size) := Lib.hid (fun W k =>
    ⟨⟨(b0.kp k (by simp)).cell 0, (b0.kp k (by simp)).cell 1, (b1.kp k (by simp)).cell 0, (b1.kp k (by simp)).cell 1, (b1.kp k (by simp)).cell 2⟩, by have := k.size; omega⟩)
  have HK := Lib.hid (H.out.kp0 kw)
  have KW := Lib.hid kw
  have HW0 := Lib.hid hW0
  have hz1 : w.heap.size + 1 < W0.heap.size := by omega
  clear kw b0 b1 hW0 hz0
  go_enter Tryz.func47, Tryz.ntmps47
  go_wp2_with fail
  rw [← HW0.out]
  refine (rleaf_any _ _ _ _ _ _ _ _ _ _).mono ?_
  rintro e w1 ⟨rfl, hx1⟩
  have K1 : Hid (Kp [] W0 w1) := Lib.hid (by obtain ⟨bx, nx, rfl⟩ := hx1; exact (Kp.refl [] _).ext _ _)
  obtain ⟨⟨f0, f1, n0, n1, n2⟩, z0⟩ := SK.out _ K1.out
  clear hx1
  rw [HL.out]
  go_wp2_with fail
  refine (rfree_any n.pairs.length _ (by omega)).mono ?_
  rintro e w2 ⟨rfl, hx2⟩
  have K2 : Hid (Kp [] W0 w2) := Lib.hid (by obtain ⟨bx, nx, rfl⟩ := hx2; exact K1.out.ext _ _)
  clear hx2 f0 f1 n0 n1 n2 z0
  go_wp2_with fail
  go_loopw [7, 8] (fun x i wr => ∃ (k : Nat) (s : Bs), i = .int .i64 (k : Nat) ∧ k ≤ n.pairs.length ∧ x = .string ⟨s.toArray⟩ ∧ s.length ≤ 20 + k * 20000 ∧ Hid (s = 1 :: (freeB n.pairs.length ++ pairsB (n.pairs.take k))) ∧ Hid (Kp [] W0 wr)) (fun _ i _ => n.pairs.length - (intOf i).toNat)
  case atStart => exact ⟨0, 1 :: freeB n.pairs.length, rfl, by omega, rfl, by simp; omega, by simp [Hid, pairsB], K2⟩
  case round =>
    obtain ⟨k, s, rfl, hk, rfl, hsl, HSS, KI⟩ := hrel
    obtain ⟨⟨f0, f1, n0, n1, n2⟩, z0⟩ := SK.out _ KI.out
    by_cases hlt : k < n.pairs.length
    · obtain ⟨x, hx⟩ : ∃ x, n.pairs[k]? = some x := ⟨_, List.getElem?_eq_getElem hlt⟩
      obtain ⟨b, o, rfl, hb, cf1, cf2⟩ := HK.out.ps.kp KI.out (by simp) k x hx
      obtain ⟨hx1, hx2⟩ := HSM.out.sp x (List.mem_of_getElem? hx)
      have ht := pairsB_take _ _ _ hx
      obtain ⟨T, hT⟩ : ∃ T, textB x.1 = T := ⟨_, rfl⟩
      obtain ⟨V, hV⟩ : ∃ V, textB x.2 = V := ⟨_, rfl⟩
      have hT1 : T.length ≤ 8201 := by rw [← hT]; exact textB_le hx1
      have hV1 : V.length ≤ 8201 := by rw [← hV]; exact textB_le hx2
      have RT : Hid (∀ W, Calls Tryz.prog 95 #[.string ⟨x.1.toArray⟩] W (Rets (.string ⟨T.toArray⟩) W)) := Lib.hid (fun W => by rw [← hT]; exact rtx_any x.1 W (by omega))
      have RV : Hid (∀ W, Calls Tryz.prog 95 #[.string ⟨x.2.toArray⟩] W (Rets (.string ⟨V.toArray⟩) W)) := Lib.hid (fun W => by rw [← hV]; exact rtx_any x.2 W (by omega))
      have l1 : ¬ 9223372036854775807 < s.length + T.length := by omega
      have l2 : ¬ 9223372036854775807 < s.length + T.length + V.length := by omega
      have HN : Hid (s ++ T ++ V = 1 :: (freeB n.pairs.length ++ pairsB (n.pairs.take (k + 1)))) := Lib.hid (by
        rw [ht, HSS.out]; unfold pairB; rw [hT, hV]; simp)
      clear hT hV ht hx
      go_wp2_with fail
      refine wp_region_ext (by kernel_rfl) (by kernel_rfl) ?_
      repeat (go_big_quiet_step ((go_at_call 95; first | with_reducible exact Calls.quiet_ext (RT.out _) | with_reducible exact Calls.quiet_ext (RV.out _) | exact Calls.quiet_ext (RT.out _) | exact Calls.quiet_ext (RV.out _))))
      (refine wpQuiet_nil ?_; intro _ hw'; obtain ⟨⟨bsq, nq⟩, hw''⟩ := hw'; subst hw'')
      go_wp2_with fail
      go_roundw
      case rel => exact ⟨k + 1, s ++ T ++ V, by go_num, by omega, by simp, by simp; omega, HN, Lib.hid (KI.out.ext _ _)⟩
      case measure => simp [intOf]; omega
    · obtain rfl : k = n.pairs.length := by omega
      go_wp2_with fail
      go_ret
      exact ⟨by rw [HS.out]; have h := HSS.out; rw [List.take_length] at h; rw [← h]; rfl, Kp.to_ext (KW.out.trans KI.out)⟩

/-- A kid's page, in a row of kids. -/
theorem row_page {w : World} {b o : Nat} {k : Kd} (h : rowAt? w ⟨b, o, none⟩ 33 = some k.c) : w.cell? ⟨b, o, none⟩ = some (.int .u32 (k.page : Int)) := by
  have h2 := (rowAt?_cell h).2 0 _ (Kd.get0 k)
  rwa [show (⟨b, o, none⟩ : Addr).add 0 = ⟨b, o, none⟩ by simp [Addr.add]] at h2

set_option maxHeartbeats 2000000 in
set_option maxRecDepth 100000 in
theorem rform_branch_true (P d : Nat) (pa sa ka : Option Addr) (pc sc kc : Nat) (n : Nd) (w : World) (hc : checkE P d n = 0) (hl : leafB n = false) (h : NdAt w pa sa ka n) (ho : NdOk n) :
    Calls Tryz.prog 47 #[.agg #[.int .i64 P, .int .i64 d], .agg #[.slice pa n.pairs.length pc, .slice sa n.seps.length sc, .slice ka n.kids.length kc], .bool true] w (Rets (.string ⟨(formB true d n).toArray⟩) w) := by
  have hl' : (decide (n.seps.length = 0 ∧ n.kids.length = 0)) = false := hl
  have hs : formB true d n = 2 :: (freeB n.kids.length ++ kidsB true d n n.kids.length) := by unfold formB; rw [if_neg (by rw [hl]; simp)]
  have hns := ho.ns
  have hnk := ho.nk
  have hd32 : d ≤ 32 := by have := (rightB_iff.1 (checkE_ok hc).1).2; omega
  have hsk : n.seps.length + 1 = n.kids.length := shaped_kids (checkE_ok hc).2 hl
  have hc9 : (freeB n.kids.length).length ≤ 9 := by rw [freeB_length]; exact cntN_le9 n.kids.length (by omega)
  have hw1 : IntKind.u64.wrap (n.kids.length : Int) = n.kids.length := by rw [IntKind.wrap_u64]; omega
  have hl9 : ¬ 9223372036854775807 < 1 + List.length (freeB n.kids.length) := by omega
  have HSM := Lib.hid (small_of hc)
  have HS := Lib.hid hs; have HL := Lib.hid hl'
  have H := Lib.hid h; have HO := Lib.hid ho
  clear hs hl hl' h ho hc
  obtain ⟨W0, hW0⟩ : ∃ W0, W0 = (w.alloc (.cells #[.int .i64 P, .int .i64 d] 23)).alloc (.cells #[.slice pa n.pairs.length pc, .slice sa n.seps.length sc, .slice ka n.kids.length kc] 28) := ⟨_, rfl⟩
  have kw : Kp [] w W0 := by rw [hW0]; exact ((Kp.refl [] w).alloc _).alloc _
  have b0 : Blk W0 w.heap.size 23 #[.int .i64 P, .int .i64 d] := by rw [hW0]; exact (Blk.new w _ _).alloc _
  have b1 : Blk W0 (w.heap.size + 1) 28 #[.slice pa n.pairs.length pc, .slice sa n.seps.length sc, .slice ka n.kids.length kc] := by
    rw [hW0]
    have h := Blk.new (w.alloc (.cells #[.int .i64 P, .int .i64 d] 23)) 28 #[.slice pa n.pairs.length pc, .slice sa n.seps.length sc, .slice ka n.kids.length kc]
    simpa using h
  have hz0 : W0.heap.size = w.heap.size + 2 := by rw [hW0]; simp
  have SK : Hid (∀ W : World, Kp [] W0 W → (W.cell? ⟨w.heap.size, 0, none⟩ = some (.int .i64 P) ∧ W.cell? ⟨w.heap.size, 1, none⟩ = some (.int .i64 d) ∧ W.cell? ⟨w.heap.size + 1, 0, none⟩ = some (.slice pa n.pairs.length pc) ∧ W.cell? ⟨w.heap.size + 1, 1, none⟩ = some (.slice sa n.seps.length sc) ∧ W.cell? ⟨w.heap.size + 1, 2, none⟩ = some (.slice ka n.kids.length kc)) ∧ w.heap.size + 1 < W.heap.size) := Lib.hid (fun W k =>
    ⟨⟨(b0.kp k (by simp)).cell 0, (b0.kp k (by simp)).cell 1, (b1.kp k (by simp)).cell 0, (b1.kp k (by simp)).cell 1, (b1.kp k (by simp)).cell 2⟩, by have := k.size; omega⟩)
  have HK := Lib.hid (H.out.kp0 kw)
  have KW := Lib.hid kw
  have HW0 := Lib.hid hW0
  have hz1 : w.heap.size + 1 < W0.heap.size := by omega
  clear kw b0 b1 hW0 hz0
  go_enter Tryz.func47, Tryz.ntmps47
  go_wp2_with fail
  rw [← HW0.out]
  refine (rleaf_any _ _ _ _ _ _ _ _ _ _).mono ?_
  rintro e w1 ⟨rfl, hx1⟩
  have K1 : Hid (Kp [] W0 w1) := Lib.hid (by obtain ⟨bx, nx, rfl⟩ := hx1; exact (Kp.refl [] _).ext _ _)
  obtain ⟨⟨f0, f1, n0, n1, n2⟩, z0⟩ := SK.out _ K1.out
  clear hx1
  rw [HL.out]
  go_wp2_with fail
  refine (rfree_any n.kids.length _ (by omega)).mono ?_
  rintro e w2 ⟨rfl, hx2⟩
  have K2 : Hid (Kp [] W0 w2) := Lib.hid (by obtain ⟨bx, nx, rfl⟩ := hx2; exact K1.out.ext _ _)
  clear hx2 f0 f1 n0 n1 n2 z0
  go_wp2_with fail
  go_loopw [9, 10] (fun x i wr => ∃ (k : Nat) (s : Bs), i = .int .i64 (k : Nat) ∧ k ≤ n.kids.length ∧ x = .string ⟨s.toArray⟩ ∧ s.length ≤ 20 + k * 20000 ∧ Hid (s = 2 :: (freeB n.kids.length ++ kidsB true d n k)) ∧ Hid (Kp [] W0 wr)) (fun _ i _ => n.kids.length - (intOf i).toNat)
  case atStart => exact ⟨0, 2 :: freeB n.kids.length, rfl, by omega, rfl, by simp; omega, by simp [Hid, kidsB], K2⟩
  case round =>
    obtain ⟨k, s, rfl, hk, rfl, hsl, HSS, KI⟩ := hrel
    by_cases hlt : k < n.kids.length
    · obtain ⟨x, hx⟩ : ∃ x, n.kids[k]? = some x := ⟨_, List.getElem?_eq_getElem hlt⟩
      have HX := Lib.hid hx
      clear hx
      cases k with
      | zero =>
        have KC : Hid (Kp [] W0 wr) := KI
        obtain ⟨⟨f0, f1, n0, n1, n2⟩, z0⟩ := SK.out _ KC.out
        obtain ⟨b, o, he, hb, r1⟩ := HK.out.ks.kp KC.out (by simp) _ x HX.out
        simp only [Nat.zero_mul, Nat.add_zero] at r1
        have r2 := row_sum r1
        have r3 := row_page r1
        subst he
        have hpg := HO.out.pg x (List.mem_of_getElem? HX.out)
        have u1 : IntKind.u64.wrap (x.page : Int) = (x.page : Int) := by rw [IntKind.wrap_u64]; omega
        obtain ⟨F, hF⟩ : ∃ F, fixB 4 x.page = F := ⟨_, rfl⟩
        have hF1 : F.length = 4 := by rw [← hF, fixB_len]
        have l2 : ¬ 9223372036854775807 < s.length + F.length := by omega
        have HF := Lib.hid hF
        clear hF
        go_wp2_with fail
        refine (rfixed_any 4 x.page _ (by omega) (by omega)).mono ?_
        rw [HF.out]
        rintro e w6 ⟨rfl, hx6⟩
        have K6 : Hid (Kp [] W0 w6) := Lib.hid (by obtain ⟨bx, nx, rfl⟩ := hx6; exact KC.out.ext _ _)
        clear hx6 KC f0 f1 n0 n1 n2 z0 hb r1 r2 r3
        have KC := K6
        obtain ⟨⟨f0, f1, n0, n1, n2⟩, z0⟩ := SK.out _ KC.out
        obtain ⟨b3, o3, he3, hb, r1⟩ := HK.out.ks.kp KC.out (by simp) _ x HX.out
        simp only [Nat.zero_mul, Nat.add_zero] at r1
        obtain ⟨rfl, rfl⟩ : b3 = _ ∧ o3 = _ := (by simp only [Option.some.injEq, Addr.mk.injEq] at he3; exact ⟨he3.1.symm, he3.2.1.symm⟩)
        have r2 := row_sum r1
        have r3 := row_page r1
        obtain ⟨D, hD⟩ : ∃ D, x.sum.l.take d = D := ⟨_, rfl⟩
        have hD1 : D.length ≤ 32 := by rw [← hD, List.length_take]; omega
        have l3 : ¬ 9223372036854775807 < s.length + F.length + D.length := by omega
        have RD : Hid (∀ W, Calls Tryz.prog 97 #[.int .i64 d, .agg x.sum.c] W (Rets (.string ⟨D.toArray⟩) W)) := Lib.hid (fun W => by rw [← hD]; exact rdg_any d x.sum W hd32)
        have HN : Hid (s ++ F ++ D = 2 :: (freeB n.kids.length ++ kidsB true d n (0 + 1))) := Lib.hid (by
          rw [kidsB_succ _ _ _ _ _ HX.out, ← List.append_assoc, ← List.cons_append, ← HSS.out]
          unfold kidB
          rw [if_neg (Nat.lt_irrefl 0)]
          simp [HF.out, hD])
        clear hD
        go_wp2_with fail
        refine wp_region_ext (by kernel_rfl) (by kernel_rfl) ?_
        repeat (go_big_quiet_step ((go_at_call 97; exact Calls.quiet_ext (RD.out _))))
        (refine wpQuiet_nil ?_; intro _ hw'; obtain ⟨⟨bsq, nq⟩, hw''⟩ := hw'; subst hw'')
        go_wp2_with fail
        go_roundw
        case rel => exact ⟨0 + 1, s ++ F ++ D, by go_num, by omega, by simp, by simp; omega, HN, Lib.hid (KC.out.ext _ _)⟩
        case measure => simp [intOf]; omega
      | succ j =>
        have KC : Hid (Kp [] W0 wr) := KI
        obtain ⟨⟨f0, f1, n0, n1, n2⟩, z0⟩ := SK.out _ KC.out
        obtain ⟨b, o, he, hb, r1⟩ := HK.out.ks.kp KC.out (by simp) _ x HX.out
        skip
        have r2 := row_sum r1
        have r3 := row_page r1
        subst he
        obtain ⟨t, ht⟩ : ∃ t, n.seps[j]? = some t := ⟨_, List.getElem?_eq_getElem (by omega)⟩
        obtain ⟨b', o', rfl, hb', s1⟩ := HK.out.ss.kp KC.out (by simp) j t ht
        have htl := HSM.out.ss t (List.mem_of_getElem? ht)
        have hi : IntKind.i64.wrap ((j : Int) + 1 - 1) = (j : Int) := by rw [show (j : Int) + 1 - 1 = j by omega]; exact IntWalk.i64_in _ (by omega)
        have hgd : n.seps.getD (j + 1 - 1) [] = t := by simp [List.getD, ht]
        obtain ⟨T, hT⟩ : ∃ T, textB t = T := ⟨_, rfl⟩
        have hT1 : T.length ≤ 8201 := by rw [← hT]; exact textB_le htl
        have l1 : ¬ 9223372036854775807 < s.length + T.length := by omega
        have HT := Lib.hid hT; have HGD := Lib.hid hgd
        clear hT ht hgd
        go_wp2_with fail
        refine (rtx_any t _ (by omega)).mono ?_
        rw [HT.out]
        rintro e w5 ⟨rfl, hx5⟩
        have K5 : Hid (Kp [] W0 w5) := Lib.hid (by obtain ⟨bx, nx, rfl⟩ := hx5; exact KC.out.ext _ _)
        clear hx5 KC f0 f1 n0 n1 n2 z0 hb r1 r2 r3 hb' s1
        have KC := K5
        obtain ⟨⟨f0, f1, n0, n1, n2⟩, z0⟩ := SK.out _ KC.out
        obtain ⟨b2, o2, he2, hb, r1⟩ := HK.out.ks.kp KC.out (by simp) _ x HX.out
        skip
        obtain ⟨rfl, rfl⟩ : b2 = b ∧ o2 = o := (by simp only [Option.some.injEq, Addr.mk.injEq] at he2; exact ⟨he2.1.symm, he2.2.1.symm⟩)
        have r2 := row_sum r1
        have r3 := row_page r1
        have hpg := HO.out.pg x (List.mem_of_getElem? HX.out)
        have u1 : IntKind.u64.wrap (x.page : Int) = (x.page : Int) := by rw [IntKind.wrap_u64]; omega
        obtain ⟨F, hF⟩ : ∃ F, fixB 4 x.page = F := ⟨_, rfl⟩
        have hF1 : F.length = 4 := by rw [← hF, fixB_len]
        have l2 : ¬ 9223372036854775807 < s.length + T.length + F.length := by omega
        have HF := Lib.hid hF
        clear hF
        go_wp2_with fail
        refine (rfixed_any 4 x.page _ (by omega) (by omega)).mono ?_
        rw [HF.out]
        rintro e w6 ⟨rfl, hx6⟩
        have K6 : Hid (Kp [] W0 w6) := Lib.hid (by obtain ⟨bx, nx, rfl⟩ := hx6; exact KC.out.ext _ _)
        clear hx6 KC f0 f1 n0 n1 n2 z0 hb r1 r2 r3
        have KC := K6
        obtain ⟨⟨f0, f1, n0, n1, n2⟩, z0⟩ := SK.out _ KC.out
        obtain ⟨b3, o3, he3, hb, r1⟩ := HK.out.ks.kp KC.out (by simp) _ x HX.out
        skip
        obtain ⟨rfl, rfl⟩ : b3 = _ ∧ o3 = _ := (by simp only [Option.some.injEq, Addr.mk.injEq] at he3; exact ⟨he3.1.symm, he3.2.1.symm⟩)
        have r2 := row_sum r1
        have r3 := row_page r1
        obtain ⟨D, hD⟩ : ∃ D, x.sum.l.take d = D := ⟨_, rfl⟩
        have hD1 : D.length ≤ 32 := by rw [← hD, List.length_take]; omega
        have l3 : ¬ 9223372036854775807 < s.length + T.length + F.length + D.length := by omega
        have RD : Hid (∀ W, Calls Tryz.prog 97 #[.int .i64 d, .agg x.sum.c] W (Rets (.string ⟨D.toArray⟩) W)) := Lib.hid (fun W => by rw [← hD]; exact rdg_any d x.sum W hd32)
        have HN : Hid (s ++ T ++ F ++ D = 2 :: (freeB n.kids.length ++ kidsB true d n ((j + 1) + 1))) := Lib.hid (by
          rw [kidsB_succ _ _ _ _ _ HX.out, ← List.append_assoc, ← List.cons_append, ← HSS.out]
          unfold kidB
          rw [if_pos (Nat.succ_pos j), HGD.out, HT.out]
          simp [HF.out, hD])
        clear hD
        go_wp2_with fail
        refine wp_region_ext (by kernel_rfl) (by kernel_rfl) ?_
        repeat (go_big_quiet_step ((go_at_call 97; exact Calls.quiet_ext (RD.out _))))
        (refine wpQuiet_nil ?_; intro _ hw'; obtain ⟨⟨bsq, nq⟩, hw''⟩ := hw'; subst hw'')
        go_wp2_with fail
        go_roundw
        case rel => exact ⟨(j + 1) + 1, s ++ T ++ F ++ D, by go_num, by omega, by simp, by simp; omega, HN, Lib.hid (KC.out.ext _ _)⟩
        case measure => simp [intOf]; omega
    · obtain rfl : k = n.kids.length := by omega
      obtain ⟨⟨f0, f1, n0, n1, n2⟩, z0⟩ := SK.out _ KI.out
      go_wp2_with fail
      go_ret
      exact ⟨by rw [HS.out, ← HSS.out]; rfl, Kp.to_ext (KW.out.trans KI.out)⟩

set_option maxHeartbeats 2000000 in
set_option maxRecDepth 100000 in
theorem rform_branch_false (P d : Nat) (pa sa ka : Option Addr) (pc sc kc : Nat) (n : Nd) (w : World) (hc : checkE P d n = 0) (hl : leafB n = false) (h : NdAt w pa sa ka n) (ho : NdOk n) :
    Calls Tryz.prog 47 #[.agg #[.int .i64 P, .int .i64 d], .agg #[.slice pa n.pairs.length pc, .slice sa n.seps.length sc, .slice ka n.kids.length kc], .bool false] w (Rets (.string ⟨(formB false d n).toArray⟩) w) := by
  have hl' : (decide (n.seps.length = 0 ∧ n.kids.length = 0)) = false := hl
  have hs : formB false d n = 2 :: (freeB n.kids.length ++ kidsB false d n n.kids.length) := by unfold formB; rw [if_neg (by rw [hl]; simp)]
  have hns := ho.ns
  have hnk := ho.nk
  have hd32 : d ≤ 32 := by have := (rightB_iff.1 (checkE_ok hc).1).2; omega
  have hsk : n.seps.length + 1 = n.kids.length := shaped_kids (checkE_ok hc).2 hl
  have hc9 : (freeB n.kids.length).length ≤ 9 := by rw [freeB_length]; exact cntN_le9 n.kids.length (by omega)
  have hw1 : IntKind.u64.wrap (n.kids.length : Int) = n.kids.length := by rw [IntKind.wrap_u64]; omega
  have hl9 : ¬ 9223372036854775807 < 1 + List.length (freeB n.kids.length) := by omega
  have HSM := Lib.hid (small_of hc)
  have HS := Lib.hid hs; have HL := Lib.hid hl'
  have H := Lib.hid h; have HO := Lib.hid ho
  clear hs hl hl' h ho hc
  obtain ⟨W0, hW0⟩ : ∃ W0, W0 = (w.alloc (.cells #[.int .i64 P, .int .i64 d] 23)).alloc (.cells #[.slice pa n.pairs.length pc, .slice sa n.seps.length sc, .slice ka n.kids.length kc] 28) := ⟨_, rfl⟩
  have kw : Kp [] w W0 := by rw [hW0]; exact ((Kp.refl [] w).alloc _).alloc _
  have b0 : Blk W0 w.heap.size 23 #[.int .i64 P, .int .i64 d] := by rw [hW0]; exact (Blk.new w _ _).alloc _
  have b1 : Blk W0 (w.heap.size + 1) 28 #[.slice pa n.pairs.length pc, .slice sa n.seps.length sc, .slice ka n.kids.length kc] := by
    rw [hW0]
    have h := Blk.new (w.alloc (.cells #[.int .i64 P, .int .i64 d] 23)) 28 #[.slice pa n.pairs.length pc, .slice sa n.seps.length sc, .slice ka n.kids.length kc]
    simpa using h
  have hz0 : W0.heap.size = w.heap.size + 2 := by rw [hW0]; simp
  have SK : Hid (∀ W : World, Kp [] W0 W → (W.cell? ⟨w.heap.size, 0, none⟩ = some (.int .i64 P) ∧ W.cell? ⟨w.heap.size, 1, none⟩ = some (.int .i64 d) ∧ W.cell? ⟨w.heap.size + 1, 0, none⟩ = some (.slice pa n.pairs.length pc) ∧ W.cell? ⟨w.heap.size + 1, 1, none⟩ = some (.slice sa n.seps.length sc) ∧ W.cell? ⟨w.heap.size + 1, 2, none⟩ = some (.slice ka n.kids.length kc)) ∧ w.heap.size + 1 < W.heap.size) := Lib.hid (fun W k =>
    ⟨⟨(b0.kp k (by simp)).cell 0, (b0.kp k (by simp)).cell 1, (b1.kp k (by simp)).cell 0, (b1.kp k (by simp)).cell 1, (b1.kp k (by simp)).cell 2⟩, by have := k.size; omega⟩)
  have HK := Lib.hid (H.out.kp0 kw)
  have KW := Lib.hid kw
  have HW0 := Lib.hid hW0
  have hz1 : w.heap.size + 1 < W0.heap.size := by omega
  clear kw b0 b1 hW0 hz0
  go_enter Tryz.func47, Tryz.ntmps47
  go_wp2_with fail
  rw [← HW0.out]
  refine (rleaf_any _ _ _ _ _ _ _ _ _ _).mono ?_
  rintro e w1 ⟨rfl, hx1⟩
  have K1 : Hid (Kp [] W0 w1) := Lib.hid (by obtain ⟨bx, nx, rfl⟩ := hx1; exact (Kp.refl [] _).ext _ _)
  obtain ⟨⟨f0, f1, n0, n1, n2⟩, z0⟩ := SK.out _ K1.out
  clear hx1
  rw [HL.out]
  go_wp2_with fail
  refine (rfree_any n.kids.length _ (by omega)).mono ?_
  rintro e w2 ⟨rfl, hx2⟩
  have K2 : Hid (Kp [] W0 w2) := Lib.hid (by obtain ⟨bx, nx, rfl⟩ := hx2; exact K1.out.ext _ _)
  clear hx2 f0 f1 n0 n1 n2 z0
  go_wp2_with fail
  go_loopw [9, 10] (fun x i wr => ∃ (k : Nat) (s : Bs), i = .int .i64 (k : Nat) ∧ k ≤ n.kids.length ∧ x = .string ⟨s.toArray⟩ ∧ s.length ≤ 20 + k * 20000 ∧ Hid (s = 2 :: (freeB n.kids.length ++ kidsB false d n k)) ∧ Hid (Kp [] W0 wr)) (fun _ i _ => n.kids.length - (intOf i).toNat)
  case atStart => exact ⟨0, 2 :: freeB n.kids.length, rfl, by omega, rfl, by simp; omega, by simp [Hid, kidsB], K2⟩
  case round =>
    obtain ⟨k, s, rfl, hk, rfl, hsl, HSS, KI⟩ := hrel
    by_cases hlt : k < n.kids.length
    · obtain ⟨x, hx⟩ : ∃ x, n.kids[k]? = some x := ⟨_, List.getElem?_eq_getElem hlt⟩
      have HX := Lib.hid hx
      clear hx
      cases k with
      | zero =>
        have KC : Hid (Kp [] W0 wr) := KI
        obtain ⟨⟨f0, f1, n0, n1, n2⟩, z0⟩ := SK.out _ KC.out
        obtain ⟨b, o, he, hb, r1⟩ := HK.out.ks.kp KC.out (by simp) _ x HX.out
        simp only [Nat.zero_mul, Nat.add_zero] at r1
        have r2 := row_sum r1
        have r3 := row_page r1
        subst he
        obtain ⟨D, hD⟩ : ∃ D, x.sum.l.take d = D := ⟨_, rfl⟩
        have hD1 : D.length ≤ 32 := by rw [← hD, List.length_take]; omega
        have l3 : ¬ 9223372036854775807 < s.length + D.length := by omega
        have RD : Hid (∀ W, Calls Tryz.prog 97 #[.int .i64 d, .agg x.sum.c] W (Rets (.string ⟨D.toArray⟩) W)) := Lib.hid (fun W => by rw [← hD]; exact rdg_any d x.sum W hd32)
        have HN : Hid (s ++ D = 2 :: (freeB n.kids.length ++ kidsB false d n (0 + 1))) := Lib.hid (by
          rw [kidsB_succ _ _ _ _ _ HX.out, ← List.append_assoc, ← List.cons_append, ← HSS.out]
          unfold kidB
          rw [if_neg (Nat.lt_irrefl 0)]
          simp [hD])
        clear hD
        go_wp2_with fail
        refine wp_region_ext (by kernel_rfl) (by kernel_rfl) ?_
        repeat (go_big_quiet_step ((go_at_call 97; exact Calls.quiet_ext (RD.out _))))
        (refine wpQuiet_nil ?_; intro _ hw'; obtain ⟨⟨bsq, nq⟩, hw''⟩ := hw'; subst hw'')
        go_wp2_with fail
        go_roundw
        case rel => exact ⟨0 + 1, s ++ D, by go_num, by omega, by simp, by simp; omega, HN, Lib.hid (KC.out.ext _ _)⟩
        case measure => simp [intOf]; omega
      | succ j =>
        have KC : Hid (Kp [] W0 wr) := KI
        obtain ⟨⟨f0, f1, n0, n1, n2⟩, z0⟩ := SK.out _ KC.out
        obtain ⟨b, o, he, hb, r1⟩ := HK.out.ks.kp KC.out (by simp) _ x HX.out
        skip
        have r2 := row_sum r1
        have r3 := row_page r1
        subst he
        obtain ⟨t, ht⟩ : ∃ t, n.seps[j]? = some t := ⟨_, List.getElem?_eq_getElem (by omega)⟩
        obtain ⟨b', o', rfl, hb', s1⟩ := HK.out.ss.kp KC.out (by simp) j t ht
        have htl := HSM.out.ss t (List.mem_of_getElem? ht)
        have hi : IntKind.i64.wrap ((j : Int) + 1 - 1) = (j : Int) := by rw [show (j : Int) + 1 - 1 = j by omega]; exact IntWalk.i64_in _ (by omega)
        have hgd : n.seps.getD (j + 1 - 1) [] = t := by simp [List.getD, ht]
        obtain ⟨T, hT⟩ : ∃ T, textB t = T := ⟨_, rfl⟩
        have hT1 : T.length ≤ 8201 := by rw [← hT]; exact textB_le htl
        have l1 : ¬ 9223372036854775807 < s.length + T.length := by omega
        have HT := Lib.hid hT; have HGD := Lib.hid hgd
        clear hT ht hgd
        go_wp2_with fail
        refine (rtx_any t _ (by omega)).mono ?_
        rw [HT.out]
        rintro e w5 ⟨rfl, hx5⟩
        have K5 : Hid (Kp [] W0 w5) := Lib.hid (by obtain ⟨bx, nx, rfl⟩ := hx5; exact KC.out.ext _ _)
        clear hx5 KC f0 f1 n0 n1 n2 z0 hb r1 r2 r3 hb' s1
        have KC := K5
        obtain ⟨⟨f0, f1, n0, n1, n2⟩, z0⟩ := SK.out _ KC.out
        obtain ⟨b2, o2, he2, hb, r1⟩ := HK.out.ks.kp KC.out (by simp) _ x HX.out
        skip
        obtain ⟨rfl, rfl⟩ : b2 = b ∧ o2 = o := (by simp only [Option.some.injEq, Addr.mk.injEq] at he2; exact ⟨he2.1.symm, he2.2.1.symm⟩)
        have r2 := row_sum r1
        have r3 := row_page r1
        obtain ⟨D, hD⟩ : ∃ D, x.sum.l.take d = D := ⟨_, rfl⟩
        have hD1 : D.length ≤ 32 := by rw [← hD, List.length_take]; omega
        have l3 : ¬ 9223372036854775807 < s.length + T.length + D.length := by omega
        have RD : Hid (∀ W, Calls Tryz.prog 97 #[.int .i64 d, .agg x.sum.c] W (Rets (.string ⟨D.toArray⟩) W)) := Lib.hid (fun W => by rw [← hD]; exact rdg_any d x.sum W hd32)
        have HN : Hid (s ++ T ++ D = 2 :: (freeB n.kids.length ++ kidsB false d n ((j + 1) + 1))) := Lib.hid (by
          rw [kidsB_succ _ _ _ _ _ HX.out, ← List.append_assoc, ← List.cons_append, ← HSS.out]
          unfold kidB
          rw [if_pos (Nat.succ_pos j), HGD.out, HT.out]
          simp [hD])
        clear hD
        go_wp2_with fail
        refine wp_region_ext (by kernel_rfl) (by kernel_rfl) ?_
        repeat (go_big_quiet_step ((go_at_call 97; exact Calls.quiet_ext (RD.out _))))
        (refine wpQuiet_nil ?_; intro _ hw'; obtain ⟨⟨bsq, nq⟩, hw''⟩ := hw'; subst hw'')
        go_wp2_with fail
        go_roundw
        case rel => exact ⟨(j + 1) + 1, s ++ T ++ D, by go_num, by omega, by simp, by simp; omega, HN, Lib.hid (KC.out.ext _ _)⟩
        case measure => simp [intOf]; omega
    · obtain rfl : k = n.kids.length := by omega
      obtain ⟨⟨f0, f1, n0, n1, n2⟩, z0⟩ := SK.out _ KI.out
      go_wp2_with fail
      go_ret
      exact ⟨by rw [HS.out, ← HSS.out]; rfl, Kp.to_ext (KW.out.trans KI.out)⟩

theorem rform_any (P d : Nat) (pages : Bool) (pa sa ka : Option Addr) (pc sc kc : Nat) (n : Nd) (w : World) (hc : checkE P d n = 0) (h : NdAt w pa sa ka n) (ho : NdOk n) :
    Calls Tryz.prog 47 #[.agg #[.int .i64 P, .int .i64 d], .agg #[.slice pa n.pairs.length pc, .slice sa n.seps.length sc, .slice ka n.kids.length kc], .bool pages] w (Rets (.string ⟨(formB pages d n).toArray⟩) w) := by
  cases hl : leafB n
  · cases pages
    · exact rform_branch_false P d pa sa ka pc sc kc n w hc hl h ho
    · exact rform_branch_true P d pa sa ka pc sc kc n w hc hl h ho
  · exact rform_leaf P d pages pa sa ka pc sc kc n w hc hl h ho

end Go.Proofs.YtemicgccgcmmbaaGreat
