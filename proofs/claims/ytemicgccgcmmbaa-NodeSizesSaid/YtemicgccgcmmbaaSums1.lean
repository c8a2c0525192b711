/- Digests are cut; they fit a width. -/
import Derived.Test.YtemicgccgcmmbaaNode1
import Derived.Test.YtemicgccgcmmbaaRdDg
import Derived.Laws.ResultCell
namespace Go.Proofs.Ytemicgccgcmmbaa
set_option linter.unusedVariables false
set_option linter.unusedSimpArgs false
open Go Go.RowKit

/-- A digest, and a second result, are handed back. -/
theorem dg_ret2 {fn : Func} {R : Ending → World → Prop} {a : Act} {w : World} {p u : Tmp} {g : Nat} {d : Dg} {v : Value} (hr : fn.results = #[.cell p 40, .tmp u]) (hp : a.tmps.getD p undef = .pointer (some ⟨g, 0, none⟩)) (hv : a.tmps.getD u undef = v) (hg : rowAt? w ⟨g, 0, none⟩ 32 = some d.c) (hd : a.defers = []) (hR : R (.returned (.tuple #[.agg d.c, v])) w) :
    bodyPost Try.prog fn R .ret a w := by
  refine bodyPost_ret (v := .tuple #[.agg d.c, v]) ?_ hd hR
  rw [results_cell_tmp hr, hp, hv]
  have h1 := run_loadVar_big Try.prog 40 32 _ Try.underlying40 rfl (by kernel_rfl) ⟨g, 0, none⟩ w
  rw [hg] at h1
  simp [asAddr, h1, Result.andThen]

/-- Of a digest the first bytes. -/
def Dg.cut (n : Nat) (d : Dg) : Dg := Dg.pad (d.l.take n)

set_option maxHeartbeats 1000000 in set_option maxRecDepth 100000 in
theorem cut_bad (n : Int) (d : Dg) (w : World) (h : ¬ (1 ≤ n ∧ n ≤ 32)) : Calls Try.prog 76 #[.int .i64 n, .agg d.c] w (Rets (.tuple #[.agg Dg.zero.c, .int .i64 2]) w) := by
  have hb : decide (1 ≤ n ∧ n ≤ 32) = false := decide_eq_false h
  clear h
  go_enter Try.func76, Try.ntmps76
  go_wp2_with (go_at_call 90; refine (wide_any _ _).mono ?_; rintro e w' ⟨rfl, rfl⟩)
  refine dg_ret2 rfl rfl rfl (d := Dg.zero) ?_ rfl ?_
  · simp [go_sem]
  · exact ⟨rfl, by (try simp only [alloc_ext, drew_ext, drewN_ext, ext_ext]); exact ⟨_, _, rfl⟩⟩

@[go_sem] theorem extract_take (d : Dg) (n : Nat) : d.c.extract 0 n = (bC (d.l.take n)).toArray := by
  apply Array.ext'
  simp [Dg.c, bC, List.extract_eq_take_drop]
@[go_sem] theorem take32 (d : Dg) : d.l.take 32 = d.l := List.take_of_length_le (by rw [d.h]; omega)
@[go_sem] theorem bC_l (d : Dg) : (bC d.l).toArray = d.c := rfl
@[go_sem] theorem okCells_bC (l : Bs) : okCells (bC l).toArray = true := okCells_of (by simpa using bC_one l)
@[go_sem] theorem spl_cut (d : Dg) (n : Nat) (h : n ≤ 32) : spl Dg.zero.c 0 (bC (d.l.take n)).toArray = (Dg.cut n d).c := by
  have := spl_pad (d.l.take n)
  rw [List.take_of_length_le (by simp; omega)] at this
  exact this

set_option maxHeartbeats 1000000 in set_option maxRecDepth 100000 in
theorem cut_any (n : Nat) (d : Dg) (w : World) (h1 : 1 ≤ n) (h2 : n ≤ 32) : Calls Try.prog 76 #[.int .i64 n, .agg d.c] w (Rets (.tuple #[.agg (Dg.cut n d).c, .int .i64 0]) w) := by
  have hb : decide ((1 : Int) ≤ n ∧ (n : Int) ≤ 32) = true := decide_eq_true (by omega)
  go_enter Try.func76, Try.ntmps76
  go_wp2_with (go_at_call 90; refine (wide_any _ _).mono ?_; rintro e w' ⟨rfl, rfl⟩)
  go_region_held3 (fun _ => True) (trivial) (fail)
  go_wp2
  refine dg_ret2 rfl rfl rfl (d := Dg.cut n d) ?_ rfl ?_
  · simp [go_sem]
  · exact ⟨rfl, by (try simp only [alloc_ext, drew_ext, drewN_ext, ext_ext]); exact ⟨_, _, rfl⟩⟩

end Go.Proofs.Ytemicgccgcmmbaa
