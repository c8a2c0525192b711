/- This program's frame and node, opened where they come in. -/
import Derived.Test.YtcaggadjkccbiaaGreatZ30
import Derived.Below
import Derived.Test.YtcaggadjkccbiaaGreatZ34
namespace Go.Proofs.YtcaggadjkccbiaaGreat
set_option linter.unusedVariables false
set_option linter.unusedSimpArgs false
open Go Go.RowKit Go.ChangeShapes Go.WideShapes Go.Deep Go.Joins

theorem frame_struct : ∃ f0 f1, Tryz.prog.underlying 24 = some (.struct #[f0, f1]) ∧ f0.type = 3 ∧ f1.type = 3 ∧ f0.offset = 0 ∧ f1.offset = 1 := ⟨_, _, Tryz.underlying24, rfl, rfl, rfl, rfl⟩

section
variable {H : Type} {enc : TypeId × Value → H} {w : World} {base : Nat} {spare : Nat → Bool} {held : Bool}

theorem agg_two {v : Value} {a b : Value} (h : v.cells.toList = [a, b]) : v = .agg #[a, b] := by
  cases v <;> simp [Value.cells] at h
  rename_i cs
  obtain ⟨l⟩ := cs
  simp at h; simp [h]
/-- A frame that comes in. -/
theorem open_frame {v : Value} {d : DataW H} {p : List MemPlace} (h : DataW.Trod enc Tryz.prog w base spare held 24 v d p) : ∃ pg wd : Int, v = .agg #[.int .i64 pg, .int .i64 wd] ∧ p = [] := by
  obtain ⟨fuel, hf⟩ := h
  obtain ⟨f0, f1, hu, e0, e1, o0, o1⟩ := frame_struct
  obtain ⟨y0, y1, n, hx, hl, h0, h1⟩ := trod_struct2 hu hf
  have hc : Tryz.prog.cellsOf 24 = 2 := by kernel_rfl
  have hi : Tryz.prog.cellsOf 3 = 1 := by kernel_rfl
  rw [hc] at hl
  rw [e0, o0, hi] at h0
  rw [e1, o1, hi] at h1
  obtain ⟨z0, q0, r0, _⟩ := DataW.trod_int Tryz.underlying3 h0
  obtain ⟨z1, q1, r1, _⟩ := DataW.trod_int Tryz.underlying3 h1
  simp only [Prod.mk.injEq] at hx
  refine ⟨z0, z1, agg_two ?_, by rw [hx.2, r0, r1]; rfl⟩
  generalize v.cells.toList = cs at *
  match cs, hl with
  | [a, b], _ => simp at q0 q1; rw [q0, q1]

end

theorem laidOut : laidOutB Tryz.prog = true := by kernel_rfl

end Go.Proofs.YtcaggadjkccbiaaGreat

/- What Pack answers. -/
namespace Go.Proofs.YtcaggadjkccbiaaGreat
set_option linter.unusedVariables false
set_option linter.unusedSimpArgs false
open Go Go.RowKit

@[go_sem] theorem Kd.getE0 (k : Kd) (h : 0 < k.c.size) : k.c[0]'h = .int .u32 (k.page : Int) := by
  have h0 := Kd.get0 k
  rw [Array.getElem?_eq_getElem h] at h0
  exact Option.some.inj h0

end Go.Proofs.YtcaggadjkccbiaaGreat
