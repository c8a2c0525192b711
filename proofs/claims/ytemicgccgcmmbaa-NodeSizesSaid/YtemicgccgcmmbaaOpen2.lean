/- This program's frame and node, opened where they come in. -/
import Derived.Test.YtemicgccgcmmbaaOpen
import Derived.Below
namespace Go.Proofs.Ytemicgccgcmmbaa
set_option linter.unusedVariables false
set_option linter.unusedSimpArgs false
open Go Go.RowKit Go.ChangeShapes Go.WideShapes Go.Deep Go.Joins

theorem pair_struct : ∃ f0 f1, Try.prog.underlying 48 = some (.struct #[f0, f1]) ∧ f0.type = 9 ∧ f1.type = 9 ∧ f0.offset = 0 ∧ f1.offset = 1 := ⟨_, _, Try.underlying48, rfl, rfl, rfl, rfl⟩
theorem kid_struct : ∃ f0 f1, Try.prog.underlying 42 = some (.struct #[f0, f1]) ∧ f0.type = 38 ∧ f1.type = 40 ∧ f0.offset = 0 ∧ f1.offset = 1 := ⟨_, _, Try.underlying42, rfl, rfl, rfl, rfl⟩
theorem node_struct : ∃ f0 f1 f2, Try.prog.underlying 30 = some (.struct #[f0, f1, f2]) ∧ f0.type = 26 ∧ f1.type = 27 ∧ f2.type = 28 ∧ f0.offset = 0 ∧ f1.offset = 1 ∧ f2.offset = 2 := ⟨_, _, _, Try.underlying30, rfl, rfl, rfl, rfl, rfl, rfl⟩
theorem frame_struct : ∃ f0 f1, Try.prog.underlying 23 = some (.struct #[f0, f1]) ∧ f0.type = 3 ∧ f1.type = 3 ∧ f0.offset = 0 ∧ f1.offset = 1 := ⟨_, _, Try.underlying23, rfl, rfl, rfl, rfl⟩

section
variable {H : Type} {enc : TypeId × Value → H} {w : World} {base : Nat} {spare : Nat → Bool} {held : Bool}

theorem agg_two {v : Value} {a b : Value} (h : v.cells.toList = [a, b]) : v = .agg #[a, b] := by
  cases v <;> simp [Value.cells] at h
  rename_i cs
  obtain ⟨l⟩ := cs
  simp at h; simp [h]
theorem agg_three {v : Value} {a b c : Value} (h : v.cells.toList = [a, b, c]) : v = .agg #[a, b, c] := by
  cases v <;> simp [Value.cells] at h
  rename_i cs
  obtain ⟨l⟩ := cs
  simp at h; simp [h]

/-- A frame that comes in. -/
theorem open_frame {v : Value} {d : DataW H} {p : List MemPlace} (h : DataW.Trod enc Try.prog w base spare held 23 v d p) : ∃ pg wd : Int, v = .agg #[.int .i64 pg, .int .i64 wd] ∧ p = [] := by
  obtain ⟨fuel, hf⟩ := h
  obtain ⟨f0, f1, hu, e0, e1, o0, o1⟩ := frame_struct
  obtain ⟨y0, y1, n, hx, hl, h0, h1⟩ := trod_struct2 hu hf
  have hc : Try.prog.cellsOf 23 = 2 := by kernel_rfl
  have hi : Try.prog.cellsOf 3 = 1 := by kernel_rfl
  rw [hc] at hl
  rw [e0, o0, hi] at h0
  rw [e1, o1, hi] at h1
  obtain ⟨z0, q0, r0, _⟩ := DataW.trod_int Try.underlying3 h0
  obtain ⟨z1, q1, r1, _⟩ := DataW.trod_int Try.underlying3 h1
  simp only [Prod.mk.injEq] at hx
  refine ⟨z0, z1, agg_two ?_, by rw [hx.2, r0, r1]; rfl⟩
  generalize v.cells.toList = cs at *
  match cs, hl with
  | [a, b], _ => simp at q0 q1; rw [q0, q1]

/-- A node that comes in. -/
theorem open_node {v : Value} {d : DataW H} {p : List MemPlace} (h : DataW.Trod enc Try.prog w base spare held 30 v d p) (hz : ∀ m ∈ d.weights Try.prog 30, m ≤ reachBytes) :
    ∃ (pa sa ka : Option Addr) (pc sc kc : Nat) (n : Nd), v = .agg #[.slice pa n.pairs.length pc, .slice sa n.seps.length sc, .slice ka n.kids.length kc] ∧ NdAt w pa sa ka n ∧ NdOk n := by
  obtain ⟨fuel, hf⟩ := h
  obtain ⟨f0, f1, f2, hu, e0, e1, e2, o0, o1, o2⟩ := node_struct
  obtain ⟨y0, y1, y2, n, hx, hl, h0, h1, h2⟩ := trod_struct3 hu hf
  have hc : Try.prog.cellsOf 30 = 3 := by kernel_rfl
  have i0 : Try.prog.cellsOf 26 = 1 := by kernel_rfl
  have i1 : Try.prog.cellsOf 27 = 1 := by kernel_rfl
  have i2 : Try.prog.cellsOf 28 = 1 := by kernel_rfl
  rw [hc] at hl
  rw [e0, o0, i0] at h0
  rw [e1, o1, i1] at h1
  rw [e2, o2, i2] at h2
  simp only [Prod.mk.injEq] at hx
  rw [hx.1] at hz
  simp only [DataW.weights, hu, List.map_cons, List.map_nil, DataW.weightsEach, List.append_nil, List.mem_append, e0, e1, e2] at hz
  obtain ⟨f0, f1, hp, e0, e1, o0, o1⟩ := pair_struct
  obtain ⟨pa, pc, ps, q0, a0, b0, c0⟩ := open_pairs (w := w) Try.underlying26 hp e0 e1 o0 o1 Try.underlying9 (by kernel_rfl) (by kernel_rfl) (by kernel_rfl) h0 (fun m hm => hz m (.inl hm))
  obtain ⟨sa, sc, ss, q1, a1, b1, c1⟩ := open_texts (w := w) Try.underlying27 Try.underlying9 (by kernel_rfl) (by kernel_rfl) h1 (fun m hm => hz m (.inr (.inl hm)))
  obtain ⟨f0, f1, hk, e0, e1, o0, o1⟩ := kid_struct
  obtain ⟨ka, kc, ks, q2, a2, b2, c2⟩ := open_kids (w := w) Try.underlying28 hk e0 e1 o0 o1 Try.underlying38 (by kernel_rfl) Try.underlying40 Try.underlying5 (by kernel_rfl) (by kernel_rfl) (by kernel_rfl) (by kernel_rfl) h2 (fun m hm => hz m (.inr (.inr hm)))
  refine ⟨pa, sa, ka, pc, sc, kc, ⟨ps, ss, ks⟩, agg_three ?_, ⟨a0, a1, a2⟩, ⟨b0, b1, b2, c0, c1, c2⟩⟩
  generalize v.cells.toList = cs at *
  match cs, hl with
  | [a, b, c], _ => simp at q0 q1 q2; simp [q0, q1, q2]

theorem weights_at {P : Program} {ts : List TypeId} {ds : List (DataW H)} (h : (DataW.weightsEach P ts ds).all (· ≤ reachBytes) = true) {j : Nat} {t : TypeId} {d : DataW H} (ht : ts[j]? = some t) (hd : ds[j]? = some d) : ∀ n ∈ d.weights P t, n ≤ reachBytes := fun n hn => by
  have := List.all_eq_true.1 h _ (DataW.weights_mem_each ht hd n hn)
  simpa using this
end

theorem laidOut : laidOutB Try.prog = true := by kernel_rfl

end Go.Proofs.Ytemicgccgcmmbaa
