/- This program's frame and node, opened where they come in. -/
import Derived.Test.YtemicgccgcmmbaaGreatZ10
import Derived.Below
import Derived.Test.YtemicgccgcmmbaaGreatZ20
import Derived.Test.YtemicgccgcmmbaaGreatZ21
namespace Go.Proofs.YtemicgccgcmmbaaGreat
set_option linter.unusedVariables false
set_option linter.unusedSimpArgs false
open Go Go.RowKit Go.ChangeShapes Go.WideShapes Go.Deep Go.Joins

theorem pair_struct : ∃ f0 f1, Tryz.prog.underlying 56 = some (.struct #[f0, f1]) ∧ f0.type = 9 ∧ f1.type = 9 ∧ f0.offset = 0 ∧ f1.offset = 1 := ⟨_, _, Tryz.underlying56, rfl, rfl, rfl, rfl⟩
theorem kid_struct : ∃ f0 f1, Tryz.prog.underlying 59 = some (.struct #[f0, f1]) ∧ f0.type = 57 ∧ f1.type = 36 ∧ f0.offset = 0 ∧ f1.offset = 1 := ⟨_, _, Tryz.underlying59, rfl, rfl, rfl, rfl⟩
theorem node_struct : ∃ f0 f1 f2, Tryz.prog.underlying 28 = some (.struct #[f0, f1, f2]) ∧ f0.type = 24 ∧ f1.type = 25 ∧ f2.type = 26 ∧ f0.offset = 0 ∧ f1.offset = 1 ∧ f2.offset = 2 := ⟨_, _, _, Tryz.underlying28, rfl, rfl, rfl, rfl, rfl, rfl⟩
theorem frame_struct : ∃ f0 f1, Tryz.prog.underlying 23 = some (.struct #[f0, f1]) ∧ f0.type = 3 ∧ f1.type = 3 ∧ f0.offset = 0 ∧ f1.offset = 1 := ⟨_, _, Tryz.underlying23, rfl, rfl, rfl, rfl⟩

section
variable {H : Type} {enc : TypeId × Value → H} {w : World} {base : Nat} {spare : Nat → Bool} {held : Bool}

theorem agg_two {v : Value} {a b : Value} (h : v.cells.toList = [a, b]) : v = .agg #[a, b] := by
  cases v <;> simp [Value.cells] at h
  rename_i cs
  obtain ⟨l⟩ := cs
  simp at h; simp [h]
theorem agg_three {v : Value} {a b c : Value} (h : v.cells.toList = [a, b, c]) : v = .agg #[a, b, c] := by
  cases v <;> simp [Value.cells] at h
  rename_i cs
  obtain ⟨l⟩ := cs
  simp at h; simp [h]

/-- A frame that comes in. -/
theorem open_frame {v : Value} {d : DataW H} {p : List MemPlace} (h : DataW.Trod enc Tryz.prog w base spare held 23 v d p) : ∃ pg wd : Int, v = .agg #[.int .i64 pg, .int .i64 wd] ∧ p = [] := by
  obtain ⟨fuel, hf⟩ := h
  obtain ⟨f0, f1, hu, e0, e1, o0, o1⟩ := frame_struct
  obtain ⟨y0, y1, n, hx, hl, h0, h1⟩ := trod_struct2 hu hf
  have hc : Tryz.prog.cellsOf 23 = 2 := by kernel_rfl
  have hi : Tryz.prog.cellsOf 3 = 1 := by kernel_rfl
  rw [hc] at hl
  rw [e0, o0, hi] at h0
  rw [e1, o1, hi] at h1
  obtain ⟨z0, q0, r0, _⟩ := DataW.trod_int Tryz.underlying3 h0
  obtain ⟨z1, q1, r1, _⟩ := DataW.trod_int Tryz.underlying3 h1
  simp only [Prod.mk.injEq] at hx
  refine ⟨z0, z1, agg_two ?_, by rw [hx.2, r0, r1]; rfl⟩
  generalize v.cells.toList = cs at *
  match cs, hl with
  | [a, b], _ => simp at q0 q1; rw [q0, q1]

/-- A node that comes in. -/
theorem open_node {v : Value} {d : DataW H} {p : List MemPlace} (h : DataW.Trod enc Tryz.prog w base spare held 28 v d p) (hz : ∀ m ∈ d.weights Tryz.prog 28, m ≤ reachBytes) :
    ∃ (pa sa ka : Option Addr) (pc sc kc : Nat) (n : Nd), v = .agg #[.slice pa n.pairs.length pc, .slice sa n.seps.length sc, .slice ka n.kids.length kc] ∧ NdAt w pa sa ka n ∧ NdOk n := by
  obtain ⟨fuel, hf⟩ := h
  obtain ⟨f0, f1, f2, hu, e0, e1, e2, o0, o1, o2⟩ := node_struct
  obtain ⟨y0, y1, y2, n, hx, hl, h0, h1, h2⟩ := trod_struct3 hu hf
  have hc : Tryz.prog.cellsOf 28 = 3 := by kernel_rfl
  have i0 : Tryz.prog.cellsOf 24 = 1 := by kernel_rfl
  have i1 : Tryz.prog.cellsOf 25 = 1 := by kernel_rfl
  have i2 : Tryz.prog.cellsOf 26 = 1 := by kernel_rfl
  rw [hc] at hl
  rw [e0, o0, i0] at h0
  rw [e1, o1, i1] at h1
  rw [e2, o2, i2] at h2
  simp only [Prod.mk.injEq] at hx
  rw [hx.1] at hz
  simp only [DataW.weights, hu, List.map_cons, List.map_nil, DataW.weightsEach, List.append_nil, List.mem_append, e0, e1, e2] at hz
  obtain ⟨f0, f1, hp, e0, e1, o0, o1⟩ := pair_struct
  obtain ⟨pa, pc, ps, q0, a0, b0, c0⟩ := open_pairs (w := w) Tryz.underlying24 hp e0 e1 o0 o1 Tryz.underlying9 (by kernel_rfl) (by kernel_rfl) (by kernel_rfl) h0 (fun m hm => hz m (.inl hm))
  obtain ⟨sa, sc, ss, q1, a1, b1, c1⟩ := open_texts (w := w) Tryz.underlying25 Tryz.underlying9 (by kernel_rfl) (by kernel_rfl) h1 (fun m hm => hz m (.inr (.inl hm)))
  obtain ⟨f0, f1, hk, e0, e1, o0, o1⟩ := kid_struct
  obtain ⟨ka, kc, ks, q2, a2, b2, c2⟩ := open_kids (w := w) Tryz.underlying26 hk e0 e1 o0 o1 Tryz.underlying57 (by kernel_rfl) Tryz.underlying36 Tryz.underlying5 (by kernel_rfl) (by kernel_rfl) (by kernel_rfl) (by kernel_rfl) h2 (fun m hm => hz m (.inr (.inr hm)))
  refine ⟨pa, sa, ka, pc, sc, kc, ⟨ps, ss, ks⟩, agg_three ?_, ⟨a0, a1, a2⟩, ⟨b0, b1, b2, c0, c1, c2⟩⟩
  generalize v.cells.toList = cs at *
  match cs, hl with
  | [a, b, c], _ => simp at q0 q1 q2; simp [q0, q1, q2]

theorem weights_at {P : Program} {ts : List TypeId} {ds : List (DataW H)} (h : (DataW.weightsEach P ts ds).all (· ≤ reachBytes) = true) {j : Nat} {t : TypeId} {d : DataW H} (ht : ts[j]? = some t) (hd : ds[j]? = some d) : ∀ n ∈ d.weights P t, n ≤ reachBytes := fun n hn => by
  have := List.all_eq_true.1 h _ (DataW.weights_mem_each ht hd n hn)
  simpa using this
end

theorem laidOut : laidOutB Tryz.prog = true := by kernel_rfl

end Go.Proofs.YtemicgccgcmmbaaGreat

/- A node in lists of its own. -/
namespace Go.Proofs.YtemicgccgcmmbaaGreat
set_option linter.unusedVariables false
set_option linter.unusedSimpArgs false
open Go Go.RowKit

def CopyPost (n : Nd) (w : World) (e : Ending) (w' : World) : Prop :=
  ∃ pa sa ka pc sc kc, e = .returned (.agg #[.slice pa n.pairs.length pc, .slice sa n.seps.length sc, .slice ka n.kids.length kc]) ∧ Own3 w' w.heap.size pa sa ka pc sc kc n ∧ Kp [] w w'

/-- A node is handed back. -/
theorem nd_ret1 {fn : Func} {R : Ending → World → Prop} {a : Act} {w : World} {p : Tmp} (g : Nat) {t : TypeId} {x y z : Value} (hr : fn.results = #[.cell p 28]) (hp : a.tmps.getD p undef = .pointer (some ⟨g, 0, none⟩)) (hg : Blk w g t #[x, y, z]) (hd : a.defers = []) (hR : R (.returned (.agg #[x, y, z])) w) :
    bodyPost Tryz.prog fn R .ret a w :=
  row_ret g hr Tryz.underlying28 rfl (by kernel_rfl) hp hg hd hR

/-- Behind the three lists the result is written. -/
theorem copy_fin {w W wF : World} {pa sa ka : Option Addr} {pc sc kc : Nat} {n : Nd} {B : Nat} {x y z : Value}
    (hW : Kp [] w W) (hB : w.heap.size ≤ B) (hBW : B < W.heap.size) (hb : Blk wF B 28 #[x, y, z]) (hk : Kp [] W wF)
    (h1 : Own wF 56 2 pa n.pairs.length pc (n.pairs.flatMap csP)) (h2 : Own wF 9 1 sa n.seps.length sc (n.seps.flatMap csS)) (h3 : Own wF 59 33 ka n.kids.length kc (n.kids.flatMap csK))
    (l1 : ∀ g ∈ ab pa ++ ab sa ++ ab ka, W.heap.size ≤ g) (d1 : ∀ g ∈ ab pa, g ∉ ab sa ∧ g ∉ ab ka) (d2 : ∀ g ∈ ab sa, g ∉ ab ka)
    {wG : World} {a b c : Value} (hG : wG = ((wF.setCell ⟨B, 0, none⟩ a).setCell ⟨B, 1, none⟩ b).setCell ⟨B, 2, none⟩ c) :
    Blk wG B 28 #[a, b, c] ∧ Own3 wG w.heap.size pa sa ka pc sc kc n ∧ Kp [] w wG := by
  subst hG
  have hz := hW.size
  have kG : Kp [B] wF (((wF.setCell ⟨B, 0, none⟩ a).setCell ⟨B, 1, none⟩ b).setCell ⟨B, 2, none⟩ c) := (((Kp.refl [B] wF).setCell (a := ⟨B, 0, none⟩) a (.inr (by simp))).setCell (a := ⟨B, 1, none⟩) b (.inr (by simp))).setCell (a := ⟨B, 2, none⟩) c (.inr (by simp))
  refine ⟨?_, ?_, ?_⟩
  · have h := ((hb.set 0 a).set 1 b).set 2 c
    simpa using h
  · exact Own3.kp ⟨h1, h2, h3, fun g hg => Nat.le_trans hz (l1 g hg), d1, d2⟩ kG (fun g hg => by have := l1 g hg; simp; omega)
  · exact (hW.trans hk).from kG (fun g hg => by simp at hg; subst hg; exact .inl hB)

end Go.Proofs.YtemicgccgcmmbaaGreat
