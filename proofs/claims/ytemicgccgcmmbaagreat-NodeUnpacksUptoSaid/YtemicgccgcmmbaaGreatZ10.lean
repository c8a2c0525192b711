/- A law's arguments opened: a frame, a node, a text. -/
import Derived.Test.YtemicgccgcmmbaaGreatZ9
import Derived.Deep.Slices
import Derived.ChangeArms
import Derived.ShutString
import Derived.ChangeOld
import Derived.SizedLaws
import Derived.Lib.SmallJoins
namespace Go.Proofs.YtemicgccgcmmbaaGreat
set_option linter.unusedVariables false
set_option linter.unusedSimpArgs false
open Go Go.RowKit Go.ChangeShapes Go.WideShapes Go.Deep

section
variable {H : Type} {enc : TypeId × Value → H} {P : Program} {w : World} {base : Nat} {spare : Nat → Bool} {held : Bool}

theorem spot_none {w : World} {a : Addr} {v : Value} (h : w.cell? a = some v) : a = ⟨a.block, a.off, none⟩ ∧ a.block < w.heap.size := by
  refine ⟨?_, World.block_lt_of_cell? w a h⟩
  obtain ⟨b, o, sp⟩ := a
  unfold World.cell? at h
  split at h
  · cases sp with
    | none => rfl
    | some x => simp at h
  · cases h

theorem row_of_cells {w : World} {b o n : Nat} {cs : List Value} (hn : 0 < n) (hl : cs.length = n) (h : ∀ i, i < n → w.cell? ⟨b, o + i, none⟩ = cs[i]?) : rowAt? w ⟨b, o, none⟩ n = some cs.toArray := by
  have h0 := h (n - 1) (by omega)
  rw [List.getElem?_eq_getElem (by omega)] at h0
  unfold rowAt?
  unfold World.cell? at h0
  split at h0
  · rename_i c e f hb
    simp only at hb
    have hsz : o + (n - 1) < c.size := by
      rcases Nat.lt_or_ge (o + (n - 1)) c.size with h1 | h1
      · exact h1
      · simp [Array.getElem?_eq_none h1] at h0
    simp only [hb, Option.isSome_none, Bool.false_eq_true, if_false]
    rw [if_pos (by omega)]
    congr 1
    apply Array.ext_getElem?
    intro i
    simp only [Array.getElem?_extract, List.getElem?_toArray]
    by_cases hi : i < n
    · have h1 := h i hi
      simp only [World.cell?, hb, Option.isSome_none, Bool.false_eq_true, if_false] at h1
      rw [if_pos (by omega), h1]
    · rw [if_neg (by omega), List.getElem?_eq_none (by omega)]
  · cases h0

theorem weightsAll_mem {e : TypeId} : ∀ {ds : List (DataW H)} {d : DataW H}, d ∈ ds → ∀ n ∈ d.weights P e, n ∈ DataW.weightsAll P e ds
  | x :: r, d, hd, n, hn => by
    simp only [DataW.weightsAll, List.mem_append]
    rcases List.mem_cons.1 hd with rfl | h
    · exact .inl hn
    · exact .inr (weightsAll_mem h n hn)

/-- A slice: its length, and each element that is read, with its weights. -/
theorem open_sl {t e : TypeId} {fuel : Nat} {cs : List Value} {x : DataW H × List MemPlace} (ht : P.underlying t = some (.slice e)) (h : DataW.trod enc P w base spare held fuel t cs = some x)
    (hz : ∀ n ∈ x.1.weights P t, n ≤ reachBytes) :
    ∃ (a : Option Addr) (len cap : Nat), cs = [.slice a len cap] ∧ len * P.bytesOf e ≤ reachBytes ∧
      ∀ i, i < len → ∃ (ad : Addr) (n : Nat) (cs' : List Value) (y : DataW H × List MemPlace), a = some ad ∧ w.cells? base (ad.add (i * P.cellsOf e)) (P.cellsOf e) = some cs' ∧ DataW.trod enc P w base spare held n e cs' = some y ∧ ∀ m ∈ y.1.weights P e, m ≤ reachBytes := by
  rcases DataW.trod_slice ht h with ⟨rfl, rfl⟩ | ⟨a, len, cap, elems, rest, n, _, rfl, rfl, hb, hl, hm, hlen, hel, _, _⟩
  · exact ⟨none, 0, 0, rfl, by simp, fun i hi => absurd hi (Nat.not_lt_zero _)⟩
  · refine ⟨some a, len, cap, rfl, ?_, fun i hi => ?_⟩
    · have := hz ((elems.length + rest.length) * P.bytesOf e) (by simp [DataW.weights, ht])
      exact Nat.le_trans (Nat.mul_le_mul_right _ (by omega)) this
    · have hy : elems[i]? = some (elems[i]'(by omega)) := List.getElem?_eq_getElem (by omega)
      have h1 := hel i hi
      rw [hy] at h1
      obtain ⟨cs', hc, hd⟩ := Option.bind_eq_some_iff.1 h1
      refine ⟨a, n, cs', _, rfl, hc, hd, fun m hm => hz m ?_⟩
      have hmem : (elems[i]'(by omega)).1 ∈ elems.map (·.1) := List.mem_map.2 ⟨_, List.getElem_mem _, rfl⟩
      simp only [DataW.weights, ht, List.mem_cons, List.mem_append]
      exact .inr (.inl (weightsAll_mem hmem m hm))


/-- One text. -/
theorem elem_str {t : TypeId} (ht : P.underlying t = some .string) {n : Nat} {cs : List Value} {y : DataW H × List MemPlace} (h : DataW.trod enc P w base spare held n t cs = some y) (hz : ∀ m ∈ y.1.weights P t, m ≤ reachBytes) :
    ∃ l : Bs, cs = [.string ⟨l.toArray⟩] ∧ l.length ≤ 140737488351232 := by
  obtain ⟨s, rfl, rfl, _⟩ := DataW.trod_string ht h
  refine ⟨s.data.toList, by simp, ?_⟩
  have := hz s.data.toList.length (by simp [DataW.weights])
  exact this

theorem cells1 {w : World} {base : Nat} {a : Addr} {v : Value} (h : w.cells? base a 1 = some [v]) : w.cell? a = some v := by
  have := (World.cells?_some h).2.2 0 (by omega)
  simpa [Addr.add] using this

/-- A slice of texts. -/
theorem open_texts {t e : TypeId} {fuel : Nat} {cs : List Value} {x : DataW H × List MemPlace} (ht : P.underlying t = some (.slice e)) (he : P.underlying e = some .string) (hc : P.cellsOf e = 1) (h16 : P.bytesOf e = 16) (h : DataW.trod enc P w base spare held fuel t cs = some x)
    (hz : ∀ n ∈ x.1.weights P t, n ≤ reachBytes) :
    ∃ (a : Option Addr) (cap : Nat) (ss : List Bs), cs = [.slice a ss.length cap] ∧ SsAt w a ss ∧ ss.length ≤ 8796093022208 ∧ ∀ p ∈ ss, p.length ≤ 140737488351232 := by
  obtain ⟨a, len, cap, rfl, hl, hel⟩ := open_sl ht h hz
  have each : ∀ i, i < len → ∃ l : Bs, (∃ ad : Addr, a = some ad ∧ w.cell? (ad.add i) = some (.string ⟨l.toArray⟩)) ∧ l.length ≤ 140737488351232 ∧ ∃ ad : Addr, a = some ad ∧ (i = 0 → True) := by
    intro i hi
    obtain ⟨ad, n, cs', y, ha, hcs, hd, hw⟩ := hel i hi
    obtain ⟨l, rfl, hlen⟩ := elem_str he hd hw
    rw [hc] at hcs
    refine ⟨l, ⟨ad, ha, ?_⟩, hlen, ad, ha, fun _ => trivial⟩
    have := cells1 hcs
    simpa using this
  obtain ⟨f, hf⟩ := choose_lt each
  refine ⟨a, cap, (List.range len).map f, by simp, ?_, by simp; rw [h16] at hl; unfold reachBytes at hl; omega, ?_⟩
  · intro i p hp
    have hi : i < len := by
      rcases Nat.lt_or_ge i len with h1 | h1
      · exact h1
      · simp [List.getElem?_eq_none (show (List.range len).length ≤ i by simpa using h1)] at hp
    simp only [List.getElem?_map, List.getElem?_range hi, Option.map_some, Option.some.injEq] at hp
    subst hp
    obtain ⟨ad, rfl, hcell⟩ := (hf i hi).1
    obtain ⟨ad0, h0, hcell0⟩ := (hf 0 (by omega)).1
    cases h0
    have hsp := spot_none (by simpa [Addr.add] using hcell0)
    refine ⟨ad.block, ad.off, by rw [← hsp.1], hsp.2, ?_⟩
    rw [hsp.1, Addr.add_lit] at hcell
    exact hcell
  · intro p hp
    obtain ⟨i, hi, rfl⟩ := List.mem_map.1 hp
    exact (hf i (List.mem_range.1 hi)).2.1


/-- One pair. -/
theorem elem_pair {t t0 : TypeId} {f0 f1 : Field} (ht : P.underlying t = some (.struct #[f0, f1])) (e0 : f0.type = t0) (e1 : f1.type = t0) (o0 : f0.offset = 0) (o1 : f1.offset = 1) (hs : P.underlying t0 = some .string) (hc0 : P.cellsOf t0 = 1)
    {n : Nat} {cs : List Value} {y : DataW H × List MemPlace} (h : DataW.trod enc P w base spare held n t cs = some y) (hl2 : cs.length = 2) (hz : ∀ m ∈ y.1.weights P t, m ≤ reachBytes) :
    ∃ p : Pr, cs = [.string ⟨p.1.toArray⟩, .string ⟨p.2.toArray⟩] ∧ p.1.length ≤ 140737488351232 ∧ p.2.length ≤ 140737488351232 := by
  subst e0
  obtain ⟨y0, y1, m, rfl, _, h0, h1⟩ := trod_struct2 ht h
  rw [e1] at h1
  simp only [DataW.weights, ht, List.map_cons, List.map_nil, DataW.weightsEach, List.append_nil, List.mem_append] at hz
  rw [e1] at hz
  obtain ⟨p0, q0, b0⟩ := elem_str hs h0 (fun m hm => hz m (.inl hm))
  obtain ⟨p1, q1, b1⟩ := elem_str hs h1 (fun m hm => hz m (.inr hm))
  match cs, hl2 with
  | [c0, c1], _ =>
    rw [hc0, o0] at q0
    rw [hc0, o1] at q1
    simp at q0 q1
    exact ⟨⟨p0, p1⟩, by simp [q0, q1], b0, b1⟩

theorem cells_at {w : World} {base : Nat} {a : Addr} {k : Nat} {cs : List Value} (h : w.cells? base a k = some cs) (hk : 0 < k) : a = ⟨a.block, a.off, none⟩ ∧ a.block < w.heap.size ∧ cs.length = k ∧ ∀ i, i < k → w.cell? ⟨a.block, a.off + i, none⟩ = cs[i]? := by
  obtain ⟨_, hl, hc⟩ := World.cells?_some h
  have h0 := hc 0 hk
  rw [List.getElem?_eq_getElem (by omega)] at h0
  have ha : a.add 0 = a := by simp [Addr.add]
  rw [ha] at h0
  obtain ⟨h1, h2⟩ := spot_none h0
  refine ⟨h1, h2, hl, fun i hi => ?_⟩
  rw [← hc i hi]
  rw [h1, Addr.add_lit]

/-- A slice of pairs. -/
theorem open_pairs {t e t0 : TypeId} {f0 f1 : Field} {fuel : Nat} {cs : List Value} {x : DataW H × List MemPlace} (ht : P.underlying t = some (.slice e)) (he : P.underlying e = some (.struct #[f0, f1])) (e0 : f0.type = t0) (e1 : f1.type = t0) (o0 : f0.offset = 0) (o1 : f1.offset = 1) (hs : P.underlying t0 = some .string) (hc0 : P.cellsOf t0 = 1)
    (hc : P.cellsOf e = 2) (h32 : P.bytesOf e = 32) (h : DataW.trod enc P w base spare held fuel t cs = some x)
    (hz : ∀ n ∈ x.1.weights P t, n ≤ reachBytes) :
    ∃ (a : Option Addr) (cap : Nat) (ps : List Pr), cs = [.slice a ps.length cap] ∧ PsAt w a ps ∧ ps.length ≤ 4398046511104 ∧ ∀ p ∈ ps, p.1.length ≤ 140737488351232 ∧ p.2.length ≤ 140737488351232 := by
  obtain ⟨a, len, cap, rfl, hl, hel⟩ := open_sl ht h hz
  have hn : 0 < len → ∃ b o, a = some ⟨b, o, none⟩ := by
    intro h0
    obtain ⟨ad, n, cs', y, ha, hcs, hd, hw⟩ := hel 0 h0
    rw [hc, Nat.zero_mul, show ad.add 0 = ad by simp [Addr.add]] at hcs
    exact ⟨ad.block, ad.off, by rw [ha, ← (cells_at hcs (by omega)).1]⟩
  have each : ∀ i, i < len → ∃ p : Pr, (∃ b o, a = some ⟨b, o, none⟩ ∧ b < w.heap.size ∧ w.cell? ⟨b, o + i * 2, none⟩ = some (.string ⟨p.1.toArray⟩) ∧ w.cell? ⟨b, o + i * 2 + 1, none⟩ = some (.string ⟨p.2.toArray⟩)) ∧ p.1.length ≤ 140737488351232 ∧ p.2.length ≤ 140737488351232 := by
    intro i hi
    obtain ⟨ad, n, cs', y, ha, hcs, hd, hw⟩ := hel i hi
    obtain ⟨b, o, rfl⟩ := hn (by omega)
    cases ha
    rw [hc, Addr.add_lit] at hcs
    obtain ⟨h1, h2, h3, h4⟩ := cells_at hcs (by omega)
    obtain ⟨p, hp, b0, b1⟩ := elem_pair he e0 e1 o0 o1 hs hc0 hd h3 hw
    subst hp
    have k0 := h4 0 (by omega)
    have k1 := h4 1 (by omega)
    exact ⟨p, ⟨b, o, rfl, h2, k0, k1⟩, b0, b1⟩
  obtain ⟨f, hf⟩ := choose_lt each
  refine ⟨a, cap, (List.range len).map f, by simp, ?_, by simp; rw [h32] at hl; unfold reachBytes at hl; omega, ?_⟩
  · intro i p hp
    have hi : i < len := by
      rcases Nat.lt_or_ge i len with h1 | h1
      · exact h1
      · simp [List.getElem?_eq_none (show (List.range len).length ≤ i by simpa using h1)] at hp
    simp only [List.getElem?_map, List.getElem?_range hi, Option.map_some, Option.some.injEq] at hp
    subst hp
    exact (hf i hi).1
  · intro p hp
    obtain ⟨i, hi, rfl⟩ := List.mem_map.1 hp
    exact (hf i (List.mem_range.1 hi)).2

/-- An array of 32 bytes. -/
theorem elem_bytes {t e : TypeId} {k : Nat} (ht : P.underlying t = some (.array k e)) (he : P.underlying e = some (.int .u8)) (hc : P.cellsOf e = 1) (hck : P.cellsOf t = k)
    {n : Nat} {cs : List Value} {y : DataW H × List MemPlace} (h : DataW.trod enc P w base spare held n t cs = some y) :
    ∃ l : Bs, l.length = k ∧ cs = bC l := by
  obtain ⟨xs, m, _, _, hl, hlx, hel⟩ := DataW.trod_array ht h
  rw [hck] at hl
  have each : ∀ i, i < k → ∃ b : UInt8, cs[i]? = some (.int .u8 (b.toNat : Int)) := by
    intro i hi
    have h1 := hel i hi
    rw [List.getElem?_eq_getElem (by omega)] at h1
    obtain ⟨z, hz, _, hwf⟩ := DataW.trod_int he h1
    rw [hc] at hz
    have h2 : ((cs.drop (i * 1)).take 1)[0]? = some (.int .u8 z) := by rw [hz]; rfl
    simp at h2
    have hr : 0 ≤ z ∧ z < 256 := by
      simp [Lit.wf, IntKind.min, IntKind.max, IntKind.bits, IntKind.signed] at hwf
      omega
    refine ⟨UInt8.ofNat z.toNat, ?_⟩
    rw [h2]
    congr 2
    rw [UInt8.toNat_ofNat_of_lt' (by simp [UInt8.size]; omega)]
    omega
  obtain ⟨f, hf⟩ := choose_lt each
  refine ⟨(List.range k).map f, by simp, ?_⟩
  apply List.ext_getElem?
  intro i
  by_cases hi : i < k
  · rw [hf i hi]
    simp [bC, hi]
  · rw [List.getElem?_eq_none (by omega), List.getElem?_eq_none (by simp [bC]; omega)]

/-- One kid. -/
theorem elem_kid {t t0 t1 e : TypeId} {f0 f1 : Field} (ht : P.underlying t = some (.struct #[f0, f1])) (e0 : f0.type = t0) (e1 : f1.type = t1) (o0 : f0.offset = 0) (o1 : f1.offset = 1) (hs : P.underlying t0 = some (.int .u32)) (hc0 : P.cellsOf t0 = 1)
    (h1 : P.underlying t1 = some (.array 32 e)) (he : P.underlying e = some (.int .u8)) (hce : P.cellsOf e = 1) (hc1 : P.cellsOf t1 = 32)
    {n : Nat} {cs : List Value} {y : DataW H × List MemPlace} (h : DataW.trod enc P w base spare held n t cs = some y) (hl2 : cs.length = 33) :
    ∃ k : Kd, cs.toArray = k.c ∧ k.page < 4294967296 := by
  obtain ⟨y0, y1, m, rfl, _, h0, h1'⟩ := trod_struct2 ht h
  rw [e0, o0, hc0] at h0
  rw [e1, o1, hc1] at h1'
  obtain ⟨z, hz, _, hwf⟩ := DataW.trod_int hs h0
  obtain ⟨l, hl, hcs⟩ := elem_bytes h1 he hce hc1 h1'
  have hr : 0 ≤ z ∧ z < 4294967296 := by
    simp [Lit.wf, IntKind.min, IntKind.max, IntKind.bits, IntKind.signed] at hwf
    omega
  refine ⟨⟨z.toNat, ⟨l, hl⟩⟩, ?_, by simp; omega⟩
  match cs, hl2 with
  | c :: r, hr2 =>
    simp at hz hcs
    have h32 : r.length = 32 := by simpa using hr2
    rw [List.take_of_length_le (by omega)] at hcs
    subst hz hcs
    simp only [Kd.c]
    congr 2
    congr 1
    omega

instance : Inhabited Kd := ⟨Kd.zero⟩

/-- A slice of kids. -/
theorem open_kids {t e t0 t1 e8 : TypeId} {f0 f1 : Field} {fuel : Nat} {cs : List Value} {x : DataW H × List MemPlace} (ht : P.underlying t = some (.slice e)) (he : P.underlying e = some (.struct #[f0, f1])) (e0 : f0.type = t0) (e1 : f1.type = t1) (o0 : f0.offset = 0) (o1 : f1.offset = 1) (hs : P.underlying t0 = some (.int .u32)) (hc0 : P.cellsOf t0 = 1)
    (h1 : P.underlying t1 = some (.array 32 e8)) (he8 : P.underlying e8 = some (.int .u8)) (hce : P.cellsOf e8 = 1) (hc1 : P.cellsOf t1 = 32)
    (hc : P.cellsOf e = 33) (h36 : P.bytesOf e = 36) (h : DataW.trod enc P w base spare held fuel t cs = some x)
    (hz : ∀ n ∈ x.1.weights P t, n ≤ reachBytes) :
    ∃ (a : Option Addr) (cap : Nat) (ks : List Kd), cs = [.slice a ks.length cap] ∧ KsAt w a ks ∧ ks.length ≤ 3909374676453 ∧ ∀ k ∈ ks, k.page < 4294967296 := by
  obtain ⟨a, len, cap, rfl, hl, hel⟩ := open_sl ht h hz
  have hn : 0 < len → ∃ b o, a = some ⟨b, o, none⟩ := by
    intro h0
    obtain ⟨ad, n, cs', y, ha, hcs, hd, hw⟩ := hel 0 h0
    rw [hc, Nat.zero_mul, show ad.add 0 = ad by simp [Addr.add]] at hcs
    exact ⟨ad.block, ad.off, by rw [ha, ← (cells_at hcs (by omega)).1]⟩
  have each : ∀ i, i < len → ∃ k : Kd, (∃ b o, a = some ⟨b, o, none⟩ ∧ b < w.heap.size ∧ rowAt? w ⟨b, o + i * 33, none⟩ 33 = some k.c) ∧ k.page < 4294967296 := by
    intro i hi
    obtain ⟨ad, n, cs', y, ha, hcs, hd, hw⟩ := hel i hi
    obtain ⟨b, o, rfl⟩ := hn (by omega)
    cases ha
    rw [hc, Addr.add_lit] at hcs
    obtain ⟨h1', h2, h3, h4⟩ := cells_at hcs (by omega)
    obtain ⟨k, hk, hp⟩ := elem_kid he e0 e1 o0 o1 hs hc0 h1 he8 hce hc1 hd h3
    refine ⟨k, ⟨b, o, rfl, h2, ?_⟩, hp⟩
    rw [← hk]
    exact row_of_cells (by omega) h3 (fun j hj => h4 j hj)
  obtain ⟨f, hf⟩ := choose_lt each
  refine ⟨a, cap, (List.range len).map f, by simp, ?_, by simp; rw [h36] at hl; unfold reachBytes at hl; omega, ?_⟩
  · intro i k hk
    have hi : i < len := by
      rcases Nat.lt_or_ge i len with h1 | h1
      · exact h1
      · simp [List.getElem?_eq_none (show (List.range len).length ≤ i by simpa using h1)] at hk
    simp only [List.getElem?_map, List.getElem?_range hi, Option.map_some, Option.some.injEq] at hk
    subst hk
    exact (hf i hi).1
  · intro k hk
    obtain ⟨i, hi, rfl⟩ := List.mem_map.1 hk
    exact (hf i (List.mem_range.1 hi)).2

theorem cells_agg {v : Value} {k : Nat} (h : v.cells.size = k) (h2 : 1 < k) : ∃ cs, v = .agg cs ∧ cs.size = k := by
  cases v <;> simp [Value.cells] at h <;> first | exact ⟨_, rfl, h⟩ | omega


end

end Go.Proofs.YtemicgccgcmmbaaGreat
