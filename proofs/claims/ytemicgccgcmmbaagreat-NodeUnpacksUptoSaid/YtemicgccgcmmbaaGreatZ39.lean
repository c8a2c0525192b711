/- lent: a node in lists of its own, with marks behind them. -/
import Derived.Test.YtemicgccgcmmbaaGreatZ37
import Derived.Test.YtemicgccgcmmbaaGreatZ38
namespace Go.Proofs.YtemicgccgcmmbaaGreat
set_option linter.unusedVariables false
set_option linter.unusedSimpArgs false
open Go Go.RowKit

def mkB : Bs := [109, 97, 114, 107]
def kMark : Kd := ⟨77, Dg.zero⟩
def Nd.mk1 (n : Nd) : Nd := ⟨n.pairs ++ [(mkB, [])], n.seps ++ [mkB], n.kids ++ [kMark]⟩

/-- What a law that holds up to a bulk asks of a node. -/
structure NdFew (n : Nd) : Prop where
  np : n.pairs.length ≤ 1048576
  ns : n.seps.length ≤ 1048576
  nk : n.kids.length ≤ 1048576

/-- A node in lists of its own, its three slices in a block. -/
structure LtI (w wr : World) (lo B3 : Nat) (nd : Array Value) (pb sb kb : Option Addr) (pd sd kd : Nat) (m : Nd) : Prop where
  kp : Kp [] w wr
  b0 : Blk wr w.heap.size 28 nd
  b1 : Blk wr (w.heap.size + 1) 28 #[.slice none 0 0, .slice none 0 0, .slice none 0 0]
  b3 : Blk wr B3 28 #[.slice pb m.pairs.length pd, .slice sb m.seps.length sd, .slice kb m.kids.length kd]
  own : Own3 wr lo pb sb kb pd sd kd m
  lw : w.heap.size + 1 < lo
  b3l : lo ≤ B3
  hi : ∀ g ∈ ab pb ++ ab sb ++ ab kb, g ≠ B3

theorem LtI.mid {w wr : World} {lo B3 : Nat} {nd : Array Value} {pb sb kb : Option Addr} {pd sd kd : Nat} {m : Nd} (h : LtI w wr lo B3 nd pb sb kb pd sd kd m) {S : List Nat} {o : Obj} {w2 : World} (k : Kp S (wr.alloc o) w2) (hs : ∀ g ∈ S, g ∈ ab pb ++ ab sb ++ ab kb) :
    Blk w2 B3 28 #[.slice pb m.pairs.length pd, .slice sb m.seps.length sd, .slice kb m.kids.length kd] :=
  (h.b3.alloc o).kp k (fun e => h.hi B3 (hs _ e) rfl)
theorem LtI.facts {w2 : World} {B3 : Nat} {x y z : Value} (h : Blk w2 B3 28 #[x, y, z]) :
    w2.cell? ⟨B3, 0, none⟩ = some x ∧ w2.cell? ⟨B3, 1, none⟩ = some y ∧ w2.cell? ⟨B3, 2, none⟩ = some z ∧ w2.frozen? ⟨B3, 0, none⟩ = false ∧ w2.frozen? ⟨B3, 1, none⟩ = false ∧ w2.frozen? ⟨B3, 2, none⟩ = false ∧ B3 < w2.heap.size :=
  ⟨h.cell 0, h.cell 1, h.cell 2, h.frozen 0, h.frozen 1, h.frozen 2, h.lt⟩

/-- A list has grown (or lies elsewhere now), and is written into the node. -/
theorem LtI.step {w wr : World} {lo B3 : Nat} {nd : Array Value} {pb sb kb : Option Addr} {pd sd kd : Nat} {m : Nd} (h : LtI w wr lo B3 nd pb sb kb pd sd kd m) {S : List Nat} {o : Obj} {w2 : World} (k : Kp S (wr.alloc o) w2) (hs : ∀ g ∈ S, g ∈ ab pb ++ ab sb ++ ab kb)
    {pb' sb' kb' : Option Addr} {pd' sd' kd' : Nat} {m' : Nd} {f : Nat} {v : Value}
    (hb : Blk (w2.setCell ⟨B3, f, none⟩ v) B3 28 #[.slice pb' m'.pairs.length pd', .slice sb' m'.seps.length sd', .slice kb' m'.kids.length kd'])
    (o1 : Own w2 56 2 pb' m'.pairs.length pd' (m'.pairs.flatMap csP)) (o2 : Own w2 9 1 sb' m'.seps.length sd' (m'.seps.flatMap csS)) (o3 : Own w2 59 33 kb' m'.kids.length kd' (m'.kids.flatMap csK))
    (hn : ∀ g ∈ ab pb' ++ ab sb' ++ ab kb', g ∈ ab pb ++ ab sb ++ ab kb ∨ (wr.alloc o).heap.size ≤ g) (d1 : ∀ g ∈ ab pb', g ∉ ab sb' ∧ g ∉ ab kb') (d2 : ∀ g ∈ ab sb', g ∉ ab kb') :
    LtI w (w2.setCell ⟨B3, f, none⟩ v) lo B3 nd pb' sb' kb' pd' sd' kd' m' := by
  have hlo : ∀ g ∈ ab pb' ++ ab sb' ++ ab kb', lo ≤ g ∧ g ≠ B3 := by
    intro g hg
    have hz := h.b3.lt
    have hb3 := h.b3l
    have hsz : (wr.alloc o).heap.size = wr.heap.size + 1 := by simp
    rcases hn g hg with h1 | h1
    · exact ⟨h.own.lo g h1, h.hi g h1⟩
    · exact ⟨by omega, by omega⟩
  have kv : Kp [B3] w2 (w2.setCell ⟨B3, f, none⟩ v) := (Kp.refl [B3] w2).setCell _ (.inr (by simp))
  have hlw := h.lw
  have hb3 := h.b3l
  have hS : ∀ x, x < lo → x ∉ S := fun x hx e => by have := h.own.lo x (hs x e); omega
  refine ⟨?_, ((h.b0.alloc o).kp k (hS _ (by omega))).kp kv (by simp; omega), ((h.b1.alloc o).kp k (hS _ (by omega))).kp kv (by simp; omega), hb, ?_, h.lw, h.b3l, fun g hg => (hlo g hg).2⟩
  · refine ((h.kp.alloc o).from k (fun g hg => .inl ?_)).from kv (fun g hg => .inl ?_)
    · have := h.own.lo g (hs g hg); omega
    · simp at hg; omega
  · exact Own3.kp ⟨o1, o2, o3, fun g hg => (hlo g hg).1, d1, d2⟩ kv (fun g hg => by have := (hlo g hg).2; simpa using this)

theorem LtI.start {w W w1 : World} {nd : Array Value} {pb sb kb : Option Addr} {pd sd kd : Nat} {n : Nd} (h0 : Blk W w.heap.size 28 nd) (h1 : Blk W (w.heap.size + 1) 28 #[.slice none 0 0, .slice none 0 0, .slice none 0 0]) (k0 : Kp [] w W) (k : Kp [] W w1) (ow : Own3 w1 W.heap.size pb sb kb pd sd kd n) :
    LtI w (w1.alloc (.cells #[.slice pb n.pairs.length pd, .slice sb n.seps.length sd, .slice kb n.kids.length kd] 28)) W.heap.size w1.heap.size nd pb sb kb pd sd kd n := by
  have ka : Kp [] w1 (w1.alloc (.cells #[.slice pb n.pairs.length pd, .slice sb n.seps.length sd, .slice kb n.kids.length kd] 28)) := (Kp.refl [] w1).alloc _
  refine ⟨(k0.trans k).trans ka, (h0.kp k (by simp)).kp ka (by simp), (h1.kp k (by simp)).kp ka (by simp), Blk.new w1 _ _, Own3.kp ow ka (by simp), h1.lt, k.size, ?_⟩
  intro g hg
  simp only [List.mem_append] at hg
  rcases hg with (hg | hg) | hg
  · have := ow.ps.lt g hg; omega
  · have := ow.ss.lt g hg; omega
  · have := ow.ks.lt g hg; omega

def LentPost (n : Nd) (w : World) (e : Ending) (w' : World) : Prop :=
  ∃ gp gs gk pc sc kc, e = .returned (.agg #[.slice (some ⟨gp, 0, none⟩) n.pairs.length pc, .slice (some ⟨gs, 0, none⟩) n.seps.length sc, .slice (some ⟨gk, 0, none⟩) n.kids.length kc]) ∧ Own3 w' w.heap.size (some ⟨gp, 0, none⟩) (some ⟨gs, 0, none⟩) (some ⟨gk, 0, none⟩) pc sc kc n.mk1 ∧ Kp [] w w'

theorem LtI.pairs {w wr : World} {lo B3 : Nat} {nd : Array Value} {pb sb kb : Option Addr} {pd sd kd : Nat} {m : Nd} (h : LtI w wr lo B3 nd pb sb kb pd sd kd m) {o : Obj} {w2 : World} (k : Kp (ab pb) (wr.alloc o) w2) {pb' : Option Addr} {pd' : Nat} {x : Pr}
    (ow : Own w2 56 2 pb' (m.pairs.length + 1) pd' (m.pairs.flatMap csP ++ csP x)) (hn : ∀ g ∈ ab pb', g ∈ ab pb ∨ (wr.alloc o).heap.size ≤ g) :
    LtI w (w2.setCell ⟨B3, 0, none⟩ (.slice pb' (m.pairs.length + 1) pd')) lo B3 nd pb' sb kb pd' sd kd ⟨m.pairs ++ [x], m.seps, m.kids⟩ := by
  have hm := h.mid k (fun g hg => by simp [hg])
  have hz : (wr.alloc o).heap.size = wr.heap.size + 1 := by simp
  have k0 : Kp [] wr (wr.alloc o) := (Kp.refl [] wr).alloc o
  refine h.step k (fun g hg => by simp [hg]) ?_ ?_ ((h.own.ss.kp k0 (by simp)).kp k (fun g hg h' => (h.own.d1 g h').1 hg)) ((h.own.ks.kp k0 (by simp)).kp k (fun g hg h' => (h.own.d1 g h').2 hg)) ?_ ?_ h.own.d2
  · have := hm.set 0 (.slice pb' (m.pairs.length + 1) pd'); simpa using this
  · simpa [List.flatMap_append] using ow
  · intro g hg
    simp only [List.mem_append] at hg ⊢
    rcases hg with (hg | hg) | hg
    · rcases hn g hg with h1 | h1
      · exact .inl (.inl (.inl h1))
      · exact .inr h1
    · exact .inl (.inl (.inr hg))
    · exact .inl (.inr hg)
  · intro g hg
    rcases hn g hg with h1 | h1
    · exact h.own.d1 g h1
    · exact ⟨fun e => by have := h.own.ss.lt g e; omega, fun e => by have := h.own.ks.lt g e; omega⟩
theorem LtI.texts {w wr : World} {lo B3 : Nat} {nd : Array Value} {pb sb kb : Option Addr} {pd sd kd : Nat} {m : Nd} (h : LtI w wr lo B3 nd pb sb kb pd sd kd m) {o : Obj} {w2 : World} (k : Kp (ab sb) (wr.alloc o) w2) {sb' : Option Addr} {sd' : Nat} {x : Bs}
    (ow : Own w2 9 1 sb' (m.seps.length + 1) sd' (m.seps.flatMap csS ++ csS x)) (hn : ∀ g ∈ ab sb', g ∈ ab sb ∨ (wr.alloc o).heap.size ≤ g) :
    LtI w (w2.setCell ⟨B3, 1, none⟩ (.slice sb' (m.seps.length + 1) sd')) lo B3 nd pb sb' kb pd sd' kd ⟨m.pairs, m.seps ++ [x], m.kids⟩ := by
  have hm := h.mid k (fun g hg => by simp [hg])
  have hz : (wr.alloc o).heap.size = wr.heap.size + 1 := by simp
  have k0 : Kp [] wr (wr.alloc o) := (Kp.refl [] wr).alloc o
  refine h.step k (fun g hg => by simp [hg]) ?_ ((h.own.ps.kp k0 (by simp)).kp k (fun g hg h' => (h.own.d1 g hg).1 h')) ?_ ((h.own.ks.kp k0 (by simp)).kp k (fun g hg h' => h.own.d2 g h' hg)) ?_ ?_ ?_
  · have := hm.set 1 (.slice sb' (m.seps.length + 1) sd'); simpa using this
  · simpa [List.flatMap_append] using ow
  · intro g hg
    simp only [List.mem_append] at hg ⊢
    rcases hg with (hg | hg) | hg
    · exact .inl (.inl (.inl hg))
    · rcases hn g hg with h1 | h1
      · exact .inl (.inl (.inr h1))
      · exact .inr h1
    · exact .inl (.inr hg)
  · intro g hg
    refine ⟨fun e => ?_, (h.own.d1 g hg).2⟩
    rcases hn g e with h1 | h1
    · exact (h.own.d1 g hg).1 h1
    · have := h.own.ps.lt g hg; omega
  · intro g hg
    rcases hn g hg with h1 | h1
    · exact h.own.d2 g h1
    · exact fun e => by have := h.own.ks.lt g e; omega
theorem LtI.kids {w wr : World} {lo B3 : Nat} {nd : Array Value} {pb sb kb : Option Addr} {pd sd kd : Nat} {m : Nd} (h : LtI w wr lo B3 nd pb sb kb pd sd kd m) {o : Obj} {w2 : World} (k : Kp (ab kb) (wr.alloc o) w2) {kb' : Option Addr} {kd' : Nat} {x : Kd}
    (ow : Own w2 59 33 kb' (m.kids.length + 1) kd' (m.kids.flatMap csK ++ csK x)) (hn : ∀ g ∈ ab kb', g ∈ ab kb ∨ (wr.alloc o).heap.size ≤ g) :
    LtI w (w2.setCell ⟨B3, 2, none⟩ (.slice kb' (m.kids.length + 1) kd')) lo B3 nd pb sb kb' pd sd kd' ⟨m.pairs, m.seps, m.kids ++ [x]⟩ := by
  have hm := h.mid k (fun g hg => by simp [hg])
  have hz : (wr.alloc o).heap.size = wr.heap.size + 1 := by simp
  have k0 : Kp [] wr (wr.alloc o) := (Kp.refl [] wr).alloc o
  refine h.step k (fun g hg => by simp [hg]) ?_ ((h.own.ps.kp k0 (by simp)).kp k (fun g hg h' => (h.own.d1 g hg).2 h')) ((h.own.ss.kp k0 (by simp)).kp k (fun g hg h' => h.own.d2 g hg h')) ?_ ?_ ?_ ?_
  · have := hm.set 2 (.slice kb' (m.kids.length + 1) kd'); simpa using this
  · simpa [List.flatMap_append] using ow
  · intro g hg
    simp only [List.mem_append] at hg ⊢
    rcases hg with (hg | hg) | hg
    · exact .inl (.inl (.inl hg))
    · exact .inl (.inl (.inr hg))
    · rcases hn g hg with h1 | h1
      · exact .inl (.inr h1)
      · exact .inr h1
  · intro g hg
    refine ⟨(h.own.d1 g hg).1, fun e => ?_⟩
    rcases hn g e with h1 | h1
    · exact (h.own.d1 g hg).2 h1
    · have := h.own.ps.lt g hg; omega
  · intro g hg e
    rcases hn g e with h1 | h1
    · exact h.own.d2 g hg h1
    · have := h.own.ss.lt g hg; omega

end Go.Proofs.YtemicgccgcmmbaaGreat

/- lent: the walk. -/
namespace Go.Proofs.YtemicgccgcmmbaaGreat
set_option linter.unusedVariables false
set_option linter.unusedSimpArgs false
open Go Go.RowKit

theorem own_some {w : World} {e : TypeId} {size : Nat} {a : Option Addr} {n c : Nat} {xs : List Value} (h : Own w e size a n c xs) (h0 : 0 < n) : ∃ g, a = some ⟨g, 0, none⟩ ∧ n ≤ c ∧ c ≤ maxLen := by
  rcases h.block.2 with ⟨_, h1, _⟩ | ⟨g, cur, h1, hb, h2, h3, _⟩
  · omega
  · exact ⟨g, h1, h2, h3⟩
theorem mark_str : (⟨#[109, 97, 114, 107]⟩ : ByteArray) = ⟨mkB.toArray⟩ := rfl
set_option maxHeartbeats 4000000 in
set_option maxRecDepth 100000 in
theorem lent_any (pa sa ka : Option Addr) (pc sc kc : Nat) (n : Nd) (w : World) (h : NdAt w pa sa ka n) (ho : NdOk n) (hf : NdFew n) :
    Calls Tryz.prog 21 #[.agg #[.slice pa n.pairs.length pc, .slice sa n.seps.length sc, .slice ka n.kids.length kc]] w (LentPost n w) := by
  have fp := hf.np; have fs := hf.ns; have fk := hf.nk
  obtain ⟨W0, hW0⟩ : ∃ W0, W0 = (w.alloc (.cells #[.slice pa n.pairs.length pc, .slice sa n.seps.length sc, .slice ka n.kids.length kc] 28)).alloc (.cells #[.slice none 0 0, .slice none 0 0, .slice none 0 0] 28) := ⟨_, rfl⟩
  have kw : Kp [] w W0 := by rw [hW0]; exact ((Kp.refl [] w).alloc _).alloc _
  have b0 : Blk W0 w.heap.size 28 #[.slice pa n.pairs.length pc, .slice sa n.seps.length sc, .slice ka n.kids.length kc] := by rw [hW0]; exact (Blk.new w _ _).alloc _
  have b1 : Blk W0 (w.heap.size + 1) 28 #[.slice none 0 0, .slice none 0 0, .slice none 0 0] := by
    rw [hW0]
    have h := Blk.new (w.alloc (.cells #[.slice pa n.pairs.length pc, .slice sa n.seps.length sc, .slice ka n.kids.length kc] 28)) 28 #[.slice none 0 0, .slice none 0 0, .slice none 0 0]
    simpa using h
  have KW := Lib.hid kw; have B0 := Lib.hid b0; have B1 := Lib.hid b1; have H := Lib.hid (h.kp0 kw); have HO := Lib.hid ho
  have HW0 := Lib.hid hW0
  clear h kw b0 b1 ho hf hW0
  go_enter Tryz.func21, Tryz.ntmps21
  go_wp2_with fail
  rw [← HW0.out]
  refine (refCopy_any _ _ _ _ _ _ n _ H.out HO.out).mono ?_
  rintro e w1 ⟨pb, sb, kb, pd, sd, kd, rfl, ow, k1⟩
  have L1 := Lib.hid (LtI.start B0.out B1.out KW.out k1 ow)
  have z1 := ow.ps.block.1
  clear ow k1
  go_wp2_with (first
    | (at_builtin; refine wpList_app2_pair rfl rfl rfl (L1.out.own.ps.kp ((Kp.refl [] _).alloc _) (by simp)) 1 _ (src_row Tryz.underlying24 _ _ _ _ (by simp) rfl (by simp [Value.oneCell'])) (by omega) ?_; intro pb2 pd2 w2 o2 k2 n2 _o; have L2 := Lib.hid (LtI.pairs (x := (mkB, [])) L1.out k2 o2 n2); obtain ⟨y0, y1, y2, y3, y4, y5, y6⟩ := LtI.facts (L1.out.mid k2 (fun g hg => by simp [hg])); clear o2 k2 n2)
    | (at_builtin; refine wpList_app2_str rfl rfl rfl (L2.out.own.ss.kp ((Kp.refl [] _).alloc _) (by simp)) 1 _ (src_row Tryz.underlying25 _ _ _ _ (by simp) rfl (by simp [Value.oneCell'])) (by omega) ?_; intro sb2 sd2 w3 o3 k3 n3 _o; have L3 := Lib.hid (LtI.texts (x := mkB) L2.out k3 o3 n3); obtain ⟨y0, y1, y2, y3, y4, y5, y6⟩ := LtI.facts (L2.out.mid k3 (fun g hg => by simp [hg])); clear o3 k3 n3)
    | (at_builtin; refine wpList_app2_kid rfl rfl rfl (L3.out.own.ks.kp ((Kp.refl [] _).alloc _) (by simp)) 1 _ (src_row Tryz.underlying26 _ _ _ _ (by simp) (Kd.c_size kMark) (Kd.c_one kMark)) (by omega) ?_; intro kb2 kd2 w4 o4 k4 n4 _o; have L4 := Lib.hid (LtI.kids (x := kMark) L3.out k4 o4 n4); obtain ⟨y0, y1, y2, y3, y4, y5, y6⟩ := LtI.facts (L3.out.mid k4 (fun g hg => by simp [hg])); clear o4 k4 n4))
  clear y0 y1 y2 y3 y4 y5 y6
  obtain ⟨gp, rfl, hc1, hm1⟩ := own_some L4.out.own.ps (by simp)
  obtain ⟨gs, rfl, hc2, hm2⟩ := own_some L4.out.own.ss (by simp)
  obtain ⟨gk, rfl, hc3, hm3⟩ := own_some L4.out.own.ks (by simp)
  simp only [List.length_append, List.length_cons, List.length_nil, Nat.zero_add] at hc1 hc2 hc3
  obtain ⟨W5, hW5⟩ : ∃ W, W = w4.setCell ⟨w1.heap.size, 2, none⟩ (.slice (some ⟨gk, 0, none⟩) (n.kids.length + 1) kd2) := ⟨_, rfl⟩
  have L6 : Hid (LtI w W5 W0.heap.size w1.heap.size #[.slice pa n.pairs.length pc, .slice sa n.seps.length sc, .slice ka n.kids.length kc] (some ⟨gp, 0, none⟩) (some ⟨gs, 0, none⟩) (some ⟨gk, 0, none⟩) pd2 sd2 kd2 n.mk1) := by rw [hW5]; exact L4
  rw [← hW5]
  clear L1 L2 L3 L4 hW5
  have ln1 : n.mk1.pairs.length = n.pairs.length + 1 := by simp [Nd.mk1]
  have ln2 : n.mk1.seps.length = n.seps.length + 1 := by simp [Nd.mk1]
  have ln3 : n.mk1.kids.length = n.kids.length + 1 := by simp [Nd.mk1]
  have hne : w1.heap.size ≠ w.heap.size + 1 := by have := L6.out.lw; have := L6.out.b3l; omega
  have SK : Hid (∀ W : World, Kp [w.heap.size + 1] W5 W → (W.cell? ⟨w.heap.size, 0, none⟩ = some (.slice pa n.pairs.length pc) ∧ W.cell? ⟨w.heap.size, 1, none⟩ = some (.slice sa n.seps.length sc) ∧ W.cell? ⟨w.heap.size, 2, none⟩ = some (.slice ka n.kids.length kc) ∧ W.cell? ⟨w1.heap.size, 0, none⟩ = some (.slice (some ⟨gp, 0, none⟩) (n.pairs.length + 1) pd2) ∧ W.cell? ⟨w1.heap.size, 1, none⟩ = some (.slice (some ⟨gs, 0, none⟩) (n.seps.length + 1) sd2) ∧ W.cell? ⟨w1.heap.size, 2, none⟩ = some (.slice (some ⟨gk, 0, none⟩) (n.kids.length + 1) kd2))) := Lib.hid (fun W k => by
    have c0 := L6.out.b0.kp k (by simp)
    have c3 := L6.out.b3.kp k (by simpa using hne)
    rw [ln1, ln2, ln3] at c3
    exact ⟨c0.cell 0, c0.cell 1, c0.cell 2, c3.cell 0, c3.cell 1, c3.cell 2⟩)
  obtain ⟨y0, y1, y2, y3, y4, y5, y6⟩ := LtI.facts L6.out.b1
  clear ln1 ln2 ln3
  have i1 : (n.pairs.length : Int) ≤ (pd2 : Int) := by omega
  have i2 : (n.seps.length : Int) ≤ (sd2 : Int) := by omega
  have i3 : (n.kids.length : Int) ≤ (kd2 : Int) := by omega
  have j1 : (0 : Int) ≤ (n.pairs.length : Int) := by omega
  have j2 : (0 : Int) ≤ (n.seps.length : Int) := by omega
  have j3 : (0 : Int) ≤ (n.kids.length : Int) := by omega
  have l1 : n.pairs.length ≤ pd2 := by omega
  have l2 : n.seps.length ≤ sd2 := by omega
  have l3 : n.kids.length ≤ kd2 := by omega
  go_region_held3 (fun W => W.cell? ⟨w.heap.size, 0, none⟩ = some (.slice pa n.pairs.length pc) ∧ W.cell? ⟨w.heap.size, 1, none⟩ = some (.slice sa n.seps.length sc) ∧ W.cell? ⟨w.heap.size, 2, none⟩ = some (.slice ka n.kids.length kc) ∧ W.cell? ⟨w1.heap.size, 0, none⟩ = some (.slice (some ⟨gp, 0, none⟩) (n.pairs.length + 1) pd2) ∧ W.cell? ⟨w1.heap.size, 1, none⟩ = some (.slice (some ⟨gs, 0, none⟩) (n.seps.length + 1) sd2) ∧ W.cell? ⟨w1.heap.size, 2, none⟩ = some (.slice (some ⟨gk, 0, none⟩) (n.kids.length + 1) kd2))
    (first | exact SK.out _ ((((Kp.refl [w.heap.size + 1] W5).drew.setCell _ (.inr (by simp))).setCell _ (.inr (by simp))).setCell _ (.inr (by simp))) | exact SK.out _ ((Kp.refl _ _).drew))
    (fail)
  all_goals go_wp2_with fail
  all_goals
    have kG : Kp [w.heap.size + 1] W5 (((W5.setCell ⟨w.heap.size + 1, 0, none⟩ (.slice (some ⟨gp, 0, none⟩) n.pairs.length pd2)).setCell ⟨w.heap.size + 1, 1, none⟩ (.slice (some ⟨gs, 0, none⟩) n.seps.length sd2)).setCell ⟨w.heap.size + 1, 2, none⟩ (.slice (some ⟨gk, 0, none⟩) n.kids.length kd2)).drew := ((((Kp.refl [w.heap.size + 1] W5).setCell _ (.inr (by simp))).setCell _ (.inr (by simp))).setCell _ (.inr (by simp))).drew
    have hb : Blk (((W5.setCell ⟨w.heap.size + 1, 0, none⟩ (.slice (some ⟨gp, 0, none⟩) n.pairs.length pd2)).setCell ⟨w.heap.size + 1, 1, none⟩ (.slice (some ⟨gs, 0, none⟩) n.seps.length sd2)).setCell ⟨w.heap.size + 1, 2, none⟩ (.slice (some ⟨gk, 0, none⟩) n.kids.length kd2)).drew (w.heap.size + 1) 28 #[.slice (some ⟨gp, 0, none⟩) n.pairs.length pd2, .slice (some ⟨gs, 0, none⟩) n.seps.length sd2, .slice (some ⟨gk, 0, none⟩) n.kids.length kd2] := by
      have h := (((L6.out.b1.set 0 (.slice (some ⟨gp, 0, none⟩) n.pairs.length pd2)).set 1 (.slice (some ⟨gs, 0, none⟩) n.seps.length sd2)).set 2 (.slice (some ⟨gk, 0, none⟩) n.kids.length kd2)).drew
      simpa using h
    have hlw := L6.out.lw
    refine nd_ret1 (w.heap.size + 1) rfl rfl hb rfl ⟨gp, gs, gk, pd2, sd2, kd2, rfl, Own3.le (L6.out.own.kp kG (fun g hg => by have := L6.out.own.lo g hg; simp; omega)) (by omega), L6.out.kp.from kG (fun g hg => by simp at hg; subst hg; exact .inl (by omega))⟩

end Go.Proofs.YtemicgccgcmmbaaGreat
