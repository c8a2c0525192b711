/- spoil: the walk. -/
import Derived.Test.YtemicgccgcmmbaaGreatZ14
namespace Go.Proofs.YtemicgccgcmmbaaGreat
set_option linter.unusedVariables false
set_option linter.unusedSimpArgs false
open Go Go.RowKit

@[go_sem] theorem conv_one (w : World) (mark : UInt8) (g : Nat) (hg : g = w.heap.size) : (convert 66 9 (.slice (some ⟨g, 0, none⟩) 1 1)).run Tryz.prog (w.alloc (.cells #[.int .u8 (mark.toNat : Int)] 5)) = .ok (.string ⟨#[mark]⟩) (w.alloc (.cells #[.int .u8 (mark.toNat : Int)] 5)) := by
  subst hg
  refine conv_cells (t := [mark]) _ _ ?_
  intro j u hj
  match j, hj with
  | 0, hj =>
    simp [bC] at hj
    subst hj
    have := (Blk.new w 5 #[.int .u8 (mark.toNat : Int)]).cell 0
    simp [Addr.add]
theorem str_x (mark : UInt8) : (⟨#[120]⟩ : ByteArray) ++ ⟨#[mark]⟩ = ⟨(xB mark).toArray⟩ := by
  apply ByteArray.ext
  simp [xB, ByteArray.data_append]
theorem SpI.pairAt {w wr : World} {lo : Nat} {pa sa ka : Option Addr} {pc sc kc : Nat} {nd : Array Value} {m : Nd} (h : SpI w wr lo pa sa ka pc sc kc nd m) {k : Nat} {x : Pr} (hx : m.pairs[k]? = some x) :
    ∃ g, pa = some ⟨g, 0, none⟩ ∧ g < wr.heap.size ∧ wr.cell? ⟨g, k * 2, none⟩ = some (.string ⟨x.1.toArray⟩) ∧ wr.cell? ⟨g, k * 2 + 1, none⟩ = some (.string ⟨x.2.toArray⟩) ∧ wr.frozen? ⟨g, k * 2, none⟩ = false ∧ wr.frozen? ⟨g, k * 2 + 1, none⟩ = false := by
  rcases h.own.ps.block.2 with ⟨_, h1, _⟩ | ⟨g, cur, h1, hb, _⟩
  · have := (List.getElem?_eq_some_iff.1 hx).1; omega
  · obtain ⟨b, o, e, _, c1, c2⟩ := h.own.at.ps k x hx
    rw [h1] at e; cases e
    exact ⟨g, h1, hb.lt, by simpa using c1, by simpa using c2, hb.frozen _, hb.frozen _⟩
theorem SpI.textAt {w wr : World} {lo : Nat} {pa sa ka : Option Addr} {pc sc kc : Nat} {nd : Array Value} {m : Nd} (h : SpI w wr lo pa sa ka pc sc kc nd m) {k : Nat} {x : Bs} (hx : m.seps[k]? = some x) :
    ∃ g, sa = some ⟨g, 0, none⟩ ∧ g < wr.heap.size ∧ wr.cell? ⟨g, k, none⟩ = some (.string ⟨x.toArray⟩) ∧ wr.frozen? ⟨g, k, none⟩ = false := by
  rcases h.own.ss.block.2 with ⟨_, h1, _⟩ | ⟨g, cur, h1, hb, _⟩
  · have := (List.getElem?_eq_some_iff.1 hx).1; omega
  · obtain ⟨b, o, e, _, c1⟩ := h.own.at.ss k x hx
    rw [h1] at e; cases e
    exact ⟨g, h1, hb.lt, by simpa using c1, hb.frozen _⟩
theorem SpI.kidAt {w wr : World} {lo : Nat} {pa sa ka : Option Addr} {pc sc kc : Nat} {nd : Array Value} {m : Nd} (h : SpI w wr lo pa sa ka pc sc kc nd m) {k : Nat} (hk : k < m.kids.length) :
    ∃ g cur, ka = some ⟨g, 0, none⟩ ∧ g < wr.heap.size ∧ own? wr g = some cur ∧ k * 33 + 33 ≤ cur.size := by
  rcases h.own.ks.block.2 with ⟨_, h1, _⟩ | ⟨g, cur, h1, hb, _⟩
  · omega
  · refine ⟨g, cur, h1, hb.lt, own?_blk hb, ?_⟩
    have h2 := h.own.ks
    rw [h1] at h2
    exact (own_kid h2 hk Kd.zero (own?_blk hb)).2

set_option maxHeartbeats 1000000 in set_option maxRecDepth 100000 in
theorem spoil_any (mark : UInt8) (lo : Nat) (pa sa ka : Option Addr) (pc sc kc : Nat) (n t : Nd) (w : World) (h : Own3 w lo pa sa ka pc sc kc (n.app t)) (hf : NdFew n) :
    Calls Tryz.prog 38 #[.agg #[.slice pa n.pairs.length pc, .slice sa n.seps.length sc, .slice ka n.kids.length kc], .int .u32 (mark.toNat : Int)] w fun e w' =>
      e = .returned (.tuple #[]) ∧ Own3 w' lo pa sa ka pc sc kc ((n.spoilt mark).app t) ∧ Kp (ab pa ++ ab sa ++ ab ka) w w' := by
  have S0 : Hid (SpI w (w.alloc (.cells #[.slice pa n.pairs.length pc, .slice sa n.seps.length sc, .slice ka n.kids.length kc] 28)) lo pa sa ka pc sc kc #[.slice pa n.pairs.length pc, .slice sa n.seps.length sc, .slice ka n.kids.length kc] ⟨over 0 (xB mark, []) (n.app t).pairs, (n.app t).seps, (n.app t).kids⟩) := Lib.hid (SpI.start h)
  have fp := hf.np; have fs := hf.ns; have fk := hf.nk
  have hm : mark.toNat < 256 := mark.toNat_lt
  have l1 : n.pairs.length ≤ (n.app t).pairs.length := by simp [Nd.app]
  have l2 : n.seps.length ≤ (n.app t).seps.length := by simp [Nd.app]
  have l3 : n.kids.length ≤ (n.app t).kids.length := by simp [Nd.app]
  clear h hf
  go_enter Tryz.func38, Tryz.ntmps38
  go_wp2_with fail
  go_loopw [4] (fun i wr => ∃ k, i = .int .i64 (k : Nat) ∧ k ≤ n.pairs.length ∧ Hid (SpI w wr lo pa sa ka pc sc kc #[.slice pa n.pairs.length pc, .slice sa n.seps.length sc, .slice ka n.kids.length kc] ⟨over k (xB mark, []) (n.app t).pairs, (n.app t).seps, (n.app t).kids⟩)) (fun i _ => n.pairs.length - (intOf i).toNat)
  case atStart => exact ⟨0, rfl, Nat.zero_le _, S0⟩
  case round =>
    clear S0
    obtain ⟨k, rfl, hk, SI⟩ := hrel
    have c5 := SI.out.bx.cell 0; have c6 := SI.out.bx.cell 1; have c7 := SI.out.bx.cell 2; have g8 := SI.out.bx.lt
    simp only [List.getElem?_toArray, List.getElem?_cons_zero, List.getElem?_cons_succ] at c5 c6 c7
    by_cases hlt : k < n.pairs.length
    · obtain ⟨x, hx⟩ : ∃ x, (n.app t).pairs[k]? = some x := ⟨_, List.getElem?_eq_getElem (by omega)⟩
      have hx2 := over_get (xB mark, []) hx
      obtain ⟨g, rfl, gl, d1, d2, d3, d4⟩ := SI.out.pairAt hx2
      have HX := Lib.hid hx2
      clear hx hx2
      go_wp2_with fail
      go_roundw
      case rel =>
        have h := (SI.out.pair HX.out (xB mark, [])).next ((Kp.refl [] _).alloc (.cells #[.int .u8 (mark.toNat : Int)] 5))
        rw [over_set0 _ (by omega)] at h
        exact ⟨k + 1, by go_num, by omega, by rw [str_x]; exact Lib.hid h⟩
      case measure => simp [intOf]; omega
    · have S0 : Hid (SpI w wr lo pa sa ka pc sc kc #[.slice pa n.pairs.length pc, .slice sa n.seps.length sc, .slice ka n.kids.length kc] ⟨List.replicate n.pairs.length (xB mark, []) ++ t.pairs, over 0 (xB mark) (n.app t).seps, (n.app t).kids⟩) := Lib.hid (by
        have h := SI.out
        rw [show k = n.pairs.length by omega] at h
        rw [over_zero, ← over_all]
        exact h)
      clear SI
      go_wp2_with fail
      go_loopw [5] (fun i wr => ∃ k, i = .int .i64 (k : Nat) ∧ k ≤ n.seps.length ∧ Hid (SpI w wr lo pa sa ka pc sc kc #[.slice pa n.pairs.length pc, .slice sa n.seps.length sc, .slice ka n.kids.length kc] ⟨List.replicate n.pairs.length (xB mark, []) ++ t.pairs, over k (xB mark) (n.app t).seps, (n.app t).kids⟩)) (fun i _ => n.seps.length - (intOf i).toNat)
      case atStart => exact ⟨0, rfl, Nat.zero_le _, S0⟩
      case round =>
        clear S0 c5 c6 c7 g8
        obtain ⟨k, rfl, hk, SI⟩ := hrel
        have c5 := SI.out.bx.cell 0; have c6 := SI.out.bx.cell 1; have c7 := SI.out.bx.cell 2; have g8 := SI.out.bx.lt
        simp only [List.getElem?_toArray, List.getElem?_cons_zero, List.getElem?_cons_succ] at c5 c6 c7
        by_cases hlt : k < n.seps.length
        · obtain ⟨x, hx⟩ : ∃ x, (n.app t).seps[k]? = some x := ⟨_, List.getElem?_eq_getElem (by omega)⟩
          have hx2 := over_get (xB mark) hx
          obtain ⟨g, rfl, gl, d1, d2⟩ := SI.out.textAt hx2
          have HX := Lib.hid hx2
          clear hx hx2
          go_wp2_with fail
          go_roundw
          case rel =>
            have h := (SI.out.text HX.out (xB mark)).next ((Kp.refl [] _).alloc (.cells #[.int .u8 (mark.toNat : Int)] 5))
            rw [over_set0 _ (by omega)] at h
            exact ⟨k + 1, by go_num, by omega, by rw [str_x]; exact Lib.hid h⟩
          case measure => simp [intOf]; omega
        · have S0 : Hid (SpI w wr lo pa sa ka pc sc kc #[.slice pa n.pairs.length pc, .slice sa n.seps.length sc, .slice ka n.kids.length kc] ⟨List.replicate n.pairs.length (xB mark, []) ++ t.pairs, List.replicate n.seps.length (xB mark) ++ t.seps, over 0 ⟨mark.toNat, Dg.zero⟩ (n.app t).kids⟩) := Lib.hid (by
            have h := SI.out
            rw [show k = n.seps.length by omega] at h
            rw [over_zero, ← over_all (xB mark)]
            exact h)
          clear SI
          go_wp2_with fail
          go_loopw [6] (fun i wr => ∃ k, i = .int .i64 (k : Nat) ∧ k ≤ n.kids.length ∧ Hid (SpI w wr lo pa sa ka pc sc kc #[.slice pa n.pairs.length pc, .slice sa n.seps.length sc, .slice ka n.kids.length kc] ⟨List.replicate n.pairs.length (xB mark, []) ++ t.pairs, List.replicate n.seps.length (xB mark) ++ t.seps, over k ⟨mark.toNat, Dg.zero⟩ (n.app t).kids⟩)) (fun i _ => n.kids.length - (intOf i).toNat)
          case atStart => exact ⟨0, rfl, Nat.zero_le _, S0⟩
          case round =>
            clear S0 c5 c6 c7 g8
            obtain ⟨k, rfl, hk, SI⟩ := hrel
            have c5 := SI.out.bx.cell 0; have c6 := SI.out.bx.cell 1; have c7 := SI.out.bx.cell 2; have g8 := SI.out.bx.lt
            simp only [List.getElem?_toArray, List.getElem?_cons_zero, List.getElem?_cons_succ] at c5 c6 c7
            by_cases hlt : k < n.kids.length
            · have hl4 := over_len (⟨mark.toNat, Dg.zero⟩ : Kd) (show k ≤ (n.app t).kids.length by omega)
              have hkl : k < (over k (⟨mark.toNat, Dg.zero⟩ : Kd) (n.app t).kids).length := by omega
              obtain ⟨g, cur, rfl, gl, d1, d2⟩ := SI.out.kidAt hkl
              have HX := Lib.hid hkl
              clear hl4 hkl
              go_wp2_with fail
              go_roundw
              case rel =>
                have h := SI.out.kid HX.out ⟨mark.toNat, Dg.zero⟩ d1
                rw [over_set0 _ (by omega)] at h
                exact ⟨k + 1, by go_num, by omega, Lib.hid h⟩
              case measure => simp [intOf]; omega
            · have SF := Lib.hid (show SpI w wr lo pa sa ka pc sc kc #[.slice pa n.pairs.length pc, .slice sa n.seps.length sc, .slice ka n.kids.length kc] ⟨List.replicate n.pairs.length (xB mark, []) ++ t.pairs, List.replicate n.seps.length (xB mark) ++ t.seps, List.replicate n.kids.length ⟨mark.toNat, Dg.zero⟩ ++ t.kids⟩ from by
                have h := SI.out
                rw [show k = n.kids.length by omega] at h
                rw [← over_all (⟨mark.toNat, Dg.zero⟩ : Kd)]
                exact h)
              go_wp2_with fail
              go_end0
              exact ⟨rfl, SF.out.own, SF.out.kp⟩

end Go.Proofs.YtemicgccgcmmbaaGreat

/- What grown does to a node's lists. -/
namespace Go.Proofs.YtemicgccgcmmbaaGreat
set_option linter.unusedVariables false
set_option linter.unusedSimpArgs false
open Go Go.RowKit

def isRowA (a : Option Addr) : Prop := a = none ∨ ∃ g, a = some ⟨g, 0, none⟩
theorem Own.rowA {w : World} {e : TypeId} {size : Nat} {a : Option Addr} {n c : Nat} {xs : List Value} (h : Own w e size a n c xs) : isRowA a := by
  rcases h.block.2 with ⟨h1, _⟩ | ⟨g, cur, h1, _⟩
  · exact .inl h1
  · exact .inr ⟨g, h1⟩
theorem isRowA.same {a b : Option Addr} (ha : isRowA a) (hb : isRowA b) : a = b ∨ ∀ g ∈ ab a, g ∉ ab b := by
  rcases ha with rfl | ⟨g, rfl⟩
  · exact .inr (by simp [ab])
  · rcases hb with rfl | ⟨g', rfl⟩
    · exact .inr (by simp [ab])
    · by_cases h : g = g'
      · subst h; exact .inl rfl
      · exact .inr (by simp [ab]; exact h)

/-- A node's lists grow; the old ones read as they did. -/
structure GrI (w wr : World) (lo : Nat) (pa sa ka : Option Addr) (n : Nd) (qa ta la : Option Addr) (qc tc lc : Nat) (m : Nd) : Prop where
  kp : Kp (ab pa ++ ab sa ++ ab ka) w wr
  bx : Blk wr w.heap.size 28 #[.slice qa m.pairs.length qc, .slice ta m.seps.length tc, .slice la m.kids.length lc]
  b1 : Blk wr (w.heap.size + 1) 28 #[.slice none 0 0, .slice none 0 0, .slice none 0 0]
  own : Own3 wr lo qa ta la qc tc lc m
  n1 : ∀ g ∈ ab qa, g ∈ ab pa ∨ w.heap.size + 2 ≤ g
  n2 : ∀ g ∈ ab ta, g ∈ ab sa ∨ w.heap.size + 2 ≤ g
  n3 : ∀ g ∈ ab la, g ∈ ab ka ∨ w.heap.size + 2 ≤ g
  tl : ∀ g ∈ ab pa ++ ab sa ++ ab ka, g < w.heap.size
  d1 : ∀ g ∈ ab pa, g ∉ ab sa ∧ g ∉ ab ka
  d2 : ∀ g ∈ ab sa, g ∉ ab ka
  r1 : isRowA pa
  r2 : isRowA sa
  r3 : isRowA ka
  o1 : PsAt wr pa n.pairs
  o2 : SsAt wr sa n.seps
  o3 : KsAt wr ka n.kids
  p1 : n.pairs <+: m.pairs
  p2 : n.seps <+: m.seps
  p3 : n.kids <+: m.kids
  ll : lo ≤ w.heap.size

theorem PsAt.fore {w : World} {a : Option Addr} {l m : List Pr} (h : PsAt w a m) (p : l <+: m) : PsAt w a l := by obtain ⟨r, rfl⟩ := p; exact h.pre
theorem SsAt.fore {w : World} {a : Option Addr} {l m : List Bs} (h : SsAt w a m) (p : l <+: m) : SsAt w a l := by obtain ⟨r, rfl⟩ := p; exact h.pre
theorem KsAt.fore {w : World} {a : Option Addr} {l m : List Kd} (h : KsAt w a m) (p : l <+: m) : KsAt w a l := by obtain ⟨r, rfl⟩ := p; exact h.pre
theorem Own.ss' {w : World} {a : Option Addr} {c : Nat} {l : List Bs} (h : Own w 9 1 a l.length c (l.flatMap csS)) : SsAt w a l := Own.ss (by rw [← csS_map]; exact h)

theorem GrI.lo2 {w wr : World} {lo : Nat} {pa sa ka : Option Addr} {n : Nd} {qa ta la : Option Addr} {qc tc lc : Nat} {m : Nd} (h : GrI w wr lo pa sa ka n qa ta la qc tc lc m) : w.heap.size + 2 ≤ wr.heap.size := by have := h.b1.lt; omega

theorem GrI.start {w : World} {lo : Nat} {pa sa ka : Option Addr} {pc sc kc : Nat} {n : Nd} (h : Own3 w lo pa sa ka pc sc kc n) (hl : lo ≤ w.heap.size) :
    GrI w ((w.alloc (.cells #[.slice pa n.pairs.length pc, .slice sa n.seps.length sc, .slice ka n.kids.length kc] 28)).alloc (.cells #[.slice none 0 0, .slice none 0 0, .slice none 0 0] 28)) lo pa sa ka n pa sa ka pc sc kc n := by
  have k : Kp [] w ((w.alloc (.cells #[.slice pa n.pairs.length pc, .slice sa n.seps.length sc, .slice ka n.kids.length kc] 28)).alloc (.cells #[.slice none 0 0, .slice none 0 0, .slice none 0 0] 28)) := ((Kp.refl [] w).alloc _).alloc _
  have o := h.kp k (by simp)
  refine ⟨k.of_nil, (Blk.new w _ _).alloc _, ?_, o, fun g hg => .inl hg, fun g hg => .inl hg, fun g hg => .inl hg, ?_, h.d1, h.d2, h.ps.rowA, h.ss.rowA, h.ks.rowA, o.at.ps, o.at.ss, o.at.ks, List.prefix_rfl, List.prefix_rfl, List.prefix_rfl, hl⟩
  · have hb := Blk.new (w.alloc (.cells #[.slice pa n.pairs.length pc, .slice sa n.seps.length sc, .slice ka n.kids.length kc] 28)) 28 #[.slice none 0 0, .slice none 0 0, .slice none 0 0]
    simpa using hb
  · intro g hg
    simp only [List.mem_append] at hg
    rcases hg with (hg | hg) | hg
    · exact h.ps.lt g hg
    · exact h.ss.lt g hg
    · exact h.ks.lt g hg

theorem GrI.pairs {w wr : World} {lo : Nat} {pa sa ka : Option Addr} {n : Nd} {qa ta la : Option Addr} {qc tc lc : Nat} {m : Nd} (h : GrI w wr lo pa sa ka n qa ta la qc tc lc m) {X w2 : World} (kX : Kp [] wr X) (k : Kp (ab qa) X w2) {a' : Option Addr} {c' : Nat} {x : Pr}
    (ow : Own w2 56 2 a' (m.pairs.length + 1) c' (m.pairs.flatMap csP ++ csP x)) (hn : ∀ g ∈ ab a', g ∈ ab qa ∨ X.heap.size ≤ g) (old : Own w2 56 2 qa m.pairs.length qc (m.pairs.flatMap csP)) :
    GrI w (w2.setCell ⟨w.heap.size, 0, none⟩ (.slice a' (m.pairs.length + 1) c')) lo pa sa ka n a' ta la c' tc lc ⟨m.pairs ++ [x], m.seps, m.kids⟩ := by
  have hz := kX.size
  have hlo := h.lo2
  have hB : ∀ g, g = w.heap.size ∨ g = w.heap.size + 1 → g ∉ ab qa := fun g hg e => by
    have ht := h.tl g
    rcases h.n1 g e with h1 | h1
    · have := ht (by simp [h1]); omega
    · omega
  have hbx := (h.bx.kp kX (by simp)).kp k (hB _ (.inl rfl))
  have kv : Kp [w.heap.size] w2 (w2.setCell ⟨w.heap.size, 0, none⟩ (.slice a' (m.pairs.length + 1) c')) := (Kp.refl [w.heap.size] w2).setCell _ (.inr (by simp))
  have hlow : ∀ g ∈ ab a', lo ≤ g := fun g hg => by
    rcases hn g hg with h1 | h1
    · exact h.own.lo g (by simp [h1])
    · have := h.ll; omega
  have hne : ∀ g ∈ ab a', g ≠ w.heap.size := fun g hg => by
    rcases hn g hg with h1 | h1
    · exact fun e => hB g (.inl e) h1
    · omega
  have hT : ∀ g ∈ ab pa ++ ab sa ++ ab ka, g ∉ [w.heap.size] := fun g hg => by have := h.tl g hg; simp; omega
  have c1 : ∀ g ∈ ab ta, g ∉ ab qa := fun g hg e => (h.own.d1 g e).1 hg
  have e1 : ∀ g ∈ ab sa, g ∉ ab qa := fun g hg e => by
      rcases h.n1 g e with h1 | h1
      · exact (h.d1 g h1).1 hg
      · have := h.tl g (by simp [hg]); omega
  have ww1 : Own w2 9 1 ta m.seps.length tc (m.seps.flatMap csS) := (h.own.ss.kp kX (by simp)).kp k c1
  have f1 : ∀ g ∈ ab ta, g ∉ ab a' := fun g hg e => by
    rcases hn g e with h1 | h1
    · exact c1 g hg h1
    · have := (h.own.ss.kp kX (by simp)).lt g hg; omega
  have c2 : ∀ g ∈ ab la, g ∉ ab qa := fun g hg e => (h.own.d1 g e).2 hg
  have e2 : ∀ g ∈ ab ka, g ∉ ab qa := fun g hg e => by
      rcases h.n1 g e with h1 | h1
      · exact (h.d1 g h1).2 hg
      · have := h.tl g (by simp [hg]); omega
  have ww2 : Own w2 59 33 la m.kids.length lc (m.kids.flatMap csK) := (h.own.ks.kp kX (by simp)).kp k c2
  have f2 : ∀ g ∈ ab la, g ∉ ab a' := fun g hg e => by
    rcases hn g e with h1 | h1
    · exact c2 g hg h1
    · have := (h.own.ks.kp kX (by simp)).lt g hg; omega
  have u : PsAt w2 pa n.pairs := by
    rcases h.r1.same old.rowA with e | e
    · rw [e]; exact (Own.ps old).fore h.p1
    · exact (h.o1.kp kX (by simp)).kp k e
  refine ⟨?_, ?_, ((h.b1.kp kX (by simp)).kp k (hB _ (.inr rfl))).kp kv (by simp), ?_, (fun g hg => by
    rcases hn g hg with h1 | h1
    · exact h.n1 g h1
    · exact .inr (by omega)), h.n2, h.n3, h.tl, h.d1, h.d2, h.r1, h.r2, h.r3, u.kp kv (fun g hg => hT g (by simp [hg])), ((h.o2.kp kX (by simp)).kp k e1).kp kv (fun g hg => hT g (by simp [hg])), ((h.o3.kp kX (by simp)).kp k e2).kp kv (fun g hg => hT g (by simp [hg])), h.p1.trans (List.prefix_append _ _), h.p2, h.p3, h.ll⟩
  · refine ((h.kp.trans kX.of_nil).from k (fun g hg => ?_)).from kv (fun g hg => ?_)
    · rcases h.n1 g hg with h1 | h1
      · exact .inr (by simp [h1])
      · exact .inl (by omega)
    · simp at hg; exact .inl (by omega)
  · have := hbx.set 0 (.slice a' (m.pairs.length + 1) c'); simpa using this
  · refine Own3.kp (S := [w.heap.size]) ⟨?_, ww1, ww2, ?_, fun g hg => ⟨fun e => f1 g e hg, fun e => f2 g e hg⟩, h.own.d2⟩ kv ?_
    · simpa [List.flatMap_append] using ow
    · intro g hg
      simp only [List.mem_append] at hg
      rcases hg with (hg | hg) | hg
      · exact hlow g hg
      · exact h.own.lo g (by simp [hg])
      · exact h.own.lo g (by simp [hg])
    · intro g hg
      simp only [List.mem_append] at hg
      rcases hg with (hg | hg) | hg
      · simp; exact hne g hg
      · simp; exact fun e => by
          have ht := h.tl g
          rcases h.n2 g hg with h1 | h1
          · have := ht (by simp [h1]); omega
          · omega
      · simp; exact fun e => by
          have ht := h.tl g
          rcases h.n3 g hg with h1 | h1
          · have := ht (by simp [h1]); omega
          · omega


theorem GrI.texts {w wr : World} {lo : Nat} {pa sa ka : Option Addr} {n : Nd} {qa ta la : Option Addr} {qc tc lc : Nat} {m : Nd} (h : GrI w wr lo pa sa ka n qa ta la qc tc lc m) {X w2 : World} (kX : Kp [] wr X) (k : Kp (ab ta) X w2) {a' : Option Addr} {c' : Nat} {x : Bs}
    (ow : Own w2 9 1 a' (m.seps.length + 1) c' (m.seps.flatMap csS ++ csS x)) (hn : ∀ g ∈ ab a', g ∈ ab ta ∨ X.heap.size ≤ g) (old : Own w2 9 1 ta m.seps.length tc (m.seps.flatMap csS)) :
    GrI w (w2.setCell ⟨w.heap.size, 1, none⟩ (.slice a' (m.seps.length + 1) c')) lo pa sa ka n qa a' la qc c' lc ⟨m.pairs, m.seps ++ [x], m.kids⟩ := by
  have hz := kX.size
  have hlo := h.lo2
  have hB : ∀ g, g = w.heap.size ∨ g = w.heap.size + 1 → g ∉ ab ta := fun g hg e => by
    have ht := h.tl g
    rcases h.n2 g e with h1 | h1
    · have := ht (by simp [h1]); omega
    · omega
  have hbx := (h.bx.kp kX (by simp)).kp k (hB _ (.inl rfl))
  have kv : Kp [w.heap.size] w2 (w2.setCell ⟨w.heap.size, 1, none⟩ (.slice a' (m.seps.length + 1) c')) := (Kp.refl [w.heap.size] w2).setCell _ (.inr (by simp))
  have hlow : ∀ g ∈ ab a', lo ≤ g := fun g hg => by
    rcases hn g hg with h1 | h1
    · exact h.own.lo g (by simp [h1])
    · have := h.ll; omega
  have hne : ∀ g ∈ ab a', g ≠ w.heap.size := fun g hg => by
    rcases hn g hg with h1 | h1
    · exact fun e => hB g (.inl e) h1
    · omega
  have hT : ∀ g ∈ ab pa ++ ab sa ++ ab ka, g ∉ [w.heap.size] := fun g hg => by have := h.tl g hg; simp; omega
  have c0 : ∀ g ∈ ab qa, g ∉ ab ta := fun g hg e => (h.own.d1 g hg).1 e
  have e0 : ∀ g ∈ ab pa, g ∉ ab ta := fun g hg e => by
      rcases h.n2 g e with h1 | h1
      · exact (h.d1 g hg).1 h1
      · have := h.tl g (by simp [hg]); omega
  have ww0 : Own w2 56 2 qa m.pairs.length qc (m.pairs.flatMap csP) := (h.own.ps.kp kX (by simp)).kp k c0
  have f0 : ∀ g ∈ ab qa, g ∉ ab a' := fun g hg e => by
    rcases hn g e with h1 | h1
    · exact c0 g hg h1
    · have := (h.own.ps.kp kX (by simp)).lt g hg; omega
  have c2 : ∀ g ∈ ab la, g ∉ ab ta := fun g hg e => h.own.d2 g e hg
  have e2 : ∀ g ∈ ab ka, g ∉ ab ta := fun g hg e => by
      rcases h.n2 g e with h1 | h1
      · exact h.d2 g h1 hg
      · have := h.tl g (by simp [hg]); omega
  have ww2 : Own w2 59 33 la m.kids.length lc (m.kids.flatMap csK) := (h.own.ks.kp kX (by simp)).kp k c2
  have f2 : ∀ g ∈ ab la, g ∉ ab a' := fun g hg e => by
    rcases hn g e with h1 | h1
    · exact c2 g hg h1
    · have := (h.own.ks.kp kX (by simp)).lt g hg; omega
  have u : SsAt w2 sa n.seps := by
    rcases h.r2.same old.rowA with e | e
    · rw [e]; exact (Own.ss' old).fore h.p2
    · exact (h.o2.kp kX (by simp)).kp k e
  refine ⟨?_, ?_, ((h.b1.kp kX (by simp)).kp k (hB _ (.inr rfl))).kp kv (by simp), ?_, h.n1, (fun g hg => by
    rcases hn g hg with h1 | h1
    · exact h.n2 g h1
    · exact .inr (by omega)), h.n3, h.tl, h.d1, h.d2, h.r1, h.r2, h.r3, ((h.o1.kp kX (by simp)).kp k e0).kp kv (fun g hg => hT g (by simp [hg])), u.kp kv (fun g hg => hT g (by simp [hg])), ((h.o3.kp kX (by simp)).kp k e2).kp kv (fun g hg => hT g (by simp [hg])), h.p1, h.p2.trans (List.prefix_append _ _), h.p3, h.ll⟩
  · refine ((h.kp.trans kX.of_nil).from k (fun g hg => ?_)).from kv (fun g hg => ?_)
    · rcases h.n2 g hg with h1 | h1
      · exact .inr (by simp [h1])
      · exact .inl (by omega)
    · simp at hg; exact .inl (by omega)
  · have := hbx.set 1 (.slice a' (m.seps.length + 1) c'); simpa using this
  · refine Own3.kp (S := [w.heap.size]) ⟨ww0, ?_, ww2, ?_, fun g hg => ⟨f0 g hg, (h.own.d1 g hg).2⟩, fun g hg e => f2 g e hg⟩ kv ?_
    · simpa [List.flatMap_append] using ow
    · intro g hg
      simp only [List.mem_append] at hg
      rcases hg with (hg | hg) | hg
      · exact h.own.lo g (by simp [hg])
      · exact hlow g hg
      · exact h.own.lo g (by simp [hg])
    · intro g hg
      simp only [List.mem_append] at hg
      rcases hg with (hg | hg) | hg
      · simp; exact fun e => by
          have ht := h.tl g
          rcases h.n1 g hg with h1 | h1
          · have := ht (by simp [h1]); omega
          · omega
      · simp; exact hne g hg
      · simp; exact fun e => by
          have ht := h.tl g
          rcases h.n3 g hg with h1 | h1
          · have := ht (by simp [h1]); omega
          · omega


theorem GrI.kids {w wr : World} {lo : Nat} {pa sa ka : Option Addr} {n : Nd} {qa ta la : Option Addr} {qc tc lc : Nat} {m : Nd} (h : GrI w wr lo pa sa ka n qa ta la qc tc lc m) {X w2 : World} (kX : Kp [] wr X) (k : Kp (ab la) X w2) {a' : Option Addr} {c' : Nat} {x : Kd}
    (ow : Own w2 59 33 a' (m.kids.length + 1) c' (m.kids.flatMap csK ++ csK x)) (hn : ∀ g ∈ ab a', g ∈ ab la ∨ X.heap.size ≤ g) (old : Own w2 59 33 la m.kids.length lc (m.kids.flatMap csK)) :
    GrI w (w2.setCell ⟨w.heap.size, 2, none⟩ (.slice a' (m.kids.length + 1) c')) lo pa sa ka n qa ta a' qc tc c' ⟨m.pairs, m.seps, m.kids ++ [x]⟩ := by
  have hz := kX.size
  have hlo := h.lo2
  have hB : ∀ g, g = w.heap.size ∨ g = w.heap.size + 1 → g ∉ ab la := fun g hg e => by
    have ht := h.tl g
    rcases h.n3 g e with h1 | h1
    · have := ht (by simp [h1]); omega
    · omega
  have hbx := (h.bx.kp kX (by simp)).kp k (hB _ (.inl rfl))
  have kv : Kp [w.heap.size] w2 (w2.setCell ⟨w.heap.size, 2, none⟩ (.slice a' (m.kids.length + 1) c')) := (Kp.refl [w.heap.size] w2).setCell _ (.inr (by simp))
  have hlow : ∀ g ∈ ab a', lo ≤ g := fun g hg => by
    rcases hn g hg with h1 | h1
    · exact h.own.lo g (by simp [h1])
    · have := h.ll; omega
  have hne : ∀ g ∈ ab a', g ≠ w.heap.size := fun g hg => by
    rcases hn g hg with h1 | h1
    · exact fun e => hB g (.inl e) h1
    · omega
  have hT : ∀ g ∈ ab pa ++ ab sa ++ ab ka, g ∉ [w.heap.size] := fun g hg => by have := h.tl g hg; simp; omega
  have c0 : ∀ g ∈ ab qa, g ∉ ab la := fun g hg e => (h.own.d1 g hg).2 e
  have e0 : ∀ g ∈ ab pa, g ∉ ab la := fun g hg e => by
      rcases h.n3 g e with h1 | h1
      · exact (h.d1 g hg).2 h1
      · have := h.tl g (by simp [hg]); omega
  have ww0 : Own w2 56 2 qa m.pairs.length qc (m.pairs.flatMap csP) := (h.own.ps.kp kX (by simp)).kp k c0
  have f0 : ∀ g ∈ ab qa, g ∉ ab a' := fun g hg e => by
    rcases hn g e with h1 | h1
    · exact c0 g hg h1
    · have := (h.own.ps.kp kX (by simp)).lt g hg; omega
  have c1 : ∀ g ∈ ab ta, g ∉ ab la := fun g hg e => h.own.d2 g hg e
  have e1 : ∀ g ∈ ab sa, g ∉ ab la := fun g hg e => by
      rcases h.n3 g e with h1 | h1
      · exact h.d2 g hg h1
      · have := h.tl g (by simp [hg]); omega
  have ww1 : Own w2 9 1 ta m.seps.length tc (m.seps.flatMap csS) := (h.own.ss.kp kX (by simp)).kp k c1
  have f1 : ∀ g ∈ ab ta, g ∉ ab a' := fun g hg e => by
    rcases hn g e with h1 | h1
    · exact c1 g hg h1
    · have := (h.own.ss.kp kX (by simp)).lt g hg; omega
  have u : KsAt w2 ka n.kids := by
    rcases h.r3.same old.rowA with e | e
    · rw [e]; exact (Own.ks old).fore h.p3
    · exact (h.o3.kp kX (by simp)).kp k e
  refine ⟨?_, ?_, ((h.b1.kp kX (by simp)).kp k (hB _ (.inr rfl))).kp kv (by simp), ?_, h.n1, h.n2, (fun g hg => by
    rcases hn g hg with h1 | h1
    · exact h.n3 g h1
    · exact .inr (by omega)), h.tl, h.d1, h.d2, h.r1, h.r2, h.r3, ((h.o1.kp kX (by simp)).kp k e0).kp kv (fun g hg => hT g (by simp [hg])), ((h.o2.kp kX (by simp)).kp k e1).kp kv (fun g hg => hT g (by simp [hg])), u.kp kv (fun g hg => hT g (by simp [hg])), h.p1, h.p2, h.p3.trans (List.prefix_append _ _), h.ll⟩
  · refine ((h.kp.trans kX.of_nil).from k (fun g hg => ?_)).from kv (fun g hg => ?_)
    · rcases h.n3 g hg with h1 | h1
      · exact .inr (by simp [h1])
      · exact .inl (by omega)
    · simp at hg; exact .inl (by omega)
  · have := hbx.set 2 (.slice a' (m.kids.length + 1) c'); simpa using this
  · refine Own3.kp (S := [w.heap.size]) ⟨ww0, ww1, ?_, ?_, fun g hg => ⟨(h.own.d1 g hg).1, f0 g hg⟩, f1⟩ kv ?_
    · simpa [List.flatMap_append] using ow
    · intro g hg
      simp only [List.mem_append] at hg
      rcases hg with (hg | hg) | hg
      · exact h.own.lo g (by simp [hg])
      · exact h.own.lo g (by simp [hg])
      · exact hlow g hg
    · intro g hg
      simp only [List.mem_append] at hg
      rcases hg with (hg | hg) | hg
      · simp; exact fun e => by
          have ht := h.tl g
          rcases h.n1 g hg with h1 | h1
          · have := ht (by simp [h1]); omega
          · omega
      · simp; exact fun e => by
          have ht := h.tl g
          rcases h.n2 g hg with h1 | h1
          · have := ht (by simp [h1]); omega
          · omega
      · simp; exact hne g hg


end Go.Proofs.YtemicgccgcmmbaaGreat

/- grown: the walk. -/
namespace Go.Proofs.YtemicgccgcmmbaaGreat
set_option linter.unusedVariables false
set_option linter.unusedSimpArgs false
open Go Go.RowKit

@[go_sem] theorem str_y (mark : UInt8) : (⟨#[121]⟩ : ByteArray) ++ ⟨#[mark]⟩ = ⟨(yB mark).toArray⟩ := by
  apply ByteArray.ext
  simp [yB, ByteArray.data_append]

def Nd.ys (mark : UInt8) (k : Nat) : Nd := ⟨List.replicate k (yB mark, []), List.replicate k (yB mark), List.replicate k ⟨mark.toNat + 100, Dg.zero⟩⟩

theorem GrI.mid {w wr : World} {lo : Nat} {pa sa ka : Option Addr} {n : Nd} {qa ta la : Option Addr} {qc tc lc : Nat} {m : Nd} (h : GrI w wr lo pa sa ka n qa ta la qc tc lc m) {X w2 : World} (kX : Kp [] wr X) {S : List Nat} (k : Kp S X w2) (hS : ∀ g ∈ S, g ∈ ab qa ++ ab ta ++ ab la) :
    Blk w2 w.heap.size 28 #[.slice qa m.pairs.length qc, .slice ta m.seps.length tc, .slice la m.kids.length lc] := by
  refine (h.bx.kp kX (by simp)).kp k (fun e => ?_)
  have ht := h.tl w.heap.size
  have := hS _ e
  simp only [List.mem_append] at this ht
  rcases this with (h1 | h1) | h1
  · rcases h.n1 _ h1 with h2 | h2
    · have := ht (.inl (.inl h2)); omega
    · omega
  · rcases h.n2 _ h1 with h2 | h2
    · have := ht (.inl (.inr h2)); omega
    · omega
  · rcases h.n3 _ h1 with h2 | h2
    · have := ht (.inr h2); omega
    · omega

def GrownPost (mark : UInt8) (n : Nd) (lo : Nat) (pa sa ka : Option Addr) (w : World) (e : Ending) (w' : World) : Prop :=
  ∃ qa ta la qc tc lc, e = .returned (.agg #[.slice qa (n.pairs.length + 40) qc, .slice ta (n.seps.length + 40) tc, .slice la (n.kids.length + 40) lc]) ∧ Own3 w' lo qa ta la qc tc lc (n.app (Nd.ys mark 40)) ∧ NdAt w' pa sa ka n ∧ Kp (ab pa ++ ab sa ++ ab ka) w w' ∧
    (∀ g ∈ ab qa, g ∈ ab pa ∨ w.heap.size ≤ g) ∧ (∀ g ∈ ab ta, g ∈ ab sa ∨ w.heap.size ≤ g) ∧ (∀ g ∈ ab la, g ∈ ab ka ∨ w.heap.size ≤ g)

theorem ys_step (mark : UInt8) (n : Nd) (k : Nat) : (⟨(n.app (Nd.ys mark k)).pairs ++ [(yB mark, [])], (n.app (Nd.ys mark k)).seps ++ [yB mark], (n.app (Nd.ys mark k)).kids ++ [⟨mark.toNat + 100, Dg.zero⟩]⟩ : Nd) = n.app (Nd.ys mark (k + 1)) := by
  simp [Nd.app, Nd.ys, List.replicate_succ']

set_option maxHeartbeats 4000000 in
set_option maxRecDepth 100000 in
theorem grown_any (mark : UInt8) (lo : Nat) (pa sa ka : Option Addr) (pc sc kc : Nat) (n : Nd) (w : World) (h : Own3 w lo pa sa ka pc sc kc n) (hl : lo ≤ w.heap.size) (hf : NdFew n) :
    Calls Tryz.prog 39 #[.agg #[.slice pa n.pairs.length pc, .slice sa n.seps.length sc, .slice ka n.kids.length kc], .int .u32 (mark.toNat : Int)] w (GrownPost mark n lo pa sa ka w) := by
  have G0 := Lib.hid (GrI.start h hl)
  have fp := hf.np; have fs := hf.ns; have fk := hf.nk
  have hm : mark.toNat < 256 := mark.toNat_lt
  obtain ⟨mk, hmk, hmk2⟩ : ∃ mk : Nat, (mark.toNat : Int) + 100 = (mk : Int) ∧ Hid (mk = mark.toNat + 100) := ⟨mark.toNat + 100, by simp, rfl⟩
  clear h hl hf
  go_enter Tryz.func39, Tryz.ntmps39
  go_wp2_with fail
  go_loopw [5] (fun i wr => ∃ k qa ta la qc tc lc m, i = .int .i64 (k : Nat) ∧ k ≤ 40 ∧ Hid (GrI w wr lo pa sa ka n qa ta la qc tc lc m) ∧ Hid (m = n.app (Nd.ys mark k))) (fun i _ => 40 - (intOf i).toNat)
  case atStart => exact ⟨0, pa, sa, ka, pc, sc, kc, n, rfl, by omega, G0, by show _ = _; simp [Nd.app, Nd.ys]⟩
  case round =>
    clear G0
    obtain ⟨k, qa, ta, la, qc, tc, lc, m, rfl, hk, G, HM⟩ := hrel
    obtain ⟨c5, c6, c7, c8, c9, c10, g8⟩ := LtI.facts G.out.bx
    have m1 : m.pairs.length ≤ 1048616 := by rw [HM.out]; simp [Nd.app, Nd.ys]; omega
    have m2 : m.seps.length ≤ 1048616 := by rw [HM.out]; simp [Nd.app, Nd.ys]; omega
    have m3 : m.kids.length ≤ 1048616 := by rw [HM.out]; simp [Nd.app, Nd.ys]; omega
    by_cases hlt : k < 40
    · have hlt' : (k : Int) < 40 := by omega
      go_wp2_with (first
        | (at_builtin; refine wpList_app2_pair (s := .tmp 11) (x := .tmp 18) rfl rfl rfl (G.out.own.ps.kp (((Kp.refl [] _).alloc _).alloc _) (by simp)) 1 _ (src_row Tryz.underlying24 _ _ _ _ (by simp) rfl (by simp [Value.oneCell'])) (by omega) ?_; intro pb2 pd2 w2 o2 k2 n2 old2; have G2 := Lib.hid (G.out.pairs (x := (yB mark, [])) (((Kp.refl [] _).alloc _).alloc _) k2 o2 n2 old2); clear c5 c6 c7 c8 c9 c10 g8; obtain ⟨c5, c6, c7, c8, c9, c10, g8⟩ := LtI.facts (G.out.mid (((Kp.refl [] _).alloc _).alloc _) k2 (fun g hg => by simp [hg])); clear o2 k2 n2 old2)
        | (at_builtin; refine wpList_app2_str (s := .tmp 22) (x := .tmp 28) rfl rfl rfl (G2.out.own.ss.kp (((Kp.refl [] _).alloc _).alloc _) (by simp)) 1 _ (src_row Tryz.underlying25 _ _ _ _ (by simp) rfl (by simp [Value.oneCell'])) (by omega) ?_; intro sb2 sd2 w3 o3 k3 n3 old3; have G3 := Lib.hid (G2.out.texts (x := yB mark) (((Kp.refl [] _).alloc _).alloc _) k3 o3 n3 old3); clear c5 c6 c7 c8 c9 c10 g8; obtain ⟨c5, c6, c7, c8, c9, c10, g8⟩ := LtI.facts (G2.out.mid (((Kp.refl [] _).alloc _).alloc _) k3 (fun g hg => by simp [hg])); clear o3 k3 n3 old3)
        | (at_builtin; refine wpList_app2_kid (s := .tmp 32) (x := .tmp 36) rfl rfl rfl (G3.out.own.ks.kp ((Kp.refl [] _).alloc _) (by simp)) 1 _ (src_row Tryz.underlying26 _ _ _ _ (by simp) (Kd.c_size (Kd.mk mk Dg.zero)) (Kd.c_one (Kd.mk mk Dg.zero))) (by omega) ?_; intro kb2 kd2 w4 o4 k4 n4 old4; have G4 := Lib.hid (G3.out.kids (x := Kd.mk mk Dg.zero) ((Kp.refl [] _).alloc _) k4 o4 n4 old4); clear c5 c6 c7 c8 c9 c10 g8; obtain ⟨c5, c6, c7, c8, c9, c10, g8⟩ := LtI.facts (G3.out.mid ((Kp.refl [] _).alloc _) k4 (fun g hg => by simp [hg])); clear o4 k4 n4 old4))
      go_roundw
      case rel => exact ⟨k + 1, pb2, sb2, kb2, pd2, sd2, kd2, _, by go_num, by omega, G4, by show _ = _; rw [← ys_step, ← HM.out, ← hmk2.out]⟩
      case measure => simp [intOf]; omega
    · have hlt' : ¬ (k : Int) < 40 := by omega
      obtain ⟨y0, y1, y2, y3, y4, y5, y6⟩ := LtI.facts G.out.b1
      go_wp2_with fail
      have hk40 : k = 40 := by omega
      subst hk40
      have kG : Kp [w.heap.size + 1] wr (((wr.setCell ⟨w.heap.size + 1, 0, none⟩ (.slice qa m.pairs.length qc)).setCell ⟨w.heap.size + 1, 1, none⟩ (.slice ta m.seps.length tc)).setCell ⟨w.heap.size + 1, 2, none⟩ (.slice la m.kids.length lc)) := (((Kp.refl [w.heap.size + 1] wr).setCell _ (.inr (by simp))).setCell _ (.inr (by simp))).setCell _ (.inr (by simp))
      have hb : Blk (((wr.setCell ⟨w.heap.size + 1, 0, none⟩ (.slice qa m.pairs.length qc)).setCell ⟨w.heap.size + 1, 1, none⟩ (.slice ta m.seps.length tc)).setCell ⟨w.heap.size + 1, 2, none⟩ (.slice la m.kids.length lc)) (w.heap.size + 1) 28 #[.slice qa m.pairs.length qc, .slice ta m.seps.length tc, .slice la m.kids.length lc] := by
        have h := ((G.out.b1.set 0 (.slice qa m.pairs.length qc)).set 1 (.slice ta m.seps.length tc)).set 2 (.slice la m.kids.length lc)
        simpa using h
      have e1 : m.pairs.length = n.pairs.length + 40 := by rw [HM.out]; simp [Nd.app, Nd.ys]
      have e2 : m.seps.length = n.seps.length + 40 := by rw [HM.out]; simp [Nd.app, Nd.ys]
      have e3 : m.kids.length = n.kids.length + 40 := by rw [HM.out]; simp [Nd.app, Nd.ys]
      have hne : ∀ g ∈ ab qa ++ ab ta ++ ab la, g ∉ [w.heap.size + 1] := fun g hg e => by
        have ht := G.out.tl g
        simp only [List.mem_append, List.mem_singleton] at hg e ht
        subst e
        rcases hg with (h1 | h1) | h1
        · rcases G.out.n1 _ h1 with h2 | h2
          · have := ht (.inl (.inl h2)); omega
          · omega
        · rcases G.out.n2 _ h1 with h2 | h2
          · have := ht (.inl (.inr h2)); omega
          · omega
        · rcases G.out.n3 _ h1 with h2 | h2
          · have := ht (.inr h2); omega
          · omega
      have ho0 := G.out.own
      have hmm : m = n.app (Nd.ys mark 40) := HM.out
      have ho := (show Own3 wr lo qa ta la qc tc lc (n.app (Nd.ys mark 40)) from hmm ▸ ho0).kp kG hne
      have hT : ∀ g ∈ ab pa ++ ab sa ++ ab ka, g ∉ [w.heap.size + 1] := fun g hg => by have := G.out.tl g hg; simp; omega
      refine nd_ret1 (w.heap.size + 1) rfl rfl hb rfl ⟨qa, ta, la, qc, tc, lc, by rw [e1, e2, e3], ho, ⟨G.out.o1.kp kG (fun g hg => hT g (by simp [hg])), G.out.o2.kp kG (fun g hg => hT g (by simp [hg])), G.out.o3.kp kG (fun g hg => hT g (by simp [hg]))⟩, G.out.kp.from kG (fun g hg => by simp at hg; subst hg; exact .inl (by omega)), ?_, ?_, ?_⟩
      · intro g hg
        rcases G.out.n1 g hg with h1 | h1
        · exact .inl h1
        · exact .inr (by omega)
      · intro g hg
        rcases G.out.n2 g hg with h1 | h1
        · exact .inl h1
        · exact .inr (by omega)
      · intro g hg
        rcases G.out.n3 g hg with h1 | h1
        · exact .inl h1
        · exact .inr (by omega)

end Go.Proofs.YtemicgccgcmmbaaGreat
