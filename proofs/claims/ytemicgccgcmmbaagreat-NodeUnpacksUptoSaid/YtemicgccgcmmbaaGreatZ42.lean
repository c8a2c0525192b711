/- What spoil and grown do to lists of one's own. -/
import Derived.Test.YtemicgccgcmmbaaGreatZ40
import Derived.Test.YtemicgccgcmmbaaGreatZ41
import Derived.Deep.RegionHeld3
namespace Go.Proofs.YtemicgccgcmmbaaGreat
set_option linter.unusedVariables false
set_option linter.unusedSimpArgs false
open Go Go.RowKit

def Nd.app (n t : Nd) : Nd := ⟨n.pairs ++ t.pairs, n.seps ++ t.seps, n.kids ++ t.kids⟩
def Nd.none : Nd := ⟨[], [], []⟩
theorem Nd.app_none (n : Nd) : n.app Nd.none = n := by simp [Nd.app, Nd.none]
def Nd.marks : Nd := ⟨[(mkB, [])], [mkB], [kMark]⟩
theorem Nd.mk1_app (n : Nd) : n.mk1 = n.app Nd.marks := rfl

structure SpI (w wr : World) (lo : Nat) (pa sa ka : Option Addr) (pc sc kc : Nat) (nd : Array Value) (m : Nd) : Prop where
  kp : Kp (ab pa ++ ab sa ++ ab ka) w wr
  bx : Blk wr w.heap.size 28 nd
  own : Own3 wr lo pa sa ka pc sc kc m
  hi : ∀ g ∈ ab pa ++ ab sa ++ ab ka, g < w.heap.size

theorem SpI.next {w wr : World} {lo : Nat} {pa sa ka : Option Addr} {pc sc kc : Nat} {nd : Array Value} {m : Nd} (h : SpI w wr lo pa sa ka pc sc kc nd m) {w' : World} (k : Kp [] wr w') : SpI w w' lo pa sa ka pc sc kc nd m :=
  ⟨h.kp.trans k.of_nil, h.bx.kp k (by simp), h.own.kp k (by simp), h.hi⟩
theorem SpI.start {w : World} {lo : Nat} {pa sa ka : Option Addr} {pc sc kc : Nat} {nd : Array Value} {m : Nd} (h : Own3 w lo pa sa ka pc sc kc m) : SpI w (w.alloc (.cells nd 28)) lo pa sa ka pc sc kc nd m :=
  ⟨(Kp.refl _ _).alloc _, Blk.new w _ _, h.kp ((Kp.refl [] w).alloc _) (by simp), fun g hg => by
    simp only [List.mem_append] at hg
    rcases hg with (hg | hg) | hg
    · exact h.ps.lt g hg
    · exact h.ss.lt g hg
    · exact h.ks.lt g hg⟩

theorem own_pair {w : World} {g c k : Nat} {ps : List Pr} {x : Pr} (h : Own w 56 2 (some ⟨g, 0, none⟩) ps.length c (ps.flatMap csP)) (hx : ps[k]? = some x) (y : Pr) :
    Own ((w.setCell ⟨g, k * 2, none⟩ (.string ⟨y.1.toArray⟩)).setCell ⟨g, k * 2 + 1, none⟩ (.string ⟨y.2.toArray⟩)) 56 2 (some ⟨g, 0, none⟩) (ps.set k y).length c ((ps.set k y).flatMap csP) := by
  have hk : k < ps.length := (List.getElem?_eq_some_iff.1 hx).1
  have h1 := (h.set (k * 2) (.string ⟨y.1.toArray⟩)).set (k * 2 + 1) (.string ⟨y.2.toArray⟩)
  rw [show (ps.flatMap csP).set (k * 2) (.string ⟨y.1.toArray⟩) = (ps.flatMap csP).set (k * 2 + 0) (.string ⟨y.1.toArray⟩) from rfl, flat_set csP 2 (fun _ => rfl) ps k 0 x (y.1, x.2) _ hx (by omega) rfl,
    flat_set csP 2 (fun _ => rfl) (ps.set k (y.1, x.2)) k 1 (y.1, x.2) y _ (by rw [List.getElem?_set_self hk]) (by omega) rfl, List.set_set] at h1
  rwa [List.length_set]
theorem own_text {w : World} {g c k : Nat} {ss : List Bs} {x : Bs} (h : Own w 9 1 (some ⟨g, 0, none⟩) ss.length c (ss.flatMap csS)) (hx : ss[k]? = some x) (y : Bs) :
    Own (w.setCell ⟨g, k, none⟩ (.string ⟨y.toArray⟩)) 9 1 (some ⟨g, 0, none⟩) (ss.set k y).length c ((ss.set k y).flatMap csS) := by
  have h1 := h.set k (.string ⟨y.toArray⟩)
  have h2 := flat_set csS 1 (fun _ => rfl) ss k 0 x y (.string ⟨y.toArray⟩) hx (by omega) rfl
  rw [Nat.mul_one, Nat.add_zero] at h2
  rw [h2] at h1
  rwa [List.length_set]
theorem flat_put {T : Type} (cells : T → List Value) (size : Nat) (hsz : ∀ x, (cells x).length = size) : ∀ (l : List T) (k : Nat) (y : T), k < l.length → (l.flatMap cells).take (k * size) ++ cells y ++ (l.flatMap cells).drop (k * size + size) = (l.set k y).flatMap cells
  | [], k, y, h => by simp at h
  | z :: t, 0, y, h => by
    have hd : List.drop size (cells z ++ t.flatMap cells) = t.flatMap cells := by
      rw [List.drop_append_of_le_length (by rw [hsz]; exact Nat.le_refl _), List.drop_of_length_le (by rw [hsz]; exact Nat.le_refl _)]; rfl
    simp only [List.flatMap_cons, Nat.zero_mul, List.take_zero, List.nil_append, Nat.zero_add, List.set_cons_zero, hd]
  | z :: t, k + 1, y, h => by
    have ih := flat_put cells size hsz t k y (by simpa using h)
    have e1 : List.take ((k + 1) * size) (cells z ++ t.flatMap cells) = cells z ++ List.take (k * size) (t.flatMap cells) := by
      rw [Nat.succ_mul, Nat.add_comm, show size + k * size = (cells z).length + k * size by rw [hsz], List.take_length_add_append]
    have e2 : List.drop ((k + 1) * size + size) (cells z ++ t.flatMap cells) = List.drop (k * size + size) (t.flatMap cells) := by
      rw [Nat.succ_mul, show k * size + size + size = (cells z).length + (k * size + size) by rw [hsz]; omega, List.drop_length_add_append]
    simp only [List.flatMap_cons, List.set_cons_succ, e1, e2, ← ih, List.append_assoc]
theorem take_put {α : Type} (l y : List α) (a s n : Nat) (hy : y.length = s) (h : a + s ≤ n) (hl : n ≤ l.length) : (l.take a ++ y ++ l.drop (a + s)).take n = (l.take n).take a ++ y ++ (l.take n).drop (a + s) := by
  have h1 : (l.take a).length = a := by simp; omega
  have h2 : (l.take a ++ y).length = a + s := by rw [List.length_append, h1, hy]
  have h3 : (l.take n).take a = l.take a := by rw [List.take_take, Nat.min_eq_left (by omega)]
  rw [List.take_append, List.take_append, List.drop_take, h2, h1, h3, List.take_of_length_le (l := l.take a) (by omega), List.take_of_length_le (l := y) (by omega)]
theorem own_kid {w : World} {g c k : Nat} {ks : List Kd} (h : Own w 59 33 (some ⟨g, 0, none⟩) ks.length c (ks.flatMap csK)) (hk : k < ks.length) (y : Kd) {cur : Array Value} (hc : own? w g = some cur) :
    Own (w.setRow g (spl cur (k * 33) y.c)) 59 33 (some ⟨g, 0, none⟩) (ks.set k y).length c ((ks.set k y).flatMap csK) ∧ k * 33 + 33 ≤ cur.size := by
  rcases h.block with ⟨h0, ⟨h1, _⟩ | ⟨g', cur', h1, hb, h2, h3, h4, h5⟩⟩
  · cases h1
  · cases h1
    rw [own?_blk hb] at hc
    cases hc
    have hlen : k * 33 + 33 ≤ ks.length * 33 := by omega
    have hcs : ks.length * 33 ≤ cur.size := by rw [h4]; exact Nat.mul_le_mul_right _ h2
    have hsp : (spl cur (k * 33) y.c).size = cur.size := spl_size _ _ _ (by simp; omega)
    refine ⟨⟨by rw [flat_len csK 33 (fun x => by simp)], .inr ⟨g, c, spl cur (k * 33) y.c, rfl, Nat.zero_le _, setRow_heap w g cur _ _ _ hb, by rw [List.length_set]; exact h2, h3, by rw [hsp]; exact h4, ?_⟩⟩, by omega⟩
    rw [List.length_set, ← flat_put csK 33 (fun x => by simp) ks k y hk, ← h5]
    have hy : y.c.toList.length = 33 := by simp
    simp only [spl, Kd.c_size]
    exact take_put cur.toList y.c.toList (k * 33) 33 (ks.length * 33) hy (by omega) (by simpa using hcs)

theorem SpI.pair {w wr : World} {lo : Nat} {g : Nat} {sa ka : Option Addr} {pc sc kc : Nat} {nd : Array Value} {m : Nd} (h : SpI w wr lo (some ⟨g, 0, none⟩) sa ka pc sc kc nd m) {k : Nat} {x : Pr} (hx : m.pairs[k]? = some x) (y : Pr) :
    SpI w ((wr.setCell ⟨g, k * 2, none⟩ (.string ⟨y.1.toArray⟩)).setCell ⟨g, k * 2 + 1, none⟩ (.string ⟨y.2.toArray⟩)) lo (some ⟨g, 0, none⟩) sa ka pc sc kc nd ⟨m.pairs.set k y, m.seps, m.kids⟩ := by
  have hg := h.hi g (by simp [ab])
  have k1 : Kp [g] wr ((wr.setCell ⟨g, k * 2, none⟩ (.string ⟨y.1.toArray⟩)).setCell ⟨g, k * 2 + 1, none⟩ (.string ⟨y.2.toArray⟩)) := ((Kp.refl [g] wr).setCell _ (.inr (by simp))).setCell _ (.inr (by simp))
  refine ⟨h.kp.trans (k1.mono (fun a _ ha => by simp at ha; simp [ab, ha])), h.bx.kp k1 (by simp; omega), ⟨own_pair h.own.ps hx y, h.own.ss.kp k1 (fun a ha => ?_), h.own.ks.kp k1 (fun a ha => ?_), h.own.lo, h.own.d1, h.own.d2⟩, h.hi⟩
  · simp; rintro rfl; exact (h.own.d1 a (by simp [ab])).1 ha
  · simp; rintro rfl; exact (h.own.d1 a (by simp [ab])).2 ha
theorem SpI.text {w wr : World} {lo : Nat} {g : Nat} {pa ka : Option Addr} {pc sc kc : Nat} {nd : Array Value} {m : Nd} (h : SpI w wr lo pa (some ⟨g, 0, none⟩) ka pc sc kc nd m) {k : Nat} {x : Bs} (hx : m.seps[k]? = some x) (y : Bs) :
    SpI w (wr.setCell ⟨g, k, none⟩ (.string ⟨y.toArray⟩)) lo pa (some ⟨g, 0, none⟩) ka pc sc kc nd ⟨m.pairs, m.seps.set k y, m.kids⟩ := by
  have hg := h.hi g (by simp [ab])
  have k1 : Kp [g] wr (wr.setCell ⟨g, k, none⟩ (.string ⟨y.toArray⟩)) := (Kp.refl [g] wr).setCell _ (.inr (by simp))
  refine ⟨h.kp.trans (k1.mono (fun a _ ha => by simp at ha; simp [ab, ha])), h.bx.kp k1 (by simp; omega), ⟨h.own.ps.kp k1 (fun a ha => ?_), own_text h.own.ss hx y, h.own.ks.kp k1 (fun a ha => ?_), h.own.lo, h.own.d1, h.own.d2⟩, h.hi⟩
  · simp; rintro rfl; exact (h.own.d1 a ha).1 (by simp [ab])
  · simp; rintro rfl; exact h.own.d2 a (by simp [ab]) ha
theorem SpI.kid {w wr : World} {lo : Nat} {g : Nat} {pa sa : Option Addr} {pc sc kc : Nat} {nd : Array Value} {m : Nd} (h : SpI w wr lo pa sa (some ⟨g, 0, none⟩) pc sc kc nd m) {k : Nat} (hk : k < m.kids.length) (y : Kd) {cur : Array Value} (hc : own? wr g = some cur) :
    SpI w (wr.setRow g (spl cur (k * 33) y.c)) lo pa sa (some ⟨g, 0, none⟩) pc sc kc nd ⟨m.pairs, m.seps, m.kids.set k y⟩ := by
  have hg := h.hi g (by simp [ab])
  have k1 : Kp [g] wr (wr.setRow g (spl cur (k * 33) y.c)) := (Kp.refl [g] wr).setRow _ _ (.inr (by simp))
  refine ⟨h.kp.trans (k1.mono (fun a _ ha => by simp at ha; simp [ab, ha])), h.bx.kp k1 (by simp; omega), ⟨h.own.ps.kp k1 (fun a ha => ?_), h.own.ss.kp k1 (fun a ha => ?_), (own_kid h.own.ks hk y hc).1, h.own.lo, h.own.d1, h.own.d2⟩, h.hi⟩
  · simp; rintro rfl; exact (h.own.d1 a ha).2 (by simp [ab])
  · simp; rintro rfl; exact h.own.d2 a ha (by simp [ab])

/-- A list whose first places are written over. -/
def over {α : Type} (k : Nat) (y : α) (l : List α) : List α := List.replicate k y ++ l.drop k
theorem over_zero {α : Type} (y : α) (l : List α) : over 0 y l = l := by simp [over]
theorem over_len {α : Type} {k : Nat} (y : α) {l : List α} (h : k ≤ l.length) : (over k y l).length = l.length := by simp [over]; omega
theorem over_get {α : Type} {k : Nat} (y : α) {l : List α} {x : α} (h : l[k]? = some x) : (over k y l)[k]? = some x := by
  unfold over
  rw [List.getElem?_append_right (by simp), List.length_replicate, Nat.sub_self, List.getElem?_drop, Nat.add_zero, h]
theorem over_set0 {α : Type} {k : Nat} (y : α) {l : List α} (h : k < l.length) : (over k y l).set k y = over (k + 1) y l := by
  unfold over
  rw [List.set_append_right _ _ (by simp), List.length_replicate, Nat.sub_self, List.drop_eq_getElem_cons h, List.set_cons_zero, List.replicate_succ', List.append_assoc]
  rfl
theorem over_all {α : Type} (y : α) (l t : List α) : over l.length y (l ++ t) = List.replicate l.length y ++ t := by simp [over]

def xB (mark : UInt8) : Bs := [120, mark]
def yB (mark : UInt8) : Bs := [121, mark]
/-- A node written over. -/
def Nd.spoilt (n : Nd) (mark : UInt8) : Nd := ⟨List.replicate n.pairs.length (xB mark, []), List.replicate n.seps.length (xB mark), List.replicate n.kids.length ⟨mark.toNat, Dg.zero⟩⟩

end Go.Proofs.YtemicgccgcmmbaaGreat

/- spoil: the walk. -/
namespace Go.Proofs.YtemicgccgcmmbaaGreat
set_option linter.unusedVariables false
set_option linter.unusedSimpArgs false
open Go Go.RowKit

@[go_sem] theorem conv_one (w : World) (mark : UInt8) (g : Nat) (hg : g = w.heap.size) : (convert 66 9 (.slice (some ⟨g, 0, none⟩) 1 1)).run Tryz.prog (w.alloc (.cells #[.int .u8 (mark.toNat : Int)] 5)) = .ok (.string ⟨#[mark]⟩) (w.alloc (.cells #[.int .u8 (mark.toNat : Int)] 5)) := by
  subst hg
  refine conv_cells (t := [mark]) _ _ ?_
  intro j u hj
  match j, hj with
  | 0, hj =>
    simp [bC] at hj
    subst hj
    have := (Blk.new w 5 #[.int .u8 (mark.toNat : Int)]).cell 0
    simp [Addr.add]
theorem str_x (mark : UInt8) : (⟨#[120]⟩ : ByteArray) ++ ⟨#[mark]⟩ = ⟨(xB mark).toArray⟩ := by
  apply ByteArray.ext
  simp [xB, ByteArray.data_append]
theorem SpI.pairAt {w wr : World} {lo : Nat} {pa sa ka : Option Addr} {pc sc kc : Nat} {nd : Array Value} {m : Nd} (h : SpI w wr lo pa sa ka pc sc kc nd m) {k : Nat} {x : Pr} (hx : m.pairs[k]? = some x) :
    ∃ g, pa = some ⟨g, 0, none⟩ ∧ g < wr.heap.size ∧ wr.cell? ⟨g, k * 2, none⟩ = some (.string ⟨x.1.toArray⟩) ∧ wr.cell? ⟨g, k * 2 + 1, none⟩ = some (.string ⟨x.2.toArray⟩) ∧ wr.frozen? ⟨g, k * 2, none⟩ = false ∧ wr.frozen? ⟨g, k * 2 + 1, none⟩ = false := by
  rcases h.own.ps.block.2 with ⟨_, h1, _⟩ | ⟨g, cur, h1, hb, _⟩
  · have := (List.getElem?_eq_some_iff.1 hx).1; omega
  · obtain ⟨b, o, e, _, c1, c2⟩ := h.own.at.ps k x hx
    rw [h1] at e; cases e
    exact ⟨g, h1, hb.lt, by simpa using c1, by simpa using c2, hb.frozen _, hb.frozen _⟩
theorem SpI.textAt {w wr : World} {lo : Nat} {pa sa ka : Option Addr} {pc sc kc : Nat} {nd : Array Value} {m : Nd} (h : SpI w wr lo pa sa ka pc sc kc nd m) {k : Nat} {x : Bs} (hx : m.seps[k]? = some x) :
    ∃ g, sa = some ⟨g, 0, none⟩ ∧ g < wr.heap.size ∧ wr.cell? ⟨g, k, none⟩ = some (.string ⟨x.toArray⟩) ∧ wr.frozen? ⟨g, k, none⟩ = false := by
  rcases h.own.ss.block.2 with ⟨_, h1, _⟩ | ⟨g, cur, h1, hb, _⟩
  · have := (List.getElem?_eq_some_iff.1 hx).1; omega
  · obtain ⟨b, o, e, _, c1⟩ := h.own.at.ss k x hx
    rw [h1] at e; cases e
    exact ⟨g, h1, hb.lt, by simpa using c1, hb.frozen _⟩
theorem SpI.kidAt {w wr : World} {lo : Nat} {pa sa ka : Option Addr} {pc sc kc : Nat} {nd : Array Value} {m : Nd} (h : SpI w wr lo pa sa ka pc sc kc nd m) {k : Nat} (hk : k < m.kids.length) :
    ∃ g cur, ka = some ⟨g, 0, none⟩ ∧ g < wr.heap.size ∧ own? wr g = some cur ∧ k * 33 + 33 ≤ cur.size := by
  rcases h.own.ks.block.2 with ⟨_, h1, _⟩ | ⟨g, cur, h1, hb, _⟩
  · omega
  · refine ⟨g, cur, h1, hb.lt, own?_blk hb, ?_⟩
    have h2 := h.own.ks
    rw [h1] at h2
    exact (own_kid h2 hk Kd.zero (own?_blk hb)).2

set_option maxHeartbeats 1000000 in set_option maxRecDepth 100000 in
theorem spoil_any (mark : UInt8) (lo : Nat) (pa sa ka : Option Addr) (pc sc kc : Nat) (n t : Nd) (w : World) (h : Own3 w lo pa sa ka pc sc kc (n.app t)) (hf : NdFew n) :
    Calls Tryz.prog 38 #[.agg #[.slice pa n.pairs.length pc, .slice sa n.seps.length sc, .slice ka n.kids.length kc], .int .u32 (mark.toNat : Int)] w fun e w' =>
      e = .returned (.tuple #[]) ∧ Own3 w' lo pa sa ka pc sc kc ((n.spoilt mark).app t) ∧ Kp (ab pa ++ ab sa ++ ab ka) w w' := by
  have S0 : Hid (SpI w (w.alloc (.cells #[.slice pa n.pairs.length pc, .slice sa n.seps.length sc, .slice ka n.kids.length kc] 28)) lo pa sa ka pc sc kc #[.slice pa n.pairs.length pc, .slice sa n.seps.length sc, .slice ka n.kids.length kc] ⟨over 0 (xB mark, []) (n.app t).pairs, (n.app t).seps, (n.app t).kids⟩) := Lib.hid (SpI.start h)
  have fp := hf.np; have fs := hf.ns; have fk := hf.nk
  have hm : mark.toNat < 256 := mark.toNat_lt
  have l1 : n.pairs.length ≤ (n.app t).pairs.length := by simp [Nd.app]
  have l2 : n.seps.length ≤ (n.app t).seps.length := by simp [Nd.app]
  have l3 : n.kids.length ≤ (n.app t).kids.length := by simp [Nd.app]
  clear h hf
  go_enter Tryz.func38, Tryz.ntmps38
  go_wp2_with fail
  go_loopw [4] (fun i wr => ∃ k, i = .int .i64 (k : Nat) ∧ k ≤ n.pairs.length ∧ Hid (SpI w wr lo pa sa ka pc sc kc #[.slice pa n.pairs.length pc, .slice sa n.seps.length sc, .slice ka n.kids.length kc] ⟨over k (xB mark, []) (n.app t).pairs, (n.app t).seps, (n.app t).kids⟩)) (fun i _ => n.pairs.length - (intOf i).toNat)
  case atStart => exact ⟨0, rfl, Nat.zero_le _, S0⟩
  case round =>
    clear S0
    obtain ⟨k, rfl, hk, SI⟩ := hrel
    have c5 := SI.out.bx.cell 0; have c6 := SI.out.bx.cell 1; have c7 := SI.out.bx.cell 2; have g8 := SI.out.bx.lt
    simp only [List.getElem?_toArray, List.getElem?_cons_zero, List.getElem?_cons_succ] at c5 c6 c7
    by_cases hlt : k < n.pairs.length
    · obtain ⟨x, hx⟩ : ∃ x, (n.app t).pairs[k]? = some x := ⟨_, List.getElem?_eq_getElem (by omega)⟩
      have hx2 := over_get (xB mark, []) hx
      obtain ⟨g, rfl, gl, d1, d2, d3, d4⟩ := SI.out.pairAt hx2
      have HX := Lib.hid hx2
      clear hx hx2
      go_wp2_with fail
      go_roundw
      case rel =>
        have h := (SI.out.pair HX.out (xB mark, [])).next ((Kp.refl [] _).alloc (.cells #[.int .u8 (mark.toNat : Int)] 5))
        rw [over_set0 _ (by omega)] at h
        exact ⟨k + 1, by go_num, by omega, by ((try rw [str_x]); exact Lib.hid h)⟩
      case measure => simp [intOf]; omega
    · have S0 : Hid (SpI w wr lo pa sa ka pc sc kc #[.slice pa n.pairs.length pc, .slice sa n.seps.length sc, .slice ka n.kids.length kc] ⟨List.replicate n.pairs.length (xB mark, []) ++ t.pairs, over 0 (xB mark) (n.app t).seps, (n.app t).kids⟩) := Lib.hid (by
        have h := SI.out
        rw [show k = n.pairs.length by omega] at h
        rw [over_zero, ← over_all]
        exact h)
      clear SI
      go_wp2_with fail
      go_loopw [5] (fun i wr => ∃ k, i = .int .i64 (k : Nat) ∧ k ≤ n.seps.length ∧ Hid (SpI w wr lo pa sa ka pc sc kc #[.slice pa n.pairs.length pc, .slice sa n.seps.length sc, .slice ka n.kids.length kc] ⟨List.replicate n.pairs.length (xB mark, []) ++ t.pairs, over k (xB mark) (n.app t).seps, (n.app t).kids⟩)) (fun i _ => n.seps.length - (intOf i).toNat)
      case atStart => exact ⟨0, rfl, Nat.zero_le _, S0⟩
      case round =>
        clear S0 c5 c6 c7 g8
        obtain ⟨k, rfl, hk, SI⟩ := hrel
        have c5 := SI.out.bx.cell 0; have c6 := SI.out.bx.cell 1; have c7 := SI.out.bx.cell 2; have g8 := SI.out.bx.lt
        simp only [List.getElem?_toArray, List.getElem?_cons_zero, List.getElem?_cons_succ] at c5 c6 c7
        by_cases hlt : k < n.seps.length
        · obtain ⟨x, hx⟩ : ∃ x, (n.app t).seps[k]? = some x := ⟨_, List.getElem?_eq_getElem (by omega)⟩
          have hx2 := over_get (xB mark) hx
          obtain ⟨g, rfl, gl, d1, d2⟩ := SI.out.textAt hx2
          have HX := Lib.hid hx2
          clear hx hx2
          go_wp2_with fail
          go_roundw
          case rel =>
            have h := (SI.out.text HX.out (xB mark)).next ((Kp.refl [] _).alloc (.cells #[.int .u8 (mark.toNat : Int)] 5))
            rw [over_set0 _ (by omega)] at h
            exact ⟨k + 1, by go_num, by omega, by ((try rw [str_x]); exact Lib.hid h)⟩
          case measure => simp [intOf]; omega
        · have S0 : Hid (SpI w wr lo pa sa ka pc sc kc #[.slice pa n.pairs.length pc, .slice sa n.seps.length sc, .slice ka n.kids.length kc] ⟨List.replicate n.pairs.length (xB mark, []) ++ t.pairs, List.replicate n.seps.length (xB mark) ++ t.seps, over 0 ⟨mark.toNat, Dg.zero⟩ (n.app t).kids⟩) := Lib.hid (by
            have h := SI.out
            rw [show k = n.seps.length by omega] at h
            rw [over_zero, ← over_all (xB mark)]
            exact h)
          clear SI
          go_wp2_with fail
          go_loopw [6] (fun i wr => ∃ k, i = .int .i64 (k : Nat) ∧ k ≤ n.kids.length ∧ Hid (SpI w wr lo pa sa ka pc sc kc #[.slice pa n.pairs.length pc, .slice sa n.seps.length sc, .slice ka n.kids.length kc] ⟨List.replicate n.pairs.length (xB mark, []) ++ t.pairs, List.replicate n.seps.length (xB mark) ++ t.seps, over k ⟨mark.toNat, Dg.zero⟩ (n.app t).kids⟩)) (fun i _ => n.kids.length - (intOf i).toNat)
          case atStart => exact ⟨0, rfl, Nat.zero_le _, S0⟩
          case round =>
            clear S0 c5 c6 c7 g8
            obtain ⟨k, rfl, hk, SI⟩ := hrel
            have c5 := SI.out.bx.cell 0; have c6 := SI.out.bx.cell 1; have c7 := SI.out.bx.cell 2; have g8 := SI.out.bx.lt
            simp only [List.getElem?_toArray, List.getElem?_cons_zero, List.getElem?_cons_succ] at c5 c6 c7
            by_cases hlt : k < n.kids.length
            · have hl4 := over_len (⟨mark.toNat, Dg.zero⟩ : Kd) (show k ≤ (n.app t).kids.length by omega)
              have hkl : k < (over k (⟨mark.toNat, Dg.zero⟩ : Kd) (n.app t).kids).length := by omega
              obtain ⟨g, cur, rfl, gl, d1, d2⟩ := SI.out.kidAt hkl
              have HX := Lib.hid hkl
              clear hl4 hkl
              go_wp2_with fail
              go_roundw
              case rel =>
                have h := SI.out.kid HX.out ⟨mark.toNat, Dg.zero⟩ d1
                rw [over_set0 _ (by omega)] at h
                exact ⟨k + 1, by go_num, by omega, Lib.hid h⟩
              case measure => simp [intOf]; omega
            · have SF := Lib.hid (show SpI w wr lo pa sa ka pc sc kc #[.slice pa n.pairs.length pc, .slice sa n.seps.length sc, .slice ka n.kids.length kc] ⟨List.replicate n.pairs.length (xB mark, []) ++ t.pairs, List.replicate n.seps.length (xB mark) ++ t.seps, List.replicate n.kids.length ⟨mark.toNat, Dg.zero⟩ ++ t.kids⟩ from by
                have h := SI.out
                rw [show k = n.kids.length by omega] at h
                rw [← over_all (⟨mark.toNat, Dg.zero⟩ : Kd)]
                exact h)
              go_wp2_with fail
              go_end0
              exact ⟨rfl, SF.out.own, SF.out.kp⟩

end Go.Proofs.YtemicgccgcmmbaaGreat

/- What grown does to a node's lists. -/
namespace Go.Proofs.YtemicgccgcmmbaaGreat
set_option linter.unusedVariables false
set_option linter.unusedSimpArgs false
open Go Go.RowKit

def isRowA (a : Option Addr) : Prop := a = none ∨ ∃ g, a = some ⟨g, 0, none⟩
theorem Own.rowA {w : World} {e : TypeId} {size : Nat} {a : Option Addr} {n c : Nat} {xs : List Value} (h : Own w e size a n c xs) : isRowA a := by
  rcases h.block.2 with ⟨h1, _⟩ | ⟨g, cur, h1, _⟩
  · exact .inl h1
  · exact .inr ⟨g, h1⟩
theorem isRowA.same {a b : Option Addr} (ha : isRowA a) (hb : isRowA b) : a = b ∨ ∀ g ∈ ab a, g ∉ ab b := by
  rcases ha with rfl | ⟨g, rfl⟩
  · exact .inr (by simp [ab])
  · rcases hb with rfl | ⟨g', rfl⟩
    · exact .inr (by simp [ab])
    · by_cases h : g = g'
      · subst h; exact .inl rfl
      · exact .inr (by simp [ab]; exact h)

/-- A node's lists grow; the old ones read as they did. -/
structure GrI (w wr : World) (lo : Nat) (pa sa ka : Option Addr) (n : Nd) (qa ta la : Option Addr) (qc tc lc : Nat) (m : Nd) : Prop where
  kp : Kp (ab pa ++ ab sa ++ ab ka) w wr
  bx : Blk wr w.heap.size 28 #[.slice qa m.pairs.length qc, .slice ta m.seps.length tc, .slice la m.kids.length lc]
  b1 : Blk wr (w.heap.size + 1) 28 #[.slice none 0 0, .slice none 0 0, .slice none 0 0]
  own : Own3 wr lo qa ta la qc tc lc m
  n1 : ∀ g ∈ ab qa, g ∈ ab pa ∨ w.heap.size + 2 ≤ g
  n2 : ∀ g ∈ ab ta, g ∈ ab sa ∨ w.heap.size + 2 ≤ g
  n3 : ∀ g ∈ ab la, g ∈ ab ka ∨ w.heap.size + 2 ≤ g
  tl : ∀ g ∈ ab pa ++ ab sa ++ ab ka, g < w.heap.size
  d1 : ∀ g ∈ ab pa, g ∉ ab sa ∧ g ∉ ab ka
  d2 : ∀ g ∈ ab sa, g ∉ ab ka
  r1 : isRowA pa
  r2 : isRowA sa
  r3 : isRowA ka
  o1 : PsAt wr pa n.pairs
  o2 : SsAt wr sa n.seps
  o3 : KsAt wr ka n.kids
  p1 : n.pairs <+: m.pairs
  p2 : n.seps <+: m.seps
  p3 : n.kids <+: m.kids
  ll : lo ≤ w.heap.size

theorem PsAt.fore {w : World} {a : Option Addr} {l m : List Pr} (h : PsAt w a m) (p : l <+: m) : PsAt w a l := by obtain ⟨r, rfl⟩ := p; exact h.pre
theorem SsAt.fore {w : World} {a : Option Addr} {l m : List Bs} (h : SsAt w a m) (p : l <+: m) : SsAt w a l := by obtain ⟨r, rfl⟩ := p; exact h.pre
theorem KsAt.fore {w : World} {a : Option Addr} {l m : List Kd} (h : KsAt w a m) (p : l <+: m) : KsAt w a l := by obtain ⟨r, rfl⟩ := p; exact h.pre
theorem Own.ss' {w : World} {a : Option Addr} {c : Nat} {l : List Bs} (h : Own w 9 1 a l.length c (l.flatMap csS)) : SsAt w a l := Own.ss (by rw [← csS_map]; exact h)

theorem GrI.lo2 {w wr : World} {lo : Nat} {pa sa ka : Option Addr} {n : Nd} {qa ta la : Option Addr} {qc tc lc : Nat} {m : Nd} (h : GrI w wr lo pa sa ka n qa ta la qc tc lc m) : w.heap.size + 2 ≤ wr.heap.size := by have := h.b1.lt; omega

theorem GrI.start {w : World} {lo : Nat} {pa sa ka : Option Addr} {pc sc kc : Nat} {n : Nd} (h : Own3 w lo pa sa ka pc sc kc n) (hl : lo ≤ w.heap.size) :
    GrI w ((w.alloc (.cells #[.slice pa n.pairs.length pc, .slice sa n.seps.length sc, .slice ka n.kids.length kc] 28)).alloc (.cells #[.slice none 0 0, .slice none 0 0, .slice none 0 0] 28)) lo pa sa ka n pa sa ka pc sc kc n := by
  have k : Kp [] w ((w.alloc (.cells #[.slice pa n.pairs.length pc, .slice sa n.seps.length sc, .slice ka n.kids.length kc] 28)).alloc (.cells #[.slice none 0 0, .slice none 0 0, .slice none 0 0] 28)) := ((Kp.refl [] w).alloc _).alloc _
  have o := h.kp k (by simp)
  refine ⟨k.of_nil, (Blk.new w _ _).alloc _, ?_, o, fun g hg => .inl hg, fun g hg => .inl hg, fun g hg => .inl hg, ?_, h.d1, h.d2, h.ps.rowA, h.ss.rowA, h.ks.rowA, o.at.ps, o.at.ss, o.at.ks, List.prefix_rfl, List.prefix_rfl, List.prefix_rfl, hl⟩
  · have hb := Blk.new (w.alloc (.cells #[.slice pa n.pairs.length pc, .slice sa n.seps.length sc, .slice ka n.kids.length kc] 28)) 28 #[.slice none 0 0, .slice none 0 0, .slice none 0 0]
    simpa using hb
  · intro g hg
    simp only [List.mem_append] at hg
    rcases hg with (hg | hg) | hg
    · exact h.ps.lt g hg
    · exact h.ss.lt g hg
    · exact h.ks.lt g hg

theorem GrI.pairs {w wr : World} {lo : Nat} {pa sa ka : Option Addr} {n : Nd} {qa ta la : Option Addr} {qc tc lc : Nat} {m : Nd} (h : GrI w wr lo pa sa ka n qa ta la qc tc lc m) {X w2 : World} (kX : Kp [] wr X) (k : Kp (ab qa) X w2) {a' : Option Addr} {c' : Nat} {x : Pr}
    (ow : Own w2 56 2 a' (m.pairs.length + 1) c' (m.pairs.flatMap csP ++ csP x)) (hn : ∀ g ∈ ab a', g ∈ ab qa ∨ X.heap.size ≤ g) (old : Own w2 56 2 qa m.pairs.length qc (m.pairs.flatMap csP)) :
    GrI w (w2.setCell ⟨w.heap.size, 0, none⟩ (.slice a' (m.pairs.length + 1) c')) lo pa sa ka n a' ta la c' tc lc ⟨m.pairs ++ [x], m.seps, m.kids⟩ := by
  have hz := kX.size
  have hlo := h.lo2
  have hB : ∀ g, g = w.heap.size ∨ g = w.heap.size + 1 → g ∉ ab qa := fun g hg e => by
    have ht := h.tl g
    rcases h.n1 g e with h1 | h1
    · have := ht (by simp [h1]); omega
    · omega
  have hbx := (h.bx.kp kX (by simp)).kp k (hB _ (.inl rfl))
  have kv : Kp [w.heap.size] w2 (w2.setCell ⟨w.heap.size, 0, none⟩ (.slice a' (m.pairs.length + 1) c')) := (Kp.refl [w.heap.size] w2).setCell _ (.inr (by simp))
  have hlow : ∀ g ∈ ab a', lo ≤ g := fun g hg => by
    rcases hn g hg with h1 | h1
    · exact h.own.lo g (by simp [h1])
    · have := h.ll; omega
  have hne : ∀ g ∈ ab a', g ≠ w.heap.size := fun g hg => by
    rcases hn g hg with h1 | h1
    · exact fun e => hB g (.inl e) h1
    · omega
  have hT : ∀ g ∈ ab pa ++ ab sa ++ ab ka, g ∉ [w.heap.size] := fun g hg => by have := h.tl g hg; simp; omega
  have c1 : ∀ g ∈ ab ta, g ∉ ab qa := fun g hg e => (h.own.d1 g e).1 hg
  have e1 : ∀ g ∈ ab sa, g ∉ ab qa := fun g hg e => by
      rcases h.n1 g e with h1 | h1
      · exact (h.d1 g h1).1 hg
      · have := h.tl g (by simp [hg]); omega
  have ww1 : Own w2 9 1 ta m.seps.length tc (m.seps.flatMap csS) := (h.own.ss.kp kX (by simp)).kp k c1
  have f1 : ∀ g ∈ ab ta, g ∉ ab a' := fun g hg e => by
    rcases hn g e with h1 | h1
    · exact c1 g hg h1
    · have := (h.own.ss.kp kX (by simp)).lt g hg; omega
  have c2 : ∀ g ∈ ab la, g ∉ ab qa := fun g hg e => (h.own.d1 g e).2 hg
  have e2 : ∀ g ∈ ab ka, g ∉ ab qa := fun g hg e => by
      rcases h.n1 g e with h1 | h1
      · exact (h.d1 g h1).2 hg
      · have := h.tl g (by simp [hg]); omega
  have ww2 : Own w2 59 33 la m.kids.length lc (m.kids.flatMap csK) := (h.own.ks.kp kX (by simp)).kp k c2
  have f2 : ∀ g ∈ ab la, g ∉ ab a' := fun g hg e => by
    rcases hn g e with h1 | h1
    · exact c2 g hg h1
    · have := (h.own.ks.kp kX (by simp)).lt g hg; omega
  have u : PsAt w2 pa n.pairs := by
    rcases h.r1.same old.rowA with e | e
    · rw [e]; exact (Own.ps old).fore h.p1
    · exact (h.o1.kp kX (by simp)).kp k e
  refine ⟨?_, ?_, ((h.b1.kp kX (by simp)).kp k (hB _ (.inr rfl))).kp kv (by simp), ?_, (fun g hg => by
    rcases hn g hg with h1 | h1
    · exact h.n1 g h1
    · exact .inr (by omega)), h.n2, h.n3, h.tl, h.d1, h.d2, h.r1, h.r2, h.r3, u.kp kv (fun g hg => hT g (by simp [hg])), ((h.o2.kp kX (by simp)).kp k e1).kp kv (fun g hg => hT g (by simp [hg])), ((h.o3.kp kX (by simp)).kp k e2).kp kv (fun g hg => hT g (by simp [hg])), h.p1.trans (List.prefix_append _ _), h.p2, h.p3, h.ll⟩
  · refine ((h.kp.trans kX.of_nil).from k (fun g hg => ?_)).from kv (fun g hg => ?_)
    · rcases h.n1 g hg with h1 | h1
      · exact .inr (by simp [h1])
      · exact .inl (by omega)
    · simp at hg; exact .inl (by omega)
  · have := hbx.set 0 (.slice a' (m.pairs.length + 1) c'); simpa using this
  · refine Own3.kp (S := [w.heap.size]) ⟨?_, ww1, ww2, ?_, fun g hg => ⟨fun e => f1 g e hg, fun e => f2 g e hg⟩, h.own.d2⟩ kv ?_
    · simpa [List.flatMap_append] using ow
    · intro g hg
      simp only [List.mem_append] at hg
      rcases hg with (hg | hg) | hg
      · exact hlow g hg
      · exact h.own.lo g (by simp [hg])
      · exact h.own.lo g (by simp [hg])
    · intro g hg
      simp only [List.mem_append] at hg
      rcases hg with (hg | hg) | hg
      · simp; exact hne g hg
      · simp; exact fun e => by
          have ht := h.tl g
          rcases h.n2 g hg with h1 | h1
          · have := ht (by simp [h1]); omega
          · omega
      · simp; exact fun e => by
          have ht := h.tl g
          rcases h.n3 g hg with h1 | h1
          · have := ht (by simp [h1]); omega
          · omega


theorem GrI.texts {w wr : World} {lo : Nat} {pa sa ka : Option Addr} {n : Nd} {qa ta la : Option Addr} {qc tc lc : Nat} {m : Nd} (h : GrI w wr lo pa sa ka n qa ta la qc tc lc m) {X w2 : World} (kX : Kp [] wr X) (k : Kp (ab ta) X w2) {a' : Option Addr} {c' : Nat} {x : Bs}
    (ow : Own w2 9 1 a' (m.seps.length + 1) c' (m.seps.flatMap csS ++ csS x)) (hn : ∀ g ∈ ab a', g ∈ ab ta ∨ X.heap.size ≤ g) (old : Own w2 9 1 ta m.seps.length tc (m.seps.flatMap csS)) :
    GrI w (w2.setCell ⟨w.heap.size, 1, none⟩ (.slice a' (m.seps.length + 1) c')) lo pa sa ka n qa a' la qc c' lc ⟨m.pairs, m.seps ++ [x], m.kids⟩ := by
  have hz := kX.size
  have hlo := h.lo2
  have hB : ∀ g, g = w.heap.size ∨ g = w.heap.size + 1 → g ∉ ab ta := fun g hg e => by
    have ht := h.tl g
    rcases h.n2 g e with h1 | h1
    · have := ht (by simp [h1]); omega
    · omega
  have hbx := (h.bx.kp kX (by simp)).kp k (hB _ (.inl rfl))
  have kv : Kp [w.heap.size] w2 (w2.setCell ⟨w.heap.size, 1, none⟩ (.slice a' (m.seps.length + 1) c')) := (Kp.refl [w.heap.size] w2).setCell _ (.inr (by simp))
  have hlow : ∀ g ∈ ab a', lo ≤ g := fun g hg => by
    rcases hn g hg with h1 | h1
    · exact h.own.lo g (by simp [h1])
    · have := h.ll; omega
  have hne : ∀ g ∈ ab a', g ≠ w.heap.size := fun g hg => by
    rcases hn g hg with h1 | h1
    · exact fun e => hB g (.inl e) h1
    · omega
  have hT : ∀ g ∈ ab pa ++ ab sa ++ ab ka, g ∉ [w.heap.size] := fun g hg => by have := h.tl g hg; simp; omega
  have c0 : ∀ g ∈ ab qa, g ∉ ab ta := fun g hg e => (h.own.d1 g hg).1 e
  have e0 : ∀ g ∈ ab pa, g ∉ ab ta := fun g hg e => by
      rcases h.n2 g e with h1 | h1
      · exact (h.d1 g hg).1 h1
      · have := h.tl g (by simp [hg]); omega
  have ww0 : Own w2 56 2 qa m.pairs.length qc (m.pairs.flatMap csP) := (h.own.ps.kp kX (by simp)).kp k c0
  have f0 : ∀ g ∈ ab qa, g ∉ ab a' := fun g hg e => by
    rcases hn g e with h1 | h1
    · exact c0 g hg h1
    · have := (h.own.ps.kp kX (by simp)).lt g hg; omega
  have c2 : ∀ g ∈ ab la, g ∉ ab ta := fun g hg e => h.own.d2 g e hg
  have e2 : ∀ g ∈ ab ka, g ∉ ab ta := fun g hg e => by
      rcases h.n2 g e with h1 | h1
      · exact h.d2 g h1 hg
      · have := h.tl g (by simp [hg]); omega
  have ww2 : Own w2 59 33 la m.kids.length lc (m.kids.flatMap csK) := (h.own.ks.kp kX (by simp)).kp k c2
  have f2 : ∀ g ∈ ab la, g ∉ ab a' := fun g hg e => by
    rcases hn g e with h1 | h1
    · exact c2 g hg h1
    · have := (h.own.ks.kp kX (by simp)).lt g hg; omega
  have u : SsAt w2 sa n.seps := by
    rcases h.r2.same old.rowA with e | e
    · rw [e]; exact (Own.ss' old).fore h.p2
    · exact (h.o2.kp kX (by simp)).kp k e
  refine ⟨?_, ?_, ((h.b1.kp kX (by simp)).kp k (hB _ (.inr rfl))).kp kv (by simp), ?_, h.n1, (fun g hg => by
    rcases hn g hg with h1 | h1
    · exact h.n2 g h1
    · exact .inr (by omega)), h.n3, h.tl, h.d1, h.d2, h.r1, h.r2, h.r3, ((h.o1.kp kX (by simp)).kp k e0).kp kv (fun g hg => hT g (by simp [hg])), u.kp kv (fun g hg => hT g (by simp [hg])), ((h.o3.kp kX (by simp)).kp k e2).kp kv (fun g hg => hT g (by simp [hg])), h.p1, h.p2.trans (List.prefix_append _ _), h.p3, h.ll⟩
  · refine ((h.kp.trans kX.of_nil).from k (fun g hg => ?_)).from kv (fun g hg => ?_)
    · rcases h.n2 g hg with h1 | h1
      · exact .inr (by simp [h1])
      · exact .inl (by omega)
    · simp at hg; exact .inl (by omega)
  · have := hbx.set 1 (.slice a' (m.seps.length + 1) c'); simpa using this
  · refine Own3.kp (S := [w.heap.size]) ⟨ww0, ?_, ww2, ?_, fun g hg => ⟨f0 g hg, (h.own.d1 g hg).2⟩, fun g hg e => f2 g e hg⟩ kv ?_
    · simpa [List.flatMap_append] using ow
    · intro g hg
      simp only [List.mem_append] at hg
      rcases hg with (hg | hg) | hg
      · exact h.own.lo g (by simp [hg])
      · exact hlow g hg
      · exact h.own.lo g (by simp [hg])
    · intro g hg
      simp only [List.mem_append] at hg
      rcases hg with (hg | hg) | hg
      · simp; exact fun e => by
          have ht := h.tl g
          rcases h.n1 g hg with h1 | h1
          · have := ht (by simp [h1]); omega
          · omega
      · simp; exact hne g hg
      · simp; exact fun e => by
          have ht := h.tl g
          rcases h.n3 g hg with h1 | h1
          · have := ht (by simp [h1]); omega
          · omega


theorem GrI.kids {w wr : World} {lo : Nat} {pa sa ka : Option Addr} {n : Nd} {qa ta la : Option Addr} {qc tc lc : Nat} {m : Nd} (h : GrI w wr lo pa sa ka n qa ta la qc tc lc m) {X w2 : World} (kX : Kp [] wr X) (k : Kp (ab la) X w2) {a' : Option Addr} {c' : Nat} {x : Kd}
    (ow : Own w2 59 33 a' (m.kids.length + 1) c' (m.kids.flatMap csK ++ csK x)) (hn : ∀ g ∈ ab a', g ∈ ab la ∨ X.heap.size ≤ g) (old : Own w2 59 33 la m.kids.length lc (m.kids.flatMap csK)) :
    GrI w (w2.setCell ⟨w.heap.size, 2, none⟩ (.slice a' (m.kids.length + 1) c')) lo pa sa ka n qa ta a' qc tc c' ⟨m.pairs, m.seps, m.kids ++ [x]⟩ := by
  have hz := kX.size
  have hlo := h.lo2
  have hB : ∀ g, g = w.heap.size ∨ g = w.heap.size + 1 → g ∉ ab la := fun g hg e => by
    have ht := h.tl g
    rcases h.n3 g e with h1 | h1
    · have := ht (by simp [h1]); omega
    · omega
  have hbx := (h.bx.kp kX (by simp)).kp k (hB _ (.inl rfl))
  have kv : Kp [w.heap.size] w2 (w2.setCell ⟨w.heap.size, 2, none⟩ (.slice a' (m.kids.length + 1) c')) := (Kp.refl [w.heap.size] w2).setCell _ (.inr (by simp))
  have hlow : ∀ g ∈ ab a', lo ≤ g := fun g hg => by
    rcases hn g hg with h1 | h1
    · exact h.own.lo g (by simp [h1])
    · have := h.ll; omega
  have hne : ∀ g ∈ ab a', g ≠ w.heap.size := fun g hg => by
    rcases hn g hg with h1 | h1
    · exact fun e => hB g (.inl e) h1
    · omega
  have hT : ∀ g ∈ ab pa ++ ab sa ++ ab ka, g ∉ [w.heap.size] := fun g hg => by have := h.tl g hg; simp; omega
  have c0 : ∀ g ∈ ab qa, g ∉ ab la := fun g hg e => (h.own.d1 g hg).2 e
  have e0 : ∀ g ∈ ab pa, g ∉ ab la := fun g hg e => by
      rcases h.n3 g e with h1 | h1
      · exact (h.d1 g hg).2 h1
      · have := h.tl g (by simp [hg]); omega
  have ww0 : Own w2 56 2 qa m.pairs.length qc (m.pairs.flatMap csP) := (h.own.ps.kp kX (by simp)).kp k c0
  have f0 : ∀ g ∈ ab qa, g ∉ ab a' := fun g hg e => by
    rcases hn g e with h1 | h1
    · exact c0 g hg h1
    · have := (h.own.ps.kp kX (by simp)).lt g hg; omega
  have c1 : ∀ g ∈ ab ta, g ∉ ab la := fun g hg e => h.own.d2 g hg e
  have e1 : ∀ g ∈ ab sa, g ∉ ab la := fun g hg e => by
      rcases h.n3 g e with h1 | h1
      · exact h.d2 g hg h1
      · have := h.tl g (by simp [hg]); omega
  have ww1 : Own w2 9 1 ta m.seps.length tc (m.seps.flatMap csS) := (h.own.ss.kp kX (by simp)).kp k c1
  have f1 : ∀ g ∈ ab ta, g ∉ ab a' := fun g hg e => by
    rcases hn g e with h1 | h1
    · exact c1 g hg h1
    · have := (h.own.ss.kp kX (by simp)).lt g hg; omega
  have u : KsAt w2 ka n.kids := by
    rcases h.r3.same old.rowA with e | e
    · rw [e]; exact (Own.ks old).fore h.p3
    · exact (h.o3.kp kX (by simp)).kp k e
  refine ⟨?_, ?_, ((h.b1.kp kX (by simp)).kp k (hB _ (.inr rfl))).kp kv (by simp), ?_, h.n1, h.n2, (fun g hg => by
    rcases hn g hg with h1 | h1
    · exact h.n3 g h1
    · exact .inr (by omega)), h.tl, h.d1, h.d2, h.r1, h.r2, h.r3, ((h.o1.kp kX (by simp)).kp k e0).kp kv (fun g hg => hT g (by simp [hg])), ((h.o2.kp kX (by simp)).kp k e1).kp kv (fun g hg => hT g (by simp [hg])), u.kp kv (fun g hg => hT g (by simp [hg])), h.p1, h.p2, h.p3.trans (List.prefix_append _ _), h.ll⟩
  · refine ((h.kp.trans kX.of_nil).from k (fun g hg => ?_)).from kv (fun g hg => ?_)
    · rcases h.n3 g hg with h1 | h1
      · exact .inr (by simp [h1])
      · exact .inl (by omega)
    · simp at hg; exact .inl (by omega)
  · have := hbx.set 2 (.slice a' (m.kids.length + 1) c'); simpa using this
  · refine Own3.kp (S := [w.heap.size]) ⟨ww0, ww1, ?_, ?_, fun g hg => ⟨(h.own.d1 g hg).1, f0 g hg⟩, f1⟩ kv ?_
    · simpa [List.flatMap_append] using ow
    · intro g hg
      simp only [List.mem_append] at hg
      rcases hg with (hg | hg) | hg
      · exact h.own.lo g (by simp [hg])
      · exact h.own.lo g (by simp [hg])
      · exact hlow g hg
    · intro g hg
      simp only [List.mem_append] at hg
      rcases hg with (hg | hg) | hg
      · simp; exact fun e => by
          have ht := h.tl g
          rcases h.n1 g hg with h1 | h1
          · have := ht (by simp [h1]); omega
          · omega
      · simp; exact fun e => by
          have ht := h.tl g
          rcases h.n2 g hg with h1 | h1
          · have := ht (by simp [h1]); omega
          · omega
      · simp; exact hne g hg


end Go.Proofs.YtemicgccgcmmbaaGreat

/- grown: the walk. -/
namespace Go.Proofs.YtemicgccgcmmbaaGreat
set_option linter.unusedVariables false
set_option linter.unusedSimpArgs false
open Go Go.RowKit

@[go_sem] theorem str_y (mark : UInt8) : (⟨#[121]⟩ : ByteArray) ++ ⟨#[mark]⟩ = ⟨(yB mark).toArray⟩ := by
  apply ByteArray.ext
  simp [yB, ByteArray.data_append]

def Nd.ys (mark : UInt8) (k : Nat) : Nd := ⟨List.replicate k (yB mark, []), List.replicate k (yB mark), List.replicate k ⟨mark.toNat + 100, Dg.zero⟩⟩

theorem GrI.mid {w wr : World} {lo : Nat} {pa sa ka : Option Addr} {n : Nd} {qa ta la : Option Addr} {qc tc lc : Nat} {m : Nd} (h : GrI w wr lo pa sa ka n qa ta la qc tc lc m) {X w2 : World} (kX : Kp [] wr X) {S : List Nat} (k : Kp S X w2) (hS : ∀ g ∈ S, g ∈ ab qa ++ ab ta ++ ab la) :
    Blk w2 w.heap.size 28 #[.slice qa m.pairs.length qc, .slice ta m.seps.length tc, .slice la m.kids.length lc] := by
  refine (h.bx.kp kX (by simp)).kp k (fun e => ?_)
  have ht := h.tl w.heap.size
  have := hS _ e
  simp only [List.mem_append] at this ht
  rcases this with (h1 | h1) | h1
  · rcases h.n1 _ h1 with h2 | h2
    · have := ht (.inl (.inl h2)); omega
    · omega
  · rcases h.n2 _ h1 with h2 | h2
    · have := ht (.inl (.inr h2)); omega
    · omega
  · rcases h.n3 _ h1 with h2 | h2
    · have := ht (.inr h2); omega
    · omega

def GrownPost (mark : UInt8) (n : Nd) (lo : Nat) (pa sa ka : Option Addr) (w : World) (e : Ending) (w' : World) : Prop :=
  ∃ qa ta la qc tc lc, e = .returned (.agg #[.slice qa (n.pairs.length + 40) qc, .slice ta (n.seps.length + 40) tc, .slice la (n.kids.length + 40) lc]) ∧ Own3 w' lo qa ta la qc tc lc (n.app (Nd.ys mark 40)) ∧ NdAt w' pa sa ka n ∧ Kp (ab pa ++ ab sa ++ ab ka) w w' ∧
    (∀ g ∈ ab qa, g ∈ ab pa ∨ w.heap.size ≤ g) ∧ (∀ g ∈ ab ta, g ∈ ab sa ∨ w.heap.size ≤ g) ∧ (∀ g ∈ ab la, g ∈ ab ka ∨ w.heap.size ≤ g)

theorem ys_step (mark : UInt8) (n : Nd) (k : Nat) : (⟨(n.app (Nd.ys mark k)).pairs ++ [(yB mark, [])], (n.app (Nd.ys mark k)).seps ++ [yB mark], (n.app (Nd.ys mark k)).kids ++ [⟨mark.toNat + 100, Dg.zero⟩]⟩ : Nd) = n.app (Nd.ys mark (k + 1)) := by
  simp [Nd.app, Nd.ys, List.replicate_succ']

set_option maxHeartbeats 4000000 in
set_option maxRecDepth 100000 in
theorem grown_any (mark : UInt8) (lo : Nat) (pa sa ka : Option Addr) (pc sc kc : Nat) (n : Nd) (w : World) (h : Own3 w lo pa sa ka pc sc kc n) (hl : lo ≤ w.heap.size) (hf : NdFew n) :
    Calls Tryz.prog 39 #[.agg #[.slice pa n.pairs.length pc, .slice sa n.seps.length sc, .slice ka n.kids.length kc], .int .u32 (mark.toNat : Int)] w (GrownPost mark n lo pa sa ka w) := by
  have G0 := Lib.hid (GrI.start h hl)
  have fp := hf.np; have fs := hf.ns; have fk := hf.nk
  have hm : mark.toNat < 256 := mark.toNat_lt
  obtain ⟨mk, hmk, hmk2⟩ : ∃ mk : Nat, (mark.toNat : Int) + 100 = (mk : Int) ∧ Hid (mk = mark.toNat + 100) := ⟨mark.toNat + 100, by simp, rfl⟩
  clear h hl hf
  go_enter Tryz.func39, Tryz.ntmps39
  go_wp2_with fail
  go_loopw [5] (fun i wr => ∃ k qa ta la qc tc lc m, i = .int .i64 (k : Nat) ∧ k ≤ 40 ∧ Hid (GrI w wr lo pa sa ka n qa ta la qc tc lc m) ∧ Hid (m = n.app (Nd.ys mark k))) (fun i _ => 40 - (intOf i).toNat)
  case atStart => exact ⟨0, pa, sa, ka, pc, sc, kc, n, rfl, by omega, G0, by show _ = _; simp [Nd.app, Nd.ys]⟩
  case round =>
    clear G0
    obtain ⟨k, qa, ta, la, qc, tc, lc, m, rfl, hk, G, HM⟩ := hrel
    obtain ⟨c5, c6, c7, c8, c9, c10, g8⟩ := LtI.facts G.out.bx
    have m1 : m.pairs.length ≤ 1048616 := by rw [HM.out]; simp [Nd.app, Nd.ys]; omega
    have m2 : m.seps.length ≤ 1048616 := by rw [HM.out]; simp [Nd.app, Nd.ys]; omega
    have m3 : m.kids.length ≤ 1048616 := by rw [HM.out]; simp [Nd.app, Nd.ys]; omega
    by_cases hlt : k < 40
    · have hlt' : (k : Int) < 40 := by omega
      go_wp2_with (first
        | (at_builtin; refine wpList_app2_pair (s := .tmp 11) (x := .tmp 18) rfl rfl rfl (G.out.own.ps.kp (((Kp.refl [] _).alloc _).alloc _) (by simp)) 1 _ (src_row Tryz.underlying24 _ _ _ _ (by simp) rfl (by simp [Value.oneCell'])) (by omega) ?_; intro pb2 pd2 w2 o2 k2 n2 old2; have G2 := Lib.hid (G.out.pairs (x := (yB mark, [])) (((Kp.refl [] _).alloc _).alloc _) k2 o2 n2 old2); clear c5 c6 c7 c8 c9 c10 g8; obtain ⟨c5, c6, c7, c8, c9, c10, g8⟩ := LtI.facts (G.out.mid (((Kp.refl [] _).alloc _).alloc _) k2 (fun g hg => by simp [hg])); clear o2 k2 n2 old2)
        | (at_builtin; refine wpList_app2_str (s := .tmp 22) (x := .tmp 28) rfl rfl rfl (G2.out.own.ss.kp (((Kp.refl [] _).alloc _).alloc _) (by simp)) 1 _ (src_row Tryz.underlying25 _ _ _ _ (by simp) rfl (by simp [Value.oneCell'])) (by omega) ?_; intro sb2 sd2 w3 o3 k3 n3 old3; have G3 := Lib.hid (G2.out.texts (x := yB mark) (((Kp.refl [] _).alloc _).alloc _) k3 o3 n3 old3); clear c5 c6 c7 c8 c9 c10 g8; obtain ⟨c5, c6, c7, c8, c9, c10, g8⟩ := LtI.facts (G2.out.mid (((Kp.refl [] _).alloc _).alloc _) k3 (fun g hg => by simp [hg])); clear o3 k3 n3 old3)
        | (at_builtin; refine wpList_app2_kid (s := .tmp 32) (x := .tmp 36) rfl rfl rfl (G3.out.own.ks.kp ((Kp.refl [] _).alloc _) (by simp)) 1 _ (src_row Tryz.underlying26 _ _ _ _ (by simp) (Kd.c_size (Kd.mk mk Dg.zero)) (Kd.c_one (Kd.mk mk Dg.zero))) (by omega) ?_; intro kb2 kd2 w4 o4 k4 n4 old4; have G4 := Lib.hid (G3.out.kids (x := Kd.mk mk Dg.zero) ((Kp.refl [] _).alloc _) k4 o4 n4 old4); clear c5 c6 c7 c8 c9 c10 g8; obtain ⟨c5, c6, c7, c8, c9, c10, g8⟩ := LtI.facts (G3.out.mid ((Kp.refl [] _).alloc _) k4 (fun g hg => by simp [hg])); clear o4 k4 n4 old4))
      go_roundw
      case rel => exact ⟨k + 1, pb2, sb2, kb2, pd2, sd2, kd2, _, by go_num, by omega, G4, by show _ = _; rw [← ys_step, ← HM.out, ← hmk2.out]⟩
      case measure => simp [intOf]; omega
    · have hlt' : ¬ (k : Int) < 40 := by omega
      obtain ⟨y0, y1, y2, y3, y4, y5, y6⟩ := LtI.facts G.out.b1
      go_wp2_with fail
      have hk40 : k = 40 := by omega
      subst hk40
      have kG : Kp [w.heap.size + 1] wr (((wr.setCell ⟨w.heap.size + 1, 0, none⟩ (.slice qa m.pairs.length qc)).setCell ⟨w.heap.size + 1, 1, none⟩ (.slice ta m.seps.length tc)).setCell ⟨w.heap.size + 1, 2, none⟩ (.slice la m.kids.length lc)) := (((Kp.refl [w.heap.size + 1] wr).setCell _ (.inr (by simp))).setCell _ (.inr (by simp))).setCell _ (.inr (by simp))
      have hb : Blk (((wr.setCell ⟨w.heap.size + 1, 0, none⟩ (.slice qa m.pairs.length qc)).setCell ⟨w.heap.size + 1, 1, none⟩ (.slice ta m.seps.length tc)).setCell ⟨w.heap.size + 1, 2, none⟩ (.slice la m.kids.length lc)) (w.heap.size + 1) 28 #[.slice qa m.pairs.length qc, .slice ta m.seps.length tc, .slice la m.kids.length lc] := by
        have h := ((G.out.b1.set 0 (.slice qa m.pairs.length qc)).set 1 (.slice ta m.seps.length tc)).set 2 (.slice la m.kids.length lc)
        simpa using h
      have e1 : m.pairs.length = n.pairs.length + 40 := by rw [HM.out]; simp [Nd.app, Nd.ys]
      have e2 : m.seps.length = n.seps.length + 40 := by rw [HM.out]; simp [Nd.app, Nd.ys]
      have e3 : m.kids.length = n.kids.length + 40 := by rw [HM.out]; simp [Nd.app, Nd.ys]
      have hne : ∀ g ∈ ab qa ++ ab ta ++ ab la, g ∉ [w.heap.size + 1] := fun g hg e => by
        have ht := G.out.tl g
        simp only [List.mem_append, List.mem_singleton] at hg e ht
        subst e
        rcases hg with (h1 | h1) | h1
        · rcases G.out.n1 _ h1 with h2 | h2
          · have := ht (.inl (.inl h2)); omega
          · omega
        · rcases G.out.n2 _ h1 with h2 | h2
          · have := ht (.inl (.inr h2)); omega
          · omega
        · rcases G.out.n3 _ h1 with h2 | h2
          · have := ht (.inr h2); omega
          · omega
      have ho0 := G.out.own
      have hmm : m = n.app (Nd.ys mark 40) := HM.out
      have ho := (show Own3 wr lo qa ta la qc tc lc (n.app (Nd.ys mark 40)) from hmm ▸ ho0).kp kG hne
      have hT : ∀ g ∈ ab pa ++ ab sa ++ ab ka, g ∉ [w.heap.size + 1] := fun g hg => by have := G.out.tl g hg; simp; omega
      refine nd_ret1 (w.heap.size + 1) rfl rfl hb rfl ⟨qa, ta, la, qc, tc, lc, by rw [e1, e2, e3], ho, ⟨G.out.o1.kp kG (fun g hg => hT g (by simp [hg])), G.out.o2.kp kG (fun g hg => hT g (by simp [hg])), G.out.o3.kp kG (fun g hg => hT g (by simp [hg]))⟩, G.out.kp.from kG (fun g hg => by simp at hg; subst hg; exact .inl (by omega)), ?_, ?_, ?_⟩
      · intro g hg
        rcases G.out.n1 g hg with h1 | h1
        · exact .inl h1
        · exact .inr (by omega)
      · intro g hg
        rcases G.out.n2 g hg with h1 | h1
        · exact .inl h1
        · exact .inr (by omega)
      · intro g hg
        rcases G.out.n3 g hg with h1 | h1
        · exact .inl h1
        · exact .inr (by omega)

end Go.Proofs.YtemicgccgcmmbaaGreat

/- marked: a node has just its marks. -/
namespace Go.Proofs.YtemicgccgcmmbaaGreat
set_option linter.unusedVariables false
set_option linter.unusedSimpArgs false
open Go Go.RowKit

@[go_sem] theorem str_x' (mark : UInt8) : (⟨#[120]⟩ : ByteArray) ++ ⟨#[mark]⟩ = ⟨(xB mark).toArray⟩ := str_x mark

@[go_sem] theorem conv_one_drew (w : World) (mark : UInt8) (g : Nat) (hg : g = w.heap.size) : (convert 66 9 (.slice (some ⟨g, 0, none⟩) 1 1)).run Tryz.prog (w.alloc (.cells #[.int .u8 (mark.toNat : Int)] 5)).drew = .ok (.string ⟨#[mark]⟩) (w.alloc (.cells #[.int .u8 (mark.toNat : Int)] 5)).drew := by
  subst hg
  refine conv_cells (t := [mark]) _ _ ?_
  intro j u hj
  match j, hj with
  | 0, hj =>
    simp [bC] at hj
    subst hj
    have := ((Blk.new w 5 #[.int .u8 (mark.toNat : Int)]).drew).cell 0
    simp [Addr.add]
/-- Just its marks: first so many of the one, then those of the other. -/
structure MkN (mark : UInt8) (m : Nd) (p s k : Nat) : Prop where
  ps : ∀ i x, m.pairs[i]? = some x → x.1 = if i < p then xB mark else yB mark
  ss : ∀ i x, m.seps[i]? = some x → x = if i < s then xB mark else yB mark
  ks : ∀ i x, m.kids[i]? = some x → x.page = if i < k then mark.toNat else mark.toNat + 100

theorem MkN.of (mark : UInt8) (n : Nd) (j : Nat) : MkN mark ((n.spoilt mark).app (Nd.ys mark j)) n.pairs.length n.seps.length n.kids.length := by
  have key : ∀ {α : Type} (a b : Nat) (x y z : α) (i : Nat), (List.replicate a x ++ List.replicate b y)[i]? = some z → z = if i < a then x else y := by
    intro α a b x y z i h
    by_cases hi : i < a
    · rw [List.getElem?_append_left (by simpa using hi), List.getElem?_replicate] at h
      rw [if_pos hi]; rw [if_pos hi] at h; exact (Option.some.inj h).symm
    · rw [List.getElem?_append_right (by simpa using hi), List.length_replicate, List.getElem?_replicate] at h
      rw [if_neg hi]
      split at h
      · exact (Option.some.inj h).symm
      · cases h
  refine ⟨fun i x h => ?_, fun i x h => key _ _ _ _ _ _ h, fun i x h => ?_⟩
  · rw [key _ _ _ _ _ _ h]; split <;> rfl
  · rw [key _ _ _ _ _ _ h]; split <;> rfl

theorem pairCell {w : World} {a : Option Addr} {l : List Pr} (h : PsAt w a l) {k : Nat} {x : Pr} (hx : l[k]? = some x) : ∃ b o, a = some ⟨b, o, none⟩ ∧ b < w.heap.size ∧ w.cell? ⟨b, o + k * 2, none⟩ = some (.string ⟨x.1.toArray⟩) := by
  obtain ⟨b, o, e, hb, c1, _⟩ := h k x hx
  exact ⟨b, o, e, hb, c1⟩

set_option maxHeartbeats 2000000 in
set_option maxRecDepth 100000 in
theorem marked_any (mark : UInt8) (pa sa ka : Option Addr) (pc sc kc p s q : Nat) (m : Nd) (w : World) (h : NdAt w pa sa ka m) (hm : MkN mark m p s q) (b1 : m.pairs.length ≤ 2000000) (b2 : m.seps.length ≤ 2000000) (b3 : m.kids.length ≤ 2000000) (b4 : p ≤ 2000000) (b5 : s ≤ 2000000) (b6 : q ≤ 2000000) :
    Calls Tryz.prog 40 #[.agg #[.slice pa m.pairs.length pc, .slice sa m.seps.length sc, .slice ka m.kids.length kc], .int .i64 p, .int .i64 s, .int .i64 q, .int .u32 (mark.toNat : Int)] w (Rets (.bool true) w) := by
  obtain ⟨W0, hW0⟩ : ∃ W0, W0 = w.alloc (.cells #[.slice pa m.pairs.length pc, .slice sa m.seps.length sc, .slice ka m.kids.length kc] 28) := ⟨_, rfl⟩
  have bx : Blk W0 w.heap.size 28 #[.slice pa m.pairs.length pc, .slice sa m.seps.length sc, .slice ka m.kids.length kc] := by rw [hW0]; exact Blk.new w _ _
  have kw : Kp [] w W0 := by rw [hW0]; exact (Kp.refl [] w).alloc _
  have BX := Lib.hid bx; have KW := Lib.hid kw; have H := Lib.hid (h.kp0 kw); have HM := Lib.hid hm; have HW0 := Lib.hid hW0
  have hmark : mark.toNat < 256 := mark.toNat_lt
  obtain ⟨mk, hmk, hmk2⟩ : ∃ mk : Nat, (mark.toNat : Int) + 100 = (mk : Int) ∧ Hid (mk = mark.toNat + 100) := ⟨mark.toNat + 100, by simp, rfl⟩
  clear h hm bx kw hW0
  go_enter Tryz.func40, Tryz.ntmps40
  go_wp2_with fail
  rw [← HW0.out]
  go_loopw [10, 11] (fun _ i wr => ∃ k, i = .int .i64 (k : Nat) ∧ k ≤ m.pairs.length ∧ Hid (Kp [] W0 wr)) (fun _ i _ => m.pairs.length - (intOf i).toNat)
  case atStart => exact ⟨0, rfl, Nat.zero_le _, Kp.refl _ _⟩
  case round =>
    obtain ⟨k, rfl, hk, KR⟩ := hrel
    obtain ⟨c5, c6, c7, c8, c9, c10, g8⟩ := LtI.facts (BX.out.kp KR.out (by simp))
    clear c8 c9 c10
    by_cases hlt : k < m.pairs.length
    · obtain ⟨x, hx⟩ : ∃ x, m.pairs[k]? = some x := ⟨_, List.getElem?_eq_getElem hlt⟩
      obtain ⟨b, o, rfl, hb, cf⟩ := pairCell (PsAt.kp H.out.ps KR.out (by simp)) hx
      have hv := HM.out.ps k x hx
      have SK : Hid (∀ W : World, Kp [] wr W → (W.cell? ⟨w.heap.size, 0, none⟩ = some (.slice (some ⟨b, o, none⟩) m.pairs.length pc) ∧ W.cell? ⟨b, o + k * 2, none⟩ = some (.string ⟨x.1.toArray⟩))) := Lib.hid (fun W k => ⟨k.cell c5 (by simp), k.cell cf (by simp)⟩)
      clear hx
      by_cases hp : k < p
      · have hp' : (k : Int) < p := by omega
        have hp2 : ¬ (p : Int) ≤ (k : Int) := by omega
        have hp3 : ¬ p ≤ k := by omega
        rw [if_pos hp] at hv
        rw [hv] at cf SK
        clear hv
        have e8 : IntKind.u8.wrap (mark.toNat : Int) = mark.toNat := IntWalk.u8_in _ (by omega)
        go_wp2_with fail
        refine wp_region_noPanic ?_
        refine wp_region_held_drew (S := fun W => W.cell? ⟨w.heap.size, 0, none⟩ = some (.slice (some ⟨b, o, none⟩) m.pairs.length pc) ∧ W.cell? ⟨b, o + k * 2, none⟩ = some (.string ⟨(xB mark).toArray⟩)) (by kernel_rfl) ?_ (fun hHeld => ?_)
        · (try dsimp only); exact SK.out _ ((Kp.refl [] _).drew)
        refine wpAnyH_take (i := 0) (oi := { dst := some 21, op := Go.Op.move (Go.Operand.tmp 11), type := 3, pos := "law.go:71", after := #[], guard := none }) (v := ?_) rfl (by kernel_rfl) (by kernel_rfl) (by kernel_rfl) (fun _ _ _ h => h) (Or.inl ⟨by rfl, ?_⟩) (by assumption) ?_
        rotate_left
        · (intro w hSw; (try dsimp only at hSw); go_simp; try with_reducible rfl)
        try simp only [Act.put, List.setIfInBounds_toArray, List.set_cons_zero, List.set_cons_succ]
        refine wpAnyH_take (i := 1) (oi := { dst := some 22, op := Go.Op.move (Go.Operand.tmp 1), type := 3, pos := "law.go:71", after := #[], guard := none }) (v := ?_) rfl (by kernel_rfl) (by kernel_rfl) (by kernel_rfl) (fun _ _ _ h => h) (Or.inl ⟨by rfl, ?_⟩) (by assumption) ?_
        rotate_left
        · (intro w hSw; (try dsimp only at hSw); go_simp; try with_reducible rfl)
        try simp only [Act.put, List.setIfInBounds_toArray, List.set_cons_zero, List.set_cons_succ]
        refine wpAnyH_take (i := 2) (oi := { dst := some 23, op := Go.Op.binOp Go.BinOp.lss 3 (Go.Operand.tmp 21) (Go.Operand.tmp 22) 3, type := 4, pos := "law.go:71", after := #[{ on := 0, ground := Go.Ground.data }, { on := 1, ground := Go.Ground.data }], guard := none }) (v := ?_) rfl (by kernel_rfl) (by kernel_rfl) (by kernel_rfl) (fun _ _ _ h => h) (Or.inl ⟨by rfl, ?_⟩) (by assumption) ?_
        rotate_left
        · (intro w hSw; (try dsimp only at hSw); go_simp; try with_reducible rfl)
        try simp only [Act.put, List.setIfInBounds_toArray, List.set_cons_zero, List.set_cons_succ]
        refine wpAnyH_take (i := 3) (oi := { dst := some 24, op := Go.Op.move (Go.Operand.tmp 23), type := 4, pos := "law.go:71", after := #[{ on := 2, ground := Go.Ground.data }], guard := none }) (v := ?_) rfl (by kernel_rfl) (by kernel_rfl) (by kernel_rfl) (fun _ _ _ h => h) (Or.inl ⟨by rfl, ?_⟩) (by assumption) ?_
        rotate_left
        · (intro w hSw; (try dsimp only at hSw); go_simp; try with_reducible rfl)
        try simp only [Act.put, List.setIfInBounds_toArray, List.set_cons_zero, List.set_cons_succ]
        refine wpAnyH_take (i := 4) (oi := { dst := some 25, op := Go.Op.fieldAddr 28 (Go.Operand.tmp 5) 0, type := 0, pos := "law.go:71", after := #[{ on := 3, ground := Go.Ground.guard }], guard := some (3, true) }) (v := ?_) rfl (by kernel_rfl) (by kernel_rfl) (by kernel_rfl) (fun _ _ _ h => h) (Or.inl ⟨by rfl, ?_⟩) (by assumption) ?_
        rotate_left
        · (intro w hSw; (try dsimp only at hSw); go_simp; try with_reducible rfl)
        try simp only [Act.put, List.setIfInBounds_toArray, List.set_cons_zero, List.set_cons_succ]
        refine wpAnyH_take (i := 5) (oi := { dst := some 26, op := Go.Op.load 24 (Go.Operand.tmp 25), type := 24, pos := "law.go:71", after := #[{ on := 4, ground := Go.Ground.data }, { on := 3, ground := Go.Ground.guard }], guard := some (3, true) }) (v := ?_) rfl (by kernel_rfl) (by kernel_rfl) (by kernel_rfl) (fun _ _ _ h => h) (Or.inl ⟨by rfl, ?_⟩) (by assumption) ?_
        rotate_left
        · (intro w hSw; (try dsimp only at hSw); go_simp; try with_reducible rfl)
        try simp only [Act.put, List.setIfInBounds_toArray, List.set_cons_zero, List.set_cons_succ]
        refine wpAnyH_take (i := 6) (oi := { dst := some 27, op := Go.Op.move (Go.Operand.tmp 11), type := 3, pos := "law.go:71", after := #[{ on := 3, ground := Go.Ground.guard }], guard := some (3, true) }) (v := ?_) rfl (by kernel_rfl) (by kernel_rfl) (by kernel_rfl) (fun _ _ _ h => h) (Or.inl ⟨by rfl, ?_⟩) (by assumption) ?_
        rotate_left
        · (intro w hSw; (try dsimp only at hSw); go_simp; try with_reducible rfl)
        try simp only [Act.put, List.setIfInBounds_toArray, List.set_cons_zero, List.set_cons_succ]
        refine wpAnyH_take (i := 7) (oi := { dst := some 28, op := Go.Op.indexAddr 24 (Go.Operand.tmp 26) (Go.Operand.tmp 27), type := 0, pos := "law.go:71", after := #[{ on := 5, ground := Go.Ground.data }, { on := 6, ground := Go.Ground.data }, { on := 3, ground := Go.Ground.guard }], guard := some (3, true) }) (v := ?_) rfl (by kernel_rfl) (by kernel_rfl) (by kernel_rfl) (fun _ _ _ h => h) (Or.inl ⟨by rfl, ?_⟩) (by assumption) ?_
        rotate_left
        · (intro w hSw; (try dsimp only at hSw); go_simp; try with_reducible rfl)
        try simp only [Act.put, List.setIfInBounds_toArray, List.set_cons_zero, List.set_cons_succ]
        refine wpAnyH_take (i := 8) (oi := { dst := some 29, op := Go.Op.fieldAddr 56 (Go.Operand.tmp 28) 0, type := 0, pos := "law.go:71", after := #[{ on := 7, ground := Go.Ground.data }, { on := 3, ground := Go.Ground.guard }], guard := some (3, true) }) (v := ?_) rfl (by kernel_rfl) (by kernel_rfl) (by kernel_rfl) (fun _ _ _ h => h) (Or.inl ⟨by rfl, ?_⟩) (by assumption) ?_
        rotate_left
        · (intro w hSw; (try dsimp only at hSw); go_simp; try with_reducible rfl)
        try simp only [Act.put, List.setIfInBounds_toArray, List.set_cons_zero, List.set_cons_succ]
        refine wpAnyH_take (i := 9) (oi := { dst := some 30, op := Go.Op.load 9 (Go.Operand.tmp 29), type := 9, pos := "law.go:71", after := #[{ on := 8, ground := Go.Ground.data }, { on := 3, ground := Go.Ground.guard }], guard := some (3, true) }) (v := ?_) rfl (by kernel_rfl) (by kernel_rfl) (by kernel_rfl) (fun _ _ _ h => h) (Or.inl ⟨by rfl, ?_⟩) (by assumption) ?_
        rotate_left
        · (intro w hSw; (try dsimp only at hSw); go_simp; try with_reducible rfl)
        try simp only [Act.put, List.setIfInBounds_toArray, List.set_cons_zero, List.set_cons_succ]
        refine wpAnyH_take (i := 10) (oi := { dst := some 31, op := Go.Op.move (Go.Operand.tmp 4), type := 57, pos := "law.go:71", after := #[{ on := 3, ground := Go.Ground.guard }], guard := some (3, true) }) (v := ?_) rfl (by kernel_rfl) (by kernel_rfl) (by kernel_rfl) (fun _ _ _ h => h) (Or.inl ⟨by rfl, ?_⟩) (by assumption) ?_
        rotate_left
        · (intro w hSw; (try dsimp only at hSw); go_simp; try with_reducible rfl)
        try simp only [Act.put, List.setIfInBounds_toArray, List.set_cons_zero, List.set_cons_succ]
        refine wpAnyH_take (i := 11) (oi := { dst := some 32, op := Go.Op.convert 57 5 (Go.Operand.tmp 31), type := 5, pos := "law.go:71", after := #[{ on := 10, ground := Go.Ground.data }, { on := 3, ground := Go.Ground.guard }], guard := some (3, true) }) (v := ?_) rfl (by kernel_rfl) (by kernel_rfl) (by kernel_rfl) (fun _ _ _ h => h) (Or.inl ⟨by rfl, ?_⟩) (by assumption) ?_
        rotate_left
        · (intro w hSw; (try dsimp only at hSw); go_simp; try with_reducible rfl)
        try simp only [Act.put, List.setIfInBounds_toArray, List.set_cons_zero, List.set_cons_succ]
        refine wpAnyH_ready (rs := [12]) (by kernel_rfl) (by simp) ?_
        refine AllReadyH.cons (o := { dst := some 33, op := Go.Op.buildSlice 66 1 #[(0, Go.Operand.tmp 32)], type := 66, pos := "law.go:71", after := #[{ on := 11, ground := Go.Ground.data }, { on := 3, ground := Go.Ground.guard }], guard := some (3, true) }) rfl (fun K hK => ?_) AllReadyH.nil
        go_simp
        refine hK.out _ _ ?_ (fun hHeld => ?_)
        · (try dsimp only); first | exact SK.out _ (((Kp.refl [] _).drew).alloc _) | exact SK.out _ (((Kp.refl [] _).alloc _).drew)
        clear hK K
        try simp only [Act.put, List.setIfInBounds_toArray, List.set_cons_zero, List.set_cons_succ]
        refine wpAnyH_ready (rs := [13]) (by kernel_rfl) (by simp) ?_
        refine AllReadyH.cons (o := { dst := some 34, op := Go.Op.convert 66 9 (Go.Operand.tmp 33), type := 9, pos := "law.go:71", after := #[{ on := 12, ground := Go.Ground.data }, { on := 3, ground := Go.Ground.guard }], guard := some (3, true) }) rfl (fun K hK => ?_) AllReadyH.nil
        go_simp
        refine hK.out _ _ ?_ (fun hHeld => ?_)
        · (try dsimp only); first | exact SK.out _ (((Kp.refl [] _).drew).alloc _) | exact SK.out _ (((Kp.refl [] _).alloc _).drew)
        clear hK K
        try simp only [Act.put, List.setIfInBounds_toArray, List.set_cons_zero, List.set_cons_succ]
        refine wpAnyH_take (i := 14) (oi := { dst := some 35, op := Go.Op.binOp Go.BinOp.add 9 (Go.Operand.const (Go.Value.string { data := #[120] })) (Go.Operand.tmp 34) 9, type := 9, pos := "law.go:71", after := #[{ on := 13, ground := Go.Ground.data }, { on := 3, ground := Go.Ground.guard }], guard := some (3, true) }) (v := ?_) rfl (by kernel_rfl) (by kernel_rfl) (by kernel_rfl) (fun _ _ _ h => h) (Or.inl ⟨by rfl, ?_⟩) (by assumption) ?_
        rotate_left
        · (intro w hSw; (try dsimp only at hSw); go_simp; try with_reducible rfl)
        try simp only [Act.put, List.setIfInBounds_toArray, List.set_cons_zero, List.set_cons_succ]
        refine wpAnyH_take (i := 15) (oi := { dst := some 36, op := Go.Op.binOp Go.BinOp.neq 9 (Go.Operand.tmp 30) (Go.Operand.tmp 35) 9, type := 4, pos := "law.go:71", after := #[{ on := 9, ground := Go.Ground.data }, { on := 14, ground := Go.Ground.data }, { on := 3, ground := Go.Ground.guard }], guard := some (3, true) }) (v := ?_) rfl (by kernel_rfl) (by kernel_rfl) (by kernel_rfl) (fun _ _ _ h => h) (Or.inl ⟨by rfl, ?_⟩) (by assumption) ?_
        rotate_left
        · (intro w hSw; (try dsimp only at hSw); go_simp; try with_reducible rfl)
        try simp only [Act.put, List.setIfInBounds_toArray, List.set_cons_zero, List.set_cons_succ]
        refine wpAnyH_take (i := 16) (oi := { dst := some 37, op := Go.Op.pick (Go.Operand.tmp 24) (Go.Operand.tmp 36) (Go.Operand.const (Go.Value.bool false)), type := 4, pos := "law.go:71", after := #[{ on := 3, ground := Go.Ground.data }, { on := 15, ground := Go.Ground.data }], guard := none }) (v := ?_) rfl (by kernel_rfl) (by kernel_rfl) (by kernel_rfl) (fun _ _ _ h => h) (Or.inl ⟨by rfl, ?_⟩) (by assumption) ?_
        rotate_left
        · (intro w hSw; (try dsimp only at hSw); go_simp; try with_reducible rfl)
        try simp only [Act.put, List.setIfInBounds_toArray, List.set_cons_zero, List.set_cons_succ]
        refine wpAnyH_take (i := 17) (oi := { dst := some 38, op := Go.Op.move (Go.Operand.tmp 37), type := 4, pos := "law.go:71", after := #[{ on := 16, ground := Go.Ground.data }, { on := 3, ground := Go.Ground.chain }], guard := none }) (v := ?_) rfl (by kernel_rfl) (by kernel_rfl) (by kernel_rfl) (fun _ _ _ h => h) (Or.inl ⟨by rfl, ?_⟩) (by assumption) ?_
        rotate_left
        · (intro w hSw; (try dsimp only at hSw); go_simp; try with_reducible rfl)
        try simp only [Act.put, List.setIfInBounds_toArray, List.set_cons_zero, List.set_cons_succ]
        refine wpAnyH_take (i := 18) (oi := { dst := some 39, op := Go.Op.move (Go.Operand.tmp 11), type := 3, pos := "law.go:71", after := #[{ on := 17, ground := Go.Ground.guard }], guard := some (17, false) }) (v := ?_) rfl (by kernel_rfl) (by kernel_rfl) (by kernel_rfl) (fun _ _ _ h => h) (Or.inl ⟨by rfl, ?_⟩) (by assumption) ?_
        rotate_left
        · (intro w hSw; (try dsimp only at hSw); go_simp; try with_reducible rfl)
        try simp only [Act.put, List.setIfInBounds_toArray, List.set_cons_zero, List.set_cons_succ]
        refine wpAnyH_take (i := 19) (oi := { dst := some 40, op := Go.Op.move (Go.Operand.tmp 1), type := 3, pos := "law.go:71", after := #[{ on := 17, ground := Go.Ground.guard }], guard := some (17, false) }) (v := ?_) rfl (by kernel_rfl) (by kernel_rfl) (by kernel_rfl) (fun _ _ _ h => h) (Or.inl ⟨by rfl, ?_⟩) (by assumption) ?_
        rotate_left
        · (intro w hSw; (try dsimp only at hSw); go_simp; try with_reducible rfl)
        try simp only [Act.put, List.setIfInBounds_toArray, List.set_cons_zero, List.set_cons_succ]
        refine wpAnyH_take (i := 20) (oi := { dst := some 41, op := Go.Op.binOp Go.BinOp.geq 3 (Go.Operand.tmp 39) (Go.Operand.tmp 40) 3, type := 4, pos := "law.go:71", after := #[{ on := 18, ground := Go.Ground.data }, { on := 19, ground := Go.Ground.data }, { on := 17, ground := Go.Ground.guard }], guard := some (17, false) }) (v := ?_) rfl (by kernel_rfl) (by kernel_rfl) (by kernel_rfl) (fun _ _ _ h => h) (Or.inl ⟨by rfl, ?_⟩) (by assumption) ?_
        rotate_left
        · (intro w hSw; (try dsimp only at hSw); go_simp; try with_reducible rfl)
        try simp only [Act.put, List.setIfInBounds_toArray, List.set_cons_zero, List.set_cons_succ]
        refine wpAnyH_take (i := 21) (oi := { dst := some 42, op := Go.Op.move (Go.Operand.tmp 41), type := 4, pos := "law.go:71", after := #[{ on := 20, ground := Go.Ground.data }, { on := 17, ground := Go.Ground.chain }, { on := 17, ground := Go.Ground.guard }], guard := some (17, false) }) (v := ?_) rfl (by kernel_rfl) (by kernel_rfl) (by kernel_rfl) (fun _ _ _ h => h) (Or.inl ⟨by rfl, ?_⟩) (by assumption) ?_
        rotate_left
        · (intro w hSw; (try dsimp only at hSw); go_simp; try with_reducible rfl)
        try simp only [Act.put, List.setIfInBounds_toArray, List.set_cons_zero, List.set_cons_succ]
        refine wpAnyH_take (i := 22) (oi := { dst := some 43, op := Go.Op.fieldAddr 28 (Go.Operand.tmp 5) 0, type := 0, pos := "law.go:71", after := #[{ on := 21, ground := Go.Ground.guard }], guard := some (21, true) }) rfl (by kernel_rfl) (by kernel_rfl) (by kernel_rfl) (fun _ _ _ h => h) (Or.inr ⟨by rfl, rfl⟩) (by assumption) ?_
        try simp only [Act.put, List.setIfInBounds_toArray, List.set_cons_zero, List.set_cons_succ]
        refine wpAnyH_take (i := 23) (oi := { dst := some 44, op := Go.Op.load 24 (Go.Operand.tmp 43), type := 24, pos := "law.go:71", after := #[{ on := 22, ground := Go.Ground.data }, { on := 21, ground := Go.Ground.guard }], guard := some (21, true) }) rfl (by kernel_rfl) (by kernel_rfl) (by kernel_rfl) (fun _ _ _ h => h) (Or.inr ⟨by rfl, rfl⟩) (by assumption) ?_
        try simp only [Act.put, List.setIfInBounds_toArray, List.set_cons_zero, List.set_cons_succ]
        refine wpAnyH_take (i := 24) (oi := { dst := some 45, op := Go.Op.move (Go.Operand.tmp 11), type := 3, pos := "law.go:71", after := #[{ on := 21, ground := Go.Ground.guard }], guard := some (21, true) }) rfl (by kernel_rfl) (by kernel_rfl) (by kernel_rfl) (fun _ _ _ h => h) (Or.inr ⟨by rfl, rfl⟩) (by assumption) ?_
        try simp only [Act.put, List.setIfInBounds_toArray, List.set_cons_zero, List.set_cons_succ]
        refine wpAnyH_take (i := 25) (oi := { dst := some 46, op := Go.Op.indexAddr 24 (Go.Operand.tmp 44) (Go.Operand.tmp 45), type := 0, pos := "law.go:71", after := #[{ on := 23, ground := Go.Ground.data }, { on := 24, ground := Go.Ground.data }, { on := 21, ground := Go.Ground.guard }], guard := some (21, true) }) rfl (by kernel_rfl) (by kernel_rfl) (by kernel_rfl) (fun _ _ _ h => h) (Or.inr ⟨by rfl, rfl⟩) (by assumption) ?_
        try simp only [Act.put, List.setIfInBounds_toArray, List.set_cons_zero, List.set_cons_succ]
        refine wpAnyH_take (i := 26) (oi := { dst := some 47, op := Go.Op.fieldAddr 56 (Go.Operand.tmp 46) 0, type := 0, pos := "law.go:71", after := #[{ on := 25, ground := Go.Ground.data }, { on := 21, ground := Go.Ground.guard }], guard := some (21, true) }) rfl (by kernel_rfl) (by kernel_rfl) (by kernel_rfl) (fun _ _ _ h => h) (Or.inr ⟨by rfl, rfl⟩) (by assumption) ?_
        try simp only [Act.put, List.setIfInBounds_toArray, List.set_cons_zero, List.set_cons_succ]
        refine wpAnyH_take (i := 27) (oi := { dst := some 48, op := Go.Op.load 9 (Go.Operand.tmp 47), type := 9, pos := "law.go:71", after := #[{ on := 26, ground := Go.Ground.data }, { on := 21, ground := Go.Ground.guard }], guard := some (21, true) }) rfl (by kernel_rfl) (by kernel_rfl) (by kernel_rfl) (fun _ _ _ h => h) (Or.inr ⟨by rfl, rfl⟩) (by assumption) ?_
        try simp only [Act.put, List.setIfInBounds_toArray, List.set_cons_zero, List.set_cons_succ]
        refine wpAnyH_take (i := 28) (oi := { dst := some 49, op := Go.Op.move (Go.Operand.tmp 4), type := 57, pos := "law.go:71", after := #[{ on := 21, ground := Go.Ground.guard }], guard := some (21, true) }) rfl (by kernel_rfl) (by kernel_rfl) (by kernel_rfl) (fun _ _ _ h => h) (Or.inr ⟨by rfl, rfl⟩) (by assumption) ?_
        try simp only [Act.put, List.setIfInBounds_toArray, List.set_cons_zero, List.set_cons_succ]
        refine wpAnyH_take (i := 29) (oi := { dst := some 50, op := Go.Op.convert 57 5 (Go.Operand.tmp 49), type := 5, pos := "law.go:71", after := #[{ on := 28, ground := Go.Ground.data }, { on := 21, ground := Go.Ground.guard }], guard := some (21, true) }) rfl (by kernel_rfl) (by kernel_rfl) (by kernel_rfl) (fun _ _ _ h => h) (Or.inr ⟨by rfl, rfl⟩) (by assumption) ?_
        try simp only [Act.put, List.setIfInBounds_toArray, List.set_cons_zero, List.set_cons_succ]
        refine wpAnyH_take (i := 30) (oi := { dst := some 51, op := Go.Op.buildSlice 66 1 #[(0, Go.Operand.tmp 50)], type := 66, pos := "law.go:71", after := #[{ on := 29, ground := Go.Ground.data }, { on := 21, ground := Go.Ground.guard }], guard := some (21, true) }) rfl (by kernel_rfl) (by kernel_rfl) (by kernel_rfl) (fun _ _ _ h => h) (Or.inr ⟨by rfl, rfl⟩) (by assumption) ?_
        try simp only [Act.put, List.setIfInBounds_toArray, List.set_cons_zero, List.set_cons_succ]
        refine wpAnyH_take (i := 31) (oi := { dst := some 52, op := Go.Op.convert 66 9 (Go.Operand.tmp 51), type := 9, pos := "law.go:71", after := #[{ on := 30, ground := Go.Ground.data }, { on := 21, ground := Go.Ground.guard }], guard := some (21, true) }) rfl (by kernel_rfl) (by kernel_rfl) (by kernel_rfl) (fun _ _ _ h => h) (Or.inr ⟨by rfl, rfl⟩) (by assumption) ?_
        try simp only [Act.put, List.setIfInBounds_toArray, List.set_cons_zero, List.set_cons_succ]
        refine wpAnyH_take (i := 32) (oi := { dst := some 53, op := Go.Op.binOp Go.BinOp.add 9 (Go.Operand.const (Go.Value.string { data := #[121] })) (Go.Operand.tmp 52) 9, type := 9, pos := "law.go:71", after := #[{ on := 31, ground := Go.Ground.data }, { on := 21, ground := Go.Ground.guard }], guard := some (21, true) }) rfl (by kernel_rfl) (by kernel_rfl) (by kernel_rfl) (fun _ _ _ h => h) (Or.inr ⟨by rfl, rfl⟩) (by assumption) ?_
        try simp only [Act.put, List.setIfInBounds_toArray, List.set_cons_zero, List.set_cons_succ]
        refine wpAnyH_take (i := 33) (oi := { dst := some 54, op := Go.Op.binOp Go.BinOp.neq 9 (Go.Operand.tmp 48) (Go.Operand.tmp 53) 9, type := 4, pos := "law.go:71", after := #[{ on := 27, ground := Go.Ground.data }, { on := 32, ground := Go.Ground.data }, { on := 21, ground := Go.Ground.guard }], guard := some (21, true) }) rfl (by kernel_rfl) (by kernel_rfl) (by kernel_rfl) (fun _ _ _ h => h) (Or.inr ⟨by rfl, rfl⟩) (by assumption) ?_
        try simp only [Act.put, List.setIfInBounds_toArray, List.set_cons_zero, List.set_cons_succ]
        refine wpAnyH_take (i := 34) (oi := { dst := some 55, op := Go.Op.pick (Go.Operand.tmp 42) (Go.Operand.tmp 54) (Go.Operand.const (Go.Value.bool false)), type := 4, pos := "law.go:71", after := #[{ on := 21, ground := Go.Ground.data }, { on := 33, ground := Go.Ground.data }, { on := 17, ground := Go.Ground.guard }], guard := some (17, false) }) (v := ?_) rfl (by kernel_rfl) (by kernel_rfl) (by kernel_rfl) (fun _ _ _ h => h) (Or.inl ⟨by rfl, ?_⟩) (by assumption) ?_
        rotate_left
        · (intro w hSw; (try dsimp only at hSw); go_simp; try with_reducible rfl)
        try simp only [Act.put, List.setIfInBounds_toArray, List.set_cons_zero, List.set_cons_succ]
        refine wpAnyH_take (i := 35) (oi := { dst := some 56, op := Go.Op.pick (Go.Operand.tmp 38) (Go.Operand.const (Go.Value.bool true)) (Go.Operand.tmp 55), type := 4, pos := "law.go:71", after := #[{ on := 17, ground := Go.Ground.data }, { on := 34, ground := Go.Ground.data }], guard := none }) (v := ?_) rfl (by kernel_rfl) (by kernel_rfl) (by kernel_rfl) (fun _ _ _ h => h) (Or.inl ⟨by rfl, ?_⟩) (by assumption) ?_
        rotate_left
        · (intro w hSw; (try dsimp only at hSw); go_simp; try with_reducible rfl)
        try simp only [Act.put, List.setIfInBounds_toArray, List.set_cons_zero, List.set_cons_succ]
        refine wpAnyH_done (by kernel_rfl) ?_ _
        refine NoPanic.normal ?_
        clear e8
        go_wp2_with fail
        go_roundw
        case rel => exact ⟨k + 1, by go_num, by omega, Lib.hid (by first | exact KR.out.trans ((((Kp.refl [] _).drew).alloc _)) | exact KR.out.trans ((((Kp.refl [] _).alloc _).drew)))⟩
        case measure => simp [intOf]; omega
      · have hp' : ¬ (k : Int) < p := by omega
        have hp2 : (p : Int) ≤ k := by omega
        have hp3 : p ≤ k := by omega
        rw [if_neg hp] at hv
        rw [hv] at cf SK
        clear hv
        have e8 : IntKind.u8.wrap (mark.toNat : Int) = mark.toNat := IntWalk.u8_in _ (by omega)
        go_wp2_with fail
        refine wp_region_noPanic ?_
        refine wp_region_held_drew (S := fun W => W.cell? ⟨w.heap.size, 0, none⟩ = some (.slice (some ⟨b, o, none⟩) m.pairs.length pc) ∧ W.cell? ⟨b, o + k * 2, none⟩ = some (.string ⟨(yB mark).toArray⟩)) (by kernel_rfl) ?_ (fun hHeld => ?_)
        · (try dsimp only); exact SK.out _ ((Kp.refl [] _).drew)
        refine wpAnyH_take (i := 0) (oi := { dst := some 21, op := Go.Op.move (Go.Operand.tmp 11), type := 3, pos := "law.go:71", after := #[], guard := none }) (v := ?_) rfl (by kernel_rfl) (by kernel_rfl) (by kernel_rfl) (fun _ _ _ h => h) (Or.inl ⟨by rfl, ?_⟩) (by assumption) ?_
        rotate_left
        · (intro w hSw; (try dsimp only at hSw); go_simp; try with_reducible rfl)
        try simp only [Act.put, List.setIfInBounds_toArray, List.set_cons_zero, List.set_cons_succ]
        refine wpAnyH_take (i := 1) (oi := { dst := some 22, op := Go.Op.move (Go.Operand.tmp 1), type := 3, pos := "law.go:71", after := #[], guard := none }) (v := ?_) rfl (by kernel_rfl) (by kernel_rfl) (by kernel_rfl) (fun _ _ _ h => h) (Or.inl ⟨by rfl, ?_⟩) (by assumption) ?_
        rotate_left
        · (intro w hSw; (try dsimp only at hSw); go_simp; try with_reducible rfl)
        try simp only [Act.put, List.setIfInBounds_toArray, List.set_cons_zero, List.set_cons_succ]
        refine wpAnyH_take (i := 2) (oi := { dst := some 23, op := Go.Op.binOp Go.BinOp.lss 3 (Go.Operand.tmp 21) (Go.Operand.tmp 22) 3, type := 4, pos := "law.go:71", after := #[{ on := 0, ground := Go.Ground.data }, { on := 1, ground := Go.Ground.data }], guard := none }) (v := ?_) rfl (by kernel_rfl) (by kernel_rfl) (by kernel_rfl) (fun _ _ _ h => h) (Or.inl ⟨by rfl, ?_⟩) (by assumption) ?_
        rotate_left
        · (intro w hSw; (try dsimp only at hSw); go_simp; try with_reducible rfl)
        try simp only [Act.put, List.setIfInBounds_toArray, List.set_cons_zero, List.set_cons_succ]
        refine wpAnyH_take (i := 3) (oi := { dst := some 24, op := Go.Op.move (Go.Operand.tmp 23), type := 4, pos := "law.go:71", after := #[{ on := 2, ground := Go.Ground.data }], guard := none }) (v := ?_) rfl (by kernel_rfl) (by kernel_rfl) (by kernel_rfl) (fun _ _ _ h => h) (Or.inl ⟨by rfl, ?_⟩) (by assumption) ?_
        rotate_left
        · (intro w hSw; (try dsimp only at hSw); go_simp; try with_reducible rfl)
        try simp only [Act.put, List.setIfInBounds_toArray, List.set_cons_zero, List.set_cons_succ]
        refine wpAnyH_take (i := 4) (oi := { dst := some 25, op := Go.Op.fieldAddr 28 (Go.Operand.tmp 5) 0, type := 0, pos := "law.go:71", after := #[{ on := 3, ground := Go.Ground.guard }], guard := some (3, true) }) rfl (by kernel_rfl) (by kernel_rfl) (by kernel_rfl) (fun _ _ _ h => h) (Or.inr ⟨by rfl, rfl⟩) (by assumption) ?_
        try simp only [Act.put, List.setIfInBounds_toArray, List.set_cons_zero, List.set_cons_succ]
        refine wpAnyH_take (i := 5) (oi := { dst := some 26, op := Go.Op.load 24 (Go.Operand.tmp 25), type := 24, pos := "law.go:71", after := #[{ on := 4, ground := Go.Ground.data }, { on := 3, ground := Go.Ground.guard }], guard := some (3, true) }) rfl (by kernel_rfl) (by kernel_rfl) (by kernel_rfl) (fun _ _ _ h => h) (Or.inr ⟨by rfl, rfl⟩) (by assumption) ?_
        try simp only [Act.put, List.setIfInBounds_toArray, List.set_cons_zero, List.set_cons_succ]
        refine wpAnyH_take (i := 6) (oi := { dst := some 27, op := Go.Op.move (Go.Operand.tmp 11), type := 3, pos := "law.go:71", after := #[{ on := 3, ground := Go.Ground.guard }], guard := some (3, true) }) rfl (by kernel_rfl) (by kernel_rfl) (by kernel_rfl) (fun _ _ _ h => h) (Or.inr ⟨by rfl, rfl⟩) (by assumption) ?_
        try simp only [Act.put, List.setIfInBounds_toArray, List.set_cons_zero, List.set_cons_succ]
        refine wpAnyH_take (i := 7) (oi := { dst := some 28, op := Go.Op.indexAddr 24 (Go.Operand.tmp 26) (Go.Operand.tmp 27), type := 0, pos := "law.go:71", after := #[{ on := 5, ground := Go.Ground.data }, { on := 6, ground := Go.Ground.data }, { on := 3, ground := Go.Ground.guard }], guard := some (3, true) }) rfl (by kernel_rfl) (by kernel_rfl) (by kernel_rfl) (fun _ _ _ h => h) (Or.inr ⟨by rfl, rfl⟩) (by assumption) ?_
        try simp only [Act.put, List.setIfInBounds_toArray, List.set_cons_zero, List.set_cons_succ]
        refine wpAnyH_take (i := 8) (oi := { dst := some 29, op := Go.Op.fieldAddr 56 (Go.Operand.tmp 28) 0, type := 0, pos := "law.go:71", after := #[{ on := 7, ground := Go.Ground.data }, { on := 3, ground := Go.Ground.guard }], guard := some (3, true) }) rfl (by kernel_rfl) (by kernel_rfl) (by kernel_rfl) (fun _ _ _ h => h) (Or.inr ⟨by rfl, rfl⟩) (by assumption) ?_
        try simp only [Act.put, List.setIfInBounds_toArray, List.set_cons_zero, List.set_cons_succ]
        refine wpAnyH_take (i := 9) (oi := { dst := some 30, op := Go.Op.load 9 (Go.Operand.tmp 29), type := 9, pos := "law.go:71", after := #[{ on := 8, ground := Go.Ground.data }, { on := 3, ground := Go.Ground.guard }], guard := some (3, true) }) rfl (by kernel_rfl) (by kernel_rfl) (by kernel_rfl) (fun _ _ _ h => h) (Or.inr ⟨by rfl, rfl⟩) (by assumption) ?_
        try simp only [Act.put, List.setIfInBounds_toArray, List.set_cons_zero, List.set_cons_succ]
        refine wpAnyH_take (i := 10) (oi := { dst := some 31, op := Go.Op.move (Go.Operand.tmp 4), type := 57, pos := "law.go:71", after := #[{ on := 3, ground := Go.Ground.guard }], guard := some (3, true) }) rfl (by kernel_rfl) (by kernel_rfl) (by kernel_rfl) (fun _ _ _ h => h) (Or.inr ⟨by rfl, rfl⟩) (by assumption) ?_
        try simp only [Act.put, List.setIfInBounds_toArray, List.set_cons_zero, List.set_cons_succ]
        refine wpAnyH_take (i := 11) (oi := { dst := some 32, op := Go.Op.convert 57 5 (Go.Operand.tmp 31), type := 5, pos := "law.go:71", after := #[{ on := 10, ground := Go.Ground.data }, { on := 3, ground := Go.Ground.guard }], guard := some (3, true) }) rfl (by kernel_rfl) (by kernel_rfl) (by kernel_rfl) (fun _ _ _ h => h) (Or.inr ⟨by rfl, rfl⟩) (by assumption) ?_
        try simp only [Act.put, List.setIfInBounds_toArray, List.set_cons_zero, List.set_cons_succ]
        refine wpAnyH_take (i := 12) (oi := { dst := some 33, op := Go.Op.buildSlice 66 1 #[(0, Go.Operand.tmp 32)], type := 66, pos := "law.go:71", after := #[{ on := 11, ground := Go.Ground.data }, { on := 3, ground := Go.Ground.guard }], guard := some (3, true) }) rfl (by kernel_rfl) (by kernel_rfl) (by kernel_rfl) (fun _ _ _ h => h) (Or.inr ⟨by rfl, rfl⟩) (by assumption) ?_
        try simp only [Act.put, List.setIfInBounds_toArray, List.set_cons_zero, List.set_cons_succ]
        refine wpAnyH_take (i := 13) (oi := { dst := some 34, op := Go.Op.convert 66 9 (Go.Operand.tmp 33), type := 9, pos := "law.go:71", after := #[{ on := 12, ground := Go.Ground.data }, { on := 3, ground := Go.Ground.guard }], guard := some (3, true) }) rfl (by kernel_rfl) (by kernel_rfl) (by kernel_rfl) (fun _ _ _ h => h) (Or.inr ⟨by rfl, rfl⟩) (by assumption) ?_
        try simp only [Act.put, List.setIfInBounds_toArray, List.set_cons_zero, List.set_cons_succ]
        refine wpAnyH_take (i := 14) (oi := { dst := some 35, op := Go.Op.binOp Go.BinOp.add 9 (Go.Operand.const (Go.Value.string { data := #[120] })) (Go.Operand.tmp 34) 9, type := 9, pos := "law.go:71", after := #[{ on := 13, ground := Go.Ground.data }, { on := 3, ground := Go.Ground.guard }], guard := some (3, true) }) rfl (by kernel_rfl) (by kernel_rfl) (by kernel_rfl) (fun _ _ _ h => h) (Or.inr ⟨by rfl, rfl⟩) (by assumption) ?_
        try simp only [Act.put, List.setIfInBounds_toArray, List.set_cons_zero, List.set_cons_succ]
        refine wpAnyH_take (i := 15) (oi := { dst := some 36, op := Go.Op.binOp Go.BinOp.neq 9 (Go.Operand.tmp 30) (Go.Operand.tmp 35) 9, type := 4, pos := "law.go:71", after := #[{ on := 9, ground := Go.Ground.data }, { on := 14, ground := Go.Ground.data }, { on := 3, ground := Go.Ground.guard }], guard := some (3, true) }) rfl (by kernel_rfl) (by kernel_rfl) (by kernel_rfl) (fun _ _ _ h => h) (Or.inr ⟨by rfl, rfl⟩) (by assumption) ?_
        try simp only [Act.put, List.setIfInBounds_toArray, List.set_cons_zero, List.set_cons_succ]
        refine wpAnyH_take (i := 16) (oi := { dst := some 37, op := Go.Op.pick (Go.Operand.tmp 24) (Go.Operand.tmp 36) (Go.Operand.const (Go.Value.bool false)), type := 4, pos := "law.go:71", after := #[{ on := 3, ground := Go.Ground.data }, { on := 15, ground := Go.Ground.data }], guard := none }) (v := ?_) rfl (by kernel_rfl) (by kernel_rfl) (by kernel_rfl) (fun _ _ _ h => h) (Or.inl ⟨by rfl, ?_⟩) (by assumption) ?_
        rotate_left
        · (intro w hSw; (try dsimp only at hSw); go_simp; try with_reducible rfl)
        try simp only [Act.put, List.setIfInBounds_toArray, List.set_cons_zero, List.set_cons_succ]
        refine wpAnyH_take (i := 17) (oi := { dst := some 38, op := Go.Op.move (Go.Operand.tmp 37), type := 4, pos := "law.go:71", after := #[{ on := 16, ground := Go.Ground.data }, { on := 3, ground := Go.Ground.chain }], guard := none }) (v := ?_) rfl (by kernel_rfl) (by kernel_rfl) (by kernel_rfl) (fun _ _ _ h => h) (Or.inl ⟨by rfl, ?_⟩) (by assumption) ?_
        rotate_left
        · (intro w hSw; (try dsimp only at hSw); go_simp; try with_reducible rfl)
        try simp only [Act.put, List.setIfInBounds_toArray, List.set_cons_zero, List.set_cons_succ]
        refine wpAnyH_take (i := 18) (oi := { dst := some 39, op := Go.Op.move (Go.Operand.tmp 11), type := 3, pos := "law.go:71", after := #[{ on := 17, ground := Go.Ground.guard }], guard := some (17, false) }) (v := ?_) rfl (by kernel_rfl) (by kernel_rfl) (by kernel_rfl) (fun _ _ _ h => h) (Or.inl ⟨by rfl, ?_⟩) (by assumption) ?_
        rotate_left
        · (intro w hSw; (try dsimp only at hSw); go_simp; try with_reducible rfl)
        try simp only [Act.put, List.setIfInBounds_toArray, List.set_cons_zero, List.set_cons_succ]
        refine wpAnyH_take (i := 19) (oi := { dst := some 40, op := Go.Op.move (Go.Operand.tmp 1), type := 3, pos := "law.go:71", after := #[{ on := 17, ground := Go.Ground.guard }], guard := some (17, false) }) (v := ?_) rfl (by kernel_rfl) (by kernel_rfl) (by kernel_rfl) (fun _ _ _ h => h) (Or.inl ⟨by rfl, ?_⟩) (by assumption) ?_
        rotate_left
        · (intro w hSw; (try dsimp only at hSw); go_simp; try with_reducible rfl)
        try simp only [Act.put, List.setIfInBounds_toArray, List.set_cons_zero, List.set_cons_succ]
        refine wpAnyH_take (i := 20) (oi := { dst := some 41, op := Go.Op.binOp Go.BinOp.geq 3 (Go.Operand.tmp 39) (Go.Operand.tmp 40) 3, type := 4, pos := "law.go:71", after := #[{ on := 18, ground := Go.Ground.data }, { on := 19, ground := Go.Ground.data }, { on := 17, ground := Go.Ground.guard }], guard := some (17, false) }) (v := ?_) rfl (by kernel_rfl) (by kernel_rfl) (by kernel_rfl) (fun _ _ _ h => h) (Or.inl ⟨by rfl, ?_⟩) (by assumption) ?_
        rotate_left
        · (intro w hSw; (try dsimp only at hSw); go_simp; try with_reducible rfl)
        try simp only [Act.put, List.setIfInBounds_toArray, List.set_cons_zero, List.set_cons_succ]
        refine wpAnyH_take (i := 21) (oi := { dst := some 42, op := Go.Op.move (Go.Operand.tmp 41), type := 4, pos := "law.go:71", after := #[{ on := 20, ground := Go.Ground.data }, { on := 17, ground := Go.Ground.chain }, { on := 17, ground := Go.Ground.guard }], guard := some (17, false) }) (v := ?_) rfl (by kernel_rfl) (by kernel_rfl) (by kernel_rfl) (fun _ _ _ h => h) (Or.inl ⟨by rfl, ?_⟩) (by assumption) ?_
        rotate_left
        · (intro w hSw; (try dsimp only at hSw); go_simp; try with_reducible rfl)
        try simp only [Act.put, List.setIfInBounds_toArray, List.set_cons_zero, List.set_cons_succ]
        refine wpAnyH_take (i := 22) (oi := { dst := some 43, op := Go.Op.fieldAddr 28 (Go.Operand.tmp 5) 0, type := 0, pos := "law.go:71", after := #[{ on := 21, ground := Go.Ground.guard }], guard := some (21, true) }) (v := ?_) rfl (by kernel_rfl) (by kernel_rfl) (by kernel_rfl) (fun _ _ _ h => h) (Or.inl ⟨by rfl, ?_⟩) (by assumption) ?_
        rotate_left
        · (intro w hSw; (try dsimp only at hSw); go_simp; try with_reducible rfl)
        try simp only [Act.put, List.setIfInBounds_toArray, List.set_cons_zero, List.set_cons_succ]
        refine wpAnyH_take (i := 23) (oi := { dst := some 44, op := Go.Op.load 24 (Go.Operand.tmp 43), type := 24, pos := "law.go:71", after := #[{ on := 22, ground := Go.Ground.data }, { on := 21, ground := Go.Ground.guard }], guard := some (21, true) }) (v := ?_) rfl (by kernel_rfl) (by kernel_rfl) (by kernel_rfl) (fun _ _ _ h => h) (Or.inl ⟨by rfl, ?_⟩) (by assumption) ?_
        rotate_left
        · (intro w hSw; (try dsimp only at hSw); go_simp; try with_reducible rfl)
        try simp only [Act.put, List.setIfInBounds_toArray, List.set_cons_zero, List.set_cons_succ]
        refine wpAnyH_take (i := 24) (oi := { dst := some 45, op := Go.Op.move (Go.Operand.tmp 11), type := 3, pos := "law.go:71", after := #[{ on := 21, ground := Go.Ground.guard }], guard := some (21, true) }) (v := ?_) rfl (by kernel_rfl) (by kernel_rfl) (by kernel_rfl) (fun _ _ _ h => h) (Or.inl ⟨by rfl, ?_⟩) (by assumption) ?_
        rotate_left
        · (intro w hSw; (try dsimp only at hSw); go_simp; try with_reducible rfl)
        try simp only [Act.put, List.setIfInBounds_toArray, List.set_cons_zero, List.set_cons_succ]
        refine wpAnyH_take (i := 25) (oi := { dst := some 46, op := Go.Op.indexAddr 24 (Go.Operand.tmp 44) (Go.Operand.tmp 45), type := 0, pos := "law.go:71", after := #[{ on := 23, ground := Go.Ground.data }, { on := 24, ground := Go.Ground.data }, { on := 21, ground := Go.Ground.guard }], guard := some (21, true) }) (v := ?_) rfl (by kernel_rfl) (by kernel_rfl) (by kernel_rfl) (fun _ _ _ h => h) (Or.inl ⟨by rfl, ?_⟩) (by assumption) ?_
        rotate_left
        · (intro w hSw; (try dsimp only at hSw); go_simp; try with_reducible rfl)
        try simp only [Act.put, List.setIfInBounds_toArray, List.set_cons_zero, List.set_cons_succ]
        refine wpAnyH_take (i := 26) (oi := { dst := some 47, op := Go.Op.fieldAddr 56 (Go.Operand.tmp 46) 0, type := 0, pos := "law.go:71", after := #[{ on := 25, ground := Go.Ground.data }, { on := 21, ground := Go.Ground.guard }], guard := some (21, true) }) (v := ?_) rfl (by kernel_rfl) (by kernel_rfl) (by kernel_rfl) (fun _ _ _ h => h) (Or.inl ⟨by rfl, ?_⟩) (by assumption) ?_
        rotate_left
        · (intro w hSw; (try dsimp only at hSw); go_simp; try with_reducible rfl)
        try simp only [Act.put, List.setIfInBounds_toArray, List.set_cons_zero, List.set_cons_succ]
        refine wpAnyH_take (i := 27) (oi := { dst := some 48, op := Go.Op.load 9 (Go.Operand.tmp 47), type := 9, pos := "law.go:71", after := #[{ on := 26, ground := Go.Ground.data }, { on := 21, ground := Go.Ground.guard }], guard := some (21, true) }) (v := ?_) rfl (by kernel_rfl) (by kernel_rfl) (by kernel_rfl) (fun _ _ _ h => h) (Or.inl ⟨by rfl, ?_⟩) (by assumption) ?_
        rotate_left
        · (intro w hSw; (try dsimp only at hSw); go_simp; try with_reducible rfl)
        try simp only [Act.put, List.setIfInBounds_toArray, List.set_cons_zero, List.set_cons_succ]
        refine wpAnyH_take (i := 28) (oi := { dst := some 49, op := Go.Op.move (Go.Operand.tmp 4), type := 57, pos := "law.go:71", after := #[{ on := 21, ground := Go.Ground.guard }], guard := some (21, true) }) (v := ?_) rfl (by kernel_rfl) (by kernel_rfl) (by kernel_rfl) (fun _ _ _ h => h) (Or.inl ⟨by rfl, ?_⟩) (by assumption) ?_
        rotate_left
        · (intro w hSw; (try dsimp only at hSw); go_simp; try with_reducible rfl)
        try simp only [Act.put, List.setIfInBounds_toArray, List.set_cons_zero, List.set_cons_succ]
        refine wpAnyH_take (i := 29) (oi := { dst := some 50, op := Go.Op.convert 57 5 (Go.Operand.tmp 49), type := 5, pos := "law.go:71", after := #[{ on := 28, ground := Go.Ground.data }, { on := 21, ground := Go.Ground.guard }], guard := some (21, true) }) (v := ?_) rfl (by kernel_rfl) (by kernel_rfl) (by kernel_rfl) (fun _ _ _ h => h) (Or.inl ⟨by rfl, ?_⟩) (by assumption) ?_
        rotate_left
        · (intro w hSw; (try dsimp only at hSw); go_simp; try with_reducible rfl)
        try simp only [Act.put, List.setIfInBounds_toArray, List.set_cons_zero, List.set_cons_succ]
        refine wpAnyH_ready (rs := [30]) (by kernel_rfl) (by simp) ?_
        refine AllReadyH.cons (o := { dst := some 51, op := Go.Op.buildSlice 66 1 #[(0, Go.Operand.tmp 50)], type := 66, pos := "law.go:71", after := #[{ on := 29, ground := Go.Ground.data }, { on := 21, ground := Go.Ground.guard }], guard := some (21, true) }) rfl (fun K hK => ?_) AllReadyH.nil
        go_simp
        refine hK.out _ _ ?_ (fun hHeld => ?_)
        · (try dsimp only); first | exact SK.out _ (((Kp.refl [] _).drew).alloc _) | exact SK.out _ (((Kp.refl [] _).alloc _).drew)
        clear hK K
        try simp only [Act.put, List.setIfInBounds_toArray, List.set_cons_zero, List.set_cons_succ]
        refine wpAnyH_ready (rs := [31]) (by kernel_rfl) (by simp) ?_
        refine AllReadyH.cons (o := { dst := some 52, op := Go.Op.convert 66 9 (Go.Operand.tmp 51), type := 9, pos := "law.go:71", after := #[{ on := 30, ground := Go.Ground.data }, { on := 21, ground := Go.Ground.guard }], guard := some (21, true) }) rfl (fun K hK => ?_) AllReadyH.nil
        go_simp
        refine hK.out _ _ ?_ (fun hHeld => ?_)
        · (try dsimp only); first | exact SK.out _ (((Kp.refl [] _).drew).alloc _) | exact SK.out _ (((Kp.refl [] _).alloc _).drew)
        clear hK K
        try simp only [Act.put, List.setIfInBounds_toArray, List.set_cons_zero, List.set_cons_succ]
        refine wpAnyH_take (i := 32) (oi := { dst := some 53, op := Go.Op.binOp Go.BinOp.add 9 (Go.Operand.const (Go.Value.string { data := #[121] })) (Go.Operand.tmp 52) 9, type := 9, pos := "law.go:71", after := #[{ on := 31, ground := Go.Ground.data }, { on := 21, ground := Go.Ground.guard }], guard := some (21, true) }) (v := ?_) rfl (by kernel_rfl) (by kernel_rfl) (by kernel_rfl) (fun _ _ _ h => h) (Or.inl ⟨by rfl, ?_⟩) (by assumption) ?_
        rotate_left
        · (intro w hSw; (try dsimp only at hSw); go_simp; try with_reducible rfl)
        try simp only [Act.put, List.setIfInBounds_toArray, List.set_cons_zero, List.set_cons_succ]
        refine wpAnyH_take (i := 33) (oi := { dst := some 54, op := Go.Op.binOp Go.BinOp.neq 9 (Go.Operand.tmp 48) (Go.Operand.tmp 53) 9, type := 4, pos := "law.go:71", after := #[{ on := 27, ground := Go.Ground.data }, { on := 32, ground := Go.Ground.data }, { on := 21, ground := Go.Ground.guard }], guard := some (21, true) }) (v := ?_) rfl (by kernel_rfl) (by kernel_rfl) (by kernel_rfl) (fun _ _ _ h => h) (Or.inl ⟨by rfl, ?_⟩) (by assumption) ?_
        rotate_left
        · (intro w hSw; (try dsimp only at hSw); go_simp; try with_reducible rfl)
        try simp only [Act.put, List.setIfInBounds_toArray, List.set_cons_zero, List.set_cons_succ]
        refine wpAnyH_take (i := 34) (oi := { dst := some 55, op := Go.Op.pick (Go.Operand.tmp 42) (Go.Operand.tmp 54) (Go.Operand.const (Go.Value.bool false)), type := 4, pos := "law.go:71", after := #[{ on := 21, ground := Go.Ground.data }, { on := 33, ground := Go.Ground.data }, { on := 17, ground := Go.Ground.guard }], guard := some (17, false) }) (v := ?_) rfl (by kernel_rfl) (by kernel_rfl) (by kernel_rfl) (fun _ _ _ h => h) (Or.inl ⟨by rfl, ?_⟩) (by assumption) ?_
        rotate_left
        · (intro w hSw; (try dsimp only at hSw); go_simp; try with_reducible rfl)
        try simp only [Act.put, List.setIfInBounds_toArray, List.set_cons_zero, List.set_cons_succ]
        refine wpAnyH_take (i := 35) (oi := { dst := some 56, op := Go.Op.pick (Go.Operand.tmp 38) (Go.Operand.const (Go.Value.bool true)) (Go.Operand.tmp 55), type := 4, pos := "law.go:71", after := #[{ on := 17, ground := Go.Ground.data }, { on := 34, ground := Go.Ground.data }], guard := none }) (v := ?_) rfl (by kernel_rfl) (by kernel_rfl) (by kernel_rfl) (fun _ _ _ h => h) (Or.inl ⟨by rfl, ?_⟩) (by assumption) ?_
        rotate_left
        · (intro w hSw; (try dsimp only at hSw); go_simp; try with_reducible rfl)
        try simp only [Act.put, List.setIfInBounds_toArray, List.set_cons_zero, List.set_cons_succ]
        refine wpAnyH_done (by kernel_rfl) ?_ _
        refine NoPanic.normal ?_
        clear e8
        go_wp2_with fail
        go_roundw
        case rel => exact ⟨k + 1, by go_num, by omega, Lib.hid (by first | exact KR.out.trans ((((Kp.refl [] _).drew).alloc _)) | exact KR.out.trans ((((Kp.refl [] _).alloc _).drew)))⟩
        case measure => simp [intOf]; omega
    · go_wp2_with fail
      go_loopw [10, 12] (fun _ i wr => ∃ k, i = .int .i64 (k : Nat) ∧ k ≤ m.seps.length ∧ Hid (Kp [] W0 wr)) (fun _ i _ => m.seps.length - (intOf i).toNat)
      case atStart => exact ⟨0, rfl, Nat.zero_le _, KR⟩
      case round =>
        clear KR c5 c6 c7 g8
        obtain ⟨k, rfl, hk, KR⟩ := hrel
        obtain ⟨c5, c6, c7, c8, c9, c10, g8⟩ := LtI.facts (BX.out.kp KR.out (by simp))
        clear c8 c9 c10
        by_cases hlt : k < m.seps.length
        · obtain ⟨x, hx⟩ : ∃ x, m.seps[k]? = some x := ⟨_, List.getElem?_eq_getElem hlt⟩
          obtain ⟨b, o, rfl, hb, cf⟩ := (SsAt.kp H.out.ss KR.out (by simp)) k x hx
          have hv := HM.out.ss k x hx
          have SK : Hid (∀ W : World, Kp [] wr W → (W.cell? ⟨w.heap.size, 1, none⟩ = some (.slice (some ⟨b, o, none⟩) m.seps.length sc) ∧ W.cell? ⟨b, o + k, none⟩ = some (.string ⟨x.toArray⟩))) := Lib.hid (fun W k => ⟨k.cell c6 (by simp), k.cell cf (by simp)⟩)
          clear hx
          by_cases hp : k < s
          · have hp' : (k : Int) < s := by omega
            have hp2 : ¬ (s : Int) ≤ (k : Int) := by omega
            have hp3 : ¬ s ≤ k := by omega
            rw [if_pos hp] at hv
            rw [hv] at cf SK
            clear hv
            have e8 : IntKind.u8.wrap (mark.toNat : Int) = mark.toNat := IntWalk.u8_in _ (by omega)
            go_wp2_with fail
            refine wp_region_noPanic ?_
            refine wp_region_held_drew (S := fun W => W.cell? ⟨w.heap.size, 1, none⟩ = some (.slice (some ⟨b, o, none⟩) m.seps.length sc) ∧ W.cell? ⟨b, o + k, none⟩ = some (.string ⟨(xB mark).toArray⟩)) (by kernel_rfl) ?_ (fun hHeld => ?_)
            · (try dsimp only); exact SK.out _ ((Kp.refl [] _).drew)
            refine wpAnyH_take (i := 0) (oi := { dst := some 64, op := Go.Op.move (Go.Operand.tmp 12), type := 3, pos := "law.go:76", after := #[], guard := none }) (v := ?_) rfl (by kernel_rfl) (by kernel_rfl) (by kernel_rfl) (fun _ _ _ h => h) (Or.inl ⟨by rfl, ?_⟩) (by assumption) ?_
            rotate_left
            · (intro w hSw; (try dsimp only at hSw); go_simp; try with_reducible rfl)
            try simp only [Act.put, List.setIfInBounds_toArray, List.set_cons_zero, List.set_cons_succ]
            refine wpAnyH_take (i := 1) (oi := { dst := some 65, op := Go.Op.move (Go.Operand.tmp 2), type := 3, pos := "law.go:76", after := #[], guard := none }) (v := ?_) rfl (by kernel_rfl) (by kernel_rfl) (by kernel_rfl) (fun _ _ _ h => h) (Or.inl ⟨by rfl, ?_⟩) (by assumption) ?_
            rotate_left
            · (intro w hSw; (try dsimp only at hSw); go_simp; try with_reducible rfl)
            try simp only [Act.put, List.setIfInBounds_toArray, List.set_cons_zero, List.set_cons_succ]
            refine wpAnyH_take (i := 2) (oi := { dst := some 66, op := Go.Op.binOp Go.BinOp.lss 3 (Go.Operand.tmp 64) (Go.Operand.tmp 65) 3, type := 4, pos := "law.go:76", after := #[{ on := 0, ground := Go.Ground.data }, { on := 1, ground := Go.Ground.data }], guard := none }) (v := ?_) rfl (by kernel_rfl) (by kernel_rfl) (by kernel_rfl) (fun _ _ _ h => h) (Or.inl ⟨by rfl, ?_⟩) (by assumption) ?_
            rotate_left
            · (intro w hSw; (try dsimp only at hSw); go_simp; try with_reducible rfl)
            try simp only [Act.put, List.setIfInBounds_toArray, List.set_cons_zero, List.set_cons_succ]
            refine wpAnyH_take (i := 3) (oi := { dst := some 67, op := Go.Op.move (Go.Operand.tmp 66), type := 4, pos := "law.go:76", after := #[{ on := 2, ground := Go.Ground.data }], guard := none }) (v := ?_) rfl (by kernel_rfl) (by kernel_rfl) (by kernel_rfl) (fun _ _ _ h => h) (Or.inl ⟨by rfl, ?_⟩) (by assumption) ?_
            rotate_left
            · (intro w hSw; (try dsimp only at hSw); go_simp; try with_reducible rfl)
            try simp only [Act.put, List.setIfInBounds_toArray, List.set_cons_zero, List.set_cons_succ]
            refine wpAnyH_take (i := 4) (oi := { dst := some 68, op := Go.Op.fieldAddr 28 (Go.Operand.tmp 5) 1, type := 0, pos := "law.go:76", after := #[{ on := 3, ground := Go.Ground.guard }], guard := some (3, true) }) (v := ?_) rfl (by kernel_rfl) (by kernel_rfl) (by kernel_rfl) (fun _ _ _ h => h) (Or.inl ⟨by rfl, ?_⟩) (by assumption) ?_
            rotate_left
            · (intro w hSw; (try dsimp only at hSw); go_simp; try with_reducible rfl)
            try simp only [Act.put, List.setIfInBounds_toArray, List.set_cons_zero, List.set_cons_succ]
            refine wpAnyH_take (i := 5) (oi := { dst := some 69, op := Go.Op.load 25 (Go.Operand.tmp 68), type := 25, pos := "law.go:76", after := #[{ on := 4, ground := Go.Ground.data }, { on := 3, ground := Go.Ground.guard }], guard := some (3, true) }) (v := ?_) rfl (by kernel_rfl) (by kernel_rfl) (by kernel_rfl) (fun _ _ _ h => h) (Or.inl ⟨by rfl, ?_⟩) (by assumption) ?_
            rotate_left
            · (intro w hSw; (try dsimp only at hSw); go_simp; try with_reducible rfl)
            try simp only [Act.put, List.setIfInBounds_toArray, List.set_cons_zero, List.set_cons_succ]
            refine wpAnyH_take (i := 6) (oi := { dst := some 70, op := Go.Op.move (Go.Operand.tmp 12), type := 3, pos := "law.go:76", after := #[{ on := 3, ground := Go.Ground.guard }], guard := some (3, true) }) (v := ?_) rfl (by kernel_rfl) (by kernel_rfl) (by kernel_rfl) (fun _ _ _ h => h) (Or.inl ⟨by rfl, ?_⟩) (by assumption) ?_
            rotate_left
            · (intro w hSw; (try dsimp only at hSw); go_simp; try with_reducible rfl)
            try simp only [Act.put, List.setIfInBounds_toArray, List.set_cons_zero, List.set_cons_succ]
            refine wpAnyH_take (i := 7) (oi := { dst := some 71, op := Go.Op.indexAddr 25 (Go.Operand.tmp 69) (Go.Operand.tmp 70), type := 0, pos := "law.go:76", after := #[{ on := 5, ground := Go.Ground.data }, { on := 6, ground := Go.Ground.data }, { on := 3, ground := Go.Ground.guard }], guard := some (3, true) }) (v := ?_) rfl (by kernel_rfl) (by kernel_rfl) (by kernel_rfl) (fun _ _ _ h => h) (Or.inl ⟨by rfl, ?_⟩) (by assumption) ?_
            rotate_left
            · (intro w hSw; (try dsimp only at hSw); go_simp; try with_reducible rfl)
            try simp only [Act.put, List.setIfInBounds_toArray, List.set_cons_zero, List.set_cons_succ]
            refine wpAnyH_take (i := 8) (oi := { dst := some 72, op := Go.Op.load 9 (Go.Operand.tmp 71), type := 9, pos := "law.go:76", after := #[{ on := 7, ground := Go.Ground.data }, { on := 3, ground := Go.Ground.guard }], guard := some (3, true) }) (v := ?_) rfl (by kernel_rfl) (by kernel_rfl) (by kernel_rfl) (fun _ _ _ h => h) (Or.inl ⟨by rfl, ?_⟩) (by assumption) ?_
            rotate_left
            · (intro w hSw; (try dsimp only at hSw); go_simp; try with_reducible rfl)
            try simp only [Act.put, List.setIfInBounds_toArray, List.set_cons_zero, List.set_cons_succ]
            refine wpAnyH_take (i := 9) (oi := { dst := some 73, op := Go.Op.move (Go.Operand.tmp 4), type := 57, pos := "law.go:76", after := #[{ on := 3, ground := Go.Ground.guard }], guard := some (3, true) }) (v := ?_) rfl (by kernel_rfl) (by kernel_rfl) (by kernel_rfl) (fun _ _ _ h => h) (Or.inl ⟨by rfl, ?_⟩) (by assumption) ?_
            rotate_left
            · (intro w hSw; (try dsimp only at hSw); go_simp; try with_reducible rfl)
            try simp only [Act.put, List.setIfInBounds_toArray, List.set_cons_zero, List.set_cons_succ]
            refine wpAnyH_take (i := 10) (oi := { dst := some 74, op := Go.Op.convert 57 5 (Go.Operand.tmp 73), type := 5, pos := "law.go:76", after := #[{ on := 9, ground := Go.Ground.data }, { on := 3, ground := Go.Ground.guard }], guard := some (3, true) }) (v := ?_) rfl (by kernel_rfl) (by kernel_rfl) (by kernel_rfl) (fun _ _ _ h => h) (Or.inl ⟨by rfl, ?_⟩) (by assumption) ?_
            rotate_left
            · (intro w hSw; (try dsimp only at hSw); go_simp; try with_reducible rfl)
            try simp only [Act.put, List.setIfInBounds_toArray, List.set_cons_zero, List.set_cons_succ]
            refine wpAnyH_ready (rs := [11]) (by kernel_rfl) (by simp) ?_
            refine AllReadyH.cons (o := { dst := some 75, op := Go.Op.buildSlice 66 1 #[(0, Go.Operand.tmp 74)], type := 66, pos := "law.go:76", after := #[{ on := 10, ground := Go.Ground.data }, { on := 3, ground := Go.Ground.guard }], guard := some (3, true) }) rfl (fun K hK => ?_) AllReadyH.nil
            go_simp
            refine hK.out _ _ ?_ (fun hHeld => ?_)
            · (try dsimp only); first | exact SK.out _ (((Kp.refl [] _).drew).alloc _) | exact SK.out _ (((Kp.refl [] _).alloc _).drew)
            clear hK K
            try simp only [Act.put, List.setIfInBounds_toArray, List.set_cons_zero, List.set_cons_succ]
            refine wpAnyH_ready (rs := [12]) (by kernel_rfl) (by simp) ?_
            refine AllReadyH.cons (o := { dst := some 76, op := Go.Op.convert 66 9 (Go.Operand.tmp 75), type := 9, pos := "law.go:76", after := #[{ on := 11, ground := Go.Ground.data }, { on := 3, ground := Go.Ground.guard }], guard := some (3, true) }) rfl (fun K hK => ?_) AllReadyH.nil
            go_simp
            refine hK.out _ _ ?_ (fun hHeld => ?_)
            · (try dsimp only); first | exact SK.out _ (((Kp.refl [] _).drew).alloc _) | exact SK.out _ (((Kp.refl [] _).alloc _).drew)
            clear hK K
            try simp only [Act.put, List.setIfInBounds_toArray, List.set_cons_zero, List.set_cons_succ]
            refine wpAnyH_take (i := 13) (oi := { dst := some 77, op := Go.Op.binOp Go.BinOp.add 9 (Go.Operand.const (Go.Value.string { data := #[120] })) (Go.Operand.tmp 76) 9, type := 9, pos := "law.go:76", after := #[{ on := 12, ground := Go.Ground.data }, { on := 3, ground := Go.Ground.guard }], guard := some (3, true) }) (v := ?_) rfl (by kernel_rfl) (by kernel_rfl) (by kernel_rfl) (fun _ _ _ h => h) (Or.inl ⟨by rfl, ?_⟩) (by assumption) ?_
            rotate_left
            · (intro w hSw; (try dsimp only at hSw); go_simp; try with_reducible rfl)
            try simp only [Act.put, List.setIfInBounds_toArray, List.set_cons_zero, List.set_cons_succ]
            refine wpAnyH_take (i := 14) (oi := { dst := some 78, op := Go.Op.binOp Go.BinOp.neq 9 (Go.Operand.tmp 72) (Go.Operand.tmp 77) 9, type := 4, pos := "law.go:76", after := #[{ on := 8, ground := Go.Ground.data }, { on := 13, ground := Go.Ground.data }, { on := 3, ground := Go.Ground.guard }], guard := some (3, true) }) (v := ?_) rfl (by kernel_rfl) (by kernel_rfl) (by kernel_rfl) (fun _ _ _ h => h) (Or.inl ⟨by rfl, ?_⟩) (by assumption) ?_
            rotate_left
            · (intro w hSw; (try dsimp only at hSw); go_simp; try with_reducible rfl)
            try simp only [Act.put, List.setIfInBounds_toArray, List.set_cons_zero, List.set_cons_succ]
            refine wpAnyH_take (i := 15) (oi := { dst := some 79, op := Go.Op.pick (Go.Operand.tmp 67) (Go.Operand.tmp 78) (Go.Operand.const (Go.Value.bool false)), type := 4, pos := "law.go:76", after := #[{ on := 3, ground := Go.Ground.data }, { on := 14, ground := Go.Ground.data }], guard := none }) (v := ?_) rfl (by kernel_rfl) (by kernel_rfl) (by kernel_rfl) (fun _ _ _ h => h) (Or.inl ⟨by rfl, ?_⟩) (by assumption) ?_
            rotate_left
            · (intro w hSw; (try dsimp only at hSw); go_simp; try with_reducible rfl)
            try simp only [Act.put, List.setIfInBounds_toArray, List.set_cons_zero, List.set_cons_succ]
            refine wpAnyH_take (i := 16) (oi := { dst := some 80, op := Go.Op.move (Go.Operand.tmp 79), type := 4, pos := "law.go:76", after := #[{ on := 15, ground := Go.Ground.data }, { on := 3, ground := Go.Ground.chain }], guard := none }) (v := ?_) rfl (by kernel_rfl) (by kernel_rfl) (by kernel_rfl) (fun _ _ _ h => h) (Or.inl ⟨by rfl, ?_⟩) (by assumption) ?_
            rotate_left
            · (intro w hSw; (try dsimp only at hSw); go_simp; try with_reducible rfl)
            try simp only [Act.put, List.setIfInBounds_toArray, List.set_cons_zero, List.set_cons_succ]
            refine wpAnyH_take (i := 17) (oi := { dst := some 81, op := Go.Op.move (Go.Operand.tmp 12), type := 3, pos := "law.go:76", after := #[{ on := 16, ground := Go.Ground.guard }], guard := some (16, false) }) (v := ?_) rfl (by kernel_rfl) (by kernel_rfl) (by kernel_rfl) (fun _ _ _ h => h) (Or.inl ⟨by rfl, ?_⟩) (by assumption) ?_
            rotate_left
            · (intro w hSw; (try dsimp only at hSw); go_simp; try with_reducible rfl)
            try simp only [Act.put, List.setIfInBounds_toArray, List.set_cons_zero, List.set_cons_succ]
            refine wpAnyH_take (i := 18) (oi := { dst := some 82, op := Go.Op.move (Go.Operand.tmp 2), type := 3, pos := "law.go:76", after := #[{ on := 16, ground := Go.Ground.guard }], guard := some (16, false) }) (v := ?_) rfl (by kernel_rfl) (by kernel_rfl) (by kernel_rfl) (fun _ _ _ h => h) (Or.inl ⟨by rfl, ?_⟩) (by assumption) ?_
            rotate_left
            · (intro w hSw; (try dsimp only at hSw); go_simp; try with_reducible rfl)
            try simp only [Act.put, List.setIfInBounds_toArray, List.set_cons_zero, List.set_cons_succ]
            refine wpAnyH_take (i := 19) (oi := { dst := some 83, op := Go.Op.binOp Go.BinOp.geq 3 (Go.Operand.tmp 81) (Go.Operand.tmp 82) 3, type := 4, pos := "law.go:76", after := #[{ on := 17, ground := Go.Ground.data }, { on := 18, ground := Go.Ground.data }, { on := 16, ground := Go.Ground.guard }], guard := some (16, false) }) (v := ?_) rfl (by kernel_rfl) (by kernel_rfl) (by kernel_rfl) (fun _ _ _ h => h) (Or.inl ⟨by rfl, ?_⟩) (by assumption) ?_
            rotate_left
            · (intro w hSw; (try dsimp only at hSw); go_simp; try with_reducible rfl)
            try simp only [Act.put, List.setIfInBounds_toArray, List.set_cons_zero, List.set_cons_succ]
            refine wpAnyH_take (i := 20) (oi := { dst := some 84, op := Go.Op.move (Go.Operand.tmp 83), type := 4, pos := "law.go:76", after := #[{ on := 19, ground := Go.Ground.data }, { on := 16, ground := Go.Ground.chain }, { on := 16, ground := Go.Ground.guard }], guard := some (16, false) }) (v := ?_) rfl (by kernel_rfl) (by kernel_rfl) (by kernel_rfl) (fun _ _ _ h => h) (Or.inl ⟨by rfl, ?_⟩) (by assumption) ?_
            rotate_left
            · (intro w hSw; (try dsimp only at hSw); go_simp; try with_reducible rfl)
            try simp only [Act.put, List.setIfInBounds_toArray, List.set_cons_zero, List.set_cons_succ]
            refine wpAnyH_take (i := 21) (oi := { dst := some 85, op := Go.Op.fieldAddr 28 (Go.Operand.tmp 5) 1, type := 0, pos := "law.go:76", after := #[{ on := 20, ground := Go.Ground.guard }], guard := some (20, true) }) rfl (by kernel_rfl) (by kernel_rfl) (by kernel_rfl) (fun _ _ _ h => h) (Or.inr ⟨by rfl, rfl⟩) (by assumption) ?_
            try simp only [Act.put, List.setIfInBounds_toArray, List.set_cons_zero, List.set_cons_succ]
            refine wpAnyH_take (i := 22) (oi := { dst := some 86, op := Go.Op.load 25 (Go.Operand.tmp 85), type := 25, pos := "law.go:76", after := #[{ on := 21, ground := Go.Ground.data }, { on := 20, ground := Go.Ground.guard }], guard := some (20, true) }) rfl (by kernel_rfl) (by kernel_rfl) (by kernel_rfl) (fun _ _ _ h => h) (Or.inr ⟨by rfl, rfl⟩) (by assumption) ?_
            try simp only [Act.put, List.setIfInBounds_toArray, List.set_cons_zero, List.set_cons_succ]
            refine wpAnyH_take (i := 23) (oi := { dst := some 87, op := Go.Op.move (Go.Operand.tmp 12), type := 3, pos := "law.go:76", after := #[{ on := 20, ground := Go.Ground.guard }], guard := some (20, true) }) rfl (by kernel_rfl) (by kernel_rfl) (by kernel_rfl) (fun _ _ _ h => h) (Or.inr ⟨by rfl, rfl⟩) (by assumption) ?_
            try simp only [Act.put, List.setIfInBounds_toArray, List.set_cons_zero, List.set_cons_succ]
            refine wpAnyH_take (i := 24) (oi := { dst := some 88, op := Go.Op.indexAddr 25 (Go.Operand.tmp 86) (Go.Operand.tmp 87), type := 0, pos := "law.go:76", after := #[{ on := 22, ground := Go.Ground.data }, { on := 23, ground := Go.Ground.data }, { on := 20, ground := Go.Ground.guard }], guard := some (20, true) }) rfl (by kernel_rfl) (by kernel_rfl) (by kernel_rfl) (fun _ _ _ h => h) (Or.inr ⟨by rfl, rfl⟩) (by assumption) ?_
            try simp only [Act.put, List.setIfInBounds_toArray, List.set_cons_zero, List.set_cons_succ]
            refine wpAnyH_take (i := 25) (oi := { dst := some 89, op := Go.Op.load 9 (Go.Operand.tmp 88), type := 9, pos := "law.go:76", after := #[{ on := 24, ground := Go.Ground.data }, { on := 20, ground := Go.Ground.guard }], guard := some (20, true) }) rfl (by kernel_rfl) (by kernel_rfl) (by kernel_rfl) (fun _ _ _ h => h) (Or.inr ⟨by rfl, rfl⟩) (by assumption) ?_
            try simp only [Act.put, List.setIfInBounds_toArray, List.set_cons_zero, List.set_cons_succ]
            refine wpAnyH_take (i := 26) (oi := { dst := some 90, op := Go.Op.move (Go.Operand.tmp 4), type := 57, pos := "law.go:76", after := #[{ on := 20, ground := Go.Ground.guard }], guard := some (20, true) }) rfl (by kernel_rfl) (by kernel_rfl) (by kernel_rfl) (fun _ _ _ h => h) (Or.inr ⟨by rfl, rfl⟩) (by assumption) ?_
            try simp only [Act.put, List.setIfInBounds_toArray, List.set_cons_zero, List.set_cons_succ]
            refine wpAnyH_take (i := 27) (oi := { dst := some 91, op := Go.Op.convert 57 5 (Go.Operand.tmp 90), type := 5, pos := "law.go:76", after := #[{ on := 26, ground := Go.Ground.data }, { on := 20, ground := Go.Ground.guard }], guard := some (20, true) }) rfl (by kernel_rfl) (by kernel_rfl) (by kernel_rfl) (fun _ _ _ h => h) (Or.inr ⟨by rfl, rfl⟩) (by assumption) ?_
            try simp only [Act.put, List.setIfInBounds_toArray, List.set_cons_zero, List.set_cons_succ]
            refine wpAnyH_take (i := 28) (oi := { dst := some 92, op := Go.Op.buildSlice 66 1 #[(0, Go.Operand.tmp 91)], type := 66, pos := "law.go:76", after := #[{ on := 27, ground := Go.Ground.data }, { on := 20, ground := Go.Ground.guard }], guard := some (20, true) }) rfl (by kernel_rfl) (by kernel_rfl) (by kernel_rfl) (fun _ _ _ h => h) (Or.inr ⟨by rfl, rfl⟩) (by assumption) ?_
            try simp only [Act.put, List.setIfInBounds_toArray, List.set_cons_zero, List.set_cons_succ]
            refine wpAnyH_take (i := 29) (oi := { dst := some 93, op := Go.Op.convert 66 9 (Go.Operand.tmp 92), type := 9, pos := "law.go:76", after := #[{ on := 28, ground := Go.Ground.data }, { on := 20, ground := Go.Ground.guard }], guard := some (20, true) }) rfl (by kernel_rfl) (by kernel_rfl) (by kernel_rfl) (fun _ _ _ h => h) (Or.inr ⟨by rfl, rfl⟩) (by assumption) ?_
            try simp only [Act.put, List.setIfInBounds_toArray, List.set_cons_zero, List.set_cons_succ]
            refine wpAnyH_take (i := 30) (oi := { dst := some 94, op := Go.Op.binOp Go.BinOp.add 9 (Go.Operand.const (Go.Value.string { data := #[121] })) (Go.Operand.tmp 93) 9, type := 9, pos := "law.go:76", after := #[{ on := 29, ground := Go.Ground.data }, { on := 20, ground := Go.Ground.guard }], guard := some (20, true) }) rfl (by kernel_rfl) (by kernel_rfl) (by kernel_rfl) (fun _ _ _ h => h) (Or.inr ⟨by rfl, rfl⟩) (by assumption) ?_
            try simp only [Act.put, List.setIfInBounds_toArray, List.set_cons_zero, List.set_cons_succ]
            refine wpAnyH_take (i := 31) (oi := { dst := some 95, op := Go.Op.binOp Go.BinOp.neq 9 (Go.Operand.tmp 89) (Go.Operand.tmp 94) 9, type := 4, pos := "law.go:76", after := #[{ on := 25, ground := Go.Ground.data }, { on := 30, ground := Go.Ground.data }, { on := 20, ground := Go.Ground.guard }], guard := some (20, true) }) rfl (by kernel_rfl) (by kernel_rfl) (by kernel_rfl) (fun _ _ _ h => h) (Or.inr ⟨by rfl, rfl⟩) (by assumption) ?_
            try simp only [Act.put, List.setIfInBounds_toArray, List.set_cons_zero, List.set_cons_succ]
            refine wpAnyH_take (i := 32) (oi := { dst := some 96, op := Go.Op.pick (Go.Operand.tmp 84) (Go.Operand.tmp 95) (Go.Operand.const (Go.Value.bool false)), type := 4, pos := "law.go:76", after := #[{ on := 20, ground := Go.Ground.data }, { on := 31, ground := Go.Ground.data }, { on := 16, ground := Go.Ground.guard }], guard := some (16, false) }) (v := ?_) rfl (by kernel_rfl) (by kernel_rfl) (by kernel_rfl) (fun _ _ _ h => h) (Or.inl ⟨by rfl, ?_⟩) (by assumption) ?_
            rotate_left
            · (intro w hSw; (try dsimp only at hSw); go_simp; try with_reducible rfl)
            try simp only [Act.put, List.setIfInBounds_toArray, List.set_cons_zero, List.set_cons_succ]
            refine wpAnyH_take (i := 33) (oi := { dst := some 97, op := Go.Op.pick (Go.Operand.tmp 80) (Go.Operand.const (Go.Value.bool true)) (Go.Operand.tmp 96), type := 4, pos := "law.go:76", after := #[{ on := 16, ground := Go.Ground.data }, { on := 32, ground := Go.Ground.data }], guard := none }) (v := ?_) rfl (by kernel_rfl) (by kernel_rfl) (by kernel_rfl) (fun _ _ _ h => h) (Or.inl ⟨by rfl, ?_⟩) (by assumption) ?_
            rotate_left
            · (intro w hSw; (try dsimp only at hSw); go_simp; try with_reducible rfl)
            try simp only [Act.put, List.setIfInBounds_toArray, List.set_cons_zero, List.set_cons_succ]
            refine wpAnyH_done (by kernel_rfl) ?_ _
            refine NoPanic.normal ?_
            clear e8
            go_wp2_with fail
            go_roundw
            case rel => exact ⟨k + 1, by go_num, by omega, Lib.hid (by first | exact KR.out.trans ((((Kp.refl [] _).drew).alloc _)) | exact KR.out.trans ((((Kp.refl [] _).alloc _).drew)))⟩
            case measure => simp [intOf]; omega
          · have hp' : ¬ (k : Int) < s := by omega
            have hp2 : (s : Int) ≤ k := by omega
            have hp3 : s ≤ k := by omega
            rw [if_neg hp] at hv
            rw [hv] at cf SK
            clear hv
            have e8 : IntKind.u8.wrap (mark.toNat : Int) = mark.toNat := IntWalk.u8_in _ (by omega)
            go_wp2_with fail
            refine wp_region_noPanic ?_
            refine wp_region_held_drew (S := fun W => W.cell? ⟨w.heap.size, 1, none⟩ = some (.slice (some ⟨b, o, none⟩) m.seps.length sc) ∧ W.cell? ⟨b, o + k, none⟩ = some (.string ⟨(yB mark).toArray⟩)) (by kernel_rfl) ?_ (fun hHeld => ?_)
            · (try dsimp only); exact SK.out _ ((Kp.refl [] _).drew)
            refine wpAnyH_take (i := 0) (oi := { dst := some 64, op := Go.Op.move (Go.Operand.tmp 12), type := 3, pos := "law.go:76", after := #[], guard := none }) (v := ?_) rfl (by kernel_rfl) (by kernel_rfl) (by kernel_rfl) (fun _ _ _ h => h) (Or.inl ⟨by rfl, ?_⟩) (by assumption) ?_
            rotate_left
            · (intro w hSw; (try dsimp only at hSw); go_simp; try with_reducible rfl)
            try simp only [Act.put, List.setIfInBounds_toArray, List.set_cons_zero, List.set_cons_succ]
            refine wpAnyH_take (i := 1) (oi := { dst := some 65, op := Go.Op.move (Go.Operand.tmp 2), type := 3, pos := "law.go:76", after := #[], guard := none }) (v := ?_) rfl (by kernel_rfl) (by kernel_rfl) (by kernel_rfl) (fun _ _ _ h => h) (Or.inl ⟨by rfl, ?_⟩) (by assumption) ?_
            rotate_left
            · (intro w hSw; (try dsimp only at hSw); go_simp; try with_reducible rfl)
            try simp only [Act.put, List.setIfInBounds_toArray, List.set_cons_zero, List.set_cons_succ]
            refine wpAnyH_take (i := 2) (oi := { dst := some 66, op := Go.Op.binOp Go.BinOp.lss 3 (Go.Operand.tmp 64) (Go.Operand.tmp 65) 3, type := 4, pos := "law.go:76", after := #[{ on := 0, ground := Go.Ground.data }, { on := 1, ground := Go.Ground.data }], guard := none }) (v := ?_) rfl (by kernel_rfl) (by kernel_rfl) (by kernel_rfl) (fun _ _ _ h => h) (Or.inl ⟨by rfl, ?_⟩) (by assumption) ?_
            rotate_left
            · (intro w hSw; (try dsimp only at hSw); go_simp; try with_reducible rfl)
            try simp only [Act.put, List.setIfInBounds_toArray, List.set_cons_zero, List.set_cons_succ]
            refine wpAnyH_take (i := 3) (oi := { dst := some 67, op := Go.Op.move (Go.Operand.tmp 66), type := 4, pos := "law.go:76", after := #[{ on := 2, ground := Go.Ground.data }], guard := none }) (v := ?_) rfl (by kernel_rfl) (by kernel_rfl) (by kernel_rfl) (fun _ _ _ h => h) (Or.inl ⟨by rfl, ?_⟩) (by assumption) ?_
            rotate_left
            · (intro w hSw; (try dsimp only at hSw); go_simp; try with_reducible rfl)
            try simp only [Act.put, List.setIfInBounds_toArray, List.set_cons_zero, List.set_cons_succ]
            refine wpAnyH_take (i := 4) (oi := { dst := some 68, op := Go.Op.fieldAddr 28 (Go.Operand.tmp 5) 1, type := 0, pos := "law.go:76", after := #[{ on := 3, ground := Go.Ground.guard }], guard := some (3, true) }) rfl (by kernel_rfl) (by kernel_rfl) (by kernel_rfl) (fun _ _ _ h => h) (Or.inr ⟨by rfl, rfl⟩) (by assumption) ?_
            try simp only [Act.put, List.setIfInBounds_toArray, List.set_cons_zero, List.set_cons_succ]
            refine wpAnyH_take (i := 5) (oi := { dst := some 69, op := Go.Op.load 25 (Go.Operand.tmp 68), type := 25, pos := "law.go:76", after := #[{ on := 4, ground := Go.Ground.data }, { on := 3, ground := Go.Ground.guard }], guard := some (3, true) }) rfl (by kernel_rfl) (by kernel_rfl) (by kernel_rfl) (fun _ _ _ h => h) (Or.inr ⟨by rfl, rfl⟩) (by assumption) ?_
            try simp only [Act.put, List.setIfInBounds_toArray, List.set_cons_zero, List.set_cons_succ]
            refine wpAnyH_take (i := 6) (oi := { dst := some 70, op := Go.Op.move (Go.Operand.tmp 12), type := 3, pos := "law.go:76", after := #[{ on := 3, ground := Go.Ground.guard }], guard := some (3, true) }) rfl (by kernel_rfl) (by kernel_rfl) (by kernel_rfl) (fun _ _ _ h => h) (Or.inr ⟨by rfl, rfl⟩) (by assumption) ?_
            try simp only [Act.put, List.setIfInBounds_toArray, List.set_cons_zero, List.set_cons_succ]
            refine wpAnyH_take (i := 7) (oi := { dst := some 71, op := Go.Op.indexAddr 25 (Go.Operand.tmp 69) (Go.Operand.tmp 70), type := 0, pos := "law.go:76", after := #[{ on := 5, ground := Go.Ground.data }, { on := 6, ground := Go.Ground.data }, { on := 3, ground := Go.Ground.guard }], guard := some (3, true) }) rfl (by kernel_rfl) (by kernel_rfl) (by kernel_rfl) (fun _ _ _ h => h) (Or.inr ⟨by rfl, rfl⟩) (by assumption) ?_
            try simp only [Act.put, List.setIfInBounds_toArray, List.set_cons_zero, List.set_cons_succ]
            refine wpAnyH_take (i := 8) (oi := { dst := some 72, op := Go.Op.load 9 (Go.Operand.tmp 71), type := 9, pos := "law.go:76", after := #[{ on := 7, ground := Go.Ground.data }, { on := 3, ground := Go.Ground.guard }], guard := some (3, true) }) rfl (by kernel_rfl) (by kernel_rfl) (by kernel_rfl) (fun _ _ _ h => h) (Or.inr ⟨by rfl, rfl⟩) (by assumption) ?_
            try simp only [Act.put, List.setIfInBounds_toArray, List.set_cons_zero, List.set_cons_succ]
            refine wpAnyH_take (i := 9) (oi := { dst := some 73, op := Go.Op.move (Go.Operand.tmp 4), type := 57, pos := "law.go:76", after := #[{ on := 3, ground := Go.Ground.guard }], guard := some (3, true) }) rfl (by kernel_rfl) (by kernel_rfl) (by kernel_rfl) (fun _ _ _ h => h) (Or.inr ⟨by rfl, rfl⟩) (by assumption) ?_
            try simp only [Act.put, List.setIfInBounds_toArray, List.set_cons_zero, List.set_cons_succ]
            refine wpAnyH_take (i := 10) (oi := { dst := some 74, op := Go.Op.convert 57 5 (Go.Operand.tmp 73), type := 5, pos := "law.go:76", after := #[{ on := 9, ground := Go.Ground.data }, { on := 3, ground := Go.Ground.guard }], guard := some (3, true) }) rfl (by kernel_rfl) (by kernel_rfl) (by kernel_rfl) (fun _ _ _ h => h) (Or.inr ⟨by rfl, rfl⟩) (by assumption) ?_
            try simp only [Act.put, List.setIfInBounds_toArray, List.set_cons_zero, List.set_cons_succ]
            refine wpAnyH_take (i := 11) (oi := { dst := some 75, op := Go.Op.buildSlice 66 1 #[(0, Go.Operand.tmp 74)], type := 66, pos := "law.go:76", after := #[{ on := 10, ground := Go.Ground.data }, { on := 3, ground := Go.Ground.guard }], guard := some (3, true) }) rfl (by kernel_rfl) (by kernel_rfl) (by kernel_rfl) (fun _ _ _ h => h) (Or.inr ⟨by rfl, rfl⟩) (by assumption) ?_
            try simp only [Act.put, List.setIfInBounds_toArray, List.set_cons_zero, List.set_cons_succ]
            refine wpAnyH_take (i := 12) (oi := { dst := some 76, op := Go.Op.convert 66 9 (Go.Operand.tmp 75), type := 9, pos := "law.go:76", after := #[{ on := 11, ground := Go.Ground.data }, { on := 3, ground := Go.Ground.guard }], guard := some (3, true) }) rfl (by kernel_rfl) (by kernel_rfl) (by kernel_rfl) (fun _ _ _ h => h) (Or.inr ⟨by rfl, rfl⟩) (by assumption) ?_
            try simp only [Act.put, List.setIfInBounds_toArray, List.set_cons_zero, List.set_cons_succ]
            refine wpAnyH_take (i := 13) (oi := { dst := some 77, op := Go.Op.binOp Go.BinOp.add 9 (Go.Operand.const (Go.Value.string { data := #[120] })) (Go.Operand.tmp 76) 9, type := 9, pos := "law.go:76", after := #[{ on := 12, ground := Go.Ground.data }, { on := 3, ground := Go.Ground.guard }], guard := some (3, true) }) rfl (by kernel_rfl) (by kernel_rfl) (by kernel_rfl) (fun _ _ _ h => h) (Or.inr ⟨by rfl, rfl⟩) (by assumption) ?_
            try simp only [Act.put, List.setIfInBounds_toArray, List.set_cons_zero, List.set_cons_succ]
            refine wpAnyH_take (i := 14) (oi := { dst := some 78, op := Go.Op.binOp Go.BinOp.neq 9 (Go.Operand.tmp 72) (Go.Operand.tmp 77) 9, type := 4, pos := "law.go:76", after := #[{ on := 8, ground := Go.Ground.data }, { on := 13, ground := Go.Ground.data }, { on := 3, ground := Go.Ground.guard }], guard := some (3, true) }) rfl (by kernel_rfl) (by kernel_rfl) (by kernel_rfl) (fun _ _ _ h => h) (Or.inr ⟨by rfl, rfl⟩) (by assumption) ?_
            try simp only [Act.put, List.setIfInBounds_toArray, List.set_cons_zero, List.set_cons_succ]
            refine wpAnyH_take (i := 15) (oi := { dst := some 79, op := Go.Op.pick (Go.Operand.tmp 67) (Go.Operand.tmp 78) (Go.Operand.const (Go.Value.bool false)), type := 4, pos := "law.go:76", after := #[{ on := 3, ground := Go.Ground.data }, { on := 14, ground := Go.Ground.data }], guard := none }) (v := ?_) rfl (by kernel_rfl) (by kernel_rfl) (by kernel_rfl) (fun _ _ _ h => h) (Or.inl ⟨by rfl, ?_⟩) (by assumption) ?_
            rotate_left
            · (intro w hSw; (try dsimp only at hSw); go_simp; try with_reducible rfl)
            try simp only [Act.put, List.setIfInBounds_toArray, List.set_cons_zero, List.set_cons_succ]
            refine wpAnyH_take (i := 16) (oi := { dst := some 80, op := Go.Op.move (Go.Operand.tmp 79), type := 4, pos := "law.go:76", after := #[{ on := 15, ground := Go.Ground.data }, { on := 3, ground := Go.Ground.chain }], guard := none }) (v := ?_) rfl (by kernel_rfl) (by kernel_rfl) (by kernel_rfl) (fun _ _ _ h => h) (Or.inl ⟨by rfl, ?_⟩) (by assumption) ?_
            rotate_left
            · (intro w hSw; (try dsimp only at hSw); go_simp; try with_reducible rfl)
            try simp only [Act.put, List.setIfInBounds_toArray, List.set_cons_zero, List.set_cons_succ]
            refine wpAnyH_take (i := 17) (oi := { dst := some 81, op := Go.Op.move (Go.Operand.tmp 12), type := 3, pos := "law.go:76", after := #[{ on := 16, ground := Go.Ground.guard }], guard := some (16, false) }) (v := ?_) rfl (by kernel_rfl) (by kernel_rfl) (by kernel_rfl) (fun _ _ _ h => h) (Or.inl ⟨by rfl, ?_⟩) (by assumption) ?_
            rotate_left
            · (intro w hSw; (try dsimp only at hSw); go_simp; try with_reducible rfl)
            try simp only [Act.put, List.setIfInBounds_toArray, List.set_cons_zero, List.set_cons_succ]
            refine wpAnyH_take (i := 18) (oi := { dst := some 82, op := Go.Op.move (Go.Operand.tmp 2), type := 3, pos := "law.go:76", after := #[{ on := 16, ground := Go.Ground.guard }], guard := some (16, false) }) (v := ?_) rfl (by kernel_rfl) (by kernel_rfl) (by kernel_rfl) (fun _ _ _ h => h) (Or.inl ⟨by rfl, ?_⟩) (by assumption) ?_
            rotate_left
            · (intro w hSw; (try dsimp only at hSw); go_simp; try with_reducible rfl)
            try simp only [Act.put, List.setIfInBounds_toArray, List.set_cons_zero, List.set_cons_succ]
            refine wpAnyH_take (i := 19) (oi := { dst := some 83, op := Go.Op.binOp Go.BinOp.geq 3 (Go.Operand.tmp 81) (Go.Operand.tmp 82) 3, type := 4, pos := "law.go:76", after := #[{ on := 17, ground := Go.Ground.data }, { on := 18, ground := Go.Ground.data }, { on := 16, ground := Go.Ground.guard }], guard := some (16, false) }) (v := ?_) rfl (by kernel_rfl) (by kernel_rfl) (by kernel_rfl) (fun _ _ _ h => h) (Or.inl ⟨by rfl, ?_⟩) (by assumption) ?_
            rotate_left
            · (intro w hSw; (try dsimp only at hSw); go_simp; try with_reducible rfl)
            try simp only [Act.put, List.setIfInBounds_toArray, List.set_cons_zero, List.set_cons_succ]
            refine wpAnyH_take (i := 20) (oi := { dst := some 84, op := Go.Op.move (Go.Operand.tmp 83), type := 4, pos := "law.go:76", after := #[{ on := 19, ground := Go.Ground.data }, { on := 16, ground := Go.Ground.chain }, { on := 16, ground := Go.Ground.guard }], guard := some (16, false) }) (v := ?_) rfl (by kernel_rfl) (by kernel_rfl) (by kernel_rfl) (fun _ _ _ h => h) (Or.inl ⟨by rfl, ?_⟩) (by assumption) ?_
            rotate_left
            · (intro w hSw; (try dsimp only at hSw); go_simp; try with_reducible rfl)
            try simp only [Act.put, List.setIfInBounds_toArray, List.set_cons_zero, List.set_cons_succ]
            refine wpAnyH_take (i := 21) (oi := { dst := some 85, op := Go.Op.fieldAddr 28 (Go.Operand.tmp 5) 1, type := 0, pos := "law.go:76", after := #[{ on := 20, ground := Go.Ground.guard }], guard := some (20, true) }) (v := ?_) rfl (by kernel_rfl) (by kernel_rfl) (by kernel_rfl) (fun _ _ _ h => h) (Or.inl ⟨by rfl, ?_⟩) (by assumption) ?_
            rotate_left
            · (intro w hSw; (try dsimp only at hSw); go_simp; try with_reducible rfl)
            try simp only [Act.put, List.setIfInBounds_toArray, List.set_cons_zero, List.set_cons_succ]
            refine wpAnyH_take (i := 22) (oi := { dst := some 86, op := Go.Op.load 25 (Go.Operand.tmp 85), type := 25, pos := "law.go:76", after := #[{ on := 21, ground := Go.Ground.data }, { on := 20, ground := Go.Ground.guard }], guard := some (20, true) }) (v := ?_) rfl (by kernel_rfl) (by kernel_rfl) (by kernel_rfl) (fun _ _ _ h => h) (Or.inl ⟨by rfl, ?_⟩) (by assumption) ?_
            rotate_left
            · (intro w hSw; (try dsimp only at hSw); go_simp; try with_reducible rfl)
            try simp only [Act.put, List.setIfInBounds_toArray, List.set_cons_zero, List.set_cons_succ]
            refine wpAnyH_take (i := 23) (oi := { dst := some 87, op := Go.Op.move (Go.Operand.tmp 12), type := 3, pos := "law.go:76", after := #[{ on := 20, ground := Go.Ground.guard }], guard := some (20, true) }) (v := ?_) rfl (by kernel_rfl) (by kernel_rfl) (by kernel_rfl) (fun _ _ _ h => h) (Or.inl ⟨by rfl, ?_⟩) (by assumption) ?_
            rotate_left
            · (intro w hSw; (try dsimp only at hSw); go_simp; try with_reducible rfl)
            try simp only [Act.put, List.setIfInBounds_toArray, List.set_cons_zero, List.set_cons_succ]
            refine wpAnyH_take (i := 24) (oi := { dst := some 88, op := Go.Op.indexAddr 25 (Go.Operand.tmp 86) (Go.Operand.tmp 87), type := 0, pos := "law.go:76", after := #[{ on := 22, ground := Go.Ground.data }, { on := 23, ground := Go.Ground.data }, { on := 20, ground := Go.Ground.guard }], guard := some (20, true) }) (v := ?_) rfl (by kernel_rfl) (by kernel_rfl) (by kernel_rfl) (fun _ _ _ h => h) (Or.inl ⟨by rfl, ?_⟩) (by assumption) ?_
            rotate_left
            · (intro w hSw; (try dsimp only at hSw); go_simp; try with_reducible rfl)
            try simp only [Act.put, List.setIfInBounds_toArray, List.set_cons_zero, List.set_cons_succ]
            refine wpAnyH_take (i := 25) (oi := { dst := some 89, op := Go.Op.load 9 (Go.Operand.tmp 88), type := 9, pos := "law.go:76", after := #[{ on := 24, ground := Go.Ground.data }, { on := 20, ground := Go.Ground.guard }], guard := some (20, true) }) (v := ?_) rfl (by kernel_rfl) (by kernel_rfl) (by kernel_rfl) (fun _ _ _ h => h) (Or.inl ⟨by rfl, ?_⟩) (by assumption) ?_
            rotate_left
            · (intro w hSw; (try dsimp only at hSw); go_simp; try with_reducible rfl)
            try simp only [Act.put, List.setIfInBounds_toArray, List.set_cons_zero, List.set_cons_succ]
            refine wpAnyH_take (i := 26) (oi := { dst := some 90, op := Go.Op.move (Go.Operand.tmp 4), type := 57, pos := "law.go:76", after := #[{ on := 20, ground := Go.Ground.guard }], guard := some (20, true) }) (v := ?_) rfl (by kernel_rfl) (by kernel_rfl) (by kernel_rfl) (fun _ _ _ h => h) (Or.inl ⟨by rfl, ?_⟩) (by assumption) ?_
            rotate_left
            · (intro w hSw; (try dsimp only at hSw); go_simp; try with_reducible rfl)
            try simp only [Act.put, List.setIfInBounds_toArray, List.set_cons_zero, List.set_cons_succ]
            refine wpAnyH_take (i := 27) (oi := { dst := some 91, op := Go.Op.convert 57 5 (Go.Operand.tmp 90), type := 5, pos := "law.go:76", after := #[{ on := 26, ground := Go.Ground.data }, { on := 20, ground := Go.Ground.guard }], guard := some (20, true) }) (v := ?_) rfl (by kernel_rfl) (by kernel_rfl) (by kernel_rfl) (fun _ _ _ h => h) (Or.inl ⟨by rfl, ?_⟩) (by assumption) ?_
            rotate_left
            · (intro w hSw; (try dsimp only at hSw); go_simp; try with_reducible rfl)
            try simp only [Act.put, List.setIfInBounds_toArray, List.set_cons_zero, List.set_cons_succ]
            refine wpAnyH_ready (rs := [28]) (by kernel_rfl) (by simp) ?_
            refine AllReadyH.cons (o := { dst := some 92, op := Go.Op.buildSlice 66 1 #[(0, Go.Operand.tmp 91)], type := 66, pos := "law.go:76", after := #[{ on := 27, ground := Go.Ground.data }, { on := 20, ground := Go.Ground.guard }], guard := some (20, true) }) rfl (fun K hK => ?_) AllReadyH.nil
            go_simp
            refine hK.out _ _ ?_ (fun hHeld => ?_)
            · (try dsimp only); first | exact SK.out _ (((Kp.refl [] _).drew).alloc _) | exact SK.out _ (((Kp.refl [] _).alloc _).drew)
            clear hK K
            try simp only [Act.put, List.setIfInBounds_toArray, List.set_cons_zero, List.set_cons_succ]
            refine wpAnyH_ready (rs := [29]) (by kernel_rfl) (by simp) ?_
            refine AllReadyH.cons (o := { dst := some 93, op := Go.Op.convert 66 9 (Go.Operand.tmp 92), type := 9, pos := "law.go:76", after := #[{ on := 28, ground := Go.Ground.data }, { on := 20, ground := Go.Ground.guard }], guard := some (20, true) }) rfl (fun K hK => ?_) AllReadyH.nil
            go_simp
            refine hK.out _ _ ?_ (fun hHeld => ?_)
            · (try dsimp only); first | exact SK.out _ (((Kp.refl [] _).drew).alloc _) | exact SK.out _ (((Kp.refl [] _).alloc _).drew)
            clear hK K
            try simp only [Act.put, List.setIfInBounds_toArray, List.set_cons_zero, List.set_cons_succ]
            refine wpAnyH_take (i := 30) (oi := { dst := some 94, op := Go.Op.binOp Go.BinOp.add 9 (Go.Operand.const (Go.Value.string { data := #[121] })) (Go.Operand.tmp 93) 9, type := 9, pos := "law.go:76", after := #[{ on := 29, ground := Go.Ground.data }, { on := 20, ground := Go.Ground.guard }], guard := some (20, true) }) (v := ?_) rfl (by kernel_rfl) (by kernel_rfl) (by kernel_rfl) (fun _ _ _ h => h) (Or.inl ⟨by rfl, ?_⟩) (by assumption) ?_
            rotate_left
            · (intro w hSw; (try dsimp only at hSw); go_simp; try with_reducible rfl)
            try simp only [Act.put, List.setIfInBounds_toArray, List.set_cons_zero, List.set_cons_succ]
            refine wpAnyH_take (i := 31) (oi := { dst := some 95, op := Go.Op.binOp Go.BinOp.neq 9 (Go.Operand.tmp 89) (Go.Operand.tmp 94) 9, type := 4, pos := "law.go:76", after := #[{ on := 25, ground := Go.Ground.data }, { on := 30, ground := Go.Ground.data }, { on := 20, ground := Go.Ground.guard }], guard := some (20, true) }) (v := ?_) rfl (by kernel_rfl) (by kernel_rfl) (by kernel_rfl) (fun _ _ _ h => h) (Or.inl ⟨by rfl, ?_⟩) (by assumption) ?_
            rotate_left
            · (intro w hSw; (try dsimp only at hSw); go_simp; try with_reducible rfl)
            try simp only [Act.put, List.setIfInBounds_toArray, List.set_cons_zero, List.set_cons_succ]
            refine wpAnyH_take (i := 32) (oi := { dst := some 96, op := Go.Op.pick (Go.Operand.tmp 84) (Go.Operand.tmp 95) (Go.Operand.const (Go.Value.bool false)), type := 4, pos := "law.go:76", after := #[{ on := 20, ground := Go.Ground.data }, { on := 31, ground := Go.Ground.data }, { on := 16, ground := Go.Ground.guard }], guard := some (16, false) }) (v := ?_) rfl (by kernel_rfl) (by kernel_rfl) (by kernel_rfl) (fun _ _ _ h => h) (Or.inl ⟨by rfl, ?_⟩) (by assumption) ?_
            rotate_left
            · (intro w hSw; (try dsimp only at hSw); go_simp; try with_reducible rfl)
            try simp only [Act.put, List.setIfInBounds_toArray, List.set_cons_zero, List.set_cons_succ]
            refine wpAnyH_take (i := 33) (oi := { dst := some 97, op := Go.Op.pick (Go.Operand.tmp 80) (Go.Operand.const (Go.Value.bool true)) (Go.Operand.tmp 96), type := 4, pos := "law.go:76", after := #[{ on := 16, ground := Go.Ground.data }, { on := 32, ground := Go.Ground.data }], guard := none }) (v := ?_) rfl (by kernel_rfl) (by kernel_rfl) (by kernel_rfl) (fun _ _ _ h => h) (Or.inl ⟨by rfl, ?_⟩) (by assumption) ?_
            rotate_left
            · (intro w hSw; (try dsimp only at hSw); go_simp; try with_reducible rfl)
            try simp only [Act.put, List.setIfInBounds_toArray, List.set_cons_zero, List.set_cons_succ]
            refine wpAnyH_done (by kernel_rfl) ?_ _
            refine NoPanic.normal ?_
            clear e8
            go_wp2_with fail
            go_roundw
            case rel => exact ⟨k + 1, by go_num, by omega, Lib.hid (by first | exact KR.out.trans ((((Kp.refl [] _).drew).alloc _)) | exact KR.out.trans ((((Kp.refl [] _).alloc _).drew)))⟩
            case measure => simp [intOf]; omega
        · go_wp2_with fail
          go_loopw [10, 13] (fun _ i wr => ∃ k, i = .int .i64 (k : Nat) ∧ k ≤ m.kids.length ∧ Hid (Kp [] W0 wr)) (fun _ i _ => m.kids.length - (intOf i).toNat)
          case atStart => exact ⟨0, rfl, Nat.zero_le _, KR⟩
          case round =>
            clear KR c5 c6 c7 g8
            obtain ⟨k, rfl, hk, KR⟩ := hrel
            obtain ⟨c5, c6, c7, c8, c9, c10, g8⟩ := LtI.facts (BX.out.kp KR.out (by simp))
            clear c8 c9 c10
            by_cases hlt : k < m.kids.length
            · obtain ⟨x, hx⟩ : ∃ x, m.kids[k]? = some x := ⟨_, List.getElem?_eq_getElem hlt⟩
              obtain ⟨b, o, rfl, hb, r1⟩ := (KsAt.kp H.out.ks KR.out (by simp)) k x hx
              have hv := HM.out.ks k x hx
              have cf := (rowAt?_cell r1).2 0 _ (Kd.get0 x)
              simp only [Addr.add_lit, Nat.add_zero] at cf
              clear hx r1
              by_cases hp : k < q
              · have hp' : (k : Int) < q := by omega
                have hp2 : ¬ (q : Int) ≤ (k : Int) := by omega
                have hp3 : ¬ q ≤ k := by omega
                rw [if_pos hp] at hv
                rw [hv] at cf
                clear hv
                go_wp2_with fail
                go_roundw
                case rel => exact ⟨k + 1, by go_num, by omega, by first | exact KR | (repeat first | exact KR | refine Lib.hid (Kp.drew ?_) | exact KR.out)⟩
                case measure => simp [intOf]; omega
              · have hp' : ¬ (k : Int) < q := by omega
                have hp2 : (q : Int) ≤ k := by omega
                have hp3 : q ≤ k := by omega
                rw [if_neg hp, ← hmk2.out] at hv
                rw [hv] at cf
                clear hv
                go_wp2_with fail
                go_roundw
                case rel => exact ⟨k + 1, by go_num, by omega, by first | exact KR | (repeat first | exact KR | refine Lib.hid (Kp.drew ?_) | exact KR.out)⟩
                case measure => simp [intOf]; omega
            · have KF := Lib.hid (KW.out.trans KR.out)
              go_wp2_with fail
              go_ret
              exact ⟨rfl, KF.out.to_ext⟩

end Go.Proofs.YtemicgccgcmmbaaGreat

/- apart: two answers share nothing. -/
namespace Go.Proofs.YtemicgccgcmmbaaGreat
set_option linter.unusedVariables false
set_option linter.unusedSimpArgs false
open Go Go.RowKit

def blks (pa sa ka : Option Addr) : List Nat := ab pa ++ ab sa ++ ab ka

theorem spoil_at (mark : UInt8) (v : Int) (hv : (mark.toNat : Int) = v) {lo : Nat} {pa sa ka : Option Addr} {pc sc kc lp ls lk : Nat} {n : Nd} {w : World} (h : Own3 w lo pa sa ka pc sc kc n) (hf : NdFew n) (e1 : n.pairs.length = lp) (e2 : n.seps.length = ls) (e3 : n.kids.length = lk) :
    Calls Tryz.prog 38 #[.agg #[.slice pa lp pc, .slice sa ls sc, .slice ka lk kc], .int .u32 v] w fun e w' =>
      e = .returned (.tuple #[]) ∧ Own3 w' lo pa sa ka pc sc kc (n.spoilt mark) ∧ Kp (blks pa sa ka) w w' := by
  subst hv e1 e2 e3
  have := spoil_any mark lo pa sa ka pc sc kc n Nd.none w (by rw [Nd.app_none]; exact h) hf
  refine this.mono ?_
  rintro e w' ⟨h1, h2, h3⟩
  rw [Nd.app_none] at h2
  exact ⟨h1, h2, h3⟩

theorem grown_at (mark : UInt8) (v : Int) (hv : (mark.toNat : Int) = v) {lo : Nat} {pa sa ka : Option Addr} {pc sc kc lp ls lk : Nat} {n : Nd} {w : World} (h : Own3 w lo pa sa ka pc sc kc n) (hl : lo ≤ w.heap.size) (hf : NdFew n) (e1 : n.pairs.length = lp) (e2 : n.seps.length = ls) (e3 : n.kids.length = lk) :
    Calls Tryz.prog 39 #[.agg #[.slice pa lp pc, .slice sa ls sc, .slice ka lk kc], .int .u32 v] w fun e w' =>
      ∃ qa ta la qc tc lc, e = .returned (.agg #[.slice qa (lp + 40) qc, .slice ta (ls + 40) tc, .slice la (lk + 40) lc]) ∧ Own3 w' lo qa ta la qc tc lc (n.app (Nd.ys mark 40)) ∧ NdAt w' pa sa ka n ∧ Kp (blks pa sa ka) w w' ∧
        ∀ g ∈ blks qa ta la, g ∈ blks pa sa ka ∨ w.heap.size ≤ g := by
  subst hv e1 e2 e3
  refine (grown_any mark lo pa sa ka pc sc kc n w h hl hf).mono ?_
  rintro e w' ⟨qa, ta, la, qc, tc, lc, he, ho, hn, hk, h1, h2, h3⟩
  refine ⟨qa, ta, la, qc, tc, lc, he, ho, hn, hk, fun g hg => ?_⟩
  simp only [blks, List.mem_append] at hg ⊢
  rcases hg with (hg | hg) | hg
  · rcases h1 g hg with h | h
    · exact .inl (.inl (.inl h))
    · exact .inr h
  · rcases h2 g hg with h | h
    · exact .inl (.inl (.inr h))
    · exact .inr h
  · rcases h3 g hg with h | h
    · exact .inl (.inr h)
    · exact .inr h

theorem marked_at (mark : UInt8) (v : Int) (hv : (mark.toNat : Int) = v) {pa sa ka : Option Addr} {pc sc kc lp ls lk p s q : Nat} {m : Nd} {w : World} (h : NdAt w pa sa ka m) (hm : MkN mark m p s q) (b1 : m.pairs.length ≤ 2000000) (b2 : m.seps.length ≤ 2000000) (b3 : m.kids.length ≤ 2000000) (b4 : p ≤ 2000000) (b5 : s ≤ 2000000) (b6 : q ≤ 2000000)
    (e1 : m.pairs.length = lp) (e2 : m.seps.length = ls) (e3 : m.kids.length = lk) :
    Calls Tryz.prog 40 #[.agg #[.slice pa lp pc, .slice sa ls sc, .slice ka lk kc], .int .i64 p, .int .i64 s, .int .i64 q, .int .u32 v] w (Rets (.bool true) w) := by
  subst hv e1 e2 e3
  exact marked_any mark pa sa ka pc sc kc p s q m w h hm b1 b2 b3 b4 b5 b6

theorem Own3.blt {w : World} {lo : Nat} {pa sa ka : Option Addr} {pc sc kc : Nat} {n : Nd} (h : Own3 w lo pa sa ka pc sc kc n) : ∀ g ∈ blks pa sa ka, g < w.heap.size := fun g hg => by
  simp only [blks, List.mem_append] at hg
  rcases hg with (hg | hg) | hg
  · exact h.ps.lt g hg
  · exact h.ss.lt g hg
  · exact h.ks.lt g hg

set_option maxHeartbeats 4000000 in
set_option maxRecDepth 100000 in
theorem apart_any (lo1 lo2 : Nat) (pa sa ka qa ta la : Option Addr) (pc sc kc qc tc lc : Nat) (n m : Nd) (w : World) (h : Own3 w lo1 pa sa ka pc sc kc n) (k : Own3 w lo2 qa ta la qc tc lc m) (hd : ∀ g ∈ blks pa sa ka, g ∉ blks qa ta la) (hl1 : lo1 ≤ w.heap.size) (hl2 : lo2 ≤ w.heap.size) (hf : NdFew n) (kf : NdFew m) :
    Calls Tryz.prog 11 #[.agg #[.slice pa n.pairs.length pc, .slice sa n.seps.length sc, .slice ka n.kids.length kc], .agg #[.slice qa m.pairs.length qc, .slice ta m.seps.length tc, .slice la m.kids.length lc]] w fun e w' =>
      e = .returned (.bool true) ∧ Kp (blks pa sa ka ++ blks qa ta la) w w' := by
  have fp := hf.np; have fs := hf.ns; have fk := hf.nk
  have gp := kf.np; have gs := kf.ns; have gk := kf.nk
  have hA := h.blt; have hB := k.blt
  obtain ⟨W0, hW0⟩ : ∃ W0, W0 = (w.alloc (.cells #[.slice pa n.pairs.length pc, .slice sa n.seps.length sc, .slice ka n.kids.length kc] 28)).alloc (.cells #[.slice qa m.pairs.length qc, .slice ta m.seps.length tc, .slice la m.kids.length lc] 28) := ⟨_, rfl⟩
  have kw : Kp [] w W0 := by rw [hW0]; exact ((Kp.refl [] w).alloc _).alloc _
  have b0 : Blk W0 w.heap.size 28 #[.slice pa n.pairs.length pc, .slice sa n.seps.length sc, .slice ka n.kids.length kc] := by rw [hW0]; exact (Blk.new w _ _).alloc _
  have b1 : Blk W0 (w.heap.size + 1) 28 #[.slice qa m.pairs.length qc, .slice ta m.seps.length tc, .slice la m.kids.length lc] := by
    rw [hW0]
    have h := Blk.new (w.alloc (.cells #[.slice pa n.pairs.length pc, .slice sa n.seps.length sc, .slice ka n.kids.length kc] 28)) 28 #[.slice qa m.pairs.length qc, .slice ta m.seps.length tc, .slice la m.kids.length lc]
    simpa using h
  have nA0 : w.heap.size ∉ blks pa sa ka := fun e => by have := hA _ e; omega
  have nA1 : w.heap.size + 1 ∉ blks pa sa ka := fun e => by have := hA _ e; omega
  have nB0 : w.heap.size ∉ blks qa ta la := fun e => by have := hB _ e; omega
  have nB1 : w.heap.size + 1 ∉ blks qa ta la := fun e => by have := hB _ e; omega
  have hz0 : w.heap.size + 1 < W0.heap.size := b1.lt
  have KW := Lib.hid kw; have B0 := Lib.hid b0; have B1 := Lib.hid b1; have HD := Lib.hid hd; have HA := Lib.hid hA; have HB := Lib.hid hB
  have OA := Lib.hid (h.kp kw (by simp)); have OB := Lib.hid (k.kp kw (by simp))
  have NA0 := Lib.hid nA0; have NA1 := Lib.hid nA1; have NB0 := Lib.hid nB0; have NB1 := Lib.hid nB1
  have HF := Lib.hid hf; have KF := Lib.hid kf
  have HW0 := Lib.hid hW0
  clear h k hd kw b0 b1 hA hB nA0 nA1 nB0 nB1 hf kf hW0
  go_enter Tryz.func11, Tryz.ntmps11
  go_wp2_with fail
  rw [← HW0.out]
  refine (spoil_at 1 1 rfl OA.out HF.out rfl rfl rfl).mono ?_
  rintro e w1 ⟨rfl, oA, k1⟩
  have K1 := Lib.hid k1; have OA1 := Lib.hid oA
  have OB1 := Lib.hid (OB.out.kp k1 (fun g hg e => HD.out g e hg))
  have B01 := Lib.hid (B0.out.kp k1 NA0.out); have B11 := Lib.hid (B1.out.kp k1 NA1.out)
  obtain ⟨c1, c2, c3, -, -, -, g1⟩ := LtI.facts B01.out
  obtain ⟨d1, d2, d3, -, -, -, g2⟩ := LtI.facts B11.out
  have z1 := k1.size
  clear oA k1
  go_wp2_with fail
  refine (spoil_at 2 2 rfl OB1.out KF.out rfl rfl rfl).mono ?_
  rintro e w2 ⟨rfl, oB, k2⟩
  have K2 := Lib.hid k2; have OB2 := Lib.hid oB
  have OA2 := Lib.hid (OA1.out.kp k2 HD.out)
  have B02 := Lib.hid (B01.out.kp k2 NB0.out); have B12 := Lib.hid (B11.out.kp k2 NB1.out)
  clear c1 c2 c3 d1 d2 d3 g1 g2
  obtain ⟨c1, c2, c3, -, -, -, g1⟩ := LtI.facts B02.out
  obtain ⟨d1, d2, d3, -, -, -, g2⟩ := LtI.facts B12.out
  have z2 := k2.size
  have FA : Hid (NdFew (n.spoilt 1)) := Lib.hid ⟨by simpa [Nd.spoilt] using fp, by simpa [Nd.spoilt] using fs, by simpa [Nd.spoilt] using fk⟩
  have FB : Hid (NdFew (m.spoilt 2)) := Lib.hid ⟨by simpa [Nd.spoilt] using gp, by simpa [Nd.spoilt] using gs, by simpa [Nd.spoilt] using gk⟩
  clear oB k2
  go_wp2_with fail
  refine (grown_at 1 1 rfl OA2.out (by omega) FA.out (by simp [Nd.spoilt]) (by simp [Nd.spoilt]) (by simp [Nd.spoilt])).mono ?_
  rintro e w3 ⟨xa, xb, xc, ya, yb, yc, rfl, oX, nA, k3, hX⟩
  have K3 := Lib.hid k3
  have OX := Lib.hid (oX.kp ((Kp.refl [] w3).alloc (.cells #[.slice xa (n.pairs.length + 40) ya, .slice xb (n.seps.length + 40) yb, .slice xc (n.kids.length + 40) yc] 28)) (by simp))
  have NA3 := Lib.hid (nA.kp0 ((Kp.refl [] w3).alloc (.cells #[.slice xa (n.pairs.length + 40) ya, .slice xb (n.seps.length + 40) yb, .slice xc (n.kids.length + 40) yc] 28)))
  have OB3 := Lib.hid ((OB2.out.kp k3 (fun g hg e => HD.out g e hg)).kp ((Kp.refl [] w3).alloc (.cells #[.slice xa (n.pairs.length + 40) ya, .slice xb (n.seps.length + 40) yb, .slice xc (n.kids.length + 40) yc] 28)) (by simp))
  have B03 := Lib.hid (B02.out.kp k3 NA0.out); have B13 := Lib.hid (B12.out.kp k3 NA1.out)
  have HX := Lib.hid hX
  clear c1 c2 c3 d1 d2 d3 g1 g2
  obtain ⟨c1, c2, c3, -, -, -, g1⟩ := LtI.facts B03.out
  obtain ⟨d1, d2, d3, -, -, -, g2⟩ := LtI.facts B13.out
  have z3 := k3.size
  clear oX nA k3 hX
  go_wp2_with fail
  refine (grown_at 2 2 rfl OB3.out (by simp; omega) FB.out (by simp [Nd.spoilt]) (by simp [Nd.spoilt]) (by simp [Nd.spoilt])).mono ?_
  rintro e w4 ⟨ua, ub, uc, va, vb, vc, rfl, oY, nB, k4, hY⟩
  have K4 := Lib.hid k4
  have z4 := k4.size
  have z3' : (w3.alloc (.cells #[.slice xa (n.pairs.length + 40) ya, .slice xb (n.seps.length + 40) yb, .slice xc (n.kids.length + 40) yc] 28)).heap.size = w3.heap.size + 1 := by simp
  have nx : ∀ g ∈ blks xa xb xc, g ∉ blks qa ta la := fun g hg e => by
    rcases HX.out g hg with h1 | h1
    · exact HD.out g h1 e
    · have := HB.out g e; have := K1.out.size; omega
  have nX5 : w3.heap.size ∉ blks qa ta la := fun e => by have := HB.out _ e; have := K1.out.size; omega
  have OX4 := Lib.hid ((OX.out.kp k4 nx).kp ((Kp.refl [] w4).alloc (.cells #[.slice ua (m.pairs.length + 40) va, .slice ub (m.seps.length + 40) vb, .slice uc (m.kids.length + 40) vc] 28)) (by simp))
  have OY4 := Lib.hid (oY.kp ((Kp.refl [] w4).alloc (.cells #[.slice ua (m.pairs.length + 40) va, .slice ub (m.seps.length + 40) vb, .slice uc (m.kids.length + 40) vc] 28)) (by simp))
  have hdA : ∀ a, a = pa ∨ a = sa ∨ a = ka → ∀ g ∈ ab a, g ∉ blks qa ta la := fun a ha g hg => HD.out g (by simp only [blks, List.mem_append]; rcases ha with rfl | rfl | rfl <;> simp [hg])
  have NA4 := Lib.hid ((NA3.out.kp k4 (hdA pa (.inl rfl)) (hdA sa (.inr (.inl rfl))) (hdA ka (.inr (.inr rfl)))).kp0 ((Kp.refl [] w4).alloc (.cells #[.slice ua (m.pairs.length + 40) va, .slice ub (m.seps.length + 40) vb, .slice uc (m.kids.length + 40) vc] 28)))
  have NB4 := Lib.hid (nB.kp0 ((Kp.refl [] w4).alloc (.cells #[.slice ua (m.pairs.length + 40) va, .slice ub (m.seps.length + 40) vb, .slice uc (m.kids.length + 40) vc] 28)))
  have B04 := Lib.hid ((B03.out.alloc (.cells #[.slice xa (n.pairs.length + 40) ya, .slice xb (n.seps.length + 40) yb, .slice xc (n.kids.length + 40) yc] 28)).kp k4 NB0.out); have B14 := Lib.hid ((B13.out.alloc (.cells #[.slice xa (n.pairs.length + 40) ya, .slice xb (n.seps.length + 40) yb, .slice xc (n.kids.length + 40) yc] 28)).kp k4 NB1.out)
  have B54 := Lib.hid ((Blk.new w3 28 #[.slice xa (n.pairs.length + 40) ya, .slice xb (n.seps.length + 40) yb, .slice xc (n.kids.length + 40) yc]).kp k4 nX5)
  clear c1 c2 c3 d1 d2 d3 g1 g2
  obtain ⟨c1, c2, c3, -, -, -, g1⟩ := LtI.facts B04.out
  obtain ⟨d1, d2, d3, -, -, -, g2⟩ := LtI.facts B14.out
  obtain ⟨f1, f2, f3, -, -, -, g3⟩ := LtI.facts B54.out
  have M1 := Lib.hid (MkN.of 1 n 40); have M2 := Lib.hid (MkN.of 2 m 40)
  have ys0 : ∀ (mark : UInt8) (x : Nd), x.app (Nd.ys mark 0) = x := fun mark x => by simp [Nd.app, Nd.ys]
  have M3 := Lib.hid (show MkN 1 (n.spoilt 1) n.pairs.length n.seps.length n.kids.length by have := MkN.of 1 n 0; rwa [ys0] at this)
  have M4 := Lib.hid (show MkN 2 (m.spoilt 2) m.pairs.length m.seps.length m.kids.length by have := MkN.of 2 m 0; rwa [ys0] at this)
  clear oY nB k4 nx nX5 hdA ys0 hY
  go_wp2_with fail
  refine (marked_at 1 1 rfl OX4.out.at M1.out (by simp [Nd.app, Nd.ys, Nd.spoilt]; omega) (by simp [Nd.app, Nd.ys, Nd.spoilt]; omega) (by simp [Nd.app, Nd.ys, Nd.spoilt]; omega) (by omega) (by omega) (by omega) (by simp [Nd.app, Nd.ys, Nd.spoilt]) (by simp [Nd.app, Nd.ys, Nd.spoilt]) (by simp [Nd.app, Nd.ys, Nd.spoilt])).mono ?_
  rintro e w' ⟨rfl, bs1, m1, rfl⟩
  go_wp2_with fail
  refine (marked_at 2 2 rfl (OY4.out.at.kp0 ((Kp.refl [] _).ext _ _)) M2.out (by simp [Nd.app, Nd.ys, Nd.spoilt]; omega) (by simp [Nd.app, Nd.ys, Nd.spoilt]; omega) (by simp [Nd.app, Nd.ys, Nd.spoilt]; omega) (by omega) (by omega) (by omega) (by simp [Nd.app, Nd.ys, Nd.spoilt]) (by simp [Nd.app, Nd.ys, Nd.spoilt]) (by simp [Nd.app, Nd.ys, Nd.spoilt])).mono ?_
  rintro e w' ⟨rfl, bs2, m2, rfl⟩
  go_wp2_with fail
  refine (marked_at 1 1 rfl (NA4.out.kp0 ((Kp.refl [] _).ext _ _)) M3.out (by simp [Nd.spoilt]; omega) (by simp [Nd.spoilt]; omega) (by simp [Nd.spoilt]; omega) (by omega) (by omega) (by omega) (by simp [Nd.spoilt]) (by simp [Nd.spoilt]) (by simp [Nd.spoilt])).mono ?_
  rintro e w' ⟨rfl, bs3, m3, rfl⟩
  go_wp2_with fail
  refine (marked_at 2 2 rfl (NB4.out.kp0 ((Kp.refl [] _).ext _ _)) M4.out (by simp [Nd.spoilt]; omega) (by simp [Nd.spoilt]; omega) (by simp [Nd.spoilt]; omega) (by omega) (by omega) (by omega) (by simp [Nd.spoilt]) (by simp [Nd.spoilt]) (by simp [Nd.spoilt])).mono ?_
  rintro e w' ⟨rfl, bs4, m4, rfl⟩
  go_wp2_with fail
  go_ret
  refine ⟨rfl, ?_⟩
  have kk : Kp (blks pa sa ka ++ blks qa ta la) w w4 := ((((KW.out.of_nil).trans (K1.out.mono (fun _ _ h => by simp [h]))).trans (K2.out.mono (fun _ _ h => by simp [h]))).trans (K3.out.mono (fun _ _ h => by simp [h]))).trans (((Kp.refl _ w3).alloc _).trans (K4.out.mono (fun _ _ h => by simp [h])))
  exact (kk.alloc _).ext _ _

end Go.Proofs.YtemicgccgcmmbaaGreat
