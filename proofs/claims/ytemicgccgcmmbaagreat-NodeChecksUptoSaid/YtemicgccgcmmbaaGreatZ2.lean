/- The writer's methods: what they lay, and which memory they touch. -/
import Derived.Test.YtemicgccgcmmbaaGreatZ1
import Derived.Test.YtemicgccgcmmbaaGreatZ0
import Derived.Great.BuildSlice
import Derived.Laws.Cover3
namespace Go.Proofs.YtemicgccgcmmbaaGreat
set_option linter.unusedVariables false
set_option linter.unusedSimpArgs false
open Go Go.RowKit

/-- A writer at wb, its bytes out in the owned slice at a. -/
structure Wr (w : World) (wb : Nat) (a : Option Addr) (c : Nat) (out : Bs) : Prop where
  blk : Blk w wb 133 #[.bool true, .slice a out.length c]
  own : Own w 5 1 a out.length c (bC out)
  ne : wb ∉ ab a

/-- What a writer's method may touch. -/
structure WK (wb : Nat) (a : Option Addr) (w : World) (a' : Option Addr) (w' : World) : Prop where
  kp : Kp (wb :: ab a) w w'
  new : ∀ g ∈ ab a', g ∈ ab a ∨ w.heap.size ≤ g

theorem WK.refl (wb : Nat) (a : Option Addr) (w : World) : WK wb a w a w := ⟨Kp.refl _ _, fun _ h => .inl h⟩
theorem WK.trans {wb : Nat} {a a1 a2 : Option Addr} {w w1 w2 : World} (h : WK wb a w a1 w1) (k : WK wb a1 w1 a2 w2) : WK wb a w a2 w2 :=
  ⟨h.kp.from k.kp (fun x hx => by
    rcases List.mem_cons.1 hx with rfl | hx
    · exact .inr (by simp)
    · rcases h.new x hx with h1 | h1
      · exact .inr (by simp [h1])
      · exact .inl h1),
   fun g hg => by
    rcases k.new g hg with h1 | h1
    · exact h.new g h1
    · exact .inr (Nat.le_trans h.kp.size h1)⟩
theorem WK.pre {wb : Nat} {a a2 : Option Addr} {w w1 w2 : World} (h : Kp [] w w1) (k : WK wb a w1 a2 w2) : WK wb a w a2 w2 :=
  (WK.trans ⟨h.of_nil, fun _ h => .inl h⟩ k)
theorem WK.post {wb : Nat} {a a2 : Option Addr} {w w1 w2 : World} (k : WK wb a w a2 w1) (h : Kp [] w1 w2) : WK wb a w a2 w2 :=
  k.trans ⟨h.of_nil, fun _ h => .inl h⟩
theorem Wr.kp {S : List Nat} {w w' : World} {wb c : Nat} {a : Option Addr} {out : Bs} (h : Wr w wb a c out) (k : Kp S w w') (h1 : wb ∉ S) (h2 : ∀ g ∈ ab a, g ∉ S) : Wr w' wb a c out :=
  ⟨h.blk.kp k h1, h.own.kp k h2, h.ne⟩
theorem Wr.kp0 {w w' : World} {wb c : Nat} {a : Option Addr} {out : Bs} (h : Wr w wb a c out) (k : Kp [] w w') : Wr w' wb a c out := h.kp k (by simp) (by simp)
theorem Wr.cells {w : World} {wb c : Nat} {a : Option Addr} {out : Bs} (h : Wr w wb a c out) : w.cell? ⟨wb, 0, none⟩ = some (.bool true) ∧ w.cell? ⟨wb, 1, none⟩ = some (.slice a out.length c) ∧ w.frozen? ⟨wb, 1, none⟩ = false ∧ wb < w.heap.size :=
  ⟨h.blk.cell 0, h.blk.cell 1, h.blk.frozen 1, h.blk.lt⟩
/-- A block that is neither the writer's nor its bytes'. -/
theorem WK.blk {wb : Nat} {a a' : Option Addr} {w w' : World} (k : WK wb a w a' w') {g : Nat} {o : Obj} (h : w.heap[g]? = some o) (h1 : g ≠ wb) (h2 : g ∉ ab a) : w'.heap[g]? = some o :=
  k.kp.blk h (by simp [h1, h2])

/-- Behind an append: the new slice is put into the writer. -/
theorem Wr.put {w w1 : World} {wb c c' : Nat} {a a' : Option Addr} {out t : Bs} (h : Wr w wb a c out) (hown : Own w1 5 1 a' (out.length + t.length) c' (bC out ++ bC t)) (hk : Kp (ab a) w w1) (hn : ∀ g ∈ ab a', g ∈ ab a ∨ w.heap.size ≤ g) :
    Wr (w1.setCell ⟨wb, 1, none⟩ (.slice a' (out.length + t.length) c')) wb a' c' (out ++ t) ∧ WK wb a w a' (w1.setCell ⟨wb, 1, none⟩ (.slice a' (out.length + t.length) c')) := by
  have hb := h.blk.kp hk h.ne
  have hne : wb ∉ ab a' := fun e => by
    rcases hn _ e with h1 | h1
    · exact h.ne h1
    · have := h.blk.lt; omega
  refine ⟨⟨?_, ?_, hne⟩, ⟨(hk.mono (fun k _ hk => by simp [hk])).setCell _ (.inr (by simp)), hn⟩⟩
  · have := hb.set 1 (.slice a' (out.length + t.length) c')
    simpa using this
  · rw [bC_app, List.length_append]
    exact hown.kp ((Kp.refl [wb] _).setCell _ (.inr (by simp))) (fun g hg => by simp; rintro rfl; exact hne hg)

def WrPost (w : World) (wb : Nat) (a : Option Addr) (out : Bs) (e : Ending) (w' : World) : Prop :=
  e = .returned (.tuple #[]) ∧ ∃ a' c', Wr w' wb a' c' out ∧ WK wb a w a' w'

set_option maxHeartbeats 400000 in
theorem wr_new (w : World) : Calls Tryz.prog 83 #[] w fun e w' => e = .returned (.pointer (some ⟨w.heap.size, 0, none⟩)) ∧ w' = w.alloc (.cells #[.bool true, .slice none 0 0] 133) := by
  go_enter Tryz.func83, Tryz.ntmps83
  go_wp2
  go_ret
  exact ⟨rfl, rfl⟩

theorem wr_made (w : World) : Wr (w.alloc (.cells #[.bool true, .slice none 0 0] 133)) w.heap.size none 0 [] :=
  ⟨Blk.new w _ _, Own.nil _ _ _, by simp [ab]⟩

/-- The bytes of a free number. -/
def freeB (n : Nat) : Bs := if h : n < 128 then [n.toUInt8] else (n % 128 + 128).toUInt8 :: freeB (n / 128)
termination_by n
decreasing_by omega

theorem freeB_len : ∀ (k n : Nat), n < 128 ^ k → 0 < k → (freeB n).length ≤ k
  | 0, n, _, h => absurd h (by omega)
  | k + 1, n, h, _ => by
    rw [freeB]
    split
    · simp
    · by_cases hk : k = 0
      · subst hk; simp at h; omega
      · have : n / 128 < 128 ^ k := by
          rw [Nat.pow_succ] at h
          exact Nat.div_lt_of_lt_mul (by omega)
        have := freeB_len k (n / 128) this (by omega)
        simp; omega
theorem freeB_len64 (n : Nat) (h : n < 18446744073709551616) : (freeB n).length ≤ 10 := freeB_len 10 n (by omega) (by omega)
theorem freeB_small {n : Nat} (h : n < 128) : freeB n = [n.toUInt8] := by rw [freeB]; simp [h]
theorem freeB_big {n : Nat} (h : ¬ n < 128) : freeB n = (n % 128 + 128).toUInt8 :: freeB (n / 128) := by rw [freeB]; simp [h]

set_option maxRecDepth 100000 in
theorem or128 : ∀ x, x < 256 → x ||| 128 = x % 128 + 128 := by decide
theorem u8_or128' (x : Int) (h0 : 0 ≤ x) (h1 : x < 256) : bits .or .u8 x 128 = x % 128 + 128 := by
  rw [u8_or x 128 h0 h1 (by omega) (by omega)]
  have := or128 x.toNat (by omega)
  simp only [Int.reduceToNat]
  rw [this]; omega
theorem bC_byte (n : Nat) (h : n < 256) : bC [n.toUInt8] = [.int .u8 (n : Int)] := by
  simp [bC]; omega
theorem cell_byte (n : Nat) (h : n < 256) : Value.int .u8 (n : Int) = .int .u8 ((n.toUInt8).toNat : Int) := by
  rw [show (n.toUInt8).toNat = n by simp; omega]

/-- The writer's own cells behind the append. -/
theorem Wr.later {w wa w1 : World} {wb c : Nat} {a : Option Addr} {out : Bs} (h : Wr w wb a c out) (k0 : Kp [] w wa) (hk : Kp (ab a) wa w1) :
    w1.cell? ⟨wb, 0, none⟩ = some (.bool true) ∧ w1.cell? ⟨wb, 1, none⟩ = some (.slice a out.length c) ∧ w1.frozen? ⟨wb, 1, none⟩ = false ∧ wb < w1.heap.size :=
  let b := (h.blk.kp k0 (by simp)).kp hk h.ne
  ⟨b.cell 0, b.cell 1, b.frozen 1, b.lt⟩
theorem Wr.put' {w wa w1 : World} {wb c c' : Nat} {a a' : Option Addr} {out t : Bs} (h : Wr w wb a c out) (k0 : Kp [] w wa) (hown : Own w1 5 1 a' (out.length + t.length) c' (bC out ++ bC t)) (hk : Kp (ab a) wa w1) (hn : ∀ g ∈ ab a', g ∈ ab a ∨ wa.heap.size ≤ g) :
    Wr (w1.setCell ⟨wb, 1, none⟩ (.slice a' (out.length + t.length) c')) wb a' c' (out ++ t) ∧ WK wb a w a' (w1.setCell ⟨wb, 1, none⟩ (.slice a' (out.length + t.length) c')) :=
  let ⟨h1, h2⟩ := (h.kp0 k0).put hown hk hn
  ⟨h1, h2.pre k0⟩
theorem src_one {w : World} {v : Value} (h : v.oneCell' = true) (t : TypeId) : Src Tryz.prog 1 66 (.slice (some ⟨w.heap.size, 0, none⟩) 1 1) 1 [v] (w.alloc (.cells #[v] t)) :=
  Src.ofSlice _ Tryz.underlying66 _ _ _ _ rfl (by
    intro j u hj
    match j, hj with
    | 0, hj => simp at hj; subst hj; simp [Addr.add]
    | j + 1, hj => simp at hj) (by intro u hu; simp at hu; subst hu; exact h)

set_option maxHeartbeats 1000000 in
set_option maxRecDepth 100000 in
theorem wr_free (wb n c : Nat) (a : Option Addr) (out : Bs) (w : World) (h : Wr w wb a c out) (hn : n < 18446744073709551616) (ho : out.length ≤ 70368744177664) :
    Calls Tryz.prog 121 #[.pointer (some ⟨wb, 0, none⟩), .int .u64 n] w (WrPost w wb a (out ++ freeB n)) := by
  obtain ⟨c0, c1, f1, hlt⟩ := h.cells
  have H := Lib.hid h; clear h
  have hl := freeB_len64 n hn
  have HL := Lib.hid hl; clear hl
  go_enter Tryz.func121, Tryz.ntmps121
  go_wp2
  clear c0 c1 f1 hlt
  go_loopw [1] (fun x wr => ∃ (m c' : Nat) (a' : Option Addr) (pre : Bs), x = .int .u64 m ∧ m ≤ n ∧ Hid (out ++ freeB n = pre ++ freeB m) ∧ Wr wr wb a' c' pre ∧ WK wb a w a' wr) (fun x _ => (intOf x).toNat)
  case atStart => exact ⟨n, c, a, out, rfl, Nat.le_refl _, rfl, H.out, WK.refl _ _ _⟩
  case round =>
    obtain ⟨m, c', a', pre, rfl, hmn, HE, hw, hk⟩ := hrel
    obtain ⟨c0, c1, f1, hlt⟩ := hw.cells
    have hlen : pre.length + (freeB m).length = out.length + (freeB n).length := by have := congrArg List.length HE.out; simpa using this.symm
    have hpre : pre.length ≤ 70368744177700 := by have := HL.out; omega
    clear hlen
    have HW := Lib.hid hw; clear hw
    have HK := Lib.hid hk; clear hk
    by_cases hs : m < 128
    · go_wp2_with (at_builtin; refine wpList_app_u8 rfl rfl rfl (HW.out.own.kp ((Kp.refl [] _).alloc _) (by simp)) 1 _ (src_one rfl _) (by omega) ?_; intro a2 c2 w1 hown hk2 hnew; have ho2 := Lib.hid hown; have hk2' := Lib.hid hk2; have hn2 := Lib.hid hnew; obtain ⟨d0, d1, d2, d3⟩ := HW.out.later ((Kp.refl [] _).alloc _) hk2; clear hown hk2 hnew)
      obtain ⟨p1, p2⟩ := HW.out.put' (t := [m.toUInt8]) ((Kp.refl [] _).alloc _) (by rw [bC_byte m (by omega)]; exact ho2.out) hk2'.out hn2.out
      go_end0
      exact ⟨rfl, a2, c2, by rw [HE.out, freeB_small hs]; exact p1, HK.out.trans p2⟩
    · have hv : bits .or .u8 ((m : Int) % 256) 128 = ((m % 128 + 128 : Nat) : Int) := by rw [u8_or128' _ (by omega) (by omega)]; omega
      go_wp2_with (at_builtin; refine wpList_app_u8 rfl rfl rfl (HW.out.own.kp ((Kp.refl [] _).alloc _) (by simp)) 1 _ (src_one rfl _) (by omega) ?_; intro a2 c2 w1 hown hk2 hnew; have ho2 := Lib.hid hown; have hk2' := Lib.hid hk2; have hn2 := Lib.hid hnew; obtain ⟨d0, d1, d2, d3⟩ := HW.out.later ((Kp.refl [] _).alloc _) hk2; clear hown hk2 hnew)
      obtain ⟨p1, p2⟩ := HW.out.put' (t := [(m % 128 + 128).toUInt8]) ((Kp.refl [] _).alloc _) (by rw [bC_byte _ (by omega)]; exact ho2.out) hk2'.out hn2.out
      go_roundw
      case rel => exact ⟨m / 128, c2, a2, pre ++ [(m % 128 + 128).toUInt8], by go_num, by omega, by show _ = _; rw [HE.out, freeB_big hs]; simp, p1, HK.out.trans p2⟩
      case measure => simp [intOf]; omega

end Go.Proofs.YtemicgccgcmmbaaGreat

/- The writer's further methods. -/
namespace Go.Proofs.YtemicgccgcmmbaaGreat
set_option linter.unusedVariables false
set_option linter.unusedSimpArgs false
open Go Go.RowKit

/-- A fixed number's bytes, the great ones first. -/
def fixB : Nat → Nat → Bs
  | 0, _ => []
  | k + 1, n => (n / 256 ^ k % 256).toUInt8 :: fixB k n
theorem fixB_len : ∀ k n, (fixB k n).length = k
  | 0, _ => rfl
  | k + 1, n => by simp [fixB, fixB_len k n]
theorem fixB_take : ∀ (k n j : Nat), j < k → (fixB k n).take (k - j) = (fixB k n).take (k - (j + 1)) ++ [(n / 256 ^ j % 256).toUInt8]
  | 0, _, _, h => absurd h (by omega)
  | k + 1, n, j, h => by
    by_cases hj : j = k
    · subst hj; simp [fixB]
    · have ih := fixB_take k n j (by omega)
      rw [show k + 1 - j = (k - j) + 1 by omega, show k + 1 - (j + 1) = (k - (j + 1)) + 1 by omega]
      simp only [fixB, List.take_succ_cons, ih, List.cons_append]

theorem own_cast {w : World} {e : TypeId} {a : Option Addr} {n c : Nat} {xs : List Value} {x y : Int} (h : x = y) (o : Own w e 1 a n c (xs ++ [.int .u8 y])) : Own w e 1 a n c (xs ++ [.int .u8 x]) := by rw [h]; exact o

set_option maxHeartbeats 1000000 in
set_option maxRecDepth 100000 in
theorem wr_put_uint8 (wb n c : Nat) (a : Option Addr) (out : Bs) (w : World) (h : Wr w wb a c out) (hn : n < 256) (ho : out.length ≤ 70368744177664) :
    Calls Tryz.prog 84 #[.pointer (some ⟨wb, 0, none⟩), .int .u8 n] w (WrPost w wb a (out ++ fixB 1 n)) := by
  obtain ⟨c0, c1, f1, hlt⟩ := h.cells
  have H := Lib.hid h; clear h
  go_enter Tryz.func84, Tryz.ntmps84
  go_wp2_with (go_at_call 106; refine (width_uint8 _).mono ?_; rintro e w' ⟨rfl, rfl⟩)
  clear c0 c1 f1 hlt
  go_loopw [4] (fun i wr => ∃ (k : Int) (c' : Nat) (a' : Option Addr) (pre : Bs), i = .int .i64 k ∧ -1 ≤ k ∧ k ≤ 0 ∧ Hid (pre = out ++ (fixB 1 n).take (0 - k).toNat) ∧ Wr wr wb a' c' pre ∧ WK wb a w a' wr) (fun i _ => (intOf i + 1).toNat)
  case atStart => exact ⟨0, c, a, out, rfl, by omega, by omega, by show _ = _; simp, H.out, WK.refl _ _ _⟩
  case round =>
    obtain ⟨k, c', a', pre, rfl, hk3, hk4, HP, hw, hk⟩ := hrel
    obtain ⟨c0, c1, f1, hlt⟩ := hw.cells
    have hpre : pre.length ≤ 70368744177700 := by rw [HP.out]; simp [fixB_len]; omega
    have HW := Lib.hid hw; clear hw
    have HK := Lib.hid hk; clear hk
    rcases (show k = -1 ∨ k = 0 by omega) with rfl | rfl
    · have HQ : Hid (out ++ fixB 1 n = pre) := by show _ = _; rw [HP.out]; exact congrArg _ (List.take_of_length_le (by rw [fixB_len]; omega)).symm
      go_wp2
      go_end0
      exact ⟨rfl, a', c', by rw [HQ.out]; exact HW.out, HK.out⟩
    · go_wp2_with (at_builtin; refine wpList_app_u8 rfl rfl rfl (HW.out.own.kp ((Kp.refl [] _).alloc _) (by simp)) 1 _ (src_one rfl _) (by omega) ?_; intro a2 c2 w1 hown hk2 hnew; have ho2 := Lib.hid hown; have hk2' := Lib.hid hk2; have hn2 := Lib.hid hnew; obtain ⟨d0, d1, d2, d3⟩ := HW.out.later ((Kp.refl [] _).alloc _) hk2; clear hown hk2 hnew)
      obtain ⟨p1, p2⟩ := HW.out.put' (t := [(n / 256 ^ 0 % 256).toUInt8]) ((Kp.refl [] _).alloc _) (by rw [bC_byte _ (Nat.mod_lt _ (by omega))]; exact own_cast (by omega) ho2.out) hk2'.out hn2.out
      go_roundw
      case rel => exact ⟨-1, c2, a2, pre ++ [(n / 256 ^ 0 % 256).toUInt8], rfl, by omega, by omega, by show _ = _; rw [HP.out]; have := fixB_take 1 n 0 (by omega); simp only [Nat.reduceSub, Nat.reduceAdd] at this; simp only [Int.reduceSub, Int.reduceNeg, Int.reduceToNat, this, List.append_assoc], p1, HK.out.trans p2⟩
      case measure => simp [intOf]

set_option maxHeartbeats 1000000 in
set_option maxRecDepth 100000 in
theorem wr_put_uint32 (wb n c : Nat) (a : Option Addr) (out : Bs) (w : World) (h : Wr w wb a c out) (hn : n < 4294967296) (ho : out.length ≤ 70368744177664) :
    Calls Tryz.prog 91 #[.pointer (some ⟨wb, 0, none⟩), .int .u32 n] w (WrPost w wb a (out ++ fixB 4 n)) := by
  obtain ⟨c0, c1, f1, hlt⟩ := h.cells
  have H := Lib.hid h; clear h
  go_enter Tryz.func91, Tryz.ntmps91
  go_wp2_with (go_at_call 111; refine (width_uint32 _).mono ?_; rintro e w' ⟨rfl, rfl⟩)
  clear c0 c1 f1 hlt
  go_loopw [4] (fun i wr => ∃ (k : Int) (c' : Nat) (a' : Option Addr) (pre : Bs), i = .int .i64 k ∧ -1 ≤ k ∧ k ≤ 3 ∧ Hid (pre = out ++ (fixB 4 n).take (3 - k).toNat) ∧ Wr wr wb a' c' pre ∧ WK wb a w a' wr) (fun i _ => (intOf i + 1).toNat)
  case atStart => exact ⟨3, c, a, out, rfl, by omega, by omega, by show _ = _; simp, H.out, WK.refl _ _ _⟩
  case round =>
    obtain ⟨k, c', a', pre, rfl, hk3, hk4, HP, hw, hk⟩ := hrel
    obtain ⟨c0, c1, f1, hlt⟩ := hw.cells
    have hpre : pre.length ≤ 70368744177700 := by rw [HP.out]; simp [fixB_len]; omega
    have HW := Lib.hid hw; clear hw
    have HK := Lib.hid hk; clear hk
    rcases (show k = -1 ∨ k = 0 ∨ k = 1 ∨ k = 2 ∨ k = 3 by omega) with rfl | rfl | rfl | rfl | rfl
    · have HQ : Hid (out ++ fixB 4 n = pre) := by show _ = _; rw [HP.out]; exact congrArg _ (List.take_of_length_le (by rw [fixB_len]; omega)).symm
      go_wp2
      go_end0
      exact ⟨rfl, a', c', by rw [HQ.out]; exact HW.out, HK.out⟩
    · go_wp2_with (at_builtin; refine wpList_app_u8 rfl rfl rfl (HW.out.own.kp ((Kp.refl [] _).alloc _) (by simp)) 1 _ (src_one rfl _) (by omega) ?_; intro a2 c2 w1 hown hk2 hnew; have ho2 := Lib.hid hown; have hk2' := Lib.hid hk2; have hn2 := Lib.hid hnew; obtain ⟨d0, d1, d2, d3⟩ := HW.out.later ((Kp.refl [] _).alloc _) hk2; clear hown hk2 hnew)
      obtain ⟨p1, p2⟩ := HW.out.put' (t := [(n / 256 ^ 0 % 256).toUInt8]) ((Kp.refl [] _).alloc _) (by rw [bC_byte _ (Nat.mod_lt _ (by omega))]; exact own_cast (by omega) ho2.out) hk2'.out hn2.out
      go_roundw
      case rel => exact ⟨-1, c2, a2, pre ++ [(n / 256 ^ 0 % 256).toUInt8], rfl, by omega, by omega, by show _ = _; rw [HP.out]; have := fixB_take 4 n 0 (by omega); simp only [Nat.reduceSub, Nat.reduceAdd] at this; simp only [Int.reduceSub, Int.reduceNeg, Int.reduceToNat, this, List.append_assoc], p1, HK.out.trans p2⟩
      case measure => simp [intOf]
    · go_wp2_with (at_builtin; refine wpList_app_u8 rfl rfl rfl (HW.out.own.kp ((Kp.refl [] _).alloc _) (by simp)) 1 _ (src_one rfl _) (by omega) ?_; intro a2 c2 w1 hown hk2 hnew; have ho2 := Lib.hid hown; have hk2' := Lib.hid hk2; have hn2 := Lib.hid hnew; obtain ⟨d0, d1, d2, d3⟩ := HW.out.later ((Kp.refl [] _).alloc _) hk2; clear hown hk2 hnew)
      obtain ⟨p1, p2⟩ := HW.out.put' (t := [(n / 256 ^ 1 % 256).toUInt8]) ((Kp.refl [] _).alloc _) (by rw [bC_byte _ (Nat.mod_lt _ (by omega))]; exact own_cast (by omega) ho2.out) hk2'.out hn2.out
      go_roundw
      case rel => exact ⟨0, c2, a2, pre ++ [(n / 256 ^ 1 % 256).toUInt8], rfl, by omega, by omega, by show _ = _; rw [HP.out]; have := fixB_take 4 n 1 (by omega); simp only [Nat.reduceSub, Nat.reduceAdd] at this; simp only [Int.reduceSub, Int.reduceNeg, Int.reduceToNat, this, List.append_assoc], p1, HK.out.trans p2⟩
      case measure => simp [intOf]
    · go_wp2_with (at_builtin; refine wpList_app_u8 rfl rfl rfl (HW.out.own.kp ((Kp.refl [] _).alloc _) (by simp)) 1 _ (src_one rfl _) (by omega) ?_; intro a2 c2 w1 hown hk2 hnew; have ho2 := Lib.hid hown; have hk2' := Lib.hid hk2; have hn2 := Lib.hid hnew; obtain ⟨d0, d1, d2, d3⟩ := HW.out.later ((Kp.refl [] _).alloc _) hk2; clear hown hk2 hnew)
      obtain ⟨p1, p2⟩ := HW.out.put' (t := [(n / 256 ^ 2 % 256).toUInt8]) ((Kp.refl [] _).alloc _) (by rw [bC_byte _ (Nat.mod_lt _ (by omega))]; exact own_cast (by omega) ho2.out) hk2'.out hn2.out
      go_roundw
      case rel => exact ⟨1, c2, a2, pre ++ [(n / 256 ^ 2 % 256).toUInt8], rfl, by omega, by omega, by show _ = _; rw [HP.out]; have := fixB_take 4 n 2 (by omega); simp only [Nat.reduceSub, Nat.reduceAdd] at this; simp only [Int.reduceSub, Int.reduceNeg, Int.reduceToNat, this, List.append_assoc], p1, HK.out.trans p2⟩
      case measure => simp [intOf]
    · go_wp2_with (at_builtin; refine wpList_app_u8 rfl rfl rfl (HW.out.own.kp ((Kp.refl [] _).alloc _) (by simp)) 1 _ (src_one rfl _) (by omega) ?_; intro a2 c2 w1 hown hk2 hnew; have ho2 := Lib.hid hown; have hk2' := Lib.hid hk2; have hn2 := Lib.hid hnew; obtain ⟨d0, d1, d2, d3⟩ := HW.out.later ((Kp.refl [] _).alloc _) hk2; clear hown hk2 hnew)
      obtain ⟨p1, p2⟩ := HW.out.put' (t := [(n / 256 ^ 3 % 256).toUInt8]) ((Kp.refl [] _).alloc _) (by rw [bC_byte _ (Nat.mod_lt _ (by omega))]; exact own_cast (by omega) ho2.out) hk2'.out hn2.out
      go_roundw
      case rel => exact ⟨2, c2, a2, pre ++ [(n / 256 ^ 3 % 256).toUInt8], rfl, by omega, by omega, by show _ = _; rw [HP.out]; have := fixB_take 4 n 3 (by omega); simp only [Nat.reduceSub, Nat.reduceAdd] at this; simp only [Int.reduceSub, Int.reduceNeg, Int.reduceToNat, this, List.append_assoc], p1, HK.out.trans p2⟩
      case measure => simp [intOf]

end Go.Proofs.YtemicgccgcmmbaaGreat

/- Texts and digests are laid; the bytes as a text. -/
namespace Go.Proofs.YtemicgccgcmmbaaGreat
set_option linter.unusedVariables false
set_option linter.unusedSimpArgs false
open Go Go.RowKit

theorem bC_byteCells (t : Bs) : byteCells ⟨t.toArray⟩ = bC t := rfl
theorem src_str {w : World} (t : Bs) : Src Tryz.prog 1 9 (.string ⟨t.toArray⟩) t.length (bC t) w := Src.ofString w Tryz.underlying9 ⟨t.toArray⟩

set_option maxHeartbeats 1000000 in
set_option maxRecDepth 100000 in
theorem wr_raw (wb g c : Nat) (a : Option Addr) (out t : Bs) (w : World) (h : Wr w wb a c out) (hc : w.cell? ⟨g, 0, none⟩ = some (.string ⟨t.toArray⟩)) (ho : out.length + t.length ≤ 70368744177900) :
    Calls Tryz.prog 122 #[.pointer (some ⟨wb, 0, none⟩), .slice (some ⟨g, 0, none⟩) 1 1] w (WrPost w wb a (out ++ t)) := by
  obtain ⟨c0, c1, f1, hlt⟩ := h.cells
  have H := Lib.hid h; clear h
  have HC := Lib.hid hc; clear hc
  go_enter Tryz.func122, Tryz.ntmps122
  go_wp2
  clear c0 c1 f1 hlt
  go_loopw [5, 17] (fun _ i wr => (i = .int .i64 0 ∧ wr = w) ∨ (i = .int .i64 1 ∧ ∃ a' c', Wr wr wb a' c' (out ++ t) ∧ WK wb a w a' wr)) (fun _ i _ => 1 - (intOf i).toNat)
  case atStart => exact .inl ⟨rfl, rfl⟩
  case round =>
    rcases hrel with ⟨rfl, rfl⟩ | ⟨rfl, a', c', hw, hk⟩
    · obtain ⟨c0, c1, f1, hlt⟩ := H.out.cells
      have hc := HC.out
      go_wp2_with (at_builtin; refine wpList_app_u8 rfl rfl rfl H.out.own t.length (bC t) (src_str t) (by omega) ?_; intro a2 c2 w1 hown hk2 hnew; have ho2 := Lib.hid hown; have hk2' := Lib.hid hk2; have hn2 := Lib.hid hnew; obtain ⟨d0, d1, d2, d3⟩ := H.out.later (Kp.refl [] _) hk2; clear hown hk2 hnew)
      obtain ⟨p1, p2⟩ := H.out.put' (Kp.refl [] _) ho2.out hk2'.out hn2.out
      go_roundw
      case rel => exact .inr ⟨rfl, a2, c2, p1, p2⟩
      case measure => simp [intOf]
    · have HW := Lib.hid hw; have HK := Lib.hid hk; clear hw hk
      go_wp2
      go_end0
      exact ⟨rfl, a', c', HW.out, HK.out⟩

/-- A text's bytes: its length, itself. -/
def textB (t : Bs) : Bs := freeB t.length ++ t

set_option maxHeartbeats 1000000 in
set_option maxRecDepth 100000 in
theorem wr_text (wb c : Nat) (a : Option Addr) (out t : Bs) (w : World) (h : Wr w wb a c out) (ho : out.length + t.length ≤ 70368744177664) :
    Calls Tryz.prog 87 #[.pointer (some ⟨wb, 0, none⟩), .string ⟨t.toArray⟩] w (WrPost w wb a (out ++ textB t)) := by
  have H := Lib.hid h; clear h
  have hl := freeB_len64 t.length (by omega)
  have HL := Lib.hid hl; clear hl
  go_enter Tryz.func87, Tryz.ntmps87
  go_wp2_with fail
  refine (wr_free _ _ _ _ _ _ H.out (by omega) (by omega)).mono ?_
  rintro e w1 ⟨rfl, a1, c1, h1, k1⟩
  have H1 := Lib.hid h1; have K1 := Lib.hid k1; clear h1 k1
  go_wp2_with fail
  refine (wr_raw _ _ _ _ _ t _ (H1.out.kp0 ((Kp.refl [] _).alloc _)) (by simp) (by simp; have := HL.out; omega)).mono ?_
  rintro e w2 ⟨rfl, a2, c2, h2, k2⟩
  have H2 := Lib.hid h2; have K2 := Lib.hid k2; clear h2 k2
  go_wp2_with fail
  go_end0
  exact ⟨rfl, a2, c2, by rw [textB, ← List.append_assoc]; exact H2.out, K1.out.trans (K2.out.pre ((Kp.refl [] _).alloc _))⟩

theorem fold_push (t : Bs) (s : ByteArray) : ((t.map fun b => (b.toNat : Int)).foldl (fun r n => r.push (UInt8.ofNat n.toNat)) s) = ⟨s.data ++ t.toArray⟩ := by
  induction t generalizing s with
  | nil => simp
  | cons b t ih =>
    simp only [List.map_cons, List.foldl_cons, ih]
    apply ByteArray.ext
    simp [ByteArray.push]
/-- A row of bytes as a text. -/
theorem conv_cells {w : World} (a : Addr) (c : Nat) (t : Bs) (h : ∀ j v, (bC t)[j]? = some v → w.cell? (a.add j) = some v) :
    (convert 66 9 (.slice (some a) t.length c)).run Tryz.prog w = .ok (.string ⟨t.toArray⟩) w := by
  have hl := run_loadCells_list (P := Tryz.prog) w a (bC t) h
  rw [bC_length] at hl
  rw [run_convert_bytes_string w 66 9 5 _ _ _ Tryz.underlying66 Tryz.underlying5 Tryz.underlying9]
  rw [run_bytesToString w a t.length c (t.map fun b => (b.toNat : Int)) (by rw [hl]; simp [bC]), fold_push]
  simp [ByteArray.empty, ByteArray.emptyWithCapacity]; rfl
theorem conv_own {w : World} {a : Option Addr} {c : Nat} {t : Bs} (h : Own w 5 1 a t.length c (bC t)) :
    (convert 66 9 (.slice a t.length c)).run Tryz.prog w = .ok (.string ⟨t.toArray⟩) w := by
  rcases a with _ | a
  · rw [run_convert_bytes_nil w 66 5 Tryz.underlying66 Tryz.underlying5 _ _ _ Tryz.underlying9]
    rcases h.block.2 with ⟨_, h0, _⟩ | ⟨_, _, h0, _⟩
    · have : t = [] := List.eq_nil_of_length_eq_zero h0
      subst this; rfl
    · cases h0
  · exact conv_cells a c t (h.cells rfl)

set_option maxHeartbeats 1000000 in
set_option maxRecDepth 100000 in
theorem wr_string (wb c : Nat) (a : Option Addr) (out : Bs) (w : World) (h : Wr w wb a c out) :
    Calls Tryz.prog 88 #[.pointer (some ⟨wb, 0, none⟩)] w fun e w' => e = .returned (.string ⟨out.toArray⟩) ∧ w = w' := by
  obtain ⟨c0, c1, f1, hlt⟩ := h.cells
  have hcv := conv_own h.own
  clear h
  go_enter Tryz.func88, Tryz.ntmps88
  go_wp2_with fail
  go_ret
  exact ⟨rfl, rfl⟩

theorem conv_dg {w : World} {g n t : Nat} {d : Dg} (h : Blk w g t d.c) (hn : n ≤ 32) :
    (convert 66 9 (.slice (some ⟨g, 0, none⟩) n 32)).run Tryz.prog w = .ok (.string ⟨(d.l.take n).toArray⟩) w := by
  have hl : (d.l.take n).length = n := by simp [d.h]; omega
  have := conv_cells (w := w) ⟨g, 0, none⟩ 32 (d.l.take n) (fun j v hj => by
    have hadd : (⟨g, 0, none⟩ : Addr).add j = ⟨g, j, none⟩ := by unfold Addr.add; split <;> simp_all
    rw [hadd, h.cell]
    simp only [Dg.c, bC, List.map_take, List.getElem?_take] at hj ⊢
    split at hj
    · simpa using hj
    · cases hj)
  rwa [hl] at this

set_option maxHeartbeats 1000000 in
set_option maxRecDepth 100000 in
theorem wr_digest (wb c n : Nat) (a : Option Addr) (out : Bs) (d : Dg) (w : World) (h : Wr w wb a c out) (hn : n ≤ 32) (ho : out.length ≤ 70368744177664) :
    Calls Tryz.prog 92 #[.pointer (some ⟨wb, 0, none⟩), .int .i64 n, .agg d.c] w (WrPost w wb a (out ++ d.l.take n)) := by
  have H := Lib.hid h; clear h
  have hcv := conv_dg (Blk.new w 36 d.c) hn
  have hl := List.length_take_le n d.l
  have HL := Lib.hid hl; clear hl
  go_enter Tryz.func92, Tryz.ntmps92
  go_wp2_with (go_at_call 112; refine (into_any _ _ (by omega) (by omega)).mono ?_; rintro e w' ⟨rfl, rfl⟩)
  refine (wr_raw _ _ _ _ _ (d.l.take n) _ (H.out.kp0 (((Kp.refl [] _).alloc _).alloc _)) (by simp) (by have := HL.out; omega)).mono ?_
  rintro e w2 ⟨rfl, a2, c2, h2, k2⟩
  have H2 := Lib.hid h2; have K2 := Lib.hid k2; clear h2 k2
  go_wp2_with fail
  go_end0
  exact ⟨rfl, a2, c2, H2.out, K2.out.pre (((Kp.refl [] _).alloc _).alloc _)⟩

end Go.Proofs.YtemicgccgcmmbaaGreat

/- A leaf's form is laid. -/
namespace Go.Proofs.YtemicgccgcmmbaaGreat
set_option linter.unusedVariables false
set_option linter.unusedSimpArgs false
open Go Go.RowKit

section
variable {P : Program} (w : World)
theorem run_equalIn_nilf (d : Nat) (t : TypeId) (ps rs : Array TypeId) (vr : Bool) (f : Fn) (x y : Array Value) (h : P.underlying t = some (.func ps rs vr)) : (Op.equalIn (d + 1) t (.func f x y) .nilFunc).run P w = .ok false w := by
  simp [Op.equalIn, run_underlying h]
theorem run_eql_nilf (t : TypeId) (ps rs : Array TypeId) (vr : Bool) (f : Fn) (x y : Array Value) (h : P.underlying t = some (.func ps rs vr)) : (binOp .eql t (.func f x y) .nilFunc).run P w = .ok (.bool false) w := by
  have := run_equalIn_nilf (P := P) w 9999 t ps rs vr f x y h
  simp only [binOp, Op.equal, Op.maxDepth, Sem.run_bind, this, Result.andThen_ok, Sem.run_pure]
theorem run_neq_nilf (t : TypeId) (ps rs : Array TypeId) (vr : Bool) (f : Fn) (x y : Array Value) (h : P.underlying t = some (.func ps rs vr)) : (binOp .neq t (.func f x y) .nilFunc).run P w = .ok (.bool true) w := by
  have := run_equalIn_nilf (P := P) w 9999 t ps rs vr f x y h
  simp only [binOp, Op.equal, Op.maxDepth, Sem.run_bind, this, Result.andThen_ok, Sem.run_pure, Bool.not_false]
end
@[go_sem] theorem eql_nilf_wp (f : Fn) (x y : Array Value) (w : World) : (binOp .eql 110 (.func f x y) .nilFunc).run Tryz.prog w = .ok (.bool false) w := run_eql_nilf w _ _ _ _ f x y Tryz.underlying110
@[go_sem] theorem eql_nilf_wk (f : Fn) (x y : Array Value) (w : World) : (binOp .eql 115 (.func f x y) .nilFunc).run Tryz.prog w = .ok (.bool false) w := run_eql_nilf w _ _ _ _ f x y Tryz.underlying115

theorem freeB_length (n : Nat) : (freeB n).length = cntN n := by
  induction n using Nat.strongRecOn with
  | _ n ih =>
    by_cases h : n < 128
    · rw [freeB_small h, cntN_small h]; rfl
    · rw [freeB_big h, cntN_big h]; simp [ih (n / 128) (by omega)]
theorem textB_length (t : Bs) : (textB t).length = txN t := by simp [textB, txN, freeB_length]

def pairB (x : Pr) : Bs := textB x.1 ++ textB x.2
theorem pairB_length (x : Pr) : (pairB x).length = prN x := by simp [pairB, prN, textB_length]
def pairsB (l : List Pr) : Bs := l.flatMap pairB
theorem pairsB_length (l : List Pr) : (pairsB l).length = (l.map prN).sum := by
  induction l with
  | nil => rfl
  | cons x t ih => simp only [pairsB, List.flatMap_cons, List.length_append, pairB_length, List.map_cons, List.sum_cons]; rw [← ih]; rfl
theorem pairsB_take (l : List Pr) (k : Nat) (x : Pr) (hx : l[k]? = some x) : pairsB (l.take (k + 1)) = pairsB (l.take k) ++ pairB x := by
  rw [List.take_add_one, hx]; simp [pairsB]
theorem sum_take_le {α : Type} (f : α → Nat) (l : List α) (k : Nat) : ((l.take k).map f).sum ≤ (l.map f).sum := by
  have h : (l.map f).sum = ((l.take k).map f).sum + ((l.drop k).map f).sum := by
    rw [← List.sum_append, ← List.map_append, List.take_append_drop]
  omega

theorem PsAt.lts {w : World} {a : Option Addr} {l : List Pr} (h : PsAt w a l) : l = [] ∨ ∀ b ∈ ab a, b < w.heap.size := by
  cases l with
  | nil => exact .inl rfl
  | cons x t =>
    obtain ⟨b, o, rfl, hb, _⟩ := h 0 x rfl
    exact .inr (by simp [ab]; exact hb)
theorem SsAt.lts {w : World} {a : Option Addr} {l : List Bs} (h : SsAt w a l) : l = [] ∨ ∀ b ∈ ab a, b < w.heap.size := by
  cases l with
  | nil => exact .inl rfl
  | cons x t =>
    obtain ⟨b, o, rfl, hb, _⟩ := h 0 x rfl
    exact .inr (by simp [ab]; exact hb)
theorem KsAt.lts {w : World} {a : Option Addr} {l : List Kd} (h : KsAt w a l) : l = [] ∨ ∀ b ∈ ab a, b < w.heap.size := by
  cases l with
  | nil => exact .inl rfl
  | cons x t =>
    obtain ⟨b, o, rfl, hb, _⟩ := h 0 x rfl
    exact .inr (by simp [ab]; exact hb)
theorem PsAt.kp' {S : List Nat} {w w' : World} {a : Option Addr} {l : List Pr} (h : PsAt w a l) (k : Kp S w w') (hs : l = [] ∨ ∀ b ∈ ab a, b ∉ S) : PsAt w' a l := by
  rcases hs with rfl | hs
  · exact PsAt.nil _ _
  · exact h.kp k hs
theorem SsAt.kp' {S : List Nat} {w w' : World} {a : Option Addr} {l : List Bs} (h : SsAt w a l) (k : Kp S w w') (hs : l = [] ∨ ∀ b ∈ ab a, b ∉ S) : SsAt w' a l := by
  rcases hs with rfl | hs
  · exact SsAt.nil _ _
  · exact h.kp k hs
theorem KsAt.kp' {S : List Nat} {w w' : World} {a : Option Addr} {l : List Kd} (h : KsAt w a l) (k : Kp S w w') (hs : l = [] ∨ ∀ b ∈ ab a, b ∉ S) : KsAt w' a l := by
  rcases hs with rfl | hs
  · exact KsAt.nil _ _
  · exact h.kp k hs

set_option maxHeartbeats 1000000 in set_option maxRecDepth 100000 in
theorem form1_any (wb c : Nat) (a : Option Addr) (out : Bs) (x : Pr) (w : World) (h : Wr w wb a c out) (ho : out.length + prN x ≤ 70368744177000) :
    Calls Tryz.prog 86 #[.pointer (some ⟨wb, 0, none⟩), .agg #[.string ⟨x.1.toArray⟩, .string ⟨x.2.toArray⟩]] w (WrPost w wb a (out ++ pairB x)) := by
  have H := Lib.hid h; clear h
  have hb := H.out.blk.lt
  have hx1 : x.1.length ≤ txN x.1 := by unfold txN; omega
  have hx2 : x.2.length ≤ txN x.2 := by unfold txN; omega
  have h1 : prN x = txN x.1 + txN x.2 := rfl
  have H1 := Lib.hid h1; clear h1
  go_enter Tryz.func86, Tryz.ntmps86
  go_wp2_with fail
  refine (wr_text _ _ _ _ x.1 _ (H.out.kp0 ((Kp.refl [] _).alloc _)) (by have := H1.out; omega)).mono ?_
  rintro e w1 ⟨rfl, a1, c1, h1, k1⟩
  have HW := Lib.hid h1; have K1 := Lib.hid k1
  have hcell : w1.cell? ⟨w.heap.size, 1, none⟩ = some (.string ⟨x.2.toArray⟩) := k1.kp.cell (a := ⟨w.heap.size, 1, none⟩) (by simp) (by simp; exact ⟨by omega, fun hh => by have := H.out.own.lt _ hh; omega⟩)
  clear h1 k1
  go_wp2_with fail
  refine (wr_text _ _ _ _ x.2 _ HW.out (by have := H1.out; simp [textB_length]; omega)).mono ?_
  rintro e w2 ⟨rfl, a2, c2, h2, k2⟩
  have HW2 := Lib.hid h2; have K2 := Lib.hid k2; clear h2 k2
  go_wp2_with fail
  go_end0
  exact ⟨rfl, a2, c2, by rw [pairB, ← List.append_assoc]; exact HW2.out, (K1.out.trans K2.out).pre ((Kp.refl [] _).alloc _)⟩

set_option maxHeartbeats 1000000 in set_option maxRecDepth 100000 in
theorem each_pair (wb c : Nat) (a pa : Option Addr) (pc : Nat) (out : Bs) (l : List Pr) (w : World) (h : Wr w wb a c out) (hl : PsAt w pa l) (hn : l = [] ∨ ∀ b ∈ ab pa, b ≠ wb ∧ b ∉ ab a) (ho : out.length + cntN l.length + (l.map prN).sum ≤ 70368744177000) (hll : l.length ≤ 4398046511104) :
    Calls Tryz.prog 85 #[.pointer (some ⟨wb, 0, none⟩), .slice pa l.length pc, .func (.func 86) #[] #[]] w (WrPost w wb a (out ++ freeB l.length ++ pairsB l)) := by
  obtain ⟨c0, c1, f1, hlt⟩ := h.cells
  have H := Lib.hid h; have HLL := Lib.hid hl; have HN := Lib.hid hn; clear h hl hn
  have HO := Lib.hid ho; clear ho
  go_enter Tryz.func85, Tryz.ntmps85
  go_wp2_with fail
  refine (wr_free _ _ _ _ _ _ H.out (by omega) (by have := HO.out; omega)).mono ?_
  rintro e w1 ⟨rfl, a1, c1', h1, k1⟩
  have HW := Lib.hid h1; have K1 := Lib.hid k1; clear h1 k1
  go_wp2_with fail
  go_loopw [7, 26] (fun _ i wr => ∃ k c' a' , i = .int .i64 (k : Nat) ∧ k ≤ l.length ∧ Wr wr wb a' c' (out ++ freeB l.length ++ pairsB (l.take k)) ∧ WK wb a w a' wr) (fun _ i _ => l.length - (intOf i).toNat)
  case atStart => exact ⟨0, c1', a1, rfl, by omega, by simpa [pairsB] using HW.out, K1.out⟩
  case round =>
    obtain ⟨k, c', a', rfl, hk, hw, hkk⟩ := hrel
    have HWr := Lib.hid hw; have HK := Lib.hid hkk; clear hw hkk
    by_cases hlt : k < l.length
    · obtain ⟨x, hx⟩ : ∃ x, l[k]? = some x := ⟨_, List.getElem?_eq_getElem hlt⟩
      obtain ⟨b, o, rfl, hb, cf1, cf2⟩ := (HLL.out.kp' HK.out.kp (HN.out.imp id (fun hh b hb => by have := hh b hb; simp [this.1, this.2]))) k x hx
      have HX := Lib.hid hx; clear hx
      go_wp2_with fail
      refine (form1_any wb c' a' _ x _ (HWr.out.kp0 ((Kp.refl [] _).alloc _)) ?_).mono ?_
      · have h1 := sum_take_le prN l (k + 1)
        rw [sum_take prN l k x HX.out] at h1
        have h2 := HO.out
        simp only [List.length_append, freeB_length, pairsB_length]
        omega
      rintro e w2 ⟨rfl, a2, c2, h2, k2⟩
      have HW2 := Lib.hid h2; have K2 := Lib.hid k2; clear h2 k2
      go_wp2_with fail
      go_roundw
      case rel => exact ⟨k + 1, c2, a2, by go_num, by omega, by rw [pairsB_take l k x HX.out]; have := HW2.out; simpa [List.append_assoc] using this, HK.out.trans (K2.out.pre ((Kp.refl [] _).alloc _))⟩
      case measure => simp [intOf]; omega
    · have hlen : l.take k = l := List.take_of_length_le (by omega)
      have HL := Lib.hid hlen; clear hlen
      go_wp2_with fail
      go_end0
      exact ⟨rfl, a', c', by have := HWr.out; rw [HL.out] at this; simpa [List.append_assoc] using this, HK.out⟩

end Go.Proofs.YtemicgccgcmmbaaGreat

/- Lists are read: the plain parser; what a closure that reads one thing does. -/
namespace Go.Proofs.YtemicgccgcmmbaaGreat
set_option linter.unusedVariables false
set_option linter.unusedSimpArgs false
open Go Go.RowKit

section
variable {α T : Type}
/-- So many things, one behind the other; each may hang on a state that goes on. -/
def manyP (step : α → Bs → Option (α × T × Bs)) : Nat → α → Bs → Option (α × List T × Bs)
  | 0, x, l => some (x, [], l)
  | k + 1, x, l => match step x l with
    | none => none
    | some (x', t, l') => match manyP step k x' l' with
      | none => none
      | some (x'', ts, l'') => some (x'', t :: ts, l'')

def listP (m : Nat) (step : α → Bs → Option (α × T × Bs)) (x : α) (l : Bs) : Option (α × List T × Bs) :=
  match freeP m l with
  | none => none
  | some (n, l') => if n ≤ l'.length then manyP step n x l' else none

/-- k things have been read; the rest is to be read from here. -/
def Mid (step : α → Bs → Option (α × T × Bs)) (n : Nat) (x0 : α) (l0 : Bs) (k : Nat) (x : α) (ts : List T) (l : Bs) : Prop :=
  k ≤ n ∧ ts.length = k ∧ manyP step n x0 l0 = (manyP step (n - k) x l).map fun r => (r.1, ts ++ r.2.1, r.2.2)

theorem Mid.start (step : α → Bs → Option (α × T × Bs)) (n : Nat) (x0 : α) (l0 : Bs) : Mid step n x0 l0 0 x0 [] l0 :=
  ⟨Nat.zero_le _, rfl, by cases h : manyP step n x0 l0 <;> simp [h]⟩
theorem Mid.step {step : α → Bs → Option (α × T × Bs)} {n : Nat} {x0 : α} {l0 : Bs} {k : Nat} {x x' : α} {ts : List T} {t : T} {l l' : Bs} (h : Mid step n x0 l0 k x ts l) (hk : k < n) (hs : step x l = some (x', t, l')) :
    Mid step n x0 l0 (k + 1) x' (ts ++ [t]) l' := by
  refine ⟨hk, by simp [h.2.1], ?_⟩
  rw [h.2.2, show n - k = (n - (k + 1)) + 1 by omega]
  simp only [manyP, hs]
  cases manyP step (n - (k + 1)) x' l' <;> simp
theorem Mid.fail {step : α → Bs → Option (α × T × Bs)} {n : Nat} {x0 : α} {l0 : Bs} {k : Nat} {x : α} {ts : List T} {l : Bs} (h : Mid step n x0 l0 k x ts l) (hk : k < n) (hs : step x l = none) :
    manyP step n x0 l0 = none := by
  rw [h.2.2, show n - k = (n - (k + 1)) + 1 by omega]
  simp [manyP, hs]
theorem Mid.done {step : α → Bs → Option (α × T × Bs)} {n : Nat} {x0 : α} {l0 : Bs} {x : α} {ts : List T} {l : Bs} (h : Mid step n x0 l0 n x ts l) :
    manyP step n x0 l0 = some (x, ts, l) := by
  rw [h.2.2, Nat.sub_self]; simp [manyP]

/-- The state that a reading closure keeps in memory stays where nothing touches its blocks. -/
structure St (b : Nat) (J : α → World → List Nat → Prop) : Prop where
  kp : ∀ {x w w' fp S}, J x w fp → Kp S w w' → (∀ g ∈ fp, g ∉ S) → J x w' fp
  lt : ∀ {x w fp}, J x w fp → ∀ g ∈ fp, g < w.heap.size ∧ g ≠ b

def OnePost (tv : T → Value) (J : α → World → List Nat → Prop) (b : Nat) (s : Bs) (fp : List Nat) (w : World) (r : Option (α × T × Bs)) (e : Ending) (w' : World) : Prop :=
  ∃ t x' fp', e = .returned (tv t) ∧ J x' w' fp' ∧ Kp (b :: fp) w w' ∧ (∀ g ∈ fp', g ∈ fp ∨ w.heap.size ≤ g) ∧
    match r with
    | some (x1, t1, l') => x' = x1 ∧ t = t1 ∧ RdOk w' b s l'
    | none => RdBad w' b s

def ListPost (cells : T → List Value) (e0 : TypeId) (size : Nat) (J : α → World → List Nat → Prop) (b : Nat) (s : Bs) (fp : List Nat) (w : World) (r : Option (α × List T × Bs)) (e : Ending) (w' : World) : Prop :=
  ∃ a c ts x' fp', e = .returned (.slice a ts.length c) ∧ Own w' e0 size a ts.length c (ts.flatMap cells) ∧ J x' w' fp' ∧ Kp (b :: fp) w w' ∧ (∀ g ∈ fp', g ∈ fp ∨ w.heap.size ≤ g) ∧ (∀ g ∈ ab a, w.heap.size ≤ g ∧ g ∉ fp') ∧
    match r with
    | some (x1, ts1, l') => x' = x1 ∧ ts = ts1 ∧ RdOk w' b s l'
    | none => ts = [] ∧ RdBad w' b s


/-- A round so far: the box is made, the closure has read a thing, the box is written. -/
theorem list_round {e0 : TypeId} {size b k c : Nat} {J : α → World → List Nat → Prop} {a : Option Addr} {xs : List Value} {x x2 : α} {fp fp' fp2 : List Nat} {w wr w2 w3 : World} {o : Obj}
    (hst : St b J) (hb : b < w.heap.size) (how : Own wr e0 size a k c xs) (hkp : Kp (b :: fp) w wr) (hj : J x wr fp') (hfp : ∀ g ∈ fp', g ∈ fp ∨ w.heap.size ≤ g) (hab : ∀ g ∈ ab a, w.heap.size ≤ g ∧ g ∉ fp')
    (k2 : Kp (b :: fp') (wr.alloc o) w2) (hj2 : J x2 w2 fp2) (hfp2 : ∀ g ∈ fp2, g ∈ fp' ∨ (wr.alloc o).heap.size ≤ g) (k3 : Kp [wr.heap.size] w2 w3) :
    Own w3 e0 size a k c xs ∧ J x2 w3 fp2 ∧ Kp (b :: fp) w w3 ∧ (∀ g ∈ fp2, g ∈ fp ∨ w.heap.size ≤ g) ∧ (∀ g ∈ ab a, w.heap.size ≤ g ∧ g ∉ fp2) ∧ b ∉ ab a := by
  have hz := hkp.size
  have hal : (wr.alloc o).heap.size = wr.heap.size + 1 := by simp
  have hbn : b ∉ ab a := fun e => by have := (hab _ e).1; omega
  refine ⟨?_, ?_, ?_, ?_, ?_, hbn⟩
  · refine ((how.kp ((Kp.refl [] _).alloc o) (by simp)).kp k2 ?_).kp k3 ?_
    · intro g hg; simp only [List.mem_cons, not_or]; exact ⟨fun e => hbn (e ▸ hg), (hab g hg).2⟩
    · intro g hg; have := how.lt g hg; simp; omega
  · refine hst.kp hj2 k3 ?_
    intro g hg
    rcases hfp2 g hg with h | h
    · have := (hst.lt hj g h).1; simp; omega
    · simp; omega
  · refine ((hkp.alloc o).from k2 ?_).from k3 ?_
    · intro g hg
      rcases List.mem_cons.1 hg with rfl | hg
      · exact .inr (by simp)
      · rcases hfp g hg with h | h
        · exact .inr (by simp [h])
        · exact .inl h
    · intro g hg; simp at hg; exact .inl (by omega)
  · intro g hg
    rcases hfp2 g hg with h | h
    · exact hfp g h
    · exact .inr (by omega)
  · intro g hg
    refine ⟨(hab g hg).1, fun h => ?_⟩
    rcases hfp2 g h with h | h
    · exact (hab g hg).2 h
    · have := how.lt g hg; omega
/-- Behind the append. -/
theorem list_round2 {e0 : TypeId} {size b k c : Nat} {J : α → World → List Nat → Prop} {a a2 : Option Addr} {xs : List Value} {x2 : α} {fp fp2 : List Nat} {w w3 w4 : World} {s l : Bs}
    (hst : St b J) (how : Own w3 e0 size a k c xs) (hj : J x2 w3 fp2) (hkp : Kp (b :: fp) w w3) (hab : ∀ g ∈ ab a, w.heap.size ≤ g ∧ g ∉ fp2) (hbn : b ∉ ab a) (hr : RdOk w3 b s l)
    (k4 : Kp (ab a) w3 w4) (hn : ∀ g ∈ ab a2, g ∈ ab a ∨ w3.heap.size ≤ g) :
    J x2 w4 fp2 ∧ RdOk w4 b s l ∧ Kp (b :: fp) w w4 ∧ (∀ g ∈ ab a2, w.heap.size ≤ g ∧ g ∉ fp2) := by
  have hz := hkp.size
  refine ⟨hst.kp hj k4 fun g hg h => (hab g h).2 hg, hr.kp k4 hbn, hkp.from k4 fun g hg => .inl (hab g hg).1, fun g hg => ?_⟩
  rcases hn g hg with h | h
  · exact hab g h
  · exact ⟨by omega, fun hf => by have := (hst.lt hj g hf).1; omega⟩
theorem src_row {P : Program} {size : Nat} {tx e' : TypeId} (hk : P.underlying tx = some (.slice e')) (w : World) (cs : Array Value) (t : TypeId) (g : Nat) (hg : g = w.heap.size) (hc : cs.size = size) (h1 : ∀ v ∈ cs.toList, v.oneCell' = true) :
    Src P size tx (.slice (some ⟨g, 0, none⟩) 1 1) 1 cs.toList (w.alloc (.cells cs t)) :=
  Src.ofSlice _ hk _ _ _ _ (by simp [hc]) (by
    subst hg
    intro j u hj
    have hb : Blk (w.alloc (.cells cs t)) w.heap.size t cs := Blk.new w t cs
    have := hb.cell j
    simpa [Addr.add_lit] using this.trans (by simpa using hj)) h1
end

/-- A slice literal of one value of many cells. -/
def bsBig (t : TypeId) (v : Value) : Sem Next := do pure (.value (← Instr.buildSlice t 1 #[(0, v)]))
def slowBs (P : Program) (t : TypeId) (v : Value) (w : World) : Result Next := (bsBig t v).run P w
theorem run_bsBig (P : Program) (t e : TypeId) (n : Nat) (z : Value) (bytes : Nat) (hu : P.underlying t = some (.slice e)) (hi : (P.info? e).map (fun i => (i.zero, i.size, i.bytes)) = some (some z, n, bytes)) (hz : z.cells.size = n) (h0 : 0 < n) (h24 : n ≤ 2 ^ 24) (cs : Array Value) (w : World) :
    (bsBig t (.agg cs)).run P w = if cs.size = n then .ok (.value (.slice (some ⟨w.heap.size, 0, none⟩) 1 1)) (w.alloc (.cells cs e)) else slowBs P t (.agg cs) w := by
  split
  · rename_i hc
    obtain ⟨ie, hie, hz0, hz1, hz2⟩ := info_parts hi
    obtain ⟨r, hr, hsz, hk⟩ := Great.fill_dense (s := n) h0 [.agg cs] 0 ((Array.range (1 * ie.size)).map (z.cells[· % z.cells.size]!)) (by intro v hv; simp at hv; subst hv; exact hc) (by simp [hz1])
    have hrc : r = cs := by
      apply Array.ext_getElem?
      intro k
      rw [hk k]
      simp only [Nat.zero_mul, Nat.zero_le, true_and, List.length_singleton, Nat.zero_add, Nat.one_mul, Nat.sub_zero]
      split
      · rename_i hlt
        rw [Nat.div_eq_of_lt hlt, Nat.mod_eq_of_lt hlt]
        rfl
      · rename_i hlt
        rw [Array.getElem?_eq_none (by simp [hz1]; omega), Array.getElem?_eq_none (by omega)]
    subst hrc
    have := run_buildSlice (P := P) w t e 1 #[(0, .agg r)] r ie z hu hie hz0 (by rw [hz1]; omega) (by rw [hz1]; omega) (by rw [hz1]; rw [hz1] at hr; exact hr)
    simp [bsBig, Sem.run_bind, this]
  · rfl

theorem Tryz.infoPair : (Tryz.prog.info? 56).map (fun i => (i.zero, i.size, i.bytes)) = some (some (.agg #[.string ⟨#[]⟩, .string ⟨#[]⟩]), 2, 32) := by kernel_rfl

theorem wpList_app_pair {w : World} {ops : Array Oper} {rest : List Oper} {o : Oper} {A : Act} {Q : Exit → Act → World → Prop} (hgd : o.guard = none) {s x : Operand} {tx : TypeId}
    (ho : o.op = .call { callee := .builtin .append, args := #[s, x], argTypes := #[24, tx] })
    {a : Option Addr} {n c : Nat} {xs : List Value} (hs : A.eval s = .slice a n c) (hown : Own w 56 2 a n c xs) (m : Nat) (news : List Value) (hsrc : Src Tryz.prog 2 tx (A.eval x) m news w)
    (h63 : n + m ≤ 4398046511104)
    (h : ∀ a' c' w', Own w' 56 2 a' (n + m) c' (xs ++ news) → Kp (ab a) w w' → (∀ g ∈ ab a', g ∈ ab a ∨ w.heap.size ≤ g) → wpList Tryz.prog ops Q rest (A.put o.dst (.slice a' (n + m) c')) w') : wpList Tryz.prog ops Q (o :: rest) A w := by
  obtain ⟨i0, hi, hz0, hz1, hz2⟩ := info_parts Tryz.infoPair
  exact wpList_app w hgd s x 24 tx ho 56 i0 (.agg #[.string ⟨#[]⟩, .string ⟨#[]⟩]) 2 32 Tryz.underlying24 hi hz0 hz1 hz2 rfl a n c xs hs hown m news hsrc (by omega) (by unfold maxLen; omega) h

theorem Tryz.infoKid : (Tryz.prog.info? 59).map (fun i => (i.zero, i.size, i.bytes)) = some (some (.agg Kd.zero.c), 33, 36) := by
  rw [zero33, zero32]; kernel_rfl

theorem wpList_app_kid {w : World} {ops : Array Oper} {rest : List Oper} {o : Oper} {A : Act} {Q : Exit → Act → World → Prop} (hgd : o.guard = none) {s x : Operand} {tx : TypeId}
    (ho : o.op = .call { callee := .builtin .append, args := #[s, x], argTypes := #[26, tx] })
    {a : Option Addr} {n c : Nat} {xs : List Value} (hs : A.eval s = .slice a n c) (hown : Own w 59 33 a n c xs) (m : Nat) (news : List Value) (hsrc : Src Tryz.prog 33 tx (A.eval x) m news w)
    (h63 : n + m ≤ 3909374676453)
    (h : ∀ a' c' w', Own w' 59 33 a' (n + m) c' (xs ++ news) → Kp (ab a) w w' → (∀ g ∈ ab a', g ∈ ab a ∨ w.heap.size ≤ g) → wpList Tryz.prog ops Q rest (A.put o.dst (.slice a' (n + m) c')) w') : wpList Tryz.prog ops Q (o :: rest) A w := by
  obtain ⟨i0, hi, hz0, hz1, hz2⟩ := info_parts Tryz.infoKid
  exact wpList_app w hgd s x 26 tx ho 59 i0 (.agg Kd.zero.c) 33 36 Tryz.underlying26 hi hz0 hz1 hz2 (Kd.c_size Kd.zero) a n c xs hs hown m news hsrc (by omega) (by unfold maxLen; omega) h

@[go_sem ↓] theorem exec_bs_kd (a : Act) (dst : Option Tmp) (x : Operand) (ty : TypeId) (pos : String) (after : Array Edge) (guard : Option (Nat × Bool)) :
    execOp a.eval { dst, op := .buildSlice 26 1 #[(0, x)], type := ty, pos, after, guard } = bsBig 26 (a.eval x) := by simp [execOp, bsBig]
@[go_sem] theorem run_bs_kd (cs : Array Value) (w : World) : (bsBig 26 (.agg cs)).run Tryz.prog w = if cs.size = 33 then .ok (.value (.slice (some ⟨w.heap.size, 0, none⟩) 1 1)) (w.alloc (.cells cs 59)) else slowBs Tryz.prog 26 (.agg cs) w :=
  run_bsBig Tryz.prog 26 59 33 _ _ Tryz.underlying26 Tryz.infoKid (Kd.c_size Kd.zero) (by omega) (by omega) cs w
theorem Kd.c_one (k : Kd) : ∀ v ∈ k.c.toList, v.oneCell' = true := by
  intro v hv
  simp only [Kd.c, List.mem_cons] at hv
  rcases hv with rfl | hv
  · rfl
  · exact bC_one _ v hv

theorem Tryz.infoStr : (Tryz.prog.info? 9).map (fun i => (i.zero, i.size, i.bytes)) = some (some (.string ⟨#[]⟩), 1, 16) := by kernel_rfl

theorem wpList_app_str {w : World} {ops : Array Oper} {rest : List Oper} {o : Oper} {A : Act} {Q : Exit → Act → World → Prop} (hgd : o.guard = none) {s x : Operand} {tx : TypeId}
    (ho : o.op = .call { callee := .builtin .append, args := #[s, x], argTypes := #[25, tx] })
    {a : Option Addr} {n c : Nat} {xs : List Value} (hs : A.eval s = .slice a n c) (hown : Own w 9 1 a n c xs) (m : Nat) (news : List Value) (hsrc : Src Tryz.prog 1 tx (A.eval x) m news w)
    (h63 : n + m ≤ 8796093022208)
    (h : ∀ a' c' w', Own w' 9 1 a' (n + m) c' (xs ++ news) → Kp (ab a) w w' → (∀ g ∈ ab a', g ∈ ab a ∨ w.heap.size ≤ g) → wpList Tryz.prog ops Q rest (A.put o.dst (.slice a' (n + m) c')) w') : wpList Tryz.prog ops Q (o :: rest) A w := by
  obtain ⟨i0, hi, hz0, hz1, hz2⟩ := info_parts Tryz.infoStr
  exact wpList_app w hgd s x 25 tx ho 9 i0 (.string ⟨#[]⟩) 1 16 Tryz.underlying25 hi hz0 hz1 hz2 rfl a n c xs hs hown m news hsrc (by omega) (by unfold maxLen; omega) h

/-- A call by its contract, as one step of a region that draws its order. -/
theorem step_call {P : Program} {w : World} {ops : Array Oper} {o : Oper} {A : Act} {K : Act → World → Prop} {Q : Exit → Act → World → Prop} {E : Prop} (hgd : o.guard = none) (f : FuncId) {xs : Array Operand} {ts : Array TypeId} (_hop : o.op = .call { callee := .value (.func f), args := xs, argTypes := ts }) (args : Array Value)
    (hrun : (execOp A.eval o).run P w = .ok (.enter f args) w) {post : Ending → World → Prop} (hc : Calls P f args w post) (h : ∀ e w', post e w' → ∃ v, e = .returned v ∧ K (A.put o.dst v) w') :
    if Region.wanted o (yielded ops A.tmps) = true then Oper.wp P o A w K Q else E := by
  have hw : Region.wanted o (yielded ops A.tmps) = true := by simp [Region.wanted, hgd]
  rw [if_pos hw]
  unfold Oper.wp
  rw [hrun, Oper.upon_enter]
  refine hc.mono fun e w' hh => ?_
  obtain ⟨v, rfl, hk⟩ := h e w' hh
  exact hk

/-- The same as one step of a region that draws its order. -/
theorem step_app_str {w : World} {ops : Array Oper} {o : Oper} {A : Act} {K : Act → World → Prop} {Q : Exit → Act → World → Prop} {E : Prop} (hgd : o.guard = none) {s x : Operand} {tx : TypeId}
    (ho : o.op = .call { callee := .builtin .append, args := #[s, x], argTypes := #[25, tx] })
    {a : Option Addr} {n c : Nat} {xs : List Value} (hs : A.eval s = .slice a n c) (hown : Own w 9 1 a n c xs) (m : Nat) (news : List Value) {xv : Value} (hx : A.eval x = xv) (hsrc : Src Tryz.prog 1 tx xv m news w)
    (h63 : n + m ≤ 8796093022208)
    (h : ∀ a' c' w', Own w' 9 1 a' (n + m) c' (xs ++ news) → Kp (ab a) w w' → (∀ g ∈ ab a', g ∈ ab a ∨ w.heap.size ≤ g) → K (A.put o.dst (.slice a' (n + m) c')) w') :
    if Region.wanted o (yielded ops A.tmps) = true then Oper.wp Tryz.prog o A w K Q else E := by
  have hw : Region.wanted o (yielded ops A.tmps) = true := by simp [Region.wanted, hgd]
  rw [if_pos hw]
  subst hx
  obtain ⟨i0, hi, hz0, hz1, hz2⟩ := info_parts Tryz.infoStr
  exact wp_app w s x 25 tx ho 9 i0 (.string ⟨#[]⟩) 1 16 Tryz.underlying25 hi hz0 hz1 hz2 rfl a n c xs hs hown m news hsrc (by omega) (by unfold maxLen; omega) h

@[go_sem] theorem neq_nilf_rp (f : Fn) (x y : Array Value) (w : World) : (binOp .neq 89 (.func f x y) .nilFunc).run Tryz.prog w = .ok (.bool true) w := run_neq_nilf w _ _ _ _ f x y Tryz.underlying89
@[go_sem] theorem neq_nilf_rk (f : Fn) (x y : Array Value) (w : World) : (binOp .neq 93 (.func f x y) .nilFunc).run Tryz.prog w = .ok (.bool true) w := run_neq_nilf w _ _ _ _ f x y Tryz.underlying93

end Go.Proofs.YtemicgccgcmmbaaGreat

/- pack.List of pairs, over the contract of the closure that reads one. -/
namespace Go.Proofs.YtemicgccgcmmbaaGreat
set_option linter.unusedVariables false
set_option linter.unusedSimpArgs false
open Go Go.RowKit

abbrev tvP (x : Pr) : Value := .agg #[.string ⟨x.1.toArray⟩, .string ⟨x.2.toArray⟩]
abbrev csP (x : Pr) : List Value := [.string ⟨x.1.toArray⟩, .string ⟨x.2.toArray⟩]

set_option maxHeartbeats 1000000 in set_option maxRecDepth 100000 in
theorem list_pair_bad (b : Nat) (s : Bs) (m : Int) (f : Value) (w : World) (h : RdBad w b s) :
    Calls Tryz.prog 64 #[.pointer (some ⟨b, 0, none⟩), .int .i64 m, f] w fun e w' => e = .returned (.slice none 0 0) ∧ w = w' := by
  obtain ⟨p, f, hf, hp, h⟩ := h
  have H := Lib.hid h; have HF := Lib.hid hf; clear h hf
  go_enter Tryz.func64, Tryz.ntmps64
  go_wp2_with (go_at_call 105; refine (rd_dead1 H.out HF.out).mono ?_; rintro e w' ⟨rfl, rfl⟩)
  go_ret
  exact ⟨rfl, rfl⟩

set_option maxHeartbeats 1000000 in set_option maxRecDepth 100000 in
theorem list_pair {α : Type} {step : α → Bs → Option (α × Pr × Bs)} {J : α → World → List Nat → Prop} {I : α → Bs → Prop} (b m : Nat) (s l : Bs) (x0 : α) (fp : List Nat) (caps : Array Value) (w : World)
    (hst : St b J) (hI0 : ∀ n l', freeP m l = some (n, l') → I x0 l') (hI : ∀ x l x' t l', I x l → step x l = some (x', t, l') → I x' l') (hone : ∀ x l fp w, I x l → RdOk w b s l → J x w fp → Calls Tryz.prog 65 (#[.pointer (some ⟨b, 0, none⟩)] ++ caps) w (OnePost tvP J b s fp w (step x l)))
    (h : RdOk w b s l) (hj : J x0 w fp) (hs : s.length ≤ 3909374676453) (hm0 : 0 < m) (hm : m ≤ 9223372036854775807) :
    Calls Tryz.prog 64 #[.pointer (some ⟨b, 0, none⟩), .int .i64 m, .func (.func 65) #[] caps] w (ListPost csP 56 2 J b s fp w (listP m step x0 l)) := by
  have hm' : m < 18446744073709551616 := by omega
  have hs' : s.length ≤ 140737488351232 := by omega
  have HO := Lib.hid h; have HST := Lib.hid hst; have HONE := Lib.hid hone; have HJ := Lib.hid hj; have HI0 := Lib.hid hI0; have HI := Lib.hid hI; clear hst hone hj hI0 hI
  obtain ⟨p, hp, hl, h⟩ := h
  obtain ⟨c0, c1, c2, c3⟩ := h.cells
  have H := Lib.hid h; clear h hl
  have hp' : p ≤ s.length := by omega
  clear hp
  rcases hf : freeP m l with _ | ⟨n, l0⟩
  · have HF := Lib.hid hf; clear hf
    have HT : Hid (listP m step x0 l = none) := by show _ = _; unfold listP; rw [HF.out]
    go_enter Tryz.func64, Tryz.ntmps64
    go_wp2_with (first | (go_at_call 105; refine (rd_dead0 H.out).mono ?_; rintro e w' ⟨rfl, rfl⟩))
    refine (rd_free _ _ _ _ _ HO.out hs' hm').mono ?_
    rintro e w1 h1
    rw [HF.out] at h1
    obtain ⟨rfl, hk1, hr1⟩ := h1
    have HR := Lib.hid hr1; have HK := Lib.hid hk1; clear hk1
    obtain ⟨p', f', hf', hp1, hr1⟩ := hr1
    have H1 := Lib.hid hr1; have HF1 := Lib.hid hf'; clear hr1 hf'
    go_wp2_with (first | (go_at_call 105; refine (rd_dead1 H1.out HF1.out).mono ?_; rintro e w' ⟨rfl, rfl⟩))
    go_ret
    rw [HT.out]
    exact ⟨none, 0, [], x0, fp, rfl, Own.nil _ _ _, HST.out.kp HJ.out HK.out (fun g hg => by have := (HST.out.lt HJ.out g hg).2; simp [this]), HK.out.mono (fun k _ hk => by simp at hk; simp [hk]), fun g hg => .inl hg, by simp [ab], rfl, HR.out⟩
  · have HF := Lib.hid hf
    obtain ⟨hsuf, hlen, hnm⟩ := freeP_rest hf
    clear hf hsuf
    go_enter Tryz.func64, Tryz.ntmps64
    go_wp2_with (first | (go_at_call 105; refine (rd_dead0 H.out).mono ?_; rintro e w' ⟨rfl, rfl⟩))
    refine (rd_free _ _ _ _ _ HO.out hs' hm').mono ?_
    rintro e w1 h1
    rw [HF.out] at h1
    obtain ⟨rfl, hk1, hr1⟩ := h1
    have HR := Lib.hid hr1; have HK := Lib.hid hk1; clear hk1
    obtain ⟨p', hp1, hl1, hr1⟩ := hr1
    have H1 := Lib.hid hr1; clear hr1 hl1
    have hp1' : p' ≤ s.length := by omega
    by_cases hle : n ≤ l0.length
    · have HT : Hid (listP m step x0 l = manyP step n x0 l0) := by show _ = _; unfold listP; rw [HF.out]; simp [hle]
      have hlt : ¬ ((s.length : Int) - p' < n) := by omega
      have hns : n ≤ 3909374676453 := by omega
      clear hle hlen hp1 hnm hp'
      go_wp2_with (first | (go_at_call 105; refine (rd_dead0 H1.out).mono ?_; rintro e w' ⟨rfl, rfl⟩) | (go_at_call 107; refine (rd_left _ _ _ _ _ H1.out hs' hp1').mono ?_; rintro e w' ⟨rfl, nq, rfl⟩))
      go_loopw [9, 10, 33] (fun v _ i wr => ∃ (k c : Nat) (a : Option Addr) (ts : List Pr) (x : α) (fp' : List Nat) (l' : Bs), i = .int .u64 (k : Nat) ∧ v = .slice a k c ∧ k ≤ n ∧ Hid (Mid step n x0 l0 k x ts l') ∧ Hid (Own wr 56 2 a k c (ts.flatMap csP)) ∧ Hid (J x wr fp') ∧ Hid (RdOk wr b s l') ∧ Hid (I x l') ∧ Hid (Kp (b :: fp) w wr) ∧ Hid (∀ g ∈ fp', g ∈ fp ∨ w.heap.size ≤ g) ∧ Hid (∀ g ∈ ab a, w.heap.size ≤ g ∧ g ∉ fp')) (fun _ _ i _ => n - (intOf i).toNat)
      case atStart => exact ⟨0, 0, none, [], x0, fp, l0, rfl, rfl, Nat.zero_le _, Mid.start _ _ _ _, Own.nil _ _ _, HST.out.kp HJ.out (HK.out.drewN _) (fun g hg => by have := (HST.out.lt HJ.out g hg).2; simp [this]), HR.out.kp ((Kp.refl [] _).drewN _) (by simp), HI0.out _ _ HF.out, (HK.out.drewN _).mono (fun k _ hk => by simp at hk; simp [hk]), fun g hg => .inl hg, by simp [Hid, ab]⟩
      case round =>
        obtain ⟨k, c, a, ts, x, fp', l', rfl, rfl, hk, HM, HOW, HJ1, HRD, HII, HKP, HFP, HAB⟩ := hrel
        by_cases hlt2 : k < n
        · rcases hstep : step x l' with _ | ⟨x1, t1, l1⟩
          · have HS := Lib.hid hstep; clear hstep
            go_wp2_with fail
            refine (HONE.out _ _ _ _ HII.out (HRD.out.kp ((Kp.refl [] _).alloc _) (by simp)) (HST.out.kp HJ1.out ((Kp.refl [] _).alloc _) (by simp))).mono ?_
            rintro e w2 ⟨t, x2, fp2, rfl, hj2, k2, hf2, hr2⟩
            rw [HS.out] at hr2
            have HJ2 := Lib.hid hj2; have K2 := Lib.hid k2; have HF2 := Lib.hid hf2
            have hnb : wr.heap.size ∉ b :: fp' := by
              have h1 := HRD.out.lt
              simp only [List.mem_cons, not_or]
              exact ⟨by omega, fun h => by have := (HST.out.lt HJ1.out _ h).1; omega⟩
            have hbx := (Blk.new wr 56 #[.string ⟨#[]⟩, .string ⟨#[]⟩]).kp k2 hnb
            have HBX := Lib.hid hbx
            have hx0 := k2.size
            simp only [World.size_alloc] at hx0
            have x0 := hbx.cell 0; have x1 := hbx.cell 1; have x2f := hbx.frozen 0; have x3f := hbx.frozen 1; simp only [List.getElem?_toArray, List.getElem?_cons_zero, List.getElem?_cons_succ] at x0 x1
            clear hj2 k2 hf2 hnb hbx
            have hbw := HRD.out.lt
            obtain ⟨pb, fb, hf', hpb, hr2⟩ := hr2
            have HR2 := Lib.hid hr2; have HFB := Lib.hid hf'; clear hr2 hf'
            go_wp2_with (first | (go_at_call 105; refine (rd_dead1 (Blk.kp HR2.out (((Kp.refl [wr.heap.size] w2).setCell (a := ⟨wr.heap.size, 0, none⟩) _ (.inr (by simp))).setCell (a := ⟨wr.heap.size, 1, none⟩) _ (.inr (by simp))) (by simp; omega)) HFB.out).mono ?_; rintro e w' ⟨rfl, rfl⟩))
            go_ret
            rw [HT.out, HM.out.fail hlt2 HS.out]
            obtain ⟨-, h2, h3, h4, -, -⟩ := list_round HST.out HO.out.lt HOW.out HKP.out HJ1.out HFP.out HAB.out K2.out HJ2.out HF2.out (((Kp.refl [wr.heap.size] w2).setCell (a := ⟨wr.heap.size, 0, none⟩) _ (.inr (by simp))).setCell (a := ⟨wr.heap.size, 1, none⟩) _ (.inr (by simp)))
            exact ⟨none, 0, [], _, fp2, rfl, Own.nil _ _ _, h2, h3, h4, by simp [ab], rfl, _, _, HFB.out, hpb, Blk.kp HR2.out (((Kp.refl [wr.heap.size] w2).setCell (a := ⟨wr.heap.size, 0, none⟩) _ (.inr (by simp))).setCell (a := ⟨wr.heap.size, 1, none⟩) _ (.inr (by simp))) (by simp; omega)⟩
          · have HS := Lib.hid hstep; clear hstep
            go_wp2_with fail
            refine (HONE.out _ _ _ _ HII.out (HRD.out.kp ((Kp.refl [] _).alloc _) (by simp)) (HST.out.kp HJ1.out ((Kp.refl [] _).alloc _) (by simp))).mono ?_
            rintro e w2 ⟨t, x2, fp2, rfl, hj2, k2, hf2, hr2⟩
            rw [HS.out] at hr2
            obtain ⟨rfl, rfl, hr2⟩ := hr2
            have HJ2 := Lib.hid hj2; have K2 := Lib.hid k2; have HF2 := Lib.hid hf2; have HRO := Lib.hid hr2
            have hnb : wr.heap.size ∉ b :: fp' := by
              have h1 := HRD.out.lt
              simp only [List.mem_cons, not_or]
              exact ⟨by omega, fun h => by have := (HST.out.lt HJ1.out _ h).1; omega⟩
            have hbx := (Blk.new wr 56 #[.string ⟨#[]⟩, .string ⟨#[]⟩]).kp k2 hnb
            have HBX := Lib.hid hbx
            have hx0 := k2.size
            simp only [World.size_alloc] at hx0
            have x0 := hbx.cell 0; have x1 := hbx.cell 1; have x2f := hbx.frozen 0; have x3f := hbx.frozen 1; simp only [List.getElem?_toArray, List.getElem?_cons_zero, List.getElem?_cons_succ] at x0 x1
            clear hj2 k2 hf2 hnb hbx
            have hbw := HRD.out.lt
            obtain ⟨pb, hpb, -, hr2⟩ := hr2
            have HR2 := Lib.hid hr2; clear hr2
            have HX := Lib.hid (fun (w3 : World) (k3 : Kp [wr.heap.size] w2 w3) => list_round HST.out HO.out.lt HOW.out HKP.out HJ1.out HFP.out HAB.out K2.out HJ2.out HF2.out k3)
            go_wp2_with (first | (go_at_call 105; refine (rd_dead0 (Blk.kp HR2.out (((Kp.refl [wr.heap.size] w2).setCell (a := ⟨wr.heap.size, 0, none⟩) _ (.inr (by simp))).setCell (a := ⟨wr.heap.size, 1, none⟩) _ (.inr (by simp))) (by simp; omega))).mono ?_; rintro e w' ⟨rfl, rfl⟩) | (at_builtin; refine wpList_app_pair rfl rfl rfl (HX.out _ ((((Kp.refl [wr.heap.size] w2).setCell (a := ⟨wr.heap.size, 0, none⟩) _ (.inr (by simp))).setCell (a := ⟨wr.heap.size, 1, none⟩) _ (.inr (by simp))).alloc _)).1 1 _ (src_row Tryz.underlying24 _ _ _ _ (by simp) rfl (by simp [Value.oneCell'])) (by omega) ?_; intro a2 c2 w4 hown hk4 hn4; have HO4 := Lib.hid hown; have HK4 := Lib.hid hk4; have HN4 := Lib.hid hn4; clear hown hk4 hn4))
            obtain ⟨h1, h2, h3, h4, h5, h6⟩ := HX.out _ ((((Kp.refl [wr.heap.size] w2).setCell (a := ⟨wr.heap.size, 0, none⟩) _ (.inr (by simp))).setCell (a := ⟨wr.heap.size, 1, none⟩) _ (.inr (by simp))).alloc (.cells #[.string ⟨t.1.toArray⟩, .string ⟨t.2.toArray⟩] 56))
            obtain ⟨g1, g2, g3, g4⟩ := list_round2 HST.out h1 h2 h3 h5 h6 (HRO.out.kp ((((Kp.refl [wr.heap.size] w2).setCell (a := ⟨wr.heap.size, 0, none⟩) _ (.inr (by simp))).setCell (a := ⟨wr.heap.size, 1, none⟩) _ (.inr (by simp))).alloc (.cells #[.string ⟨t.1.toArray⟩, .string ⟨t.2.toArray⟩] 56)) (by simp; omega)) HK4.out HN4.out
            go_roundw
            case rel => exact ⟨k + 1, c2, a2, ts ++ [t], x2, fp2, l1, by go_num, rfl, by omega, HM.out.step hlt2 HS.out, by have := HO4.out; show Own _ _ _ _ _ _ _; rw [List.flatMap_append]; simpa [csP] using this, g1, g2, HI.out _ _ _ _ _ HII.out HS.out, g3, h4, g4⟩
            case measure => simp [intOf]; omega
        · have hkn : k = n := by omega
          subst hkn
          have HTS : Hid (ts.length = k) := HM.out.2.1
          go_wp2_with fail
          go_ret
          rw [HT.out, HM.out.done]
          refine ⟨a, c, ts, x, fp', ?_, ?_, HJ1.out, HKP.out, HFP.out, HAB.out, rfl, rfl, HRD.out⟩
          · rw [HTS.out]; rfl
          · rw [HTS.out]; exact HOW.out
    · have HT : Hid (listP m step x0 l = none) := by show _ = _; unfold listP; rw [HF.out]; simp [hle]
      have hlt : ((s.length : Int) - p' < n) := by omega
      clear hle hp1
      go_wp2_with (first | (go_at_call 105; refine (rd_dead0 H1.out).mono ?_; rintro e w' ⟨rfl, rfl⟩) | (go_at_call 107; refine (rd_left _ _ _ _ _ H1.out hs' hp1').mono ?_; rintro e w' ⟨rfl, nq, rfl⟩) | (go_at_call 108; refine (rd_fail _ _ _ _ _ _ _ (Blk.drewN H1.out _)).mono ?_; rintro e w' ⟨rfl, hk2, hr2⟩; have HK2 := Lib.hid hk2; have HR2 := Lib.hid hr2; clear hk2 hr2))
      go_ret
      rw [HT.out]
      have hkk := (HK.out.drewN _).trans HK2.out
      exact ⟨none, 0, [], x0, fp, rfl, Own.nil _ _ _, HST.out.kp HJ.out hkk (fun g hg => by have := (HST.out.lt HJ.out g hg).2; simp [this]), hkk.mono (fun k _ hk => by simp at hk; simp [hk]), fun g hg => .inl hg, by simp [ab], rfl, HR2.out.bad (by decide) hp'⟩

end Go.Proofs.YtemicgccgcmmbaaGreat

/- pack.List of kids, over the contract of the closure that reads one. -/
namespace Go.Proofs.YtemicgccgcmmbaaGreat
set_option linter.unusedVariables false
set_option linter.unusedSimpArgs false
open Go Go.RowKit

abbrev tvK (x : Kd) : Value := .agg x.c
abbrev csK (x : Kd) : List Value := x.c.toList

set_option maxHeartbeats 1000000 in set_option maxRecDepth 100000 in
theorem list_kid_bad (b : Nat) (s : Bs) (m : Int) (f : Value) (w : World) (h : RdBad w b s) :
    Calls Tryz.prog 68 #[.pointer (some ⟨b, 0, none⟩), .int .i64 m, f] w fun e w' => e = .returned (.slice none 0 0) ∧ w = w' := by
  obtain ⟨p, f, hf, hp, h⟩ := h
  have H := Lib.hid h; have HF := Lib.hid hf; clear h hf
  go_enter Tryz.func68, Tryz.ntmps68
  go_wp2_with (go_at_call 105; refine (rd_dead1 H.out HF.out).mono ?_; rintro e w' ⟨rfl, rfl⟩)
  go_ret
  exact ⟨rfl, rfl⟩

set_option maxHeartbeats 1000000 in set_option maxRecDepth 100000 in
theorem list_kid {α : Type} {step : α → Bs → Option (α × Kd × Bs)} {J : α → World → List Nat → Prop} {I : α → Bs → Prop} (b m : Nat) (s l : Bs) (x0 : α) (fp : List Nat) (caps : Array Value) (w : World)
    (hst : St b J) (hI0 : ∀ n l', freeP m l = some (n, l') → I x0 l') (hI : ∀ x l x' t l', I x l → step x l = some (x', t, l') → I x' l') (hone : ∀ x l fp w, I x l → RdOk w b s l → J x w fp → Calls Tryz.prog 69 (#[.pointer (some ⟨b, 0, none⟩)] ++ caps) w (OnePost tvK J b s fp w (step x l)))
    (h : RdOk w b s l) (hj : J x0 w fp) (hs : s.length ≤ 3909374676453) (hm0 : 0 < m) (hm : m ≤ 9223372036854775807) :
    Calls Tryz.prog 68 #[.pointer (some ⟨b, 0, none⟩), .int .i64 m, .func (.func 69) #[] caps] w (ListPost csK 59 33 J b s fp w (listP m step x0 l)) := by
  have hm' : m < 18446744073709551616 := by omega
  have hs' : s.length ≤ 140737488351232 := by omega
  have HO := Lib.hid h; have HST := Lib.hid hst; have HONE := Lib.hid hone; have HJ := Lib.hid hj; have HI0 := Lib.hid hI0; have HI := Lib.hid hI; clear hst hone hj hI0 hI
  obtain ⟨p, hp, hl, h⟩ := h
  obtain ⟨c0, c1, c2, c3⟩ := h.cells
  have H := Lib.hid h; clear h hl
  have hp' : p ≤ s.length := by omega
  clear hp
  rcases hf : freeP m l with _ | ⟨n, l0⟩
  · have HF := Lib.hid hf; clear hf
    have HT : Hid (listP m step x0 l = none) := by show _ = _; unfold listP; rw [HF.out]
    go_enter Tryz.func68, Tryz.ntmps68
    go_wp2_with (first | (go_at_call 105; refine (rd_dead0 H.out).mono ?_; rintro e w' ⟨rfl, rfl⟩))
    refine (rd_free _ _ _ _ _ HO.out hs' hm').mono ?_
    rintro e w1 h1
    rw [HF.out] at h1
    obtain ⟨rfl, hk1, hr1⟩ := h1
    have HR := Lib.hid hr1; have HK := Lib.hid hk1; clear hk1
    obtain ⟨p', f', hf', hp1, hr1⟩ := hr1
    have H1 := Lib.hid hr1; have HF1 := Lib.hid hf'; clear hr1 hf'
    go_wp2_with (first | (go_at_call 105; refine (rd_dead1 H1.out HF1.out).mono ?_; rintro e w' ⟨rfl, rfl⟩))
    go_ret
    rw [HT.out]
    exact ⟨none, 0, [], x0, fp, rfl, Own.nil _ _ _, HST.out.kp HJ.out HK.out (fun g hg => by have := (HST.out.lt HJ.out g hg).2; simp [this]), HK.out.mono (fun k _ hk => by simp at hk; simp [hk]), fun g hg => .inl hg, by simp [ab], rfl, HR.out⟩
  · have HF := Lib.hid hf
    obtain ⟨hsuf, hlen, hnm⟩ := freeP_rest hf
    clear hf hsuf
    go_enter Tryz.func68, Tryz.ntmps68
    go_wp2_with (first | (go_at_call 105; refine (rd_dead0 H.out).mono ?_; rintro e w' ⟨rfl, rfl⟩))
    refine (rd_free _ _ _ _ _ HO.out hs' hm').mono ?_
    rintro e w1 h1
    rw [HF.out] at h1
    obtain ⟨rfl, hk1, hr1⟩ := h1
    have HR := Lib.hid hr1; have HK := Lib.hid hk1; clear hk1
    obtain ⟨p', hp1, hl1, hr1⟩ := hr1
    have H1 := Lib.hid hr1; clear hr1 hl1
    have hp1' : p' ≤ s.length := by omega
    by_cases hle : n ≤ l0.length
    · have HT : Hid (listP m step x0 l = manyP step n x0 l0) := by show _ = _; unfold listP; rw [HF.out]; simp [hle]
      have hlt : ¬ ((s.length : Int) - p' < n) := by omega
      have hns : n ≤ 3909374676453 := by omega
      clear hle hlen hp1 hnm hp'
      go_wp2_with (first | (go_at_call 105; refine (rd_dead0 H1.out).mono ?_; rintro e w' ⟨rfl, rfl⟩) | (go_at_call 107; refine (rd_left _ _ _ _ _ H1.out hs' hp1').mono ?_; rintro e w' ⟨rfl, nq, rfl⟩))
      go_loopw [9, 10, 33] (fun v _ i wr => ∃ (k c : Nat) (a : Option Addr) (ts : List Kd) (x : α) (fp' : List Nat) (l' : Bs), i = .int .u64 (k : Nat) ∧ v = .slice a k c ∧ k ≤ n ∧ Hid (Mid step n x0 l0 k x ts l') ∧ Hid (Own wr 59 33 a k c (ts.flatMap csK)) ∧ Hid (J x wr fp') ∧ Hid (RdOk wr b s l') ∧ Hid (I x l') ∧ Hid (Kp (b :: fp) w wr) ∧ Hid (∀ g ∈ fp', g ∈ fp ∨ w.heap.size ≤ g) ∧ Hid (∀ g ∈ ab a, w.heap.size ≤ g ∧ g ∉ fp')) (fun _ _ i _ => n - (intOf i).toNat)
      case atStart => exact ⟨0, 0, none, [], x0, fp, l0, rfl, rfl, Nat.zero_le _, Mid.start _ _ _ _, Own.nil _ _ _, HST.out.kp HJ.out (HK.out.drewN _) (fun g hg => by have := (HST.out.lt HJ.out g hg).2; simp [this]), HR.out.kp ((Kp.refl [] _).drewN _) (by simp), HI0.out _ _ HF.out, (HK.out.drewN _).mono (fun k _ hk => by simp at hk; simp [hk]), fun g hg => .inl hg, by simp [Hid, ab]⟩
      case round =>
        obtain ⟨k, c, a, ts, x, fp', l', rfl, rfl, hk, HM, HOW, HJ1, HRD, HII, HKP, HFP, HAB⟩ := hrel
        by_cases hlt2 : k < n
        · rcases hstep : step x l' with _ | ⟨x1, t1, l1⟩
          · have HS := Lib.hid hstep; clear hstep
            go_wp2_with fail
            refine (HONE.out _ _ _ _ HII.out (HRD.out.kp ((Kp.refl [] _).alloc _) (by simp)) (HST.out.kp HJ1.out ((Kp.refl [] _).alloc _) (by simp))).mono ?_
            rintro e w2 ⟨t, x2, fp2, rfl, hj2, k2, hf2, hr2⟩
            rw [HS.out] at hr2
            have HJ2 := Lib.hid hj2; have K2 := Lib.hid k2; have HF2 := Lib.hid hf2
            have hnb : wr.heap.size ∉ b :: fp' := by
              have h1 := HRD.out.lt
              simp only [List.mem_cons, not_or]
              exact ⟨by omega, fun h => by have := (HST.out.lt HJ1.out _ h).1; omega⟩
            have hbx := (Blk.new wr 59 Kd.zero.c).kp k2 hnb
            have HBX := Lib.hid hbx
            have hx0 := k2.size
            simp only [World.size_alloc] at hx0
            have x0 := own?_blk hbx
            clear hj2 k2 hf2 hnb hbx
            have hbw := HRD.out.lt
            obtain ⟨pb, fb, hf', hpb, hr2⟩ := hr2
            have HR2 := Lib.hid hr2; have HFB := Lib.hid hf'; clear hr2 hf'
            go_wp2_with (first | (go_at_call 105; refine (rd_dead1 (Blk.kp HR2.out ((Kp.refl [wr.heap.size] w2).setRow wr.heap.size _ (by simp)) (by simp; omega)) HFB.out).mono ?_; rintro e w' ⟨rfl, rfl⟩))
            go_ret
            rw [HT.out, HM.out.fail hlt2 HS.out]
            obtain ⟨-, h2, h3, h4, -, -⟩ := list_round HST.out HO.out.lt HOW.out HKP.out HJ1.out HFP.out HAB.out K2.out HJ2.out HF2.out ((Kp.refl [wr.heap.size] w2).setRow wr.heap.size _ (by simp))
            exact ⟨none, 0, [], _, fp2, rfl, Own.nil _ _ _, h2, h3, h4, by simp [ab], rfl, _, _, HFB.out, hpb, Blk.kp HR2.out ((Kp.refl [wr.heap.size] w2).setRow wr.heap.size _ (by simp)) (by simp; omega)⟩
          · have HS := Lib.hid hstep; clear hstep
            go_wp2_with fail
            refine (HONE.out _ _ _ _ HII.out (HRD.out.kp ((Kp.refl [] _).alloc _) (by simp)) (HST.out.kp HJ1.out ((Kp.refl [] _).alloc _) (by simp))).mono ?_
            rintro e w2 ⟨t, x2, fp2, rfl, hj2, k2, hf2, hr2⟩
            rw [HS.out] at hr2
            obtain ⟨rfl, rfl, hr2⟩ := hr2
            have HJ2 := Lib.hid hj2; have K2 := Lib.hid k2; have HF2 := Lib.hid hf2; have HRO := Lib.hid hr2
            have hnb : wr.heap.size ∉ b :: fp' := by
              have h1 := HRD.out.lt
              simp only [List.mem_cons, not_or]
              exact ⟨by omega, fun h => by have := (HST.out.lt HJ1.out _ h).1; omega⟩
            have hbx := (Blk.new wr 59 Kd.zero.c).kp k2 hnb
            have HBX := Lib.hid hbx
            have hx0 := k2.size
            simp only [World.size_alloc] at hx0
            have x0 := own?_blk hbx
            clear hj2 k2 hf2 hnb hbx
            have hbw := HRD.out.lt
            obtain ⟨pb, hpb, -, hr2⟩ := hr2
            have HR2 := Lib.hid hr2; clear hr2
            have HX := Lib.hid (fun (w3 : World) (k3 : Kp [wr.heap.size] w2 w3) => list_round HST.out HO.out.lt HOW.out HKP.out HJ1.out HFP.out HAB.out K2.out HJ2.out HF2.out k3)
            go_wp2_with (first | (go_at_call 105; refine (rd_dead0 (Blk.kp HR2.out ((Kp.refl [wr.heap.size] w2).setRow wr.heap.size _ (by simp)) (by simp; omega))).mono ?_; rintro e w' ⟨rfl, rfl⟩) | (at_builtin; refine wpList_app_kid rfl rfl rfl (HX.out _ (((Kp.refl [wr.heap.size] w2).setRow wr.heap.size _ (by simp)).alloc _)).1 1 _ (src_row Tryz.underlying26 _ _ _ _ (by simp) (Kd.c_size _) (Kd.c_one _)) (by omega) ?_; intro a2 c2 w4 hown hk4 hn4; have HO4 := Lib.hid hown; have HK4 := Lib.hid hk4; have HN4 := Lib.hid hn4; clear hown hk4 hn4))
            obtain ⟨h1, h2, h3, h4, h5, h6⟩ := HX.out _ (((Kp.refl [wr.heap.size] w2).setRow wr.heap.size _ (by simp)).alloc (.cells t.c 59))
            obtain ⟨g1, g2, g3, g4⟩ := list_round2 HST.out h1 h2 h3 h5 h6 (HRO.out.kp (((Kp.refl [wr.heap.size] w2).setRow wr.heap.size _ (by simp)).alloc (.cells t.c 59)) (by simp; omega)) HK4.out HN4.out
            go_roundw
            case rel => exact ⟨k + 1, c2, a2, ts ++ [t], x2, fp2, l1, by go_num, rfl, by omega, HM.out.step hlt2 HS.out, by have := HO4.out; show Own _ _ _ _ _ _ _; rw [List.flatMap_append]; simpa [csK] using this, g1, g2, HI.out _ _ _ _ _ HII.out HS.out, g3, h4, g4⟩
            case measure => simp [intOf]; omega
        · have hkn : k = n := by omega
          subst hkn
          have HTS : Hid (ts.length = k) := HM.out.2.1
          go_wp2_with fail
          go_ret
          rw [HT.out, HM.out.done]
          refine ⟨a, c, ts, x, fp', ?_, ?_, HJ1.out, HKP.out, HFP.out, HAB.out, rfl, rfl, HRD.out⟩
          · rw [HTS.out]; rfl
          · rw [HTS.out]; exact HOW.out
    · have HT : Hid (listP m step x0 l = none) := by show _ = _; unfold listP; rw [HF.out]; simp [hle]
      have hlt : ((s.length : Int) - p' < n) := by omega
      clear hle hp1
      go_wp2_with (first | (go_at_call 105; refine (rd_dead0 H1.out).mono ?_; rintro e w' ⟨rfl, rfl⟩) | (go_at_call 107; refine (rd_left _ _ _ _ _ H1.out hs' hp1').mono ?_; rintro e w' ⟨rfl, nq, rfl⟩) | (go_at_call 108; refine (rd_fail _ _ _ _ _ _ _ (Blk.drewN H1.out _)).mono ?_; rintro e w' ⟨rfl, hk2, hr2⟩; have HK2 := Lib.hid hk2; have HR2 := Lib.hid hr2; clear hk2 hr2))
      go_ret
      rw [HT.out]
      have hkk := (HK.out.drewN _).trans HK2.out
      exact ⟨none, 0, [], x0, fp, rfl, Own.nil _ _ _, HST.out.kp HJ.out hkk (fun g hg => by have := (HST.out.lt HJ.out g hg).2; simp [this]), hkk.mono (fun k _ hk => by simp at hk; simp [hk]), fun g hg => .inl hg, by simp [ab], rfl, HR2.out.bad (by decide) hp'⟩

end Go.Proofs.YtemicgccgcmmbaaGreat

/- A piece of a row of cells. -/
namespace Go.Proofs.YtemicgccgcmmbaaGreat
set_option linter.unusedVariables false
set_option linter.unusedSimpArgs false
open Go Go.RowKit

theorem rowAt?_sub {w : World} {b o n : Nat} {cs : Array Value} (h : rowAt? w ⟨b, o, none⟩ n = some cs) (i m : Nat) (hm : i + m ≤ n) : rowAt? w ⟨b, o + i, none⟩ m = some (cs.extract i (i + m)) := by
  unfold rowAt? at *
  split at h
  · rename_i c e f hb
    rw [hb]
    simp only [Option.isSome_none, Bool.false_eq_true, if_false] at h ⊢
    split at h
    · rename_i hle
      simp only [Option.some.injEq] at h
      subst h
      rw [if_pos (by omega), Array.extract_extract]
      congr 1
      rw [Nat.add_assoc, Nat.min_eq_left (by omega)]
    · cases h
  · cases h

end Go.Proofs.YtemicgccgcmmbaaGreat

/- Rows of pairs, texts, kids as what an append takes. -/
namespace Go.Proofs.YtemicgccgcmmbaaGreat
set_option linter.unusedVariables false
set_option linter.unusedSimpArgs false
open Go Go.RowKit

theorem flat_at {T : Type} (cells : T → List Value) (size : Nat) (hsz : ∀ x, (cells x).length = size) : ∀ (l : List T) (j : Nat) (u : Value), (l.flatMap cells)[j]? = some u → ∃ i x k, l[i]? = some x ∧ (cells x)[k]? = some u ∧ j = i * size + k
  | [], j, u, h => by simp at h
  | x :: t, j, u, h => by
    rw [List.flatMap_cons] at h
    by_cases hj : j < size
    · rw [List.getElem?_append_left (by rw [hsz]; exact hj)] at h
      exact ⟨0, x, j, rfl, h, by omega⟩
    · rw [List.getElem?_append_right (by rw [hsz]; omega), hsz] at h
      obtain ⟨i, y, k, h1, h2, h3⟩ := flat_at cells size hsz t _ _ h
      exact ⟨i + 1, y, k, by simpa using h1, h2, by rw [Nat.succ_mul]; omega⟩
theorem flat_len {T : Type} (cells : T → List Value) (size : Nat) (hsz : ∀ x, (cells x).length = size) : ∀ (l : List T), (l.flatMap cells).length = l.length * size
  | [] => by simp
  | x :: t => by rw [List.flatMap_cons, List.length_append, hsz, flat_len cells size hsz t, List.length_cons, Nat.succ_mul]; omega

abbrev csS (t : Bs) : List Value := [.string ⟨t.toArray⟩]
theorem csS_map (l : List Bs) : l.flatMap csS = l.map fun t => .string ⟨t.toArray⟩ := by
  induction l with
  | nil => rfl
  | cons x t ih => simp [List.flatMap_cons, ih]

theorem src_pairs {w : World} {ad : Addr} {l : List Pr} (h : PsAt w (some ad) l) (c : Nat) : Src Tryz.prog 2 24 (.slice (some ad) l.length c) l.length (l.flatMap csP) w := by
  refine Src.ofSlice w Tryz.underlying24 ad _ c _ (flat_len csP 2 (fun _ => rfl) l) ?_ ?_
  · intro j u hj
    obtain ⟨i, x, k, h1, h2, rfl⟩ := flat_at csP 2 (fun _ => rfl) l j u hj
    obtain ⟨b, o, ha, _, h3, h4⟩ := h i x h1
    cases ha
    rw [Addr.add_lit]
    match k, h2 with
    | 0, h2 => simp at h2; subst h2; exact h3
    | 1, h2 => simp at h2; subst h2; exact h4
  · intro u hu
    obtain ⟨x, _, hx⟩ := List.mem_flatMap.1 hu
    simp at hx; rcases hx with rfl | rfl <;> rfl
theorem src_texts {w : World} {ad : Addr} {l : List Bs} (h : SsAt w (some ad) l) (c : Nat) : Src Tryz.prog 1 25 (.slice (some ad) l.length c) l.length (l.flatMap csS) w := by
  refine Src.ofSlice w Tryz.underlying25 ad _ c _ (flat_len csS 1 (fun _ => rfl) l) ?_ ?_
  · intro j u hj
    obtain ⟨i, x, k, h1, h2, rfl⟩ := flat_at csS 1 (fun _ => rfl) l j u hj
    obtain ⟨b, o, ha, _, h3⟩ := h i x h1
    cases ha
    rw [Addr.add_lit]
    match k, h2 with
    | 0, h2 => simp at h2; subst h2; simpa using h3
  · intro u hu
    obtain ⟨x, _, hx⟩ := List.mem_flatMap.1 hu
    simp at hx; subst hx; rfl
theorem src_kids {w : World} {ad : Addr} {l : List Kd} (h : KsAt w (some ad) l) (c : Nat) : Src Tryz.prog 33 26 (.slice (some ad) l.length c) l.length (l.flatMap csK) w := by
  refine Src.ofSlice w Tryz.underlying26 ad _ c _ (flat_len csK 33 (fun x => by simp) l) ?_ ?_
  · intro j u hj
    obtain ⟨i, x, k, h1, h2, rfl⟩ := flat_at csK 33 (fun x => by simp) l j u hj
    obtain ⟨b, o, ha, _, h3⟩ := h i x h1
    cases ha
    have := (rowAt?_cell h3).2 k u (by simpa using h2)
    simp only [Addr.add_lit] at this
    rw [Addr.add_lit, ← Nat.add_assoc]
    exact this
  · intro u hu
    obtain ⟨x, _, hx⟩ := List.mem_flatMap.1 hu
    exact Kd.c_one x u hx

theorem own_empty {w : World} {e : TypeId} {size g : Nat} (hg : g = w.heap.size) : Own (w.alloc (.cells #[] e)) e size (some ⟨g, 0, none⟩) 0 0 [] := by
  subst hg
  exact ⟨by simp, .inr ⟨w.heap.size, 0, #[], rfl, Nat.zero_le _, Blk.new w e #[], Nat.le_refl _, Nat.zero_le _, by simp, by simp⟩⟩

theorem run_eql_nilsl {P : Program} {w : World} (t e : TypeId) (a : Option Addr) (n c : Nat) (h : P.underlying t = some (.slice e)) : (binOp .eql t (.slice a n c) (.slice none 0 0)).run P w = .ok (.bool a.isNone) w := by
  simp only [binOp, Sem.run_bind, run_equal_slice_nil w t e a n c h, Result.andThen_ok, Sem.run_pure]
@[go_sem] theorem eql_nil_ps (a : Option Addr) (n c : Nat) (w : World) : (binOp .eql 24 (.slice a n c) (.slice none 0 0)).run Tryz.prog w = .ok (.bool a.isNone) w := run_eql_nilsl _ _ a n c Tryz.underlying24
@[go_sem] theorem eql_nil_ss (a : Option Addr) (n c : Nat) (w : World) : (binOp .eql 25 (.slice a n c) (.slice none 0 0)).run Tryz.prog w = .ok (.bool a.isNone) w := run_eql_nilsl _ _ a n c Tryz.underlying25
@[go_sem] theorem eql_nil_ks (a : Option Addr) (n c : Nat) (w : World) : (binOp .eql 26 (.slice a n c) (.slice none 0 0)).run Tryz.prog w = .ok (.bool a.isNone) w := run_eql_nilsl _ _ a n c Tryz.underlying26

end Go.Proofs.YtemicgccgcmmbaaGreat
