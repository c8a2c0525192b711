/- A block of 64 bytes is taken in, by the program. -/
import Derived.Test.YtemicgccgcmmbaaGreatZ6
import Derived.StillTailTactics
import Derived.Deep.Cut
import Derived.Test.YtemicgccgcmmbaaGreatZ1
import Derived.Deep.Slices
import Derived.ChangeArms
import Derived.ShutString
import Derived.ChangeOld
import Derived.SizedLaws
import Derived.Lib.SmallJoins
import Derived.Test.YtemicgccgcmmbaaGreatZ2
namespace Go.Proofs.YtemicgccgcmmbaaGreat
set_option linter.unusedVariables false
set_option linter.unusedSimpArgs false
open Go Go.RowKit

/-- The 64 words so far. -/
def fillW (l : List W32) : List W32 := l ++ List.replicate (64 - l.length) 0
theorem fillW_len {l : List W32} (h : l.length ≤ 64) : (fillW l).length = 64 := by simp [fillW]; omega
theorem fillW_set {l : List W32} (x : W32) (h : l.length < 64) : (fillW l).set l.length x = fillW (l ++ [x]) := by
  unfold fillW
  rw [List.set_append_right _ _ (by omega), Nat.sub_self]
  obtain ⟨m, hm⟩ : ∃ m, 64 - l.length = m + 1 := ⟨63 - l.length, by omega⟩
  rw [hm, List.replicate_succ, List.set_cons_zero, List.append_assoc]
  simp
  omega
theorem fillW_get {l : List W32} {i : Nat} (h : i < l.length) : (fillW l)[i]? = l[i]? := by
  unfold fillW; rw [List.getElem?_append_left h]
theorem wC_set (l : List W32) (i : Nat) (x : W32) : (wC l).toArray.setIfInBounds i (.int .u32 (W x)) = (wC (l.set i x)).toArray := by
  simp [wC, List.map_set]

theorem words_len : ∀ (n : Nat) (l : Bs), l.length = 4 * n → (words l).length = n
  | 0, l, h => by
    have : l = [] := List.eq_nil_of_length_eq_zero (by omega)
    subst this; rfl
  | n + 1, a :: b :: c :: d :: l, h => by
    simp only [List.length_cons] at h
    simp only [words, List.length_cons, words_len n l (by omega)]
  | n + 1, [], h => by simp at h
  | n + 1, [_], h => by simp at h; omega
  | n + 1, [_, _], h => by simp at h; omega
  | n + 1, [_, _, _], h => by simp at h; omega
theorem words_get : ∀ (n : Nat) (l : Bs) (k : Nat), l.length = 4 * n → k < n → ∃ a b c d, l[4 * k]? = some a ∧ l[4 * k + 1]? = some b ∧ l[4 * k + 2]? = some c ∧ l[4 * k + 3]? = some d ∧ (words l)[k]? = some (word a b c d)
  | 0, _, k, _, h => by omega
  | n + 1, a :: b :: c :: d :: l, 0, h, _ => ⟨a, b, c, d, rfl, rfl, rfl, rfl, rfl⟩
  | n + 1, a :: b :: c :: d :: l, k + 1, h, hk => by
    simp only [List.length_cons] at h
    obtain ⟨x, y, z, u, h1, h2, h3, h4, h5⟩ := words_get n l k (by omega) (by omega)
    refine ⟨x, y, z, u, ?_, ?_, ?_, ?_, ?_⟩
    · rw [show 4 * (k + 1) = 4 * k + 1 + 1 + 1 + 1 by omega]; simpa using h1
    · rw [show 4 * (k + 1) + 1 = 4 * k + 1 + 1 + 1 + 1 + 1 by omega]; simpa using h2
    · rw [show 4 * (k + 1) + 2 = 4 * k + 2 + 1 + 1 + 1 + 1 by omega]; simpa using h3
    · rw [show 4 * (k + 1) + 3 = 4 * k + 3 + 1 + 1 + 1 + 1 by omega]; simpa using h4
    · simpa [words] using h5
  | n + 1, [], _, h, _ => by simp at h
  | n + 1, [_], _, h, _ => by simp at h; omega
  | n + 1, [_, _], _, h, _ => by simp at h; omega
  | n + 1, [_, _, _], _, h, _ => by simp at h; omega

theorem bC_get (l : Bs) (i : Nat) : (bC l).toArray[i]? = (l[i]?).map fun b => .int .u8 (b.toNat : Int) := by simp [bC]

theorem fill_next {wr : World} {B : Nat} {t : TypeId} {l : List W32} {k : Nat} {x : W32} (h : Blk wr B t (wC (fillW (l.take k))).toArray) (hk : (l.take k).length = k) (h64 : k < 64) (hx : l[k]? = some x) :
    Blk (wr.setCell ⟨B, k, none⟩ (.int .u32 (W x))) B t (wC (fillW (l.take (k + 1)))).toArray := by
  have := h.set k (.int .u32 (W x))
  rw [wC_set] at this
  have e := fillW_set (l := l.take k) x (by omega)
  rw [hk] at e
  rw [e] at this
  rwa [List.take_add_one, hx]

theorem sched_snoc : ∀ (n : Nat) (l : List W32), sched (n + 1) l = sched n l ++ [wNext (sched n l)]
  | 0, l => rfl
  | n + 1, l => by rw [sched, sched_snoc n (l ++ [wNext l])]; rfl
theorem sched_len : ∀ (n : Nat) (l : List W32), (sched n l).length = l.length + n
  | 0, l => rfl
  | n + 1, l => by rw [sched, sched_len n]; simp; omega

/-- The schedule of so many words. -/
def sch (bs : Bs) (k : Nat) : List W32 := sched (k - 16) (words bs)
theorem sch_len {bs : Bs} {k : Nat} (hl : bs.length = 64) (hk : 16 ≤ k) : (sch bs k).length = k := by
  unfold sch; rw [sched_len, words_len 16 bs hl]; omega
theorem sch_next {bs : Bs} {k : Nat} (hl : bs.length = 64) (hk : 16 ≤ k) : ∃ a b c d, (sch bs k)[k - 16]? = some a ∧ (sch bs k)[k - 15]? = some b ∧ (sch bs k)[k - 7]? = some c ∧ (sch bs k)[k - 2]? = some d ∧ sch bs (k + 1) = sch bs k ++ [wMix a b c d] := by
  have h := sch_len hl hk
  have key : ∀ i, i < k → (sch bs k)[i]? = some ((sch bs k).getD i 0) := fun i hi => by
    rw [List.getD_eq_getElem?_getD, List.getElem?_eq_getElem (by omega)]; rfl
  refine ⟨_, _, _, _, key _ (by omega), key _ (by omega), key _ (by omega), key _ (by omega), ?_⟩
  have e : sch bs (k + 1) = sch bs k ++ [wNext (sch bs k)] := by
    unfold sch; rw [show k + 1 - 16 = (k - 16) + 1 by omega, sched_snoc]
  rw [e]
  unfold wNext
  rw [h]
theorem fill_push {wr : World} {B : Nat} {t : TypeId} {l : List W32} {k : Nat} {x : W32} (h : Blk wr B t (wC (fillW l)).toArray) (hk : l.length = k) (h64 : k < 64) :
    Blk (wr.setCell ⟨B, k, none⟩ (.int .u32 (W x))) B t (wC (fillW (l ++ [x]))).toArray := by
  have := h.set k (.int .u32 (W x))
  rw [wC_set] at this
  have e := fillW_set (l := l) x (by omega)
  rw [hk] at e
  rwa [e] at this
/-- A cell of the row is written (over). -/
theorem over_set {wr w2 : World} {B : Nat} {t : TypeId} {l : List W32} {k : Nat} {x : W32} (h : Blk wr B t (wC l).toArray) (hk : k < l.length) {bs : List Obj} {n : Nat} (hw : (ext (wr.setCell ⟨B, k, none⟩ (.int .u32 (W x))) bs n).drew = w2) :
    Blk w2 B t (wC (l.set k x)).toArray ∧ Kp [B] wr w2 ∧ w2.cell? ⟨B, k, none⟩ = some (.int .u32 (W x)) ∧ w2.frozen? ⟨B, k, none⟩ = false ∧ B < w2.heap.size := by
  subst hw
  have h1 := h.set k (.int .u32 (W x))
  rw [wC_set] at h1
  have h2 := (h1.kp ((Kp.refl [] _).ext bs n) (by simp)).drew
  refine ⟨h2, (((Kp.refl [B] _).setCell _ (.inr (by simp))).ext _ _).drew, ?_, h2.frozen k, h2.lt⟩
  rw [h2.cell, wC_get]
  simp [hk]
theorem over_set2 {wr w2 : World} {B : Nat} {t : TypeId} {l : List W32} {k : Nat} {x : W32} (h : Blk wr B t (wC l).toArray) (hk : k < l.length) (hw : (wr.setCell ⟨B, k, none⟩ (.int .u32 (W x))).drew = w2) :
    Blk w2 B t (wC (l.set k x)).toArray ∧ Kp [B] wr w2 ∧ w2.cell? ⟨B, k, none⟩ = some (.int .u32 (W x)) ∧ w2.frozen? ⟨B, k, none⟩ = false ∧ B < w2.heap.size :=
  over_set (bs := []) (n := 0) h hk (by rw [← hw, ← ext_zero])
theorem wMix_eq (a b c d : W32) : a + c + (ror b 7 ^^^ ror b 18 ^^^ b >>> 3) + (ror d 17 ^^^ ror d 19 ^^^ d >>> 10) = wMix a b c d := by
  unfold wMix
  rw [UInt32.add_assoc a c, UInt32.add_comm c, ← UInt32.add_assoc]

theorem shaK_len : shaK.length = 64 := by decide
@[go_sem] theorem set_z8 (x0 x1 x2 x3 x4 x5 x6 x7 : Value) : (((((((((wC z8).set 0 x0).set 1 x1).set 2 x2).set 3 x3).set 4 x4).set 5 x5).set 6 x6).set 7 x7).toArray = #[x0, x1, x2, x3, x4, x5, x6, x7] := rfl
@[go_sem] theorem len_z8 : (wC z8).length = 8 := rfl
@[go_sem] theorem ne_z8 : (wC z8 = []) = False := by simp [wC, z8]
@[go_sem] theorem spl_v8 (v : V8) (x0 x1 x2 x3 x4 x5 x6 x7 : Value) : spl (wC v.l).toArray 0 #[x0, x1, x2, x3, x4, x5, x6, x7] = #[x0, x1, x2, x3, x4, x5, x6, x7] := spl_whole _ _ rfl
@[go_sem] theorem wC_v8 (v : V8) : (wC v.l).length = 8 := rfl
@[go_sem] theorem okCells_8 (y0 y1 y2 y3 y4 y5 y6 y7 : Int) : okCells #[.int .u32 y0, .int .u32 y1, .int .u32 y2, .int .u32 y3, .int .u32 y4, .int .u32 y5, .int .u32 y6, .int .u32 y7] = true := rfl
theorem one_eq (v : V8) (k w : W32) : v.h + k + w + (ror v.e 6 ^^^ ror v.e 11 ^^^ ror v.e 25) + (v.e &&& v.f ^^^ ~~~v.e &&& v.g) = v.one k w := by
  unfold V8.one
  generalize (ror v.e 6 ^^^ ror v.e 11 ^^^ ror v.e 25) = p
  generalize (v.e &&& v.f ^^^ ~~~v.e &&& v.g) = q
  apply UInt32.toNat_inj.1
  simp only [UInt32.toNat_add]
  first | done | omega
@[go_sem] theorem W_not (x : W32) : bits .xor .u32 (if IntKind.u32.signed = true then -1 else IntKind.u32.max) (W x) = W (~~~x) := by
  have h : (if IntKind.u32.signed = true then -1 else IntKind.u32.max) = ((4294967295 : Nat) : Int) := by decide
  rw [h]
  unfold W
  rw [u32_xor_nat _ _ (by decide) x.toNat_lt]
  congr 1
theorem step_c (v : V8) (k w : W32) : #[Value.int .u32 (W (v.h + k + w + (ror v.e 6 ^^^ ror v.e 11 ^^^ ror v.e 25) + (v.e &&& v.f ^^^ ~~~v.e &&& v.g) + ((ror v.a 2 ^^^ ror v.a 13 ^^^ ror v.a 22) + (v.a &&& v.b ^^^ v.a &&& v.c ^^^ v.b &&& v.c)))),
    .int .u32 (W v.a), .int .u32 (W v.b), .int .u32 (W v.c), .int .u32 (W (v.d + (v.h + k + w + (ror v.e 6 ^^^ ror v.e 11 ^^^ ror v.e 25) + (v.e &&& v.f ^^^ ~~~v.e &&& v.g)))), .int .u32 (W v.e), .int .u32 (W v.f), .int .u32 (W v.g)] = (wC (v.step k w).l).toArray := by
  rw [one_eq]; rfl
theorem spl_get {c cs : Array Value} {o k : Nat} (h : k < cs.size) (ho : o + cs.size ≤ c.size) : (spl c o cs)[o + k]? = cs[k]? := by
  unfold spl
  simp only [List.getElem?_toArray]
  rw [List.append_assoc, List.getElem?_append_right (by simp; omega)]
  simp only [List.length_take, Array.length_toList]
  rw [show min o c.size = o by omega, Nat.add_sub_cancel_left, List.getElem?_append_left (by simpa using h)]
  simp
theorem spl_set {c cs : Array Value} {o k : Nat} {x : Value} (h : k < cs.size) (ho : o + cs.size ≤ c.size) : (spl c o cs).setIfInBounds (o + k) x = spl c o (cs.setIfInBounds k x) := by
  obtain ⟨l⟩ := c
  obtain ⟨m⟩ := cs
  simp only [List.size_toArray] at h ho
  unfold spl
  simp only [List.setIfInBounds_toArray, List.size_toArray, List.length_set]
  congr 1
  rw [List.append_assoc, List.append_assoc, List.set_append_right _ _ (by simp; omega)]
  simp only [List.length_take]
  rw [show min o l.length = o by omega, Nat.add_sub_cancel_left, List.set_append_left _ _ h]
theorem spl_self {c cs : Array Value} {o n : Nat} (h : c.extract o (o + n) = cs) (ho : o + n ≤ c.size) : spl c o cs = c := by
  obtain ⟨l⟩ := c
  subst h
  simp only [List.size_toArray] at ho
  unfold spl
  simp only [List.extract_toArray, List.size_toArray]
  congr 1
  rw [List.extract_eq_take_drop, show o + n - o = n by omega, List.length_take, List.length_drop, show min n (l.length - o) = n by omega, ← List.drop_drop, List.append_assoc, List.take_append_drop, List.take_append_drop]
/-- The first so many words are sums. -/
def mixL (x y : V8) (k : Nat) : List W32 := (x.add y).l.take k ++ x.l.drop k
theorem mixL_len (x y : V8) (k : Nat) (h : k ≤ 8) : (mixL x y k).length = 8 := by simp [mixL, V8.l]; omega
theorem mixL_get (x y : V8) (k : Nat) (h : k < 8) : (mixL x y k)[k]? = x.l[k]? := by
  unfold mixL
  rw [List.getElem?_append_right (by simp [V8.l]; omega)]
  simp [V8.l]; congr 1; omega
theorem add_get (x y : V8) (k : Nat) (a b : W32) (ha : x.l[k]? = some a) (hb : y.l[k]? = some b) : (x.add y).l[k]? = some (a + b) := by
  have h : (x.add y).l = List.zipWith (· + ·) x.l y.l := rfl
  rw [h, List.getElem?_zipWith, ha, hb]
theorem mixL_set (x y : V8) (k : Nat) (z : W32) (h : k < 8) (hz : (x.add y).l[k]? = some z) : (mixL x y k).set k z = mixL x y (k + 1) := by
  unfold mixL
  have h8 : (x.add y).l.length = 8 := rfl
  have h9 : x.l.length = 8 := rfl
  rw [List.set_append_right _ _ (by simp; omega), List.length_take, show min k (x.add y).l.length = k by omega, Nat.sub_self, List.drop_eq_getElem_cons (by omega), List.set_cons_zero, List.take_add_one, hz]
  simp

theorem rounds_snoc (v : V8) (l : List (W32 × W32)) (k w : W32) : rounds v (l ++ [(k, w)]) = (rounds v l).step k w := by
  induction l generalizing v with
  | nil => rfl
  | cons x l ih => obtain ⟨a, b⟩ := x; exact ih _

theorem rot_7 (x : W32) (w : World) : Calls Tryz.prog 134 #[.int .u32 (W x), .int .i64 (-7)] w fun e w' => e = .returned (.int .u32 (W (ror x 7))) ∧ w' = w := (rotate_7 x w).mono fun _ _ h => ⟨h.1, h.2.symm⟩
theorem rot_18 (x : W32) (w : World) : Calls Tryz.prog 134 #[.int .u32 (W x), .int .i64 (-18)] w fun e w' => e = .returned (.int .u32 (W (ror x 18))) ∧ w' = w := (rotate_18 x w).mono fun _ _ h => ⟨h.1, h.2.symm⟩
theorem rot_17 (x : W32) (w : World) : Calls Tryz.prog 134 #[.int .u32 (W x), .int .i64 (-17)] w fun e w' => e = .returned (.int .u32 (W (ror x 17))) ∧ w' = w := (rotate_17 x w).mono fun _ _ h => ⟨h.1, h.2.symm⟩
theorem rot_19 (x : W32) (w : World) : Calls Tryz.prog 134 #[.int .u32 (W x), .int .i64 (-19)] w fun e w' => e = .returned (.int .u32 (W (ror x 19))) ∧ w' = w := (rotate_19 x w).mono fun _ _ h => ⟨h.1, h.2.symm⟩

set_option maxHeartbeats 1000000 in set_option maxRecDepth 100000 in
theorem block_any (g o : Nat) (t : TypeId) (c : Array Value) (v : V8) (bs : Bs) (w : World) (hb : Blk w g t c) (ho : o + 8 ≤ c.size) (hc : c.extract o (o + 8) = (wC v.l).toArray) (hl : bs.length = 64) :
    Calls Tryz.prog 132 #[.pointer (some ⟨g, o, none⟩), .agg (bC bs).toArray] w fun e w' => e = .returned (.tuple #[]) ∧ Kp [g] w w' ∧ Blk w' g t (spl c o (wC (takeIn v bs).l).toArray) := by
  obtain ⟨W0, hW0⟩ : ∃ W0, W0 = (w.alloc (.cells (bC bs).toArray 152)).alloc (.cells (wC z64).toArray 155) := ⟨_, rfl⟩
  have kw : Kp [] w W0 := by rw [hW0]; exact ((Kp.refl [] w).alloc _).alloc _
  have b3 : Blk W0 w.heap.size 152 (bC bs).toArray := by rw [hW0]; exact (Blk.new w _ _).alloc _
  have b4 : Blk W0 (w.heap.size + 1) 155 (wC z64).toArray := by
    rw [hW0]
    have h := Blk.new (w.alloc (.cells (bC bs).toArray 152)) 155 (wC z64).toArray
    simpa using h
  have KW := Lib.hid kw; have B3 := Lib.hid b3; have B4 := Lib.hid b4; have HW0 := Lib.hid hW0; have HB := Lib.hid (hb.kp kw (by simp)); have HL := Lib.hid hl; have HC := Lib.hid hc
  have hg : g < w.heap.size := hb.lt
  have hz : W0.heap.size = w.heap.size + 2 := by rw [hW0]; simp
  have HZ := Lib.hid hz
  have hz1 : w.heap.size + 1 < W0.heap.size := by omega
  clear kw b3 b4 hW0 hb hl hc hz
  go_enter Tryz.func132, Tryz.ntmps132
  go_wp2_with fail
  rw [← HW0.out]
  go_loopw [18] (fun i wr => ∃ k : Nat, i = .int .i64 k ∧ k ≤ 16 ∧ Hid (Kp [w.heap.size + 1] W0 wr) ∧ Hid (Blk wr (w.heap.size + 1) 155 (wC (fillW ((words bs).take k))).toArray)) (fun i _ => 16 - (intOf i).toNat)
  case atStart => exact ⟨0, rfl, Nat.zero_le _, Kp.refl _ _, by show Blk _ _ _ _; simpa [fillW, z64] using B4.out⟩
  case round =>
    obtain ⟨k, rfl, hk, HK, HA⟩ := hrel
    by_cases hlt : k < 16
    · obtain ⟨b0, b1, b2, b3, e0, e1, e2, e3, e4⟩ := words_get 16 bs k (by rw [HL.out]) hlt
      have c0 : wr.cell? ⟨w.heap.size, 4 * k, none⟩ = some (.int .u8 (b0.toNat : Int)) := by rw [(B3.out.kp HK.out (by simp)).cell, bC_get, e0]; rfl
      have c1 : wr.cell? ⟨w.heap.size, 4 * k + 1, none⟩ = some (.int .u8 (b1.toNat : Int)) := by rw [(B3.out.kp HK.out (by simp)).cell, bC_get, e1]; rfl
      have c2 : wr.cell? ⟨w.heap.size, 4 * k + 2, none⟩ = some (.int .u8 (b2.toNat : Int)) := by rw [(B3.out.kp HK.out (by simp)).cell, bC_get, e2]; rfl
      have c3 : wr.cell? ⟨w.heap.size, 4 * k + 3, none⟩ = some (.int .u8 (b3.toNat : Int)) := by rw [(B3.out.kp HK.out (by simp)).cell, bC_get, e3]; rfl
      have hkl : ((words bs).take k).length = k := by rw [List.length_take, words_len 16 bs (by rw [HL.out])]; omega
      obtain ⟨x4, c4⟩ : ∃ x, wr.cell? ⟨w.heap.size + 1, k, none⟩ = some x := by
        rw [HA.out.cell, wC_get]
        have := fillW_len (l := (words bs).take k) (by omega)
        rw [List.getElem?_eq_getElem (by omega)]; exact ⟨_, rfl⟩
      have HKL := Lib.hid hkl; clear hkl
      have hf : wr.frozen? ⟨w.heap.size + 1, k, none⟩ = false := HA.out.frozen k
      have E4 := Lib.hid e4
      clear e0 e1 e2 e3 e4
      go_wp2_with fail
      have i0 : IntKind.i64.wrap (4 * (k : Int)) = 4 * k := IntWalk.i64_in _ (by omega)
      have i1 : IntKind.i64.wrap (4 * (k : Int) + 1) = 4 * k + 1 := IntWalk.i64_in _ (by omega)
      have i2 : IntKind.i64.wrap (4 * (k : Int) + 2) = 4 * k + 2 := IntWalk.i64_in _ (by omega)
      have i3 : IntKind.i64.wrap (4 * (k : Int) + 3) = 4 * k + 3 := IntWalk.i64_in _ (by omega)
      have j0 : (0 : Int) ≤ 4 * (k : Int) ∧ 4 * (k : Int) < 64 := by omega
      have j1 : (0 : Int) ≤ 4 * (k : Int) + 1 ∧ 4 * (k : Int) + 1 < 64 := by omega
      have j2 : (0 : Int) ≤ 4 * (k : Int) + 2 ∧ 4 * (k : Int) + 2 < 64 := by omega
      have j3 : (0 : Int) ≤ 4 * (k : Int) + 3 ∧ 4 * (k : Int) + 3 < 64 := by omega
      have t0 : (4 * (k : Int)).toNat = 4 * k := by omega
      have t1 : (4 * (k : Int) + 1).toNat = 4 * k + 1 := by omega
      have t2 : (4 * (k : Int) + 2).toNat = 4 * k + 2 := by omega
      have t3 : (4 * (k : Int) + 3).toNat = 4 * k + 3 := by omega
      have j4 : (0 : Int) ≤ (k : Int) ∧ (k : Int) < 64 := by omega
      go_still_tail 31, (by kernel_rfl)
      clear i0 i1 i2 i3 j0 j1 j2 j3 j4 t0 t1 t2 t3 c0 c1 c2 c3
      change wpList _ _ _ _ _ wr.drew
      go_wp2_with fail
      go_roundw
      case rel => exact ⟨k + 1, by go_num, by omega, Lib.hid ((HK.out.setCell _ (.inr (by simp))).drew), Lib.hid ((fill_next HA.out HKL.out (by omega) E4.out).drew)⟩
      case measure => simp [intOf]; omega
    · obtain rfl : k = 16 := by omega
      have HA' : Hid (Blk wr (w.heap.size + 1) 155 (wC (fillW (sch bs 16))).toArray) := Lib.hid (by
        have := HA.out
        rwa [List.take_of_length_le (by rw [words_len 16 bs (by rw [HL.out])]; omega)] at this)
      clear HA hk hlt
      obtain ⟨w1, rfl⟩ : ∃ w1 : World, w1 = wr := ⟨_, rfl⟩
      go_wp2_with fail
      go_loopw [6] (fun i wr => ∃ k : Nat, i = .int .i64 k ∧ 16 ≤ k ∧ k ≤ 64 ∧ Hid (Kp [w.heap.size + 1] W0 wr) ∧ Hid (Blk wr (w.heap.size + 1) 155 (wC (fillW (sch bs k))).toArray)) (fun i _ => 64 - (intOf i).toNat)
      case atStart => exact ⟨16, rfl, Nat.le_refl _, by omega, HK, HA'⟩
      case round =>
        clear HA' HK
        obtain ⟨k, rfl, hk1, hk2, HK, HA⟩ := hrel
        by_cases hlt : k < 64
        · obtain ⟨xa, xb, xc, xd, e1, e2, e3, e4, e5⟩ := sch_next (bs := bs) (k := k) (by rw [HL.out]) hk1
          have hkl := sch_len (bs := bs) (k := k) (by rw [HL.out]) hk1
          have ca : wr.cell? ⟨w.heap.size + 1, k - 16, none⟩ = some (.int .u32 (W xa)) := by rw [HA.out.cell, wC_get, fillW_get (by omega), e1]; rfl
          have cb : wr.cell? ⟨w.heap.size + 1, k - 15, none⟩ = some (.int .u32 (W xb)) := by rw [HA.out.cell, wC_get, fillW_get (by omega), e2]; rfl
          have cc : wr.cell? ⟨w.heap.size + 1, k - 7, none⟩ = some (.int .u32 (W xc)) := by rw [HA.out.cell, wC_get, fillW_get (by omega), e3]; rfl
          have cd : wr.cell? ⟨w.heap.size + 1, k - 2, none⟩ = some (.int .u32 (W xd)) := by rw [HA.out.cell, wC_get, fillW_get (by omega), e4]; rfl
          obtain ⟨x4, c4⟩ : ∃ x, wr.cell? ⟨w.heap.size + 1, k, none⟩ = some x := by
            rw [HA.out.cell, wC_get]
            have := fillW_len (l := sch bs k) (by omega)
            rw [List.getElem?_eq_getElem (by omega)]; exact ⟨_, rfl⟩
          have hf : wr.frozen? ⟨w.heap.size + 1, k, none⟩ = false := HA.out.frozen k
          have HKL := Lib.hid hkl; have E5 := Lib.hid e5
          have hz9 : w.heap.size + 1 < wr.heap.size := HA.out.lt
          clear e1 e2 e3 e4 e5 hkl
          have i0 : IntKind.i64.wrap ((k : Int) - 15) = k - 15 := IntWalk.i64_in _ (by omega)
          have i1 : IntKind.i64.wrap ((k : Int) - 2) = k - 2 := IntWalk.i64_in _ (by omega)
          have i2 : IntKind.i64.wrap ((k : Int) - 16) = k - 16 := IntWalk.i64_in _ (by omega)
          have i3 : IntKind.i64.wrap ((k : Int) - 7) = k - 7 := IntWalk.i64_in _ (by omega)
          have j0 : (0 : Int) ≤ (k : Int) - 15 ∧ (k : Int) - 15 < 64 := by omega
          have j1 : (0 : Int) ≤ (k : Int) - 2 ∧ (k : Int) - 2 < 64 := by omega
          have j2 : (0 : Int) ≤ (k : Int) - 16 ∧ (k : Int) - 16 < 64 := by omega
          have j3 : (0 : Int) ≤ (k : Int) - 7 ∧ (k : Int) - 7 < 64 := by omega
          have j4 : (0 : Int) ≤ (k : Int) ∧ (k : Int) < 64 := by omega
          have j5 : (16 : Int) ≤ (k : Int) := by omega
          have j6 : (7 : Int) ≤ (k : Int) := by omega
          have j7 : (k : Int) - 16 < 64 := by omega
          have j8 : (k : Int) - 7 < 64 := by omega
          have t0 : ((k : Int) - 15).toNat = k - 15 := by omega
          have t1 : ((k : Int) - 2).toNat = k - 2 := by omega
          have t2 : ((k : Int) - 16).toNat = k - 16 := by omega
          have t3 : ((k : Int) - 7).toNat = k - 7 := by omega
          go_wp2_with fail
          refine wp_region_ext (by kernel_rfl) (by kernel_rfl) ?_
          repeat (go_big_quiet_step (fail))
          (refine wpQuiet_nil ?_; intro _ hw'; obtain ⟨⟨bsq, nq⟩, hw''⟩ := hw'; subst hw'')
          go_wp2_with fail
          go_still_tail 11, (by kernel_rfl)
          change wpList _ _ _ _ _ (ext wr bsq nq).drew
          go_wp2_with fail
          generalize hw2 : (ext (wr.setCell ⟨w.heap.size + 1, k, none⟩ (.int .u32 (W (xa + xc)))) bsq nq).drew = w2
          obtain ⟨A2, K2, c5, f5, z5⟩ := over_set HA.out (by rw [fillW_len (by rw [HKL.out]; omega)]; exact hlt) hw2
          have HA2 := Lib.hid A2; have HK2 := Lib.hid K2
          clear hw2 A2 K2
          refine wp_region_still_tail 13 (by kernel_rfl) (by kernel_rfl) ?_
          simp only [List.take_succ_cons, List.take_zero, List.drop_succ_cons, List.drop_zero]
          repeat still_step
          still_call (rot_7 _ _)
          repeat still_step
          still_call (rot_18 _ _)
          repeat still_step
          refine wpStill_nil ?_
          change wpList _ _ _ _ _ w2.drew
          go_wp2_with fail
          generalize hw3 : (w2.setCell ⟨w.heap.size + 1, k, none⟩ (.int .u32 (W (xa + xc + (ror xb 7 ^^^ ror xb 18 ^^^ xb >>> 3))))).drew = w3
          obtain ⟨A3, K3, c6, f6, z6⟩ := over_set2 HA2.out (by rw [List.length_set, fillW_len (by rw [HKL.out]; omega)]; exact hlt) hw3
          have HA3 := Lib.hid A3; have HK3 := Lib.hid K3
          clear hw3 A3 K3 c5 f5 z5
          refine wp_region_still_tail 13 (by kernel_rfl) (by kernel_rfl) ?_
          simp only [List.take_succ_cons, List.take_zero, List.drop_succ_cons, List.drop_zero]
          repeat still_step
          still_call (rot_17 _ _)
          repeat still_step
          still_call (rot_19 _ _)
          repeat still_step
          refine wpStill_nil ?_
          change wpList _ _ _ _ _ w3.drew
          go_wp2_with fail
          generalize hw4 : (w3.setCell ⟨w.heap.size + 1, k, none⟩ (.int .u32 (W (xa + xc + (ror xb 7 ^^^ ror xb 18 ^^^ xb >>> 3) + (ror xd 17 ^^^ ror xd 19 ^^^ xd >>> 10))))).drew = w4
          obtain ⟨A4, K4, -, -, -⟩ := over_set2 HA3.out (by rw [List.length_set, List.length_set, fillW_len (by rw [HKL.out]; omega)]; exact hlt) hw4
          have HA4 : Hid (Blk w4 (w.heap.size + 1) 155 (wC (fillW (sch bs (k + 1)))).toArray) := Lib.hid (by
            rw [List.set_set, List.set_set, wMix_eq] at A4
            have e := fillW_set (l := sch bs k) (wMix xa xb xc xd) (by rw [HKL.out]; exact hlt)
            rw [HKL.out] at e
            rwa [e, ← E5.out] at A4)
          have HK4 := Lib.hid K4
          clear hw4 A4 K4 c6 f6 z6
          go_roundw
          case rel => ((repeat apply Exists.intro); exact ⟨⟨k + 1, by go_num, by omega, by omega, Lib.hid (((HK.out.trans HK2.out).trans HK3.out).trans HK4.out), HA4⟩, rfl⟩)
          case measure => simp [intOf]; omega
        · obtain rfl : k = 64 := by omega
          clear hk1 hk2 hlt
          obtain ⟨w5, rfl⟩ : ∃ w5 : World, w5 = wr := ⟨_, rfl⟩
          have hz5 := HK.out.size
          have HG5 := Lib.hid (HB.out.kp HK.out (by simp; omega))
          have HA5 : Hid (Blk w5 (w.heap.size + 1) 155 (wC (sch bs 64)).toArray) := Lib.hid (by
            have := HA.out
            rwa [show fillW (sch bs 64) = sch bs 64 by unfold fillW; rw [sch_len (by rw [HL.out]) (by omega)]; simp] at this)
          have rg : rowAt? w5 ⟨g, o, none⟩ 8 = some (wC v.l).toArray := by
            have h := HG5.out
            unfold Blk at h
            unfold rowAt?
            rw [h]
            simp only [Option.isSome_none, Bool.false_eq_true, if_false]
            rw [if_pos ho, HC.out]
          have hg5 : g < w5.heap.size := by omega
          have l1 : (wC z64).length = 64 := by decide
          have l2 : (wC shaK).length = 64 := by decide
          have l3 : (wC z8).length = 8 := by decide
          have l4 : (wC v.l).length = 8 := by simp [wC, V8.l]
          have o1 := okCells_wC shaK
          have o2 := okCells_wC v.l
          have s1 : spl (wC z64).toArray 0 (wC shaK).toArray = (wC shaK).toArray := spl_whole _ _ (by simp [l1, l2])
          have s2 : spl (wC z8).toArray 0 (wC v.l).toArray = (wC v.l).toArray := spl_whole _ _ (by simp [l3, l4])
          clear HA
          go_wp2_with (go_at_call 135; refine (constants_any _).mono ?_; rintro e w' ⟨rfl, bsc, mc, rfl⟩)
          have hK0 : Kp [] w5 (((ext w5 bsc mc).alloc (.cells (wC shaK).toArray 155)).alloc (.cells (wC v.l).toArray 147)) := (((Kp.refl [] w5).ext bsc mc).alloc _).alloc _
          have hA9 : Blk (((ext w5 bsc mc).alloc (.cells (wC shaK).toArray 155)).alloc (.cells (wC v.l).toArray 147)) (w5.heap.size + bsc.length) 155 (wC shaK).toArray := by
            have h := (Blk.new (ext w5 bsc mc) 155 (wC shaK).toArray).alloc (.cells (wC v.l).toArray 147)
            simpa using h
          have hA10 : Blk (((ext w5 bsc mc).alloc (.cells (wC shaK).toArray 155)).alloc (.cells (wC v.l).toArray 147)) (w5.heap.size + bsc.length + 1) 147 (wC v.l).toArray := by
            have h := Blk.new ((ext w5 bsc mc).alloc (.cells (wC shaK).toArray 155)) 147 (wC v.l).toArray
            simpa using h
          have hle : w5.heap.size ≤ w5.heap.size + bsc.length := by omega
          generalize hW5 : (((ext w5 bsc mc).alloc (.cells (wC shaK).toArray 155)).alloc (.cells (wC v.l).toArray 147)) = W5 at hK0 hA9 hA10 ⊢
          generalize hb9 : w5.heap.size + bsc.length = b9 at hle hA9 hA10 ⊢
          clear hW5 hb9 s1 s2 o1 o2 l1 l2 l3 l4 rg
          have A4 := Lib.hid (HA5.out.kp hK0 (by simp)); have G5 := Lib.hid (HG5.out.kp hK0 (by simp)); have A9 := Lib.hid hA9
          have K5 := Lib.hid (HK.out.trans hK0.of_nil)
          have hz10 := hA10.lt
          have A10 := Lib.hid hA10
          clear hK0 hA9 hA10 HA5 HG5 HK
          obtain ⟨L, hL⟩ : ∃ L, L = shaK.zip (sch bs 64) := ⟨_, rfl⟩
          have HLL := Lib.hid hL; clear hL
          go_loopw [106] (fun i wr => ∃ (k : Nat) (vv : V8), i = .int .i64 k ∧ k ≤ 64 ∧ Hid (Kp [b9 + 1] W5 wr) ∧ Hid (Blk wr (b9 + 1) 147 (wC vv.l).toArray) ∧ Hid (vv = rounds v (L.take k))) (fun i _ => 64 - (intOf i).toNat)
          case atStart => exact ⟨0, v, rfl, by omega, Kp.refl _ _, A10, Lib.hid rfl⟩
          case round =>
            clear A10
            obtain ⟨k, vv, rfl, hk, KR, AR, HV⟩ := hrel
            by_cases hlt : k < 64
            · obtain ⟨kk, hkk⟩ : ∃ x, shaK[k]? = some x := ⟨_, List.getElem?_eq_getElem (by rw [shaK_len]; exact hlt)⟩
              obtain ⟨ww, hww⟩ : ∃ x, (sch bs 64)[k]? = some x := ⟨_, List.getElem?_eq_getElem (by rw [sch_len (by rw [HL.out]) (by omega)]; exact hlt)⟩
              have hnx : L.take (k + 1) = L.take k ++ [(kk, ww)] := by
                rw [List.take_add_one, HLL.out]
                rw [List.getElem?_zip_eq_some (z := (kk, ww)) |>.2 ⟨hkk, hww⟩]; rfl
              have ck : wr.cell? ⟨b9, k, none⟩ = some (.int .u32 (W kk)) := by rw [(A9.out.kp KR.out (by simp)).cell, wC_get, hkk]; rfl
              have cw : wr.cell? ⟨w.heap.size + 1, k, none⟩ = some (.int .u32 (W ww)) := by rw [(A4.out.kp KR.out (by simp; omega)).cell, wC_get, hww]; rfl
              have q0 : wr.cell? ⟨b9 + 1, 0, none⟩ = some (.int .u32 (W vv.a)) := AR.out.cell 0
              have q1 : wr.cell? ⟨b9 + 1, 1, none⟩ = some (.int .u32 (W vv.b)) := AR.out.cell 1
              have q2 : wr.cell? ⟨b9 + 1, 2, none⟩ = some (.int .u32 (W vv.c)) := AR.out.cell 2
              have q3 : wr.cell? ⟨b9 + 1, 3, none⟩ = some (.int .u32 (W vv.d)) := AR.out.cell 3
              have q4 : wr.cell? ⟨b9 + 1, 4, none⟩ = some (.int .u32 (W vv.e)) := AR.out.cell 4
              have q5 : wr.cell? ⟨b9 + 1, 5, none⟩ = some (.int .u32 (W vv.f)) := AR.out.cell 5
              have q6 : wr.cell? ⟨b9 + 1, 6, none⟩ = some (.int .u32 (W vv.g)) := AR.out.cell 6
              have q7 : wr.cell? ⟨b9 + 1, 7, none⟩ = some (.int .u32 (W vv.h)) := AR.out.cell 7
              have qo := own?_blk AR.out
              have zr := AR.out.lt
              have zr4 : w.heap.size + 1 < wr.heap.size := by omega
              have zr9 : b9 < wr.heap.size := by omega
              have HNX := Lib.hid hnx
              have j4 : (0 : Int) ≤ (k : Int) ∧ (k : Int) < 64 := by omega
              clear hkk hww hnx
              go_wp2_with fail
              refine wp_region_ext (by kernel_rfl) (by kernel_rfl) ?_
              repeat (go_big_quiet_step (fail))
              (refine wpQuiet_nil ?_; intro _ hw'; obtain ⟨⟨bsq, nq⟩, hw''⟩ := hw'; subst hw'')
              go_wp2_with fail
              refine wp_region_ext (by kernel_rfl) (by kernel_rfl) ?_
              repeat (go_big_quiet_step (fail))
              (refine wpQuiet_nil ?_; intro _ hw'; obtain ⟨⟨bsq, nq⟩, hw''⟩ := hw'; subst hw'')
              go_wp2_with (first
                | (with_reducible (go_at_call 134); with_reducible refine (rotate_6 _ _).mono ?_; rintro e w' ⟨rfl, rfl⟩)
                | (with_reducible (go_at_call 134); with_reducible refine (rotate_11 _ _).mono ?_; rintro e w' ⟨rfl, rfl⟩)
                | (with_reducible (go_at_call 134); with_reducible refine (rotate_25 _ _).mono ?_; rintro e w' ⟨rfl, rfl⟩)
                | (with_reducible (go_at_call 134); with_reducible refine (rotate_2 _ _).mono ?_; rintro e w' ⟨rfl, rfl⟩)
                | (with_reducible (go_at_call 134); with_reducible refine (rotate_13 _ _).mono ?_; rintro e w' ⟨rfl, rfl⟩)
                | (with_reducible (go_at_call 134); with_reducible refine (rotate_22 _ _).mono ?_; rintro e w' ⟨rfl, rfl⟩))
              go_roundw
              case rel => exact ⟨k + 1, vv.step kk ww, by go_num, by omega, Lib.hid ((KR.out.setRow _ _ (.inr (by simp))).ext _ _), Lib.hid (by rw [← step_c]; exact (AR.out.setRow _).kp ((Kp.refl [] _).ext _ _) (by simp)), Lib.hid (by rw [HNX.out, rounds_snoc, ← HV.out])⟩
              case measure => simp [intOf]; omega
            · obtain rfl : k = 64 := by omega
              have hle5 := KR.out.size
              have hv5 : vv = rounds v L := by
                rw [HV.out, List.take_of_length_le]
                rw [HLL.out, List.length_zip, shaK_len, sch_len (by rw [HL.out]) (by omega)]; simp
              have HV5 := Lib.hid hv5
              obtain ⟨w6, rfl⟩ : ∃ w6 : World, w6 = wr := ⟨_, rfl⟩
              have G6 := Lib.hid (G5.out.kp KR.out (by simp; omega))
              have K6 := Lib.hid (K5.out.from KR.out (by simp; omega))
              clear hv5 hk hlt HV G5 K5 A4 A9
              go_wp2_with fail
              go_loopw [192] (fun i wr => ∃ k : Nat, i = .int .i64 k ∧ k ≤ 8 ∧ Hid (Kp [g] w6 wr) ∧ Hid (Blk wr g t (spl c o (wC (mixL v vv k)).toArray))) (fun i _ => 8 - (intOf i).toNat)
              case atStart => exact ⟨0, rfl, by omega, Kp.refl _ _, by show Blk _ _ _ _; rw [show mixL v vv 0 = v.l from rfl, spl_self HC.out ho]; exact G6.out⟩
              case round =>
                obtain ⟨k, rfl, hk, KK, AK⟩ := hrel
                by_cases hlt : k < 8
                · have h8 : v.l.length = 8 := rfl
                  have h9 : vv.l.length = 8 := rfl
                  obtain ⟨xa, ha⟩ : ∃ x, v.l[k]? = some x := ⟨_, List.getElem?_eq_getElem (by omega)⟩
                  obtain ⟨xb, hb⟩ : ∃ x, vv.l[k]? = some x := ⟨_, List.getElem?_eq_getElem (by omega)⟩
                  have hm := mixL_len v vv k (by omega)
                  have hms : (wC (mixL v vv k)).toArray.size = 8 := by simp [wC, hm]
                  have c1 : wr.cell? ⟨g, o + k, none⟩ = some (.int .u32 (W xa)) := by rw [AK.out.cell, spl_get (by omega) (by omega), wC_get, mixL_get v vv k hlt, ha]; rfl
                  have c2 : wr.cell? ⟨b9 + 1, k, none⟩ = some (.int .u32 (W xb)) := by rw [(AR.out.kp KK.out (by simp; omega)).cell, wC_get, hb]; rfl
                  have f1 : wr.frozen? ⟨g, o + k, none⟩ = false := AK.out.frozen _
                  have HS : Hid (Blk (wr.setCell ⟨g, o + k, none⟩ (.int .u32 (W (xa + xb)))) g t (spl c o (wC (mixL v vv (k + 1))).toArray)) := Lib.hid (by
                    have := AK.out.set (o + k) (.int .u32 (W (xa + xb)))
                    rwa [spl_set (by omega) (by omega), wC_set, mixL_set v vv k _ hlt (add_get v vv k xa xb ha hb)] at this)
                  have zg := AK.out.lt
                  have j4 : (0 : Int) ≤ (k : Int) ∧ (k : Int) < 8 := by omega
                  clear ha hb hm hms h8 h9
                  go_wp2_with fail
                  go_still_tail 11, (by kernel_rfl)
                  change wpList _ _ _ _ _ wr.drew
                  go_wp2_with fail
                  go_roundw
                  case rel => ((repeat apply Exists.intro); exact ⟨⟨k + 1, by go_num, by omega, Lib.hid ((KK.out.setCell _ (.inr (by simp))).drew), Lib.hid HS.out.drew⟩, rfl⟩)
                  case measure => simp [intOf]; omega
                · obtain rfl : k = 8 := by omega
                  go_wp2_with fail
                  go_end0
                  refine ⟨rfl, ?_, ?_⟩
                  · exact (KW.out.from K6.out (fun x hx => by simp at hx; subst hx; exact .inl (by omega))).of_nil.trans KK.out
                  · have h := AK.out
                    rw [show mixL v vv 8 = (v.add vv).l from rfl, HV5.out, HLL.out] at h
                    exact h

end Go.Proofs.YtemicgccgcmmbaaGreat

/- A law's arguments opened: a frame, a node, a text. -/
namespace Go.Proofs.YtemicgccgcmmbaaGreat
set_option linter.unusedVariables false
set_option linter.unusedSimpArgs false
open Go Go.RowKit Go.ChangeShapes Go.WideShapes Go.Deep

section
variable {H : Type} {enc : TypeId × Value → H} {P : Program} {w : World} {base : Nat} {spare : Nat → Bool} {held : Bool}

theorem spot_none {w : World} {a : Addr} {v : Value} (h : w.cell? a = some v) : a = ⟨a.block, a.off, none⟩ ∧ a.block < w.heap.size := by
  refine ⟨?_, World.block_lt_of_cell? w a h⟩
  obtain ⟨b, o, sp⟩ := a
  unfold World.cell? at h
  split at h
  · cases sp with
    | none => rfl
    | some x => simp at h
  · cases h

theorem row_of_cells {w : World} {b o n : Nat} {cs : List Value} (hn : 0 < n) (hl : cs.length = n) (h : ∀ i, i < n → w.cell? ⟨b, o + i, none⟩ = cs[i]?) : rowAt? w ⟨b, o, none⟩ n = some cs.toArray := by
  have h0 := h (n - 1) (by omega)
  rw [List.getElem?_eq_getElem (by omega)] at h0
  unfold rowAt?
  unfold World.cell? at h0
  split at h0
  · rename_i c e f hb
    simp only at hb
    have hsz : o + (n - 1) < c.size := by
      rcases Nat.lt_or_ge (o + (n - 1)) c.size with h1 | h1
      · exact h1
      · simp [Array.getElem?_eq_none h1] at h0
    simp only [hb, Option.isSome_none, Bool.false_eq_true, if_false]
    rw [if_pos (by omega)]
    congr 1
    apply Array.ext_getElem?
    intro i
    simp only [Array.getElem?_extract, List.getElem?_toArray]
    by_cases hi : i < n
    · have h1 := h i hi
      simp only [World.cell?, hb, Option.isSome_none, Bool.false_eq_true, if_false] at h1
      rw [if_pos (by omega), h1]
    · rw [if_neg (by omega), List.getElem?_eq_none (by omega)]
  · cases h0

theorem weightsAll_mem {e : TypeId} : ∀ {ds : List (DataW H)} {d : DataW H}, d ∈ ds → ∀ n ∈ d.weights P e, n ∈ DataW.weightsAll P e ds
  | x :: r, d, hd, n, hn => by
    simp only [DataW.weightsAll, List.mem_append]
    rcases List.mem_cons.1 hd with rfl | h
    · exact .inl hn
    · exact .inr (weightsAll_mem h n hn)

/-- A slice: its length, and each element that is read, with its weights. -/
theorem open_sl {t e : TypeId} {fuel : Nat} {cs : List Value} {x : DataW H × List MemPlace} (ht : P.underlying t = some (.slice e)) (h : DataW.trod enc P w base spare held fuel t cs = some x)
    (hz : ∀ n ∈ x.1.weights P t, n ≤ reachBytes) :
    ∃ (a : Option Addr) (len cap : Nat), cs = [.slice a len cap] ∧ len * P.bytesOf e ≤ reachBytes ∧
      ∀ i, i < len → ∃ (ad : Addr) (n : Nat) (cs' : List Value) (y : DataW H × List MemPlace), a = some ad ∧ w.cells? base (ad.add (i * P.cellsOf e)) (P.cellsOf e) = some cs' ∧ DataW.trod enc P w base spare held n e cs' = some y ∧ ∀ m ∈ y.1.weights P e, m ≤ reachBytes := by
  rcases DataW.trod_slice ht h with ⟨rfl, rfl⟩ | ⟨a, len, cap, elems, rest, n, _, rfl, rfl, hb, hl, hm, hlen, hel, _, _⟩
  · exact ⟨none, 0, 0, rfl, by simp, fun i hi => absurd hi (Nat.not_lt_zero _)⟩
  · refine ⟨some a, len, cap, rfl, ?_, fun i hi => ?_⟩
    · have := hz ((elems.length + rest.length) * P.bytesOf e) (by simp [DataW.weights, ht])
      exact Nat.le_trans (Nat.mul_le_mul_right _ (by omega)) this
    · have hy : elems[i]? = some (elems[i]'(by omega)) := List.getElem?_eq_getElem (by omega)
      have h1 := hel i hi
      rw [hy] at h1
      obtain ⟨cs', hc, hd⟩ := Option.bind_eq_some_iff.1 h1
      refine ⟨a, n, cs', _, rfl, hc, hd, fun m hm => hz m ?_⟩
      have hmem : (elems[i]'(by omega)).1 ∈ elems.map (·.1) := List.mem_map.2 ⟨_, List.getElem_mem _, rfl⟩
      simp only [DataW.weights, ht, List.mem_cons, List.mem_append]
      exact .inr (.inl (weightsAll_mem hmem m hm))


/-- One text. -/
theorem elem_str {t : TypeId} (ht : P.underlying t = some .string) {n : Nat} {cs : List Value} {y : DataW H × List MemPlace} (h : DataW.trod enc P w base spare held n t cs = some y) (hz : ∀ m ∈ y.1.weights P t, m ≤ reachBytes) :
    ∃ l : Bs, cs = [.string ⟨l.toArray⟩] ∧ l.length ≤ 140737488351232 := by
  obtain ⟨s, rfl, rfl, _⟩ := DataW.trod_string ht h
  refine ⟨s.data.toList, by simp, ?_⟩
  have := hz s.data.toList.length (by simp [DataW.weights])
  exact this

theorem cells1 {w : World} {base : Nat} {a : Addr} {v : Value} (h : w.cells? base a 1 = some [v]) : w.cell? a = some v := by
  have := (World.cells?_some h).2.2 0 (by omega)
  simpa [Addr.add] using this

/-- A slice of texts. -/
theorem open_texts {t e : TypeId} {fuel : Nat} {cs : List Value} {x : DataW H × List MemPlace} (ht : P.underlying t = some (.slice e)) (he : P.underlying e = some .string) (hc : P.cellsOf e = 1) (h16 : P.bytesOf e = 16) (h : DataW.trod enc P w base spare held fuel t cs = some x)
    (hz : ∀ n ∈ x.1.weights P t, n ≤ reachBytes) :
    ∃ (a : Option Addr) (cap : Nat) (ss : List Bs), cs = [.slice a ss.length cap] ∧ SsAt w a ss ∧ ss.length ≤ 8796093022208 ∧ ∀ p ∈ ss, p.length ≤ 140737488351232 := by
  obtain ⟨a, len, cap, rfl, hl, hel⟩ := open_sl ht h hz
  have each : ∀ i, i < len → ∃ l : Bs, (∃ ad : Addr, a = some ad ∧ w.cell? (ad.add i) = some (.string ⟨l.toArray⟩)) ∧ l.length ≤ 140737488351232 ∧ ∃ ad : Addr, a = some ad ∧ (i = 0 → True) := by
    intro i hi
    obtain ⟨ad, n, cs', y, ha, hcs, hd, hw⟩ := hel i hi
    obtain ⟨l, rfl, hlen⟩ := elem_str he hd hw
    rw [hc] at hcs
    refine ⟨l, ⟨ad, ha, ?_⟩, hlen, ad, ha, fun _ => trivial⟩
    have := cells1 hcs
    simpa using this
  obtain ⟨f, hf⟩ := choose_lt each
  refine ⟨a, cap, (List.range len).map f, by simp, ?_, by simp; rw [h16] at hl; unfold reachBytes at hl; omega, ?_⟩
  · intro i p hp
    have hi : i < len := by
      rcases Nat.lt_or_ge i len with h1 | h1
      · exact h1
      · simp [List.getElem?_eq_none (show (List.range len).length ≤ i by simpa using h1)] at hp
    simp only [List.getElem?_map, List.getElem?_range hi, Option.map_some, Option.some.injEq] at hp
    subst hp
    obtain ⟨ad, rfl, hcell⟩ := (hf i hi).1
    obtain ⟨ad0, h0, hcell0⟩ := (hf 0 (by omega)).1
    cases h0
    have hsp := spot_none (by simpa [Addr.add] using hcell0)
    refine ⟨ad.block, ad.off, by rw [← hsp.1], hsp.2, ?_⟩
    rw [hsp.1, Addr.add_lit] at hcell
    exact hcell
  · intro p hp
    obtain ⟨i, hi, rfl⟩ := List.mem_map.1 hp
    exact (hf i (List.mem_range.1 hi)).2.1


/-- One pair. -/
theorem elem_pair {t t0 : TypeId} {f0 f1 : Field} (ht : P.underlying t = some (.struct #[f0, f1])) (e0 : f0.type = t0) (e1 : f1.type = t0) (o0 : f0.offset = 0) (o1 : f1.offset = 1) (hs : P.underlying t0 = some .string) (hc0 : P.cellsOf t0 = 1)
    {n : Nat} {cs : List Value} {y : DataW H × List MemPlace} (h : DataW.trod enc P w base spare held n t cs = some y) (hl2 : cs.length = 2) (hz : ∀ m ∈ y.1.weights P t, m ≤ reachBytes) :
    ∃ p : Pr, cs = [.string ⟨p.1.toArray⟩, .string ⟨p.2.toArray⟩] ∧ p.1.length ≤ 140737488351232 ∧ p.2.length ≤ 140737488351232 := by
  subst e0
  obtain ⟨y0, y1, m, rfl, _, h0, h1⟩ := trod_struct2 ht h
  rw [e1] at h1
  simp only [DataW.weights, ht, List.map_cons, List.map_nil, DataW.weightsEach, List.append_nil, List.mem_append] at hz
  rw [e1] at hz
  obtain ⟨p0, q0, b0⟩ := elem_str hs h0 (fun m hm => hz m (.inl hm))
  obtain ⟨p1, q1, b1⟩ := elem_str hs h1 (fun m hm => hz m (.inr hm))
  match cs, hl2 with
  | [c0, c1], _ =>
    rw [hc0, o0] at q0
    rw [hc0, o1] at q1
    simp at q0 q1
    exact ⟨⟨p0, p1⟩, by simp [q0, q1], b0, b1⟩

theorem cells_at {w : World} {base : Nat} {a : Addr} {k : Nat} {cs : List Value} (h : w.cells? base a k = some cs) (hk : 0 < k) : a = ⟨a.block, a.off, none⟩ ∧ a.block < w.heap.size ∧ cs.length = k ∧ ∀ i, i < k → w.cell? ⟨a.block, a.off + i, none⟩ = cs[i]? := by
  obtain ⟨_, hl, hc⟩ := World.cells?_some h
  have h0 := hc 0 hk
  rw [List.getElem?_eq_getElem (by omega)] at h0
  have ha : a.add 0 = a := by simp [Addr.add]
  rw [ha] at h0
  obtain ⟨h1, h2⟩ := spot_none h0
  refine ⟨h1, h2, hl, fun i hi => ?_⟩
  rw [← hc i hi]
  rw [h1, Addr.add_lit]

/-- A slice of pairs. -/
theorem open_pairs {t e t0 : TypeId} {f0 f1 : Field} {fuel : Nat} {cs : List Value} {x : DataW H × List MemPlace} (ht : P.underlying t = some (.slice e)) (he : P.underlying e = some (.struct #[f0, f1])) (e0 : f0.type = t0) (e1 : f1.type = t0) (o0 : f0.offset = 0) (o1 : f1.offset = 1) (hs : P.underlying t0 = some .string) (hc0 : P.cellsOf t0 = 1)
    (hc : P.cellsOf e = 2) (h32 : P.bytesOf e = 32) (h : DataW.trod enc P w base spare held fuel t cs = some x)
    (hz : ∀ n ∈ x.1.weights P t, n ≤ reachBytes) :
    ∃ (a : Option Addr) (cap : Nat) (ps : List Pr), cs = [.slice a ps.length cap] ∧ PsAt w a ps ∧ ps.length ≤ 4398046511104 ∧ ∀ p ∈ ps, p.1.length ≤ 140737488351232 ∧ p.2.length ≤ 140737488351232 := by
  obtain ⟨a, len, cap, rfl, hl, hel⟩ := open_sl ht h hz
  have hn : 0 < len → ∃ b o, a = some ⟨b, o, none⟩ := by
    intro h0
    obtain ⟨ad, n, cs', y, ha, hcs, hd, hw⟩ := hel 0 h0
    rw [hc, Nat.zero_mul, show ad.add 0 = ad by simp [Addr.add]] at hcs
    exact ⟨ad.block, ad.off, by rw [ha, ← (cells_at hcs (by omega)).1]⟩
  have each : ∀ i, i < len → ∃ p : Pr, (∃ b o, a = some ⟨b, o, none⟩ ∧ b < w.heap.size ∧ w.cell? ⟨b, o + i * 2, none⟩ = some (.string ⟨p.1.toArray⟩) ∧ w.cell? ⟨b, o + i * 2 + 1, none⟩ = some (.string ⟨p.2.toArray⟩)) ∧ p.1.length ≤ 140737488351232 ∧ p.2.length ≤ 140737488351232 := by
    intro i hi
    obtain ⟨ad, n, cs', y, ha, hcs, hd, hw⟩ := hel i hi
    obtain ⟨b, o, rfl⟩ := hn (by omega)
    cases ha
    rw [hc, Addr.add_lit] at hcs
    obtain ⟨h1, h2, h3, h4⟩ := cells_at hcs (by omega)
    obtain ⟨p, hp, b0, b1⟩ := elem_pair he e0 e1 o0 o1 hs hc0 hd h3 hw
    subst hp
    have k0 := h4 0 (by omega)
    have k1 := h4 1 (by omega)
    exact ⟨p, ⟨b, o, rfl, h2, k0, k1⟩, b0, b1⟩
  obtain ⟨f, hf⟩ := choose_lt each
  refine ⟨a, cap, (List.range len).map f, by simp, ?_, by simp; rw [h32] at hl; unfold reachBytes at hl; omega, ?_⟩
  · intro i p hp
    have hi : i < len := by
      rcases Nat.lt_or_ge i len with h1 | h1
      · exact h1
      · simp [List.getElem?_eq_none (show (List.range len).length ≤ i by simpa using h1)] at hp
    simp only [List.getElem?_map, List.getElem?_range hi, Option.map_some, Option.some.injEq] at hp
    subst hp
    exact (hf i hi).1
  · intro p hp
    obtain ⟨i, hi, rfl⟩ := List.mem_map.1 hp
    exact (hf i (List.mem_range.1 hi)).2

/-- An array of 32 bytes. -/
theorem elem_bytes {t e : TypeId} {k : Nat} (ht : P.underlying t = some (.array k e)) (he : P.underlying e = some (.int .u8)) (hc : P.cellsOf e = 1) (hck : P.cellsOf t = k)
    {n : Nat} {cs : List Value} {y : DataW H × List MemPlace} (h : DataW.trod enc P w base spare held n t cs = some y) :
    ∃ l : Bs, l.length = k ∧ cs = bC l := by
  obtain ⟨xs, m, _, _, hl, hlx, hel⟩ := DataW.trod_array ht h
  rw [hck] at hl
  have each : ∀ i, i < k → ∃ b : UInt8, cs[i]? = some (.int .u8 (b.toNat : Int)) := by
    intro i hi
    have h1 := hel i hi
    rw [List.getElem?_eq_getElem (by omega)] at h1
    obtain ⟨z, hz, _, hwf⟩ := DataW.trod_int he h1
    rw [hc] at hz
    have h2 : ((cs.drop (i * 1)).take 1)[0]? = some (.int .u8 z) := by rw [hz]; rfl
    simp at h2
    have hr : 0 ≤ z ∧ z < 256 := by
      simp [Lit.wf, IntKind.min, IntKind.max, IntKind.bits, IntKind.signed] at hwf
      omega
    refine ⟨UInt8.ofNat z.toNat, ?_⟩
    rw [h2]
    congr 2
    rw [UInt8.toNat_ofNat_of_lt' (by simp [UInt8.size]; omega)]
    omega
  obtain ⟨f, hf⟩ := choose_lt each
  refine ⟨(List.range k).map f, by simp, ?_⟩
  apply List.ext_getElem?
  intro i
  by_cases hi : i < k
  · rw [hf i hi]
    simp [bC, hi]
  · rw [List.getElem?_eq_none (by omega), List.getElem?_eq_none (by simp [bC]; omega)]

/-- One kid. -/
theorem elem_kid {t t0 t1 e : TypeId} {f0 f1 : Field} (ht : P.underlying t = some (.struct #[f0, f1])) (e0 : f0.type = t0) (e1 : f1.type = t1) (o0 : f0.offset = 0) (o1 : f1.offset = 1) (hs : P.underlying t0 = some (.int .u32)) (hc0 : P.cellsOf t0 = 1)
    (h1 : P.underlying t1 = some (.array 32 e)) (he : P.underlying e = some (.int .u8)) (hce : P.cellsOf e = 1) (hc1 : P.cellsOf t1 = 32)
    {n : Nat} {cs : List Value} {y : DataW H × List MemPlace} (h : DataW.trod enc P w base spare held n t cs = some y) (hl2 : cs.length = 33) :
    ∃ k : Kd, cs.toArray = k.c ∧ k.page < 4294967296 := by
  obtain ⟨y0, y1, m, rfl, _, h0, h1'⟩ := trod_struct2 ht h
  rw [e0, o0, hc0] at h0
  rw [e1, o1, hc1] at h1'
  obtain ⟨z, hz, _, hwf⟩ := DataW.trod_int hs h0
  obtain ⟨l, hl, hcs⟩ := elem_bytes h1 he hce hc1 h1'
  have hr : 0 ≤ z ∧ z < 4294967296 := by
    simp [Lit.wf, IntKind.min, IntKind.max, IntKind.bits, IntKind.signed] at hwf
    omega
  refine ⟨⟨z.toNat, ⟨l, hl⟩⟩, ?_, by simp; omega⟩
  match cs, hl2 with
  | c :: r, hr2 =>
    simp at hz hcs
    have h32 : r.length = 32 := by simpa using hr2
    rw [List.take_of_length_le (by omega)] at hcs
    subst hz hcs
    simp only [Kd.c]
    congr 2
    congr 1
    omega

instance : Inhabited Kd := ⟨Kd.zero⟩

/-- A slice of kids. -/
theorem open_kids {t e t0 t1 e8 : TypeId} {f0 f1 : Field} {fuel : Nat} {cs : List Value} {x : DataW H × List MemPlace} (ht : P.underlying t = some (.slice e)) (he : P.underlying e = some (.struct #[f0, f1])) (e0 : f0.type = t0) (e1 : f1.type = t1) (o0 : f0.offset = 0) (o1 : f1.offset = 1) (hs : P.underlying t0 = some (.int .u32)) (hc0 : P.cellsOf t0 = 1)
    (h1 : P.underlying t1 = some (.array 32 e8)) (he8 : P.underlying e8 = some (.int .u8)) (hce : P.cellsOf e8 = 1) (hc1 : P.cellsOf t1 = 32)
    (hc : P.cellsOf e = 33) (h36 : P.bytesOf e = 36) (h : DataW.trod enc P w base spare held fuel t cs = some x)
    (hz : ∀ n ∈ x.1.weights P t, n ≤ reachBytes) :
    ∃ (a : Option Addr) (cap : Nat) (ks : List Kd), cs = [.slice a ks.length cap] ∧ KsAt w a ks ∧ ks.length ≤ 3909374676453 ∧ ∀ k ∈ ks, k.page < 4294967296 := by
  obtain ⟨a, len, cap, rfl, hl, hel⟩ := open_sl ht h hz
  have hn : 0 < len → ∃ b o, a = some ⟨b, o, none⟩ := by
    intro h0
    obtain ⟨ad, n, cs', y, ha, hcs, hd, hw⟩ := hel 0 h0
    rw [hc, Nat.zero_mul, show ad.add 0 = ad by simp [Addr.add]] at hcs
    exact ⟨ad.block, ad.off, by rw [ha, ← (cells_at hcs (by omega)).1]⟩
  have each : ∀ i, i < len → ∃ k : Kd, (∃ b o, a = some ⟨b, o, none⟩ ∧ b < w.heap.size ∧ rowAt? w ⟨b, o + i * 33, none⟩ 33 = some k.c) ∧ k.page < 4294967296 := by
    intro i hi
    obtain ⟨ad, n, cs', y, ha, hcs, hd, hw⟩ := hel i hi
    obtain ⟨b, o, rfl⟩ := hn (by omega)
    cases ha
    rw [hc, Addr.add_lit] at hcs
    obtain ⟨h1', h2, h3, h4⟩ := cells_at hcs (by omega)
    obtain ⟨k, hk, hp⟩ := elem_kid he e0 e1 o0 o1 hs hc0 h1 he8 hce hc1 hd h3
    refine ⟨k, ⟨b, o, rfl, h2, ?_⟩, hp⟩
    rw [← hk]
    exact row_of_cells (by omega) h3 (fun j hj => h4 j hj)
  obtain ⟨f, hf⟩ := choose_lt each
  refine ⟨a, cap, (List.range len).map f, by simp, ?_, by simp; rw [h36] at hl; unfold reachBytes at hl; omega, ?_⟩
  · intro i k hk
    have hi : i < len := by
      rcases Nat.lt_or_ge i len with h1 | h1
      · exact h1
      · simp [List.getElem?_eq_none (show (List.range len).length ≤ i by simpa using h1)] at hk
    simp only [List.getElem?_map, List.getElem?_range hi, Option.map_some, Option.some.injEq] at hk
    subst hk
    exact (hf i hi).1
  · intro k hk
    obtain ⟨i, hi, rfl⟩ := List.mem_map.1 hk
    exact (hf i (List.mem_range.1 hi)).2

theorem cells_agg {v : Value} {k : Nat} (h : v.cells.size = k) (h2 : 1 < k) : ∃ cs, v = .agg cs ∧ cs.size = k := by
  cases v <;> simp [Value.cells] at h <;> first | exact ⟨_, rfl, h⟩ | omega


end

end Go.Proofs.YtemicgccgcmmbaaGreat

/- The program's hash of a text: it is begun, and takes a text in. -/
namespace Go.Proofs.YtemicgccgcmmbaaGreat
set_option linter.unusedVariables false
set_option linter.unusedSimpArgs false
open Go Go.RowKit

/-- A hash's cells: the words, what is left, how many bytes. -/
def hashC (v : V8) (r : Value) (n : Int) : Array Value := #[.bool true, .int .u32 (W v.a), .int .u32 (W v.b), .int .u32 (W v.c), .int .u32 (W v.d), .int .u32 (W v.e), .int .u32 (W v.f), .int .u32 (W v.g), .int .u32 (W v.h), r, .int .i64 n]

def bldH (v : Value) : Sem Next := execOp (Act.eval ⟨#[], []⟩) { dst := none, op := .build 150 #[(0, .const (.bool true)), (1, .const v)], type := 0, pos := "", after := #[], guard := none }
@[go_sem ↓] theorem exec_build_h (a : Act) (x : Operand) (dst : Option Tmp) (ty : TypeId) (pos : String) (after : Array Edge) (guard : Option (Nat × Bool)) (w : World) :
    (execOp a.eval { dst, op := .build 150 #[(0, .const (.bool true)), (1, x)], type := ty, pos, after, guard }).run Tryz.prog w = (bldH (a.eval x)).run Tryz.prog w := by kernel_rfl
@[go_sem] theorem run_bldH (v : V8) (w : World) : (bldH (.agg (wC v.l).toArray)).run Tryz.prog w = .ok (.value (.agg (hashC v (.slice none 0 0) 0))) w := by kernel_rfl

def NewPost (w : World) (e : Ending) (w' : World) : Prop := ∃ H, e = .returned (.pointer (some ⟨H, 0, none⟩)) ∧ Blk w' H 150 (hashC shaH (.slice none 0 0) 0) ∧ Kp [] w w' ∧ w.heap.size ≤ H

set_option maxHeartbeats 1000000 in set_option maxRecDepth 100000 in
theorem new_any (w : World) : Calls Tryz.prog 125 #[] w (NewPost w) := by
  go_enter Tryz.func125, Tryz.ntmps125
  go_wp2_with (go_at_call 130; refine (begin_any _).mono ?_; rintro e w' ⟨rfl, bs, n, rfl⟩)
  go_ret
  exact ⟨_, rfl, (by have h := Blk.new (ext w bs n) 150 (hashC shaH (.slice none 0 0) 0); simpa using h), ((Kp.refl [] w).ext _ _).alloc _, by simp⟩

theorem hash_ext (v : V8) (r : Value) (n : Int) : (hashC v r n).extract 1 (1 + 8) = (wC v.l).toArray := rfl
theorem hash_size (v : V8) (r : Value) (n : Int) : 1 + 8 ≤ (hashC v r n).size := by show 9 ≤ 11; omega
theorem hash_spl (v u : V8) (r : Value) (n : Int) : spl (hashC v r n) 1 (wC u.l).toArray = hashC u r n := rfl

/-! What has been taken in. -/
theorem takeAll_app : ∀ (q : Nat) (h : V8) (x y : Bs), 64 * q ≤ x.length → takeAll q h (x ++ y) = takeAll q h x
  | 0, _, _, _, _ => rfl
  | q + 1, h, x, y, hl => by
    unfold takeAll
    rw [List.take_append_of_le_length (by omega), List.drop_append_of_le_length (by omega)]
    exact takeAll_app q _ _ _ (by simp; omega)
theorem takeAll_succ : ∀ (q : Nat) (h : V8) (l : Bs), takeAll (q + 1) h l = takeIn (takeAll q h l) ((l.drop (64 * q)).take 64)
  | 0, _, _ => rfl
  | q + 1, h, l => by
    rw [takeAll, takeAll_succ q]
    rw [List.drop_drop, show 64 + 64 * q = 64 * (q + 1) by omega]
    rfl

/-- Of a text: the words, what is left. -/
def stV (d : Bs) : V8 := takeAll (d.length / 64) shaH d
def stR (d : Bs) : Bs := d.drop (64 * (d.length / 64))
theorem stR_len (d : Bs) : (stR d).length = d.length % 64 := by simp [stR]; omega
theorem st_few (d u : Bs) (h : (stR d).length + u.length < 64) : stV (d ++ u) = stV d ∧ stR (d ++ u) = stR d ++ u := by
  rw [stR_len] at h
  have e : (d ++ u).length / 64 = d.length / 64 := by rw [List.length_append]; omega
  unfold stV stR
  rw [e, takeAll_app _ _ _ _ (by omega), List.drop_append_of_le_length (by omega)]
  exact ⟨rfl, rfl⟩
theorem st_full (d u : Bs) (h : (stR d).length + u.length = 64) : stV (d ++ u) = takeIn (stV d) (stR d ++ u) ∧ stR (d ++ u) = [] := by
  rw [stR_len] at h
  have e : (d ++ u).length / 64 = d.length / 64 + 1 := by rw [List.length_append]; omega
  unfold stV stR
  rw [e, takeAll_succ, takeAll_app _ _ _ _ (by omega), List.drop_append_of_le_length (by omega)]
  refine ⟨?_, List.drop_of_length_le (by rw [List.length_append]; omega)⟩
  rw [List.take_of_length_le (by simp; omega)]
theorem st_nil : stV [] = shaH ∧ stR [] = [] := ⟨rfl, rfl⟩

/-- The hash has taken in the bytes d; of all it will have taken N. -/
structure HsI (w : World) (lo H : Nat) (d : Bs) (N : Int) (a : Option Addr) (c : Nat) : Prop where
  blk : Blk w H 150 (hashC (stV d) (.slice a (stR d).length c) N)
  own : Own w 5 1 a (stR d).length c (bC (stR d))
  ne : H ∉ ab a
  lo : ∀ g ∈ ab a, lo ≤ g

theorem HsI.facts {w : World} {lo H : Nat} {d : Bs} {N : Int} {a : Option Addr} {c : Nat} (h : HsI w lo H d N a c) :
    w.cell? ⟨H, 0, none⟩ = some (.bool true) ∧ w.cell? ⟨H, 9, none⟩ = some (.slice a (stR d).length c) ∧ w.cell? ⟨H, 10, none⟩ = some (.int .i64 N) ∧ w.frozen? ⟨H, 9, none⟩ = false ∧ w.frozen? ⟨H, 10, none⟩ = false ∧ H < w.heap.size :=
  ⟨h.blk.cell 0, h.blk.cell 9, h.blk.cell 10, h.blk.frozen 9, h.blk.frozen 10, h.blk.lt⟩

set_option maxHeartbeats 1000000 in set_option maxRecDepth 100000 in
theorem hdead_any (H : Nat) (w : World) (h : w.cell? ⟨H, 0, none⟩ = some (.bool true)) : Calls Tryz.prog 131 #[.pointer (some ⟨H, 0, none⟩)] w fun e w' => e = .returned (.bool false) ∧ w = w' := by
  go_enter Tryz.func131, Tryz.ntmps131
  go_wp2
  go_ret
  exact ⟨rfl, rfl⟩

@[go_sem] theorem run_arrayAt64 (a : Addr) (n c : Nat) (w : World) (h : 64 ≤ n) : (Instr.arrayAt 152 (.slice (some a) n c)).run Tryz.prog w = .ok (.pointer (some a)) w := by
  have hn : ¬ n < 64 := by omega
  simp [Instr.arrayAt, Sem.run_bind, run_underlying Tryz.underlying152, hn]

def strLen : Value → Nat
  | .string b => b.size
  | _ => 0

theorem step_app_u8 {w : World} {ops : Array Oper} {o : Oper} {A : Act} {K : Act → World → Prop} {Q : Exit → Act → World → Prop} {E : Prop} (hgd : o.guard = none) {s x : Operand} {tx : TypeId}
    (ho : o.op = .call { callee := .builtin .append, args := #[s, x], argTypes := #[66, tx] })
    {a : Option Addr} {n c : Nat} {xs : List Value} (hs : A.eval s = .slice a n c) (hown : Own w 5 1 a n c xs) (m : Nat) (news : List Value) {xv : Value} (hx : A.eval x = xv) (hsrc : Src Tryz.prog 1 tx xv m news w)
    (h63 : n + m ≤ 140737488355328)
    (h : ∀ a' c' w', Own w' 5 1 a' (n + m) c' (xs ++ news) → Kp (ab a) w w' → (∀ g ∈ ab a', g ∈ ab a ∨ w.heap.size ≤ g) → K (A.put o.dst (.slice a' (n + m) c')) w') :
    if Region.wanted o (yielded ops A.tmps) = true then Oper.wp Tryz.prog o A w K Q else E := by
  have hw : Region.wanted o (yielded ops A.tmps) = true := by simp [Region.wanted, hgd]
  rw [if_pos hw]
  subst hx
  obtain ⟨i0, hi, hz0, hz1, hz2⟩ := info_parts Tryz.infoU8
  exact wp_app w s x 66 tx ho 5 i0 (.int .u8 0) 1 1 Tryz.underlying66 hi hz0 hz1 hz2 rfl a n c xs hs hown m news hsrc (by omega) (by unfold maxLen; omega) h

theorem str_take (s : Bs) (n : Nat) : ByteArray.extract ⟨s.toArray⟩ 0 n = ⟨(s.take n).toArray⟩ := by
  have := ext_drop s 0 n
  simpa using this
theorem str_drop (s : Bs) (n : Nat) : ByteArray.extract ⟨s.toArray⟩ n s.length = ⟨(s.drop n).toArray⟩ := by
  have h := ext_drop s n (s.length - n)
  by_cases hn : n ≤ s.length
  · rw [show n + (s.length - n) = s.length by omega] at h
    rw [h, List.take_of_length_le (by simp)]
  · rw [List.drop_of_length_le (by omega)]
    congr 1
    apply ByteArray.ext
    rw [ByteArray.data_extract]
    apply Array.ext'
    simp [List.extract_eq_take_drop]
    omega

theorem own_row {w : World} {g n c : Nat} {l : Bs} (h : Own w 5 1 (some ⟨g, 0, none⟩) n c (bC l)) (hn : 0 < n) : rowAt? w ⟨g, 0, none⟩ n = some (bC l).toArray := by
  have hl : (bC l).length = n := by have := h.block.1; omega
  refine row_of_cells hn hl (fun i hi => ?_)
  have h1 := h.cells rfl i ((bC l)[i]'(by omega)) (List.getElem?_eq_getElem (by omega))
  rw [Addr.add_lit] at h1
  rw [h1, List.getElem?_eq_getElem (by omega)]
theorem own_zero {w : World} {e : TypeId} {a : Option Addr} {n c : Nat} {xs : List Value} (h : Own w e 1 a n c xs) : Own w e 1 a 0 c [] := by
  refine ⟨by simp, ?_⟩
  rcases h.2 with ⟨h1, h2⟩ | ⟨g, cap, cur, h1, h2, h3, h4, h5, h6, h7⟩
  · cases h1; exact .inl ⟨rfl, rfl⟩
  · cases h1; exact .inr ⟨g, _, cur, rfl, h2, h3, Nat.zero_le _, h5, h6, by simp⟩
theorem own_at {w : World} {e : TypeId} {size : Nat} {a : Option Addr} {n c : Nat} {xs : List Value} (h : Own w e size a n c xs) (hn : 0 < n) : ∃ g, a = some ⟨g, 0, none⟩ ∧ n ≤ c ∧ g < w.heap.size := by
  rcases h.block.2 with ⟨_, h1, _⟩ | ⟨g, cur, h1, hb, h2, _⟩
  · omega
  · exact ⟨g, h1, h2, hb.lt⟩

def WritePost (w : World) (H : Nat) (s : Bs) (e : Ending) (w' : World) : Prop := ∃ a c, e = .returned (.tuple #[]) ∧ HsI w' w.heap.size H s s.length a c ∧ Kp [H] w w'

set_option maxHeartbeats 1000000 in set_option maxRecDepth 100000 in
theorem write_any (H g : Nat) (s : Bs) (w : World) (h : Blk w H 150 (hashC shaH (.slice none 0 0) 0)) (hc : w.cell? ⟨g, 0, none⟩ = some (.string ⟨s.toArray⟩)) (hg : g ≠ H) (hs : s.length ≤ 140737488355328) :
    Calls Tryz.prog 126 #[.pointer (some ⟨H, 0, none⟩), .slice (some ⟨g, 0, none⟩) 1 1] w (WritePost w H s) := by
  have h0 : w.cell? ⟨H, 0, none⟩ = some (.bool true) := h.cell 0
  have hH := Lib.hid h; have HC := Lib.hid hc
  clear h hc
  go_enter Tryz.func126, Tryz.ntmps126
  go_wp2_with (go_at_call 131; refine (hdead_any H _ h0).mono ?_; rintro e w' ⟨rfl, rfl⟩)
  clear h0
  go_loopw [11] (fun i wr => (i = .int .i64 0 ∧ wr = w) ∨ (i = .int .i64 1 ∧ ∃ a c, Hid (HsI wr w.heap.size H s s.length a c) ∧ Hid (Kp [H] w wr))) (fun i _ => 1 - (intOf i).toNat)
  case atStart => exact .inl ⟨rfl, rfl⟩
  case round =>
    rcases hrel with ⟨rfl, rfl⟩ | ⟨rfl, a, c, hw, hk⟩
    · have hc := HC.out
      have q10 : wr.cell? ⟨H, 10, none⟩ = some (.int .i64 0) := hH.out.cell 10
      have qf : wr.frozen? ⟨H, 10, none⟩ = false := hH.out.frozen 10
      have ql := hH.out.lt
      have i0 : IntKind.i64.wrap (0 + (s.length : Int)) = s.length := by rw [Int.zero_add]; exact IntWalk.i64_in _ (by omega)
      have I0 : Hid (HsI (wr.setCell ⟨H, 10, none⟩ (.int .i64 (s.length : Int))) wr.heap.size H [] s.length none 0) := Lib.hid ⟨by have := hH.out.set 10 (.int .i64 (s.length : Int)); exact this, Own.nil _ _ _, by simp [ab], by simp [ab]⟩
      go_wp2_with fail
      clear hc q10 qf ql i0
      obtain ⟨wo, rfl⟩ : ∃ wo : World, wo = wr := ⟨_, rfl⟩
      have K1 : Hid (Kp [H] wo (wo.setCell ⟨H, 10, none⟩ (.int .i64 (s.length : Int)))) := Lib.hid ((Kp.refl [H] wo).setCell _ (.inr (by simp)))
      go_loopw [5] (fun p wx => ∃ (d u : Bs) (a : Option Addr) (c : Nat), p = .string ⟨u.toArray⟩ ∧ Hid (d ++ u = s) ∧ Hid (HsI wx wo.heap.size H d s.length a c) ∧ Hid (Kp [H] wo wx)) (fun p _ => strLen p)
      case atStart => exact ⟨[], s, none, 0, rfl, rfl, I0, K1⟩
      case round =>
        clear I0 K1
        obtain ⟨d, u, a, c, rfl, HD, HI, HK⟩ := hrel
        obtain ⟨q0, q1, q2, q3, q4, q5⟩ := HI.out.facts
        have hm : (stR d).length < 64 := by rw [stR_len]; omega
        have hdl : d.length + u.length = s.length := by rw [← HD.out]; simp
        by_cases hu : u.length = 0
        · have HE : Hid (u = []) := Lib.hid (List.eq_nil_of_length_eq_zero hu)
          go_wp2_with fail
          go_roundw
          case rel => exact .inr ⟨rfl, a, c, (by have := HD.out; rw [HE.out, List.append_nil] at this; rw [← this]; have h := HI; rw [← this] at h; exact h), HK⟩
          case measure => simp [intOf]
        · by_cases hf : 64 ≤ (stR d).length + u.length
          · obtain ⟨kk, hkk⟩ : ∃ kk : Nat, kk + (stR d).length = 64 := ⟨64 - (stR d).length, by omega⟩
            have i1 : IntKind.i64.wrap (64 - ((stR d).length : Int)) = kk := by rw [show (64 : Int) - ((stR d).length : Int) = kk by omega]; exact IntWalk.i64_in _ (by omega)
            have j1 : ¬ ((u.length : Int) < (kk : Int)) := by omega
            have j2 : (kk : Int) ≤ (u.length : Int) := by omega
            obtain ⟨x, hx⟩ : ∃ x, u.take kk = x := ⟨_, rfl⟩
            obtain ⟨y, hy⟩ : ∃ y, u.drop kk = y := ⟨_, rfl⟩
            have hxl : x.length = kk := by rw [← hx, List.length_take]; omega
            have hxy : x ++ y = u := by rw [← hx, ← hy, List.take_append_drop]
            have st : ByteArray.extract ⟨u.toArray⟩ 0 kk = ⟨x.toArray⟩ := by rw [str_take, hx]
            have sd : ByteArray.extract ⟨u.toArray⟩ kk u.length = ⟨y.toArray⟩ := by rw [str_drop, hy]
            have HLEN : Hid ((stR d).length + x.length = 64) := Lib.hid (by omega)
            have HXY := Lib.hid hxy
            have hyl : y.length + kk = u.length := by rw [← hxy, List.length_append]; omega
            have hxk : x.length = kk := hxl
            clear hx hy hxl hxy
            go_wp2_with fail
            go_region_law (first | (refine step_app_u8 rfl rfl (by simp [Act.eval, Act.put]) (HI.out.own.kp (by first | exact (Kp.refl [] _).drew | exact Kp.refl [] _) (by simp)) x.length (bC x) (by simp [Act.eval, Act.put]) (src_str x) (by omega) ?_; intro a2 c2 w2 o2 k2 n2; rw [HLEN.out]; have HO2 : Hid (Own w2 5 1 a2 64 c2 (bC (stR d ++ x))) := Lib.hid (by rw [bC_app, ← HLEN.out]; exact o2); have HN2 := Lib.hid n2; have HK2 : Hid (Kp (ab a) wr w2) := Lib.hid (by first | exact (((Kp.refl _ _).drew).trans k2) | exact k2); have HB2 := Lib.hid (HI.out.blk.kp HK2.out HI.out.ne); clear o2 k2 n2; have r0 : w2.cell? ⟨H, 9, none⟩ = some (.slice a (stR d).length c) := HB2.out.cell 9; have r1 := HB2.out.frozen 9; have r2 := HB2.out.lt))
            all_goals go_wp2_with fail
            all_goals
              obtain ⟨g2, rfl, hc2, hg2⟩ := own_at HO2.out (by omega)
              have hne2 : H ∉ ab (some ⟨g2, 0, none⟩) := fun e => by
                rcases HN2.out H e with h | h
                · exact HI.out.ne h
                · have h' : wr.heap.size ≤ H := h; omega
              have B3 : Hid (Blk (w2.setCell ⟨H, 9, none⟩ (.slice (some ⟨g2, 0, none⟩) 64 c2)) H 150 (hashC (stV d) (.slice (some ⟨g2, 0, none⟩) 64 c2) s.length)) := Lib.hid (HB2.out.set 9 (.slice (some ⟨g2, 0, none⟩) 64 c2))
              have K3 : Hid (Kp [H] w2 (w2.setCell ⟨H, 9, none⟩ (.slice (some ⟨g2, 0, none⟩) 64 c2))) := Lib.hid ((Kp.refl [H] w2).setCell _ (.inr (by simp)))
              have O3 := Lib.hid (HO2.out.kp K3.out (by intro g' hg'; simp only [List.mem_cons, List.not_mem_nil, or_false]; rintro rfl; exact hne2 hg'))
              generalize hw3 : w2.setCell ⟨H, 9, none⟩ (.slice (some ⟨g2, 0, none⟩) 64 c2) = w3 at B3 K3 O3 ⊢
              have rg := own_row O3.out (by omega)
              have s0 : w3.cell? ⟨H, 9, none⟩ = some (.slice (some ⟨g2, 0, none⟩) 64 c2) := B3.out.cell 9
              have s1 := B3.out.lt
              have s2 : g2 < w3.heap.size := by have := K3.out.size; omega
              have HNE := Lib.hid hne2
              have hxl : (stR d ++ x).length = 64 := by rw [List.length_append]; exact HLEN.out
              have HXL := Lib.hid hxl
              clear hw3 r0 r1 r2 q0 q1 q2 q3 q4 q5 i1 j1 j2 st sd hne2 hxl
              go_still_tail 9, (by kernel_rfl)
              change wpList _ _ _ _ _ w3.drew
              go_wp2_with fail
              refine (block_any H 1 150 _ (stV d) (stR d ++ x) _ B3.out.drew (hash_size _ _ _) (hash_ext _ _ _) HXL.out).mono ?_; rintro e w4 ⟨rfl, k4, b4⟩; rw [hash_spl] at b4; have K4 : Hid (Kp [H] w3 w4) := Lib.hid (((Kp.refl _ _).drew).trans k4); have B4 := Lib.hid b4; clear k4 b4; have t0 : w4.cell? ⟨H, 9, none⟩ = some (.slice (some ⟨g2, 0, none⟩) 64 c2) := B4.out.cell 9; have t1 := B4.out.frozen 9; have t2 := B4.out.lt
              go_wp2_with fail
              clear rg s0 s1 s2
              have hst := Lib.hid (st_full d x HLEN.out)
              have hzo := HK.out.size
              have hlo : Hid (∀ g' ∈ ab (some (⟨g2, 0, none⟩ : Addr)), wo.heap.size ≤ g') := Lib.hid (fun g' hg' => by
                rcases HN2.out g' hg' with h | h
                · exact HI.out.lo g' h
                · have h' : wr.heap.size ≤ g' := h; omega)
              have kwo : Hid (Kp [H] wo (w4.setCell ⟨H, 9, none⟩ (.slice (some ⟨g2, 0, none⟩) 0 c2))) := Lib.hid ((((HK.out.from HK2.out (fun g' hg' => .inl (HI.out.lo g' hg'))).trans K3.out).trans K4.out).setCell _ (.inr (by simp)))
              go_roundw
              case rel => exact ⟨d ++ x, y, some ⟨g2, 0, none⟩, c2, rfl, Lib.hid (by rw [List.append_assoc, HXY.out, HD.out]), Lib.hid ⟨by rw [hst.out.1, hst.out.2]; exact B4.out.set 9 _, by rw [hst.out.2]; exact (own_zero (O3.out.kp K4.out (by intro g' hg'; simp only [List.mem_cons, List.not_mem_nil, or_false]; rintro rfl; exact HNE.out hg'))).kp ((Kp.refl [H] _).setCell _ (.inr (by simp))) (by intro g' hg'; simp only [List.mem_cons, List.not_mem_nil, or_false]; rintro rfl; exact HNE.out hg'), HNE.out, hlo.out⟩, kwo⟩
              case measure => (show y.toArray.size < u.toArray.size; simp only [List.size_toArray]; omega)
          · have i1 : IntKind.i64.wrap (64 - ((stR d).length : Int)) = 64 - (stR d).length := IntWalk.i64_in _ (by omega)
            have j1 : ((u.length : Int) < 64 - ((stR d).length : Int)) := by omega
            have hS := st_few d u (by omega)
            have st : ByteArray.extract ⟨u.toArray⟩ 0 u.length = ⟨u.toArray⟩ := by rw [str_take, List.take_of_length_le (Nat.le_refl _)]
            have sd : ByteArray.extract ⟨u.toArray⟩ u.length u.length = ⟨([] : Bs).toArray⟩ := by rw [str_drop, List.drop_of_length_le (Nat.le_refl _)]
            have HLEN : Hid ((stR d).length + u.length = (stR (d ++ u)).length) := Lib.hid (by rw [hS.2, List.length_append])
            have hb : (((stR (d ++ u)).length : Int) == 64) = false := by rw [← HLEN.out]; simp only [beq_eq_false_iff_ne]; omega
            have HS := Lib.hid hS
            clear hS
            go_wp2_with fail
            go_region_law (first | (refine step_app_u8 rfl rfl (by simp [Act.eval, Act.put]) (HI.out.own.kp (by first | exact (Kp.refl [] _).drew | exact Kp.refl [] _) (by simp)) u.length (bC u) (by simp [Act.eval, Act.put]) (src_str u) (by omega) ?_; intro a2 c2 w2 o2 k2 n2; rw [HLEN.out]; have HO2 : Hid (Own w2 5 1 a2 (stR (d ++ u)).length c2 (bC (stR (d ++ u)))) := Lib.hid (by rw [HS.out.2, bC_app, ← HS.out.2, ← HLEN.out]; exact o2); have HN2 := Lib.hid n2; have HK2 : Hid (Kp (ab a) wr w2) := Lib.hid (by first | exact (((Kp.refl _ _).drew).trans k2) | exact k2); have HB2 := Lib.hid (HI.out.blk.kp HK2.out HI.out.ne); clear o2 k2 n2; have r0 : w2.cell? ⟨H, 9, none⟩ = some (.slice a (stR d).length c) := HB2.out.cell 9; have r1 := HB2.out.frozen 9; have r2 := HB2.out.lt))
            all_goals go_wp2_with fail
            all_goals
              have hne2 : H ∉ ab a2 := fun e => by
                rcases HN2.out H e with h | h
                · exact HI.out.ne h
                · have h' : wr.heap.size ≤ H := h; omega
              have hzo := HK.out.size
              have hlo : Hid (∀ g' ∈ ab a2, wo.heap.size ≤ g') := Lib.hid (fun g' hg' => by
                rcases HN2.out g' hg' with h | h
                · exact HI.out.lo g' h
                · have h' : wr.heap.size ≤ g' := h; omega)
              have kwo : Hid (Kp [H] wo (w2.setCell ⟨H, 9, none⟩ (.slice a2 (stR (d ++ u)).length c2))) := Lib.hid ((HK.out.from HK2.out (fun g' hg' => .inl (HI.out.lo g' hg'))).setCell _ (.inr (by simp)))
              go_roundw
              case rel => exact ⟨d ++ u, [], a2, c2, rfl, Lib.hid (by rw [List.append_nil, HD.out]), Lib.hid ⟨by rw [HS.out.1]; exact HB2.out.set 9 _, HO2.out.kp ((Kp.refl [H] _).setCell _ (.inr (by simp))) (by intro g' hg'; simp only [List.mem_cons, List.not_mem_nil, or_false]; rintro rfl; exact hne2 hg'), hne2, hlo.out⟩, kwo⟩
              case measure => (show ByteArray.empty.size < u.toArray.size; simp only [List.size_toArray, ByteArray.size_empty]; omega)
    · go_wp2_with fail
      go_end0
      exact ⟨a, c, rfl, hw.out, hk.out⟩

end Go.Proofs.YtemicgccgcmmbaaGreat
