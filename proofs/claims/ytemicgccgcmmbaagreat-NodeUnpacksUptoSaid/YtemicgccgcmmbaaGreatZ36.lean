/- The two nodes of 'lives', in plain words. -/
import Derived.Test.YtemicgccgcmmbaaGreatZ26
import Derived.Test.YtemicgccgcmmbaaGreatZ20
namespace Go.Proofs.YtemicgccgcmmbaaGreat
set_option linter.unusedVariables false
set_option linter.unusedSimpArgs false
open Go Go.RowKit

def lN : Nd := ⟨[([97], [120]), ([98], [])], [], []⟩
def bN : Nd := ⟨[], [[109]], [⟨5, Dg.pad [10, 11]⟩, ⟨9, Dg.pad [12, 13]⟩]⟩
def tS : Bs := [2, 2, 0, 0, 0, 5, 10, 11, 1, 109, 0, 0, 0, 9, 12, 13]

theorem l_size : SizeE 1024 2 lN = 9 := by decide +kernel
theorem l_pack : packE 1024 2 lN = 0 := by decide +kernel
theorem l_packS : packS 1024 2 lN = [1, 2, 1, 97, 1, 120, 1, 98, 0] := by decide +kernel
theorem b_pack : packE 1024 2 bN = 0 := by decide +kernel
theorem b_packS : packS 1024 2 bN = tS := by decide +kernel
theorem b_plain : mayE 1024 2 bN = 0 := by decide +kernel
theorem b_plainS : plainS 1024 2 bN = [2, 2, 10, 11, 1, 109, 12, 13] := by decide +kernel
theorem b_unpack : unpackP 1024 2 tS = some bN := by decide +kernel
theorem l_ok : NdOk lN := ⟨by decide, by decide, by decide, by decide, by decide, by decide⟩
theorem b_ok : NdOk bN := ⟨by decide, by decide, by decide, by decide, by decide, by decide⟩

end Go.Proofs.YtemicgccgcmmbaaGreat

/- 'lives' answers true. -/
namespace Go.Proofs.YtemicgccgcmmbaaGreat
set_option linter.unusedVariables false
set_option linter.unusedSimpArgs false
open Go Go.RowKit

def k5 : Kd := ⟨5, Dg.pad [10, 11]⟩
def k9 : Kd := ⟨9, Dg.pad [12, 13]⟩
def two : Array Value := k5.c ++ k9.c
def dA : Dg := Dg.pad [10, 11]
def dB : Dg := Dg.pad [12, 13]
def bd2 (t : TypeId) (x y : Value) : Sem Next := do pure (.value (← Instr.build t #[(0, x), (1, y)]))
def bs2 (t : TypeId) (x y : Value) : Sem Next := do pure (.value (← Instr.buildSlice t 2 #[(0, x), (1, y)]))
@[go_sem ↓] theorem exec_bd_dg (a : Act) (dst : Option Tmp) (x y : Operand) (ty : TypeId) (pos : String) (after : Array Edge) (guard : Option (Nat × Bool)) :
    execOp a.eval { dst, op := .build 36 #[(0, x), (1, y)], type := ty, pos, after, guard } = bd2 36 (a.eval x) (a.eval y) := by simp [execOp, bd2]
@[go_sem ↓] theorem exec_bd_kd (a : Act) (dst : Option Tmp) (x y : Operand) (ty : TypeId) (pos : String) (after : Array Edge) (guard : Option (Nat × Bool)) :
    execOp a.eval { dst, op := .build 59 #[(0, x), (1, y)], type := ty, pos, after, guard } = bd2 59 (a.eval x) (a.eval y) := by simp [execOp, bd2]
@[go_sem ↓] theorem exec_bs2_kd (a : Act) (dst : Option Tmp) (x y : Operand) (ty : TypeId) (pos : String) (after : Array Edge) (guard : Option (Nat × Bool)) :
    execOp a.eval { dst, op := .buildSlice 26 2 #[(0, x), (1, y)], type := ty, pos, after, guard } = bs2 26 (a.eval x) (a.eval y) := by simp [execOp, bs2]
@[go_sem] theorem build_dA (w : World) : (bd2 36 (.int .u8 10) (.int .u8 11)).run Tryz.prog w = .ok (.value (.agg dA.c)) w := by kernel_rfl
@[go_sem] theorem build_dB (w : World) : (bd2 36 (.int .u8 12) (.int .u8 13)).run Tryz.prog w = .ok (.value (.agg dB.c)) w := by kernel_rfl
@[go_sem] theorem build_k5 (w : World) : (bd2 59 (.int .u32 5) (.agg dA.c)).run Tryz.prog w = .ok (.value (.agg k5.c)) w := by kernel_rfl
@[go_sem] theorem build_k9 (w : World) : (bd2 59 (.int .u32 9) (.agg dB.c)).run Tryz.prog w = .ok (.value (.agg k9.c)) w := by kernel_rfl
@[go_sem] theorem build_two (w : World) : (bs2 26 (.agg k5.c) (.agg k9.c)).run Tryz.prog w = .ok (.value (.slice (some ⟨w.heap.size, 0, none⟩) 2 2)) (w.alloc (.cells two 59)) := by kernel_rfl

def lW (w : World) : World := (((((w.alloc (.cells #[.int .i64 1024, .int .i64 2] 23)).alloc (.cells #[.string ⟨#[97]⟩, .string ⟨#[120]⟩, .string ⟨#[98]⟩, .string ⟨#[]⟩] 56)).alloc (.cells #[.slice (some ⟨w.heap.size + 1, 0, none⟩) 2 2, .slice none 0 0, .slice none 0 0] 28)).alloc (.cells #[.string ⟨#[109]⟩] 9)).alloc (.cells two 59)).alloc (.cells #[.slice none 0 0, .slice (some ⟨w.heap.size + 1 + 1 + 1, 0, none⟩) 1 1, .slice (some ⟨w.heap.size + 1 + 1 + 1 + 1, 0, none⟩) 2 2] 28)

theorem lW_l (w : World) : NdAt (lW w) (some ⟨w.heap.size + 1, 0, none⟩) none none lN := by
  have hb : Blk (lW w) (w.heap.size + 1) 56 #[.string ⟨#[97]⟩, .string ⟨#[120]⟩, .string ⟨#[98]⟩, .string ⟨#[]⟩] := by
    have h := ((((Blk.new (w.alloc (.cells #[.int .i64 1024, .int .i64 2] 23)) 56 #[.string ⟨#[97]⟩, .string ⟨#[120]⟩, .string ⟨#[98]⟩, .string ⟨#[]⟩]).alloc (.cells #[.slice (some ⟨w.heap.size + 1, 0, none⟩) 2 2, .slice none 0 0, .slice none 0 0] 28)).alloc (.cells #[.string ⟨#[109]⟩] 9)).alloc (.cells two 59)).alloc (.cells #[.slice none 0 0, .slice (some ⟨w.heap.size + 1 + 1 + 1, 0, none⟩) 1 1, .slice (some ⟨w.heap.size + 1 + 1 + 1 + 1, 0, none⟩) 2 2] 28)
    simp only [World.size_alloc] at h
    exact h
  refine ⟨?_, SsAt.nil _ _, KsAt.nil _ _⟩
  intro i p hp
  match i, hp with
  | 0, hp => simp [lN] at hp; subst hp; exact ⟨_, _, rfl, hb.lt, hb.cell 0, hb.cell 1⟩
  | 1, hp => simp [lN] at hp; subst hp; exact ⟨_, _, rfl, hb.lt, hb.cell 2, hb.cell 3⟩
  | i + 2, hp => simp [lN] at hp
theorem lW_b (w : World) : NdAt (lW w) none (some ⟨w.heap.size + 1 + 1 + 1, 0, none⟩) (some ⟨w.heap.size + 1 + 1 + 1 + 1, 0, none⟩) bN := by
  have hb : Blk (lW w) (w.heap.size + 1 + 1 + 1) 9 #[.string ⟨#[109]⟩] := by
    have h := ((Blk.new (((w.alloc (.cells #[.int .i64 1024, .int .i64 2] 23)).alloc (.cells #[.string ⟨#[97]⟩, .string ⟨#[120]⟩, .string ⟨#[98]⟩, .string ⟨#[]⟩] 56)).alloc (.cells #[.slice (some ⟨w.heap.size + 1, 0, none⟩) 2 2, .slice none 0 0, .slice none 0 0] 28)) 9 #[.string ⟨#[109]⟩]).alloc (.cells two 59)).alloc (.cells #[.slice none 0 0, .slice (some ⟨w.heap.size + 1 + 1 + 1, 0, none⟩) 1 1, .slice (some ⟨w.heap.size + 1 + 1 + 1 + 1, 0, none⟩) 2 2] 28)
    simp only [World.size_alloc] at h
    exact h
  have hk : Blk (lW w) (w.heap.size + 1 + 1 + 1 + 1) 59 two := by
    have h := (Blk.new ((((w.alloc (.cells #[.int .i64 1024, .int .i64 2] 23)).alloc (.cells #[.string ⟨#[97]⟩, .string ⟨#[120]⟩, .string ⟨#[98]⟩, .string ⟨#[]⟩] 56)).alloc (.cells #[.slice (some ⟨w.heap.size + 1, 0, none⟩) 2 2, .slice none 0 0, .slice none 0 0] 28)).alloc (.cells #[.string ⟨#[109]⟩] 9)) 59 two).alloc (.cells #[.slice none 0 0, .slice (some ⟨w.heap.size + 1 + 1 + 1, 0, none⟩) 1 1, .slice (some ⟨w.heap.size + 1 + 1 + 1 + 1, 0, none⟩) 2 2] 28)
    simp only [World.size_alloc] at h
    exact h
  have hrow : ∀ o, rowAt? (lW w) ⟨w.heap.size + 1 + 1 + 1 + 1, o, none⟩ 33 = if o + 33 ≤ two.size then some (two.extract o (o + 33)) else none := by
    intro o; unfold Blk at hk; simp [rowAt?, hk]
  refine ⟨PsAt.nil _ _, ?_, ?_⟩
  · intro i p hp
    match i, hp with
    | 0, hp => simp [bN] at hp; subst hp; exact ⟨_, _, rfl, hb.lt, hb.cell 0⟩
    | i + 1, hp => simp [bN] at hp
  · intro i p hp
    match i, hp with
    | 0, hp =>
      simp [bN] at hp; subst hp
      exact ⟨_, _, rfl, hk.lt, by rw [hrow]; kernel_rfl⟩
    | 1, hp =>
      simp [bN] at hp; subst hp
      exact ⟨_, _, rfl, hk.lt, by rw [hrow]; kernel_rfl⟩
    | i + 2, hp => simp [bN] at hp

theorem lW_f (w : World) : Blk (lW w) w.heap.size 23 #[.int .i64 1024, .int .i64 2] := by
  have h := (((((Blk.new w 23 #[.int .i64 1024, .int .i64 2]).alloc (.cells #[.string ⟨#[97]⟩, .string ⟨#[120]⟩, .string ⟨#[98]⟩, .string ⟨#[]⟩] 56)).alloc (.cells #[.slice (some ⟨w.heap.size + 1, 0, none⟩) 2 2, .slice none 0 0, .slice none 0 0] 28)).alloc (.cells #[.string ⟨#[109]⟩] 9)).alloc (.cells two 59)).alloc (.cells #[.slice none 0 0, .slice (some ⟨w.heap.size + 1 + 1 + 1, 0, none⟩) 1 1, .slice (some ⟨w.heap.size + 1 + 1 + 1 + 1, 0, none⟩) 2 2] 28)
  exact h
theorem lW_ln (w : World) : Blk (lW w) (w.heap.size + 1 + 1) 28 #[.slice (some ⟨w.heap.size + 1, 0, none⟩) 2 2, .slice none 0 0, .slice none 0 0] := by
  have h := (((Blk.new ((w.alloc (.cells #[.int .i64 1024, .int .i64 2] 23)).alloc (.cells #[.string ⟨#[97]⟩, .string ⟨#[120]⟩, .string ⟨#[98]⟩, .string ⟨#[]⟩] 56)) 28 #[.slice (some ⟨w.heap.size + 1, 0, none⟩) 2 2, .slice none 0 0, .slice none 0 0]).alloc (.cells #[.string ⟨#[109]⟩] 9)).alloc (.cells two 59)).alloc (.cells #[.slice none 0 0, .slice (some ⟨w.heap.size + 1 + 1 + 1, 0, none⟩) 1 1, .slice (some ⟨w.heap.size + 1 + 1 + 1 + 1, 0, none⟩) 2 2] 28)
  simp only [World.size_alloc] at h
  exact h
theorem lW_bn (w : World) : Blk (lW w) (w.heap.size + 1 + 1 + 1 + 1 + 1) 28 #[.slice none 0 0, .slice (some ⟨w.heap.size + 1 + 1 + 1, 0, none⟩) 1 1, .slice (some ⟨w.heap.size + 1 + 1 + 1 + 1, 0, none⟩) 2 2] := by
  have h := Blk.new (((((w.alloc (.cells #[.int .i64 1024, .int .i64 2] 23)).alloc (.cells #[.string ⟨#[97]⟩, .string ⟨#[120]⟩, .string ⟨#[98]⟩, .string ⟨#[]⟩] 56)).alloc (.cells #[.slice (some ⟨w.heap.size + 1, 0, none⟩) 2 2, .slice none 0 0, .slice none 0 0] 28)).alloc (.cells #[.string ⟨#[109]⟩] 9)).alloc (.cells two 59)) 28 #[.slice none 0 0, .slice (some ⟨w.heap.size + 1 + 1 + 1, 0, none⟩) 1 1, .slice (some ⟨w.heap.size + 1 + 1 + 1 + 1, 0, none⟩) 2 2]
  simp only [World.size_alloc] at h
  exact h

set_option maxHeartbeats 1000000 in set_option maxRecDepth 100000 in
theorem lives_any (w : World) : Calls Tryz.prog 12 #[] w (Rets (.bool true) w) := by
  have LL := Lib.hid (lW_l w); have LB := Lib.hid (lW_b w)
  have hkw : Kp [] w (lW w) := ((((((Kp.refl [] w).alloc _).alloc _).alloc _).alloc _).alloc _).alloc _
  have HKW := Lib.hid hkw; clear hkw
  go_enter Tryz.func12, Tryz.ntmps12
  go_wp2_with fail
  have hl0 := (lW_f w).cell 0; have hl1 := (lW_f w).cell 1
  have ha0 := (lW_ln w).cell 0; have ha1 := (lW_ln w).cell 1; have ha2 := (lW_ln w).cell 2
  have hb0 := (lW_bn w).cell 0; have hb1 := (lW_bn w).cell 1; have hb2 := (lW_bn w).cell 2
  have hlt := (lW_bn w).lt
  simp only [List.getElem?_toArray, List.getElem?_cons_zero, List.getElem?_cons_succ] at hl0 hl1 ha0 ha1 ha2 hb0 hb1 hb2
  have hlt0 : w.heap.size < (lW w).heap.size := by omega
  have hlt2 : w.heap.size + 1 + 1 < (lW w).heap.size := by omega
  refine (Pack_any 1024 2 _ _ _ _ _ _ lN (lW w) LL.out l_ok).mono ?_
  rintro e w1 ⟨rfl, bs1, m1, rfl⟩
  rw [l_pack, l_packS]
  go_wp2_with fail
  refine (Pack_any 1024 2 _ _ _ _ _ _ bN _ (LB.out.kp0 ((Kp.refl [] _).ext _ _)) b_ok).mono ?_
  rintro e w1 ⟨rfl, bs2, m2, rfl⟩
  rw [b_pack, b_packS]
  go_wp2_with fail
  refine (Plain_any 1024 2 _ _ _ _ _ _ bN _ (LB.out.kp0 ((Kp.refl [] _).ext _ _)) b_ok).mono ?_
  rintro e w1 ⟨rfl, bs3, m3, rfl⟩
  rw [b_plain, b_plainS]
  go_wp2_with fail
  refine (Unpack_any 1024 2 tS _ (by decide)).mono ?_
  rintro e w1 h1
  rw [b_unpack] at h1
  obtain ⟨pa, sa, ka, pc, sc, kc, rfl, nd, k1, hnew⟩ := h1
  obtain ⟨b0, o0, hka, hb0', r0⟩ := nd.ks 0 k5 rfl
  obtain ⟨b1, o1, hka1, hb1', r1⟩ := nd.ks 1 k9 rfl
  rw [hka] at hka1
  cases hka1
  subst hka
  have cp := (rowAt?_cell r1).2 0 (.int .u32 9) (Kd.get0 k9)
  have rs := rowAt?_sub r0 1 32 (by omega)
  have hx : k5.c.extract 1 (1 + 32) = dA.c := Kd.extract1 k5
  rw [hx] at rs
  simp only [Addr.add_lit, Nat.zero_mul, Nat.one_mul, Nat.add_zero] at cp rs
  have LZ : Hid (NdAt w1 (some ⟨w.heap.size + 1, 0, none⟩) none none lN) := Lib.hid (LL.out.kp0 (((Kp.refl [] _).ext _ _).trans k1))
  have KW := Lib.hid ((HKW.out.ext _ _).trans k1)
  have zz := k1.size
  simp only [ext_size] at zz
  have n1 : w.heap.size < w1.heap.size := by omega
  have n2 : w.heap.size + 1 + 1 < w1.heap.size := by omega
  have e0 := ((Kp.refl [] (lW w)).ext _ _ |>.trans k1).cell hl0 (by simp); have e1 := ((Kp.refl [] (lW w)).ext _ _ |>.trans k1).cell hl1 (by simp)
  have e2 := ((Kp.refl [] (lW w)).ext _ _ |>.trans k1).cell ha0 (by simp); have e3 := ((Kp.refl [] (lW w)).ext _ _ |>.trans k1).cell ha1 (by simp); have e4 := ((Kp.refl [] (lW w)).ext _ _ |>.trans k1).cell ha2 (by simp)
  clear r0 r1 hx nd k1 hnew hl0 hl1 ha0 ha1 ha2 hb0 hb1 hb2 zz
  go_wp2_with fail
  refine (Size_any 1024 2 _ _ _ _ _ _ lN _ (LZ.out.kp0 ((Kp.refl [] _).alloc _)) l_ok).mono ?_
  rintro e w2 ⟨rfl, bs4, m4, rfl⟩
  rw [l_size]
  go_wp2_with fail
  go_ret
  exact ⟨rfl, ((KW.out.alloc _).ext _ _).to_ext⟩

end Go.Proofs.YtemicgccgcmmbaaGreat
