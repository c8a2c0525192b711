/- The reader's methods, each with what it hands back and where it leaves the reader. -/
import Derived.Test.YtemicgccgcmmbaaBase
import Derived.Test.YtemicgccgcmmbaaSpec
namespace Go.Proofs.Ytemicgccgcmmbaa
set_option linter.unusedVariables false
set_option linter.unusedSimpArgs false
open Go Go.RowKit

set_option maxHeartbeats 400000 in
theorem rd_dead (b : Nat) (s : Bs) (p f : Int) (w : World) (h : RdAt w b s p f) :
    Calls Try.prog 84 #[.pointer (some ⟨b, 0, none⟩)] w fun e w' => e = .returned (.bool (f != 0)) ∧ w = w' := by
  obtain ⟨c0, c1, c2, c3⟩ := h.cells
  clear h
  go_enter Try.func84, Try.ntmps84
  go_wp2
  go_ret
  exact ⟨rfl, rfl⟩

theorem rd_dead0 {b : Nat} {s : Bs} {p : Int} {w : World} (h : RdAt w b s p 0) :
    Calls Try.prog 84 #[.pointer (some ⟨b, 0, none⟩)] w fun e w' => e = .returned (.bool false) ∧ w = w' := rd_dead b s p 0 w h

theorem rd_dead1 {b : Nat} {s : Bs} {p f : Int} {w : World} (h : RdAt w b s p f) (hf : f ≠ 0) :
    Calls Try.prog 84 #[.pointer (some ⟨b, 0, none⟩)] w fun e w' => e = .returned (.bool true) ∧ w = w' := by
  have := rd_dead b s p f w h
  rwa [show (f != 0) = true by simpa using hf] at this

set_option maxHeartbeats 400000 in
theorem rd_left (b : Nat) (s : Bs) (p : Nat) (f : Int) (w : World) (h : RdAt w b s p f) (hs : s.length ≤ 140737488351232) (h1 : p ≤ s.length) :
    Calls Try.prog 85 #[.pointer (some ⟨b, 0, none⟩)] w fun e w' => e = .returned (.int .i64 ((s.length : Int) - p)) ∧ ∃ n, w' = w.drewN n := by
  obtain ⟨c0, c1, c2, c3⟩ := h.cells
  clear h
  go_enter Try.func85, Try.ntmps85
  go_wp2
  go_quiet (fail)
  go_wp2
  go_ret
  exact ⟨rfl, _, rfl⟩

set_option maxHeartbeats 400000 in
theorem rd_fail (b : Nat) (s : Bs) (p f c : Int) (q : Int) (w : World) (h : RdAt w b s p f) :
    Calls Try.prog 86 #[.pointer (some ⟨b, 0, none⟩), .int .i64 c, .int .i64 q] w fun e w' => e = .returned (.tuple #[]) ∧ Kp [b] w w' ∧ RdAt w' b s q c := by
  obtain ⟨c0, c1, c2, c3⟩ := h.cells
  have f2 := Blk.frozen h 2
  have f3 := Blk.frozen h 3
  have H := Lib.hid h
  clear h
  go_enter Try.func86, Try.ntmps86
  go_wp2
  go_end0
  exact ⟨rfl, ((Kp.refl _ _).setCell _ (.inr (by simp))).setCell _ (.inr (by simp)), (H.out.setFault c).setAt q⟩

/-- Behind a fault. -/
theorem RdAt.bad {w : World} {b : Nat} {s : Bs} {p : Nat} {f : Int} (h : RdAt w b s p f) (hf : f ≠ 0) (hp : p ≤ s.length) : RdBad w b s := ⟨p, f, hf, hp, h⟩

def FreePost (w : World) (b : Nat) (s : Bs) (r : Option (Nat × Bs)) (e : Ending) (w' : World) : Prop :=
  match r with
  | some (n, l') => e = .returned (.int .u64 n) ∧ Kp [b] w w' ∧ RdOk w' b s l'
  | none => e = .returned (.int .u64 0) ∧ Kp [b] w w' ∧ RdBad w' b s

theorem drop_cons {s : Bs} {q : Nat} (h : q < s.length) : s.drop q = s[q] :: s.drop (q + 1) := (List.getElem_cons_drop h).symm

theorem free_none {l t : Bs} {m n' k' : Nat} {c : UInt8} (HV : vrd l 0 0 = vrd (c :: t) k' n') (ht : (k' = 63 ∧ 1 < c.toNat) ∨ (0 < k' ∧ c.toNat = 0)) : freeP m l = none := by
  unfold freeP; rw [HV]; simp [vrd, ht]
theorem free_some {l t : Bs} {m n' k' : Nat} {c : UInt8} (HV : vrd l 0 0 = vrd (c :: t) k' n') (ht : ¬ ((k' = 63 ∧ 1 < c.toNat) ∨ (0 < k' ∧ c.toNat = 0))) (hc : c.toNat < 128) :
    freeP m l = if n' + c.toNat % 128 * 2 ^ k' ≤ m then some (n' + c.toNat % 128 * 2 ^ k', t) else none := by
  unfold freeP; rw [HV]; simp only [vrd, ht, if_false, hc, if_true, Nat.mod_eq_of_lt hc]
theorem free_step {l t : Bs} {n' k' : Nat} {c : UInt8} (HV : vrd l 0 0 = vrd (c :: t) k' n') (ht : ¬ ((k' = 63 ∧ 1 < c.toNat) ∨ (0 < k' ∧ c.toNat = 0))) (hc : 128 ≤ c.toNat) :
    vrd l 0 0 = vrd t (k' + 7) (n' + c.toNat % 128 * 2 ^ k') := by
  rw [HV]; simp only [vrd, ht, if_false, show ¬ c.toNat < 128 from by omega]

theorem byte_at (s : Bs) (q : Nat) (h : q < s.length) : ∃ c : Nat, ((⟨s.toArray⟩ : ByteArray)[q]'h).toNat = c ∧ s[q].toNat = c ∧ c < 256 :=
  ⟨s[q].toNat, rfl, rfl, s[q].toNat_lt⟩

end Go.Proofs.Ytemicgccgcmmbaa
