/- Plain words: numbers, texts and lists as bytes, read and laid. No program in sight. -/
import Derived.Laws.BitsAllLaws
import Derived.Laws.BitsLemmas
namespace Go.Proofs.YtcaggadjkccbiaaGreat
set_option linter.unusedVariables false
set_option linter.unusedSimpArgs false
open Go

/-- A free number is read: shift k, what has been gathered n. -/
def vrd : List UInt8 → Nat → Nat → Option (Nat × List UInt8)
  | [], _, _ => none
  | b :: l, k, n => if (k = 63 ∧ 1 < b.toNat) ∨ (0 < k ∧ b.toNat = 0) then none else
    if b.toNat < 128 then some (n + b.toNat * 2 ^ k, l) else vrd l (k + 7) (n + b.toNat % 128 * 2 ^ k)

def freeP (m : Nat) (l : List UInt8) : Option (Nat × List UInt8) :=
  match vrd l 0 0 with
  | none => none
  | some (n, l') => if n ≤ m then some (n, l') else none

def rawP (n : Nat) (l : List UInt8) : Option (List UInt8 × List UInt8) := if n ≤ l.length then some (l.take n, l.drop n) else none

def textP (m : Nat) (l : List UInt8) : Option (List UInt8 × List UInt8) :=
  match freeP m l with
  | none => none
  | some (n, l') => rawP n l'

def be : List UInt8 → Nat → Nat
  | [], acc => acc
  | b :: l, acc => be l (acc * 256 + b.toNat)

def takeP (n : Nat) (l : List UInt8) : Option (Nat × List UInt8) := if n ≤ l.length then some (be (l.take n) 0, l.drop n) else none

theorem u8_and127 {x : Int} (h₀ : 0 ≤ x) (h₁ : x < 256) : bits .and .u8 x 127 = x % 128 := bits_mask .u8 8 (by decide) wraps_u8 7 (by decide) x h₀ h₁

theorem or_shift (n c k : Nat) (hn : n < 2 ^ k) : n ||| c * 2 ^ k = n + c * 2 ^ k := by
  rw [Nat.or_comm, Nat.mul_comm, ← Nat.two_pow_add_eq_or_of_lt hn, Nat.add_comm]

theorem wrap_u64 (n : Int) : IntKind.u64.wrap n = n % 18446744073709551616 := by simp [IntKind.wrap, IntKind.bits, IntKind.signed]

/-- What one round of the free number's loop gathers. -/
theorem gather (n c k : Nat) (hn : n < 2 ^ k) (h7 : k % 7 = 0) (hk : k ≤ 63) (hc : c < 256) (hc' : k = 63 → c ≤ 1) :
    bits .or .u64 (n : Int) (IntKind.u64.wrap (IntKind.u64.wrap (bits .and .u8 (c : Int) 127) * 2 ^ k)) = ((n + c % 128 * 2 ^ k : Nat) : Int) ∧ n + c % 128 * 2 ^ k < 18446744073709551616 := by
  have hm : c % 128 * 2 ^ k + 2 ^ k ≤ 18446744073709551616 := by
    by_cases h63 : k = 63
    · subst h63
      have := hc' rfl
      omega
    · have h57 : k ≤ 57 := by omega
      have h2 : (c % 128 + 1) * 2 ^ k ≤ 128 * 2 ^ k := Nat.mul_le_mul_right _ (by omega)
      have h3 : 2 ^ k ≤ 2 ^ 57 := Nat.pow_le_pow_right (by omega) h57
      rw [Nat.add_mul] at h2
      omega
  have e1 : IntKind.u64.wrap (bits .and .u8 (c : Int) 127) = ((c % 128 : Nat) : Int) := by
    rw [u8_and127 (by omega) (by omega)]
    rw [wrap_u64]
    omega
  have e2 : IntKind.u64.wrap (((c % 128 : Nat) : Int) * 2 ^ k) = ((c % 128 * 2 ^ k : Nat) : Int) := by
    have : ((c % 128 : Nat) : Int) * 2 ^ k = ((c % 128 * 2 ^ k : Nat) : Int) := by simp
    rw [this]
    generalize c % 128 * 2 ^ k = z at *
    rw [wrap_u64]
    omega
  rw [e1, e2, u64_or_nat _ _ (by omega) (by omega), or_shift _ _ _ hn]
  exact ⟨rfl, by omega⟩

theorem gather_lt (n c k : Nat) (hn : n < 2 ^ k) : n + c % 128 * 2 ^ k < 2 ^ (k + 7) := by
  have h2 : (c % 128 + 1) * 2 ^ k ≤ 128 * 2 ^ k := Nat.mul_le_mul_right _ (by omega)
  rw [Nat.add_mul] at h2
  rw [Nat.pow_add]
  omega

theorem vrd_rest : ∀ (l : List UInt8) (k n m : Nat) (l' : List UInt8), vrd l k n = some (m, l') → l' <:+ l ∧ l'.length < l.length
  | [], _, _, _, _, h => by simp [vrd] at h
  | b :: l, k, n, m, l', h => by
    unfold vrd at h
    split at h
    · cases h
    · split at h
      · simp only [Option.some.injEq, Prod.mk.injEq] at h
        obtain ⟨_, rfl⟩ := h
        exact ⟨List.suffix_cons b l, by simp⟩
      · obtain ⟨h1, h2⟩ := vrd_rest l _ _ _ _ h
        exact ⟨h1.trans (List.suffix_cons b l), by simp; omega⟩

theorem freeP_rest {m : Nat} {l : List UInt8} {n : Nat} {l' : List UInt8} (h : freeP m l = some (n, l')) : l' <:+ l ∧ l'.length < l.length ∧ n ≤ m := by
  unfold freeP at h
  split at h
  · cases h
  · rename_i n' l'' hv
    split at h
    · simp only [Option.some.injEq, Prod.mk.injEq] at h
      obtain ⟨rfl, rfl⟩ := h
      obtain ⟨h1, h2⟩ := vrd_rest _ _ _ _ _ hv
      exact ⟨h1, h2, by assumption⟩
    · cases h

end Go.Proofs.YtcaggadjkccbiaaGreat
