/- A node's size. -/
import Derived.Test.YtemicgccgcmmbaaCheck
namespace Go.Proofs.Ytemicgccgcmmbaa
set_option linter.unusedVariables false
set_option linter.unusedSimpArgs false
open Go Go.RowKit

def prN (x : Pr) : Nat := txN x.1 + txN x.2
def sizeN (wd : Nat) (n : Nd) : Nat :=
  if leafB n = true then 1 + cntN n.pairs.length + (n.pairs.map prN).sum
  else 1 + cntN n.kids.length + n.kids.length * (4 + wd) + (n.seps.map txN).sum

theorem txN_le {t : Bs} {m : Nat} (h : t.length ≤ m) (hm : m ≤ 140737488351232) : txN t ≤ 9 + m := by
  have := cntN_le9 t.length (by omega); unfold txN; omega
theorem sum_le {α : Type} (f : α → Nat) (B : Nat) : ∀ (l : List α), (∀ x ∈ l, f x ≤ B) → (l.map f).sum ≤ l.length * B
  | [], _ => by simp
  | x :: t, h => by
    have h1 := sum_le f B t (fun y hy => h y (by simp [hy]))
    have h2 := h x (by simp)
    simp only [List.map_cons, List.sum_cons, List.length_cons, Nat.succ_mul]
    omega
theorem sum_take {α : Type} (f : α → Nat) (l : List α) (k : Nat) (x : α) (hx : l[k]? = some x) : ((l.take (k + 1)).map f).sum = ((l.take k).map f).sum + f x := by
  rw [List.take_add_one, hx]; simp

/-- What is small enough to be counted. -/
structure Small (n : Nd) : Prop where
  sp : ∀ p ∈ n.pairs, p.1.length ≤ 8192 ∧ p.2.length ≤ 8192
  ss : ∀ p ∈ n.seps, p.length ≤ 8192

set_option maxHeartbeats 1000000 in set_option maxRecDepth 100000 in
theorem size_leaf (P : Int) (wd : Nat) (pa sa ka : Option Addr) (pc sc kc : Nat) (n : Nd) (w : World) (hl : leafB n = true) (h : NdAt w pa sa ka n) (ho : NdOk n) (hsm : Small n) :
    Calls Try.prog 33 #[.agg #[.int .i64 P, .int .i64 wd], .agg #[.slice pa n.pairs.length pc, .slice sa n.seps.length sc, .slice ka n.kids.length kc]] w (Rets (.int .i64 (sizeN wd n : Nat)) w) := by
  have hl' : (decide (n.seps.length = 0 ∧ n.kids.length = 0)) = true := hl
  have hs : sizeN wd n = 1 + cntN n.pairs.length + (n.pairs.map prN).sum := by unfold sizeN; rw [if_pos hl]
  have hnp := ho.np
  have hc9 := cntN_le9 n.pairs.length (by omega)
  have HS := Lib.hid hs; have HL := Lib.hid hl'; clear hs hl hl'
  have H := Lib.hid h; have HSM := Lib.hid hsm; clear h ho hsm
  go_enter Try.func33, Try.ntmps33
  go_wp2_with fail
  refine (isLeaf_any _ _ _ _ _ _ _ _ _ _).mono ?_
  rintro e w' ⟨rfl, bs1, m1, rfl⟩
  rw [HL.out]
  go_wp2_with fail
  refine (count_any _ _ (by omega)).mono ?_
  rintro e w' ⟨rfl, rfl⟩
  go_wp2_with fail
  go_loopw [5, 21] (fun x i wr => ∃ k z bs n', i = .int .i64 (k : Nat) ∧ k ≤ n.pairs.length ∧ x = .int .i64 (z : Nat) ∧ z ≤ 20 + k * 20000 ∧ Hid (z = 1 + cntN n.pairs.length + ((n.pairs.take k).map prN).sum) ∧ wr = ext ((w.alloc (.cells #[.int .i64 P, .int .i64 wd] 23)).alloc (.cells #[.slice pa n.pairs.length pc, .slice sa n.seps.length sc, .slice ka n.kids.length kc] 30)) bs n') (fun _ i _ => n.pairs.length - (intOf i).toNat)
  case atStart => exact ⟨0, 1 + cntN n.pairs.length, bs1, m1, rfl, by omega, by go_num, by omega, by show _ = _; simp, rfl⟩
  case round =>
    obtain ⟨k, z, bs, n', rfl, hk, rfl, hz, HZ, rfl⟩ := hrel
    by_cases hlt : k < n.pairs.length
    · obtain ⟨x, hx⟩ : ∃ x, n.pairs[k]? = some x := ⟨_, List.getElem?_eq_getElem hlt⟩
      obtain ⟨b, o, rfl, hb, cf1, cf2⟩ := H.out.ps k x hx
      obtain ⟨hx1, hx2⟩ := HSM.out.sp x (List.mem_of_getElem? hx)
      have hst := sum_take prN _ _ _ hx
      have hp1 := txN_le hx1 (by omega)
      have hp2 := txN_le hx2 (by omega)
      have HX := Lib.hid hst; clear hst hx
      have e1 : IntKind.i64.wrap ((txN x.1 : Int) + txN x.2) = txN x.1 + txN x.2 := IntWalk.i64_in _ (by omega)
      have e2 : IntKind.i64.wrap ((z : Int) + (txN x.1 + txN x.2)) = z + (txN x.1 + txN x.2) := IntWalk.i64_in _ (by omega)
      go_wp2_with fail
      refine wp_region_ext (by kernel_rfl) (by kernel_rfl) ?_
      repeat (go_big_quiet_step ((go_at_call 74; exact Calls.quiet_pure (text_any _ _ (by omega)))))
      (refine wpQuiet_nil ?_; intro _ hw'; obtain ⟨⟨bsq, nq⟩, hw''⟩ := hw'; subst hw'')
      clear e1 e2
      go_wp2_with fail
      go_roundw
      case rel => exact ⟨k + 1, z + (txN x.1 + txN x.2), _, _, by go_num, by omega, by go_num, by omega, by show _ = _; rw [HX.out, HZ.out]; simp only [prN]; omega, by (try simp only [ext_alloc, ext_drew, ext_drewN, ext_ext]); rfl⟩
      case measure => simp [intOf]; omega
    · have hfin : Hid (sizeN wd n = z) := by show _ = _; rw [HS.out, HZ.out, List.take_of_length_le (by omega)]
      go_wp2_with fail
      go_ret
      exact ⟨ret_int (by rw [hfin.out]), (by (try simp only [alloc_ext, drew_ext, drewN_ext, ext_ext]); exact ⟨_, _, rfl⟩)⟩

end Go.Proofs.Ytemicgccgcmmbaa
