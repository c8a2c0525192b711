/- A node's form. -/
import Derived.Test.YtemicgccgcmmbaaForm2
namespace Go.Proofs.Ytemicgccgcmmbaa
set_option linter.unusedVariables false
set_option linter.unusedSimpArgs false
open Go Go.RowKit

def kidsB (pages : Bool) (wd : Nat) (n : Nd) (k : Nat) : Bs := (List.range k).flatMap fun i => kidB pages wd n i (n.kids.getD i Kd.zero)
theorem kidsB_succ (pages : Bool) (wd : Nat) (n : Nd) (k : Nat) (x : Kd) (hx : n.kids[k]? = some x) : kidsB pages wd n (k + 1) = kidsB pages wd n k ++ kidB pages wd n k x := by
  simp [kidsB, List.range_succ, List.getD, hx]
theorem kidsB_mono (pages : Bool) (wd : Nat) (n : Nd) {k m : Nat} (h : k ≤ m) : (kidsB pages wd n k).length ≤ (kidsB pages wd n m).length := by
  induction m with
  | zero => simp [show k = 0 by omega]
  | succ m ih =>
    by_cases hk : k = m + 1
    · subst hk; exact Nat.le_refl _
    · have := ih (by omega)
      simp only [kidsB, List.range_succ, List.flatMap_append, List.length_append] at this ⊢
      omega

set_option maxHeartbeats 1000000 in set_option maxRecDepth 100000 in
theorem each_kid (wb c cb nb pb fb P wd : Nat) (pa sa ka a : Option Addr) (pc sc kc : Nat) (pages : Bool) (out : Bs) (n : Nd) (w : World)
    (h : Wr w wb a c out) (hcb : Blk w cb 3 #[.int .i64 0]) (hfc : Foreign cb wb a)
    (hnb : w.cell? ⟨nb, 1, none⟩ = some (.slice sa n.seps.length sc)) (hfn : Foreign nb wb a) (hnc : nb ≠ cb)
    (hpb : w.cell? ⟨pb, 0, none⟩ = some (.bool pages)) (hfp : Foreign pb wb a) (hpc : pb ≠ cb)
    (hfb : w.cell? ⟨fb, 1, none⟩ = some (.int .i64 wd)) (hff : Foreign fb wb a) (hfbc : fb ≠ cb)
    (hss : SsAt w sa n.seps) (hsf : n.seps = [] ∨ ∀ b ∈ ab sa, Foreign b wb a ∧ b ≠ cb)
    (hks : KsAt w ka n.kids) (hkf : n.kids = [] ∨ ∀ b ∈ ab ka, Foreign b wb a ∧ b ≠ cb)
    (hns : n.seps.length ≤ 8796093022208) (hnk : n.kids.length ≤ n.seps.length + 1) (hpg : ∀ k ∈ n.kids, k.page < 4294967296) (hwd : wd ≤ 32) (ho : out.length + cntN n.kids.length + (kidsB pages wd n n.kids.length).length ≤ 70368744177000) :
    Calls Try.prog 58 #[.pointer (some ⟨wb, 0, none⟩), .slice ka n.kids.length kc, .func (.func 59) #[] #[.pointer (some ⟨cb, 0, none⟩), .pointer (some ⟨nb, 0, none⟩), .pointer (some ⟨pb, 0, none⟩), .pointer (some ⟨fb, 0, none⟩)]] w
      fun e w' => e = .returned (.tuple #[]) ∧ ∃ a' c', Wr w' wb a' c' (out ++ freeB n.kids.length ++ kidsB pages wd n n.kids.length) ∧ WKc cb wb a w a' w' := by
  obtain ⟨c0, c1, f1, hlt⟩ := h.cells
  have hpl := World.block_lt_of_cell? w _ hpb
  have hfl := World.block_lt_of_cell? w _ hfb
  have hnl := World.block_lt_of_cell? w _ hnb
  have hcl := hcb.lt
  simp only at hpl hfl hnl
  have HO := Lib.hid ho; have H := Lib.hid h; have HCB := Lib.hid hcb; have HFC := Lib.hid hfc; have HNB := Lib.hid hnb; have HFN := Lib.hid hfn; have HPB := Lib.hid hpb; have HFP := Lib.hid hfp; have HFB := Lib.hid hfb; have HFF := Lib.hid hff; have HSS := Lib.hid hss; have HSF := Lib.hid hsf; have HKS := Lib.hid hks; have HKF := Lib.hid hkf; have HPG := Lib.hid hpg
  clear ho h hcb hfc hnb hfn hpb hfp hfb hff hss hsf hks hkf hpg
  go_enter Try.func58, Try.ntmps58
  go_wp2_with fail
  refine (wr_free _ _ _ _ _ _ H.out (by omega) (by have := HO.out; omega)).mono ?_
  rintro e w1 ⟨rfl, a1, c1', h1, k1⟩
  have b1 := k1.blk' HCB.out HFC.out
  have HB1 := Lib.hid b1; have HW := Lib.hid h1; have K1 := Lib.hid k1; clear h1 k1 b1
  go_wp2_with fail
  go_loopw [7, 26] (fun _ i wr => ∃ k c' a' , i = .int .i64 (k : Nat) ∧ k ≤ n.kids.length ∧ Wr wr wb a' c' (out ++ freeB n.kids.length ++ kidsB pages wd n k) ∧ WKc cb wb a w a' wr ∧ Blk wr cb 3 #[.int .i64 (k : Nat)]) (fun _ i _ => n.kids.length - (intOf i).toNat)
  case atStart => exact ⟨0, c1', a1, rfl, by omega, by simpa [kidsB] using HW.out, K1.out.c cb, HB1.out⟩
  case round =>
    obtain ⟨k, c', a', rfl, hk, hw, hkk, hbk⟩ := hrel
    have HWr := Lib.hid hw; have HK := Lib.hid hkk; have HBK := Lib.hid hbk; clear hw hkk hbk
    by_cases hlt : k < n.kids.length
    · obtain ⟨x, hx⟩ : ∃ x, n.kids[k]? = some x := ⟨_, List.getElem?_eq_getElem hlt⟩
      have hkp := HK.out.kp
      have HKP := Lib.hid hkp; clear hkp
      have hz := HKP.out.size
      obtain ⟨b, o, rfl, hb, cf1⟩ := (HKS.out.kp' HKP.out (HKF.out.imp id (fun hh b hb => by have := hh b hb; simp [this.1.1, this.1.2, this.2]))) k x hx
      have HX := Lib.hid hx; clear hx
      go_wp2_with fail
      refine (form2_any wb c' cb nb pb fb P wd k pa sa none a' pc sc kc pages _ n x _ (HWr.out.kp0 ((Kp.refl [] _).alloc _)) (HBK.out.alloc _) (HFC.out.nextc HK.out hcl)
        ((World.cell?_alloc_lt _ _ _ (by show nb < _; omega)).trans (HKP.out.cell HNB.out (by simp [HFN.out.1, HFN.out.2, hnc])))
        ((World.cell?_alloc_lt _ _ _ (by show pb < _; omega)).trans (HKP.out.cell HPB.out (by simp [HFP.out.1, HFP.out.2, hpc]))) (HFP.out.nextc HK.out hpl) hpc
        ((World.cell?_alloc_lt _ _ _ (by show fb < _; omega)).trans (HKP.out.cell HFB.out (by simp [HFF.out.1, HFF.out.2, hfbc]))) (HFF.out.nextc HK.out hfl) hfbc
        (by simp; omega) (by simp; omega) (by simp; omega)
        ((HSS.out.kp' HKP.out (HSF.out.imp id (fun hh b hb => by have := hh b hb; simp [this.1.1, this.1.2, this.2]))).kp ((Kp.refl [] _).alloc _) (by simp)) (by omega) hns (HPG.out x (List.mem_of_getElem? HX.out)) hwd ?_).mono ?_
      · have h1 := kidsB_mono pages wd n (show k + 1 ≤ n.kids.length by omega)
        rw [kidsB_succ pages wd n k x HX.out, List.length_append] at h1
        have h2 := HO.out
        simp only [List.length_append, freeB_length]
        omega
      rintro e w2 ⟨rfl, a2, c2, h2, k2, b2⟩
      have HW2 := Lib.hid h2; have K2 := Lib.hid k2; have HB2 := Lib.hid b2; clear h2 k2 b2
      go_wp2_with fail
      go_roundw
      case rel => exact ⟨k + 1, c2, a2, by go_num, by omega, by rw [kidsB_succ pages wd n k x HX.out]; have := HW2.out; simpa [List.append_assoc] using this, HK.out.trans (K2.out.pre ((Kp.refl [] _).alloc _)), HB2.out⟩
      case measure => simp [intOf]; omega
    · have hkn : k = n.kids.length := by omega
      subst hkn
      go_wp2_with fail
      go_end0
      exact ⟨rfl, a', c', by have := HWr.out; simpa [List.append_assoc] using this, HK.out⟩

end Go.Proofs.Ytemicgccgcmmbaa
