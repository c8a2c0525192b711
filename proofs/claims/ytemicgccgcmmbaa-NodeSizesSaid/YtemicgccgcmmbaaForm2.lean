/- A branch's form is laid. -/
import Derived.Test.YtemicgccgcmmbaaForm1
namespace Go.Proofs.Ytemicgccgcmmbaa
set_option linter.unusedVariables false
set_option linter.unusedSimpArgs false
open Go Go.RowKit

/-- A block that is neither the writer's nor its bytes'. -/
def Foreign (b wb : Nat) (a : Option Addr) : Prop := b ≠ wb ∧ b ∉ ab a
theorem Foreign.next {b wb : Nat} {a a' : Option Addr} {w w' : World} (h : Foreign b wb a) (k : WK wb a w a' w') (hb : b < w.heap.size) : Foreign b wb a' :=
  ⟨h.1, fun e => by rcases k.new b e with h1 | h1; exact h.2 h1; omega⟩
theorem Foreign.not {b wb : Nat} {a : Option Addr} (h : Foreign b wb a) : b ∉ wb :: ab a := by simp [h.1, h.2]
theorem Foreign.new {w : World} {wb c : Nat} {a : Option Addr} {out : Bs} (h : Wr w wb a c out) {b : Nat} (hb : w.heap.size ≤ b) : Foreign b wb a :=
  ⟨fun e => by have := h.blk.lt; omega, fun e => by have := h.own.lt b e; omega⟩
theorem Foreign.at {w w1 : World} {o : Obj} {wb c : Nat} {a a1 : Option Addr} {out : Bs} (h : Wr w wb a c out) (k : WK wb a (w.alloc o) a1 w1) : Foreign w.heap.size wb a1 :=
  ⟨fun e => by have := h.blk.lt; omega, fun e => by
    rcases k.new _ e with h3 | h3
    · have := h.own.lt _ h3; omega
    · rw [World.size_alloc] at h3; omega⟩
theorem WK.cell {wb : Nat} {a a' : Option Addr} {w w' : World} (k : WK wb a w a' w') {b o : Nat} {v : Value} (hc : w.cell? ⟨b, o, none⟩ = some v) (h : Foreign b wb a) : w'.cell? ⟨b, o, none⟩ = some v := k.kp.cell hc h.not
theorem WK.blk' {wb : Nat} {a a' : Option Addr} {w w' : World} (k : WK wb a w a' w') {b : Nat} {t : TypeId} {cs : Array Value} (hc : Blk w b t cs) (h : Foreign b wb a) : Blk w' b t cs := hc.kp k.kp h.not
theorem WK.row {wb : Nat} {a a' : Option Addr} {w w' : World} (k : WK wb a w a' w') {b o n : Nat} {cs : Array Value} (hc : rowAt? w ⟨b, o, none⟩ n = some cs) (h : Foreign b wb a) : rowAt? w' ⟨b, o, none⟩ n = some cs := rowAt?_kp k.kp hc h.not

/-- The writer and a counter. -/
structure WKc (cb wb : Nat) (a : Option Addr) (w : World) (a' : Option Addr) (w' : World) : Prop where
  kp : Kp (cb :: wb :: ab a) w w'
  new : ∀ g ∈ ab a', g ∈ ab a ∨ w.heap.size ≤ g
theorem WK.c {wb : Nat} {a a' : Option Addr} {w w' : World} (k : WK wb a w a' w') (cb : Nat) : WKc cb wb a w a' w' := ⟨k.kp.mono (fun _ _ h => List.mem_cons_of_mem _ h), k.new⟩
theorem WKc.refl (cb wb : Nat) (a : Option Addr) (w : World) : WKc cb wb a w a w := (WK.refl wb a w).c cb
theorem WKc.trans {cb wb : Nat} {a a1 a2 : Option Addr} {w w1 w2 : World} (h : WKc cb wb a w a1 w1) (k : WKc cb wb a1 w1 a2 w2) : WKc cb wb a w a2 w2 :=
  ⟨h.kp.from k.kp (fun x hx => by
    rcases List.mem_cons.1 hx with rfl | hx
    · exact .inr (by simp)
    rcases List.mem_cons.1 hx with rfl | hx
    · exact .inr (by simp)
    · rcases h.new x hx with h1 | h1
      · exact .inr (by simp [h1])
      · exact .inl h1),
   fun g hg => by
    rcases k.new g hg with h1 | h1
    · exact h.new g h1
    · exact .inr (Nat.le_trans h.kp.size h1)⟩
theorem WKc.pre {cb wb : Nat} {a a2 : Option Addr} {w w1 w2 : World} (h : Kp [] w w1) (k : WKc cb wb a w1 a2 w2) : WKc cb wb a w a2 w2 := (WKc.trans ⟨h.of_nil, fun _ h => .inl h⟩ k)
theorem WKc.put {cb wb : Nat} {a a2 : Option Addr} {w w1 : World} (k : WKc cb wb a w a2 w1) (o : Nat) (v : Value) : WKc cb wb a w a2 (w1.setCell ⟨cb, o, none⟩ v) :=
  k.trans ⟨(Kp.refl _ _).setCell _ (.inr (by simp)), fun _ h => .inl h⟩
theorem Foreign.nextc {b cb wb : Nat} {a a' : Option Addr} {w w' : World} (h : Foreign b wb a) (k : WKc cb wb a w a' w') (hb : b < w.heap.size) : Foreign b wb a' :=
  ⟨h.1, fun e => by rcases k.new b e with h1 | h1; exact h.2 h1; omega⟩

def kidB (pages : Bool) (wd : Nat) (n : Nd) (i : Nat) (k : Kd) : Bs :=
  (if 0 < i then textB (n.seps.getD (i - 1) []) else []) ++ ((if pages = true then fixB 4 k.page else []) ++ k.sum.l.take wd)

def Form2Post (cb wb : Nat) (a : Option Addr) (w : World) (i : Int) (out : Bs) (e : Ending) (w' : World) : Prop :=
  e = .returned (.tuple #[]) ∧ ∃ a' c', Wr w' wb a' c' out ∧ WKc cb wb a w a' w' ∧ Blk w' cb 3 #[.int .i64 i]

theorem Wr.cset {w : World} {wb c : Nat} {a : Option Addr} {out : Bs} (h : Wr w wb a c out) {cb : Nat} (hc : Foreign cb wb a) (o : Nat) (v : Value) : Wr (w.setCell ⟨cb, o, none⟩ v) wb a c out :=
  h.kp (S := [cb]) ((Kp.refl _ _).setCell _ (.inr (by simp))) (by simp; exact fun e => hc.1 e.symm) (fun g hg => by simp; rintro rfl; exact hc.2 hg)

@[go_sem] theorem rowAt?_setCell_if (w : World) (g i g' o n : Nat) (v : Value) : rowAt? (w.setCell ⟨g, i, none⟩ v) ⟨g', o, none⟩ n = if g' = g then slowRow (w.setCell ⟨g, i, none⟩ v) ⟨g', o, none⟩ n else rowAt? w ⟨g', o, none⟩ n := by
  split
  · rfl
  · rename_i h
    unfold rowAt?; rw [Below.heap_setCell _ _ _ _ h]

set_option maxHeartbeats 1000000 in set_option maxRecDepth 100000 in
theorem form2_any (wb c cb nb pb fb P wd i : Nat) (pa sa ka a : Option Addr) (pc sc kc : Nat) (pages : Bool) (out : Bs) (n : Nd) (k : Kd) (w : World)
    (h : Wr w wb a c out) (hcb : Blk w cb 3 #[.int .i64 i]) (hfc : Foreign cb wb a)
    (hnb : w.cell? ⟨nb, 1, none⟩ = some (.slice sa n.seps.length sc))
    (hpb : w.cell? ⟨pb, 0, none⟩ = some (.bool pages)) (hfp : Foreign pb wb a) (hpc : pb ≠ cb)
    (hfb : w.cell? ⟨fb, 1, none⟩ = some (.int .i64 wd)) (hff : Foreign fb wb a) (hfbc : fb ≠ cb)
    (hpl : pb < w.heap.size) (hfl : fb < w.heap.size) (hnl : nb < w.heap.size)
    (hss : SsAt w sa n.seps) (hi : i ≤ n.seps.length) (hns : n.seps.length ≤ 8796093022208) (hk : k.page < 4294967296) (hwd : wd ≤ 32) (ho : out.length + (kidB pages wd n i k).length ≤ 70368744177000) :
    Calls Try.prog 59 #[.pointer (some ⟨wb, 0, none⟩), .agg k.c, .pointer (some ⟨cb, 0, none⟩), .pointer (some ⟨nb, 0, none⟩), .pointer (some ⟨pb, 0, none⟩), .pointer (some ⟨fb, 0, none⟩)] w
      (Form2Post cb wb a w (i + 1 : Nat) (out ++ kidB pages wd n i k)) := by
  have c0 := hcb.cell 0
  have f0 := hcb.frozen 0
  have hcl := hcb.lt
  simp only [List.getElem?_toArray, List.getElem?_cons_zero] at c0
  by_cases h0 : 0 < i
  · obtain ⟨t, ht⟩ : ∃ t, n.seps[i - 1]? = some t := ⟨_, List.getElem?_eq_getElem (show i - 1 < n.seps.length by omega)⟩
    obtain ⟨b, o, rfl, hb, cf1⟩ := hss (i - 1) t ht
    have hkb : kidB pages wd n i k = textB t ++ ((if pages = true then fixB 4 k.page else []) ++ k.sum.l.take wd) := by
      simp only [kidB, h0, if_true, List.getD, ht, Option.getD_some]
    have hii : ((i : Int) - 1).toNat = i - 1 := by omega
    have HK := Lib.hid hkb; have H := Lib.hid h; have HT := Lib.hid ht; have HO := Lib.hid ho
    have HFC := Lib.hid hfc; have HFP := Lib.hid hfp; have HFF := Lib.hid hff; have HCB := Lib.hid hcb
    have HP := Lib.hid hpb; have HFB := Lib.hid hfb
    clear hkb h ht ho hfc hfp hff hcb hss hpb hfb
    cases pages
    · simp only [Bool.false_eq_true, if_false, List.nil_append] at HK
      go_enter Try.func59, Try.ntmps59
      go_wp2_with fail
      refine (wr_text _ _ _ _ t _ (H.out.kp0 ((Kp.refl [] _).alloc _)) (by have h1 := HO.out; rw [HK.out] at h1; have h2 : t.length ≤ (textB t).length := (by simp [textB]); simp only [List.length_append] at h1; omega)).mono ?_
      rintro e w1 ⟨rfl, a1, c1, h1, k1⟩
      have k1' := k1.pre ((Kp.refl [] w).alloc _)
      have c0' := k1'.cell c0 HFC.out
      have b0 := k1'.blk' HCB.out HFC.out
      have f0' := b0.frozen 0
      have p0 := k1'.cell HP.out HFP.out
      have q0 := k1'.cell HFB.out HFF.out
      have z1 := k1'.kp.size
      have kc0 : w1.cell? ⟨w.heap.size, 0, none⟩ = some (.int .u32 (k.page : Int)) := k1.cell (by rw [World.cell?_alloc_new]; exact Kd.get0 k) (Foreign.new H.out (Nat.le_refl _))
      have kc1 : rowAt? w1 ⟨w.heap.size, 1, none⟩ 32 = some k.sum.c := k1.row (by simp [go_sem]) (Foreign.new H.out (Nat.le_refl _))
      have G := HFC.out.next k1' hcl
      have G0 : Foreign w.heap.size wb a1 := Foreign.at H.out k1
      have Gf := HFF.out.next k1' hfl
      have HW := Lib.hid h1; have K1 := Lib.hid k1'; have HG := Lib.hid G; have HG0 := Lib.hid G0; have HGf := Lib.hid Gf; have HB := Lib.hid b0; clear h1 k1 k1' G G0 Gf b0
      go_wp2_with fail
      refine (wr_digest wb _ wd _ _ k.sum _ (HW.out.cset HG.out 0 _) hwd (by have h1 := HO.out; rw [HK.out] at h1; (try simp only [List.length_append, fixB_len] at h1); (try simp only [List.length_append, fixB_len]); omega)).mono ?_
      rintro e w3 ⟨rfl, a3, c3, h3, k3⟩
      have HW3 := Lib.hid h3; have K3 := Lib.hid k3; clear h3 k3
      go_wp2_with fail
      go_end0
      exact ⟨rfl, a3, c3, by rw [HK.out]; simpa [List.append_assoc] using HW3.out, ((K1.out.c cb).put 0 _).trans (K3.out.c cb), by have := K3.out.blk' (HB.out.set 0 (.int .i64 ((i : Int) + 1))) HG.out; simpa using this⟩
    · simp only [if_true] at HK
      go_enter Try.func59, Try.ntmps59
      go_wp2_with fail
      refine (wr_text _ _ _ _ t _ (H.out.kp0 ((Kp.refl [] _).alloc _)) (by have h1 := HO.out; rw [HK.out] at h1; have h2 : t.length ≤ (textB t).length := (by simp [textB]); simp only [List.length_append] at h1; omega)).mono ?_
      rintro e w1 ⟨rfl, a1, c1, h1, k1⟩
      have k1' := k1.pre ((Kp.refl [] w).alloc _)
      have c0' := k1'.cell c0 HFC.out
      have b0 := k1'.blk' HCB.out HFC.out
      have f0' := b0.frozen 0
      have p0 := k1'.cell HP.out HFP.out
      have q0 := k1'.cell HFB.out HFF.out
      have z1 := k1'.kp.size
      have kc0 : w1.cell? ⟨w.heap.size, 0, none⟩ = some (.int .u32 (k.page : Int)) := k1.cell (by rw [World.cell?_alloc_new]; exact Kd.get0 k) (Foreign.new H.out (Nat.le_refl _))
      have kc1 : rowAt? w1 ⟨w.heap.size, 1, none⟩ 32 = some k.sum.c := k1.row (by simp [go_sem]) (Foreign.new H.out (Nat.le_refl _))
      have G := HFC.out.next k1' hcl
      have G0 : Foreign w.heap.size wb a1 := Foreign.at H.out k1
      have Gf := HFF.out.next k1' hfl
      have HW := Lib.hid h1; have K1 := Lib.hid k1'; have HG := Lib.hid G; have HG0 := Lib.hid G0; have HGf := Lib.hid Gf; have HB := Lib.hid b0; clear h1 k1 k1' G G0 Gf b0
      go_wp2_with fail
      refine (wr_put_uint32 wb k.page _ _ _ _ (HW.out.cset HG.out 0 _) hk (by have h1 := HO.out; rw [HK.out] at h1; (try simp only [List.length_append, fixB_len] at h1); (try simp only [List.length_append, fixB_len]); omega)).mono ?_
      rintro e w2 ⟨rfl, a2, c2, h2, k2⟩
      have z2 := k2.kp.size
      have q1 : w2.cell? ⟨fb, 1, none⟩ = some (.int .i64 (wd : Int)) := k2.cell ((World.cell?_setCell_other _ _ _ _ (fun e => by cases e)).trans q0) HGf.out
      have kc2 := k2.row (show rowAt? (w1.setCell ⟨cb, 0, none⟩ _) ⟨w.heap.size, 1, none⟩ 32 = some k.sum.c from by unfold rowAt?; rw [Below.heap_setCell _ _ _ _ (by show w.heap.size ≠ cb; omega)]; exact kc1) HG0.out
      have HW2 := Lib.hid h2; have K2 := Lib.hid k2; clear h2 k2
      go_wp2_with fail
      refine (wr_digest wb _ wd _ _ k.sum _ HW2.out hwd (by have h1 := HO.out; rw [HK.out] at h1; (try simp only [List.length_append, fixB_len] at h1); (try simp only [List.length_append, fixB_len]); omega)).mono ?_
      rintro e w3 ⟨rfl, a3, c3, h3, k3⟩
      have HW3 := Lib.hid h3; have K3 := Lib.hid k3; clear h3 k3
      go_wp2_with fail
      go_end0
      exact ⟨rfl, a3, c3, by rw [HK.out]; simpa [List.append_assoc] using HW3.out, (((K1.out.c cb).put 0 _).trans (K2.out.c cb)).trans (K3.out.c cb), by have := K3.out.blk' (K2.out.blk' (HB.out.set 0 (.int .i64 ((i : Int) + 1))) HG.out) (HG.out.next K2.out (by simp; omega)); simpa using this⟩
  · have hkb : kidB pages wd n i k = (if pages = true then fixB 4 k.page else []) ++ k.sum.l.take wd := by
      simp only [kidB, h0, if_false, List.nil_append]
    have HK := Lib.hid hkb; have H := Lib.hid h; have HO := Lib.hid ho
    have HFC := Lib.hid hfc; have HFP := Lib.hid hfp; have HFF := Lib.hid hff; have HCB := Lib.hid hcb
    have HFB := Lib.hid hfb
    clear hkb h ho hfc hfp hff hcb hss
    cases pages
    · simp only [Bool.false_eq_true, if_false, List.nil_append] at HK
      go_enter Try.func59, Try.ntmps59
      go_wp2_with fail
      have HB := HCB; have HW : Hid (Wr (w.alloc (.cells k.c 42)) wb a c out) := H.out.kp0 ((Kp.refl [] _).alloc _)
      have HG := HFC; have HGf := HFF
      have HG0 : Hid (Foreign w.heap.size wb a) := Foreign.new H.out (Nat.le_refl _)
      refine (wr_digest wb _ wd _ _ k.sum _ ((H.out.cset HFC.out 0 _).kp0 ((Kp.refl [] _).alloc _)) hwd (by have h1 := HO.out; rw [HK.out] at h1; (try simp only [List.length_append, fixB_len] at h1); (try simp only [List.length_append, fixB_len]); omega)).mono ?_
      rintro e w3 ⟨rfl, a3, c3, h3, k3⟩
      have HW3 := Lib.hid h3; have K3 := Lib.hid k3; clear h3 k3
      go_wp2_with fail
      go_end0
      exact ⟨rfl, a3, c3, by rw [HK.out]; simpa [List.append_assoc] using HW3.out, ((WKc.refl cb wb a w).put 0 _).trans ((K3.out.pre ((Kp.refl [] _).alloc _)).c cb), by have := K3.out.blk' ((HCB.out.set 0 (.int .i64 ((i : Int) + 1))).alloc _) HFC.out; simpa using this⟩
    · simp only [if_true] at HK
      go_enter Try.func59, Try.ntmps59
      go_wp2_with fail
      have HB := HCB; have HW : Hid (Wr (w.alloc (.cells k.c 42)) wb a c out) := H.out.kp0 ((Kp.refl [] _).alloc _)
      have HG := HFC; have HGf := HFF
      have HG0 : Hid (Foreign w.heap.size wb a) := Foreign.new H.out (Nat.le_refl _)
      refine (wr_put_uint32 wb k.page _ _ _ _ ((H.out.cset HFC.out 0 _).kp0 ((Kp.refl [] _).alloc _)) hk (by have h1 := HO.out; rw [HK.out] at h1; (try simp only [List.length_append, fixB_len] at h1); (try simp only [List.length_append, fixB_len]); omega)).mono ?_
      rintro e w2 ⟨rfl, a2, c2, h2, k2⟩
      have z2 := k2.kp.size
      have q1 : w2.cell? ⟨fb, 1, none⟩ = some (.int .i64 (wd : Int)) := k2.cell ((World.cell?_alloc_lt _ _ _ (by simp; omega)).trans ((World.cell?_setCell_other _ _ _ _ (fun e => by cases e)).trans HFB.out)) HGf.out
      have kc2 := k2.row (show rowAt? _ ⟨w.heap.size, 1, none⟩ 32 = some k.sum.c from by rw [rowAt?_alloc_at _ _ _ _ _ _ (by simp)]; simp [go_sem]) HG0.out
      have HW2 := Lib.hid h2; have K2 := Lib.hid k2; clear h2 k2
      go_wp2_with fail
      refine (wr_digest wb _ wd _ _ k.sum _ HW2.out hwd (by have h1 := HO.out; rw [HK.out] at h1; (try simp only [List.length_append, fixB_len] at h1); (try simp only [List.length_append, fixB_len]); omega)).mono ?_
      rintro e w3 ⟨rfl, a3, c3, h3, k3⟩
      have HW3 := Lib.hid h3; have K3 := Lib.hid k3; clear h3 k3
      go_wp2_with fail
      go_end0
      exact ⟨rfl, a3, c3, by rw [HK.out]; simpa [List.append_assoc] using HW3.out, (((WKc.refl cb wb a w).put 0 _).trans ((K2.out.pre ((Kp.refl [] _).alloc _)).c cb)).trans (K3.out.c cb), by have := K3.out.blk' (K2.out.blk' ((HCB.out.set 0 (.int .i64 ((i : Int) + 1))).alloc _) HFC.out) (HFC.out.next K2.out (by simp; omega)); simpa using this⟩

end Go.Proofs.Ytemicgccgcmmbaa
