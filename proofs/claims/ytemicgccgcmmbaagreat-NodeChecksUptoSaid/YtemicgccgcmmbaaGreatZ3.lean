/- The reader's methods on any reader, well or not; a pair is read. -/
import Derived.Test.YtemicgccgcmmbaaGreatZ2
import Derived.Deep.RegionLaw
namespace Go.Proofs.YtemicgccgcmmbaaGreat
set_option linter.unusedVariables false
set_option linter.unusedSimpArgs false
open Go Go.RowKit

/-- A reader: what is left, or faulted. -/
def RdSt (w : World) (b : Nat) (s : Bs) : Option Bs → Prop
  | some l => RdOk w b s l
  | none => RdBad w b s
theorem RdSt.kp {S : List Nat} {w w' : World} {b : Nat} {s : Bs} {o : Option Bs} (h : RdSt w b s o) (k : Kp S w w') (hs : b ∉ S) : RdSt w' b s o := by
  cases o
  · exact RdBad.kp h k hs
  · exact RdOk.kp h k hs
theorem RdSt.lt {w : World} {b : Nat} {s : Bs} {o : Option Bs} (h : RdSt w b s o) : b < w.heap.size := by
  cases o
  · exact RdBad.lt h
  · exact RdOk.lt h

/-- What is read: the value, what is left. -/
def gotV {T : Type} (p : Bs → Option (T × Bs)) (z : T) (o : Option Bs) : T := ((o.bind p).map (·.1)).getD z
def gotR {T : Type} (p : Bs → Option (T × Bs)) (o : Option Bs) : Option Bs := (o.bind p).map (·.2)

def RdPost {T : Type} (tv : T → Value) (p : Bs → Option (T × Bs)) (z : T) (b : Nat) (s : Bs) (o : Option Bs) (w : World) (e : Ending) (w' : World) : Prop :=
  e = .returned (tv (gotV p z o)) ∧ Kp [b] w w' ∧ RdSt w' b s (gotR p o)

theorem text_all (b m : Nat) (s : Bs) (o : Option Bs) (w : World) (h : RdSt w b s o) (hs : s.length ≤ 140737488351232) (hm0 : 0 < m) (hm : m ≤ 9223372036854775807) :
    Calls Tryz.prog 66 #[.pointer (some ⟨b, 0, none⟩), .int .i64 m] w (RdPost (fun t : Bs => .string ⟨t.toArray⟩) (textP m) [] b s o w) := by
  cases o with
  | none => exact (rd_text_bad b s m w h).mono fun e w' ⟨h1, h2⟩ => by subst h2; exact ⟨h1, Kp.refl _ _, h⟩
  | some l =>
    refine (rd_text b m s l w h hs hm0 hm).mono fun e w' h1 => ?_
    unfold StrPost at h1
    split at h1 <;> (rename_i hp; exact ⟨by simpa [gotV, hp] using h1.1, h1.2.1, by unfold gotR; simp only [hp, Option.bind_some, Option.map_some, Option.map_none]; exact h1.2.2⟩)
theorem u32_all (b : Nat) (s : Bs) (o : Option Bs) (w : World) (h : RdSt w b s o) (hs : s.length ≤ 140737488351232) :
    Calls Tryz.prog 70 #[.pointer (some ⟨b, 0, none⟩)] w (RdPost (fun n : Nat => .int .u32 (n : Int)) (takeP 4) 0 b s o w) := by
  cases o with
  | none => exact (take_bad_uint32 b s w h).mono fun e w' ⟨h1, h2⟩ => by subst h2; exact ⟨h1, Kp.refl _ _, h⟩
  | some l =>
    refine (take_uint32 b s l w h hs).mono fun e w' h1 => ?_
    unfold TakePostuint32 at h1
    split at h1 <;> (rename_i hp; exact ⟨by simpa [gotV, hp] using h1.1, h1.2.1, by unfold gotR; simp only [hp, Option.bind_some, Option.map_some, Option.map_none]; exact h1.2.2⟩)
theorem u8_all (b : Nat) (s : Bs) (o : Option Bs) (w : World) (h : RdSt w b s o) (hs : s.length ≤ 140737488351232) :
    Calls Tryz.prog 63 #[.pointer (some ⟨b, 0, none⟩)] w (RdPost (fun n : Nat => .int .u8 (n : Int)) (takeP 1) 0 b s o w) := by
  cases o with
  | none => exact (take_bad_uint8 b s w h).mono fun e w' ⟨h1, h2⟩ => by subst h2; exact ⟨h1, Kp.refl _ _, h⟩
  | some l =>
    refine (take_uint8 b s l w h hs).mono fun e w' h1 => ?_
    unfold TakePostuint8 at h1
    split at h1 <;> (rename_i hp; exact ⟨by simpa [gotV, hp] using h1.1, h1.2.1, by unfold gotR; simp only [hp, Option.bind_some, Option.map_some, Option.map_none]; exact h1.2.2⟩)
def dgP (n : Nat) (l : Bs) : Option (Dg × Bs) := (rawP n l).map fun r => (Dg.pad r.1, r.2)
theorem dg_all (b n : Nat) (s : Bs) (o : Option Bs) (w : World) (h : RdSt w b s o) (hs : s.length ≤ 140737488351232) (hn : n ≤ 32) :
    Calls Tryz.prog 71 #[.pointer (some ⟨b, 0, none⟩), .int .i64 n] w (RdPost (fun d : Dg => .agg d.c) (dgP n) Dg.zero b s o w) := by
  cases o with
  | none => exact (rd_digest_bad b n s w h hn).mono fun e w' ⟨h1, h2⟩ => ⟨h1, h2.of_nil, RdBad.kp h h2 (by simp)⟩
  | some l =>
    refine (rd_digest b n s l w h hs hn).mono fun e w' h1 => ?_
    unfold DgPost at h1
    split at h1 <;> (rename_i hp; exact ⟨by simpa [gotV, dgP, hp] using h1.1, h1.2.1, by unfold gotR; simp only [dgP, hp, Option.bind_some, Option.map_some, Option.map_none]; exact h1.2.2⟩)

def isRow : TypeDesc → Bool
  | .struct _ | .array _ _ => true
  | _ => false
/-- A struct that stands in a block of its own is handed back. -/
theorem row_ret {fn : Func} {R : Ending → World → Prop} {a : Act} {w : World} {p : Tmp} {ty : TypeId} {d : TypeDesc} (g : Nat) {t : TypeId} {cs : Array Value} (hr : fn.results = #[.cell p ty]) (hu : Tryz.prog.underlying ty = some d) (hd : isRow d = true) (hi : (Tryz.prog.info? ty).map (·.size) = some cs.size)
    (hp : a.tmps.getD p undef = .pointer (some ⟨g, 0, none⟩)) (hg : Blk w g t cs) (hdf : a.defers = []) (hR : R (.returned (.agg cs)) w) : bodyPost Tryz.prog fn R .ret a w :=
  bodyPost_ret (results_cell_row hr a.tmps w g t cs (0, 0) _ hp hg hu (by cases d <;> first | rfl | cases hd) hi) hdf hR

/-- A pair's bytes. -/
def pairP (P : Nat) (_ : Unit) (l : Bs) : Option (Unit × Pr × Bs) :=
  match textP (P / 16) l with
  | none => none
  | some (k, l1) => match textP (P / 8) l1 with
    | none => none
    | some (v, l2) => some ((), (k, v), l2)

theorem pairP_got {P : Nat} {l : Bs} {w : World} {b : Nat} {s v1 v2 : Bs} (h1 : gotV (textP (P / 16)) [] (some l) = v1) (h2 : gotV (textP (P / 8)) [] (gotR (textP (P / 16)) (some l)) = v2)
    (h : RdSt w b s (gotR (textP (P / 8)) (gotR (textP (P / 16)) (some l)))) :
    match pairP P () l with | some (x1, t1, l') => () = x1 ∧ (v1, v2) = t1 ∧ RdOk w b s l' | none => RdBad w b s := by
  unfold pairP
  cases ht : textP (P / 16) l with
  | none => simpa [gotR, ht, RdSt] using h
  | some r =>
    simp only [gotV, gotR, Option.bind_some, ht, Option.map_some, Option.getD_some] at h1 h2 h
    cases ht2 : textP (P / 8) r.2 with
    | none => simp only [ht2, Option.map_none] at h ⊢; exact h
    | some r2 => simp only [ht2, Option.map_some, Option.getD_some] at h h2 ⊢; exact ⟨trivial, by rw [h1, h2], h⟩

/-- The pairs' closure looks at the frame. -/
def JP (fb P : Nat) (wd : Int) (_ : Unit) (w : World) (fp : List Nat) : Prop := fp = [fb] ∧ Blk w fb 23 #[.int .i64 P, .int .i64 wd]
theorem JP.st (b fb P : Nat) (wd : Int) (hne : fb ≠ b) : St b (JP fb P wd) where
  kp := fun {x w w' fp S} ⟨h1, h2⟩ k hs => ⟨h1, h2.kp k (hs fb (by simp [h1]))⟩
  lt := fun {x w fp} ⟨h1, h2⟩ g hg => by subst h1; simp at hg; subst hg; exact ⟨h2.lt, hne⟩

set_option maxHeartbeats 1000000 in set_option maxRecDepth 100000 in
theorem one_pair (b fb P : Nat) (wd : Int) (s l : Bs) (w : World) (hs : s.length ≤ 140737488351232) (hP0 : 1024 ≤ P) (hP : P ≤ 8192) (hne : fb ≠ b) (h : RdOk w b s l) (hf : Blk w fb 23 #[.int .i64 P, .int .i64 wd]) :
    Calls Tryz.prog 65 #[.pointer (some ⟨b, 0, none⟩), .pointer (some ⟨fb, 0, none⟩)] w (OnePost tvP (JP fb P wd) b s [fb] w (pairP P () l)) := by
  have h16 : (P : Int) / 16 = ((P / 16 : Nat) : Int) := by omega
  have h8 : (P : Int) / 8 = ((P / 8 : Nat) : Int) := by omega
  have H16 := Lib.hid h16; have H8 := Lib.hid h8
  have H : Hid (RdSt w b s (some l)) := h
  have hbl := h.lt
  have HF := Lib.hid hf
  have f0 := hf.cell 0
  have f1 := hf.cell 1
  have hfl := hf.lt
  simp only [List.getElem?_toArray, List.getElem?_cons_zero, List.getElem?_cons_succ] at f0 f1
  clear h hf h16 h8
  go_enter Tryz.func65, Tryz.ntmps65
  go_wp2_with fail
  refine (maxKey_any _ _ _ (by omega) (by omega)).mono ?_
  rintro e w' ⟨rfl, bs1, n1, rfl⟩
  rw [H16.out]
  go_wp2_with fail
  refine (text_all b (P / 16) s _ _ (H.out.kp (((Kp.refl [] _).alloc _).ext _ _) (by simp)) hs (by omega) (by omega)).mono ?_
  rintro e w1 ⟨rfl, k1, r1⟩
  have hblk := (Blk.alloc HF.out (.cells #[.string ⟨#[]⟩, .string ⟨#[]⟩] 56)).kp ((Kp.refl [] _).ext bs1 n1) (by simp)
  have hbf := hblk.kp k1 (by simp; exact hne)
  have hrb := (((Blk.new w 56 #[.string ⟨#[]⟩, .string ⟨#[]⟩]).kp ((Kp.refl [] _).ext bs1 n1) (by simp)).kp k1 (by simp; omega))
  have g0 := hbf.cell 0
  have g1 := hbf.cell 1
  have y0 := hrb.cell 0
  have y1 := hrb.cell 1
  have z0 := hrb.frozen 0
  have z1 := hrb.frozen 1
  simp only [List.getElem?_toArray, List.getElem?_cons_zero, List.getElem?_cons_succ] at g0 g1 y0 y1
  have hsz := k1.size
  simp only [ext_size, World.size_alloc] at hsz
  obtain ⟨v1, hv1⟩ : ∃ v, gotV (textP (P / 16)) [] (some l) = v := ⟨_, rfl⟩
  rw [hv1]
  have HV1 := Lib.hid hv1; have K1 := Lib.hid k1; have R1 := Lib.hid r1; have HBF := Lib.hid hbf; have HRB := Lib.hid hrb
  clear hv1 k1 r1 hblk hbf hrb
  go_wp2_with fail
  refine (maxVal_any _ _ _ (by omega) (by omega)).mono ?_
  rintro e w' ⟨rfl, bs2, n2, rfl⟩
  rw [H8.out]
  go_wp2_with fail
  refine (text_all b (P / 8) s _ _ (R1.out.kp ((Kp.refl [] _).ext _ _) (by simp)) hs (by omega) (by omega)).mono ?_
  rintro e w2 ⟨rfl, k2, r2⟩
  obtain ⟨v2, hv2⟩ : ∃ v, gotV (textP (P / 8)) [] (gotR (textP (P / 16)) (some l)) = v := ⟨_, rfl⟩
  rw [hv2]
  have hrb := (Blk.kp HRB.out ((Kp.refl [] _).ext bs2 n2) (by simp)).kp k2 (by simp; omega)
  have y2 := hrb.cell 0
  have y3 := hrb.cell 1
  have z2 := hrb.frozen 0
  have z3 := hrb.frozen 1
  simp only [List.getElem?_toArray, List.getElem?_cons_zero, List.getElem?_cons_succ] at y2 y3
  have HV2 := Lib.hid hv2; have K2 := Lib.hid k2; have R2 := Lib.hid r2
  clear hv2 k2 r2 hrb
  go_wp2_with fail
  have hfin := ((HRB.out.kp ((Kp.refl [] _).ext bs2 n2) (by simp)).kp K2.out (by simp; omega)).set 0 (.string ⟨v1.toArray⟩)
  have hfin := hfin.set 1 (.string ⟨v2.toArray⟩)
  simp at hfin
  have k3 : Kp [w.heap.size] w2 ((w2.setCell ⟨w.heap.size, 0, none⟩ (.string ⟨v1.toArray⟩)).setCell ⟨w.heap.size, 1, none⟩ (.string ⟨v2.toArray⟩)) := ((Kp.refl [w.heap.size] _).setCell _ (.inr (by simp))).setCell _ (.inr (by simp))
  refine row_ret w.heap.size rfl Tryz.underlying56 rfl (by kernel_rfl) rfl hfin rfl ⟨(v1, v2), (), [fb], rfl, ⟨rfl, ?_⟩, ?_, fun g hg => .inl hg, by have := pairP_got HV1.out HV2.out (R2.out.kp k3 (by simp; omega)); revert this; cases pairP P () l <;> exact id⟩
  · exact ((HBF.out.kp ((Kp.refl [] _).ext bs2 n2) (by simp)).kp K2.out (by simp; exact hne)).kp k3 (by simp; omega)
  · refine Kp.from (T := [w.heap.size]) ?_ k3 (by simp)
    exact ((((((Kp.refl [b, fb] _).alloc _).ext _ _).trans (K1.out.mono (fun k _ hk => by simp at hk; simp [hk]))).ext _ _).trans (K2.out.mono (fun k _ hk => by simp at hk; simp [hk])))

end Go.Proofs.YtemicgccgcmmbaaGreat

/- A kid is read, and the separator ahead of it. -/
namespace Go.Proofs.YtemicgccgcmmbaaGreat
set_option linter.unusedVariables false
set_option linter.unusedSimpArgs false
open Go Go.RowKit

/-- The separator ahead of all kids but the first. -/
def sepP (P : Nat) (x : Bool × List Bs) (l : Bs) : Option ((Bool × List Bs) × Bs) :=
  if x.1 = true then some ((false, x.2), l) else (textP (P / 16) l).map fun r => ((false, x.2 ++ [r.1]), r.2)
/-- A kid's bytes. -/
def kidP (P wd : Nat) (pages : Bool) (x : Bool × List Bs) (l : Bs) : Option ((Bool × List Bs) × Kd × Bs) :=
  match sepP P x l with
  | none => none
  | some (x', l1) => match (if pages = true then takeP 4 l1 else some (0, l1)) with
    | none => none
    | some (n, l2) => match dgP wd l2 with
      | none => none
      | some (d, l3) => some (x', ⟨n, d⟩, l3)

/-- The kids' closure: the frame, the word 'with pages', whether it is the first, the node. -/
def JK (b fb pb fst nb P wd : Nat) (pages : Bool) (x : Bool × List Bs) (w : World) (fp : List Nat) : Prop :=
  ∃ a c, fp = fst :: nb :: fb :: pb :: ab a ∧ Blk w fst 4 #[.bool x.1] ∧ Blk w nb 28 #[.slice none 0 0, .slice a x.2.length c, .slice none 0 0] ∧ Own w 9 1 a x.2.length c (x.2.map fun t => .string ⟨t.toArray⟩)
    ∧ Blk w fb 23 #[.int .i64 P, .int .i64 wd] ∧ Blk w pb 4 #[.bool pages] ∧ fst ∉ ab a ∧ nb ∉ ab a ∧ fb ∉ ab a ∧ pb ∉ ab a ∧ b ∉ ab a

theorem JK.st {b fb pb fst nb P wd : Nat} {pages : Bool} (h1 : fb ≠ b) (h2 : pb ≠ b) (h3 : fst ≠ b) (h4 : nb ≠ b) : St b (JK b fb pb fst nb P wd pages) where
  kp := fun {x w w' fp S} ⟨a, c, e, b1, b2, o, b3, b4, n⟩ k hs => by
    subst e
    simp only [List.mem_cons, forall_eq_or_imp] at hs
    exact ⟨a, c, rfl, b1.kp k hs.1, b2.kp k hs.2.1, o.kp k hs.2.2.2.2, b3.kp k hs.2.2.1, b4.kp k hs.2.2.2.1, n⟩
  lt := fun {x w fp} ⟨a, c, e, b1, b2, o, b3, b4, _, _, _, _, n⟩ g hg => by
    subst e
    simp only [List.mem_cons] at hg
    rcases hg with rfl | rfl | rfl | rfl | hg
    · exact ⟨b1.lt, h3⟩
    · exact ⟨b2.lt, h4⟩
    · exact ⟨b3.lt, h1⟩
    · exact ⟨b4.lt, h2⟩
    · exact ⟨o.lt g hg, fun e => n (e ▸ hg)⟩

@[go_sem] theorem Kd.set0 (k : Kd) (n : Nat) : k.c.setIfInBounds 0 (.int .u32 (n : Int)) = (Kd.mk n k.sum).c := by simp [Kd.c]
@[go_sem] theorem Kd.spl1 (k : Kd) (d : Dg) : spl k.c 1 d.c = (Kd.mk k.page d).c := by
  apply Array.ext'
  have h1 : (bC k.sum.l).length = 32 := by simp [bC, k.sum.h]
  have h2 : (bC d.l).length = 32 := by simp [bC, d.h]
  simp [spl, Kd.c, Dg.c, h2]
  omega

/-- What one_kid reads, by its pieces. -/
def kidO (pages : Bool) (o : Option Bs) : Option Bs := if pages = true then gotR (takeP 4) o else o
def kidN (pages : Bool) (o : Option Bs) : Nat := if pages = true then gotV (takeP 4) 0 o else 0
theorem kidP_got {P wd : Nat} {pages : Bool} {x : Bool × List Bs} {l s : Bs} {w : World} {b : Nat} {x' : Bool × List Bs} {o : Option Bs}
    (hx : ∀ r, sepP P x l = some r → x' = r.1 ∧ o = some r.2) (hn : sepP P x l = none → o = none)
    (h : RdSt w b s (gotR (dgP wd) (kidO pages o))) :
    match kidP P wd pages x l with | some (x1, t1, l') => x' = x1 ∧ Kd.mk (kidN pages o) (gotV (dgP wd) Dg.zero (kidO pages o)) = t1 ∧ RdOk w b s l' | none => RdBad w b s := by
  unfold kidP
  cases hs : sepP P x l with
  | none => rw [hn hs] at h; cases pages <;> simpa [kidO, gotR, RdSt] using h
  | some r =>
    obtain ⟨rfl, rfl⟩ := hx r hs
    cases pages
    · simp only [kidO, kidN, Bool.false_eq_true, if_false, gotR, gotV, Option.bind_some] at h ⊢
      cases hd : dgP wd r.2 with
      | none => simp only [hd, Option.map_none] at h ⊢; exact h
      | some r3 => simp only [hd, Option.map_some, Option.getD_some] at h ⊢; exact ⟨trivial, trivial, h⟩
    · simp only [kidO, kidN, if_true, gotR, gotV, Option.bind_some] at h ⊢
      cases ht : takeP 4 r.2 with
      | none => simp only [ht, Option.map_none, Option.bind_none] at h ⊢; exact h
      | some r2 =>
        simp only [ht, Option.map_some, Option.getD_some, Option.bind_some] at h ⊢
        cases hd : dgP wd r2.2 with
        | none => simp only [hd, Option.map_none] at h ⊢; exact h
        | some r3 => simp only [hd, Option.map_some, Option.getD_some] at h ⊢; exact ⟨trivial, trivial, h⟩

/-- The end of one_kid: from the world ahead of the kid's own block to the last. -/
theorem kid_end {b fb pb fst nb P wd : Nat} {pages : Bool} {x x' : Bool × List Bs} {fp fp' : List Nat} {s l : Bs} {w X F : World} {o : Option Bs} {r0 : Nat} {t : Kd}
    (hst : St b (JK b fb pb fst nb P wd pages)) (xj : JK b fb pb fst nb P wd pages x' X fp') (xk : Kp (b :: fp) w X) (xn : ∀ g ∈ fp', g ∈ fp ∨ w.heap.size ≤ g) (hr0 : r0 ∉ fp') (hwr : w.heap.size ≤ r0)
    (kf : Kp [b, r0] X F) (hx : ∀ r, sepP P x l = some r → x' = r.1 ∧ o = some r.2) (hn : sepP P x l = none → o = none)
    (ht : t = Kd.mk (kidN pages o) (gotV (dgP wd) Dg.zero (kidO pages o))) (h : RdSt F b s (gotR (dgP wd) (kidO pages o))) :
    OnePost tvK (JK b fb pb fst nb P wd pages) b s fp w (kidP P wd pages x l) (.returned (.agg t.c)) F := by
  subst ht
  refine ⟨_, x', fp', rfl, hst.kp xj kf ?_, xk.from kf ?_, xn, by have := kidP_got hx hn h; revert this; cases kidP P wd pages x l <;> exact id⟩
  · intro g hg; simp only [List.mem_cons, List.not_mem_nil, or_false, not_or]
    exact ⟨(hst.lt xj g hg).2, fun e => hr0 (e ▸ hg)⟩
  · intro g hg; simp only [List.mem_cons, List.not_mem_nil, or_false] at hg
    rcases hg with rfl | rfl
    · exact .inr (by simp)
    · exact .inl hwr

set_option maxHeartbeats 1000000 in set_option maxRecDepth 100000 in
theorem one_kid (b fb pb fst nb P wd : Nat) (pages : Bool) (x : Bool × List Bs) (fp : List Nat) (s l : Bs) (w : World) (hs : s.length ≤ 3909374676453) (hP0 : 1024 ≤ P) (hP : P ≤ 8192) (hwd : wd ≤ 32)
    (n1 : fb ≠ b) (n2 : pb ≠ b) (n3 : fst ≠ b) (n4 : nb ≠ b) (n5 : fst ≠ nb) (n6 : fst ≠ fb) (n7 : fst ≠ pb) (n8 : nb ≠ fb) (n9 : nb ≠ pb)
    (hI : x.2.length + l.length ≤ s.length) (h : RdOk w b s l) (hj : JK b fb pb fst nb P wd pages x w fp) :
    Calls Tryz.prog 69 #[.pointer (some ⟨b, 0, none⟩), .pointer (some ⟨fst, 0, none⟩), .pointer (some ⟨nb, 0, none⟩), .pointer (some ⟨fb, 0, none⟩), .pointer (some ⟨pb, 0, none⟩)] w (OnePost tvK (JK b fb pb fst nb P wd pages) b s fp w (kidP P wd pages x l)) := by
  obtain ⟨first, seps⟩ := x
  have HST := Lib.hid (JK.st (P := P) (wd := wd) (pages := pages) n1 n2 n3 n4)
  have HJ := Lib.hid hj
  obtain ⟨a, c, rfl, b1, b2, o1, b3, b4, m1, m2, m3, m4, m5⟩ := hj
  have hs' : s.length ≤ 140737488351232 := by omega
  have h16 : (P : Int) / 16 = ((P / 16 : Nat) : Int) := by omega
  have H16 := Lib.hid h16; clear h16
  have H : Hid (RdSt w b s (some l)) := h
  have hbl := h.lt
  have B1 := Lib.hid b1; have B2 := Lib.hid b2; have B3 := Lib.hid b3; have B4 := Lib.hid b4; have O1 := Lib.hid o1
  have l1 := b1.lt; have l2 := b2.lt; have l3 := b3.lt; have l4 := b4.lt
  have p0 := b1.cell 0; have p1 := b1.frozen 0
  have q1 := b2.cell 1; have q2 := b2.frozen 1
  have r0 := b3.cell 0; have r1 := b3.cell 1
  have u0 := b4.cell 0
  simp only [List.getElem?_toArray, List.getElem?_cons_zero, List.getElem?_cons_succ] at p0 q1 r0 r1 u0
  have e5 : nb ≠ fst := fun e => n5 e.symm
  clear h b1 b2 b3 b4 o1
  cases first
  · have hsl : seps.length ≤ 8796093022207 := by simp only at hI; omega
    cases pages
    · go_enter Tryz.func69, Tryz.ntmps69
      go_wp2_with fail
      have sk := Lib.hid (show ∀ (W : World) (T : List Nat), Kp T w W → nb ∉ T → fb ∉ T → (W.cell? ⟨nb, 1, none⟩ = some (.slice a seps.length c) ∧ W.cell? ⟨fb, 0, none⟩ = some (.int .i64 P) ∧ W.cell? ⟨fb, 1, none⟩ = some (.int .i64 wd) ∧ W.frozen? ⟨nb, 1, none⟩ = false) from fun W T k h1 h2 => ⟨k.cell q1 h1, k.cell r0 h2, k.cell r1 h2, (k.frozen l2 h1).trans q2⟩)
      go_region_law (first | (refine step_call rfl 67 rfl #[.agg #[.int .i64 P, .int .i64 wd]] (by kernel_rfl) (maxKey_any _ _ _ (by omega) (by omega)) ?_; rintro e w' ⟨rfl, bs1, e1, rfl⟩; have zn1 : nb < w.heap.size + 1 + bs1.length := (by omega); have zn3 : nb < w.heap.size + 1 := (by omega); refine ⟨_, rfl, ?_⟩; rw [H16.out]) | (refine step_call rfl 66 rfl #[.pointer (some ⟨b, 0, none⟩), .int .i64 ((P / 16 : Nat) : Int)] (by kernel_rfl) (text_all b (P / 16) s _ _ (H.out.kp ((((Kp.refl [] w).alloc _).drew).ext _ _) (by simp)) hs' (by omega) (by omega)) ?_; rintro e w2 ⟨rfl, k2, R2⟩; refine ⟨_, rfl, ?_⟩; have HR2 := Lib.hid R2; have HK2a := Lib.hid ((((Kp.refl [b] (w.alloc (.cells Kd.zero.c 59))).drew).ext _ _).trans k2); have HK2 := Lib.hid (((Kp.refl [b] w).alloc _).trans HK2a.out); clear k2 R2; have zz2 := HK2.out.size; have zn2 : nb < w2.heap.size := (by omega); have zf2 : fb < w2.heap.size := (by omega); obtain ⟨t1, t2, t3, t4⟩ := sk.out _ _ HK2.out (by simp; omega) (by simp; omega)) | (refine step_app_str rfl rfl (by simp [Act.eval, Act.put]) ((O1.out.kp HK2.out (by intro g hg; simp; rintro rfl; exact m5 hg)).kp ((Kp.refl [] _).alloc _) (by simp)) 1 _ (by simp [Act.eval, Act.put]) (src_row Tryz.underlying25 _ _ _ _ rfl rfl (by simp [Value.oneCell'])) (by omega) ?_; intro a2 c2 w4 hown hk4 hn4; have HO4 := Lib.hid hown; have HN4 := Lib.hid hn4; have HK4 := Lib.hid hk4; have HK5 : Hid (Kp (b :: ab a) w w4) := ((HK2.out.alloc _).mono (fun k _ hk => by simp at hk; simp [hk])).trans (hk4.mono (fun k _ hk => by simp [hk])); have HK5a : Hid (Kp (b :: ab a) (w.alloc (.cells Kd.zero.c 59)) w4) := ((HK2a.out.alloc _).mono (fun k _ hk => by simp at hk; simp [hk])).trans (hk4.mono (fun k _ hk => by simp [hk])); clear hown hk4 hn4; have zz5 := HK5.out.size; have zn5 : nb < w4.heap.size := (by omega); obtain ⟨t5, t6, t7, t8⟩ := sk.out _ _ HK5.out (by simp only [List.mem_cons, not_or]; exact ⟨n4, m2⟩) (by simp only [List.mem_cons, not_or]; exact ⟨n1, m3⟩)))
      all_goals
        have wz : w.heap.size < w4.heap.size := by have := HK5a.out.size; simp at this; omega
        have v0 := HK5.out.cell p0 (by simp only [List.mem_cons, not_or]; exact ⟨n3, m1⟩)
        have v1 := (HK5.out.frozen (a := ⟨fst, 0, none⟩) l1 (by simp only [List.mem_cons, not_or]; exact ⟨n3, m1⟩)).trans p1
        have v2 := HK5.out.cell u0 (by simp only [List.mem_cons, not_or]; exact ⟨n2, m4⟩)
        have v4 : fst < w4.heap.size := by omega
        have v5 : pb < w4.heap.size := by omega
        have v6 : fb < w4.heap.size := by omega
        have ha2 : ∀ g ∈ ab a2, g ∉ [fst, nb, fb, pb, b, w.heap.size] := by
          intro g hg
          have hz2 := HK2a.out.size
          simp only [World.size_alloc] at hz2
          rcases HN4.out g hg with h1 | h1
          · have h3 := O1.out.lt g h1
            simp only [List.mem_cons, List.not_mem_nil, or_false, not_or]
            exact ⟨fun e => m1 (e ▸ h1), fun e => m2 (e ▸ h1), fun e => m3 (e ▸ h1), fun e => m4 (e ▸ h1), fun e => m5 (e ▸ h1), by omega⟩
          · simp only [World.size_alloc] at h1
            simp only [List.mem_cons, List.not_mem_nil, or_false, not_or]
            omega
        have KB : Kp [fst, nb] w4 ((w4.setCell ⟨nb, 1, none⟩ (.slice a2 (seps.length + 1) c2)).setCell ⟨fst, 0, none⟩ (.bool false)) := ((Kp.refl [fst, nb] _).setCell _ (.inr (by simp))).setCell _ (.inr (by simp))
        have XB := Lib.hid (((Blk.new w 59 Kd.zero.c).kp HK5a.out (by simp only [List.mem_cons, not_or]; exact ⟨by omega, fun h => by have := O1.out.lt _ h; omega⟩)).kp KB (by simp; omega))
        have XF := Lib.hid ((B3.out.kp HK5.out (by simp only [List.mem_cons, not_or]; exact ⟨n1, m3⟩)).kp KB (by simp; omega))
        have XR := Lib.hid ((HR2.out.kp ((Kp.refl [] _).alloc (.cells #[.string ⟨(gotV (textP (P / 16)) [] (some l)).toArray⟩] 9)) (by simp)).kp HK4.out m5 |>.kp KB (by simp; omega))
        have XK : Hid (Kp (b :: (fst :: nb :: fb :: pb :: ab a)) w ((w4.setCell ⟨nb, 1, none⟩ (.slice a2 (seps.length + 1) c2)).setCell ⟨fst, 0, none⟩ (.bool false))) := Lib.hid ((HK5.out.mono (fun k _ hk => by simp only [List.mem_cons] at hk ⊢; rcases hk with h | h <;> simp [h])).from KB (by simp))
        have XN : Hid (∀ g ∈ (fst :: nb :: fb :: pb :: ab a2), g ∈ (fst :: nb :: fb :: pb :: ab a) ∨ w.heap.size ≤ g) := Lib.hid (by
          intro g hg
          simp only [List.mem_cons] at hg ⊢
          rcases hg with h | h | h | h | h
          · simp [h]
          · simp [h]
          · simp [h]
          · simp [h]
          · rcases HN4.out g h with h1 | h1
            · simp [h1]
            · right; simp only [World.size_alloc] at h1; omega)
        have XJ : Hid (JK b fb pb fst nb P wd false (false, seps ++ [gotV (textP (P / 16)) [] (some l)]) ((w4.setCell ⟨nb, 1, none⟩ (.slice a2 (seps.length + 1) c2)).setCell ⟨fst, 0, none⟩ (.bool false)) (fst :: nb :: fb :: pb :: ab a2)) := Lib.hid (by
          refine ⟨a2, c2, rfl, ?_, ?_, ?_, XF.out, ?_, fun h => ha2 _ h (by simp), fun h => ha2 _ h (by simp), fun h => ha2 _ h (by simp), fun h => ha2 _ h (by simp), fun h => ha2 _ h (by simp)⟩
          · have h1 := B1.out.kp HK5.out (by simp only [List.mem_cons, not_or]; exact ⟨n3, m1⟩)
            have h2 := (h1.set_other (a := ⟨nb, 1, none⟩) (.slice a2 (seps.length + 1) c2) e5).set 0 (.bool false)
            simpa using h2
          · have h1 := B2.out.kp HK5.out (by simp only [List.mem_cons, not_or]; exact ⟨n4, m2⟩)
            have h2 := (h1.set 1 (.slice a2 (seps.length + 1) c2)).set_other (a := ⟨fst, 0, none⟩) (.bool false) n5
            simpa using h2
          · have := HO4.out.kp KB (by intro g hg; have := ha2 g hg; simp only [List.mem_cons, not_or] at this ⊢; exact ⟨this.1, this.2.1, by simp⟩)
            simpa using this
          · exact (B4.out.kp HK5.out (by simp only [List.mem_cons, not_or]; exact ⟨n2, m4⟩)).kp KB (by simp; omega))
        have XQ : Hid (w.heap.size ∉ (fst :: nb :: fb :: pb :: ab a2)) := Lib.hid (by
          simp only [List.mem_cons, not_or]
          exact ⟨by omega, by omega, by omega, by omega, fun h => ha2 _ h (by simp)⟩)
        have XE : Hid (∀ r, sepP P (false, seps) l = some r → (false, seps ++ [gotV (textP (P / 16)) [] (some l)]) = r.1 ∧ gotR (textP (P / 16)) (some l) = some r.2) := Lib.hid (by
          intro r hr
          simp only [sepP, Bool.false_eq_true, if_false] at hr
          cases ht : textP (P / 16) l with
          | none => simp [ht] at hr
          | some r0 => simp only [ht, Option.map_some, Option.some.injEq] at hr; subst hr; simp [gotV, gotR, ht])
        have XM : Hid (sepP P (false, seps) l = none → gotR (textP (P / 16)) (some l) = none) := Lib.hid (by
          intro hr
          simp only [sepP, Bool.false_eq_true, if_false, Option.map_eq_none_iff] at hr
          simp [gotR, hr])
        clear ha2 t1 t2 t3 t4 zn2 zf2 zz2
        go_wp2_with fail
        have hX : (((w4.setCell ⟨nb, 1, none⟩ (.slice a2 (seps.length + 1) c2)).setCell ⟨fst, 0, none⟩ (.bool false))).heap.size = (w4.heap.size) := by simp
        have XBk := Lib.hid (XB.out.alloc (.cells Kd.zero.c 59))
        have XKk : Hid (Blk ((((w4.setCell ⟨nb, 1, none⟩ (.slice a2 (seps.length + 1) c2)).setCell ⟨fst, 0, none⟩ (.bool false))).alloc (.cells Kd.zero.c 59)) ((w4.heap.size)) 59 Kd.zero.c) := Lib.hid (hX ▸ Blk.new ((w4.setCell ⟨nb, 1, none⟩ (.slice a2 (seps.length + 1) c2)).setCell ⟨fst, 0, none⟩ (.bool false)) 59 Kd.zero.c)
        have XFk := Lib.hid (XF.out.alloc (.cells Kd.zero.c 59))
        have xz : w.heap.size < (w4.heap.size) := by omega
        have xb : b < (w4.heap.size) := by omega
        have K6 := XKk; have B6 := XBk
        refine (dg_all b wd s (gotR (textP (P / 16)) (some l)) _ (XR.out.kp ((Kp.refl [] _).alloc _) (by simp)) hs' hwd).mono ?_
        rintro e w6 ⟨rfl, k6, r6⟩
        obtain ⟨d, hd⟩ : ∃ d, gotV (dgP wd) Dg.zero (gotR (textP (P / 16)) (some l)) = d := ⟨_, rfl⟩
        rw [hd]
        have HD := Lib.hid hd
        have K7 := Lib.hid (K6.out.kp k6 (by simp; omega))
        have B7 := Lib.hid (B6.out.kp k6 (by simp; omega))
        have j0 := own?_blk K7.out; have j1 := own?_blk B7.out; have j2 := K7.out.lt; have j3 := B7.out.lt
        have j4 : w.heap.size ≠ (w4.heap.size) := by omega
        have HK6 := Lib.hid k6; have HR6 := Lib.hid r6
        clear hd k6 r6
        go_wp2_with fail
        refine row_ret w.heap.size rfl Tryz.underlying59 rfl (by rw [Kd.c_size]; kernel_rfl) rfl (((B7.out.setRow_other (g := (w4.heap.size)) _ (by omega)).setRow _)) rfl ?_
        exact kid_end (o := (gotR (textP (P / 16)) (some l))) HST.out XJ.out XK.out XN.out XQ.out (Nat.le_refl _) (((((Kp.refl [b, w.heap.size] _).alloc _).trans (HK6.out.mono (fun k _ hk => by simp at hk; simp [hk]))).setRow _ _ (.inl (by simp))).setRow _ _ (.inr (by simp))) XE.out XM.out (by rw [← HD.out]; rfl) (HR6.out.kp (((Kp.refl [(w4.heap.size), w.heap.size] _).setRow _ _ (by simp)).setRow _ _ (by simp)) (by simp; omega))
    · go_enter Tryz.func69, Tryz.ntmps69
      go_wp2_with fail
      have sk := Lib.hid (show ∀ (W : World) (T : List Nat), Kp T w W → nb ∉ T → fb ∉ T → (W.cell? ⟨nb, 1, none⟩ = some (.slice a seps.length c) ∧ W.cell? ⟨fb, 0, none⟩ = some (.int .i64 P) ∧ W.cell? ⟨fb, 1, none⟩ = some (.int .i64 wd) ∧ W.frozen? ⟨nb, 1, none⟩ = false) from fun W T k h1 h2 => ⟨k.cell q1 h1, k.cell r0 h2, k.cell r1 h2, (k.frozen l2 h1).trans q2⟩)
      go_region_law (first | (refine step_call rfl 67 rfl #[.agg #[.int .i64 P, .int .i64 wd]] (by kernel_rfl) (maxKey_any _ _ _ (by omega) (by omega)) ?_; rintro e w' ⟨rfl, bs1, e1, rfl⟩; have zn1 : nb < w.heap.size + 1 + bs1.length := (by omega); have zn3 : nb < w.heap.size + 1 := (by omega); refine ⟨_, rfl, ?_⟩; rw [H16.out]) | (refine step_call rfl 66 rfl #[.pointer (some ⟨b, 0, none⟩), .int .i64 ((P / 16 : Nat) : Int)] (by kernel_rfl) (text_all b (P / 16) s _ _ (H.out.kp ((((Kp.refl [] w).alloc _).drew).ext _ _) (by simp)) hs' (by omega) (by omega)) ?_; rintro e w2 ⟨rfl, k2, R2⟩; refine ⟨_, rfl, ?_⟩; have HR2 := Lib.hid R2; have HK2a := Lib.hid ((((Kp.refl [b] (w.alloc (.cells Kd.zero.c 59))).drew).ext _ _).trans k2); have HK2 := Lib.hid (((Kp.refl [b] w).alloc _).trans HK2a.out); clear k2 R2; have zz2 := HK2.out.size; have zn2 : nb < w2.heap.size := (by omega); have zf2 : fb < w2.heap.size := (by omega); obtain ⟨t1, t2, t3, t4⟩ := sk.out _ _ HK2.out (by simp; omega) (by simp; omega)) | (refine step_app_str rfl rfl (by simp [Act.eval, Act.put]) ((O1.out.kp HK2.out (by intro g hg; simp; rintro rfl; exact m5 hg)).kp ((Kp.refl [] _).alloc _) (by simp)) 1 _ (by simp [Act.eval, Act.put]) (src_row Tryz.underlying25 _ _ _ _ rfl rfl (by simp [Value.oneCell'])) (by omega) ?_; intro a2 c2 w4 hown hk4 hn4; have HO4 := Lib.hid hown; have HN4 := Lib.hid hn4; have HK4 := Lib.hid hk4; have HK5 : Hid (Kp (b :: ab a) w w4) := ((HK2.out.alloc _).mono (fun k _ hk => by simp at hk; simp [hk])).trans (hk4.mono (fun k _ hk => by simp [hk])); have HK5a : Hid (Kp (b :: ab a) (w.alloc (.cells Kd.zero.c 59)) w4) := ((HK2a.out.alloc _).mono (fun k _ hk => by simp at hk; simp [hk])).trans (hk4.mono (fun k _ hk => by simp [hk])); clear hown hk4 hn4; have zz5 := HK5.out.size; have zn5 : nb < w4.heap.size := (by omega); obtain ⟨t5, t6, t7, t8⟩ := sk.out _ _ HK5.out (by simp only [List.mem_cons, not_or]; exact ⟨n4, m2⟩) (by simp only [List.mem_cons, not_or]; exact ⟨n1, m3⟩)))
      all_goals
        have wz : w.heap.size < w4.heap.size := by have := HK5a.out.size; simp at this; omega
        have v0 := HK5.out.cell p0 (by simp only [List.mem_cons, not_or]; exact ⟨n3, m1⟩)
        have v1 := (HK5.out.frozen (a := ⟨fst, 0, none⟩) l1 (by simp only [List.mem_cons, not_or]; exact ⟨n3, m1⟩)).trans p1
        have v2 := HK5.out.cell u0 (by simp only [List.mem_cons, not_or]; exact ⟨n2, m4⟩)
        have v4 : fst < w4.heap.size := by omega
        have v5 : pb < w4.heap.size := by omega
        have v6 : fb < w4.heap.size := by omega
        have ha2 : ∀ g ∈ ab a2, g ∉ [fst, nb, fb, pb, b, w.heap.size] := by
          intro g hg
          have hz2 := HK2a.out.size
          simp only [World.size_alloc] at hz2
          rcases HN4.out g hg with h1 | h1
          · have h3 := O1.out.lt g h1
            simp only [List.mem_cons, List.not_mem_nil, or_false, not_or]
            exact ⟨fun e => m1 (e ▸ h1), fun e => m2 (e ▸ h1), fun e => m3 (e ▸ h1), fun e => m4 (e ▸ h1), fun e => m5 (e ▸ h1), by omega⟩
          · simp only [World.size_alloc] at h1
            simp only [List.mem_cons, List.not_mem_nil, or_false, not_or]
            omega
        have KB : Kp [fst, nb] w4 ((w4.setCell ⟨nb, 1, none⟩ (.slice a2 (seps.length + 1) c2)).setCell ⟨fst, 0, none⟩ (.bool false)) := ((Kp.refl [fst, nb] _).setCell _ (.inr (by simp))).setCell _ (.inr (by simp))
        have XB := Lib.hid (((Blk.new w 59 Kd.zero.c).kp HK5a.out (by simp only [List.mem_cons, not_or]; exact ⟨by omega, fun h => by have := O1.out.lt _ h; omega⟩)).kp KB (by simp; omega))
        have XF := Lib.hid ((B3.out.kp HK5.out (by simp only [List.mem_cons, not_or]; exact ⟨n1, m3⟩)).kp KB (by simp; omega))
        have XR := Lib.hid ((HR2.out.kp ((Kp.refl [] _).alloc (.cells #[.string ⟨(gotV (textP (P / 16)) [] (some l)).toArray⟩] 9)) (by simp)).kp HK4.out m5 |>.kp KB (by simp; omega))
        have XK : Hid (Kp (b :: (fst :: nb :: fb :: pb :: ab a)) w ((w4.setCell ⟨nb, 1, none⟩ (.slice a2 (seps.length + 1) c2)).setCell ⟨fst, 0, none⟩ (.bool false))) := Lib.hid ((HK5.out.mono (fun k _ hk => by simp only [List.mem_cons] at hk ⊢; rcases hk with h | h <;> simp [h])).from KB (by simp))
        have XN : Hid (∀ g ∈ (fst :: nb :: fb :: pb :: ab a2), g ∈ (fst :: nb :: fb :: pb :: ab a) ∨ w.heap.size ≤ g) := Lib.hid (by
          intro g hg
          simp only [List.mem_cons] at hg ⊢
          rcases hg with h | h | h | h | h
          · simp [h]
          · simp [h]
          · simp [h]
          · simp [h]
          · rcases HN4.out g h with h1 | h1
            · simp [h1]
            · right; simp only [World.size_alloc] at h1; omega)
        have XJ : Hid (JK b fb pb fst nb P wd true (false, seps ++ [gotV (textP (P / 16)) [] (some l)]) ((w4.setCell ⟨nb, 1, none⟩ (.slice a2 (seps.length + 1) c2)).setCell ⟨fst, 0, none⟩ (.bool false)) (fst :: nb :: fb :: pb :: ab a2)) := Lib.hid (by
          refine ⟨a2, c2, rfl, ?_, ?_, ?_, XF.out, ?_, fun h => ha2 _ h (by simp), fun h => ha2 _ h (by simp), fun h => ha2 _ h (by simp), fun h => ha2 _ h (by simp), fun h => ha2 _ h (by simp)⟩
          · have h1 := B1.out.kp HK5.out (by simp only [List.mem_cons, not_or]; exact ⟨n3, m1⟩)
            have h2 := (h1.set_other (a := ⟨nb, 1, none⟩) (.slice a2 (seps.length + 1) c2) e5).set 0 (.bool false)
            simpa using h2
          · have h1 := B2.out.kp HK5.out (by simp only [List.mem_cons, not_or]; exact ⟨n4, m2⟩)
            have h2 := (h1.set 1 (.slice a2 (seps.length + 1) c2)).set_other (a := ⟨fst, 0, none⟩) (.bool false) n5
            simpa using h2
          · have := HO4.out.kp KB (by intro g hg; have := ha2 g hg; simp only [List.mem_cons, not_or] at this ⊢; exact ⟨this.1, this.2.1, by simp⟩)
            simpa using this
          · exact (B4.out.kp HK5.out (by simp only [List.mem_cons, not_or]; exact ⟨n2, m4⟩)).kp KB (by simp; omega))
        have XQ : Hid (w.heap.size ∉ (fst :: nb :: fb :: pb :: ab a2)) := Lib.hid (by
          simp only [List.mem_cons, not_or]
          exact ⟨by omega, by omega, by omega, by omega, fun h => ha2 _ h (by simp)⟩)
        have XE : Hid (∀ r, sepP P (false, seps) l = some r → (false, seps ++ [gotV (textP (P / 16)) [] (some l)]) = r.1 ∧ gotR (textP (P / 16)) (some l) = some r.2) := Lib.hid (by
          intro r hr
          simp only [sepP, Bool.false_eq_true, if_false] at hr
          cases ht : textP (P / 16) l with
          | none => simp [ht] at hr
          | some r0 => simp only [ht, Option.map_some, Option.some.injEq] at hr; subst hr; simp [gotV, gotR, ht])
        have XM : Hid (sepP P (false, seps) l = none → gotR (textP (P / 16)) (some l) = none) := Lib.hid (by
          intro hr
          simp only [sepP, Bool.false_eq_true, if_false, Option.map_eq_none_iff] at hr
          simp [gotR, hr])
        clear ha2 t1 t2 t3 t4 zn2 zf2 zz2
        go_wp2_with fail
        have hX : (((w4.setCell ⟨nb, 1, none⟩ (.slice a2 (seps.length + 1) c2)).setCell ⟨fst, 0, none⟩ (.bool false))).heap.size = (w4.heap.size) := by simp
        have XBk := Lib.hid (XB.out.alloc (.cells Kd.zero.c 59))
        have XKk : Hid (Blk ((((w4.setCell ⟨nb, 1, none⟩ (.slice a2 (seps.length + 1) c2)).setCell ⟨fst, 0, none⟩ (.bool false))).alloc (.cells Kd.zero.c 59)) ((w4.heap.size)) 59 Kd.zero.c) := Lib.hid (hX ▸ Blk.new ((w4.setCell ⟨nb, 1, none⟩ (.slice a2 (seps.length + 1) c2)).setCell ⟨fst, 0, none⟩ (.bool false)) 59 Kd.zero.c)
        have XFk := Lib.hid (XF.out.alloc (.cells Kd.zero.c 59))
        have xz : w.heap.size < (w4.heap.size) := by omega
        have xb : b < (w4.heap.size) := by omega
        refine (u32_all b s (gotR (textP (P / 16)) (some l)) _ (XR.out.kp ((Kp.refl [] _).alloc _) (by simp)) hs').mono ?_
        rintro e w5 ⟨rfl, k5, r5⟩
        obtain ⟨v, hv⟩ : ∃ v, gotV (takeP 4) 0 (gotR (textP (P / 16)) (some l)) = v := ⟨_, rfl⟩
        rw [hv]
        have F5 := Lib.hid (XFk.out.kp k5 (by simp; omega))
        have K5 := Lib.hid (XKk.out.kp k5 (by simp; omega))
        have B5 := Lib.hid (XBk.out.kp k5 (by simp; omega))
        have HV := Lib.hid hv; have HK := Lib.hid k5; have HR := Lib.hid r5
        have i0 := K5.out.cell 0; have i1 := K5.out.frozen 0; have i2 := F5.out.cell 1
        have i3 := B5.out.lt; have i4 := K5.out.lt; have i5 := F5.out.lt
        simp only [List.getElem?_toArray, List.getElem?_cons_zero, List.getElem?_cons_succ, Kd.get0] at i0 i2
        clear hv k5 r5
        go_wp2_with fail
        have K6 : Hid (Blk (w5.setCell ⟨(w4.heap.size), 0, none⟩ (.int .u32 (v : Int))) ((w4.heap.size)) 59 (Kd.mk v Dg.zero).c) := Lib.hid (by have := K5.out.set 0 (.int .u32 (v : Int)); rwa [Kd.set0] at this)
        have B6 := Lib.hid (B5.out.set_other (a := ⟨(w4.heap.size), 0, none⟩) (.int .u32 (v : Int)) (by show (w4.heap.size) ≠ _; omega))
        refine (dg_all b wd s _ _ (HR.out.kp ((Kp.refl [(w4.heap.size)] _).setCell _ (.inr (by simp))) (by simp; omega)) hs' hwd).mono ?_
        rintro e w6 ⟨rfl, k6, r6⟩
        obtain ⟨d, hd⟩ : ∃ d, gotV (dgP wd) Dg.zero (gotR (takeP 4) (gotR (textP (P / 16)) (some l))) = d := ⟨_, rfl⟩
        rw [hd]
        have HD := Lib.hid hd
        have K7 := Lib.hid (K6.out.kp k6 (by simp; omega))
        have B7 := Lib.hid (B6.out.kp k6 (by simp; omega))
        have j0 := own?_blk K7.out; have j1 := own?_blk B7.out; have j2 := K7.out.lt; have j3 := B7.out.lt
        have j4 : w.heap.size ≠ (w4.heap.size) := by omega
        have HK6 := Lib.hid k6; have HR6 := Lib.hid r6
        clear hd k6 r6
        go_wp2_with fail
        refine row_ret w.heap.size rfl Tryz.underlying59 rfl (by rw [Kd.c_size]; kernel_rfl) rfl (((B7.out.setRow_other (g := (w4.heap.size)) _ (by omega)).setRow _)) rfl ?_
        exact kid_end (o := (gotR (textP (P / 16)) (some l))) HST.out XJ.out XK.out XN.out XQ.out (Nat.le_refl _) (((((((Kp.refl [b, w.heap.size] _).alloc _).trans (HK.out.mono (fun k _ hk => by simp at hk; simp [hk]))).setCell _ (.inl (by simp))).trans (HK6.out.mono (fun k _ hk => by simp at hk; simp [hk]))).setRow _ _ (.inl (by simp))).setRow _ _ (.inr (by simp))) XE.out XM.out (by rw [← HD.out, ← HV.out]; rfl) (HR6.out.kp (((Kp.refl [(w4.heap.size), w.heap.size] _).setRow _ _ (by simp)).setRow _ _ (by simp)) (by simp; omega))
  · cases pages
    · go_enter Tryz.func69, Tryz.ntmps69
      have KB : Kp [fst] w ((w.setCell ⟨fst, 0, none⟩ (.bool false)).alloc (.cells Kd.zero.c 59)) := ((Kp.refl [fst] _).setCell _ (.inr (by simp))).alloc _
      have XB : Hid (Blk ((w.setCell ⟨fst, 0, none⟩ (.bool false)).alloc (.cells Kd.zero.c 59)) w.heap.size 59 Kd.zero.c) := Lib.hid (by have := Blk.new (w.setCell ⟨fst, 0, none⟩ (.bool false)) 59 Kd.zero.c; simpa using this)
      have XF := Lib.hid (B3.out.kp KB (by simp; omega))
      have XR := Lib.hid (H.out.kp KB (by simp; omega))
      have XK : Hid (Kp (b :: (fst :: nb :: fb :: pb :: ab a)) w ((w.setCell ⟨fst, 0, none⟩ (.bool false)).alloc (.cells Kd.zero.c 59))) := Lib.hid (KB.mono (fun k _ hk => by simp at hk; simp [hk]))
      have XN : Hid (∀ g ∈ (fst :: nb :: fb :: pb :: ab a), g ∈ (fst :: nb :: fb :: pb :: ab a) ∨ w.heap.size ≤ g) := Lib.hid (fun g hg => .inl hg)
      have XJ : Hid (JK b fb pb fst nb P wd false (false, seps) ((w.setCell ⟨fst, 0, none⟩ (.bool false)).alloc (.cells Kd.zero.c 59)) (fst :: nb :: fb :: pb :: ab a)) := Lib.hid (by
        refine ⟨a, c, rfl, ?_, B2.out.kp KB (by simp; omega), O1.out.kp KB (by intro g hg; simp; rintro rfl; exact m1 hg), XF.out, B4.out.kp KB (by simp; omega), m1, m2, m3, m4, m5⟩
        have h2 := (B1.out.set 0 (.bool false)).alloc (.cells Kd.zero.c 59)
        simpa using h2)
      have XQ : Hid (w.heap.size ∉ (fst :: nb :: fb :: pb :: ab a)) := Lib.hid (by
        simp only [List.mem_cons, not_or]
        exact ⟨by omega, by omega, by omega, by omega, fun h => by have := O1.out.lt _ h; omega⟩)
      have XE : Hid (∀ r, sepP P (true, seps) l = some r → (false, seps) = r.1 ∧ (some l) = some r.2) := Lib.hid (by
        intro r hr
        simp only [sepP, if_true, Option.some.injEq] at hr
        subst hr; exact ⟨rfl, rfl⟩)
      have XM : Hid (sepP P (true, seps) l = none → (some l) = none) := Lib.hid (by
        intro hr
        simp [sepP] at hr)
      have wz : w.heap.size < w.heap.size + 1 := by omega
      go_wp2_with fail
      have hX : (((w.setCell ⟨fst, 0, none⟩ (.bool false)).alloc (.cells Kd.zero.c 59))).heap.size = (w.heap.size + 1) := by simp
      have XBk := Lib.hid (XB.out.alloc (.cells Kd.zero.c 59))
      have XKk : Hid (Blk ((((w.setCell ⟨fst, 0, none⟩ (.bool false)).alloc (.cells Kd.zero.c 59))).alloc (.cells Kd.zero.c 59)) ((w.heap.size + 1)) 59 Kd.zero.c) := Lib.hid (hX ▸ Blk.new ((w.setCell ⟨fst, 0, none⟩ (.bool false)).alloc (.cells Kd.zero.c 59)) 59 Kd.zero.c)
      have XFk := Lib.hid (XF.out.alloc (.cells Kd.zero.c 59))
      have xz : w.heap.size < (w.heap.size + 1) := by omega
      have xb : b < (w.heap.size + 1) := by omega
      have K6 := XKk; have B6 := XBk
      refine (dg_all b wd s (some l) _ (XR.out.kp ((Kp.refl [] _).alloc _) (by simp)) hs' hwd).mono ?_
      rintro e w6 ⟨rfl, k6, r6⟩
      obtain ⟨d, hd⟩ : ∃ d, gotV (dgP wd) Dg.zero (some l) = d := ⟨_, rfl⟩
      rw [hd]
      have HD := Lib.hid hd
      have K7 := Lib.hid (K6.out.kp k6 (by simp; omega))
      have B7 := Lib.hid (B6.out.kp k6 (by simp; omega))
      have j0 := own?_blk K7.out; have j1 := own?_blk B7.out; have j2 := K7.out.lt; have j3 := B7.out.lt
      have j4 : w.heap.size ≠ (w.heap.size + 1) := by omega
      have HK6 := Lib.hid k6; have HR6 := Lib.hid r6
      clear hd k6 r6
      go_wp2_with fail
      refine row_ret w.heap.size rfl Tryz.underlying59 rfl (by rw [Kd.c_size]; kernel_rfl) rfl (((B7.out.setRow_other (g := (w.heap.size + 1)) _ (by omega)).setRow _)) rfl ?_
      exact kid_end (o := (some l)) HST.out XJ.out XK.out XN.out XQ.out (Nat.le_refl _) (((((Kp.refl [b, w.heap.size] _).alloc _).trans (HK6.out.mono (fun k _ hk => by simp at hk; simp [hk]))).setRow _ _ (.inl (by simp))).setRow _ _ (.inr (by simp))) XE.out XM.out (by rw [← HD.out]; rfl) (HR6.out.kp (((Kp.refl [(w.heap.size + 1), w.heap.size] _).setRow _ _ (by simp)).setRow _ _ (by simp)) (by simp; omega))
    · go_enter Tryz.func69, Tryz.ntmps69
      have KB : Kp [fst] w ((w.setCell ⟨fst, 0, none⟩ (.bool false)).alloc (.cells Kd.zero.c 59)) := ((Kp.refl [fst] _).setCell _ (.inr (by simp))).alloc _
      have XB : Hid (Blk ((w.setCell ⟨fst, 0, none⟩ (.bool false)).alloc (.cells Kd.zero.c 59)) w.heap.size 59 Kd.zero.c) := Lib.hid (by have := Blk.new (w.setCell ⟨fst, 0, none⟩ (.bool false)) 59 Kd.zero.c; simpa using this)
      have XF := Lib.hid (B3.out.kp KB (by simp; omega))
      have XR := Lib.hid (H.out.kp KB (by simp; omega))
      have XK : Hid (Kp (b :: (fst :: nb :: fb :: pb :: ab a)) w ((w.setCell ⟨fst, 0, none⟩ (.bool false)).alloc (.cells Kd.zero.c 59))) := Lib.hid (KB.mono (fun k _ hk => by simp at hk; simp [hk]))
      have XN : Hid (∀ g ∈ (fst :: nb :: fb :: pb :: ab a), g ∈ (fst :: nb :: fb :: pb :: ab a) ∨ w.heap.size ≤ g) := Lib.hid (fun g hg => .inl hg)
      have XJ : Hid (JK b fb pb fst nb P wd true (false, seps) ((w.setCell ⟨fst, 0, none⟩ (.bool false)).alloc (.cells Kd.zero.c 59)) (fst :: nb :: fb :: pb :: ab a)) := Lib.hid (by
        refine ⟨a, c, rfl, ?_, B2.out.kp KB (by simp; omega), O1.out.kp KB (by intro g hg; simp; rintro rfl; exact m1 hg), XF.out, B4.out.kp KB (by simp; omega), m1, m2, m3, m4, m5⟩
        have h2 := (B1.out.set 0 (.bool false)).alloc (.cells Kd.zero.c 59)
        simpa using h2)
      have XQ : Hid (w.heap.size ∉ (fst :: nb :: fb :: pb :: ab a)) := Lib.hid (by
        simp only [List.mem_cons, not_or]
        exact ⟨by omega, by omega, by omega, by omega, fun h => by have := O1.out.lt _ h; omega⟩)
      have XE : Hid (∀ r, sepP P (true, seps) l = some r → (false, seps) = r.1 ∧ (some l) = some r.2) := Lib.hid (by
        intro r hr
        simp only [sepP, if_true, Option.some.injEq] at hr
        subst hr; exact ⟨rfl, rfl⟩)
      have XM : Hid (sepP P (true, seps) l = none → (some l) = none) := Lib.hid (by
        intro hr
        simp [sepP] at hr)
      have wz : w.heap.size < w.heap.size + 1 := by omega
      go_wp2_with fail
      have hX : (((w.setCell ⟨fst, 0, none⟩ (.bool false)).alloc (.cells Kd.zero.c 59))).heap.size = (w.heap.size + 1) := by simp
      have XBk := Lib.hid (XB.out.alloc (.cells Kd.zero.c 59))
      have XKk : Hid (Blk ((((w.setCell ⟨fst, 0, none⟩ (.bool false)).alloc (.cells Kd.zero.c 59))).alloc (.cells Kd.zero.c 59)) ((w.heap.size + 1)) 59 Kd.zero.c) := Lib.hid (hX ▸ Blk.new ((w.setCell ⟨fst, 0, none⟩ (.bool false)).alloc (.cells Kd.zero.c 59)) 59 Kd.zero.c)
      have XFk := Lib.hid (XF.out.alloc (.cells Kd.zero.c 59))
      have xz : w.heap.size < (w.heap.size + 1) := by omega
      have xb : b < (w.heap.size + 1) := by omega
      refine (u32_all b s (some l) _ (XR.out.kp ((Kp.refl [] _).alloc _) (by simp)) hs').mono ?_
      rintro e w5 ⟨rfl, k5, r5⟩
      obtain ⟨v, hv⟩ : ∃ v, gotV (takeP 4) 0 (some l) = v := ⟨_, rfl⟩
      rw [hv]
      have F5 := Lib.hid (XFk.out.kp k5 (by simp; omega))
      have K5 := Lib.hid (XKk.out.kp k5 (by simp; omega))
      have B5 := Lib.hid (XBk.out.kp k5 (by simp; omega))
      have HV := Lib.hid hv; have HK := Lib.hid k5; have HR := Lib.hid r5
      have i0 := K5.out.cell 0; have i1 := K5.out.frozen 0; have i2 := F5.out.cell 1
      have i3 := B5.out.lt; have i4 := K5.out.lt; have i5 := F5.out.lt
      simp only [List.getElem?_toArray, List.getElem?_cons_zero, List.getElem?_cons_succ, Kd.get0] at i0 i2
      clear hv k5 r5
      go_wp2_with fail
      have K6 : Hid (Blk (w5.setCell ⟨(w.heap.size + 1), 0, none⟩ (.int .u32 (v : Int))) ((w.heap.size + 1)) 59 (Kd.mk v Dg.zero).c) := Lib.hid (by have := K5.out.set 0 (.int .u32 (v : Int)); rwa [Kd.set0] at this)
      have B6 := Lib.hid (B5.out.set_other (a := ⟨(w.heap.size + 1), 0, none⟩) (.int .u32 (v : Int)) (by show (w.heap.size + 1) ≠ _; omega))
      refine (dg_all b wd s _ _ (HR.out.kp ((Kp.refl [(w.heap.size + 1)] _).setCell _ (.inr (by simp))) (by simp; omega)) hs' hwd).mono ?_
      rintro e w6 ⟨rfl, k6, r6⟩
      obtain ⟨d, hd⟩ : ∃ d, gotV (dgP wd) Dg.zero (gotR (takeP 4) (some l)) = d := ⟨_, rfl⟩
      rw [hd]
      have HD := Lib.hid hd
      have K7 := Lib.hid (K6.out.kp k6 (by simp; omega))
      have B7 := Lib.hid (B6.out.kp k6 (by simp; omega))
      have j0 := own?_blk K7.out; have j1 := own?_blk B7.out; have j2 := K7.out.lt; have j3 := B7.out.lt
      have j4 : w.heap.size ≠ (w.heap.size + 1) := by omega
      have HK6 := Lib.hid k6; have HR6 := Lib.hid r6
      clear hd k6 r6
      go_wp2_with fail
      refine row_ret w.heap.size rfl Tryz.underlying59 rfl (by rw [Kd.c_size]; kernel_rfl) rfl (((B7.out.setRow_other (g := (w.heap.size + 1)) _ (by omega)).setRow _)) rfl ?_
      exact kid_end (o := (some l)) HST.out XJ.out XK.out XN.out XQ.out (Nat.le_refl _) (((((((Kp.refl [b, w.heap.size] _).alloc _).trans (HK.out.mono (fun k _ hk => by simp at hk; simp [hk]))).setCell _ (.inl (by simp))).trans (HK6.out.mono (fun k _ hk => by simp at hk; simp [hk]))).setRow _ _ (.inl (by simp))).setRow _ _ (.inr (by simp))) XE.out XM.out (by rw [← HD.out, ← HV.out]; rfl) (HR6.out.kp (((Kp.refl [(w.heap.size + 1), w.heap.size] _).setRow _ _ (by simp)).setRow _ _ (by simp)) (by simp; omega))

end Go.Proofs.YtemicgccgcmmbaaGreat

/- A reader is opened; what stands at its end. -/
namespace Go.Proofs.YtemicgccgcmmbaaGreat
set_option linter.unusedVariables false
set_option linter.unusedSimpArgs false
open Go Go.RowKit

set_option maxHeartbeats 1000000 in set_option maxRecDepth 100000 in
theorem open_any (s : Bs) (w : World) : Calls Tryz.prog 62 #[.string ⟨s.toArray⟩] w fun e w' => e = .returned (.pointer (some ⟨w.heap.size, 0, none⟩)) ∧ w' = w.alloc (.cells #[.bool true, .string ⟨s.toArray⟩, .int .i64 0, .int .i64 0] 125) := by
  go_enter Tryz.func62, Tryz.ntmps62
  go_wp2
  go_ret
  exact ⟨rfl, rfl⟩
theorem open_st (s : Bs) (w : World) : RdOk (w.alloc (.cells #[.bool true, .string ⟨s.toArray⟩, .int .i64 0, .int .i64 0] 125)) w.heap.size s s :=
  ⟨0, by simp, by simp, Blk.new w _ _⟩

set_option maxHeartbeats 1000000 in set_option maxRecDepth 100000 in
theorem fault_none (b : Nat) (s l : Bs) (w : World) (h : RdOk w b s l) : Calls Tryz.prog 113 #[.pointer (some ⟨b, 0, none⟩)] w fun e w' => e = .returned (.pointer none) ∧ w = w' := by
  obtain ⟨p, hp, hl, h⟩ := h
  obtain ⟨c0, c1, c2, c3⟩ := h.cells
  clear h hl
  go_enter Tryz.func113, Tryz.ntmps113
  go_wp2
  go_ret
  exact ⟨rfl, rfl⟩

set_option maxHeartbeats 1000000 in set_option maxRecDepth 100000 in
theorem fault_some (b : Nat) (s : Bs) (w : World) (h : RdBad w b s) : Calls Tryz.prog 113 #[.pointer (some ⟨b, 0, none⟩)] w fun e w' => ∃ g, e = .returned (.pointer (some ⟨g, 0, none⟩)) ∧ Kp [] w w' := by
  obtain ⟨p, f, hf, hp, h⟩ := h
  obtain ⟨c0, c1, c2, c3⟩ := h.cells
  have hf' : (f == 0) = false := by simpa using hf
  have hl := h.lt
  clear h hf
  go_enter Tryz.func113, Tryz.ntmps113
  go_wp2
  have sk := Lib.hid (show ∀ (W : World), Kp [] w W → (W.cell? ⟨b, 2, none⟩ = some (.int .i64 p) ∧ W.cell? ⟨b, 3, none⟩ = some (.int .i64 f)) from fun W k => ⟨k.cell c2 (by simp), k.cell c3 (by simp)⟩)
  go_region_held3 (fun W => W.cell? ⟨b, 2, none⟩ = some (.int .i64 p) ∧ W.cell? ⟨b, 3, none⟩ = some (.int .i64 f)) (first | exact sk.out _ ((Kp.refl [] w).drew) | exact sk.out _ (((Kp.refl [] w).drew).alloc _)) (fail)
  go_wp2
  go_ret
  exact ⟨_, rfl, ((Kp.refl [] w).drew).alloc _⟩

set_option maxHeartbeats 1000000 in set_option maxRecDepth 100000 in
theorem end_ok (b : Nat) (s : Bs) (w : World) (hs : s.length ≤ 140737488351232) (h : RdOk w b s []) : Calls Tryz.prog 72 #[.pointer (some ⟨b, 0, none⟩)] w fun e w' => e = .returned .nilIface ∧ Kp [] w w' := by
  have HO := Lib.hid h
  obtain ⟨p, hp, hl, h⟩ := h
  obtain ⟨c0, c1, c2, c3⟩ := h.cells
  have H := Lib.hid h
  clear h hl
  simp only [List.length_nil, Nat.add_zero] at hp
  subst hp
  go_enter Tryz.func72, Tryz.ntmps72
  go_wp2_with (first | (go_at_call 113; refine (fault_none _ _ _ _ HO.out).mono ?_; rintro e w' ⟨rfl, rfl⟩) | (go_at_call 107; refine (rd_left _ _ _ _ _ H.out hs (Nat.le_refl _)).mono ?_; rintro e w' ⟨rfl, nq, rfl⟩))
  go_ret
  exact ⟨rfl, (Kp.refl [] w).drewN _⟩

def EndBad (w : World) (e : Ending) (w' : World) : Prop := ∃ g, e = .returned (.iface 128 (.pointer (some ⟨g, 0, none⟩))) ∧ Kp [] w w'

set_option maxHeartbeats 1000000 in set_option maxRecDepth 100000 in
theorem end_rest (b : Nat) (s l : Bs) (w : World) (hs : s.length ≤ 140737488351232) (h : RdOk w b s l) (hne : l ≠ []) : Calls Tryz.prog 72 #[.pointer (some ⟨b, 0, none⟩)] w (EndBad w) := by
  have HO := Lib.hid h
  obtain ⟨p, hp, hl, h⟩ := h
  obtain ⟨c0, c1, c2, c3⟩ := h.cells
  have H := Lib.hid h
  have hll : 1 ≤ l.length := by cases l; exact absurd rfl hne; simp
  have hp' : p ≤ s.length := by omega
  clear h hl hne
  go_enter Tryz.func72, Tryz.ntmps72
  go_wp2_with (first | (go_at_call 113; refine (fault_none _ _ _ _ HO.out).mono ?_; rintro e w' ⟨rfl, rfl⟩) | (go_at_call 107; refine (rd_left _ _ _ _ _ H.out hs hp').mono ?_; rintro e w' ⟨rfl, nq, rfl⟩))
  go_ret
  exact ⟨_, rfl, ((Kp.refl [] w).drewN _).alloc _⟩

set_option maxHeartbeats 1000000 in set_option maxRecDepth 100000 in
theorem end_bad (b : Nat) (s : Bs) (w : World) (h : RdBad w b s) : Calls Tryz.prog 72 #[.pointer (some ⟨b, 0, none⟩)] w (EndBad w) := by
  have HO := Lib.hid h
  obtain ⟨p, f, hf, hp, h⟩ := h
  obtain ⟨c0, c1, c2, c3⟩ := h.cells
  clear h hf
  go_enter Tryz.func72, Tryz.ntmps72
  go_wp2_with (first | (go_at_call 113; refine (fault_some _ _ _ HO.out).mono ?_; rintro e w' ⟨g, rfl, k1⟩))
  go_ret
  exact ⟨_, rfl, k1⟩

end Go.Proofs.YtemicgccgcmmbaaGreat

/- A form is read. -/
namespace Go.Proofs.YtemicgccgcmmbaaGreat
set_option linter.unusedVariables false
set_option linter.unusedSimpArgs false
open Go Go.RowKit

/-- The node that bytes are read as. -/
def parseP (P wd : Nat) (pages : Bool) (s : Bs) : Option Nd :=
  match takeP 1 s with
  | none => none
  | some (t, l) =>
    if t = 1 then
      match listP s.length (pairP P) () l with
      | some (_, ps, l') => if l' = [] then some ⟨ps, [], []⟩ else none
      | none => none
    else if t = 2 then
      match listP s.length (kidP P wd pages) (true, []) l with
      | some (x, ks, l') => if ks = [] then none else if l' = [] then some ⟨[], x.2, ks⟩ else none
      | none => none
    else none

/-- Three lists of its own. -/
structure Own3 (w : World) (lo : Nat) (pa sa ka : Option Addr) (pc sc kc : Nat) (n : Nd) : Prop where
  ps : Own w 56 2 pa n.pairs.length pc (n.pairs.flatMap csP)
  ss : Own w 9 1 sa n.seps.length sc (n.seps.flatMap csS)
  ks : Own w 59 33 ka n.kids.length kc (n.kids.flatMap csK)
  lo : ∀ g ∈ ab pa ++ ab sa ++ ab ka, lo ≤ g
  d1 : ∀ g ∈ ab pa, g ∉ ab sa ∧ g ∉ ab ka
  d2 : ∀ g ∈ ab sa, g ∉ ab ka

def ParsePost (w : World) (r : Option Nd) (e : Ending) (w' : World) : Prop :=
  match r with
  | some n => ∃ pa sa ka pc sc kc, e = .returned (.tuple #[.agg #[.slice pa n.pairs.length pc, .slice sa n.seps.length sc, .slice ka n.kids.length kc], .bool true]) ∧ Own3 w' w.heap.size pa sa ka pc sc kc n ∧ Kp [] w w'
  | none => ∃ pa sa ka pn sn kn pc sc kc, e = .returned (.tuple #[.agg #[.slice pa pn pc, .slice sa sn sc, .slice ka kn kc], .bool false]) ∧ Kp [] w w'

theorem end_no (b : Nat) (s : Bs) (o : Option Bs) (w : World) (hs : s.length ≤ 140737488351232) (h : RdSt w b s o) (hne : o ≠ some []) : Calls Tryz.prog 72 #[.pointer (some ⟨b, 0, none⟩)] w (EndBad w) := by
  cases o with
  | none => exact end_bad b s w h
  | some l => exact end_rest b s l w hs h (fun e => hne (by rw [e]))

theorem Own.ps {w : World} {a : Option Addr} {c : Nat} {l : List Pr} (h : Own w 56 2 a l.length c (l.flatMap csP)) : PsAt w a l := by
  intro i p hp
  have hi : i < l.length := by
    rcases Nat.lt_or_ge i l.length with h1 | h1
    · exact h1
    · simp [List.getElem?_eq_none h1] at hp
  rcases h.block.2 with ⟨_, h1, _⟩ | ⟨g, cur, rfl, hb, _⟩
  · omega
  · have key : ∀ (l : List Pr) (i : Nat) (p : Pr), l[i]? = some p → (l.flatMap csP)[i * 2]? = some (.string ⟨p.1.toArray⟩) ∧ (l.flatMap csP)[i * 2 + 1]? = some (.string ⟨p.2.toArray⟩) := by
      intro l
      induction l with
      | nil => intro i p h; simp at h
      | cons x t ih =>
        intro i p h
        cases i with
        | zero => simp at h; subst h; simp [csP]
        | succ i =>
          have := ih i p (by simpa using h)
          simp only [List.flatMap_cons]
          rw [List.getElem?_append_right (by simp [csP]; omega), List.getElem?_append_right (by simp [csP]; omega)]
          simpa [csP, Nat.add_mul] using this
    obtain ⟨k1, k2⟩ := key l i p hp
    have hc := h.cells rfl
    exact ⟨g, 0, rfl, hb.lt, by simpa [Addr.add_lit] using hc _ _ k1, by simpa [Addr.add_lit] using hc _ _ k2⟩
theorem Own.ss {w : World} {a : Option Addr} {c : Nat} {l : List Bs} (h : Own w 9 1 a l.length c (l.map fun t => .string ⟨t.toArray⟩)) : SsAt w a l := by
  intro i p hp
  have hi : i < l.length := by
    rcases Nat.lt_or_ge i l.length with h1 | h1
    · exact h1
    · simp [List.getElem?_eq_none h1] at hp
  rcases h.block.2 with ⟨_, h1, _⟩ | ⟨g, cur, rfl, hb, _⟩
  · omega
  · have hc := h.cells rfl i (.string ⟨p.toArray⟩) (by simp [hp])
    exact ⟨g, 0, rfl, hb.lt, by simpa [Addr.add_lit] using hc⟩
theorem Own.ks {w : World} {a : Option Addr} {c : Nat} {l : List Kd} (h : Own w 59 33 a l.length c (l.flatMap csK)) : KsAt w a l := by
  intro i p hp
  have hi : i < l.length := by
    rcases Nat.lt_or_ge i l.length with h1 | h1
    · exact h1
    · simp [List.getElem?_eq_none h1] at hp
  rcases h.block.2 with ⟨_, h1, _⟩ | ⟨g, cur, rfl, hb, hnc, _, hsz, htk⟩
  · omega
  · have key : ∀ (l : List Kd) (i : Nat) (p : Kd), l[i]? = some p → ((l.flatMap csK).drop (i * 33)).take 33 = p.c.toList := by
      intro l
      induction l with
      | nil => intro i p h; simp at h
      | cons x t ih =>
        intro i p h
        have hx : x.c.toList.length = 33 := by simp
        cases i with
        | zero => simp at h; subst h; simp only [List.flatMap_cons, csK, Nat.zero_mul, List.drop_zero]; rw [List.take_append_of_le_length (by omega), List.take_of_length_le (by omega)]
        | succ i =>
          have := ih i p (by simpa using h)
          simp only [List.flatMap_cons, csK]
          rw [show (i + 1) * 33 = x.c.toList.length + i * 33 by omega, List.drop_append]
          rw [List.drop_of_length_le (by omega)]
          simpa [csK] using this
    refine ⟨g, 0, rfl, hb.lt, ?_⟩
    have hlen : i * 33 + 33 ≤ l.length * 33 := by omega
    have hle : l.length * 33 ≤ cur.size := by rw [hsz]; exact Nat.mul_le_mul_right _ hnc
    unfold Blk at hb
    unfold rowAt?
    simp only [hb, Option.isSome_none, Bool.false_eq_true, if_false, Nat.zero_add]
    rw [if_pos (by omega)]
    congr 1
    apply Array.ext'
    have h1 := key l i p hp
    rw [← htk] at h1
    rw [← h1]
    simp only [Array.toList_extract, List.extract_eq_take_drop, List.drop_take, List.take_take]
    congr 1
    omega

def restO {α T : Type} (r : Option (α × T × Bs)) : Option Bs := r.map (·.2.2)

/-- All pairs. -/
theorem list_pairs (b fb m P : Nat) (wd : Int) (s l : Bs) (w : World) (hs : s.length ≤ 3909374676453) (hP0 : 1024 ≤ P) (hP : P ≤ 8192) (hne : fb ≠ b) (hm0 : 0 < m) (hm : m ≤ 9223372036854775807) (h : RdOk w b s l) (hf : Blk w fb 23 #[.int .i64 P, .int .i64 wd]) :
    Calls Tryz.prog 64 #[.pointer (some ⟨b, 0, none⟩), .int .i64 m, .func (.func 65) #[] #[.pointer (some ⟨fb, 0, none⟩)]] w fun e w' =>
      ∃ a c ts, e = .returned (.slice a ts.length c) ∧ Own w' 56 2 a ts.length c (ts.flatMap csP) ∧ Kp [b, fb] w w' ∧ (∀ g ∈ ab a, w.heap.size ≤ g) ∧ RdSt w' b s (restO (listP m (pairP P) () l)) ∧ (∀ r, listP m (pairP P) () l = some r → ts = r.2.1) ∧ (listP m (pairP P) () l = none → ts = []) := by
  refine (list_pair (I := fun _ _ => True) (J := JP fb P wd) (step := pairP P) b m s l () [fb] #[.pointer (some ⟨fb, 0, none⟩)] w (JP.st b fb P wd hne) (fun _ _ _ => trivial) (fun _ _ _ _ _ _ _ => trivial) ?_ h ⟨rfl, hf⟩ hs hm0 hm).mono ?_
  · rintro x l fp w _ h ⟨rfl, hf⟩
    exact one_pair b fb P wd s l w (by omega) hP0 hP hne h hf
  · rintro e w' ⟨a, c, ts, x', fp', he, how, hj, k, h1, h2, h3⟩
    refine ⟨a, c, ts, he, how, k, fun g hg => (h2 g hg).1, ?_⟩
    cases hr : listP m (pairP P) () l with
    | none => rw [hr] at h3; exact ⟨h3.2, by simp, fun _ => h3.1⟩
    | some r => rw [hr] at h3; exact ⟨h3.2.2, fun r' hr' => by cases hr'; exact h3.2.1, by simp⟩

theorem sepP_len {P : Nat} {x x' : Bool × List Bs} {l l' : Bs} (h : sepP P x l = some (x', l')) : x'.2.length + l'.length ≤ x.2.length + l.length := by
  unfold sepP at h
  split at h
  · simp only [Option.some.injEq, Prod.mk.injEq] at h
    obtain ⟨rfl, rfl⟩ := h; simp
  · unfold textP at h
    cases hf : freeP (P / 16) l with
    | none => simp [hf] at h
    | some r =>
      obtain ⟨n, l1⟩ := r
      have := (freeP_rest hf).2.1
      simp only [hf, rawP] at h
      split at h
      · simp only [Option.map_some, Option.some.injEq, Prod.mk.injEq] at h
        obtain ⟨rfl, rfl⟩ := h
        simp; omega
      · simp at h
theorem takeP_len {n v : Nat} {l l' : Bs} (h : takeP n l = some (v, l')) : l'.length + n = l.length := by
  unfold takeP at h
  split at h
  · simp only [Option.some.injEq, Prod.mk.injEq] at h
    obtain ⟨_, rfl⟩ := h; simp; omega
  · cases h
theorem dgP_len {n : Nat} {d : Dg} {l l' : Bs} (h : dgP n l = some (d, l')) : l'.length + n = l.length := by
  unfold dgP rawP at h
  split at h
  · simp only [Option.map_some, Option.some.injEq, Prod.mk.injEq] at h
    obtain ⟨_, rfl⟩ := h; simp; omega
  · simp at h
theorem kidP_len {P wd : Nat} {pages : Bool} {x x' : Bool × List Bs} {t : Kd} {l l' : Bs} (h : kidP P wd pages x l = some (x', t, l')) : x'.2.length + l'.length ≤ x.2.length + l.length := by
  unfold kidP at h
  cases hs : sepP P x l with
  | none => simp [hs] at h
  | some r =>
    obtain ⟨x1, l1⟩ := r
    have h0 := sepP_len hs
    simp only [hs] at h
    have key : ∀ (o : Option (Nat × Bs)), (∀ n l2, o = some (n, l2) → l2.length ≤ l1.length) → (match o with | none => none | some (n, l2) => match dgP wd l2 with | none => none | some (d, l3) => some (x1, (⟨n, d⟩ : Kd), l3)) = some (x', t, l') → x'.2.length + l'.length ≤ x.2.length + l.length := by
      intro o ho h
      cases o with
      | none => simp at h
      | some r2 =>
        obtain ⟨n, l2⟩ := r2
        have h1 := ho n l2 rfl
        simp only at h
        cases hd : dgP wd l2 with
        | none => simp [hd] at h
        | some r3 =>
          obtain ⟨d, l3⟩ := r3
          have h2 := dgP_len hd
          simp only [hd, Option.some.injEq, Prod.mk.injEq] at h
          obtain ⟨rfl, _, rfl⟩ := h
          omega
    refine key _ ?_ h
    intro n l2 ho
    cases pages
    · simp at ho; rw [ho.2]; exact Nat.le_refl _
    · simp only [if_true] at ho; have := takeP_len ho; omega

theorem Own3.at {w : World} {lo : Nat} {pa sa ka : Option Addr} {pc sc kc : Nat} {n : Nd} (h : Own3 w lo pa sa ka pc sc kc n) : NdAt w pa sa ka n :=
  ⟨Own.ps h.ps, Own.ss (by rw [← csS_map]; exact h.ss), Own.ks h.ks⟩
theorem Own3.le {w : World} {lo lo' : Nat} {pa sa ka : Option Addr} {pc sc kc : Nat} {n : Nd} (h : Own3 w lo pa sa ka pc sc kc n) (hl : lo' ≤ lo) : Own3 w lo' pa sa ka pc sc kc n :=
  ⟨h.ps, h.ss, h.ks, fun g hg => Nat.le_trans hl (h.lo g hg), h.d1, h.d2⟩
theorem Own3.kp {S : List Nat} {w w' : World} {lo : Nat} {pa sa ka : Option Addr} {pc sc kc : Nat} {n : Nd} (h : Own3 w lo pa sa ka pc sc kc n) (k : Kp S w w') (hs : ∀ g ∈ ab pa ++ ab sa ++ ab ka, g ∉ S) : Own3 w' lo pa sa ka pc sc kc n :=
  ⟨h.ps.kp k (fun g hg => hs g (by simp [hg])), h.ss.kp k (fun g hg => hs g (by simp [hg])), h.ks.kp k (fun g hg => hs g (by simp [hg])), h.lo, h.d1, h.d2⟩


/-- All kids. -/
theorem list_kids (b fb pb fst nb m P wd : Nat) (pages : Bool) (s l : Bs) (w : World) (hs : s.length ≤ 3909374676453) (hP0 : 1024 ≤ P) (hP : P ≤ 8192) (hwd : wd ≤ 32)
    (n1 : fb ≠ b) (n2 : pb ≠ b) (n3 : fst ≠ b) (n4 : nb ≠ b) (n5 : fst ≠ nb) (n6 : fst ≠ fb) (n7 : fst ≠ pb) (n8 : nb ≠ fb) (n9 : nb ≠ pb) (hm0 : 0 < m) (hm : m ≤ 9223372036854775807) (h : RdOk w b s l)
    (hf : Blk w fb 23 #[.int .i64 P, .int .i64 wd]) (hp : Blk w pb 4 #[.bool pages]) (hfi : Blk w fst 4 #[.bool true]) (hn : Blk w nb 28 #[.slice none 0 0, .slice none 0 0, .slice none 0 0]) :
    Calls Tryz.prog 68 #[.pointer (some ⟨b, 0, none⟩), .int .i64 m, .func (.func 69) #[] #[.pointer (some ⟨fst, 0, none⟩), .pointer (some ⟨nb, 0, none⟩), .pointer (some ⟨fb, 0, none⟩), .pointer (some ⟨pb, 0, none⟩)]] w fun e w' =>
      ∃ a c ts a2 c2 seps, e = .returned (.slice a ts.length c) ∧ Own w' 59 33 a ts.length c (ts.flatMap csK) ∧ Kp [b, fst, nb, fb, pb] w w' ∧ (∀ g ∈ ab a, w.heap.size ≤ g ∧ g ∉ ab a2) ∧ RdSt w' b s (restO (listP m (kidP P wd pages) (true, []) l))
        ∧ Blk w' nb 28 #[.slice none 0 0, .slice a2 seps.length c2, .slice none 0 0] ∧ Own w' 9 1 a2 seps.length c2 (seps.map fun t => .string ⟨t.toArray⟩) ∧ (∀ g ∈ ab a2, w.heap.size ≤ g)
        ∧ (∀ r, listP m (kidP P wd pages) (true, []) l = some r → ts = r.2.1 ∧ seps = r.1.2) ∧ (listP m (kidP P wd pages) (true, []) l = none → ts = []) := by
  have hle := h.lt
  have hll : l.length ≤ s.length := by obtain ⟨p, hp, _⟩ := h; omega
  refine (list_kid (I := fun x l => x.2.length + l.length ≤ s.length) (J := JK b fb pb fst nb P wd pages) (step := kidP P wd pages) b m s l (true, []) (fst :: nb :: fb :: pb :: ab none) #[.pointer (some ⟨fst, 0, none⟩), .pointer (some ⟨nb, 0, none⟩), .pointer (some ⟨fb, 0, none⟩), .pointer (some ⟨pb, 0, none⟩)] w (JK.st n1 n2 n3 n4) ?_ ?_ ?_ h ?_ hs hm0 hm).mono ?_
  · intro n l' hf'; have := (freeP_rest hf').2.1; simp; omega
  · intro x l x' t l' hi hst; have := kidP_len hst; omega
  · intro x l fp w hi h hj
    exact one_kid b fb pb fst nb P wd pages x fp s l w hs hP0 hP hwd n1 n2 n3 n4 n5 n6 n7 n8 n9 hi h hj
  · exact ⟨none, 0, rfl, hfi, hn, Own.nil _ _ _, hf, hp, by simp [ab], by simp [ab], by simp [ab], by simp [ab], by simp [ab]⟩
  · rintro e w' ⟨a, c, ts, x', fp', he, how, hj, k, h1, h2, h3⟩
    obtain ⟨a2, c2, rfl, b1, b2, o2, b3, b4, m1, m2, m3, m4, m5⟩ := hj
    refine ⟨a, c, ts, a2, c2, x'.2, he, how, k, fun g hg => ⟨(h2 g hg).1, fun e => (h2 g hg).2 (by simp [e])⟩, ?_⟩
    have hnew : ∀ g ∈ ab a2, w.heap.size ≤ g := by
      intro g hg
      rcases h1 g (by simp [hg]) with h | h
      · simp only [ab, Option.map_none, Option.toList_none, List.mem_cons, List.not_mem_nil, or_false] at h
        rcases h with rfl | rfl | rfl | rfl
        · exact absurd hg m1
        · exact absurd hg m2
        · exact absurd hg m3
        · exact absurd hg m4
      · exact h
    cases hr : listP m (kidP P wd pages) (true, []) l with
    | none => rw [hr] at h3; exact ⟨h3.2, b2, o2, hnew, by simp, fun _ => h3.1⟩
    | some r => rw [hr] at h3; exact ⟨h3.2.2, b2, o2, hnew, fun r' hr' => by cases hr'; exact ⟨h3.2.1, by rw [h3.1]⟩, by simp⟩

end Go.Proofs.YtemicgccgcmmbaaGreat
