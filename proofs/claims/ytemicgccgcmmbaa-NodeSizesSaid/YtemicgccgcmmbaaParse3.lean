/- A form is read. -/
import Derived.Test.YtemicgccgcmmbaaParse2
import Derived.Test.YtemicgccgcmmbaaEnd
namespace Go.Proofs.Ytemicgccgcmmbaa
set_option linter.unusedVariables false
set_option linter.unusedSimpArgs false
open Go Go.RowKit

/-- The node that bytes are read as. -/
def parseP (P wd : Nat) (pages : Bool) (s : Bs) : Option Nd :=
  match takeP 1 s with
  | none => none
  | some (t, l) =>
    if t = 1 then
      match listP s.length (pairP P) () l with
      | some (_, ps, l') => if l' = [] then some ⟨ps, [], []⟩ else none
      | none => none
    else if t = 2 then
      match listP s.length (kidP P wd pages) (true, []) l with
      | some (x, ks, l') => if ks = [] then none else if l' = [] then some ⟨[], x.2, ks⟩ else none
      | none => none
    else none

def ParsePost (w : World) (r : Option Nd) (e : Ending) (w' : World) : Prop :=
  match r with
  | some n => ∃ pa sa ka pc sc kc, e = .returned (.tuple #[.agg #[.slice pa n.pairs.length pc, .slice sa n.seps.length sc, .slice ka n.kids.length kc], .bool true]) ∧ NdAt w' pa sa ka n ∧ Kp [] w w' ∧ ∀ g ∈ ab pa ++ ab sa ++ ab ka, w.heap.size ≤ g
  | none => ∃ pa sa ka pn sn kn pc sc kc, e = .returned (.tuple #[.agg #[.slice pa pn pc, .slice sa sn sc, .slice ka kn kc], .bool false]) ∧ Kp [] w w'

theorem end_no (b : Nat) (s : Bs) (o : Option Bs) (w : World) (hs : s.length ≤ 140737488351232) (h : RdSt w b s o) (hne : o ≠ some []) : Calls Try.prog 72 #[.pointer (some ⟨b, 0, none⟩)] w (EndBad w) := by
  cases o with
  | none => exact end_bad b s w h
  | some l => exact end_rest b s l w hs h (fun e => hne (by rw [e]))

theorem Own.ps {w : World} {a : Option Addr} {c : Nat} {l : List Pr} (h : Own w 48 2 a l.length c (l.flatMap csP)) : PsAt w a l := by
  intro i p hp
  have hi : i < l.length := by
    rcases Nat.lt_or_ge i l.length with h1 | h1
    · exact h1
    · simp [List.getElem?_eq_none h1] at hp
  rcases h.block.2 with ⟨_, h1, _⟩ | ⟨g, cur, rfl, hb, _⟩
  · omega
  · have key : ∀ (l : List Pr) (i : Nat) (p : Pr), l[i]? = some p → (l.flatMap csP)[i * 2]? = some (.string ⟨p.1.toArray⟩) ∧ (l.flatMap csP)[i * 2 + 1]? = some (.string ⟨p.2.toArray⟩) := by
      intro l
      induction l with
      | nil => intro i p h; simp at h
      | cons x t ih =>
        intro i p h
        cases i with
        | zero => simp at h; subst h; simp [csP]
        | succ i =>
          have := ih i p (by simpa using h)
          simp only [List.flatMap_cons]
          rw [List.getElem?_append_right (by simp [csP]; omega), List.getElem?_append_right (by simp [csP]; omega)]
          simpa [csP, Nat.add_mul] using this
    obtain ⟨k1, k2⟩ := key l i p hp
    have hc := h.cells rfl
    exact ⟨g, 0, rfl, hb.lt, by simpa [Addr.add_lit] using hc _ _ k1, by simpa [Addr.add_lit] using hc _ _ k2⟩
theorem Own.ss {w : World} {a : Option Addr} {c : Nat} {l : List Bs} (h : Own w 9 1 a l.length c (l.map fun t => .string ⟨t.toArray⟩)) : SsAt w a l := by
  intro i p hp
  have hi : i < l.length := by
    rcases Nat.lt_or_ge i l.length with h1 | h1
    · exact h1
    · simp [List.getElem?_eq_none h1] at hp
  rcases h.block.2 with ⟨_, h1, _⟩ | ⟨g, cur, rfl, hb, _⟩
  · omega
  · have hc := h.cells rfl i (.string ⟨p.toArray⟩) (by simp [hp])
    exact ⟨g, 0, rfl, hb.lt, by simpa [Addr.add_lit] using hc⟩
theorem Own.ks {w : World} {a : Option Addr} {c : Nat} {l : List Kd} (h : Own w 42 33 a l.length c (l.flatMap csK)) : KsAt w a l := by
  intro i p hp
  have hi : i < l.length := by
    rcases Nat.lt_or_ge i l.length with h1 | h1
    · exact h1
    · simp [List.getElem?_eq_none h1] at hp
  rcases h.block.2 with ⟨_, h1, _⟩ | ⟨g, cur, rfl, hb, hnc, _, hsz, htk⟩
  · omega
  · have key : ∀ (l : List Kd) (i : Nat) (p : Kd), l[i]? = some p → ((l.flatMap csK).drop (i * 33)).take 33 = p.c.toList := by
      intro l
      induction l with
      | nil => intro i p h; simp at h
      | cons x t ih =>
        intro i p h
        have hx : x.c.toList.length = 33 := by simp
        cases i with
        | zero => simp at h; subst h; simp only [List.flatMap_cons, csK, Nat.zero_mul, List.drop_zero]; rw [List.take_append_of_le_length (by omega), List.take_of_length_le (by omega)]
        | succ i =>
          have := ih i p (by simpa using h)
          simp only [List.flatMap_cons, csK]
          rw [show (i + 1) * 33 = x.c.toList.length + i * 33 by omega, List.drop_append]
          rw [List.drop_of_length_le (by omega)]
          simpa [csK] using this
    refine ⟨g, 0, rfl, hb.lt, ?_⟩
    have hlen : i * 33 + 33 ≤ l.length * 33 := by omega
    have hle : l.length * 33 ≤ cur.size := by rw [hsz]; exact Nat.mul_le_mul_right _ hnc
    unfold Blk at hb
    unfold rowAt?
    simp only [hb, Option.isSome_none, Bool.false_eq_true, if_false, Nat.zero_add]
    rw [if_pos (by omega)]
    congr 1
    apply Array.ext'
    have h1 := key l i p hp
    rw [← htk] at h1
    rw [← h1]
    simp only [Array.toList_extract, List.extract_eq_take_drop, List.drop_take, List.take_take]
    congr 1
    omega

def restO {α T : Type} (r : Option (α × T × Bs)) : Option Bs := r.map (·.2.2)

/-- All pairs. -/
theorem list_pairs (b fb m P : Nat) (wd : Int) (s l : Bs) (w : World) (hs : s.length ≤ 3909374676453) (hP0 : 1024 ≤ P) (hP : P ≤ 8192) (hne : fb ≠ b) (hm0 : 0 < m) (hm : m ≤ 9223372036854775807) (h : RdOk w b s l) (hf : Blk w fb 23 #[.int .i64 P, .int .i64 wd]) :
    Calls Try.prog 65 #[.pointer (some ⟨b, 0, none⟩), .int .i64 m, .func (.func 66) #[] #[.pointer (some ⟨fb, 0, none⟩)]] w fun e w' =>
      ∃ a c ts, e = .returned (.slice a ts.length c) ∧ Own w' 48 2 a ts.length c (ts.flatMap csP) ∧ Kp [b, fb] w w' ∧ (∀ g ∈ ab a, w.heap.size ≤ g) ∧ RdSt w' b s (restO (listP m (pairP P) () l)) ∧ (∀ r, listP m (pairP P) () l = some r → ts = r.2.1) ∧ (listP m (pairP P) () l = none → ts = []) := by
  refine (list_pair (I := fun _ _ => True) (J := JP fb P wd) (step := pairP P) b m s l () [fb] #[.pointer (some ⟨fb, 0, none⟩)] w (JP.st b fb P wd hne) (fun _ _ _ => trivial) (fun _ _ _ _ _ _ _ => trivial) ?_ h ⟨rfl, hf⟩ hs hm0 hm).mono ?_
  · rintro x l fp w _ h ⟨rfl, hf⟩
    exact one_pair b fb P wd s l w (by omega) hP0 hP hne h hf
  · rintro e w' ⟨a, c, ts, x', fp', he, how, hj, k, h1, h2, h3⟩
    refine ⟨a, c, ts, he, how, k, fun g hg => (h2 g hg).1, ?_⟩
    cases hr : listP m (pairP P) () l with
    | none => rw [hr] at h3; exact ⟨h3.2, by simp, fun _ => h3.1⟩
    | some r => rw [hr] at h3; exact ⟨h3.2.2, fun r' hr' => by cases hr'; exact h3.2.1, by simp⟩

theorem sepP_len {P : Nat} {x x' : Bool × List Bs} {l l' : Bs} (h : sepP P x l = some (x', l')) : x'.2.length + l'.length ≤ x.2.length + l.length := by
  unfold sepP at h
  split at h
  · simp only [Option.some.injEq, Prod.mk.injEq] at h
    obtain ⟨rfl, rfl⟩ := h; simp
  · unfold textP at h
    cases hf : freeP (P / 16) l with
    | none => simp [hf] at h
    | some r =>
      obtain ⟨n, l1⟩ := r
      have := (freeP_rest hf).2.1
      simp only [hf, rawP] at h
      split at h
      · simp only [Option.map_some, Option.some.injEq, Prod.mk.injEq] at h
        obtain ⟨rfl, rfl⟩ := h
        simp; omega
      · simp at h
theorem takeP_len {n v : Nat} {l l' : Bs} (h : takeP n l = some (v, l')) : l'.length + n = l.length := by
  unfold takeP at h
  split at h
  · simp only [Option.some.injEq, Prod.mk.injEq] at h
    obtain ⟨_, rfl⟩ := h; simp; omega
  · cases h
theorem dgP_len {n : Nat} {d : Dg} {l l' : Bs} (h : dgP n l = some (d, l')) : l'.length + n = l.length := by
  unfold dgP rawP at h
  split at h
  · simp only [Option.map_some, Option.some.injEq, Prod.mk.injEq] at h
    obtain ⟨_, rfl⟩ := h; simp; omega
  · simp at h
theorem kidP_len {P wd : Nat} {pages : Bool} {x x' : Bool × List Bs} {t : Kd} {l l' : Bs} (h : kidP P wd pages x l = some (x', t, l')) : x'.2.length + l'.length ≤ x.2.length + l.length := by
  unfold kidP at h
  cases hs : sepP P x l with
  | none => simp [hs] at h
  | some r =>
    obtain ⟨x1, l1⟩ := r
    have h0 := sepP_len hs
    simp only [hs] at h
    have key : ∀ (o : Option (Nat × Bs)), (∀ n l2, o = some (n, l2) → l2.length ≤ l1.length) → (match o with | none => none | some (n, l2) => match dgP wd l2 with | none => none | some (d, l3) => some (x1, (⟨n, d⟩ : Kd), l3)) = some (x', t, l') → x'.2.length + l'.length ≤ x.2.length + l.length := by
      intro o ho h
      cases o with
      | none => simp at h
      | some r2 =>
        obtain ⟨n, l2⟩ := r2
        have h1 := ho n l2 rfl
        simp only at h
        cases hd : dgP wd l2 with
        | none => simp [hd] at h
        | some r3 =>
          obtain ⟨d, l3⟩ := r3
          have h2 := dgP_len hd
          simp only [hd, Option.some.injEq, Prod.mk.injEq] at h
          obtain ⟨rfl, _, rfl⟩ := h
          omega
    refine key _ ?_ h
    intro n l2 ho
    cases pages
    · simp at ho; rw [ho.2]; exact Nat.le_refl _
    · simp only [if_true] at ho; have := takeP_len ho; omega

/-- All kids. -/
theorem list_kids (b fb pb fst nb m P wd : Nat) (pages : Bool) (s l : Bs) (w : World) (hs : s.length ≤ 3909374676453) (hP0 : 1024 ≤ P) (hP : P ≤ 8192) (hwd : wd ≤ 32)
    (n1 : fb ≠ b) (n2 : pb ≠ b) (n3 : fst ≠ b) (n4 : nb ≠ b) (n5 : fst ≠ nb) (n6 : fst ≠ fb) (n7 : fst ≠ pb) (n8 : nb ≠ fb) (n9 : nb ≠ pb) (hm0 : 0 < m) (hm : m ≤ 9223372036854775807) (h : RdOk w b s l)
    (hf : Blk w fb 23 #[.int .i64 P, .int .i64 wd]) (hp : Blk w pb 4 #[.bool pages]) (hfi : Blk w fst 4 #[.bool true]) (hn : Blk w nb 30 #[.slice none 0 0, .slice none 0 0, .slice none 0 0]) :
    Calls Try.prog 68 #[.pointer (some ⟨b, 0, none⟩), .int .i64 m, .func (.func 69) #[] #[.pointer (some ⟨fst, 0, none⟩), .pointer (some ⟨nb, 0, none⟩), .pointer (some ⟨fb, 0, none⟩), .pointer (some ⟨pb, 0, none⟩)]] w fun e w' =>
      ∃ a c ts a2 c2 seps, e = .returned (.slice a ts.length c) ∧ Own w' 42 33 a ts.length c (ts.flatMap csK) ∧ Kp [b, fst, nb, fb, pb] w w' ∧ (∀ g ∈ ab a, w.heap.size ≤ g) ∧ RdSt w' b s (restO (listP m (kidP P wd pages) (true, []) l))
        ∧ Blk w' nb 30 #[.slice none 0 0, .slice a2 seps.length c2, .slice none 0 0] ∧ Own w' 9 1 a2 seps.length c2 (seps.map fun t => .string ⟨t.toArray⟩) ∧ (∀ g ∈ ab a2, w.heap.size ≤ g)
        ∧ (∀ r, listP m (kidP P wd pages) (true, []) l = some r → ts = r.2.1 ∧ seps = r.1.2) ∧ (listP m (kidP P wd pages) (true, []) l = none → ts = []) := by
  have hle := h.lt
  have hll : l.length ≤ s.length := by obtain ⟨p, hp, _⟩ := h; omega
  refine (list_kid (I := fun x l => x.2.length + l.length ≤ s.length) (J := JK b fb pb fst nb P wd pages) (step := kidP P wd pages) b m s l (true, []) (fst :: nb :: fb :: pb :: ab none) #[.pointer (some ⟨fst, 0, none⟩), .pointer (some ⟨nb, 0, none⟩), .pointer (some ⟨fb, 0, none⟩), .pointer (some ⟨pb, 0, none⟩)] w (JK.st n1 n2 n3 n4) ?_ ?_ ?_ h ?_ hs hm0 hm).mono ?_
  · intro n l' hf'; have := (freeP_rest hf').2.1; simp; omega
  · intro x l x' t l' hi hst; have := kidP_len hst; omega
  · intro x l fp w hi h hj
    exact one_kid b fb pb fst nb P wd pages x fp s l w hs hP0 hP hwd n1 n2 n3 n4 n5 n6 n7 n8 n9 hi h hj
  · exact ⟨none, 0, rfl, hfi, hn, Own.nil _ _ _, hf, hp, by simp [ab], by simp [ab], by simp [ab], by simp [ab], by simp [ab]⟩
  · rintro e w' ⟨a, c, ts, x', fp', he, how, hj, k, h1, h2, h3⟩
    obtain ⟨a2, c2, rfl, b1, b2, o2, b3, b4, m1, m2, m3, m4, m5⟩ := hj
    refine ⟨a, c, ts, a2, c2, x'.2, he, how, k, fun g hg => (h2 g hg).1, ?_⟩
    have hnew : ∀ g ∈ ab a2, w.heap.size ≤ g := by
      intro g hg
      rcases h1 g (by simp [hg]) with h | h
      · simp only [ab, Option.map_none, Option.toList_none, List.mem_cons, List.not_mem_nil, or_false] at h
        rcases h with rfl | rfl | rfl | rfl
        · exact absurd hg m1
        · exact absurd hg m2
        · exact absurd hg m3
        · exact absurd hg m4
      · exact h
    cases hr : listP m (kidP P wd pages) (true, []) l with
    | none => rw [hr] at h3; exact ⟨h3.2, b2, o2, hnew, by simp, fun _ => h3.1⟩
    | some r => rw [hr] at h3; exact ⟨h3.2.2, b2, o2, hnew, fun r' hr' => by cases hr'; exact ⟨h3.2.1, by rw [h3.1]⟩, by simp⟩

end Go.Proofs.Ytemicgccgcmmbaa
