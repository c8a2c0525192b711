/- Nodes in lists that may be written over (values without addresses). -/
import Derived.Test.YtemicgccgcmmbaaGreatZ52
import Derived.Test.YtemicgccgcmmbaaGreatZ42
import Derived.Test.YtemicgccgcmmbaaGreatZ35
import Derived.Test.YtemicgccgcmmbaaGreatZ36
namespace Go.Proofs.YtemicgccgcmmbaaGreat
set_option linter.unusedVariables false
set_option linter.unusedSimpArgs false
open Go Go.RowKit

section
variable {w : World} {I : Nat → Nat → Prop}
theorem rv_sd (s : Bs) (us : List Value) : RV w I (sD s) us ↔ us = csS s := by
  unfold RV; exact ⟨fun h => h.1, fun h => ⟨h, rfl⟩⟩
theorem rv_pr (p : Pr) (us : List Value) : RV w I (prD p) us ↔ us = csP p := by
  unfold prD
  constructor
  · intro h
    unfold RV at h
    obtain ⟨xs, ys, rfl, h1, h2⟩ := RVs.two h
    rw [(rv_sd _ _).1 h1, (rv_sd _ _).1 h2]; rfl
  · rintro rfl
    unfold RV
    exact RVs.mk2 ((rv_sd p.1 _).2 rfl) ((rv_sd p.2 _).2 rfl)
theorem rv_kd (k : Kd) (us : List Value) : RV w I (kdD k) us ↔ us = csK k := by
  unfold kdD
  constructor
  · intro h
    unfold RV at h
    obtain ⟨xs, ys, rfl, h1, h2⟩ := RVs.two h
    unfold RV at h1 h2
    rw [h1.1, h2]; simp [csK, Kd.c]
  · rintro rfl
    unfold RV
    have e : csK k = [Value.int .u32 (k.page : Nat)] ++ bC k.sum.l := by simp [csK, Kd.c]
    rw [e]
    exact RVs.mk2 (by unfold RV; exact ⟨rfl, rfl⟩) (by unfold RV; rfl)
theorem rvs_flat {α : Type} (f : α → D) (g : α → List Value) (h : ∀ x us, RV w I (f x) us ↔ us = g x) : ∀ (l : List α) (us : List Value), RVs w I (l.map f) us ↔ us = l.flatMap g
  | [], us => by unfold RVs; simp
  | x :: l, us => by
    have ih := rvs_flat f g h l
    rw [List.map_cons]
    unfold RVs
    constructor
    · rintro ⟨xs, ys, rfl, h1, h2⟩
      rw [(h x xs).1 h1, (ih ys).1 h2]; simp
    · rintro rfl
      exact ⟨_, _, by simp, (h x _).2 rfl, (ih _).2 rfl⟩
end
theorem flat_lenz {α : Type} (g : α → List Value) (z : Nat) (h : ∀ x, (g x).length = z) : ∀ l : List α, (l.flatMap g).length = l.length * z
  | [] => by simp
  | x :: l => by rw [List.flatMap_cons, List.length_append, h, flat_lenz g z h l, List.length_cons, Nat.add_mul]; omega

/-- What is known of a block's beginning, and so many cells behind it. -/
def restD (es : List D) (k : Nat) : D := .tup [.agg es, .v (.int .i64 k)]
theorem restD_front (es : List D) (k : Nat) : (restD es k).front = (.agg es, k) := by unfold restD D.front; simp
/-- A list in a block that may be written. -/
def LIn (bk : List (Nat × TypeId × D)) (t : TypeId) (z : Nat) (a : Option Addr) (c : Nat) (es : List D) : Prop :=
  (a = none ∧ es = [] ∧ c = 0) ∨ ∃ g, a = some ⟨g, 0, none⟩ ∧ (g, t, restD es ((c - es.length) * z)) ∈ bk ∧ es.length ≤ c ∧ c ≤ maxLen
theorem LIn.sub {bk bk' : List (Nat × TypeId × D)} {t : TypeId} {z : Nat} {a : Option Addr} {c : Nat} {es : List D} (h : LIn bk t z a c es) (hs : ∀ x ∈ bk, x ∈ bk') : LIn bk' t z a c es := by
  rcases h with h | ⟨g, h1, h2, h3⟩
  · exact .inl h
  · exact .inr ⟨g, h1, hs _ h2, h3⟩
theorem LIn.own {α : Type} {f : α → D} {g : α → List Value} {w : World} {S : Sto} {t : TypeId} {z : Nat} {a : Option Addr} {c : Nat} {l : List α} (h : LIn S.bk t z a c (l.map f)) (hS : StAt w S) (hf : ∀ x us, RV w S.I (f x) us ↔ us = g x) (hz : ∀ x, (g x).length = z) :
    Own w t z a l.length c (l.flatMap g) := by
  have hl := flat_lenz g z hz l
  refine ⟨hl, ?_⟩
  rcases h with ⟨rfl, h2, rfl⟩ | ⟨b, rfl, h2, h3, h4⟩
  · have : l = [] := by simpa using h2
    subst this
    exact .inl ⟨rfl, rfl⟩
  · obtain ⟨us, hb, xs, ys, rfl, h5, h6⟩ := hS.mutAt _ _ _ h2
    rw [restD_front] at h5 h6
    simp only [List.length_map] at h3 h6
    unfold RV at h5
    have h5 := (rvs_flat f g hf l xs).1 h5
    subst h5
    refine .inr ⟨b, c, _, rfl, Nat.zero_le _, hb, h3, h4, ?_, ?_⟩
    · simp only [List.size_toArray, List.length_append, hl, h6, ← Nat.add_mul]
      congr 1; omega
    · rw [← hl]; simp

structure NdIn (bk : List (Nat × TypeId × D)) (pa sa ka : Option Addr) (pc sc kc : Nat) (n : Nd) : Prop where
  p : LIn bk 56 2 pa pc (n.pairs.map prD)
  s : LIn bk 9 1 sa sc (n.seps.map sD)
  k : LIn bk 59 33 ka kc (n.kids.map kdD)
theorem NdIn.sub {bk bk' : List (Nat × TypeId × D)} {pa sa ka : Option Addr} {pc sc kc : Nat} {n : Nd} (h : NdIn bk pa sa ka pc sc kc n) (hs : ∀ x ∈ bk, x ∈ bk') : NdIn bk' pa sa ka pc sc kc n :=
  ⟨h.p.sub hs, h.s.sub hs, h.k.sub hs⟩
theorem bk_uniq : ∀ {bk : List (Nat × TypeId × D)} {b : Nat} {x y : TypeId × D}, (bk.map (·.1)).Nodup → (b, x) ∈ bk → (b, y) ∈ bk → x = y
  | (c, z) :: bk, b, x, y, hn, h1, h2 => by
    simp only [List.map_cons, List.nodup_cons] at hn
    rcases List.mem_cons.1 h1 with h1 | h1 <;> rcases List.mem_cons.1 h2 with h2 | h2
    · simp only [Prod.mk.injEq] at h1 h2; exact h1.2.trans h2.2.symm
    · simp only [Prod.mk.injEq] at h1; exact absurd (List.mem_map.2 ⟨_, h2, h1.1⟩) hn.1
    · simp only [Prod.mk.injEq] at h2; exact absurd (List.mem_map.2 ⟨_, h1, h2.1⟩) hn.1
    · exact bk_uniq hn.2 h1 h2
theorem LIn.apart {bk : List (Nat × TypeId × D)} {t t' : TypeId} {z z' : Nat} {a a' : Option Addr} {c c' : Nat} {es es' : List D} (h : LIn bk t z a c es) (h' : LIn bk t' z' a' c' es') (hn : (bk.map (·.1)).Nodup) (hne : t ≠ t') : ∀ g ∈ ab a, g ∉ ab a' := by
  intro g hg hg'
  rcases h with ⟨rfl, _⟩ | ⟨b, rfl, h1, _⟩
  · simp [ab] at hg
  rcases h' with ⟨rfl, _⟩ | ⟨b', rfl, h2, _⟩
  · simp [ab] at hg'
  simp only [ab, Option.map_some, Option.toList_some, List.mem_singleton] at hg hg'
  subst hg
  subst hg'
  have := bk_uniq hn h1 h2
  simp only [Prod.mk.injEq] at this
  exact hne this.1
theorem NdIn.own3 {w : World} {S : Sto} {pa sa ka : Option Addr} {pc sc kc : Nat} {n : Nd} (h : NdIn S.bk pa sa ka pc sc kc n) (hS : StAt w S) : Own3 w 0 pa sa ka pc sc kc n := by
  have hn := (List.nodup_append.1 hS.nd).1
  exact ⟨h.p.own hS (fun x us => rv_pr x us) (fun _ => rfl), h.s.own hS (fun x us => rv_sd x us) (fun _ => rfl), h.k.own hS (fun x us => rv_kd x us) (fun x => by simp [csK, Kd.c, bC_length, x.sum.h]),
    fun _ _ => Nat.zero_le _, fun g hg => ⟨h.p.apart h.s hn (by decide) g hg, h.p.apart h.k hn (by decide) g hg⟩, h.s.apart h.k hn (by decide)⟩

/-- New blocks that may be written, where nothing else was written. -/
theorem StAt.adds {w w' : World} {S : Sto} (hS : StAt w S) (k : Kp [] w w') (new : List (Nat × TypeId × D)) (hn : (new.map (·.1)).Nodup) (hlo : ∀ b ∈ new.map (·.1), w.heap.size ≤ b) (hv : ∀ b t d, (b, t, d) ∈ new → ∃ us : List Value, Blk w' b t us.toArray ∧ ∀ I, RVT w' I d us) :
    StAt w' ⟨S.bk ++ new, S.ow⟩ ∧ Evo w S.I w' (⟨S.bk ++ new, S.ow⟩ : Sto).I := by
  have hevo : Evo w S.I w' (⟨S.bk ++ new, S.ow⟩ : Sto).I := k.evo (fun _ _ _ _ => by simp) (fun b e hb hi => ⟨by
    simp only [List.map_append, List.mem_append, not_or]
    exact ⟨hi.1, fun hm => absurd (hlo b hm) (by omega)⟩, hi.2⟩)
  refine ⟨⟨?_, fun b t d hm => ?_, fun b L hm => ?_⟩, hevo⟩
  · have h0 := hS.nd
    simp only [List.map_append]
    rw [List.nodup_append] at h0
    rw [List.append_assoc, List.nodup_append]
    refine ⟨h0.1, ?_, ?_⟩
    · rw [List.nodup_append]
      refine ⟨hn, h0.2.1, fun a ha b hb e => ?_⟩
      have := hS.lt (.inr hb); have := hlo a ha; omega
    · intro a ha b hb e
      rcases List.mem_append.1 hb with hb | hb
      · have := hS.lt (.inl ha); have := hlo b hb; omega
      · exact h0.2.2 a ha b hb e
  · rcases List.mem_append.1 hm with hm | hm
    · obtain ⟨us, h1, h2⟩ := hS.mutAt b t d hm
      exact ⟨us, h1.kp k (by simp), h2.evo hevo _ _⟩
    · obtain ⟨us, h1, h2⟩ := hv b t d hm
      exact ⟨us, h1, h2 _⟩
  · obtain ⟨t, cur, h1, h2⟩ := hS.ownAt b L hm
    exact ⟨t, cur, k.blk h1 (by simp), h2⟩

def entL (t : TypeId) (z : Nat) (a : Option Addr) (c : Nat) (es : List D) : List (Nat × TypeId × D) :=
  match a with
  | some x => [(x.block, t, restD es ((c - es.length) * z))]
  | none => []
theorem entL_keys (t : TypeId) (z : Nat) (a : Option Addr) (c : Nat) (es : List D) : (entL t z a c es).map (·.1) = ab a := by cases a <;> rfl
theorem entL_in {α : Type} {f : α → D} {g : α → List Value} {w : World} {t : TypeId} {z : Nat} {a : Option Addr} {c : Nat} {l : List α} (h : Own w t z a l.length c (l.flatMap g)) : LIn (entL t z a c (l.map f)) t z a c (l.map f) := by
  rcases h.block.2 with ⟨rfl, h1, rfl⟩ | ⟨b, cur, rfl, h1, h2, h3, _⟩
  · exact .inl ⟨rfl, by have : l = [] := List.eq_nil_of_length_eq_zero h1; subst this; rfl, rfl⟩
  · exact .inr ⟨b, rfl, by simp [entL], by simpa using h2, h3⟩
theorem entL_ok {α : Type} {f : α → D} {g : α → List Value} {w : World} {t : TypeId} {z : Nat} {a : Option Addr} {c : Nat} {l : List α} (h : Own w t z a l.length c (l.flatMap g)) (hf : ∀ I x us, RV w I (f x) us ↔ us = g x) :
    ∀ b t' d, (b, t', d) ∈ entL t z a c (l.map f) → ∃ us : List Value, Blk w b t' us.toArray ∧ ∀ I, RVT w I d us := by
  intro b t' d hm
  rcases h.block.2 with ⟨rfl, _⟩ | ⟨b', cur, rfl, h1, h2, h3, h4, h5⟩
  · simp [entL] at hm
  · simp only [entL, List.mem_singleton, Prod.mk.injEq] at hm
    obtain ⟨rfl, rfl, rfl⟩ := hm
    refine ⟨cur.toList, by simpa using h1, fun I => ⟨l.flatMap g, cur.toList.drop (l.length * z), ?_, ?_, ?_⟩⟩
    · rw [← h5, List.take_append_drop]
    · rw [restD_front]; unfold RV; exact (rvs_flat f g (hf I) l _).2 rfl
    · rw [restD_front]
      simp only [List.length_drop, Array.length_toList, h4, List.length_map]
      rw [Nat.sub_mul]

def entN (pa sa ka : Option Addr) (pc sc kc : Nat) (n : Nd) : List (Nat × TypeId × D) :=
  entL 56 2 pa pc (n.pairs.map prD) ++ (entL 9 1 sa sc (n.seps.map sD) ++ entL 59 33 ka kc (n.kids.map kdD))
theorem entN_keys (pa sa ka : Option Addr) (pc sc kc : Nat) (n : Nd) : (entN pa sa ka pc sc kc n).map (·.1) = blks pa sa ka := by
  simp only [entN, List.map_append, entL_keys, blks, List.append_assoc]
theorem entN_in {w : World} {lo : Nat} {pa sa ka : Option Addr} {pc sc kc : Nat} {n : Nd} (h : Own3 w lo pa sa ka pc sc kc n) : NdIn (entN pa sa ka pc sc kc n) pa sa ka pc sc kc n :=
  ⟨(entL_in h.ps).sub (fun x hx => List.mem_append_left _ hx), (entL_in h.ss).sub (fun x hx => List.mem_append_right _ (List.mem_append_left _ hx)), (entL_in h.ks).sub (fun x hx => List.mem_append_right _ (List.mem_append_right _ hx))⟩
theorem ab_nodup (a : Option Addr) : (ab a).Nodup := by cases a <;> simp [ab]
theorem StAt.addN {w w' : World} {S : Sto} {pa sa ka : Option Addr} {pc sc kc : Nat} {n : Nd} (hS : StAt w S) (k : Kp [] w w') (o : Own3 w' w.heap.size pa sa ka pc sc kc n) :
    StAt w' ⟨S.bk ++ entN pa sa ka pc sc kc n, S.ow⟩ ∧ Evo w S.I w' (⟨S.bk ++ entN pa sa ka pc sc kc n, S.ow⟩ : Sto).I := by
  refine hS.adds k _ ?_ ?_ ?_
  · rw [entN_keys]
    unfold blks
    rw [List.nodup_append, List.nodup_append]
    refine ⟨⟨ab_nodup _, ab_nodup _, fun a ha b hb e => (o.d1 a ha).1 (e ▸ hb)⟩, ab_nodup _, fun a ha b hb e => ?_⟩
    rcases List.mem_append.1 ha with ha | ha
    · exact (o.d1 a ha).2 (e ▸ hb)
    · exact o.d2 a ha (e ▸ hb)
  · rw [entN_keys]; exact o.lo
  · intro b t d hm
    unfold entN at hm
    rcases List.mem_append.1 hm with hm | hm
    · exact entL_ok o.ps (fun I x us => rv_pr x us) b t d hm
    rcases List.mem_append.1 hm with hm | hm
    · exact entL_ok o.ss (fun I x us => rv_sd x us) b t d hm
    · exact entL_ok o.ks (fun I x us => rv_kd x us) b t d hm

/-- A node by its three slices. -/
@[go_sem] def ndV (pa sa ka : Option Addr) (pc sc kc : Nat) (n : Nd) : D := .agg [.v (.slice pa n.pairs.length pc), .v (.slice sa n.seps.length sc), .v (.slice ka n.kids.length kc)]
section
variable {w : World} {I : Nat → Nat → Prop}
theorem RVal.of_ndV (pa sa ka : Option Addr) (pc sc kc : Nat) (n : Nd) : RVal w I (ndV pa sa ka pc sc kc n) (.agg #[.slice pa n.pairs.length pc, .slice sa n.seps.length sc, .slice ka n.kids.length kc]) := by
  unfold ndV RVal
  exact ⟨[.slice pa n.pairs.length pc, .slice sa n.seps.length sc, .slice ka n.kids.length kc], rfl, RVs.mk3 (xs := [_]) (ys := [_]) (zs := [_]) (by unfold RV; exact ⟨rfl, rfl⟩) (by unfold RV; exact ⟨rfl, rfl⟩) (by unfold RV; exact ⟨rfl, rfl⟩)⟩
theorem RVal.ndV {pa sa ka : Option Addr} {pc sc kc : Nat} {n : Nd} {x : Value} (h : RVal w I (ndV pa sa ka pc sc kc n) x) : x = .agg #[.slice pa n.pairs.length pc, .slice sa n.seps.length sc, .slice ka n.kids.length kc] := by
  unfold Proofs.YtemicgccgcmmbaaGreat.ndV RVal at h
  obtain ⟨us, rfl, h⟩ := h
  obtain ⟨xs, ys, zs, rfl, h1, h2, h3⟩ := RVs.three h
  unfold RV at h1 h2 h3
  rw [h1.1, h2.1, h3.1]; rfl
end


def NewN (r : Option Nd) (code : Int) (S : Sto) (d : D) (S' : Sto) : Prop :=
  ∃ pa sa ka pc sc kc, d = .tup [Proofs.YtemicgccgcmmbaaGreat.ndV pa sa ka pc sc kc (r.getD noN), iD (okE r code)] ∧ S' = ⟨S.bk ++ entN pa sa ka pc sc kc (r.getD noN), S.ow⟩ ∧ NdIn (entN pa sa ka pc sc kc (r.getD noN)) pa sa ka pc sc kc (r.getD noN) ∧
    (∀ g ∈ blks pa sa ka, g ∉ S.bk.map (·.1))
end Go.Proofs.YtemicgccgcmmbaaGreat

/- NodeUnpacks: the contracts of what it calls (values without addresses). -/
namespace Go.Proofs.YtemicgccgcmmbaaGreat
set_option linter.unusedVariables false
set_option linter.unusedSimpArgs false
open Go Go.RowKit

theorem noN_own (w : World) (lo : Nat) : Own3 w lo none none none 0 0 0 noN :=
  ⟨Own.nil _ _ _, Own.nil _ _ _, Own.nil _ _ _, by simp [ab], by simp [ab], by simp [ab]⟩
theorem newN_of {w w' : World} {S : Sto} {r : Option Nd} {code : Int} {e : Ending} (hS : StAt w S) (hp : NodePost w code r e w') : APost w S (fun e S' => ∃ d, e = .ret d ∧ NewN r code S d S') e w' := by
  unfold NodePost at hp
  cases r with
  | some n =>
    obtain ⟨pa, sa, ka, pc, sc, kc, rfl, o, k⟩ := hp
    obtain ⟨g1, g2⟩ := hS.addN k o
    exact ⟨_, _, g1, g2, RVal.mk_tup (RVals.mk (RVal.of_ndV pa sa ka pc sc kc n) (RVals.mk RVal.of_int RVals.mk0)), _, rfl, pa, sa, ka, pc, sc, kc, rfl, rfl, entN_in o, fun g hg hm => by have := hS.lt (.inl hm); have := o.lo g hg; omega⟩
  | none =>
    obtain ⟨rfl, k⟩ := hp
    have o := noN_own w' w.heap.size
    obtain ⟨g1, g2⟩ := hS.addN k o
    exact ⟨_, _, g1, g2, RVal.mk_tup (RVals.mk (RVal.of_ndV none none none 0 0 0 noN) (RVals.mk RVal.of_int RVals.mk0)), _, rfl, none, none, none, 0, 0, 0, rfl, rfl, entN_in o, fun g hg => by simp [blks, ab] at hg⟩
theorem cUnpack (p wd : Int) (s : Bs) (S : Sto) (hs : s.length ≤ 3909374676453) :
    ACalls Tryz.prog 6 [frD p wd, sD s] S (fun e S' => ∃ d, e = .ret d ∧ NewN (unpackP p wd s) (unpackE p wd) S d S') :=
  ⟨callable Tryz.func6 rfl (by kernel_rfl), fun w xs hS hx => by
    obtain ⟨x, ys, rfl, h1, h2⟩ := hx.cons
    obtain ⟨y, zs, rfl, h3, h4⟩ := h2.cons
    obtain rfl := h4.nil
    obtain rfl := h1.frame
    obtain rfl := h3.str
    exact (Unpack_own p wd s w hs).mono fun e w' h => newN_of hS h⟩
theorem cRead (p wd : Int) (s : Bs) (S : Sto) (hs : s.length ≤ 3909374676453) :
    ACalls Tryz.prog 7 [frD p wd, sD s] S (fun e S' => ∃ d, e = .ret d ∧ NewN (readP p wd s) (unpackE p wd) S d S') :=
  ⟨callable Tryz.func7 rfl (by kernel_rfl), fun w xs hS hx => by
    obtain ⟨x, ys, rfl, h1, h2⟩ := hx.cons
    obtain ⟨y, zs, rfl, h3, h4⟩ := h2.cons
    obtain rfl := h4.nil
    obtain rfl := h1.frame
    obtain rfl := h3.str
    exact (Read_own p wd s w hs).mono fun e w' h => newN_of hS h⟩
theorem cSame {pa sa ka : Option Addr} {pc sc kc : Nat} {x : Nd} (y : Nd) (S : Sto) (h : NdIn S.bk pa sa ka pc sc kc x) (ox : NdOk x) (oy : NdOk y) :
    ACalls Tryz.prog 10 [ndV pa sa ka pc sc kc x, ndA y] S (RetQ (bD (decide (x = y))) S) :=
  ACalls.liftq (callable Tryz.func10 rfl (by kernel_rfl)) fun w xs hS hx => by
    obtain ⟨u, ys, rfl, h1, h2⟩ := hx.cons
    obtain ⟨v, zs, rfl, h3, h4⟩ := h2.cons
    obtain rfl := h4.nil
    obtain rfl := h1.ndV
    obtain ⟨qa, ta, la, qc, tc, lc, rfl, hn⟩ := h3.node
    exact (refSame_any pa sa ka qa ta la pc sc kc qc tc lc x y w (h.own3 hS).at hn ox oy).mono fun e w' h => ⟨_, h.kp.1, h.kp.2, RVal.of_bool⟩
theorem LIn.keys {bk : List (Nat × TypeId × D)} {t : TypeId} {z : Nat} {a : Option Addr} {c : Nat} {es : List D} (h : LIn bk t z a c es) : ∀ g ∈ ab a, g ∈ bk.map (·.1) := by
  intro g hg
  rcases h with ⟨rfl, _⟩ | ⟨b, rfl, h1, _⟩
  · simp [ab] at hg
  · simp only [ab, Option.map_some, Option.toList_some, List.mem_singleton] at hg
    subst hg
    exact List.mem_map.2 ⟨_, h1, rfl⟩
theorem NdIn.keys {bk : List (Nat × TypeId × D)} {pa sa ka : Option Addr} {pc sc kc : Nat} {n : Nd} (h : NdIn bk pa sa ka pc sc kc n) : ∀ g ∈ blks pa sa ka, g ∈ bk.map (·.1) := by
  intro g hg
  simp only [blks, List.mem_append] at hg
  rcases hg with (hg | hg) | hg
  · exact h.p.keys g hg
  · exact h.s.keys g hg
  · exact h.k.keys g hg
/-- Where blocks were written over that are no longer looked at. -/
theorem StAt.lose {w w' : World} {S S' : Sto} {B : List Nat} (hS : StAt w S) (s : S'.Sub S) (k : Kp B w w') (hB : ∀ g ∈ B, g ∈ S.bk.map (·.1)) (hn : ∀ g ∈ B, g ∉ S'.bk.map (·.1)) : StAt w' S' ∧ Evo w S.I w' S'.I := by
  have hevo : Evo w S.I w' S'.I := k.evo (fun b e _ hi hb => hi.1 (hB b hb)) (fun b e _ hi => s.I hi)
  refine ⟨⟨((s.m.map _).append (s.o.map _)).nodup hS.nd, fun b t d hm => ?_, fun b L hm => ?_⟩, hevo⟩
  · obtain ⟨us, h1, h2⟩ := hS.mutAt b t d (s.m.subset hm)
    exact ⟨us, h1.kp k (fun hb => hn b hb (List.mem_map.2 ⟨_, hm, rfl⟩)), h2.evo hevo _ _⟩
  · obtain ⟨t, cur, h1, h2⟩ := hS.ownAt b L (s.o.subset hm)
    exact ⟨t, cur, k.blk h1 (fun hb => (List.nodup_append.1 hS.nd).2.2 b (hB b hb) b (List.mem_map.2 ⟨_, s.o.subset hm, rfl⟩) rfl), h2⟩
theorem cApart {pa sa ka qa ta la : Option Addr} {pc sc kc qc tc lc : Nat} {n m : Nd} (S S' : Sto) (h : NdIn (entN pa sa ka pc sc kc n) pa sa ka pc sc kc n) (k : NdIn (entN qa ta la qc tc lc m) qa ta la qc tc lc m) (hf : NdFew n) (kf : NdFew m)
    (hp : S.bk.Perm (entN pa sa ka pc sc kc n ++ (entN qa ta la qc tc lc m ++ S'.bk))) (s : S'.Sub S) :
    ACalls Tryz.prog 11 [ndV pa sa ka pc sc kc n, ndV qa ta la qc tc lc m] S (RetQ (bD true) S') :=
  ⟨callable Tryz.func11 rfl (by kernel_rfl), fun w xs hS hx => by
    obtain ⟨u, ys, rfl, e1, e2⟩ := hx.cons
    obtain ⟨v, zs, rfl, e3, e4⟩ := e2.cons
    obtain rfl := e4.nil
    obtain rfl := e1.ndV
    obtain rfl := e3.ndV
    have hi : ∀ x ∈ entN pa sa ka pc sc kc n, x ∈ S.bk := fun x hx => hp.mem_iff.2 (List.mem_append_left _ hx)
    have hj : ∀ x ∈ entN qa ta la qc tc lc m, x ∈ S.bk := fun x hx => hp.mem_iff.2 (List.mem_append_right _ (List.mem_append_left _ hx))
    have hn := (List.nodup_append.1 hS.nd).1
    have hp' := hp.map (fun x : Nat × TypeId × D => x.1)
    have hn' := hp'.nodup_iff.1 hn
    simp only [List.map_append, entN_keys] at hn'
    rw [List.nodup_append, List.nodup_append] at hn'
    obtain ⟨_, ⟨_, _, n2⟩, n1⟩ := hn'
    refine (apart_any 0 0 pa sa ka qa ta la pc sc kc qc tc lc n m w ((h.sub hi).own3 hS) ((k.sub hj).own3 hS) (fun g hg hg' => n1 g hg g (List.mem_append_left _ hg') rfl) (Nat.zero_le _) (Nat.zero_le _) hf kf).mono fun e w' ⟨he, hk⟩ => ?_
    subst he
    obtain ⟨g1, g2⟩ := hS.lose s hk (fun g hg => by
      rcases List.mem_append.1 hg with hg | hg
      · exact (h.sub hi).keys g hg
      · exact (k.sub hj).keys g hg) (fun g hg hm => by
      rcases List.mem_append.1 hg with hg | hg
      · exact n1 g hg g (List.mem_append_right _ hm) rfl
      · exact n2 g hg g hm rfl)
    exact ⟨_, _, g1, g2, RVal.of_bool, rfl, rfl⟩⟩
theorem cLives (S : Sto) : ACalls Tryz.prog 12 [] S (RetQ (bD true) S) :=
  ACalls.liftq (callable Tryz.func12 rfl (by kernel_rfl)) fun w xs hS hx => by
    obtain rfl := hx.nil
    exact (lives_any w).mono fun e w' h => ⟨_, h.kp.1, h.kp.2, RVal.of_bool⟩

theorem perm_ac {α : Type} (a b c d e f : α) (l e1 e2 e3 e4 : List α) : (a :: b :: c :: d :: e :: f :: ((((l ++ e1) ++ e2) ++ e3) ++ e4)).Perm (e1 ++ (e3 ++ (a :: b :: c :: d :: e :: f :: ((l ++ e2) ++ e4)))) := by
  classical
  rw [List.perm_iff_count]
  intro x
  simp only [List.count_append, List.count_cons]
  omega
theorem sub_ac {α : Type} (a b c d e f : α) (l e1 e2 e3 e4 : List α) : (a :: b :: c :: d :: e :: f :: ((l ++ e2) ++ e4)).Sublist (a :: b :: c :: d :: e :: f :: ((((l ++ e1) ++ e2) ++ e3) ++ e4)) :=
  ((((((((((List.sublist_append_left l e1).append (List.Sublist.refl e2)).trans (List.sublist_append_left _ e3)).append (List.Sublist.refl e4)).cons_cons f).cons_cons e).cons_cons d).cons_cons c).cons_cons b).cons_cons a)
theorem looseP_few {pg : Bool} {w : Nat} {s : Bs} (hs : s.length ≤ 1048576) : NdFew (looseP pg w s) := by
  have h := looseN_len (kind := gv (takeP 1) 0 (some s)) (pg := pg) (w := w) (L := s.length) (gv (countP s.length) 0 (gr (takeP 1) (some s))) 0 (gr (countP s.length) (gr (takeP 1) (some s))) 0 ⟨[], [], []⟩ ⟨by simp, by simp, by simp, by simp, by simp, by simp⟩
  have hm := rest_le s.length s (some s)
  have hm : gv (countP s.length) 0 (gr (takeP 1) (some s)) ≤ s.length := by
    refine Nat.le_trans (rest_le s.length s _) ?_
    cases ho : gr (takeP 1) (some s) with
    | none => simp
    | some l =>
      unfold gr takeP at ho
      simp only [Option.bind_some] at ho
      split at ho
      · simp only [Option.map_some, Option.some.injEq] at ho; subst ho; simp
      · cases ho
  have a := h.np; have b := h.ns; have c := h.nk
  exact ⟨by unfold looseP; omega, by unfold looseP; omega, by unfold looseP; omega⟩
theorem noN_few : NdFew noN := ⟨by decide, by decide, by decide⟩
theorem unpack_ok {p wd : Int} {s : Bs} (hs : s.length ≤ 1048576) : NdOk ((unpackP p wd s).getD noN) ∧ NdFew ((unpackP p wd s).getD noN) := by
  cases hr : rightB p wd
  · rw [unpack_arg hr]; exact ⟨noN_ok, noN_few⟩
  · rw [unpack_loose hr (by omega)]
    split
    · exact ⟨looseP_ok (by omega), looseP_few hs⟩
    · exact ⟨noN_ok, noN_few⟩
theorem read_ok {p wd : Int} {s : Bs} (hs : s.length ≤ 1048576) : NdOk ((readP p wd s).getD noN) ∧ NdFew ((readP p wd s).getD noN) := by
  cases hr : rightB p wd
  · rw [read_arg hr]; exact ⟨noN_ok, noN_few⟩
  · rw [read_loose hr (by omega)]
    split
    · exact ⟨looseP_ok (by omega), looseP_few hs⟩
    · exact ⟨noN_ok, noN_few⟩

/-- NewN, told of a node and a code. -/
def NewM (n : Nd) (E : Int) (S : Sto) (d : D) (S' : Sto) : Prop :=
  ∃ pa sa ka pc sc kc, d = .tup [ndV pa sa ka pc sc kc n, iD E] ∧ S' = ⟨S.bk ++ entN pa sa ka pc sc kc n, S.ow⟩ ∧ NdIn (entN pa sa ka pc sc kc n) pa sa ka pc sc kc n


/-- What lies behind m is let go. -/
theorem AW.weakF {P : Program} {B : Bg} {Q : AX → List D → Sto → Prop} {A : List D} {S : Sto} {c : Code} (m : Nat) (sl : List Nat) (xs : List D) (weak : weakA A (frameL m sl A xs)) (h : AW P B c Q (frameL m sl A xs) S) : AW P B c Q A S := h.weak weak

set_option maxHeartbeats 1000000 in set_option maxRecDepth 100000 in
theorem unpacks_law (p wd : Int) (s : Bs) (S : Sto) (hs : s.length ≤ 1048576) :
    ACalls Tryz.prog 3 [frD p wd, sD s] S (RetQ (bD true) S) := by
  obtain ⟨o1, f1⟩ := unpack_ok (p := p) (wd := wd) hs
  obtain ⟨o2, f2⟩ := read_ok (p := p) (wd := wd) hs
  have c1 : ∀ S, ACalls Tryz.prog 6 [frD p wd, sD s] S (fun e S' => ∃ d, e = .ret d ∧ NewM ((unpackP p wd s).getD noN) (okE (unpackP p wd s) (unpackE p wd)) S d S') := fun S => (cUnpack p wd s S (by omega)).mono fun e S' ⟨d, he, pa, sa, ka, pc, sc, kc, h1, h2, h3, _⟩ => ⟨d, he, pa, sa, ka, pc, sc, kc, h1, h2, h3⟩
  have c2 : ∀ S, ACalls Tryz.prog 7 [frD p wd, sD s] S (fun e S' => ∃ d, e = .ret d ∧ NewM ((readP p wd s).getD noN) (okE (readP p wd s) (unpackE p wd)) S d S') := fun S => (cRead p wd s S (by omega)).mono fun e S' ⟨d, he, pa, sa, ka, pc, sc, kc, h1, h2, h3, _⟩ => ⟨d, he, pa, sa, ka, pc, sc, kc, h1, h2, h3⟩
  have c3 := fun S => aUnpack p wd s S (by omega)
  have c4 := fun S => aRead p wd s S (by omega)
  obtain ⟨E1, hE1⟩ : ∃ E, okE (unpackP p wd s) (unpackE p wd) = E := ⟨_, rfl⟩
  obtain ⟨E2, hE2⟩ : ∃ E, okE (readP p wd s) (unpackE p wd) = E := ⟨_, rfl⟩
  obtain ⟨N1, hN1⟩ : ∃ E, (unpackP p wd s).getD noN = E := ⟨_, rfl⟩
  obtain ⟨N2, hN2⟩ : ∃ E, (readP p wd s).getD noN = E := ⟨_, rfl⟩
  rw [hE1, hN1] at c3
  rw [hE2, hN2] at c4
  rw [hE1, hN1] at c1
  rw [hE2, hN2] at c2
  rw [hN1] at o1 f1
  rw [hN2] at o2 f2
  clear hE1 hE2 hN1 hN2
  have x1 : (E1 != E1) = false := bne_self_eq_false _
  have x2 : (E2 != E2) = false := bne_self_eq_false _
  have d1 : decide (N1 = N1) = true := decide_eq_true rfl
  have d2 : decide (N2 = N2) = true := decide_eq_true rfl
  have cs1 : ∀ {pa sa ka : Option Addr} {pc sc kc : Nat} (S : Sto) (h : NdIn S.bk pa sa ka pc sc kc N1), ACalls Tryz.prog 10 [ndV pa sa ka pc sc kc N1, ndA N1] S (RetQ (bD true) S) := fun S h => by have := cSame N1 S h o1 o1; rwa [d1] at this
  have cs2 : ∀ {pa sa ka : Option Addr} {pc sc kc : Nat} (S : Sto) (h : NdIn S.bk pa sa ka pc sc kc N2), ACalls Tryz.prog 10 [ndV pa sa ka pc sc kc N2, ndA N2] S (RetQ (bD true) S) := fun S h => by have := cSame N2 S h o2 o2; rwa [d2] at this
  refine acalls_of prg Tryz.func3 rfl (by kernel_rfl) (congrArg Array.toList Tryz.results3) Tryz.ntmps3 (fun B hB => ?_); simp only [List.length_cons, List.length_nil, Nat.reduceAdd, Nat.reduceSub, List.replicate_succ, List.replicate_zero, List.cons_append, List.nil_append]
  repeat (first | ((first | apply AOps.goP prg | apply ALex.goP prg); (case run => simp only [go_sem, Int.reduceEq, Int.reduceLT, Int.reduceBEq, Int.reduceBNe, Int.reduceNe, Nat.reduceLeDiff, Nat.reduceAdd, Nat.reduceSub, Nat.reduceLT, Nat.reduceEqDiff, Nat.reduceBEq, Int.reduceLE, Int.reduceToNat]; rfl); (case mm => simp only [go_sem, Int.reduceEq, Int.reduceLT, Int.reduceBEq, Int.reduceBNe, Int.reduceNe, Nat.reduceLeDiff, Nat.reduceAdd, Nat.reduceSub, Nat.reduceLT, Nat.reduceEqDiff, Nat.reduceBEq, Int.reduceLE, Int.reduceToNat]; rfl); (case pr => rfl)) | (refine AW.seq ?_) | (refine AW.region ?_) | (refine AW.draw prg (by kernel_rfl) ?_) | (refine AOps.nil ?_; try dsimp only [AX.then, AX.inBlock]) | (refine ALex.nil ?_; try dsimp only [AX.then, AX.inBlock]) | (refine AW.condT (by rfl) ?_) | (refine AW.condF (by rfl) ?_) | (refine AW.skip ?_; try dsimp only [AX.then, AX.inBlock]) | (refine AW.ret ?_; try dsimp only [AX.then, AX.inBlock]) | (refine AW.block ?_) | (refine AW.exit ?_; simp only [AX.then, AX.inBlock, if_true, Nat.reduceEqDiff, if_false]))
  refine AOps.callx (by rfl) (by rfl) (by exact (c1 _)) ?_
  rintro d S1 ⟨pa1, sa1, ka1, pc1, sc1, kc1, rfl, rfl, h1⟩
  repeat (first | ((first | apply AOps.goP prg | apply ALex.goP prg); (case run => simp only [go_sem, Int.reduceEq, Int.reduceLT, Int.reduceBEq, Int.reduceBNe, Int.reduceNe, Nat.reduceLeDiff, Nat.reduceAdd, Nat.reduceSub, Nat.reduceLT, Nat.reduceEqDiff, Nat.reduceBEq, Int.reduceLE, Int.reduceToNat]; rfl); (case mm => simp only [go_sem, Int.reduceEq, Int.reduceLT, Int.reduceBEq, Int.reduceBNe, Int.reduceNe, Nat.reduceLeDiff, Nat.reduceAdd, Nat.reduceSub, Nat.reduceLT, Nat.reduceEqDiff, Nat.reduceBEq, Int.reduceLE, Int.reduceToNat]; rfl); (case pr => rfl)) | (refine AW.seq ?_) | (refine AW.region ?_) | (refine AW.draw prg (by kernel_rfl) ?_) | (refine AOps.nil ?_; try dsimp only [AX.then, AX.inBlock]) | (refine ALex.nil ?_; try dsimp only [AX.then, AX.inBlock]) | (refine AW.condT (by rfl) ?_) | (refine AW.condF (by rfl) ?_) | (refine AW.skip ?_; try dsimp only [AX.then, AX.inBlock]) | (refine AW.ret ?_; try dsimp only [AX.then, AX.inBlock]) | (refine AW.block ?_) | (refine AW.exit ?_; simp only [AX.then, AX.inBlock, if_true, Nat.reduceEqDiff, if_false]))
  refine AOps.alloc prg (by rfl) (by rfl) (by rfl) (by rfl) ?_; rintro b5 ⟨k_b5, o_b5⟩; (try simp only [List.map_cons, List.mem_cons, not_or] at k_b5)
  repeat (first | ((first | apply AOps.goP prg | apply ALex.goP prg); (case run => simp only [go_sem, Int.reduceEq, Int.reduceLT, Int.reduceBEq, Int.reduceBNe, Int.reduceNe, Nat.reduceLeDiff, Nat.reduceAdd, Nat.reduceSub, Nat.reduceLT, Nat.reduceEqDiff, Nat.reduceBEq, Int.reduceLE, Int.reduceToNat]; rfl); (case mm => simp only [go_sem, Int.reduceEq, Int.reduceLT, Int.reduceBEq, Int.reduceBNe, Int.reduceNe, Nat.reduceLeDiff, Nat.reduceAdd, Nat.reduceSub, Nat.reduceLT, Nat.reduceEqDiff, Nat.reduceBEq, Int.reduceLE, Int.reduceToNat]; rfl); (case pr => rfl)) | (refine AW.seq ?_) | (refine AW.region ?_) | (refine AW.draw prg (by kernel_rfl) ?_) | (refine AOps.nil ?_; try dsimp only [AX.then, AX.inBlock]) | (refine ALex.nil ?_; try dsimp only [AX.then, AX.inBlock]) | (refine AW.condT (by rfl) ?_) | (refine AW.condF (by rfl) ?_) | (refine AW.skip ?_; try dsimp only [AX.then, AX.inBlock]) | (refine AW.ret ?_; try dsimp only [AX.then, AX.inBlock]) | (refine AW.block ?_) | (refine AW.exit ?_; simp only [AX.then, AX.inBlock, if_true, Nat.reduceEqDiff, if_false]))
  refine AOps.callx (by rfl) (by rfl) (by exact (c1 _)) ?_
  rintro d S1 ⟨pa2, sa2, ka2, pc2, sc2, kc2, rfl, rfl, h2⟩
  repeat (first | ((first | apply AOps.goP prg | apply ALex.goP prg); (case run => simp only [go_sem, Int.reduceEq, Int.reduceLT, Int.reduceBEq, Int.reduceBNe, Int.reduceNe, Nat.reduceLeDiff, Nat.reduceAdd, Nat.reduceSub, Nat.reduceLT, Nat.reduceEqDiff, Nat.reduceBEq, Int.reduceLE, Int.reduceToNat, k_b5]; rfl); (case mm => simp only [go_sem, Int.reduceEq, Int.reduceLT, Int.reduceBEq, Int.reduceBNe, Int.reduceNe, Nat.reduceLeDiff, Nat.reduceAdd, Nat.reduceSub, Nat.reduceLT, Nat.reduceEqDiff, Nat.reduceBEq, Int.reduceLE, Int.reduceToNat]; rfl); (case pr => rfl)) | (refine AW.seq ?_) | (refine AW.region ?_) | (refine AW.draw prg (by kernel_rfl) ?_) | (refine AOps.nil ?_; try dsimp only [AX.then, AX.inBlock]) | (refine ALex.nil ?_; try dsimp only [AX.then, AX.inBlock]) | (refine AW.condT (by rfl) ?_) | (refine AW.condF (by rfl) ?_) | (refine AW.skip ?_; try dsimp only [AX.then, AX.inBlock]) | (refine AW.ret ?_; try dsimp only [AX.then, AX.inBlock]) | (refine AW.block ?_) | (refine AW.exit ?_; simp only [AX.then, AX.inBlock, if_true, Nat.reduceEqDiff, if_false]))
  refine AOps.alloc prg (by rfl) (by rfl) (by rfl) (by rfl) ?_; rintro b7 ⟨k_b7, o_b7⟩; (try simp only [List.map_cons, List.mem_cons, not_or] at k_b7)
  have m57 := nes k_b7.1
  repeat (first | ((first | apply AOps.goP prg | apply ALex.goP prg); (case run => simp only [go_sem, Int.reduceEq, Int.reduceLT, Int.reduceBEq, Int.reduceBNe, Int.reduceNe, Nat.reduceLeDiff, Nat.reduceAdd, Nat.reduceSub, Nat.reduceLT, Nat.reduceEqDiff, Nat.reduceBEq, Int.reduceLE, Int.reduceToNat, k_b7, m57]; rfl); (case mm => simp only [go_sem, Int.reduceEq, Int.reduceLT, Int.reduceBEq, Int.reduceBNe, Int.reduceNe, Nat.reduceLeDiff, Nat.reduceAdd, Nat.reduceSub, Nat.reduceLT, Nat.reduceEqDiff, Nat.reduceBEq, Int.reduceLE, Int.reduceToNat]; rfl); (case pr => rfl)) | (refine AW.seq ?_) | (refine AW.region ?_) | (refine AW.draw prg (by kernel_rfl) ?_) | (refine AOps.nil ?_; try dsimp only [AX.then, AX.inBlock]) | (refine ALex.nil ?_; try dsimp only [AX.then, AX.inBlock]) | (refine AW.condT (by rfl) ?_) | (refine AW.condF (by rfl) ?_) | (refine AW.skip ?_; try dsimp only [AX.then, AX.inBlock]) | (refine AW.ret ?_; try dsimp only [AX.then, AX.inBlock]) | (refine AW.block ?_) | (refine AW.exit ?_; simp only [AX.then, AX.inBlock, if_true, Nat.reduceEqDiff, if_false]))
  refine AOps.callx (by rfl) (by rfl) (by exact (c2 _)) ?_
  rintro d S1 ⟨pa3, sa3, ka3, pc3, sc3, kc3, rfl, rfl, h3⟩
  repeat (first | ((first | apply AOps.goP prg | apply ALex.goP prg); (case run => simp only [go_sem, Int.reduceEq, Int.reduceLT, Int.reduceBEq, Int.reduceBNe, Int.reduceNe, Nat.reduceLeDiff, Nat.reduceAdd, Nat.reduceSub, Nat.reduceLT, Nat.reduceEqDiff, Nat.reduceBEq, Int.reduceLE, Int.reduceToNat, k_b7, m57]; rfl); (case mm => simp only [go_sem, Int.reduceEq, Int.reduceLT, Int.reduceBEq, Int.reduceBNe, Int.reduceNe, Nat.reduceLeDiff, Nat.reduceAdd, Nat.reduceSub, Nat.reduceLT, Nat.reduceEqDiff, Nat.reduceBEq, Int.reduceLE, Int.reduceToNat]; rfl); (case pr => rfl)) | (refine AW.seq ?_) | (refine AW.region ?_) | (refine AW.draw prg (by kernel_rfl) ?_) | (refine AOps.nil ?_; try dsimp only [AX.then, AX.inBlock]) | (refine ALex.nil ?_; try dsimp only [AX.then, AX.inBlock]) | (refine AW.condT (by rfl) ?_) | (refine AW.condF (by rfl) ?_) | (refine AW.skip ?_; try dsimp only [AX.then, AX.inBlock]) | (refine AW.ret ?_; try dsimp only [AX.then, AX.inBlock]) | (refine AW.block ?_) | (refine AW.exit ?_; simp only [AX.then, AX.inBlock, if_true, Nat.reduceEqDiff, if_false]))
  refine AOps.alloc prg (by rfl) (by rfl) (by rfl) (by rfl) ?_; rintro b9 ⟨k_b9, o_b9⟩; (try simp only [List.map_cons, List.mem_cons, not_or] at k_b9)
  have n9a := nes k_b9.1
  have n9b := nes k_b9.2.1
  repeat (first | ((first | apply AOps.goP prg | apply ALex.goP prg); (case run => simp only [go_sem, Int.reduceEq, Int.reduceLT, Int.reduceBEq, Int.reduceBNe, Int.reduceNe, Nat.reduceLeDiff, Nat.reduceAdd, Nat.reduceSub, Nat.reduceLT, Nat.reduceEqDiff, Nat.reduceBEq, Int.reduceLE, Int.reduceToNat, k_b9, n9a, n9b]; rfl); (case mm => simp only [go_sem, Int.reduceEq, Int.reduceLT, Int.reduceBEq, Int.reduceBNe, Int.reduceNe, Nat.reduceLeDiff, Nat.reduceAdd, Nat.reduceSub, Nat.reduceLT, Nat.reduceEqDiff, Nat.reduceBEq, Int.reduceLE, Int.reduceToNat]; rfl); (case pr => rfl)) | (refine AW.seq ?_) | (refine AW.region ?_) | (refine AW.draw prg (by kernel_rfl) ?_) | (refine AOps.nil ?_; try dsimp only [AX.then, AX.inBlock]) | (refine ALex.nil ?_; try dsimp only [AX.then, AX.inBlock]) | (refine AW.condT (by rfl) ?_) | (refine AW.condF (by rfl) ?_) | (refine AW.skip ?_; try dsimp only [AX.then, AX.inBlock]) | (refine AW.ret ?_; try dsimp only [AX.then, AX.inBlock]) | (refine AW.block ?_) | (refine AW.exit ?_; simp only [AX.then, AX.inBlock, if_true, Nat.reduceEqDiff, if_false]))
  refine AOps.callx (by rfl) (by rfl) (by exact (c2 _)) ?_
  rintro d S1 ⟨pa4, sa4, ka4, pc4, sc4, kc4, rfl, rfl, h4⟩
  repeat (first | ((first | apply AOps.goP prg | apply ALex.goP prg); (case run => simp only [go_sem, Int.reduceEq, Int.reduceLT, Int.reduceBEq, Int.reduceBNe, Int.reduceNe, Nat.reduceLeDiff, Nat.reduceAdd, Nat.reduceSub, Nat.reduceLT, Nat.reduceEqDiff, Nat.reduceBEq, Int.reduceLE, Int.reduceToNat, k_b9, n9a, n9b]; rfl); (case mm => simp only [go_sem, Int.reduceEq, Int.reduceLT, Int.reduceBEq, Int.reduceBNe, Int.reduceNe, Nat.reduceLeDiff, Nat.reduceAdd, Nat.reduceSub, Nat.reduceLT, Nat.reduceEqDiff, Nat.reduceBEq, Int.reduceLE, Int.reduceToNat]; rfl); (case pr => rfl)) | (refine AW.seq ?_) | (refine AW.region ?_) | (refine AW.draw prg (by kernel_rfl) ?_) | (refine AOps.nil ?_; try dsimp only [AX.then, AX.inBlock]) | (refine ALex.nil ?_; try dsimp only [AX.then, AX.inBlock]) | (refine AW.condT (by rfl) ?_) | (refine AW.condF (by rfl) ?_) | (refine AW.skip ?_; try dsimp only [AX.then, AX.inBlock]) | (refine AW.ret ?_; try dsimp only [AX.then, AX.inBlock]) | (refine AW.block ?_) | (refine AW.exit ?_; simp only [AX.then, AX.inBlock, if_true, Nat.reduceEqDiff, if_false]))
  refine AOps.alloc prg (by rfl) (by rfl) (by rfl) (by rfl) ?_; rintro b11 ⟨k_b11, o_b11⟩; (try simp only [List.map_cons, List.mem_cons, not_or] at k_b11)
  have n11a := nes k_b11.1
  have n11b := nes k_b11.2.1
  have n11c := nes k_b11.2.2.1
  repeat (first | ((first | apply AOps.goP prg | apply ALex.goP prg); (case run => simp only [go_sem, Int.reduceEq, Int.reduceLT, Int.reduceBEq, Int.reduceBNe, Int.reduceNe, Nat.reduceLeDiff, Nat.reduceAdd, Nat.reduceSub, Nat.reduceLT, Nat.reduceEqDiff, Nat.reduceBEq, Int.reduceLE, Int.reduceToNat, k_b11, n11a, n11b, n11c]; rfl); (case mm => simp only [go_sem, Int.reduceEq, Int.reduceLT, Int.reduceBEq, Int.reduceBNe, Int.reduceNe, Nat.reduceLeDiff, Nat.reduceAdd, Nat.reduceSub, Nat.reduceLT, Nat.reduceEqDiff, Nat.reduceBEq, Int.reduceLE, Int.reduceToNat]; rfl); (case pr => rfl)) | (refine AW.seq ?_) | (refine AW.region ?_) | (refine AW.draw prg (by kernel_rfl) ?_) | (refine AOps.nil ?_; try dsimp only [AX.then, AX.inBlock]) | (refine ALex.nil ?_; try dsimp only [AX.then, AX.inBlock]) | (refine AW.condT (by rfl) ?_) | (refine AW.condF (by rfl) ?_) | (refine AW.skip ?_; try dsimp only [AX.then, AX.inBlock]) | (refine AW.ret ?_; try dsimp only [AX.then, AX.inBlock]) | (refine AW.block ?_) | (refine AW.exit ?_; simp only [AX.then, AX.inBlock, if_true, Nat.reduceEqDiff, if_false]))
  (first | refine AOps.callq (by rfl) (by rfl) (by exact (c3 _)) ?_ | refine ALex.callq (by rfl) (by rfl) (by exact (c3 _)) ?_)
  repeat (first | ((first | apply AOps.goP prg | apply ALex.goP prg); (case run => simp only [go_sem, Int.reduceEq, Int.reduceLT, Int.reduceBEq, Int.reduceBNe, Int.reduceNe, Nat.reduceLeDiff, Nat.reduceAdd, Nat.reduceSub, Nat.reduceLT, Nat.reduceEqDiff, Nat.reduceBEq, Int.reduceLE, Int.reduceToNat, k_b11, n11a, n11b, n11c]; rfl); (case mm => simp only [go_sem, Int.reduceEq, Int.reduceLT, Int.reduceBEq, Int.reduceBNe, Int.reduceNe, Nat.reduceLeDiff, Nat.reduceAdd, Nat.reduceSub, Nat.reduceLT, Nat.reduceEqDiff, Nat.reduceBEq, Int.reduceLE, Int.reduceToNat]; rfl); (case pr => rfl)) | (refine AW.seq ?_) | (refine AW.region ?_) | (refine AW.draw prg (by kernel_rfl) ?_) | (refine AOps.nil ?_; try dsimp only [AX.then, AX.inBlock]) | (refine ALex.nil ?_; try dsimp only [AX.then, AX.inBlock]) | (refine AW.condT (by rfl) ?_) | (refine AW.condF (by rfl) ?_) | (refine AW.skip ?_; try dsimp only [AX.then, AX.inBlock]) | (refine AW.ret ?_; try dsimp only [AX.then, AX.inBlock]) | (refine AW.block ?_) | (refine AW.exit ?_; simp only [AX.then, AX.inBlock, if_true, Nat.reduceEqDiff, if_false]))
  refine AOps.alloc prg (by rfl) (by rfl) (by rfl) (by rfl) ?_; rintro b13 ⟨k_b13, o_b13⟩; (try simp only [List.map_cons, List.mem_cons, not_or] at k_b13)
  have n13a := nes k_b13.1
  have n13b := nes k_b13.2.1
  have n13c := nes k_b13.2.2.1
  have n13d := nes k_b13.2.2.2.1
  repeat (first | ((first | apply AOps.goP prg | apply ALex.goP prg); (case run => simp only [go_sem, Int.reduceEq, Int.reduceLT, Int.reduceBEq, Int.reduceBNe, Int.reduceNe, Nat.reduceLeDiff, Nat.reduceAdd, Nat.reduceSub, Nat.reduceLT, Nat.reduceEqDiff, Nat.reduceBEq, Int.reduceLE, Int.reduceToNat, k_b13, n13a, n13b, n13c, n13d]; rfl); (case mm => simp only [go_sem, Int.reduceEq, Int.reduceLT, Int.reduceBEq, Int.reduceBNe, Int.reduceNe, Nat.reduceLeDiff, Nat.reduceAdd, Nat.reduceSub, Nat.reduceLT, Nat.reduceEqDiff, Nat.reduceBEq, Int.reduceLE, Int.reduceToNat]; rfl); (case pr => rfl)) | (refine AW.seq ?_) | (refine AW.region ?_) | (refine AW.draw prg (by kernel_rfl) ?_) | (refine AOps.nil ?_; try dsimp only [AX.then, AX.inBlock]) | (refine ALex.nil ?_; try dsimp only [AX.then, AX.inBlock]) | (refine AW.condT (by rfl) ?_) | (refine AW.condF (by rfl) ?_) | (refine AW.skip ?_; try dsimp only [AX.then, AX.inBlock]) | (refine AW.ret ?_; try dsimp only [AX.then, AX.inBlock]) | (refine AW.block ?_) | (refine AW.exit ?_; simp only [AX.then, AX.inBlock, if_true, Nat.reduceEqDiff, if_false]))
  (first | refine AOps.callq (by rfl) (by rfl) (by exact (c4 _)) ?_ | refine ALex.callq (by rfl) (by rfl) (by exact (c4 _)) ?_)
  repeat (first | ((first | apply AOps.goP prg | apply ALex.goP prg); (case run => simp only [go_sem, Int.reduceEq, Int.reduceLT, Int.reduceBEq, Int.reduceBNe, Int.reduceNe, Nat.reduceLeDiff, Nat.reduceAdd, Nat.reduceSub, Nat.reduceLT, Nat.reduceEqDiff, Nat.reduceBEq, Int.reduceLE, Int.reduceToNat, k_b13, n13a, n13b, n13c, n13d]; rfl); (case mm => simp only [go_sem, Int.reduceEq, Int.reduceLT, Int.reduceBEq, Int.reduceBNe, Int.reduceNe, Nat.reduceLeDiff, Nat.reduceAdd, Nat.reduceSub, Nat.reduceLT, Nat.reduceEqDiff, Nat.reduceBEq, Int.reduceLE, Int.reduceToNat]; rfl); (case pr => rfl)) | (refine AW.seq ?_) | (refine AW.region ?_) | (refine AW.draw prg (by kernel_rfl) ?_) | (refine AOps.nil ?_; try dsimp only [AX.then, AX.inBlock]) | (refine ALex.nil ?_; try dsimp only [AX.then, AX.inBlock]) | (refine AW.condT (by rfl) ?_) | (refine AW.condF (by rfl) ?_) | (refine AW.skip ?_; try dsimp only [AX.then, AX.inBlock]) | (refine AW.ret ?_; try dsimp only [AX.then, AX.inBlock]) | (refine AW.block ?_) | (refine AW.exit ?_; simp only [AX.then, AX.inBlock, if_true, Nat.reduceEqDiff, if_false]))
  refine AOps.alloc prg (by rfl) (by rfl) (by rfl) (by rfl) ?_; rintro b15 ⟨k_b15, o_b15⟩; (try simp only [List.map_cons, List.mem_cons, not_or] at k_b15)
  have n15a := nes k_b15.1
  have n15b := nes k_b15.2.1
  have n15c := nes k_b15.2.2.1
  have n15d := nes k_b15.2.2.2.1
  have n15e := nes k_b15.2.2.2.2.1
  clear o_b5 o_b7 o_b9 o_b11 o_b13 o_b15
  repeat ((first | apply AOps.goP prg | apply ALex.goP prg); (case run => simp only [go_sem, Int.reduceEq, Int.reduceLT, Int.reduceBEq, Int.reduceBNe, Int.reduceNe, Nat.reduceLeDiff, Nat.reduceAdd, Nat.reduceSub, Nat.reduceLT, Nat.reduceEqDiff, Nat.reduceBEq, Int.reduceLE, Int.reduceToNat, k_b15, n15a, n15b, n15c, n15d, n15e, k_b13, n13a, n13b, n13c, n13d, k_b11, n11a, n11b, n11c, k_b9, n9a, n9b, k_b7, m57, x1, x2]; rfl); (case mm => simp only [go_sem, Int.reduceEq, Int.reduceLT, Int.reduceBEq, Int.reduceBNe, Int.reduceNe, Nat.reduceLeDiff, Nat.reduceAdd, Nat.reduceSub, Nat.reduceLT, Nat.reduceEqDiff, Nat.reduceBEq, Int.reduceLE, Int.reduceToNat]; rfl); (case pr => rfl))
  refine AOps.nil ?_; dsimp only [AX.then, AX.inBlock]
  refine AW.weakF 21 [] [] ?_ ?_
  · simp only [go_sem, Int.reduceEq, Int.reduceLT, Int.reduceBEq, Int.reduceBNe, Int.reduceNe, Nat.reduceLeDiff, Nat.reduceAdd, Nat.reduceSub, Nat.reduceLT, Nat.reduceEqDiff, Nat.reduceBEq, Int.reduceLE, Int.reduceToNat, weakA, or_true, true_or, and_self]
  apply AW.frame; case fr => (simp only [go_sem, Int.reduceEq, Int.reduceLT, Int.reduceBEq, Int.reduceBNe, Int.reduceNe, Nat.reduceLeDiff, Nat.reduceAdd, Nat.reduceSub, Nat.reduceLT, Nat.reduceEqDiff, Nat.reduceBEq, Int.reduceLE, Int.reduceToNat]; rfl)
  repeat (first | ((first | apply AOps.goP prg | apply ALex.goP prg); (case run => simp only [go_sem, Int.reduceEq, Int.reduceLT, Int.reduceBEq, Int.reduceBNe, Int.reduceNe, Nat.reduceLeDiff, Nat.reduceAdd, Nat.reduceSub, Nat.reduceLT, Nat.reduceEqDiff, Nat.reduceBEq, Int.reduceLE, Int.reduceToNat, k_b15, n15a, n15b, n15c, n15d, n15e, k_b13, n13a, n13b, n13c, n13d, k_b11, n11a, n11b, n11c, k_b9, n9a, n9b, k_b7, m57, x1, x2]; rfl); (case mm => simp only [go_sem, Int.reduceEq, Int.reduceLT, Int.reduceBEq, Int.reduceBNe, Int.reduceNe, Nat.reduceLeDiff, Nat.reduceAdd, Nat.reduceSub, Nat.reduceLT, Nat.reduceEqDiff, Nat.reduceBEq, Int.reduceLE, Int.reduceToNat]; rfl); (case pr => rfl)) | (refine AW.seq ?_) | (refine AW.region ?_) | (refine AW.draw prg (by kernel_rfl) ?_) | (refine AOps.nil ?_; try dsimp only [AX.then, AX.inBlock]) | (refine ALex.nil ?_; try dsimp only [AX.then, AX.inBlock]) | (refine AW.condT (by rfl) ?_) | (refine AW.condF (by rfl) ?_) | (refine AW.skip ?_; try dsimp only [AX.then, AX.inBlock]) | (refine AW.ret ?_; try dsimp only [AX.then, AX.inBlock]) | (refine AW.block ?_) | (refine AW.exit ?_; simp only [AX.then, AX.inBlock, if_true, Nat.reduceEqDiff, if_false]))
  (first | refine AOps.callq (by rfl) (by rfl) (by exact (cs1 _ (by (refine NdIn.sub ‹_› ?_; intro x hx; simp only [List.mem_cons, List.mem_append]; simp only [hx, true_or, or_true])))) ?_ | refine ALex.callq (by rfl) (by rfl) (by exact (cs1 _ (by (refine NdIn.sub ‹_› ?_; intro x hx; simp only [List.mem_cons, List.mem_append]; simp only [hx, true_or, or_true])))) ?_)
  repeat (first | ((first | apply AOps.goP prg | apply ALex.goP prg); (case run => simp only [go_sem, Int.reduceEq, Int.reduceLT, Int.reduceBEq, Int.reduceBNe, Int.reduceNe, Nat.reduceLeDiff, Nat.reduceAdd, Nat.reduceSub, Nat.reduceLT, Nat.reduceEqDiff, Nat.reduceBEq, Int.reduceLE, Int.reduceToNat, k_b15, n15a, n15b, n15c, n15d, n15e, k_b13, n13a, n13b, n13c, n13d, k_b11, n11a, n11b, n11c, k_b9, n9a, n9b, k_b7, m57, x1, x2]; rfl); (case mm => simp only [go_sem, Int.reduceEq, Int.reduceLT, Int.reduceBEq, Int.reduceBNe, Int.reduceNe, Nat.reduceLeDiff, Nat.reduceAdd, Nat.reduceSub, Nat.reduceLT, Nat.reduceEqDiff, Nat.reduceBEq, Int.reduceLE, Int.reduceToNat]; rfl); (case pr => rfl)) | (refine AW.seq ?_) | (refine AW.region ?_) | (refine AW.draw prg (by kernel_rfl) ?_) | (refine AOps.nil ?_; try dsimp only [AX.then, AX.inBlock]) | (refine ALex.nil ?_; try dsimp only [AX.then, AX.inBlock]) | (refine AW.condT (by rfl) ?_) | (refine AW.condF (by rfl) ?_) | (refine AW.skip ?_; try dsimp only [AX.then, AX.inBlock]) | (refine AW.ret ?_; try dsimp only [AX.then, AX.inBlock]) | (refine AW.block ?_) | (refine AW.exit ?_; simp only [AX.then, AX.inBlock, if_true, Nat.reduceEqDiff, if_false]))
  (first | refine AOps.callq (by rfl) (by rfl) (by exact (cs1 _ (by (refine NdIn.sub ‹_› ?_; intro x hx; simp only [List.mem_cons, List.mem_append]; simp only [hx, true_or, or_true])))) ?_ | refine ALex.callq (by rfl) (by rfl) (by exact (cs1 _ (by (refine NdIn.sub ‹_› ?_; intro x hx; simp only [List.mem_cons, List.mem_append]; simp only [hx, true_or, or_true])))) ?_)
  repeat (first | ((first | apply AOps.goP prg | apply ALex.goP prg); (case run => simp only [go_sem, Int.reduceEq, Int.reduceLT, Int.reduceBEq, Int.reduceBNe, Int.reduceNe, Nat.reduceLeDiff, Nat.reduceAdd, Nat.reduceSub, Nat.reduceLT, Nat.reduceEqDiff, Nat.reduceBEq, Int.reduceLE, Int.reduceToNat, k_b15, n15a, n15b, n15c, n15d, n15e, k_b13, n13a, n13b, n13c, n13d, k_b11, n11a, n11b, n11c, k_b9, n9a, n9b, k_b7, m57, x1, x2]; rfl); (case mm => simp only [go_sem, Int.reduceEq, Int.reduceLT, Int.reduceBEq, Int.reduceBNe, Int.reduceNe, Nat.reduceLeDiff, Nat.reduceAdd, Nat.reduceSub, Nat.reduceLT, Nat.reduceEqDiff, Nat.reduceBEq, Int.reduceLE, Int.reduceToNat]; rfl); (case pr => rfl)) | (refine AW.seq ?_) | (refine AW.region ?_) | (refine AW.draw prg (by kernel_rfl) ?_) | (refine AOps.nil ?_; try dsimp only [AX.then, AX.inBlock]) | (refine ALex.nil ?_; try dsimp only [AX.then, AX.inBlock]) | (refine AW.condT (by rfl) ?_) | (refine AW.condF (by rfl) ?_) | (refine AW.skip ?_; try dsimp only [AX.then, AX.inBlock]) | (refine AW.ret ?_; try dsimp only [AX.then, AX.inBlock]) | (refine AW.block ?_) | (refine AW.exit ?_; simp only [AX.then, AX.inBlock, if_true, Nat.reduceEqDiff, if_false]))
  (first | refine AOps.callq (by rfl) (by rfl) (by exact (cs2 _ (by (refine NdIn.sub ‹_› ?_; intro x hx; simp only [List.mem_cons, List.mem_append]; simp only [hx, true_or, or_true])))) ?_ | refine ALex.callq (by rfl) (by rfl) (by exact (cs2 _ (by (refine NdIn.sub ‹_› ?_; intro x hx; simp only [List.mem_cons, List.mem_append]; simp only [hx, true_or, or_true])))) ?_)
  repeat (first | ((first | apply AOps.goP prg | apply ALex.goP prg); (case run => simp only [go_sem, Int.reduceEq, Int.reduceLT, Int.reduceBEq, Int.reduceBNe, Int.reduceNe, Nat.reduceLeDiff, Nat.reduceAdd, Nat.reduceSub, Nat.reduceLT, Nat.reduceEqDiff, Nat.reduceBEq, Int.reduceLE, Int.reduceToNat, k_b15, n15a, n15b, n15c, n15d, n15e, k_b13, n13a, n13b, n13c, n13d, k_b11, n11a, n11b, n11c, k_b9, n9a, n9b, k_b7, m57, x1, x2]; rfl); (case mm => simp only [go_sem, Int.reduceEq, Int.reduceLT, Int.reduceBEq, Int.reduceBNe, Int.reduceNe, Nat.reduceLeDiff, Nat.reduceAdd, Nat.reduceSub, Nat.reduceLT, Nat.reduceEqDiff, Nat.reduceBEq, Int.reduceLE, Int.reduceToNat]; rfl); (case pr => rfl)) | (refine AW.seq ?_) | (refine AW.region ?_) | (refine AW.draw prg (by kernel_rfl) ?_) | (refine AOps.nil ?_; try dsimp only [AX.then, AX.inBlock]) | (refine ALex.nil ?_; try dsimp only [AX.then, AX.inBlock]) | (refine AW.condT (by rfl) ?_) | (refine AW.condF (by rfl) ?_) | (refine AW.skip ?_; try dsimp only [AX.then, AX.inBlock]) | (refine AW.ret ?_; try dsimp only [AX.then, AX.inBlock]) | (refine AW.block ?_) | (refine AW.exit ?_; simp only [AX.then, AX.inBlock, if_true, Nat.reduceEqDiff, if_false]))
  (first | refine AOps.callq (by rfl) (by rfl) (by exact (cs2 _ (by (refine NdIn.sub ‹_› ?_; intro x hx; simp only [List.mem_cons, List.mem_append]; simp only [hx, true_or, or_true])))) ?_ | refine ALex.callq (by rfl) (by rfl) (by exact (cs2 _ (by (refine NdIn.sub ‹_› ?_; intro x hx; simp only [List.mem_cons, List.mem_append]; simp only [hx, true_or, or_true])))) ?_)
  repeat ((first | apply AOps.goP prg | apply ALex.goP prg); (case run => simp only [go_sem, Int.reduceEq, Int.reduceLT, Int.reduceBEq, Int.reduceBNe, Int.reduceNe, Nat.reduceLeDiff, Nat.reduceAdd, Nat.reduceSub, Nat.reduceLT, Nat.reduceEqDiff, Nat.reduceBEq, Int.reduceLE, Int.reduceToNat, k_b15, n15a, n15b, n15c, n15d, n15e, k_b13, n13a, n13b, n13c, n13d, k_b11, n11a, n11b, n11c, k_b9, n9a, n9b, k_b7, m57, x1, x2]; rfl); (case mm => simp only [go_sem, Int.reduceEq, Int.reduceLT, Int.reduceBEq, Int.reduceBNe, Int.reduceNe, Nat.reduceLeDiff, Nat.reduceAdd, Nat.reduceSub, Nat.reduceLT, Nat.reduceEqDiff, Nat.reduceBEq, Int.reduceLE, Int.reduceToNat]; rfl); (case pr => rfl))
  refine AOps.nil ?_; dsimp only [AX.then, AX.inBlock]
  refine AW.weakF 21 [98] [.v (.bool false)] ?_ ?_
  · simp only [go_sem, Int.reduceEq, Int.reduceLT, Int.reduceBEq, Int.reduceBNe, Int.reduceNe, Nat.reduceLeDiff, Nat.reduceAdd, Nat.reduceSub, Nat.reduceLT, Nat.reduceEqDiff, Nat.reduceBEq, Int.reduceLE, Int.reduceToNat, weakA, or_true, true_or, and_self]
  apply AW.frame; case fr => (simp only [go_sem, Int.reduceEq, Int.reduceLT, Int.reduceBEq, Int.reduceBNe, Int.reduceNe, Nat.reduceLeDiff, Nat.reduceAdd, Nat.reduceSub, Nat.reduceLT, Nat.reduceEqDiff, Nat.reduceBEq, Int.reduceLE, Int.reduceToNat]; rfl)
  repeat (first | ((first | apply AOps.goP prg | apply ALex.goP prg); (case run => simp only [go_sem, Int.reduceEq, Int.reduceLT, Int.reduceBEq, Int.reduceBNe, Int.reduceNe, Nat.reduceLeDiff, Nat.reduceAdd, Nat.reduceSub, Nat.reduceLT, Nat.reduceEqDiff, Nat.reduceBEq, Int.reduceLE, Int.reduceToNat, k_b15, n15a, n15b, n15c, n15d, n15e, k_b13, n13a, n13b, n13c, n13d, k_b11, n11a, n11b, n11c, k_b9, n9a, n9b, k_b7, m57, x1, x2]; rfl); (case mm => simp only [go_sem, Int.reduceEq, Int.reduceLT, Int.reduceBEq, Int.reduceBNe, Int.reduceNe, Nat.reduceLeDiff, Nat.reduceAdd, Nat.reduceSub, Nat.reduceLT, Nat.reduceEqDiff, Nat.reduceBEq, Int.reduceLE, Int.reduceToNat]; rfl); (case pr => rfl)) | (refine AW.seq ?_) | (refine AW.region ?_) | (refine AW.draw prg (by kernel_rfl) ?_) | (refine AOps.nil ?_; try dsimp only [AX.then, AX.inBlock]) | (refine ALex.nil ?_; try dsimp only [AX.then, AX.inBlock]) | (refine AW.condT (by rfl) ?_) | (refine AW.condF (by rfl) ?_) | (refine AW.skip ?_; try dsimp only [AX.then, AX.inBlock]) | (refine AW.ret ?_; try dsimp only [AX.then, AX.inBlock]) | (refine AW.block ?_) | (refine AW.exit ?_; simp only [AX.then, AX.inBlock, if_true, Nat.reduceEqDiff, if_false]))
  (first | refine AOps.callq (by rfl) (by rfl) (by exact (cApart _ ⟨(b15, _, _) :: (b13, _, _) :: (b11, _, _) :: (b9, _, _) :: (b7, _, _) :: (b5, _, _) :: ((S.bk ++ entN pa2 sa2 ka2 pc2 sc2 kc2 N1) ++ entN pa4 sa4 ka4 pc4 sc4 kc4 N2), _⟩ h1 h3 f1 f2 (perm_ac _ _ _ _ _ _ _ _ _ _ _) ⟨sub_ac _ _ _ _ _ _ _ _ _ _ _, List.Sublist.refl _⟩)) ?_ | refine ALex.callq (by rfl) (by rfl) (by exact (cApart _ ⟨(b15, _, _) :: (b13, _, _) :: (b11, _, _) :: (b9, _, _) :: (b7, _, _) :: (b5, _, _) :: ((S.bk ++ entN pa2 sa2 ka2 pc2 sc2 kc2 N1) ++ entN pa4 sa4 ka4 pc4 sc4 kc4 N2), _⟩ h1 h3 f1 f2 (perm_ac _ _ _ _ _ _ _ _ _ _ _) ⟨sub_ac _ _ _ _ _ _ _ _ _ _ _, List.Sublist.refl _⟩)) ?_)
  repeat (first | ((first | apply AOps.goP prg | apply ALex.goP prg); (case run => simp only [go_sem, Int.reduceEq, Int.reduceLT, Int.reduceBEq, Int.reduceBNe, Int.reduceNe, Nat.reduceLeDiff, Nat.reduceAdd, Nat.reduceSub, Nat.reduceLT, Nat.reduceEqDiff, Nat.reduceBEq, Int.reduceLE, Int.reduceToNat, k_b15, n15a, n15b, n15c, n15d, n15e, k_b13, n13a, n13b, n13c, n13d, k_b11, n11a, n11b, n11c, k_b9, n9a, n9b, k_b7, m57, x1, x2]; rfl); (case mm => simp only [go_sem, Int.reduceEq, Int.reduceLT, Int.reduceBEq, Int.reduceBNe, Int.reduceNe, Nat.reduceLeDiff, Nat.reduceAdd, Nat.reduceSub, Nat.reduceLT, Nat.reduceEqDiff, Nat.reduceBEq, Int.reduceLE, Int.reduceToNat]; rfl); (case pr => rfl)) | (refine AW.seq ?_) | (refine AW.region ?_) | (refine AW.draw prg (by kernel_rfl) ?_) | (refine AOps.nil ?_; try dsimp only [AX.then, AX.inBlock]) | (refine ALex.nil ?_; try dsimp only [AX.then, AX.inBlock]) | (refine AW.condT (by rfl) ?_) | (refine AW.condF (by rfl) ?_) | (refine AW.skip ?_; try dsimp only [AX.then, AX.inBlock]) | (refine AW.ret ?_; try dsimp only [AX.then, AX.inBlock]) | (refine AW.block ?_) | (refine AW.exit ?_; simp only [AX.then, AX.inBlock, if_true, Nat.reduceEqDiff, if_false]))
  (first | refine AOps.callq (by rfl) (by rfl) (by exact (cs1 _ (by (refine NdIn.sub ‹_› ?_; intro x hx; simp only [List.mem_cons, List.mem_append]; simp only [hx, true_or, or_true])))) ?_ | refine ALex.callq (by rfl) (by rfl) (by exact (cs1 _ (by (refine NdIn.sub ‹_› ?_; intro x hx; simp only [List.mem_cons, List.mem_append]; simp only [hx, true_or, or_true])))) ?_)
  repeat (first | ((first | apply AOps.goP prg | apply ALex.goP prg); (case run => simp only [go_sem, Int.reduceEq, Int.reduceLT, Int.reduceBEq, Int.reduceBNe, Int.reduceNe, Nat.reduceLeDiff, Nat.reduceAdd, Nat.reduceSub, Nat.reduceLT, Nat.reduceEqDiff, Nat.reduceBEq, Int.reduceLE, Int.reduceToNat, k_b15, n15a, n15b, n15c, n15d, n15e, k_b13, n13a, n13b, n13c, n13d, k_b11, n11a, n11b, n11c, k_b9, n9a, n9b, k_b7, m57, x1, x2]; rfl); (case mm => simp only [go_sem, Int.reduceEq, Int.reduceLT, Int.reduceBEq, Int.reduceBNe, Int.reduceNe, Nat.reduceLeDiff, Nat.reduceAdd, Nat.reduceSub, Nat.reduceLT, Nat.reduceEqDiff, Nat.reduceBEq, Int.reduceLE, Int.reduceToNat]; rfl); (case pr => rfl)) | (refine AW.seq ?_) | (refine AW.region ?_) | (refine AW.draw prg (by kernel_rfl) ?_) | (refine AOps.nil ?_; try dsimp only [AX.then, AX.inBlock]) | (refine ALex.nil ?_; try dsimp only [AX.then, AX.inBlock]) | (refine AW.condT (by rfl) ?_) | (refine AW.condF (by rfl) ?_) | (refine AW.skip ?_; try dsimp only [AX.then, AX.inBlock]) | (refine AW.ret ?_; try dsimp only [AX.then, AX.inBlock]) | (refine AW.block ?_) | (refine AW.exit ?_; simp only [AX.then, AX.inBlock, if_true, Nat.reduceEqDiff, if_false]))
  (first | refine AOps.callq (by rfl) (by rfl) (by exact (cs2 _ (by (refine NdIn.sub ‹_› ?_; intro x hx; simp only [List.mem_cons, List.mem_append]; simp only [hx, true_or, or_true])))) ?_ | refine ALex.callq (by rfl) (by rfl) (by exact (cs2 _ (by (refine NdIn.sub ‹_› ?_; intro x hx; simp only [List.mem_cons, List.mem_append]; simp only [hx, true_or, or_true])))) ?_)
  repeat ((first | apply AOps.goP prg | apply ALex.goP prg); (case run => simp only [go_sem, Int.reduceEq, Int.reduceLT, Int.reduceBEq, Int.reduceBNe, Int.reduceNe, Nat.reduceLeDiff, Nat.reduceAdd, Nat.reduceSub, Nat.reduceLT, Nat.reduceEqDiff, Nat.reduceBEq, Int.reduceLE, Int.reduceToNat, k_b15, n15a, n15b, n15c, n15d, n15e, k_b13, n13a, n13b, n13c, n13d, k_b11, n11a, n11b, n11c, k_b9, n9a, n9b, k_b7, m57, x1, x2]; rfl); (case mm => simp only [go_sem, Int.reduceEq, Int.reduceLT, Int.reduceBEq, Int.reduceBNe, Int.reduceNe, Nat.reduceLeDiff, Nat.reduceAdd, Nat.reduceSub, Nat.reduceLT, Nat.reduceEqDiff, Nat.reduceBEq, Int.reduceLE, Int.reduceToNat]; rfl); (case pr => rfl))
  refine AOps.nil ?_; dsimp only [AX.then, AX.inBlock]
  refine AW.weakF 21 [114] [.v (.bool false)] ?_ ?_
  · simp only [go_sem, Int.reduceEq, Int.reduceLT, Int.reduceBEq, Int.reduceBNe, Int.reduceNe, Nat.reduceLeDiff, Nat.reduceAdd, Nat.reduceSub, Nat.reduceLT, Nat.reduceEqDiff, Nat.reduceBEq, Int.reduceLE, Int.reduceToNat, weakA, or_true, true_or, and_self]
  apply AW.frame; case fr => (simp only [go_sem, Int.reduceEq, Int.reduceLT, Int.reduceBEq, Int.reduceBNe, Int.reduceNe, Nat.reduceLeDiff, Nat.reduceAdd, Nat.reduceSub, Nat.reduceLT, Nat.reduceEqDiff, Nat.reduceBEq, Int.reduceLE, Int.reduceToNat]; rfl)
  repeat (first | ((first | apply AOps.goP prg | apply ALex.goP prg); (case run => simp only [go_sem, Int.reduceEq, Int.reduceLT, Int.reduceBEq, Int.reduceBNe, Int.reduceNe, Nat.reduceLeDiff, Nat.reduceAdd, Nat.reduceSub, Nat.reduceLT, Nat.reduceEqDiff, Nat.reduceBEq, Int.reduceLE, Int.reduceToNat, k_b15, n15a, n15b, n15c, n15d, n15e, k_b13, n13a, n13b, n13c, n13d, k_b11, n11a, n11b, n11c, k_b9, n9a, n9b, k_b7, m57, x1, x2]; rfl); (case mm => simp only [go_sem, Int.reduceEq, Int.reduceLT, Int.reduceBEq, Int.reduceBNe, Int.reduceNe, Nat.reduceLeDiff, Nat.reduceAdd, Nat.reduceSub, Nat.reduceLT, Nat.reduceEqDiff, Nat.reduceBEq, Int.reduceLE, Int.reduceToNat]; rfl); (case pr => rfl)) | (refine AW.seq ?_) | (refine AW.region ?_) | (refine AW.draw prg (by kernel_rfl) ?_) | (refine AOps.nil ?_; try dsimp only [AX.then, AX.inBlock]) | (refine ALex.nil ?_; try dsimp only [AX.then, AX.inBlock]) | (refine AW.condT (by rfl) ?_) | (refine AW.condF (by rfl) ?_) | (refine AW.skip ?_; try dsimp only [AX.then, AX.inBlock]) | (refine AW.ret ?_; try dsimp only [AX.then, AX.inBlock]) | (refine AW.block ?_) | (refine AW.exit ?_; simp only [AX.then, AX.inBlock, if_true, Nat.reduceEqDiff, if_false]))
  refine AOps.callx (by rfl) (by rfl) (by exact (c1 _)) ?_
  rintro d S1 ⟨pa5, sa5, ka5, pc5, sc5, kc5, rfl, rfl, h5⟩
  repeat (first | ((first | apply AOps.goP prg | apply ALex.goP prg); (case run => simp only [go_sem, Int.reduceEq, Int.reduceLT, Int.reduceBEq, Int.reduceBNe, Int.reduceNe, Nat.reduceLeDiff, Nat.reduceAdd, Nat.reduceSub, Nat.reduceLT, Nat.reduceEqDiff, Nat.reduceBEq, Int.reduceLE, Int.reduceToNat, k_b15, n15a, n15b, n15c, n15d, n15e, k_b13, n13a, n13b, n13c, n13d, k_b11, n11a, n11b, n11c, k_b9, n9a, n9b, k_b7, m57, x1, x2]; rfl); (case mm => simp only [go_sem, Int.reduceEq, Int.reduceLT, Int.reduceBEq, Int.reduceBNe, Int.reduceNe, Nat.reduceLeDiff, Nat.reduceAdd, Nat.reduceSub, Nat.reduceLT, Nat.reduceEqDiff, Nat.reduceBEq, Int.reduceLE, Int.reduceToNat]; rfl); (case pr => rfl)) | (refine AW.seq ?_) | (refine AW.region ?_) | (refine AW.draw prg (by kernel_rfl) ?_) | (refine AOps.nil ?_; try dsimp only [AX.then, AX.inBlock]) | (refine ALex.nil ?_; try dsimp only [AX.then, AX.inBlock]) | (refine AW.condT (by rfl) ?_) | (refine AW.condF (by rfl) ?_) | (refine AW.skip ?_; try dsimp only [AX.then, AX.inBlock]) | (refine AW.ret ?_; try dsimp only [AX.then, AX.inBlock]) | (refine AW.block ?_) | (refine AW.exit ?_; simp only [AX.then, AX.inBlock, if_true, Nat.reduceEqDiff, if_false]))
  refine AOps.alloc prg (by rfl) (by rfl) (by rfl) (by rfl) ?_; rintro b17 ⟨k_b17, o_b17⟩; (try simp only [List.map_cons, List.mem_cons, not_or] at k_b17)
  have n17a := nes k_b17.1
  have n17b := nes k_b17.2.1
  have n17c := nes k_b17.2.2.1
  have n17d := nes k_b17.2.2.2.1
  have n17e := nes k_b17.2.2.2.2.1
  have n17f := nes k_b17.2.2.2.2.2.1
  repeat (first | ((first | apply AOps.goP prg | apply ALex.goP prg); (case run => simp only [go_sem, Int.reduceEq, Int.reduceLT, Int.reduceBEq, Int.reduceBNe, Int.reduceNe, Nat.reduceLeDiff, Nat.reduceAdd, Nat.reduceSub, Nat.reduceLT, Nat.reduceEqDiff, Nat.reduceBEq, Int.reduceLE, Int.reduceToNat, k_b17, n17a, n17b, n17c, n17d, n17e, n17f, k_b15, n15a, n15b, n15c, n15d, n15e, k_b13, n13a, n13b, n13c, n13d, k_b11, n11a, n11b, n11c, k_b9, n9a, n9b, k_b7, m57, x1, x2]; rfl); (case mm => simp only [go_sem, Int.reduceEq, Int.reduceLT, Int.reduceBEq, Int.reduceBNe, Int.reduceNe, Nat.reduceLeDiff, Nat.reduceAdd, Nat.reduceSub, Nat.reduceLT, Nat.reduceEqDiff, Nat.reduceBEq, Int.reduceLE, Int.reduceToNat]; rfl); (case pr => rfl)) | (refine AW.seq ?_) | (refine AW.region ?_) | (refine AW.draw prg (by kernel_rfl) ?_) | (refine AOps.nil ?_; try dsimp only [AX.then, AX.inBlock]) | (refine ALex.nil ?_; try dsimp only [AX.then, AX.inBlock]) | (refine AW.condT (by rfl) ?_) | (refine AW.condF (by rfl) ?_) | (refine AW.skip ?_; try dsimp only [AX.then, AX.inBlock]) | (refine AW.ret ?_; try dsimp only [AX.then, AX.inBlock]) | (refine AW.block ?_) | (refine AW.exit ?_; simp only [AX.then, AX.inBlock, if_true, Nat.reduceEqDiff, if_false]))
  refine AOps.callx (by rfl) (by rfl) (by exact (c2 _)) ?_
  rintro d S1 ⟨pa6, sa6, ka6, pc6, sc6, kc6, rfl, rfl, h6⟩
  repeat (first | ((first | apply AOps.goP prg | apply ALex.goP prg); (case run => simp only [go_sem, Int.reduceEq, Int.reduceLT, Int.reduceBEq, Int.reduceBNe, Int.reduceNe, Nat.reduceLeDiff, Nat.reduceAdd, Nat.reduceSub, Nat.reduceLT, Nat.reduceEqDiff, Nat.reduceBEq, Int.reduceLE, Int.reduceToNat, k_b17, n17a, n17b, n17c, n17d, n17e, n17f, k_b15, n15a, n15b, n15c, n15d, n15e, k_b13, n13a, n13b, n13c, n13d, k_b11, n11a, n11b, n11c, k_b9, n9a, n9b, k_b7, m57, x1, x2]; rfl); (case mm => simp only [go_sem, Int.reduceEq, Int.reduceLT, Int.reduceBEq, Int.reduceBNe, Int.reduceNe, Nat.reduceLeDiff, Nat.reduceAdd, Nat.reduceSub, Nat.reduceLT, Nat.reduceEqDiff, Nat.reduceBEq, Int.reduceLE, Int.reduceToNat]; rfl); (case pr => rfl)) | (refine AW.seq ?_) | (refine AW.region ?_) | (refine AW.draw prg (by kernel_rfl) ?_) | (refine AOps.nil ?_; try dsimp only [AX.then, AX.inBlock]) | (refine ALex.nil ?_; try dsimp only [AX.then, AX.inBlock]) | (refine AW.condT (by rfl) ?_) | (refine AW.condF (by rfl) ?_) | (refine AW.skip ?_; try dsimp only [AX.then, AX.inBlock]) | (refine AW.ret ?_; try dsimp only [AX.then, AX.inBlock]) | (refine AW.block ?_) | (refine AW.exit ?_; simp only [AX.then, AX.inBlock, if_true, Nat.reduceEqDiff, if_false]))
  refine AOps.alloc prg (by rfl) (by rfl) (by rfl) (by rfl) ?_; rintro b19 ⟨k_b19, o_b19⟩; (try simp only [List.map_cons, List.mem_cons, not_or] at k_b19)
  have n19a := nes k_b19.1
  have n19b := nes k_b19.2.1
  have n19c := nes k_b19.2.2.1
  have n19d := nes k_b19.2.2.2.1
  have n19e := nes k_b19.2.2.2.2.1
  have n19f := nes k_b19.2.2.2.2.2.1
  have n19g := nes k_b19.2.2.2.2.2.2.1
  repeat (first | ((first | apply AOps.goP prg | apply ALex.goP prg); (case run => simp only [go_sem, Int.reduceEq, Int.reduceLT, Int.reduceBEq, Int.reduceBNe, Int.reduceNe, Nat.reduceLeDiff, Nat.reduceAdd, Nat.reduceSub, Nat.reduceLT, Nat.reduceEqDiff, Nat.reduceBEq, Int.reduceLE, Int.reduceToNat, k_b19, n19a, n19b, n19c, n19d, n19e, n19f, n19g, k_b17, n17a, n17b, n17c, n17d, n17e, n17f, k_b15, n15a, n15b, n15c, n15d, n15e, k_b13, n13a, n13b, n13c, n13d, k_b11, n11a, n11b, n11c, k_b9, n9a, n9b, k_b7, m57, x1, x2]; rfl); (case mm => simp only [go_sem, Int.reduceEq, Int.reduceLT, Int.reduceBEq, Int.reduceBNe, Int.reduceNe, Nat.reduceLeDiff, Nat.reduceAdd, Nat.reduceSub, Nat.reduceLT, Nat.reduceEqDiff, Nat.reduceBEq, Int.reduceLE, Int.reduceToNat]; rfl); (case pr => rfl)) | (refine AW.seq ?_) | (refine AW.region ?_) | (refine AW.draw prg (by kernel_rfl) ?_) | (refine AOps.nil ?_; try dsimp only [AX.then, AX.inBlock]) | (refine ALex.nil ?_; try dsimp only [AX.then, AX.inBlock]) | (refine AW.condT (by rfl) ?_) | (refine AW.condF (by rfl) ?_) | (refine AW.skip ?_; try dsimp only [AX.then, AX.inBlock]) | (refine AW.ret ?_; try dsimp only [AX.then, AX.inBlock]) | (refine AW.block ?_) | (refine AW.exit ?_; simp only [AX.then, AX.inBlock, if_true, Nat.reduceEqDiff, if_false]))
  (first | refine AOps.callq (by rfl) (by rfl) (by exact (cs1 _ (by (refine NdIn.sub ‹_› ?_; intro x hx; simp only [List.mem_cons, List.mem_append]; simp only [hx, true_or, or_true])))) ?_ | refine ALex.callq (by rfl) (by rfl) (by exact (cs1 _ (by (refine NdIn.sub ‹_› ?_; intro x hx; simp only [List.mem_cons, List.mem_append]; simp only [hx, true_or, or_true])))) ?_)
  repeat (first | ((first | apply AOps.goP prg | apply ALex.goP prg); (case run => simp only [go_sem, Int.reduceEq, Int.reduceLT, Int.reduceBEq, Int.reduceBNe, Int.reduceNe, Nat.reduceLeDiff, Nat.reduceAdd, Nat.reduceSub, Nat.reduceLT, Nat.reduceEqDiff, Nat.reduceBEq, Int.reduceLE, Int.reduceToNat, k_b19, n19a, n19b, n19c, n19d, n19e, n19f, n19g, k_b17, n17a, n17b, n17c, n17d, n17e, n17f, k_b15, n15a, n15b, n15c, n15d, n15e, k_b13, n13a, n13b, n13c, n13d, k_b11, n11a, n11b, n11c, k_b9, n9a, n9b, k_b7, m57, x1, x2]; rfl); (case mm => simp only [go_sem, Int.reduceEq, Int.reduceLT, Int.reduceBEq, Int.reduceBNe, Int.reduceNe, Nat.reduceLeDiff, Nat.reduceAdd, Nat.reduceSub, Nat.reduceLT, Nat.reduceEqDiff, Nat.reduceBEq, Int.reduceLE, Int.reduceToNat]; rfl); (case pr => rfl)) | (refine AW.seq ?_) | (refine AW.region ?_) | (refine AW.draw prg (by kernel_rfl) ?_) | (refine AOps.nil ?_; try dsimp only [AX.then, AX.inBlock]) | (refine ALex.nil ?_; try dsimp only [AX.then, AX.inBlock]) | (refine AW.condT (by rfl) ?_) | (refine AW.condF (by rfl) ?_) | (refine AW.skip ?_; try dsimp only [AX.then, AX.inBlock]) | (refine AW.ret ?_; try dsimp only [AX.then, AX.inBlock]) | (refine AW.block ?_) | (refine AW.exit ?_; simp only [AX.then, AX.inBlock, if_true, Nat.reduceEqDiff, if_false]))
  (first | refine AOps.callq (by rfl) (by rfl) (by exact (cs2 _ (by (refine NdIn.sub ‹_› ?_; intro x hx; simp only [List.mem_cons, List.mem_append]; simp only [hx, true_or, or_true])))) ?_ | refine ALex.callq (by rfl) (by rfl) (by exact (cs2 _ (by (refine NdIn.sub ‹_› ?_; intro x hx; simp only [List.mem_cons, List.mem_append]; simp only [hx, true_or, or_true])))) ?_)
  repeat (first | ((first | apply AOps.goP prg | apply ALex.goP prg); (case run => simp only [go_sem, Int.reduceEq, Int.reduceLT, Int.reduceBEq, Int.reduceBNe, Int.reduceNe, Nat.reduceLeDiff, Nat.reduceAdd, Nat.reduceSub, Nat.reduceLT, Nat.reduceEqDiff, Nat.reduceBEq, Int.reduceLE, Int.reduceToNat, k_b19, n19a, n19b, n19c, n19d, n19e, n19f, n19g, k_b17, n17a, n17b, n17c, n17d, n17e, n17f, k_b15, n15a, n15b, n15c, n15d, n15e, k_b13, n13a, n13b, n13c, n13d, k_b11, n11a, n11b, n11c, k_b9, n9a, n9b, k_b7, m57, x1, x2]; rfl); (case mm => simp only [go_sem, Int.reduceEq, Int.reduceLT, Int.reduceBEq, Int.reduceBNe, Int.reduceNe, Nat.reduceLeDiff, Nat.reduceAdd, Nat.reduceSub, Nat.reduceLT, Nat.reduceEqDiff, Nat.reduceBEq, Int.reduceLE, Int.reduceToNat]; rfl); (case pr => rfl)) | (refine AW.seq ?_) | (refine AW.region ?_) | (refine AW.draw prg (by kernel_rfl) ?_) | (refine AOps.nil ?_; try dsimp only [AX.then, AX.inBlock]) | (refine ALex.nil ?_; try dsimp only [AX.then, AX.inBlock]) | (refine AW.condT (by rfl) ?_) | (refine AW.condF (by rfl) ?_) | (refine AW.skip ?_; try dsimp only [AX.then, AX.inBlock]) | (refine AW.ret ?_; try dsimp only [AX.then, AX.inBlock]) | (refine AW.block ?_) | (refine AW.exit ?_; simp only [AX.then, AX.inBlock, if_true, Nat.reduceEqDiff, if_false]))
  (first | refine AOps.callq (by rfl) (by rfl) (by exact (cLives _)) ?_ | refine ALex.callq (by rfl) (by rfl) (by exact (cLives _)) ?_)
  repeat (first | ((first | apply AOps.goP prg | apply ALex.goP prg); (case run => simp only [go_sem, Int.reduceEq, Int.reduceLT, Int.reduceBEq, Int.reduceBNe, Int.reduceNe, Nat.reduceLeDiff, Nat.reduceAdd, Nat.reduceSub, Nat.reduceLT, Nat.reduceEqDiff, Nat.reduceBEq, Int.reduceLE, Int.reduceToNat]; rfl); (case mm => simp only [go_sem, Int.reduceEq, Int.reduceLT, Int.reduceBEq, Int.reduceBNe, Int.reduceNe, Nat.reduceLeDiff, Nat.reduceAdd, Nat.reduceSub, Nat.reduceLT, Nat.reduceEqDiff, Nat.reduceBEq, Int.reduceLE, Int.reduceToNat]; rfl); (case pr => rfl)) | (refine AW.seq ?_) | (refine AW.region ?_) | (refine AW.draw prg (by kernel_rfl) ?_) | (refine AOps.nil ?_; try dsimp only [AX.then, AX.inBlock]) | (refine ALex.nil ?_; try dsimp only [AX.then, AX.inBlock]) | (refine AW.condT (by rfl) ?_) | (refine AW.condF (by rfl) ?_) | (refine AW.skip ?_; try dsimp only [AX.then, AX.inBlock]) | (refine AW.ret ?_; try dsimp only [AX.then, AX.inBlock]) | (refine AW.block ?_) | (refine AW.exit ?_; simp only [AX.then, AX.inBlock, if_true, Nat.reduceEqDiff, if_false]))
  refine endq (by simp only [go_sem, Int.reduceEq, Int.reduceLT, Int.reduceBEq, Int.reduceBNe, Int.reduceNe, Nat.reduceLeDiff, Nat.reduceAdd, Nat.reduceSub, Nat.reduceLT, Nat.reduceEqDiff, Nat.reduceBEq, Int.reduceLE, Int.reduceToNat]; rfl) (by rfl) ⟨?_, List.Sublist.refl _⟩
  repeat (first | exact List.Sublist.refl _ | exact List.sublist_append_left _ _ | (refine List.Sublist.trans ?_ (List.sublist_append_left _ _)) | apply List.Sublist.cons)
end Go.Proofs.YtemicgccgcmmbaaGreat
