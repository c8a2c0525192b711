/- Lists are read: the plain parser; what a closure that reads one thing does. -/
import Derived.Test.YtemicgccgcmmbaaGreatZ0
import Derived.Test.YtemicgccgcmmbaaGreatZ5
import Derived.Great.BuildSlice
import Derived.Deep.RegionLaw
namespace Go.Proofs.YtemicgccgcmmbaaGreat
set_option linter.unusedVariables false
set_option linter.unusedSimpArgs false
open Go Go.RowKit

section
variable {α T : Type}
/-- So many things, one behind the other; each may hang on a state that goes on. -/
def manyP (step : α → Bs → Option (α × T × Bs)) : Nat → α → Bs → Option (α × List T × Bs)
  | 0, x, l => some (x, [], l)
  | k + 1, x, l => match step x l with
    | none => none
    | some (x', t, l') => match manyP step k x' l' with
      | none => none
      | some (x'', ts, l'') => some (x'', t :: ts, l'')

def listP (m : Nat) (step : α → Bs → Option (α × T × Bs)) (x : α) (l : Bs) : Option (α × List T × Bs) :=
  match freeP m l with
  | none => none
  | some (n, l') => if n ≤ l'.length then manyP step n x l' else none

/-- k things have been read; the rest is to be read from here. -/
def Mid (step : α → Bs → Option (α × T × Bs)) (n : Nat) (x0 : α) (l0 : Bs) (k : Nat) (x : α) (ts : List T) (l : Bs) : Prop :=
  k ≤ n ∧ ts.length = k ∧ manyP step n x0 l0 = (manyP step (n - k) x l).map fun r => (r.1, ts ++ r.2.1, r.2.2)

theorem Mid.start (step : α → Bs → Option (α × T × Bs)) (n : Nat) (x0 : α) (l0 : Bs) : Mid step n x0 l0 0 x0 [] l0 :=
  ⟨Nat.zero_le _, rfl, by cases h : manyP step n x0 l0 <;> simp [h]⟩
theorem Mid.step {step : α → Bs → Option (α × T × Bs)} {n : Nat} {x0 : α} {l0 : Bs} {k : Nat} {x x' : α} {ts : List T} {t : T} {l l' : Bs} (h : Mid step n x0 l0 k x ts l) (hk : k < n) (hs : step x l = some (x', t, l')) :
    Mid step n x0 l0 (k + 1) x' (ts ++ [t]) l' := by
  refine ⟨hk, by simp [h.2.1], ?_⟩
  rw [h.2.2, show n - k = (n - (k + 1)) + 1 by omega]
  simp only [manyP, hs]
  cases manyP step (n - (k + 1)) x' l' <;> simp
theorem Mid.fail {step : α → Bs → Option (α × T × Bs)} {n : Nat} {x0 : α} {l0 : Bs} {k : Nat} {x : α} {ts : List T} {l : Bs} (h : Mid step n x0 l0 k x ts l) (hk : k < n) (hs : step x l = none) :
    manyP step n x0 l0 = none := by
  rw [h.2.2, show n - k = (n - (k + 1)) + 1 by omega]
  simp [manyP, hs]
theorem Mid.done {step : α → Bs → Option (α × T × Bs)} {n : Nat} {x0 : α} {l0 : Bs} {x : α} {ts : List T} {l : Bs} (h : Mid step n x0 l0 n x ts l) :
    manyP step n x0 l0 = some (x, ts, l) := by
  rw [h.2.2, Nat.sub_self]; simp [manyP]

/-- The state that a reading closure keeps in memory stays where nothing touches its blocks. -/
structure St (b : Nat) (J : α → World → List Nat → Prop) : Prop where
  kp : ∀ {x w w' fp S}, J x w fp → Kp S w w' → (∀ g ∈ fp, g ∉ S) → J x w' fp
  lt : ∀ {x w fp}, J x w fp → ∀ g ∈ fp, g < w.heap.size ∧ g ≠ b

def OnePost (tv : T → Value) (J : α → World → List Nat → Prop) (b : Nat) (s : Bs) (fp : List Nat) (w : World) (r : Option (α × T × Bs)) (e : Ending) (w' : World) : Prop :=
  ∃ t x' fp', e = .returned (tv t) ∧ J x' w' fp' ∧ Kp (b :: fp) w w' ∧ (∀ g ∈ fp', g ∈ fp ∨ w.heap.size ≤ g) ∧
    match r with
    | some (x1, t1, l') => x' = x1 ∧ t = t1 ∧ RdOk w' b s l'
    | none => RdBad w' b s

def ListPost (cells : T → List Value) (e0 : TypeId) (size : Nat) (J : α → World → List Nat → Prop) (b : Nat) (s : Bs) (fp : List Nat) (w : World) (r : Option (α × List T × Bs)) (e : Ending) (w' : World) : Prop :=
  ∃ a c ts x' fp', e = .returned (.slice a ts.length c) ∧ Own w' e0 size a ts.length c (ts.flatMap cells) ∧ J x' w' fp' ∧ Kp (b :: fp) w w' ∧ (∀ g ∈ fp', g ∈ fp ∨ w.heap.size ≤ g) ∧ (∀ g ∈ ab a, w.heap.size ≤ g ∧ g ∉ fp') ∧
    match r with
    | some (x1, ts1, l') => x' = x1 ∧ ts = ts1 ∧ RdOk w' b s l'
    | none => ts = [] ∧ RdBad w' b s


/-- A round so far: the box is made, the closure has read a thing, the box is written. -/
theorem list_round {e0 : TypeId} {size b k c : Nat} {J : α → World → List Nat → Prop} {a : Option Addr} {xs : List Value} {x x2 : α} {fp fp' fp2 : List Nat} {w wr w2 w3 : World} {o : Obj}
    (hst : St b J) (hb : b < w.heap.size) (how : Own wr e0 size a k c xs) (hkp : Kp (b :: fp) w wr) (hj : J x wr fp') (hfp : ∀ g ∈ fp', g ∈ fp ∨ w.heap.size ≤ g) (hab : ∀ g ∈ ab a, w.heap.size ≤ g ∧ g ∉ fp')
    (k2 : Kp (b :: fp') (wr.alloc o) w2) (hj2 : J x2 w2 fp2) (hfp2 : ∀ g ∈ fp2, g ∈ fp' ∨ (wr.alloc o).heap.size ≤ g) (k3 : Kp [wr.heap.size] w2 w3) :
    Own w3 e0 size a k c xs ∧ J x2 w3 fp2 ∧ Kp (b :: fp) w w3 ∧ (∀ g ∈ fp2, g ∈ fp ∨ w.heap.size ≤ g) ∧ (∀ g ∈ ab a, w.heap.size ≤ g ∧ g ∉ fp2) ∧ b ∉ ab a := by
  have hz := hkp.size
  have hal : (wr.alloc o).heap.size = wr.heap.size + 1 := by simp
  have hbn : b ∉ ab a := fun e => by have := (hab _ e).1; omega
  refine ⟨?_, ?_, ?_, ?_, ?_, hbn⟩
  · refine ((how.kp ((Kp.refl [] _).alloc o) (by simp)).kp k2 ?_).kp k3 ?_
    · intro g hg; simp only [List.mem_cons, not_or]; exact ⟨fun e => hbn (e ▸ hg), (hab g hg).2⟩
    · intro g hg; have := how.lt g hg; simp; omega
  · refine hst.kp hj2 k3 ?_
    intro g hg
    rcases hfp2 g hg with h | h
    · have := (hst.lt hj g h).1; simp; omega
    · simp; omega
  · refine ((hkp.alloc o).from k2 ?_).from k3 ?_
    · intro g hg
      rcases List.mem_cons.1 hg with rfl | hg
      · exact .inr (by simp)
      · rcases hfp g hg with h | h
        · exact .inr (by simp [h])
        · exact .inl h
    · intro g hg; simp at hg; exact .inl (by omega)
  · intro g hg
    rcases hfp2 g hg with h | h
    · exact hfp g h
    · exact .inr (by omega)
  · intro g hg
    refine ⟨(hab g hg).1, fun h => ?_⟩
    rcases hfp2 g h with h | h
    · exact (hab g hg).2 h
    · have := how.lt g hg; omega
/-- Behind the append. -/
theorem list_round2 {e0 : TypeId} {size b k c : Nat} {J : α → World → List Nat → Prop} {a a2 : Option Addr} {xs : List Value} {x2 : α} {fp fp2 : List Nat} {w w3 w4 : World} {s l : Bs}
    (hst : St b J) (how : Own w3 e0 size a k c xs) (hj : J x2 w3 fp2) (hkp : Kp (b :: fp) w w3) (hab : ∀ g ∈ ab a, w.heap.size ≤ g ∧ g ∉ fp2) (hbn : b ∉ ab a) (hr : RdOk w3 b s l)
    (k4 : Kp (ab a) w3 w4) (hn : ∀ g ∈ ab a2, g ∈ ab a ∨ w3.heap.size ≤ g) :
    J x2 w4 fp2 ∧ RdOk w4 b s l ∧ Kp (b :: fp) w w4 ∧ (∀ g ∈ ab a2, w.heap.size ≤ g ∧ g ∉ fp2) := by
  have hz := hkp.size
  refine ⟨hst.kp hj k4 fun g hg h => (hab g h).2 hg, hr.kp k4 hbn, hkp.from k4 fun g hg => .inl (hab g hg).1, fun g hg => ?_⟩
  rcases hn g hg with h | h
  · exact hab g h
  · exact ⟨by omega, fun hf => by have := (hst.lt hj g hf).1; omega⟩
theorem src_row {P : Program} {size : Nat} {tx e' : TypeId} (hk : P.underlying tx = some (.slice e')) (w : World) (cs : Array Value) (t : TypeId) (g : Nat) (hg : g = w.heap.size) (hc : cs.size = size) (h1 : ∀ v ∈ cs.toList, v.oneCell' = true) :
    Src P size tx (.slice (some ⟨g, 0, none⟩) 1 1) 1 cs.toList (w.alloc (.cells cs t)) :=
  Src.ofSlice _ hk _ _ _ _ (by simp [hc]) (by
    subst hg
    intro j u hj
    have hb : Blk (w.alloc (.cells cs t)) w.heap.size t cs := Blk.new w t cs
    have := hb.cell j
    simpa [Addr.add_lit] using this.trans (by simpa using hj)) h1
end

/-- A slice literal of one value of many cells. -/
def bsBig (t : TypeId) (v : Value) : Sem Next := do pure (.value (← Instr.buildSlice t 1 #[(0, v)]))
def slowBs (P : Program) (t : TypeId) (v : Value) (w : World) : Result Next := (bsBig t v).run P w
theorem run_bsBig (P : Program) (t e : TypeId) (n : Nat) (z : Value) (bytes : Nat) (hu : P.underlying t = some (.slice e)) (hi : (P.info? e).map (fun i => (i.zero, i.size, i.bytes)) = some (some z, n, bytes)) (hz : z.cells.size = n) (h0 : 0 < n) (h24 : n ≤ 2 ^ 24) (cs : Array Value) (w : World) :
    (bsBig t (.agg cs)).run P w = if cs.size = n then .ok (.value (.slice (some ⟨w.heap.size, 0, none⟩) 1 1)) (w.alloc (.cells cs e)) else slowBs P t (.agg cs) w := by
  split
  · rename_i hc
    obtain ⟨ie, hie, hz0, hz1, hz2⟩ := info_parts hi
    obtain ⟨r, hr, hsz, hk⟩ := Great.fill_dense (s := n) h0 [.agg cs] 0 ((Array.range (1 * ie.size)).map (z.cells[· % z.cells.size]!)) (by intro v hv; simp at hv; subst hv; exact hc) (by simp [hz1])
    have hrc : r = cs := by
      apply Array.ext_getElem?
      intro k
      rw [hk k]
      simp only [Nat.zero_mul, Nat.zero_le, true_and, List.length_singleton, Nat.zero_add, Nat.one_mul, Nat.sub_zero]
      split
      · rename_i hlt
        rw [Nat.div_eq_of_lt hlt, Nat.mod_eq_of_lt hlt]
        rfl
      · rename_i hlt
        rw [Array.getElem?_eq_none (by simp [hz1]; omega), Array.getElem?_eq_none (by omega)]
    subst hrc
    have := run_buildSlice (P := P) w t e 1 #[(0, .agg r)] r ie z hu hie hz0 (by rw [hz1]; omega) (by rw [hz1]; omega) (by rw [hz1]; rw [hz1] at hr; exact hr)
    simp [bsBig, Sem.run_bind, this]
  · rfl

theorem Tryz.infoPair : (Tryz.prog.info? 56).map (fun i => (i.zero, i.size, i.bytes)) = some (some (.agg #[.string ⟨#[]⟩, .string ⟨#[]⟩]), 2, 32) := by kernel_rfl

theorem wpList_app_pair {w : World} {ops : Array Oper} {rest : List Oper} {o : Oper} {A : Act} {Q : Exit → Act → World → Prop} (hgd : o.guard = none) {s x : Operand} {tx : TypeId}
    (ho : o.op = .call { callee := .builtin .append, args := #[s, x], argTypes := #[24, tx] })
    {a : Option Addr} {n c : Nat} {xs : List Value} (hs : A.eval s = .slice a n c) (hown : Own w 56 2 a n c xs) (m : Nat) (news : List Value) (hsrc : Src Tryz.prog 2 tx (A.eval x) m news w)
    (h63 : n + m ≤ 4398046511104)
    (h : ∀ a' c' w', Own w' 56 2 a' (n + m) c' (xs ++ news) → Kp (ab a) w w' → (∀ g ∈ ab a', g ∈ ab a ∨ w.heap.size ≤ g) → wpList Tryz.prog ops Q rest (A.put o.dst (.slice a' (n + m) c')) w') : wpList Tryz.prog ops Q (o :: rest) A w := by
  obtain ⟨i0, hi, hz0, hz1, hz2⟩ := info_parts Tryz.infoPair
  exact wpList_app w hgd s x 24 tx ho 56 i0 (.agg #[.string ⟨#[]⟩, .string ⟨#[]⟩]) 2 32 Tryz.underlying24 hi hz0 hz1 hz2 rfl a n c xs hs hown m news hsrc (by omega) (by unfold maxLen; omega) h

theorem Tryz.infoKid : (Tryz.prog.info? 59).map (fun i => (i.zero, i.size, i.bytes)) = some (some (.agg Kd.zero.c), 33, 36) := by
  rw [zero33, zero32]; kernel_rfl

theorem wpList_app_kid {w : World} {ops : Array Oper} {rest : List Oper} {o : Oper} {A : Act} {Q : Exit → Act → World → Prop} (hgd : o.guard = none) {s x : Operand} {tx : TypeId}
    (ho : o.op = .call { callee := .builtin .append, args := #[s, x], argTypes := #[26, tx] })
    {a : Option Addr} {n c : Nat} {xs : List Value} (hs : A.eval s = .slice a n c) (hown : Own w 59 33 a n c xs) (m : Nat) (news : List Value) (hsrc : Src Tryz.prog 33 tx (A.eval x) m news w)
    (h63 : n + m ≤ 3909374676453)
    (h : ∀ a' c' w', Own w' 59 33 a' (n + m) c' (xs ++ news) → Kp (ab a) w w' → (∀ g ∈ ab a', g ∈ ab a ∨ w.heap.size ≤ g) → wpList Tryz.prog ops Q rest (A.put o.dst (.slice a' (n + m) c')) w') : wpList Tryz.prog ops Q (o :: rest) A w := by
  obtain ⟨i0, hi, hz0, hz1, hz2⟩ := info_parts Tryz.infoKid
  exact wpList_app w hgd s x 26 tx ho 59 i0 (.agg Kd.zero.c) 33 36 Tryz.underlying26 hi hz0 hz1 hz2 (Kd.c_size Kd.zero) a n c xs hs hown m news hsrc (by omega) (by unfold maxLen; omega) h

@[go_sem ↓] theorem exec_bs_kd (a : Act) (dst : Option Tmp) (x : Operand) (ty : TypeId) (pos : String) (after : Array Edge) (guard : Option (Nat × Bool)) :
    execOp a.eval { dst, op := .buildSlice 26 1 #[(0, x)], type := ty, pos, after, guard } = bsBig 26 (a.eval x) := by simp [execOp, bsBig]
@[go_sem] theorem run_bs_kd (cs : Array Value) (w : World) : (bsBig 26 (.agg cs)).run Tryz.prog w = if cs.size = 33 then .ok (.value (.slice (some ⟨w.heap.size, 0, none⟩) 1 1)) (w.alloc (.cells cs 59)) else slowBs Tryz.prog 26 (.agg cs) w :=
  run_bsBig Tryz.prog 26 59 33 _ _ Tryz.underlying26 Tryz.infoKid (Kd.c_size Kd.zero) (by omega) (by omega) cs w
theorem Kd.c_one (k : Kd) : ∀ v ∈ k.c.toList, v.oneCell' = true := by
  intro v hv
  simp only [Kd.c, List.mem_cons] at hv
  rcases hv with rfl | hv
  · rfl
  · exact bC_one _ v hv

theorem Tryz.infoStr : (Tryz.prog.info? 9).map (fun i => (i.zero, i.size, i.bytes)) = some (some (.string ⟨#[]⟩), 1, 16) := by kernel_rfl

theorem wpList_app_str {w : World} {ops : Array Oper} {rest : List Oper} {o : Oper} {A : Act} {Q : Exit → Act → World → Prop} (hgd : o.guard = none) {s x : Operand} {tx : TypeId}
    (ho : o.op = .call { callee := .builtin .append, args := #[s, x], argTypes := #[25, tx] })
    {a : Option Addr} {n c : Nat} {xs : List Value} (hs : A.eval s = .slice a n c) (hown : Own w 9 1 a n c xs) (m : Nat) (news : List Value) (hsrc : Src Tryz.prog 1 tx (A.eval x) m news w)
    (h63 : n + m ≤ 8796093022208)
    (h : ∀ a' c' w', Own w' 9 1 a' (n + m) c' (xs ++ news) → Kp (ab a) w w' → (∀ g ∈ ab a', g ∈ ab a ∨ w.heap.size ≤ g) → wpList Tryz.prog ops Q rest (A.put o.dst (.slice a' (n + m) c')) w') : wpList Tryz.prog ops Q (o :: rest) A w := by
  obtain ⟨i0, hi, hz0, hz1, hz2⟩ := info_parts Tryz.infoStr
  exact wpList_app w hgd s x 25 tx ho 9 i0 (.string ⟨#[]⟩) 1 16 Tryz.underlying25 hi hz0 hz1 hz2 rfl a n c xs hs hown m news hsrc (by omega) (by unfold maxLen; omega) h

/-- A call by its contract, as one step of a region that draws its order. -/
theorem step_call {P : Program} {w : World} {ops : Array Oper} {o : Oper} {A : Act} {K : Act → World → Prop} {Q : Exit → Act → World → Prop} {E : Prop} (hgd : o.guard = none) (f : FuncId) {xs : Array Operand} {ts : Array TypeId} (_hop : o.op = .call { callee := .value (.func f), args := xs, argTypes := ts }) (args : Array Value)
    (hrun : (execOp A.eval o).run P w = .ok (.enter f args) w) {post : Ending → World → Prop} (hc : Calls P f args w post) (h : ∀ e w', post e w' → ∃ v, e = .returned v ∧ K (A.put o.dst v) w') :
    if Region.wanted o (yielded ops A.tmps) = true then Oper.wp P o A w K Q else E := by
  have hw : Region.wanted o (yielded ops A.tmps) = true := by simp [Region.wanted, hgd]
  rw [if_pos hw]
  unfold Oper.wp
  rw [hrun, Oper.upon_enter]
  refine hc.mono fun e w' hh => ?_
  obtain ⟨v, rfl, hk⟩ := h e w' hh
  exact hk

/-- The same as one step of a region that draws its order. -/
theorem step_app_str {w : World} {ops : Array Oper} {o : Oper} {A : Act} {K : Act → World → Prop} {Q : Exit → Act → World → Prop} {E : Prop} (hgd : o.guard = none) {s x : Operand} {tx : TypeId}
    (ho : o.op = .call { callee := .builtin .append, args := #[s, x], argTypes := #[25, tx] })
    {a : Option Addr} {n c : Nat} {xs : List Value} (hs : A.eval s = .slice a n c) (hown : Own w 9 1 a n c xs) (m : Nat) (news : List Value) {xv : Value} (hx : A.eval x = xv) (hsrc : Src Tryz.prog 1 tx xv m news w)
    (h63 : n + m ≤ 8796093022208)
    (h : ∀ a' c' w', Own w' 9 1 a' (n + m) c' (xs ++ news) → Kp (ab a) w w' → (∀ g ∈ ab a', g ∈ ab a ∨ w.heap.size ≤ g) → K (A.put o.dst (.slice a' (n + m) c')) w') :
    if Region.wanted o (yielded ops A.tmps) = true then Oper.wp Tryz.prog o A w K Q else E := by
  have hw : Region.wanted o (yielded ops A.tmps) = true := by simp [Region.wanted, hgd]
  rw [if_pos hw]
  subst hx
  obtain ⟨i0, hi, hz0, hz1, hz2⟩ := info_parts Tryz.infoStr
  exact wp_app w s x 25 tx ho 9 i0 (.string ⟨#[]⟩) 1 16 Tryz.underlying25 hi hz0 hz1 hz2 rfl a n c xs hs hown m news hsrc (by omega) (by unfold maxLen; omega) h

@[go_sem] theorem neq_nilf_rp (f : Fn) (x y : Array Value) (w : World) : (binOp .neq 89 (.func f x y) .nilFunc).run Tryz.prog w = .ok (.bool true) w := run_neq_nilf w _ _ _ _ f x y Tryz.underlying89
@[go_sem] theorem neq_nilf_rk (f : Fn) (x y : Array Value) (w : World) : (binOp .neq 93 (.func f x y) .nilFunc).run Tryz.prog w = .ok (.bool true) w := run_neq_nilf w _ _ _ _ f x y Tryz.underlying93

end Go.Proofs.YtemicgccgcmmbaaGreat

/- pack.List of pairs, over the contract of the closure that reads one. -/
namespace Go.Proofs.YtemicgccgcmmbaaGreat
set_option linter.unusedVariables false
set_option linter.unusedSimpArgs false
open Go Go.RowKit

abbrev tvP (x : Pr) : Value := .agg #[.string ⟨x.1.toArray⟩, .string ⟨x.2.toArray⟩]
abbrev csP (x : Pr) : List Value := [.string ⟨x.1.toArray⟩, .string ⟨x.2.toArray⟩]

set_option maxHeartbeats 1000000 in set_option maxRecDepth 100000 in
theorem list_pair_bad (b : Nat) (s : Bs) (m : Int) (f : Value) (w : World) (h : RdBad w b s) :
    Calls Tryz.prog 64 #[.pointer (some ⟨b, 0, none⟩), .int .i64 m, f] w fun e w' => e = .returned (.slice none 0 0) ∧ w = w' := by
  obtain ⟨p, f, hf, hp, h⟩ := h
  have H := Lib.hid h; have HF := Lib.hid hf; clear h hf
  go_enter Tryz.func64, Tryz.ntmps64
  go_wp2_with (go_at_call 105; refine (rd_dead1 H.out HF.out).mono ?_; rintro e w' ⟨rfl, rfl⟩)
  go_ret
  exact ⟨rfl, rfl⟩

set_option maxHeartbeats 1000000 in set_option maxRecDepth 100000 in
theorem list_pair {α : Type} {step : α → Bs → Option (α × Pr × Bs)} {J : α → World → List Nat → Prop} {I : α → Bs → Prop} (b m : Nat) (s l : Bs) (x0 : α) (fp : List Nat) (caps : Array Value) (w : World)
    (hst : St b J) (hI0 : ∀ n l', freeP m l = some (n, l') → I x0 l') (hI : ∀ x l x' t l', I x l → step x l = some (x', t, l') → I x' l') (hone : ∀ x l fp w, I x l → RdOk w b s l → J x w fp → Calls Tryz.prog 65 (#[.pointer (some ⟨b, 0, none⟩)] ++ caps) w (OnePost tvP J b s fp w (step x l)))
    (h : RdOk w b s l) (hj : J x0 w fp) (hs : s.length ≤ 3909374676453) (hm0 : 0 < m) (hm : m ≤ 9223372036854775807) :
    Calls Tryz.prog 64 #[.pointer (some ⟨b, 0, none⟩), .int .i64 m, .func (.func 65) #[] caps] w (ListPost csP 56 2 J b s fp w (listP m step x0 l)) := by
  have hm' : m < 18446744073709551616 := by omega
  have hs' : s.length ≤ 140737488351232 := by omega
  have HO := Lib.hid h; have HST := Lib.hid hst; have HONE := Lib.hid hone; have HJ := Lib.hid hj; have HI0 := Lib.hid hI0; have HI := Lib.hid hI; clear hst hone hj hI0 hI
  obtain ⟨p, hp, hl, h⟩ := h
  obtain ⟨c0, c1, c2, c3⟩ := h.cells
  have H := Lib.hid h; clear h hl
  have hp' : p ≤ s.length := by omega
  clear hp
  rcases hf : freeP m l with _ | ⟨n, l0⟩
  · have HF := Lib.hid hf; clear hf
    have HT : Hid (listP m step x0 l = none) := by show _ = _; unfold listP; rw [HF.out]
    go_enter Tryz.func64, Tryz.ntmps64
    go_wp2_with (first | (go_at_call 105; refine (rd_dead0 H.out).mono ?_; rintro e w' ⟨rfl, rfl⟩))
    refine (rd_free _ _ _ _ _ HO.out hs' hm').mono ?_
    rintro e w1 h1
    rw [HF.out] at h1
    obtain ⟨rfl, hk1, hr1⟩ := h1
    have HR := Lib.hid hr1; have HK := Lib.hid hk1; clear hk1
    obtain ⟨p', f', hf', hp1, hr1⟩ := hr1
    have H1 := Lib.hid hr1; have HF1 := Lib.hid hf'; clear hr1 hf'
    go_wp2_with (first | (go_at_call 105; refine (rd_dead1 H1.out HF1.out).mono ?_; rintro e w' ⟨rfl, rfl⟩))
    go_ret
    rw [HT.out]
    exact ⟨none, 0, [], x0, fp, rfl, Own.nil _ _ _, HST.out.kp HJ.out HK.out (fun g hg => by have := (HST.out.lt HJ.out g hg).2; simp [this]), HK.out.mono (fun k _ hk => by simp at hk; simp [hk]), fun g hg => .inl hg, by simp [ab], rfl, HR.out⟩
  · have HF := Lib.hid hf
    obtain ⟨hsuf, hlen, hnm⟩ := freeP_rest hf
    clear hf hsuf
    go_enter Tryz.func64, Tryz.ntmps64
    go_wp2_with (first | (go_at_call 105; refine (rd_dead0 H.out).mono ?_; rintro e w' ⟨rfl, rfl⟩))
    refine (rd_free _ _ _ _ _ HO.out hs' hm').mono ?_
    rintro e w1 h1
    rw [HF.out] at h1
    obtain ⟨rfl, hk1, hr1⟩ := h1
    have HR := Lib.hid hr1; have HK := Lib.hid hk1; clear hk1
    obtain ⟨p', hp1, hl1, hr1⟩ := hr1
    have H1 := Lib.hid hr1; clear hr1 hl1
    have hp1' : p' ≤ s.length := by omega
    by_cases hle : n ≤ l0.length
    · have HT : Hid (listP m step x0 l = manyP step n x0 l0) := by show _ = _; unfold listP; rw [HF.out]; simp [hle]
      have hlt : ¬ ((s.length : Int) - p' < n) := by omega
      have hns : n ≤ 3909374676453 := by omega
      clear hle hlen hp1 hnm hp'
      go_wp2_with (first | (go_at_call 105; refine (rd_dead0 H1.out).mono ?_; rintro e w' ⟨rfl, rfl⟩) | (go_at_call 107; refine (rd_left _ _ _ _ _ H1.out hs' hp1').mono ?_; rintro e w' ⟨rfl, nq, rfl⟩))
      go_loopw [9, 10, 33] (fun v _ i wr => ∃ (k c : Nat) (a : Option Addr) (ts : List Pr) (x : α) (fp' : List Nat) (l' : Bs), i = .int .u64 (k : Nat) ∧ v = .slice a k c ∧ k ≤ n ∧ Hid (Mid step n x0 l0 k x ts l') ∧ Hid (Own wr 56 2 a k c (ts.flatMap csP)) ∧ Hid (J x wr fp') ∧ Hid (RdOk wr b s l') ∧ Hid (I x l') ∧ Hid (Kp (b :: fp) w wr) ∧ Hid (∀ g ∈ fp', g ∈ fp ∨ w.heap.size ≤ g) ∧ Hid (∀ g ∈ ab a, w.heap.size ≤ g ∧ g ∉ fp')) (fun _ _ i _ => n - (intOf i).toNat)
      case atStart => exact ⟨0, 0, none, [], x0, fp, l0, rfl, rfl, Nat.zero_le _, Mid.start _ _ _ _, Own.nil _ _ _, HST.out.kp HJ.out (HK.out.drewN _) (fun g hg => by have := (HST.out.lt HJ.out g hg).2; simp [this]), HR.out.kp ((Kp.refl [] _).drewN _) (by simp), HI0.out _ _ HF.out, (HK.out.drewN _).mono (fun k _ hk => by simp at hk; simp [hk]), fun g hg => .inl hg, by simp [Hid, ab]⟩
      case round =>
        obtain ⟨k, c, a, ts, x, fp', l', rfl, rfl, hk, HM, HOW, HJ1, HRD, HII, HKP, HFP, HAB⟩ := hrel
        by_cases hlt2 : k < n
        · rcases hstep : step x l' with _ | ⟨x1, t1, l1⟩
          · have HS := Lib.hid hstep; clear hstep
            go_wp2_with fail
            refine (HONE.out _ _ _ _ HII.out (HRD.out.kp ((Kp.refl [] _).alloc _) (by simp)) (HST.out.kp HJ1.out ((Kp.refl [] _).alloc _) (by simp))).mono ?_
            rintro e w2 ⟨t, x2, fp2, rfl, hj2, k2, hf2, hr2⟩
            rw [HS.out] at hr2
            have HJ2 := Lib.hid hj2; have K2 := Lib.hid k2; have HF2 := Lib.hid hf2
            have hnb : wr.heap.size ∉ b :: fp' := by
              have h1 := HRD.out.lt
              simp only [List.mem_cons, not_or]
              exact ⟨by omega, fun h => by have := (HST.out.lt HJ1.out _ h).1; omega⟩
            have hbx := (Blk.new wr 56 #[.string ⟨#[]⟩, .string ⟨#[]⟩]).kp k2 hnb
            have HBX := Lib.hid hbx
            have hx0 := k2.size
            simp only [World.size_alloc] at hx0
            have x0 := hbx.cell 0; have x1 := hbx.cell 1; have x2f := hbx.frozen 0; have x3f := hbx.frozen 1; simp only [List.getElem?_toArray, List.getElem?_cons_zero, List.getElem?_cons_succ] at x0 x1
            clear hj2 k2 hf2 hnb hbx
            have hbw := HRD.out.lt
            obtain ⟨pb, fb, hf', hpb, hr2⟩ := hr2
            have HR2 := Lib.hid hr2; have HFB := Lib.hid hf'; clear hr2 hf'
            go_wp2_with (first | (go_at_call 105; refine (rd_dead1 (Blk.kp HR2.out (((Kp.refl [wr.heap.size] w2).setCell (a := ⟨wr.heap.size, 0, none⟩) _ (.inr (by simp))).setCell (a := ⟨wr.heap.size, 1, none⟩) _ (.inr (by simp))) (by simp; omega)) HFB.out).mono ?_; rintro e w' ⟨rfl, rfl⟩))
            go_ret
            rw [HT.out, HM.out.fail hlt2 HS.out]
            obtain ⟨-, h2, h3, h4, -, -⟩ := list_round HST.out HO.out.lt HOW.out HKP.out HJ1.out HFP.out HAB.out K2.out HJ2.out HF2.out (((Kp.refl [wr.heap.size] w2).setCell (a := ⟨wr.heap.size, 0, none⟩) _ (.inr (by simp))).setCell (a := ⟨wr.heap.size, 1, none⟩) _ (.inr (by simp)))
            exact ⟨none, 0, [], _, fp2, rfl, Own.nil _ _ _, h2, h3, h4, by simp [ab], rfl, _, _, HFB.out, hpb, Blk.kp HR2.out (((Kp.refl [wr.heap.size] w2).setCell (a := ⟨wr.heap.size, 0, none⟩) _ (.inr (by simp))).setCell (a := ⟨wr.heap.size, 1, none⟩) _ (.inr (by simp))) (by simp; omega)⟩
          · have HS := Lib.hid hstep; clear hstep
            go_wp2_with fail
            refine (HONE.out _ _ _ _ HII.out (HRD.out.kp ((Kp.refl [] _).alloc _) (by simp)) (HST.out.kp HJ1.out ((Kp.refl [] _).alloc _) (by simp))).mono ?_
            rintro e w2 ⟨t, x2, fp2, rfl, hj2, k2, hf2, hr2⟩
            rw [HS.out] at hr2
            obtain ⟨rfl, rfl, hr2⟩ := hr2
            have HJ2 := Lib.hid hj2; have K2 := Lib.hid k2; have HF2 := Lib.hid hf2; have HRO := Lib.hid hr2
            have hnb : wr.heap.size ∉ b :: fp' := by
              have h1 := HRD.out.lt
              simp only [List.mem_cons, not_or]
              exact ⟨by omega, fun h => by have := (HST.out.lt HJ1.out _ h).1; omega⟩
            have hbx := (Blk.new wr 56 #[.string ⟨#[]⟩, .string ⟨#[]⟩]).kp k2 hnb
            have HBX := Lib.hid hbx
            have hx0 := k2.size
            simp only [World.size_alloc] at hx0
            have x0 := hbx.cell 0; have x1 := hbx.cell 1; have x2f := hbx.frozen 0; have x3f := hbx.frozen 1; simp only [List.getElem?_toArray, List.getElem?_cons_zero, List.getElem?_cons_succ] at x0 x1
            clear hj2 k2 hf2 hnb hbx
            have hbw := HRD.out.lt
            obtain ⟨pb, hpb, -, hr2⟩ := hr2
            have HR2 := Lib.hid hr2; clear hr2
            have HX := Lib.hid (fun (w3 : World) (k3 : Kp [wr.heap.size] w2 w3) => list_round HST.out HO.out.lt HOW.out HKP.out HJ1.out HFP.out HAB.out K2.out HJ2.out HF2.out k3)
            go_wp2_with (first | (go_at_call 105; refine (rd_dead0 (Blk.kp HR2.out (((Kp.refl [wr.heap.size] w2).setCell (a := ⟨wr.heap.size, 0, none⟩) _ (.inr (by simp))).setCell (a := ⟨wr.heap.size, 1, none⟩) _ (.inr (by simp))) (by simp; omega))).mono ?_; rintro e w' ⟨rfl, rfl⟩) | (at_builtin; refine wpList_app_pair rfl rfl rfl (HX.out _ ((((Kp.refl [wr.heap.size] w2).setCell (a := ⟨wr.heap.size, 0, none⟩) _ (.inr (by simp))).setCell (a := ⟨wr.heap.size, 1, none⟩) _ (.inr (by simp))).alloc _)).1 1 _ (src_row Tryz.underlying24 _ _ _ _ (by simp) rfl (by simp [Value.oneCell'])) (by omega) ?_; intro a2 c2 w4 hown hk4 hn4; have HO4 := Lib.hid hown; have HK4 := Lib.hid hk4; have HN4 := Lib.hid hn4; clear hown hk4 hn4))
            obtain ⟨h1, h2, h3, h4, h5, h6⟩ := HX.out _ ((((Kp.refl [wr.heap.size] w2).setCell (a := ⟨wr.heap.size, 0, none⟩) _ (.inr (by simp))).setCell (a := ⟨wr.heap.size, 1, none⟩) _ (.inr (by simp))).alloc (.cells #[.string ⟨t.1.toArray⟩, .string ⟨t.2.toArray⟩] 56))
            obtain ⟨g1, g2, g3, g4⟩ := list_round2 HST.out h1 h2 h3 h5 h6 (HRO.out.kp ((((Kp.refl [wr.heap.size] w2).setCell (a := ⟨wr.heap.size, 0, none⟩) _ (.inr (by simp))).setCell (a := ⟨wr.heap.size, 1, none⟩) _ (.inr (by simp))).alloc (.cells #[.string ⟨t.1.toArray⟩, .string ⟨t.2.toArray⟩] 56)) (by simp; omega)) HK4.out HN4.out
            go_roundw
            case rel => exact ⟨k + 1, c2, a2, ts ++ [t], x2, fp2, l1, by go_num, rfl, by omega, HM.out.step hlt2 HS.out, by have := HO4.out; show Own _ _ _ _ _ _ _; rw [List.flatMap_append]; simpa [csP] using this, g1, g2, HI.out _ _ _ _ _ HII.out HS.out, g3, h4, g4⟩
            case measure => simp [intOf]; omega
        · have hkn : k = n := by omega
          subst hkn
          have HTS : Hid (ts.length = k) := HM.out.2.1
          go_wp2_with fail
          go_ret
          rw [HT.out, HM.out.done]
          refine ⟨a, c, ts, x, fp', ?_, ?_, HJ1.out, HKP.out, HFP.out, HAB.out, rfl, rfl, HRD.out⟩
          · rw [HTS.out]; rfl
          · rw [HTS.out]; exact HOW.out
    · have HT : Hid (listP m step x0 l = none) := by show _ = _; unfold listP; rw [HF.out]; simp [hle]
      have hlt : ((s.length : Int) - p' < n) := by omega
      clear hle hp1
      go_wp2_with (first | (go_at_call 105; refine (rd_dead0 H1.out).mono ?_; rintro e w' ⟨rfl, rfl⟩) | (go_at_call 107; refine (rd_left _ _ _ _ _ H1.out hs' hp1').mono ?_; rintro e w' ⟨rfl, nq, rfl⟩) | (go_at_call 108; refine (rd_fail _ _ _ _ _ _ _ (Blk.drewN H1.out _)).mono ?_; rintro e w' ⟨rfl, hk2, hr2⟩; have HK2 := Lib.hid hk2; have HR2 := Lib.hid hr2; clear hk2 hr2))
      go_ret
      rw [HT.out]
      have hkk := (HK.out.drewN _).trans HK2.out
      exact ⟨none, 0, [], x0, fp, rfl, Own.nil _ _ _, HST.out.kp HJ.out hkk (fun g hg => by have := (HST.out.lt HJ.out g hg).2; simp [this]), hkk.mono (fun k _ hk => by simp at hk; simp [hk]), fun g hg => .inl hg, by simp [ab], rfl, HR2.out.bad (by decide) hp'⟩

end Go.Proofs.YtemicgccgcmmbaaGreat

/- The reader's methods on any reader, well or not; a pair is read. -/
namespace Go.Proofs.YtemicgccgcmmbaaGreat
set_option linter.unusedVariables false
set_option linter.unusedSimpArgs false
open Go Go.RowKit

/-- A reader: what is left, or faulted. -/
def RdSt (w : World) (b : Nat) (s : Bs) : Option Bs → Prop
  | some l => RdOk w b s l
  | none => RdBad w b s
theorem RdSt.kp {S : List Nat} {w w' : World} {b : Nat} {s : Bs} {o : Option Bs} (h : RdSt w b s o) (k : Kp S w w') (hs : b ∉ S) : RdSt w' b s o := by
  cases o
  · exact RdBad.kp h k hs
  · exact RdOk.kp h k hs
theorem RdSt.lt {w : World} {b : Nat} {s : Bs} {o : Option Bs} (h : RdSt w b s o) : b < w.heap.size := by
  cases o
  · exact RdBad.lt h
  · exact RdOk.lt h

/-- What is read: the value, what is left. -/
def gotV {T : Type} (p : Bs → Option (T × Bs)) (z : T) (o : Option Bs) : T := ((o.bind p).map (·.1)).getD z
def gotR {T : Type} (p : Bs → Option (T × Bs)) (o : Option Bs) : Option Bs := (o.bind p).map (·.2)

def RdPost {T : Type} (tv : T → Value) (p : Bs → Option (T × Bs)) (z : T) (b : Nat) (s : Bs) (o : Option Bs) (w : World) (e : Ending) (w' : World) : Prop :=
  e = .returned (tv (gotV p z o)) ∧ Kp [b] w w' ∧ RdSt w' b s (gotR p o)

theorem text_all (b m : Nat) (s : Bs) (o : Option Bs) (w : World) (h : RdSt w b s o) (hs : s.length ≤ 140737488351232) (hm0 : 0 < m) (hm : m ≤ 9223372036854775807) :
    Calls Tryz.prog 66 #[.pointer (some ⟨b, 0, none⟩), .int .i64 m] w (RdPost (fun t : Bs => .string ⟨t.toArray⟩) (textP m) [] b s o w) := by
  cases o with
  | none => exact (rd_text_bad b s m w h).mono fun e w' ⟨h1, h2⟩ => by subst h2; exact ⟨h1, Kp.refl _ _, h⟩
  | some l =>
    refine (rd_text b m s l w h hs hm0 hm).mono fun e w' h1 => ?_
    unfold StrPost at h1
    split at h1 <;> (rename_i hp; exact ⟨by simpa [gotV, hp] using h1.1, h1.2.1, by unfold gotR; simp only [hp, Option.bind_some, Option.map_some, Option.map_none]; exact h1.2.2⟩)
theorem u32_all (b : Nat) (s : Bs) (o : Option Bs) (w : World) (h : RdSt w b s o) (hs : s.length ≤ 140737488351232) :
    Calls Tryz.prog 70 #[.pointer (some ⟨b, 0, none⟩)] w (RdPost (fun n : Nat => .int .u32 (n : Int)) (takeP 4) 0 b s o w) := by
  cases o with
  | none => exact (take_bad_uint32 b s w h).mono fun e w' ⟨h1, h2⟩ => by subst h2; exact ⟨h1, Kp.refl _ _, h⟩
  | some l =>
    refine (take_uint32 b s l w h hs).mono fun e w' h1 => ?_
    unfold TakePostuint32 at h1
    split at h1 <;> (rename_i hp; exact ⟨by simpa [gotV, hp] using h1.1, h1.2.1, by unfold gotR; simp only [hp, Option.bind_some, Option.map_some, Option.map_none]; exact h1.2.2⟩)
theorem u8_all (b : Nat) (s : Bs) (o : Option Bs) (w : World) (h : RdSt w b s o) (hs : s.length ≤ 140737488351232) :
    Calls Tryz.prog 63 #[.pointer (some ⟨b, 0, none⟩)] w (RdPost (fun n : Nat => .int .u8 (n : Int)) (takeP 1) 0 b s o w) := by
  cases o with
  | none => exact (take_bad_uint8 b s w h).mono fun e w' ⟨h1, h2⟩ => by subst h2; exact ⟨h1, Kp.refl _ _, h⟩
  | some l =>
    refine (take_uint8 b s l w h hs).mono fun e w' h1 => ?_
    unfold TakePostuint8 at h1
    split at h1 <;> (rename_i hp; exact ⟨by simpa [gotV, hp] using h1.1, h1.2.1, by unfold gotR; simp only [hp, Option.bind_some, Option.map_some, Option.map_none]; exact h1.2.2⟩)
def dgP (n : Nat) (l : Bs) : Option (Dg × Bs) := (rawP n l).map fun r => (Dg.pad r.1, r.2)
theorem dg_all (b n : Nat) (s : Bs) (o : Option Bs) (w : World) (h : RdSt w b s o) (hs : s.length ≤ 140737488351232) (hn : n ≤ 32) :
    Calls Tryz.prog 71 #[.pointer (some ⟨b, 0, none⟩), .int .i64 n] w (RdPost (fun d : Dg => .agg d.c) (dgP n) Dg.zero b s o w) := by
  cases o with
  | none => exact (rd_digest_bad b n s w h hn).mono fun e w' ⟨h1, h2⟩ => ⟨h1, h2.of_nil, RdBad.kp h h2 (by simp)⟩
  | some l =>
    refine (rd_digest b n s l w h hs hn).mono fun e w' h1 => ?_
    unfold DgPost at h1
    split at h1 <;> (rename_i hp; exact ⟨by simpa [gotV, dgP, hp] using h1.1, h1.2.1, by unfold gotR; simp only [dgP, hp, Option.bind_some, Option.map_some, Option.map_none]; exact h1.2.2⟩)

def isRow : TypeDesc → Bool
  | .struct _ | .array _ _ => true
  | _ => false
/-- A struct that stands in a block of its own is handed back. -/
theorem row_ret {fn : Func} {R : Ending → World → Prop} {a : Act} {w : World} {p : Tmp} {ty : TypeId} {d : TypeDesc} (g : Nat) {t : TypeId} {cs : Array Value} (hr : fn.results = #[.cell p ty]) (hu : Tryz.prog.underlying ty = some d) (hd : isRow d = true) (hi : (Tryz.prog.info? ty).map (·.size) = some cs.size)
    (hp : a.tmps.getD p undef = .pointer (some ⟨g, 0, none⟩)) (hg : Blk w g t cs) (hdf : a.defers = []) (hR : R (.returned (.agg cs)) w) : bodyPost Tryz.prog fn R .ret a w :=
  bodyPost_ret (results_cell_row hr a.tmps w g t cs (0, 0) _ hp hg hu (by cases d <;> first | rfl | cases hd) hi) hdf hR

/-- A pair's bytes. -/
def pairP (P : Nat) (_ : Unit) (l : Bs) : Option (Unit × Pr × Bs) :=
  match textP (P / 16) l with
  | none => none
  | some (k, l1) => match textP (P / 8) l1 with
    | none => none
    | some (v, l2) => some ((), (k, v), l2)

theorem pairP_got {P : Nat} {l : Bs} {w : World} {b : Nat} {s v1 v2 : Bs} (h1 : gotV (textP (P / 16)) [] (some l) = v1) (h2 : gotV (textP (P / 8)) [] (gotR (textP (P / 16)) (some l)) = v2)
    (h : RdSt w b s (gotR (textP (P / 8)) (gotR (textP (P / 16)) (some l)))) :
    match pairP P () l with | some (x1, t1, l') => () = x1 ∧ (v1, v2) = t1 ∧ RdOk w b s l' | none => RdBad w b s := by
  unfold pairP
  cases ht : textP (P / 16) l with
  | none => simpa [gotR, ht, RdSt] using h
  | some r =>
    simp only [gotV, gotR, Option.bind_some, ht, Option.map_some, Option.getD_some] at h1 h2 h
    cases ht2 : textP (P / 8) r.2 with
    | none => simp only [ht2, Option.map_none] at h ⊢; exact h
    | some r2 => simp only [ht2, Option.map_some, Option.getD_some] at h h2 ⊢; exact ⟨trivial, by rw [h1, h2], h⟩

/-- The pairs' closure looks at the frame. -/
def JP (fb P : Nat) (wd : Int) (_ : Unit) (w : World) (fp : List Nat) : Prop := fp = [fb] ∧ Blk w fb 23 #[.int .i64 P, .int .i64 wd]
theorem JP.st (b fb P : Nat) (wd : Int) (hne : fb ≠ b) : St b (JP fb P wd) where
  kp := fun {x w w' fp S} ⟨h1, h2⟩ k hs => ⟨h1, h2.kp k (hs fb (by simp [h1]))⟩
  lt := fun {x w fp} ⟨h1, h2⟩ g hg => by subst h1; simp at hg; subst hg; exact ⟨h2.lt, hne⟩

set_option maxHeartbeats 1000000 in set_option maxRecDepth 100000 in
theorem one_pair (b fb P : Nat) (wd : Int) (s l : Bs) (w : World) (hs : s.length ≤ 140737488351232) (hP0 : 1024 ≤ P) (hP : P ≤ 8192) (hne : fb ≠ b) (h : RdOk w b s l) (hf : Blk w fb 23 #[.int .i64 P, .int .i64 wd]) :
    Calls Tryz.prog 65 #[.pointer (some ⟨b, 0, none⟩), .pointer (some ⟨fb, 0, none⟩)] w (OnePost tvP (JP fb P wd) b s [fb] w (pairP P () l)) := by
  have h16 : (P : Int) / 16 = ((P / 16 : Nat) : Int) := by omega
  have h8 : (P : Int) / 8 = ((P / 8 : Nat) : Int) := by omega
  have H16 := Lib.hid h16; have H8 := Lib.hid h8
  have H : Hid (RdSt w b s (some l)) := h
  have hbl := h.lt
  have HF := Lib.hid hf
  have f0 := hf.cell 0
  have f1 := hf.cell 1
  have hfl := hf.lt
  simp only [List.getElem?_toArray, List.getElem?_cons_zero, List.getElem?_cons_succ] at f0 f1
  clear h hf h16 h8
  go_enter Tryz.func65, Tryz.ntmps65
  go_wp2_with fail
  refine (maxKey_any _ _ _ (by omega) (by omega)).mono ?_
  rintro e w' ⟨rfl, bs1, n1, rfl⟩
  rw [H16.out]
  go_wp2_with fail
  refine (text_all b (P / 16) s _ _ (H.out.kp (((Kp.refl [] _).alloc _).ext _ _) (by simp)) hs (by omega) (by omega)).mono ?_
  rintro e w1 ⟨rfl, k1, r1⟩
  have hblk := (Blk.alloc HF.out (.cells #[.string ⟨#[]⟩, .string ⟨#[]⟩] 56)).kp ((Kp.refl [] _).ext bs1 n1) (by simp)
  have hbf := hblk.kp k1 (by simp; exact hne)
  have hrb := (((Blk.new w 56 #[.string ⟨#[]⟩, .string ⟨#[]⟩]).kp ((Kp.refl [] _).ext bs1 n1) (by simp)).kp k1 (by simp; omega))
  have g0 := hbf.cell 0
  have g1 := hbf.cell 1
  have y0 := hrb.cell 0
  have y1 := hrb.cell 1
  have z0 := hrb.frozen 0
  have z1 := hrb.frozen 1
  simp only [List.getElem?_toArray, List.getElem?_cons_zero, List.getElem?_cons_succ] at g0 g1 y0 y1
  have hsz := k1.size
  simp only [ext_size, World.size_alloc] at hsz
  obtain ⟨v1, hv1⟩ : ∃ v, gotV (textP (P / 16)) [] (some l) = v := ⟨_, rfl⟩
  rw [hv1]
  have HV1 := Lib.hid hv1; have K1 := Lib.hid k1; have R1 := Lib.hid r1; have HBF := Lib.hid hbf; have HRB := Lib.hid hrb
  clear hv1 k1 r1 hblk hbf hrb
  go_wp2_with fail
  refine (maxVal_any _ _ _ (by omega) (by omega)).mono ?_
  rintro e w' ⟨rfl, bs2, n2, rfl⟩
  rw [H8.out]
  go_wp2_with fail
  refine (text_all b (P / 8) s _ _ (R1.out.kp ((Kp.refl [] _).ext _ _) (by simp)) hs (by omega) (by omega)).mono ?_
  rintro e w2 ⟨rfl, k2, r2⟩
  obtain ⟨v2, hv2⟩ : ∃ v, gotV (textP (P / 8)) [] (gotR (textP (P / 16)) (some l)) = v := ⟨_, rfl⟩
  rw [hv2]
  have hrb := (Blk.kp HRB.out ((Kp.refl [] _).ext bs2 n2) (by simp)).kp k2 (by simp; omega)
  have y2 := hrb.cell 0
  have y3 := hrb.cell 1
  have z2 := hrb.frozen 0
  have z3 := hrb.frozen 1
  simp only [List.getElem?_toArray, List.getElem?_cons_zero, List.getElem?_cons_succ] at y2 y3
  have HV2 := Lib.hid hv2; have K2 := Lib.hid k2; have R2 := Lib.hid r2
  clear hv2 k2 r2 hrb
  go_wp2_with fail
  have hfin := ((HRB.out.kp ((Kp.refl [] _).ext bs2 n2) (by simp)).kp K2.out (by simp; omega)).set 0 (.string ⟨v1.toArray⟩)
  have hfin := hfin.set 1 (.string ⟨v2.toArray⟩)
  simp at hfin
  have k3 : Kp [w.heap.size] w2 ((w2.setCell ⟨w.heap.size, 0, none⟩ (.string ⟨v1.toArray⟩)).setCell ⟨w.heap.size, 1, none⟩ (.string ⟨v2.toArray⟩)) := ((Kp.refl [w.heap.size] _).setCell _ (.inr (by simp))).setCell _ (.inr (by simp))
  refine row_ret w.heap.size rfl Tryz.underlying56 rfl (by kernel_rfl) rfl hfin rfl ⟨(v1, v2), (), [fb], rfl, ⟨rfl, ?_⟩, ?_, fun g hg => .inl hg, by have := pairP_got HV1.out HV2.out (R2.out.kp k3 (by simp; omega)); revert this; cases pairP P () l <;> exact id⟩
  · exact ((HBF.out.kp ((Kp.refl [] _).ext bs2 n2) (by simp)).kp K2.out (by simp; exact hne)).kp k3 (by simp; omega)
  · refine Kp.from (T := [w.heap.size]) ?_ k3 (by simp)
    exact ((((((Kp.refl [b, fb] _).alloc _).ext _ _).trans (K1.out.mono (fun k _ hk => by simp at hk; simp [hk]))).ext _ _).trans (K2.out.mono (fun k _ hk => by simp at hk; simp [hk])))

end Go.Proofs.YtemicgccgcmmbaaGreat

/- pack.List of kids, over the contract of the closure that reads one. -/
namespace Go.Proofs.YtemicgccgcmmbaaGreat
set_option linter.unusedVariables false
set_option linter.unusedSimpArgs false
open Go Go.RowKit

abbrev tvK (x : Kd) : Value := .agg x.c
abbrev csK (x : Kd) : List Value := x.c.toList

set_option maxHeartbeats 1000000 in set_option maxRecDepth 100000 in
theorem list_kid_bad (b : Nat) (s : Bs) (m : Int) (f : Value) (w : World) (h : RdBad w b s) :
    Calls Tryz.prog 68 #[.pointer (some ⟨b, 0, none⟩), .int .i64 m, f] w fun e w' => e = .returned (.slice none 0 0) ∧ w = w' := by
  obtain ⟨p, f, hf, hp, h⟩ := h
  have H := Lib.hid h; have HF := Lib.hid hf; clear h hf
  go_enter Tryz.func68, Tryz.ntmps68
  go_wp2_with (go_at_call 105; refine (rd_dead1 H.out HF.out).mono ?_; rintro e w' ⟨rfl, rfl⟩)
  go_ret
  exact ⟨rfl, rfl⟩

set_option maxHeartbeats 1000000 in set_option maxRecDepth 100000 in
theorem list_kid {α : Type} {step : α → Bs → Option (α × Kd × Bs)} {J : α → World → List Nat → Prop} {I : α → Bs → Prop} (b m : Nat) (s l : Bs) (x0 : α) (fp : List Nat) (caps : Array Value) (w : World)
    (hst : St b J) (hI0 : ∀ n l', freeP m l = some (n, l') → I x0 l') (hI : ∀ x l x' t l', I x l → step x l = some (x', t, l') → I x' l') (hone : ∀ x l fp w, I x l → RdOk w b s l → J x w fp → Calls Tryz.prog 69 (#[.pointer (some ⟨b, 0, none⟩)] ++ caps) w (OnePost tvK J b s fp w (step x l)))
    (h : RdOk w b s l) (hj : J x0 w fp) (hs : s.length ≤ 3909374676453) (hm0 : 0 < m) (hm : m ≤ 9223372036854775807) :
    Calls Tryz.prog 68 #[.pointer (some ⟨b, 0, none⟩), .int .i64 m, .func (.func 69) #[] caps] w (ListPost csK 59 33 J b s fp w (listP m step x0 l)) := by
  have hm' : m < 18446744073709551616 := by omega
  have hs' : s.length ≤ 140737488351232 := by omega
  have HO := Lib.hid h; have HST := Lib.hid hst; have HONE := Lib.hid hone; have HJ := Lib.hid hj; have HI0 := Lib.hid hI0; have HI := Lib.hid hI; clear hst hone hj hI0 hI
  obtain ⟨p, hp, hl, h⟩ := h
  obtain ⟨c0, c1, c2, c3⟩ := h.cells
  have H := Lib.hid h; clear h hl
  have hp' : p ≤ s.length := by omega
  clear hp
  rcases hf : freeP m l with _ | ⟨n, l0⟩
  · have HF := Lib.hid hf; clear hf
    have HT : Hid (listP m step x0 l = none) := by show _ = _; unfold listP; rw [HF.out]
    go_enter Tryz.func68, Tryz.ntmps68
    go_wp2_with (first | (go_at_call 105; refine (rd_dead0 H.out).mono ?_; rintro e w' ⟨rfl, rfl⟩))
    refine (rd_free _ _ _ _ _ HO.out hs' hm').mono ?_
    rintro e w1 h1
    rw [HF.out] at h1
    obtain ⟨rfl, hk1, hr1⟩ := h1
    have HR := Lib.hid hr1; have HK := Lib.hid hk1; clear hk1
    obtain ⟨p', f', hf', hp1, hr1⟩ := hr1
    have H1 := Lib.hid hr1; have HF1 := Lib.hid hf'; clear hr1 hf'
    go_wp2_with (first | (go_at_call 105; refine (rd_dead1 H1.out HF1.out).mono ?_; rintro e w' ⟨rfl, rfl⟩))
    go_ret
    rw [HT.out]
    exact ⟨none, 0, [], x0, fp, rfl, Own.nil _ _ _, HST.out.kp HJ.out HK.out (fun g hg => by have := (HST.out.lt HJ.out g hg).2; simp [this]), HK.out.mono (fun k _ hk => by simp at hk; simp [hk]), fun g hg => .inl hg, by simp [ab], rfl, HR.out⟩
  · have HF := Lib.hid hf
    obtain ⟨hsuf, hlen, hnm⟩ := freeP_rest hf
    clear hf hsuf
    go_enter Tryz.func68, Tryz.ntmps68
    go_wp2_with (first | (go_at_call 105; refine (rd_dead0 H.out).mono ?_; rintro e w' ⟨rfl, rfl⟩))
    refine (rd_free _ _ _ _ _ HO.out hs' hm').mono ?_
    rintro e w1 h1
    rw [HF.out] at h1
    obtain ⟨rfl, hk1, hr1⟩ := h1
    have HR := Lib.hid hr1; have HK := Lib.hid hk1; clear hk1
    obtain ⟨p', hp1, hl1, hr1⟩ := hr1
    have H1 := Lib.hid hr1; clear hr1 hl1
    have hp1' : p' ≤ s.length := by omega
    by_cases hle : n ≤ l0.length
    · have HT : Hid (listP m step x0 l = manyP step n x0 l0) := by show _ = _; unfold listP; rw [HF.out]; simp [hle]
      have hlt : ¬ ((s.length : Int) - p' < n) := by omega
      have hns : n ≤ 3909374676453 := by omega
      clear hle hlen hp1 hnm hp'
      go_wp2_with (first | (go_at_call 105; refine (rd_dead0 H1.out).mono ?_; rintro e w' ⟨rfl, rfl⟩) | (go_at_call 107; refine (rd_left _ _ _ _ _ H1.out hs' hp1').mono ?_; rintro e w' ⟨rfl, nq, rfl⟩))
      go_loopw [9, 10, 33] (fun v _ i wr => ∃ (k c : Nat) (a : Option Addr) (ts : List Kd) (x : α) (fp' : List Nat) (l' : Bs), i = .int .u64 (k : Nat) ∧ v = .slice a k c ∧ k ≤ n ∧ Hid (Mid step n x0 l0 k x ts l') ∧ Hid (Own wr 59 33 a k c (ts.flatMap csK)) ∧ Hid (J x wr fp') ∧ Hid (RdOk wr b s l') ∧ Hid (I x l') ∧ Hid (Kp (b :: fp) w wr) ∧ Hid (∀ g ∈ fp', g ∈ fp ∨ w.heap.size ≤ g) ∧ Hid (∀ g ∈ ab a, w.heap.size ≤ g ∧ g ∉ fp')) (fun _ _ i _ => n - (intOf i).toNat)
      case atStart => exact ⟨0, 0, none, [], x0, fp, l0, rfl, rfl, Nat.zero_le _, Mid.start _ _ _ _, Own.nil _ _ _, HST.out.kp HJ.out (HK.out.drewN _) (fun g hg => by have := (HST.out.lt HJ.out g hg).2; simp [this]), HR.out.kp ((Kp.refl [] _).drewN _) (by simp), HI0.out _ _ HF.out, (HK.out.drewN _).mono (fun k _ hk => by simp at hk; simp [hk]), fun g hg => .inl hg, by simp [Hid, ab]⟩
      case round =>
        obtain ⟨k, c, a, ts, x, fp', l', rfl, rfl, hk, HM, HOW, HJ1, HRD, HII, HKP, HFP, HAB⟩ := hrel
        by_cases hlt2 : k < n
        · rcases hstep : step x l' with _ | ⟨x1, t1, l1⟩
          · have HS := Lib.hid hstep; clear hstep
            go_wp2_with fail
            refine (HONE.out _ _ _ _ HII.out (HRD.out.kp ((Kp.refl [] _).alloc _) (by simp)) (HST.out.kp HJ1.out ((Kp.refl [] _).alloc _) (by simp))).mono ?_
            rintro e w2 ⟨t, x2, fp2, rfl, hj2, k2, hf2, hr2⟩
            rw [HS.out] at hr2
            have HJ2 := Lib.hid hj2; have K2 := Lib.hid k2; have HF2 := Lib.hid hf2
            have hnb : wr.heap.size ∉ b :: fp' := by
              have h1 := HRD.out.lt
              simp only [List.mem_cons, not_or]
              exact ⟨by omega, fun h => by have := (HST.out.lt HJ1.out _ h).1; omega⟩
            have hbx := (Blk.new wr 59 Kd.zero.c).kp k2 hnb
            have HBX := Lib.hid hbx
            have hx0 := k2.size
            simp only [World.size_alloc] at hx0
            have x0 := own?_blk hbx
            clear hj2 k2 hf2 hnb hbx
            have hbw := HRD.out.lt
            obtain ⟨pb, fb, hf', hpb, hr2⟩ := hr2
            have HR2 := Lib.hid hr2; have HFB := Lib.hid hf'; clear hr2 hf'
            go_wp2_with (first | (go_at_call 105; refine (rd_dead1 (Blk.kp HR2.out ((Kp.refl [wr.heap.size] w2).setRow wr.heap.size _ (by simp)) (by simp; omega)) HFB.out).mono ?_; rintro e w' ⟨rfl, rfl⟩))
            go_ret
            rw [HT.out, HM.out.fail hlt2 HS.out]
            obtain ⟨-, h2, h3, h4, -, -⟩ := list_round HST.out HO.out.lt HOW.out HKP.out HJ1.out HFP.out HAB.out K2.out HJ2.out HF2.out ((Kp.refl [wr.heap.size] w2).setRow wr.heap.size _ (by simp))
            exact ⟨none, 0, [], _, fp2, rfl, Own.nil _ _ _, h2, h3, h4, by simp [ab], rfl, _, _, HFB.out, hpb, Blk.kp HR2.out ((Kp.refl [wr.heap.size] w2).setRow wr.heap.size _ (by simp)) (by simp; omega)⟩
          · have HS := Lib.hid hstep; clear hstep
            go_wp2_with fail
            refine (HONE.out _ _ _ _ HII.out (HRD.out.kp ((Kp.refl [] _).alloc _) (by simp)) (HST.out.kp HJ1.out ((Kp.refl [] _).alloc _) (by simp))).mono ?_
            rintro e w2 ⟨t, x2, fp2, rfl, hj2, k2, hf2, hr2⟩
            rw [HS.out] at hr2
            obtain ⟨rfl, rfl, hr2⟩ := hr2
            have HJ2 := Lib.hid hj2; have K2 := Lib.hid k2; have HF2 := Lib.hid hf2; have HRO := Lib.hid hr2
            have hnb : wr.heap.size ∉ b :: fp' := by
              have h1 := HRD.out.lt
              simp only [List.mem_cons, not_or]
              exact ⟨by omega, fun h => by have := (HST.out.lt HJ1.out _ h).1; omega⟩
            have hbx := (Blk.new wr 59 Kd.zero.c).kp k2 hnb
            have HBX := Lib.hid hbx
            have hx0 := k2.size
            simp only [World.size_alloc] at hx0
            have x0 := own?_blk hbx
            clear hj2 k2 hf2 hnb hbx
            have hbw := HRD.out.lt
            obtain ⟨pb, hpb, -, hr2⟩ := hr2
            have HR2 := Lib.hid hr2; clear hr2
            have HX := Lib.hid (fun (w3 : World) (k3 : Kp [wr.heap.size] w2 w3) => list_round HST.out HO.out.lt HOW.out HKP.out HJ1.out HFP.out HAB.out K2.out HJ2.out HF2.out k3)
            go_wp2_with (first | (go_at_call 105; refine (rd_dead0 (Blk.kp HR2.out ((Kp.refl [wr.heap.size] w2).setRow wr.heap.size _ (by simp)) (by simp; omega))).mono ?_; rintro e w' ⟨rfl, rfl⟩) | (at_builtin; refine wpList_app_kid rfl rfl rfl (HX.out _ (((Kp.refl [wr.heap.size] w2).setRow wr.heap.size _ (by simp)).alloc _)).1 1 _ (src_row Tryz.underlying26 _ _ _ _ (by simp) (Kd.c_size _) (Kd.c_one _)) (by omega) ?_; intro a2 c2 w4 hown hk4 hn4; have HO4 := Lib.hid hown; have HK4 := Lib.hid hk4; have HN4 := Lib.hid hn4; clear hown hk4 hn4))
            obtain ⟨h1, h2, h3, h4, h5, h6⟩ := HX.out _ (((Kp.refl [wr.heap.size] w2).setRow wr.heap.size _ (by simp)).alloc (.cells t.c 59))
            obtain ⟨g1, g2, g3, g4⟩ := list_round2 HST.out h1 h2 h3 h5 h6 (HRO.out.kp (((Kp.refl [wr.heap.size] w2).setRow wr.heap.size _ (by simp)).alloc (.cells t.c 59)) (by simp; omega)) HK4.out HN4.out
            go_roundw
            case rel => exact ⟨k + 1, c2, a2, ts ++ [t], x2, fp2, l1, by go_num, rfl, by omega, HM.out.step hlt2 HS.out, by have := HO4.out; show Own _ _ _ _ _ _ _; rw [List.flatMap_append]; simpa [csK] using this, g1, g2, HI.out _ _ _ _ _ HII.out HS.out, g3, h4, g4⟩
            case measure => simp [intOf]; omega
        · have hkn : k = n := by omega
          subst hkn
          have HTS : Hid (ts.length = k) := HM.out.2.1
          go_wp2_with fail
          go_ret
          rw [HT.out, HM.out.done]
          refine ⟨a, c, ts, x, fp', ?_, ?_, HJ1.out, HKP.out, HFP.out, HAB.out, rfl, rfl, HRD.out⟩
          · rw [HTS.out]; rfl
          · rw [HTS.out]; exact HOW.out
    · have HT : Hid (listP m step x0 l = none) := by show _ = _; unfold listP; rw [HF.out]; simp [hle]
      have hlt : ((s.length : Int) - p' < n) := by omega
      clear hle hp1
      go_wp2_with (first | (go_at_call 105; refine (rd_dead0 H1.out).mono ?_; rintro e w' ⟨rfl, rfl⟩) | (go_at_call 107; refine (rd_left _ _ _ _ _ H1.out hs' hp1').mono ?_; rintro e w' ⟨rfl, nq, rfl⟩) | (go_at_call 108; refine (rd_fail _ _ _ _ _ _ _ (Blk.drewN H1.out _)).mono ?_; rintro e w' ⟨rfl, hk2, hr2⟩; have HK2 := Lib.hid hk2; have HR2 := Lib.hid hr2; clear hk2 hr2))
      go_ret
      rw [HT.out]
      have hkk := (HK.out.drewN _).trans HK2.out
      exact ⟨none, 0, [], x0, fp, rfl, Own.nil _ _ _, HST.out.kp HJ.out hkk (fun g hg => by have := (HST.out.lt HJ.out g hg).2; simp [this]), hkk.mono (fun k _ hk => by simp at hk; simp [hk]), fun g hg => .inl hg, by simp [ab], rfl, HR2.out.bad (by decide) hp'⟩

end Go.Proofs.YtemicgccgcmmbaaGreat

/- A kid is read, and the separator ahead of it. -/
namespace Go.Proofs.YtemicgccgcmmbaaGreat
set_option linter.unusedVariables false
set_option linter.unusedSimpArgs false
open Go Go.RowKit

/-- The separator ahead of all kids but the first. -/
def sepP (P : Nat) (x : Bool × List Bs) (l : Bs) : Option ((Bool × List Bs) × Bs) :=
  if x.1 = true then some ((false, x.2), l) else (textP (P / 16) l).map fun r => ((false, x.2 ++ [r.1]), r.2)
/-- A kid's bytes. -/
def kidP (P wd : Nat) (pages : Bool) (x : Bool × List Bs) (l : Bs) : Option ((Bool × List Bs) × Kd × Bs) :=
  match sepP P x l with
  | none => none
  | some (x', l1) => match (if pages = true then takeP 4 l1 else some (0, l1)) with
    | none => none
    | some (n, l2) => match dgP wd l2 with
      | none => none
      | some (d, l3) => some (x', ⟨n, d⟩, l3)

/-- The kids' closure: the frame, the word 'with pages', whether it is the first, the node. -/
def JK (b fb pb fst nb P wd : Nat) (pages : Bool) (x : Bool × List Bs) (w : World) (fp : List Nat) : Prop :=
  ∃ a c, fp = fst :: nb :: fb :: pb :: ab a ∧ Blk w fst 4 #[.bool x.1] ∧ Blk w nb 28 #[.slice none 0 0, .slice a x.2.length c, .slice none 0 0] ∧ Own w 9 1 a x.2.length c (x.2.map fun t => .string ⟨t.toArray⟩)
    ∧ Blk w fb 23 #[.int .i64 P, .int .i64 wd] ∧ Blk w pb 4 #[.bool pages] ∧ fst ∉ ab a ∧ nb ∉ ab a ∧ fb ∉ ab a ∧ pb ∉ ab a ∧ b ∉ ab a

theorem JK.st {b fb pb fst nb P wd : Nat} {pages : Bool} (h1 : fb ≠ b) (h2 : pb ≠ b) (h3 : fst ≠ b) (h4 : nb ≠ b) : St b (JK b fb pb fst nb P wd pages) where
  kp := fun {x w w' fp S} ⟨a, c, e, b1, b2, o, b3, b4, n⟩ k hs => by
    subst e
    simp only [List.mem_cons, forall_eq_or_imp] at hs
    exact ⟨a, c, rfl, b1.kp k hs.1, b2.kp k hs.2.1, o.kp k hs.2.2.2.2, b3.kp k hs.2.2.1, b4.kp k hs.2.2.2.1, n⟩
  lt := fun {x w fp} ⟨a, c, e, b1, b2, o, b3, b4, _, _, _, _, n⟩ g hg => by
    subst e
    simp only [List.mem_cons] at hg
    rcases hg with rfl | rfl | rfl | rfl | hg
    · exact ⟨b1.lt, h3⟩
    · exact ⟨b2.lt, h4⟩
    · exact ⟨b3.lt, h1⟩
    · exact ⟨b4.lt, h2⟩
    · exact ⟨o.lt g hg, fun e => n (e ▸ hg)⟩

@[go_sem] theorem Kd.set0 (k : Kd) (n : Nat) : k.c.setIfInBounds 0 (.int .u32 (n : Int)) = (Kd.mk n k.sum).c := by simp [Kd.c]
@[go_sem] theorem Kd.spl1 (k : Kd) (d : Dg) : spl k.c 1 d.c = (Kd.mk k.page d).c := by
  apply Array.ext'
  have h1 : (bC k.sum.l).length = 32 := by simp [bC, k.sum.h]
  have h2 : (bC d.l).length = 32 := by simp [bC, d.h]
  simp [spl, Kd.c, Dg.c, h2]
  omega

/-- What one_kid reads, by its pieces. -/
def kidO (pages : Bool) (o : Option Bs) : Option Bs := if pages = true then gotR (takeP 4) o else o
def kidN (pages : Bool) (o : Option Bs) : Nat := if pages = true then gotV (takeP 4) 0 o else 0
theorem kidP_got {P wd : Nat} {pages : Bool} {x : Bool × List Bs} {l s : Bs} {w : World} {b : Nat} {x' : Bool × List Bs} {o : Option Bs}
    (hx : ∀ r, sepP P x l = some r → x' = r.1 ∧ o = some r.2) (hn : sepP P x l = none → o = none)
    (h : RdSt w b s (gotR (dgP wd) (kidO pages o))) :
    match kidP P wd pages x l with | some (x1, t1, l') => x' = x1 ∧ Kd.mk (kidN pages o) (gotV (dgP wd) Dg.zero (kidO pages o)) = t1 ∧ RdOk w b s l' | none => RdBad w b s := by
  unfold kidP
  cases hs : sepP P x l with
  | none => rw [hn hs] at h; cases pages <;> simpa [kidO, gotR, RdSt] using h
  | some r =>
    obtain ⟨rfl, rfl⟩ := hx r hs
    cases pages
    · simp only [kidO, kidN, Bool.false_eq_true, if_false, gotR, gotV, Option.bind_some] at h ⊢
      cases hd : dgP wd r.2 with
      | none => simp only [hd, Option.map_none] at h ⊢; exact h
      | some r3 => simp only [hd, Option.map_some, Option.getD_some] at h ⊢; exact ⟨trivial, trivial, h⟩
    · simp only [kidO, kidN, if_true, gotR, gotV, Option.bind_some] at h ⊢
      cases ht : takeP 4 r.2 with
      | none => simp only [ht, Option.map_none, Option.bind_none] at h ⊢; exact h
      | some r2 =>
        simp only [ht, Option.map_some, Option.getD_some, Option.bind_some] at h ⊢
        cases hd : dgP wd r2.2 with
        | none => simp only [hd, Option.map_none] at h ⊢; exact h
        | some r3 => simp only [hd, Option.map_some, Option.getD_some] at h ⊢; exact ⟨trivial, trivial, h⟩

/-- The end of one_kid: from the world ahead of the kid's own block to the last. -/
theorem kid_end {b fb pb fst nb P wd : Nat} {pages : Bool} {x x' : Bool × List Bs} {fp fp' : List Nat} {s l : Bs} {w X F : World} {o : Option Bs} {r0 : Nat} {t : Kd}
    (hst : St b (JK b fb pb fst nb P wd pages)) (xj : JK b fb pb fst nb P wd pages x' X fp') (xk : Kp (b :: fp) w X) (xn : ∀ g ∈ fp', g ∈ fp ∨ w.heap.size ≤ g) (hr0 : r0 ∉ fp') (hwr : w.heap.size ≤ r0)
    (kf : Kp [b, r0] X F) (hx : ∀ r, sepP P x l = some r → x' = r.1 ∧ o = some r.2) (hn : sepP P x l = none → o = none)
    (ht : t = Kd.mk (kidN pages o) (gotV (dgP wd) Dg.zero (kidO pages o))) (h : RdSt F b s (gotR (dgP wd) (kidO pages o))) :
    OnePost tvK (JK b fb pb fst nb P wd pages) b s fp w (kidP P wd pages x l) (.returned (.agg t.c)) F := by
  subst ht
  refine ⟨_, x', fp', rfl, hst.kp xj kf ?_, xk.from kf ?_, xn, by have := kidP_got hx hn h; revert this; cases kidP P wd pages x l <;> exact id⟩
  · intro g hg; simp only [List.mem_cons, List.not_mem_nil, or_false, not_or]
    exact ⟨(hst.lt xj g hg).2, fun e => hr0 (e ▸ hg)⟩
  · intro g hg; simp only [List.mem_cons, List.not_mem_nil, or_false] at hg
    rcases hg with rfl | rfl
    · exact .inr (by simp)
    · exact .inl hwr

set_option maxHeartbeats 1000000 in set_option maxRecDepth 100000 in
theorem one_kid (b fb pb fst nb P wd : Nat) (pages : Bool) (x : Bool × List Bs) (fp : List Nat) (s l : Bs) (w : World) (hs : s.length ≤ 3909374676453) (hP0 : 1024 ≤ P) (hP : P ≤ 8192) (hwd : wd ≤ 32)
    (n1 : fb ≠ b) (n2 : pb ≠ b) (n3 : fst ≠ b) (n4 : nb ≠ b) (n5 : fst ≠ nb) (n6 : fst ≠ fb) (n7 : fst ≠ pb) (n8 : nb ≠ fb) (n9 : nb ≠ pb)
    (hI : x.2.length + l.length ≤ s.length) (h : RdOk w b s l) (hj : JK b fb pb fst nb P wd pages x w fp) :
    Calls Tryz.prog 69 #[.pointer (some ⟨b, 0, none⟩), .pointer (some ⟨fst, 0, none⟩), .pointer (some ⟨nb, 0, none⟩), .pointer (some ⟨fb, 0, none⟩), .pointer (some ⟨pb, 0, none⟩)] w (OnePost tvK (JK b fb pb fst nb P wd pages) b s fp w (kidP P wd pages x l)) := by
  obtain ⟨first, seps⟩ := x
  have HST := Lib.hid (JK.st (P := P) (wd := wd) (pages := pages) n1 n2 n3 n4)
  have HJ := Lib.hid hj
  obtain ⟨a, c, rfl, b1, b2, o1, b3, b4, m1, m2, m3, m4, m5⟩ := hj
  have hs' : s.length ≤ 140737488351232 := by omega
  have h16 : (P : Int) / 16 = ((P / 16 : Nat) : Int) := by omega
  have H16 := Lib.hid h16; clear h16
  have H : Hid (RdSt w b s (some l)) := h
  have hbl := h.lt
  have B1 := Lib.hid b1; have B2 := Lib.hid b2; have B3 := Lib.hid b3; have B4 := Lib.hid b4; have O1 := Lib.hid o1
  have l1 := b1.lt; have l2 := b2.lt; have l3 := b3.lt; have l4 := b4.lt
  have p0 := b1.cell 0; have p1 := b1.frozen 0
  have q1 := b2.cell 1; have q2 := b2.frozen 1
  have r0 := b3.cell 0; have r1 := b3.cell 1
  have u0 := b4.cell 0
  simp only [List.getElem?_toArray, List.getElem?_cons_zero, List.getElem?_cons_succ] at p0 q1 r0 r1 u0
  have e5 : nb ≠ fst := fun e => n5 e.symm
  clear h b1 b2 b3 b4 o1
  cases first
  · have hsl : seps.length ≤ 8796093022207 := by simp only at hI; omega
    cases pages
    · go_enter Tryz.func69, Tryz.ntmps69
      go_wp2_with fail
      have sk := Lib.hid (show ∀ (W : World) (T : List Nat), Kp T w W → nb ∉ T → fb ∉ T → (W.cell? ⟨nb, 1, none⟩ = some (.slice a seps.length c) ∧ W.cell? ⟨fb, 0, none⟩ = some (.int .i64 P) ∧ W.cell? ⟨fb, 1, none⟩ = some (.int .i64 wd) ∧ W.frozen? ⟨nb, 1, none⟩ = false) from fun W T k h1 h2 => ⟨k.cell q1 h1, k.cell r0 h2, k.cell r1 h2, (k.frozen l2 h1).trans q2⟩)
      go_region_law (first | (refine step_call rfl 67 rfl #[.agg #[.int .i64 P, .int .i64 wd]] (by kernel_rfl) (maxKey_any _ _ _ (by omega) (by omega)) ?_; rintro e w' ⟨rfl, bs1, e1, rfl⟩; have zn1 : nb < w.heap.size + 1 + bs1.length := (by omega); have zn3 : nb < w.heap.size + 1 := (by omega); refine ⟨_, rfl, ?_⟩; rw [H16.out]) | (refine step_call rfl 66 rfl #[.pointer (some ⟨b, 0, none⟩), .int .i64 ((P / 16 : Nat) : Int)] (by kernel_rfl) (text_all b (P / 16) s _ _ (H.out.kp ((((Kp.refl [] w).alloc _).drew).ext _ _) (by simp)) hs' (by omega) (by omega)) ?_; rintro e w2 ⟨rfl, k2, R2⟩; refine ⟨_, rfl, ?_⟩; have HR2 := Lib.hid R2; have HK2a := Lib.hid ((((Kp.refl [b] (w.alloc (.cells Kd.zero.c 59))).drew).ext _ _).trans k2); have HK2 := Lib.hid (((Kp.refl [b] w).alloc _).trans HK2a.out); clear k2 R2; have zz2 := HK2.out.size; have zn2 : nb < w2.heap.size := (by omega); have zf2 : fb < w2.heap.size := (by omega); obtain ⟨t1, t2, t3, t4⟩ := sk.out _ _ HK2.out (by simp; omega) (by simp; omega)) | (refine step_app_str rfl rfl (by simp [Act.eval, Act.put]) ((O1.out.kp HK2.out (by intro g hg; simp; rintro rfl; exact m5 hg)).kp ((Kp.refl [] _).alloc _) (by simp)) 1 _ (by simp [Act.eval, Act.put]) (src_row Tryz.underlying25 _ _ _ _ rfl rfl (by simp [Value.oneCell'])) (by omega) ?_; intro a2 c2 w4 hown hk4 hn4; have HO4 := Lib.hid hown; have HN4 := Lib.hid hn4; have HK4 := Lib.hid hk4; have HK5 : Hid (Kp (b :: ab a) w w4) := ((HK2.out.alloc _).mono (fun k _ hk => by simp at hk; simp [hk])).trans (hk4.mono (fun k _ hk => by simp [hk])); have HK5a : Hid (Kp (b :: ab a) (w.alloc (.cells Kd.zero.c 59)) w4) := ((HK2a.out.alloc _).mono (fun k _ hk => by simp at hk; simp [hk])).trans (hk4.mono (fun k _ hk => by simp [hk])); clear hown hk4 hn4; have zz5 := HK5.out.size; have zn5 : nb < w4.heap.size := (by omega); obtain ⟨t5, t6, t7, t8⟩ := sk.out _ _ HK5.out (by simp only [List.mem_cons, not_or]; exact ⟨n4, m2⟩) (by simp only [List.mem_cons, not_or]; exact ⟨n1, m3⟩)))
      all_goals
        have wz : w.heap.size < w4.heap.size := by have := HK5a.out.size; simp at this; omega
        have v0 := HK5.out.cell p0 (by simp only [List.mem_cons, not_or]; exact ⟨n3, m1⟩)
        have v1 := (HK5.out.frozen (a := ⟨fst, 0, none⟩) l1 (by simp only [List.mem_cons, not_or]; exact ⟨n3, m1⟩)).trans p1
        have v2 := HK5.out.cell u0 (by simp only [List.mem_cons, not_or]; exact ⟨n2, m4⟩)
        have v4 : fst < w4.heap.size := by omega
        have v5 : pb < w4.heap.size := by omega
        have v6 : fb < w4.heap.size := by omega
        have ha2 : ∀ g ∈ ab a2, g ∉ [fst, nb, fb, pb, b, w.heap.size] := by
          intro g hg
          have hz2 := HK2a.out.size
          simp only [World.size_alloc] at hz2
          rcases HN4.out g hg with h1 | h1
          · have h3 := O1.out.lt g h1
            simp only [List.mem_cons, List.not_mem_nil, or_false, not_or]
            exact ⟨fun e => m1 (e ▸ h1), fun e => m2 (e ▸ h1), fun e => m3 (e ▸ h1), fun e => m4 (e ▸ h1), fun e => m5 (e ▸ h1), by omega⟩
          · simp only [World.size_alloc] at h1
            simp only [List.mem_cons, List.not_mem_nil, or_false, not_or]
            omega
        have KB : Kp [fst, nb] w4 ((w4.setCell ⟨nb, 1, none⟩ (.slice a2 (seps.length + 1) c2)).setCell ⟨fst, 0, none⟩ (.bool false)) := ((Kp.refl [fst, nb] _).setCell _ (.inr (by simp))).setCell _ (.inr (by simp))
        have XB := Lib.hid (((Blk.new w 59 Kd.zero.c).kp HK5a.out (by simp only [List.mem_cons, not_or]; exact ⟨by omega, fun h => by have := O1.out.lt _ h; omega⟩)).kp KB (by simp; omega))
        have XF := Lib.hid ((B3.out.kp HK5.out (by simp only [List.mem_cons, not_or]; exact ⟨n1, m3⟩)).kp KB (by simp; omega))
        have XR := Lib.hid ((HR2.out.kp ((Kp.refl [] _).alloc (.cells #[.string ⟨(gotV (textP (P / 16)) [] (some l)).toArray⟩] 9)) (by simp)).kp HK4.out m5 |>.kp KB (by simp; omega))
        have XK : Hid (Kp (b :: (fst :: nb :: fb :: pb :: ab a)) w ((w4.setCell ⟨nb, 1, none⟩ (.slice a2 (seps.length + 1) c2)).setCell ⟨fst, 0, none⟩ (.bool false))) := Lib.hid ((HK5.out.mono (fun k _ hk => by simp only [List.mem_cons] at hk ⊢; rcases hk with h | h <;> simp [h])).from KB (by simp))
        have XN : Hid (∀ g ∈ (fst :: nb :: fb :: pb :: ab a2), g ∈ (fst :: nb :: fb :: pb :: ab a) ∨ w.heap.size ≤ g) := Lib.hid (by
          intro g hg
          simp only [List.mem_cons] at hg ⊢
          rcases hg with h | h | h | h | h
          · simp [h]
          · simp [h]
          · simp [h]
          · simp [h]
          · rcases HN4.out g h with h1 | h1
            · simp [h1]
            · right; simp only [World.size_alloc] at h1; omega)
        have XJ : Hid (JK b fb pb fst nb P wd false (false, seps ++ [gotV (textP (P / 16)) [] (some l)]) ((w4.setCell ⟨nb, 1, none⟩ (.slice a2 (seps.length + 1) c2)).setCell ⟨fst, 0, none⟩ (.bool false)) (fst :: nb :: fb :: pb :: ab a2)) := Lib.hid (by
          refine ⟨a2, c2, rfl, ?_, ?_, ?_, XF.out, ?_, fun h => ha2 _ h (by simp), fun h => ha2 _ h (by simp), fun h => ha2 _ h (by simp), fun h => ha2 _ h (by simp), fun h => ha2 _ h (by simp)⟩
          · have h1 := B1.out.kp HK5.out (by simp only [List.mem_cons, not_or]; exact ⟨n3, m1⟩)
            have h2 := (h1.set_other (a := ⟨nb, 1, none⟩) (.slice a2 (seps.length + 1) c2) e5).set 0 (.bool false)
            simpa using h2
          · have h1 := B2.out.kp HK5.out (by simp only [List.mem_cons, not_or]; exact ⟨n4, m2⟩)
            have h2 := (h1.set 1 (.slice a2 (seps.length + 1) c2)).set_other (a := ⟨fst, 0, none⟩) (.bool false) n5
            simpa using h2
          · have := HO4.out.kp KB (by intro g hg; have := ha2 g hg; simp only [List.mem_cons, not_or] at this ⊢; exact ⟨this.1, this.2.1, by simp⟩)
            simpa using this
          · exact (B4.out.kp HK5.out (by simp only [List.mem_cons, not_or]; exact ⟨n2, m4⟩)).kp KB (by simp; omega))
        have XQ : Hid (w.heap.size ∉ (fst :: nb :: fb :: pb :: ab a2)) := Lib.hid (by
          simp only [List.mem_cons, not_or]
          exact ⟨by omega, by omega, by omega, by omega, fun h => ha2 _ h (by simp)⟩)
        have XE : Hid (∀ r, sepP P (false, seps) l = some r → (false, seps ++ [gotV (textP (P / 16)) [] (some l)]) = r.1 ∧ gotR (textP (P / 16)) (some l) = some r.2) := Lib.hid (by
          intro r hr
          simp only [sepP, Bool.false_eq_true, if_false] at hr
          cases ht : textP (P / 16) l with
          | none => simp [ht] at hr
          | some r0 => simp only [ht, Option.map_some, Option.some.injEq] at hr; subst hr; simp [gotV, gotR, ht])
        have XM : Hid (sepP P (false, seps) l = none → gotR (textP (P / 16)) (some l) = none) := Lib.hid (by
          intro hr
          simp only [sepP, Bool.false_eq_true, if_false, Option.map_eq_none_iff] at hr
          simp [gotR, hr])
        clear ha2 t1 t2 t3 t4 zn2 zf2 zz2
        go_wp2_with fail
        have hX : (((w4.setCell ⟨nb, 1, none⟩ (.slice a2 (seps.length + 1) c2)).setCell ⟨fst, 0, none⟩ (.bool false))).heap.size = (w4.heap.size) := by simp
        have XBk := Lib.hid (XB.out.alloc (.cells Kd.zero.c 59))
        have XKk : Hid (Blk ((((w4.setCell ⟨nb, 1, none⟩ (.slice a2 (seps.length + 1) c2)).setCell ⟨fst, 0, none⟩ (.bool false))).alloc (.cells Kd.zero.c 59)) ((w4.heap.size)) 59 Kd.zero.c) := Lib.hid (hX ▸ Blk.new ((w4.setCell ⟨nb, 1, none⟩ (.slice a2 (seps.length + 1) c2)).setCell ⟨fst, 0, none⟩ (.bool false)) 59 Kd.zero.c)
        have XFk := Lib.hid (XF.out.alloc (.cells Kd.zero.c 59))
        have xz : w.heap.size < (w4.heap.size) := by omega
        have xb : b < (w4.heap.size) := by omega
        have K6 := XKk; have B6 := XBk
        refine (dg_all b wd s (gotR (textP (P / 16)) (some l)) _ (XR.out.kp ((Kp.refl [] _).alloc _) (by simp)) hs' hwd).mono ?_
        rintro e w6 ⟨rfl, k6, r6⟩
        obtain ⟨d, hd⟩ : ∃ d, gotV (dgP wd) Dg.zero (gotR (textP (P / 16)) (some l)) = d := ⟨_, rfl⟩
        rw [hd]
        have HD := Lib.hid hd
        have K7 := Lib.hid (K6.out.kp k6 (by simp; omega))
        have B7 := Lib.hid (B6.out.kp k6 (by simp; omega))
        have j0 := own?_blk K7.out; have j1 := own?_blk B7.out; have j2 := K7.out.lt; have j3 := B7.out.lt
        have j4 : w.heap.size ≠ (w4.heap.size) := by omega
        have HK6 := Lib.hid k6; have HR6 := Lib.hid r6
        clear hd k6 r6
        go_wp2_with fail
        refine row_ret w.heap.size rfl Tryz.underlying59 rfl (by rw [Kd.c_size]; kernel_rfl) rfl (((B7.out.setRow_other (g := (w4.heap.size)) _ (by omega)).setRow _)) rfl ?_
        exact kid_end (o := (gotR (textP (P / 16)) (some l))) HST.out XJ.out XK.out XN.out XQ.out (Nat.le_refl _) (((((Kp.refl [b, w.heap.size] _).alloc _).trans (HK6.out.mono (fun k _ hk => by simp at hk; simp [hk]))).setRow _ _ (.inl (by simp))).setRow _ _ (.inr (by simp))) XE.out XM.out (by rw [← HD.out]; rfl) (HR6.out.kp (((Kp.refl [(w4.heap.size), w.heap.size] _).setRow _ _ (by simp)).setRow _ _ (by simp)) (by simp; omega))
    · go_enter Tryz.func69, Tryz.ntmps69
      go_wp2_with fail
      have sk := Lib.hid (show ∀ (W : World) (T : List Nat), Kp T w W → nb ∉ T → fb ∉ T → (W.cell? ⟨nb, 1, none⟩ = some (.slice a seps.length c) ∧ W.cell? ⟨fb, 0, none⟩ = some (.int .i64 P) ∧ W.cell? ⟨fb, 1, none⟩ = some (.int .i64 wd) ∧ W.frozen? ⟨nb, 1, none⟩ = false) from fun W T k h1 h2 => ⟨k.cell q1 h1, k.cell r0 h2, k.cell r1 h2, (k.frozen l2 h1).trans q2⟩)
      go_region_law (first | (refine step_call rfl 67 rfl #[.agg #[.int .i64 P, .int .i64 wd]] (by kernel_rfl) (maxKey_any _ _ _ (by omega) (by omega)) ?_; rintro e w' ⟨rfl, bs1, e1, rfl⟩; have zn1 : nb < w.heap.size + 1 + bs1.length := (by omega); have zn3 : nb < w.heap.size + 1 := (by omega); refine ⟨_, rfl, ?_⟩; rw [H16.out]) | (refine step_call rfl 66 rfl #[.pointer (some ⟨b, 0, none⟩), .int .i64 ((P / 16 : Nat) : Int)] (by kernel_rfl) (text_all b (P / 16) s _ _ (H.out.kp ((((Kp.refl [] w).alloc _).drew).ext _ _) (by simp)) hs' (by omega) (by omega)) ?_; rintro e w2 ⟨rfl, k2, R2⟩; refine ⟨_, rfl, ?_⟩; have HR2 := Lib.hid R2; have HK2a := Lib.hid ((((Kp.refl [b] (w.alloc (.cells Kd.zero.c 59))).drew).ext _ _).trans k2); have HK2 := Lib.hid (((Kp.refl [b] w).alloc _).trans HK2a.out); clear k2 R2; have zz2 := HK2.out.size; have zn2 : nb < w2.heap.size := (by omega); have zf2 : fb < w2.heap.size := (by omega); obtain ⟨t1, t2, t3, t4⟩ := sk.out _ _ HK2.out (by simp; omega) (by simp; omega)) | (refine step_app_str rfl rfl (by simp [Act.eval, Act.put]) ((O1.out.kp HK2.out (by intro g hg; simp; rintro rfl; exact m5 hg)).kp ((Kp.refl [] _).alloc _) (by simp)) 1 _ (by simp [Act.eval, Act.put]) (src_row Tryz.underlying25 _ _ _ _ rfl rfl (by simp [Value.oneCell'])) (by omega) ?_; intro a2 c2 w4 hown hk4 hn4; have HO4 := Lib.hid hown; have HN4 := Lib.hid hn4; have HK4 := Lib.hid hk4; have HK5 : Hid (Kp (b :: ab a) w w4) := ((HK2.out.alloc _).mono (fun k _ hk => by simp at hk; simp [hk])).trans (hk4.mono (fun k _ hk => by simp [hk])); have HK5a : Hid (Kp (b :: ab a) (w.alloc (.cells Kd.zero.c 59)) w4) := ((HK2a.out.alloc _).mono (fun k _ hk => by simp at hk; simp [hk])).trans (hk4.mono (fun k _ hk => by simp [hk])); clear hown hk4 hn4; have zz5 := HK5.out.size; have zn5 : nb < w4.heap.size := (by omega); obtain ⟨t5, t6, t7, t8⟩ := sk.out _ _ HK5.out (by simp only [List.mem_cons, not_or]; exact ⟨n4, m2⟩) (by simp only [List.mem_cons, not_or]; exact ⟨n1, m3⟩)))
      all_goals
        have wz : w.heap.size < w4.heap.size := by have := HK5a.out.size; simp at this; omega
        have v0 := HK5.out.cell p0 (by simp only [List.mem_cons, not_or]; exact ⟨n3, m1⟩)
        have v1 := (HK5.out.frozen (a := ⟨fst, 0, none⟩) l1 (by simp only [List.mem_cons, not_or]; exact ⟨n3, m1⟩)).trans p1
        have v2 := HK5.out.cell u0 (by simp only [List.mem_cons, not_or]; exact ⟨n2, m4⟩)
        have v4 : fst < w4.heap.size := by omega
        have v5 : pb < w4.heap.size := by omega
        have v6 : fb < w4.heap.size := by omega
        have ha2 : ∀ g ∈ ab a2, g ∉ [fst, nb, fb, pb, b, w.heap.size] := by
          intro g hg
          have hz2 := HK2a.out.size
          simp only [World.size_alloc] at hz2
          rcases HN4.out g hg with h1 | h1
          · have h3 := O1.out.lt g h1
            simp only [List.mem_cons, List.not_mem_nil, or_false, not_or]
            exact ⟨fun e => m1 (e ▸ h1), fun e => m2 (e ▸ h1), fun e => m3 (e ▸ h1), fun e => m4 (e ▸ h1), fun e => m5 (e ▸ h1), by omega⟩
          · simp only [World.size_alloc] at h1
            simp only [List.mem_cons, List.not_mem_nil, or_false, not_or]
            omega
        have KB : Kp [fst, nb] w4 ((w4.setCell ⟨nb, 1, none⟩ (.slice a2 (seps.length + 1) c2)).setCell ⟨fst, 0, none⟩ (.bool false)) := ((Kp.refl [fst, nb] _).setCell _ (.inr (by simp))).setCell _ (.inr (by simp))
        have XB := Lib.hid (((Blk.new w 59 Kd.zero.c).kp HK5a.out (by simp only [List.mem_cons, not_or]; exact ⟨by omega, fun h => by have := O1.out.lt _ h; omega⟩)).kp KB (by simp; omega))
        have XF := Lib.hid ((B3.out.kp HK5.out (by simp only [List.mem_cons, not_or]; exact ⟨n1, m3⟩)).kp KB (by simp; omega))
        have XR := Lib.hid ((HR2.out.kp ((Kp.refl [] _).alloc (.cells #[.string ⟨(gotV (textP (P / 16)) [] (some l)).toArray⟩] 9)) (by simp)).kp HK4.out m5 |>.kp KB (by simp; omega))
        have XK : Hid (Kp (b :: (fst :: nb :: fb :: pb :: ab a)) w ((w4.setCell ⟨nb, 1, none⟩ (.slice a2 (seps.length + 1) c2)).setCell ⟨fst, 0, none⟩ (.bool false))) := Lib.hid ((HK5.out.mono (fun k _ hk => by simp only [List.mem_cons] at hk ⊢; rcases hk with h | h <;> simp [h])).from KB (by simp))
        have XN : Hid (∀ g ∈ (fst :: nb :: fb :: pb :: ab a2), g ∈ (fst :: nb :: fb :: pb :: ab a) ∨ w.heap.size ≤ g) := Lib.hid (by
          intro g hg
          simp only [List.mem_cons] at hg ⊢
          rcases hg with h | h | h | h | h
          · simp [h]
          · simp [h]
          · simp [h]
          · simp [h]
          · rcases HN4.out g h with h1 | h1
            · simp [h1]
            · right; simp only [World.size_alloc] at h1; omega)
        have XJ : Hid (JK b fb pb fst nb P wd true (false, seps ++ [gotV (textP (P / 16)) [] (some l)]) ((w4.setCell ⟨nb, 1, none⟩ (.slice a2 (seps.length + 1) c2)).setCell ⟨fst, 0, none⟩ (.bool false)) (fst :: nb :: fb :: pb :: ab a2)) := Lib.hid (by
          refine ⟨a2, c2, rfl, ?_, ?_, ?_, XF.out, ?_, fun h => ha2 _ h (by simp), fun h => ha2 _ h (by simp), fun h => ha2 _ h (by simp), fun h => ha2 _ h (by simp), fun h => ha2 _ h (by simp)⟩
          · have h1 := B1.out.kp HK5.out (by simp only [List.mem_cons, not_or]; exact ⟨n3, m1⟩)
            have h2 := (h1.set_other (a := ⟨nb, 1, none⟩) (.slice a2 (seps.length + 1) c2) e5).set 0 (.bool false)
            simpa using h2
          · have h1 := B2.out.kp HK5.out (by simp only [List.mem_cons, not_or]; exact ⟨n4, m2⟩)
            have h2 := (h1.set 1 (.slice a2 (seps.length + 1) c2)).set_other (a := ⟨fst, 0, none⟩) (.bool false) n5
            simpa using h2
          · have := HO4.out.kp KB (by intro g hg; have := ha2 g hg; simp only [List.mem_cons, not_or] at this ⊢; exact ⟨this.1, this.2.1, by simp⟩)
            simpa using this
          · exact (B4.out.kp HK5.out (by simp only [List.mem_cons, not_or]; exact ⟨n2, m4⟩)).kp KB (by simp; omega))
        have XQ : Hid (w.heap.size ∉ (fst :: nb :: fb :: pb :: ab a2)) := Lib.hid (by
          simp only [List.mem_cons, not_or]
          exact ⟨by omega, by omega, by omega, by omega, fun h => ha2 _ h (by simp)⟩)
        have XE : Hid (∀ r, sepP P (false, seps) l = some r → (false, seps ++ [gotV (textP (P / 16)) [] (some l)]) = r.1 ∧ gotR (textP (P / 16)) (some l) = some r.2) := Lib.hid (by
          intro r hr
          simp only [sepP, Bool.false_eq_true, if_false] at hr
          cases ht : textP (P / 16) l with
          | none => simp [ht] at hr
          | some r0 => simp only [ht, Option.map_some, Option.some.injEq] at hr; subst hr; simp [gotV, gotR, ht])
        have XM : Hid (sepP P (false, seps) l = none → gotR (textP (P / 16)) (some l) = none) := Lib.hid (by
          intro hr
          simp only [sepP, Bool.false_eq_true, if_false, Option.map_eq_none_iff] at hr
          simp [gotR, hr])
        clear ha2 t1 t2 t3 t4 zn2 zf2 zz2
        go_wp2_with fail
        have hX : (((w4.setCell ⟨nb, 1, none⟩ (.slice a2 (seps.length + 1) c2)).setCell ⟨fst, 0, none⟩ (.bool false))).heap.size = (w4.heap.size) := by simp
        have XBk := Lib.hid (XB.out.alloc (.cells Kd.zero.c 59))
        have XKk : Hid (Blk ((((w4.setCell ⟨nb, 1, none⟩ (.slice a2 (seps.length + 1) c2)).setCell ⟨fst, 0, none⟩ (.bool false))).alloc (.cells Kd.zero.c 59)) ((w4.heap.size)) 59 Kd.zero.c) := Lib.hid (hX ▸ Blk.new ((w4.setCell ⟨nb, 1, none⟩ (.slice a2 (seps.length + 1) c2)).setCell ⟨fst, 0, none⟩ (.bool false)) 59 Kd.zero.c)
        have XFk := Lib.hid (XF.out.alloc (.cells Kd.zero.c 59))
        have xz : w.heap.size < (w4.heap.size) := by omega
        have xb : b < (w4.heap.size) := by omega
        refine (u32_all b s (gotR (textP (P / 16)) (some l)) _ (XR.out.kp ((Kp.refl [] _).alloc _) (by simp)) hs').mono ?_
        rintro e w5 ⟨rfl, k5, r5⟩
        obtain ⟨v, hv⟩ : ∃ v, gotV (takeP 4) 0 (gotR (textP (P / 16)) (some l)) = v := ⟨_, rfl⟩
        rw [hv]
        have F5 := Lib.hid (XFk.out.kp k5 (by simp; omega))
        have K5 := Lib.hid (XKk.out.kp k5 (by simp; omega))
        have B5 := Lib.hid (XBk.out.kp k5 (by simp; omega))
        have HV := Lib.hid hv; have HK := Lib.hid k5; have HR := Lib.hid r5
        have i0 := K5.out.cell 0; have i1 := K5.out.frozen 0; have i2 := F5.out.cell 1
        have i3 := B5.out.lt; have i4 := K5.out.lt; have i5 := F5.out.lt
        simp only [List.getElem?_toArray, List.getElem?_cons_zero, List.getElem?_cons_succ, Kd.get0] at i0 i2
        clear hv k5 r5
        go_wp2_with fail
        have K6 : Hid (Blk (w5.setCell ⟨(w4.heap.size), 0, none⟩ (.int .u32 (v : Int))) ((w4.heap.size)) 59 (Kd.mk v Dg.zero).c) := Lib.hid (by have := K5.out.set 0 (.int .u32 (v : Int)); rwa [Kd.set0] at this)
        have B6 := Lib.hid (B5.out.set_other (a := ⟨(w4.heap.size), 0, none⟩) (.int .u32 (v : Int)) (by show (w4.heap.size) ≠ _; omega))
        refine (dg_all b wd s _ _ (HR.out.kp ((Kp.refl [(w4.heap.size)] _).setCell _ (.inr (by simp))) (by simp; omega)) hs' hwd).mono ?_
        rintro e w6 ⟨rfl, k6, r6⟩
        obtain ⟨d, hd⟩ : ∃ d, gotV (dgP wd) Dg.zero (gotR (takeP 4) (gotR (textP (P / 16)) (some l))) = d := ⟨_, rfl⟩
        rw [hd]
        have HD := Lib.hid hd
        have K7 := Lib.hid (K6.out.kp k6 (by simp; omega))
        have B7 := Lib.hid (B6.out.kp k6 (by simp; omega))
        have j0 := own?_blk K7.out; have j1 := own?_blk B7.out; have j2 := K7.out.lt; have j3 := B7.out.lt
        have j4 : w.heap.size ≠ (w4.heap.size) := by omega
        have HK6 := Lib.hid k6; have HR6 := Lib.hid r6
        clear hd k6 r6
        go_wp2_with fail
        refine row_ret w.heap.size rfl Tryz.underlying59 rfl (by rw [Kd.c_size]; kernel_rfl) rfl (((B7.out.setRow_other (g := (w4.heap.size)) _ (by omega)).setRow _)) rfl ?_
        exact kid_end (o := (gotR (textP (P / 16)) (some l))) HST.out XJ.out XK.out XN.out XQ.out (Nat.le_refl _) (((((((Kp.refl [b, w.heap.size] _).alloc _).trans (HK.out.mono (fun k _ hk => by simp at hk; simp [hk]))).setCell _ (.inl (by simp))).trans (HK6.out.mono (fun k _ hk => by simp at hk; simp [hk]))).setRow _ _ (.inl (by simp))).setRow _ _ (.inr (by simp))) XE.out XM.out (by rw [← HD.out, ← HV.out]; rfl) (HR6.out.kp (((Kp.refl [(w4.heap.size), w.heap.size] _).setRow _ _ (by simp)).setRow _ _ (by simp)) (by simp; omega))
  · cases pages
    · go_enter Tryz.func69, Tryz.ntmps69
      have KB : Kp [fst] w ((w.setCell ⟨fst, 0, none⟩ (.bool false)).alloc (.cells Kd.zero.c 59)) := ((Kp.refl [fst] _).setCell _ (.inr (by simp))).alloc _
      have XB : Hid (Blk ((w.setCell ⟨fst, 0, none⟩ (.bool false)).alloc (.cells Kd.zero.c 59)) w.heap.size 59 Kd.zero.c) := Lib.hid (by have := Blk.new (w.setCell ⟨fst, 0, none⟩ (.bool false)) 59 Kd.zero.c; simpa using this)
      have XF := Lib.hid (B3.out.kp KB (by simp; omega))
      have XR := Lib.hid (H.out.kp KB (by simp; omega))
      have XK : Hid (Kp (b :: (fst :: nb :: fb :: pb :: ab a)) w ((w.setCell ⟨fst, 0, none⟩ (.bool false)).alloc (.cells Kd.zero.c 59))) := Lib.hid (KB.mono (fun k _ hk => by simp at hk; simp [hk]))
      have XN : Hid (∀ g ∈ (fst :: nb :: fb :: pb :: ab a), g ∈ (fst :: nb :: fb :: pb :: ab a) ∨ w.heap.size ≤ g) := Lib.hid (fun g hg => .inl hg)
      have XJ : Hid (JK b fb pb fst nb P wd false (false, seps) ((w.setCell ⟨fst, 0, none⟩ (.bool false)).alloc (.cells Kd.zero.c 59)) (fst :: nb :: fb :: pb :: ab a)) := Lib.hid (by
        refine ⟨a, c, rfl, ?_, B2.out.kp KB (by simp; omega), O1.out.kp KB (by intro g hg; simp; rintro rfl; exact m1 hg), XF.out, B4.out.kp KB (by simp; omega), m1, m2, m3, m4, m5⟩
        have h2 := (B1.out.set 0 (.bool false)).alloc (.cells Kd.zero.c 59)
        simpa using h2)
      have XQ : Hid (w.heap.size ∉ (fst :: nb :: fb :: pb :: ab a)) := Lib.hid (by
        simp only [List.mem_cons, not_or]
        exact ⟨by omega, by omega, by omega, by omega, fun h => by have := O1.out.lt _ h; omega⟩)
      have XE : Hid (∀ r, sepP P (true, seps) l = some r → (false, seps) = r.1 ∧ (some l) = some r.2) := Lib.hid (by
        intro r hr
        simp only [sepP, if_true, Option.some.injEq] at hr
        subst hr; exact ⟨rfl, rfl⟩)
      have XM : Hid (sepP P (true, seps) l = none → (some l) = none) := Lib.hid (by
        intro hr
        simp [sepP] at hr)
      have wz : w.heap.size < w.heap.size + 1 := by omega
      go_wp2_with fail
      have hX : (((w.setCell ⟨fst, 0, none⟩ (.bool false)).alloc (.cells Kd.zero.c 59))).heap.size = (w.heap.size + 1) := by simp
      have XBk := Lib.hid (XB.out.alloc (.cells Kd.zero.c 59))
      have XKk : Hid (Blk ((((w.setCell ⟨fst, 0, none⟩ (.bool false)).alloc (.cells Kd.zero.c 59))).alloc (.cells Kd.zero.c 59)) ((w.heap.size + 1)) 59 Kd.zero.c) := Lib.hid (hX ▸ Blk.new ((w.setCell ⟨fst, 0, none⟩ (.bool false)).alloc (.cells Kd.zero.c 59)) 59 Kd.zero.c)
      have XFk := Lib.hid (XF.out.alloc (.cells Kd.zero.c 59))
      have xz : w.heap.size < (w.heap.size + 1) := by omega
      have xb : b < (w.heap.size + 1) := by omega
      have K6 := XKk; have B6 := XBk
      refine (dg_all b wd s (some l) _ (XR.out.kp ((Kp.refl [] _).alloc _) (by simp)) hs' hwd).mono ?_
      rintro e w6 ⟨rfl, k6, r6⟩
      obtain ⟨d, hd⟩ : ∃ d, gotV (dgP wd) Dg.zero (some l) = d := ⟨_, rfl⟩
      rw [hd]
      have HD := Lib.hid hd
      have K7 := Lib.hid (K6.out.kp k6 (by simp; omega))
      have B7 := Lib.hid (B6.out.kp k6 (by simp; omega))
      have j0 := own?_blk K7.out; have j1 := own?_blk B7.out; have j2 := K7.out.lt; have j3 := B7.out.lt
      have j4 : w.heap.size ≠ (w.heap.size + 1) := by omega
      have HK6 := Lib.hid k6; have HR6 := Lib.hid r6
      clear hd k6 r6
      go_wp2_with fail
      refine row_ret w.heap.size rfl Tryz.underlying59 rfl (by rw [Kd.c_size]; kernel_rfl) rfl (((B7.out.setRow_other (g := (w.heap.size + 1)) _ (by omega)).setRow _)) rfl ?_
      exact kid_end (o := (some l)) HST.out XJ.out XK.out XN.out XQ.out (Nat.le_refl _) (((((Kp.refl [b, w.heap.size] _).alloc _).trans (HK6.out.mono (fun k _ hk => by simp at hk; simp [hk]))).setRow _ _ (.inl (by simp))).setRow _ _ (.inr (by simp))) XE.out XM.out (by rw [← HD.out]; rfl) (HR6.out.kp (((Kp.refl [(w.heap.size + 1), w.heap.size] _).setRow _ _ (by simp)).setRow _ _ (by simp)) (by simp; omega))
    · go_enter Tryz.func69, Tryz.ntmps69
      have KB : Kp [fst] w ((w.setCell ⟨fst, 0, none⟩ (.bool false)).alloc (.cells Kd.zero.c 59)) := ((Kp.refl [fst] _).setCell _ (.inr (by simp))).alloc _
      have XB : Hid (Blk ((w.setCell ⟨fst, 0, none⟩ (.bool false)).alloc (.cells Kd.zero.c 59)) w.heap.size 59 Kd.zero.c) := Lib.hid (by have := Blk.new (w.setCell ⟨fst, 0, none⟩ (.bool false)) 59 Kd.zero.c; simpa using this)
      have XF := Lib.hid (B3.out.kp KB (by simp; omega))
      have XR := Lib.hid (H.out.kp KB (by simp; omega))
      have XK : Hid (Kp (b :: (fst :: nb :: fb :: pb :: ab a)) w ((w.setCell ⟨fst, 0, none⟩ (.bool false)).alloc (.cells Kd.zero.c 59))) := Lib.hid (KB.mono (fun k _ hk => by simp at hk; simp [hk]))
      have XN : Hid (∀ g ∈ (fst :: nb :: fb :: pb :: ab a), g ∈ (fst :: nb :: fb :: pb :: ab a) ∨ w.heap.size ≤ g) := Lib.hid (fun g hg => .inl hg)
      have XJ : Hid (JK b fb pb fst nb P wd true (false, seps) ((w.setCell ⟨fst, 0, none⟩ (.bool false)).alloc (.cells Kd.zero.c 59)) (fst :: nb :: fb :: pb :: ab a)) := Lib.hid (by
        refine ⟨a, c, rfl, ?_, B2.out.kp KB (by simp; omega), O1.out.kp KB (by intro g hg; simp; rintro rfl; exact m1 hg), XF.out, B4.out.kp KB (by simp; omega), m1, m2, m3, m4, m5⟩
        have h2 := (B1.out.set 0 (.bool false)).alloc (.cells Kd.zero.c 59)
        simpa using h2)
      have XQ : Hid (w.heap.size ∉ (fst :: nb :: fb :: pb :: ab a)) := Lib.hid (by
        simp only [List.mem_cons, not_or]
        exact ⟨by omega, by omega, by omega, by omega, fun h => by have := O1.out.lt _ h; omega⟩)
      have XE : Hid (∀ r, sepP P (true, seps) l = some r → (false, seps) = r.1 ∧ (some l) = some r.2) := Lib.hid (by
        intro r hr
        simp only [sepP, if_true, Option.some.injEq] at hr
        subst hr; exact ⟨rfl, rfl⟩)
      have XM : Hid (sepP P (true, seps) l = none → (some l) = none) := Lib.hid (by
        intro hr
        simp [sepP] at hr)
      have wz : w.heap.size < w.heap.size + 1 := by omega
      go_wp2_with fail
      have hX : (((w.setCell ⟨fst, 0, none⟩ (.bool false)).alloc (.cells Kd.zero.c 59))).heap.size = (w.heap.size + 1) := by simp
      have XBk := Lib.hid (XB.out.alloc (.cells Kd.zero.c 59))
      have XKk : Hid (Blk ((((w.setCell ⟨fst, 0, none⟩ (.bool false)).alloc (.cells Kd.zero.c 59))).alloc (.cells Kd.zero.c 59)) ((w.heap.size + 1)) 59 Kd.zero.c) := Lib.hid (hX ▸ Blk.new ((w.setCell ⟨fst, 0, none⟩ (.bool false)).alloc (.cells Kd.zero.c 59)) 59 Kd.zero.c)
      have XFk := Lib.hid (XF.out.alloc (.cells Kd.zero.c 59))
      have xz : w.heap.size < (w.heap.size + 1) := by omega
      have xb : b < (w.heap.size + 1) := by omega
      refine (u32_all b s (some l) _ (XR.out.kp ((Kp.refl [] _).alloc _) (by simp)) hs').mono ?_
      rintro e w5 ⟨rfl, k5, r5⟩
      obtain ⟨v, hv⟩ : ∃ v, gotV (takeP 4) 0 (some l) = v := ⟨_, rfl⟩
      rw [hv]
      have F5 := Lib.hid (XFk.out.kp k5 (by simp; omega))
      have K5 := Lib.hid (XKk.out.kp k5 (by simp; omega))
      have B5 := Lib.hid (XBk.out.kp k5 (by simp; omega))
      have HV := Lib.hid hv; have HK := Lib.hid k5; have HR := Lib.hid r5
      have i0 := K5.out.cell 0; have i1 := K5.out.frozen 0; have i2 := F5.out.cell 1
      have i3 := B5.out.lt; have i4 := K5.out.lt; have i5 := F5.out.lt
      simp only [List.getElem?_toArray, List.getElem?_cons_zero, List.getElem?_cons_succ, Kd.get0] at i0 i2
      clear hv k5 r5
      go_wp2_with fail
      have K6 : Hid (Blk (w5.setCell ⟨(w.heap.size + 1), 0, none⟩ (.int .u32 (v : Int))) ((w.heap.size + 1)) 59 (Kd.mk v Dg.zero).c) := Lib.hid (by have := K5.out.set 0 (.int .u32 (v : Int)); rwa [Kd.set0] at this)
      have B6 := Lib.hid (B5.out.set_other (a := ⟨(w.heap.size + 1), 0, none⟩) (.int .u32 (v : Int)) (by show (w.heap.size + 1) ≠ _; omega))
      refine (dg_all b wd s _ _ (HR.out.kp ((Kp.refl [(w.heap.size + 1)] _).setCell _ (.inr (by simp))) (by simp; omega)) hs' hwd).mono ?_
      rintro e w6 ⟨rfl, k6, r6⟩
      obtain ⟨d, hd⟩ : ∃ d, gotV (dgP wd) Dg.zero (gotR (takeP 4) (some l)) = d := ⟨_, rfl⟩
      rw [hd]
      have HD := Lib.hid hd
      have K7 := Lib.hid (K6.out.kp k6 (by simp; omega))
      have B7 := Lib.hid (B6.out.kp k6 (by simp; omega))
      have j0 := own?_blk K7.out; have j1 := own?_blk B7.out; have j2 := K7.out.lt; have j3 := B7.out.lt
      have j4 : w.heap.size ≠ (w.heap.size + 1) := by omega
      have HK6 := Lib.hid k6; have HR6 := Lib.hid r6
      clear hd k6 r6
      go_wp2_with fail
      refine row_ret w.heap.size rfl Tryz.underlying59 rfl (by rw [Kd.c_size]; kernel_rfl) rfl (((B7.out.setRow_other (g := (w.heap.size + 1)) _ (by omega)).setRow _)) rfl ?_
      exact kid_end (o := (some l)) HST.out XJ.out XK.out XN.out XQ.out (Nat.le_refl _) (((((((Kp.refl [b, w.heap.size] _).alloc _).trans (HK.out.mono (fun k _ hk => by simp at hk; simp [hk]))).setCell _ (.inl (by simp))).trans (HK6.out.mono (fun k _ hk => by simp at hk; simp [hk]))).setRow _ _ (.inl (by simp))).setRow _ _ (.inr (by simp))) XE.out XM.out (by rw [← HD.out, ← HV.out]; rfl) (HR6.out.kp (((Kp.refl [(w.heap.size + 1), w.heap.size] _).setRow _ _ (by simp)).setRow _ _ (by simp)) (by simp; omega))

end Go.Proofs.YtemicgccgcmmbaaGreat
