/- This program's frame and node, opened where they come in. -/
import Derived.Test.YtcaggadjkccbiaaGreatZ27
import Derived.Below
import Derived.Test.YtcaggadjkccbiaaGreatZ28
import Derived.Test.YtcaggadjkccbiaaGreatZ30
import Derived.Test.YtcaggadjkccbiaaGreatZ20
namespace Go.Proofs.YtcaggadjkccbiaaGreat
set_option linter.unusedVariables false
set_option linter.unusedSimpArgs false
open Go Go.RowKit Go.ChangeShapes Go.WideShapes Go.Deep Go.Joins

theorem frame_struct : ∃ f0 f1,Tryz.prog.underlying 24 = some (.struct #[f0,f1]) ∧ f0.type = 3 ∧ f1.type = 3 ∧ f0.offset = 0 ∧ f1.offset = 1:=⟨_,_,Tryz.underlying24,rfl,rfl,rfl,rfl⟩

section
variable {H : Type} {enc : TypeId × Value → H} {w : World} {base : Nat} {spare : Nat → Bool} {held : Bool}

end

theorem laidOut : laidOutB Tryz.prog = true:=by kernel_rfl

end Go.Proofs.YtcaggadjkccbiaaGreat
namespace Go.Proofs.YtcaggadjkccbiaaGreat
set_option linter.unusedVariables false
set_option linter.unusedSimpArgs false
open Go Go.RowKit

theorem manyP_inv {α T : Type} {step : α → Bs → Option (α × T × Bs)} {I : α → Bs → Prop} {Q : T → Prop} (hstep : ∀ x l x' t l',I x l → step x l = some (x',t,l') → I x' l' ∧ Q t) :
  ∀ (n : Nat) (x : α) (l : Bs) (r : α × List T × Bs),I x l → manyP step n x l = some r → I r.1 r.2.2 ∧ r.2.1.length = n ∧ ∀ t ∈ r.2.1,Q t
 | 0,x,l,r,hi,h=>by
  simp only [manyP,Option.some.injEq] at h
  subst h
  exact ⟨hi,rfl,by simp⟩
 | n + 1,x,l,r,hi,h=>by
  simp only [manyP] at h
  cases hs : step x l with
  | none=>simp [hs] at h
  | some q=>
   obtain ⟨x',t,l'⟩:=q
   obtain ⟨h1,h2⟩:=hstep _ _ _ _ _ hi hs
   simp only [hs] at h
   cases hm : manyP step n x' l' with
   | none=>simp [hm] at h
   | some q2=>
    obtain ⟨x'',ts,l''⟩:=q2
    obtain ⟨k1,k2,k3⟩:=manyP_inv hstep n x' l' _ h1 hm
    simp only [hm,Option.some.injEq] at h
    subst h
    exact ⟨k1,by simpa using k2,by
     intro u hu
     simp only [List.mem_cons] at hu
     rcases hu with rfl | hu
     ·exact h2
     ·exact k3 u hu⟩
theorem listP_inv {α T : Type} {step : α → Bs → Option (α × T × Bs)} {I : α → Bs → Prop} {Q : T → Prop} (hstep : ∀ x l x' t l',I x l → step x l = some (x',t,l') → I x' l' ∧ Q t) {m : Nat} {x : α} {l : Bs} {r : α × List T × Bs}
  (hi : ∀ n l',freeP m l = some (n,l') → I x l') (h : listP m step x l = some r) : I r.1 r.2.2 ∧ r.2.1.length ≤ l.length ∧ ∀ t ∈ r.2.1,Q t:=by
 unfold listP at h
 cases hf : freeP m l with
 | none=>simp [hf] at h
 | some q=>
  obtain ⟨n,l'⟩:=q
  simp only [hf] at h
  split at h
  ·rename_i hle
   obtain ⟨h1,h2,h3⟩:=manyP_inv hstep n x l' r (hi _ _ hf) h
   have:=(freeP_rest hf).2.1
   exact ⟨h1,by omega,h3⟩
  ·cases h

theorem textP_len {m : Nat} {l t l' : Bs} (h : textP m l = some (t,l')) : t.length + l'.length < l.length ∧ t.length ≤ m:=by
 unfold textP at h
 cases hf : freeP m l with
 | none=>simp [hf] at h
 | some r=>
  obtain ⟨n,l1⟩:=r
  have:=freeP_rest hf
  simp only [hf,rawP] at h
  split at h
  ·simp only [Option.some.injEq,Prod.mk.injEq] at h
   obtain ⟨rfl,rfl⟩:=h
   simp;omega
  ·cases h
theorem take4_lt {l l' : Bs} {n : Nat} (h : takeP 4 l = some (n,l')) : n < 4294967296:=by
 unfold takeP at h
 split at h
 ·rename_i hl
  simp only [Option.some.injEq,Prod.mk.injEq] at h
  have:=be_lt (l.take 4)
  rw [h.1] at this
  have h4 : (l.take 4).length = 4:=by simp;omega
  rw [h4] at this
  omega
 ·cases h
theorem pairP_ok {P : Nat} {x x' : Unit} {t : Pr} {l l' : Bs} (h : pairP P x l = some (x',t,l')) : t.1.length ≤ l.length ∧ t.2.length ≤ l.length ∧ l'.length ≤ l.length:=by
 unfold pairP at h
 cases h1 : textP (P / 16) l with
 | none=>simp [h1] at h
 | some r=>
  obtain ⟨k,l1⟩:=r
  simp only [h1] at h
  cases h2 : textP (P / 8) l1 with
  | none=>simp [h2] at h
  | some r2=>
   obtain ⟨v,l2⟩:=r2
   have a1:=textP_len h1;have a2:=textP_len h2
   simp only [h2,Option.some.injEq,Prod.mk.injEq] at h
   obtain ⟨_,rfl,rfl⟩:=h
   exact ⟨by simp only;omega,by simp only;omega,by omega⟩
theorem kidP_ok {P wd : Nat} {pages : Bool} {x x' : Bool × List Bs} {t : Kd} {l l' : Bs} (h : kidP P wd pages x l = some (x',t,l')) : t.page < 4294967296 ∧ ∀ u ∈ x'.2,u ∈ x.2 ∨ u.length ≤ l.length:=by
 unfold kidP at h
 cases hs : sepP P x l with
 | none=>simp [hs] at h
 | some r=>
  obtain ⟨x1,l1⟩:=r
  simp only [hs] at h
  have h0 : ∀ u ∈ x1.2,u ∈ x.2 ∨ u.length ≤ l.length:=by
   unfold sepP at hs
   split at hs
   ·simp only [Option.some.injEq,Prod.mk.injEq] at hs
    obtain ⟨rfl,rfl⟩:=hs
    intro u hu;exact .inl hu
   ·cases ht : textP (P / 16) l with
    | none=>simp [ht] at hs
    | some r=>
     have:=textP_len (t:=r.1) (l':=r.2) ht
     simp only [ht,Option.map_some,Option.some.injEq,Prod.mk.injEq] at hs
     obtain ⟨rfl,rfl⟩:=hs
     intro u hu
     simp only [List.mem_append,List.mem_singleton] at hu
     rcases hu with hu | rfl
     ·exact .inl hu
     ·exact .inr (by omega)
  have key : ∀ (o : Option (Nat × Bs)),(∀ n l2,o = some (n,l2) → n < 4294967296) → (match o with | none=>none | some (n,l2)=>match dgP wd l2 with | none=>none | some (d,l3)=>some (x1,(⟨n,d⟩ : Kd),l3)) = some (x',t,l') → t.page < 4294967296 ∧ ∀ u ∈ x'.2,u ∈ x.2 ∨ u.length ≤ l.length:=by
   intro o ho h
   cases o with
   | none=>simp at h
   | some r2=>
    obtain ⟨n,l2⟩:=r2
    have h1:=ho n l2 rfl
    simp only at h
    cases hd : dgP wd l2 with
    | none=>simp [hd] at h
    | some r3=>
     simp only [hd,Option.some.injEq,Prod.mk.injEq] at h
     obtain ⟨rfl,rfl,rfl⟩:=h
     exact ⟨h1,h0⟩
  refine key _ ?_ h
  intro n l2 ho
  cases pages
  ·simp at ho;omega
  ·simp only [if_true] at ho;exact take4_lt ho

theorem parseP_ok {P wd : Nat} {pages : Bool} {s : Bs} {n : Nd} (hs : s.length ≤ 3909374676453) (h : parseP P wd pages s = some n) : NdOk n:=by
 unfold parseP at h
 cases ht : takeP 1 s with
 | none=>simp [ht] at h
 | some r=>
  obtain ⟨t,l⟩:=r
  have hl:=takeP_len ht
  simp only [ht] at h
  split at h
  ·cases hp : listP s.length (pairP P) () l with
   | none=>simp [hp] at h
   | some q=>
    obtain ⟨u,ps,l'⟩:=q
    simp only [hp] at h
    split at h
    ·simp only [Option.some.injEq] at h
     subst h
     obtain ⟨_,h2,h3⟩:=listP_inv (I:=fun _ l=>l.length ≤ s.length) (Q:=fun t : Pr=>t.1.length ≤ s.length ∧ t.2.length ≤ s.length) (fun x l x' t l' hi hst=>by
      have:=pairP_ok hst
      exact ⟨by omega,by omega,by omega⟩) (fun n l' hf=>by have:=(freeP_rest hf).2.1;omega) hp
     exact ⟨by simp only at h2 ⊢;omega,by simp,by simp,fun p hp=>by have:=h3 p hp;omega,by simp,by simp⟩
    ·cases h
  ·split at h
   ·cases hp : listP s.length (kidP P wd pages) (true,[]) l with
    | none=>simp [hp] at h
    | some q=>
     obtain ⟨x,ks,l'⟩:=q
     simp only [hp] at h
     split at h
     ·cases h
     ·split at h
      ·simp only [Option.some.injEq] at h
       subst h
       obtain ⟨h1,h2,h3⟩:=listP_inv (I:=fun x l=>x.2.length + l.length ≤ s.length ∧ ∀ u ∈ x.2,u.length ≤ s.length) (Q:=fun t : Kd=>t.page < 4294967296) (fun x l x' t l' hi hst=>by
        have h1:=kidP_len hst
        have h2:=kidP_ok hst
        refine ⟨⟨by omega,fun u hu=>?_⟩,h2.1⟩
        rcases h2.2 u hu with h | h
        ·exact hi.2 u h
        ·omega) (fun n l' hf=>by have:=(freeP_rest hf).2.1;simp;omega) hp
       exact ⟨by simp,by have:=h1.1;simp only at this ⊢;omega,by simp only at h2 ⊢;omega,by simp,fun u hu=>by have:=h1.2 u hu;omega,h3⟩
      ·cases h
   ·cases h


@[go_sem] theorem Kd.getE0 (k : Kd) (h : 0 < k.c.size) : k.c[0]'h = .int .u32 (k.page : Int):=by
 have h0:=Kd.get0 k
 rw [Array.getElem?_eq_getElem h] at h0
 exact Option.some.inj h0





end Go.Proofs.YtcaggadjkccbiaaGreat