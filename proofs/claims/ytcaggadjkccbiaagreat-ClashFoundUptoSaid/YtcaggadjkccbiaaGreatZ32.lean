/- What Unpack and Read answer. -/
import Derived.Test.YtcaggadjkccbiaaGreatZ31
namespace Go.Proofs.YtcaggadjkccbiaaGreat
set_option linter.unusedVariables false
set_option linter.unusedSimpArgs false
open Go Go.RowKit

def NodePost (w : World) (code : Int) (r : Option Nd) (e : Ending) (w' : World) : Prop:=
 match r with
 | some n=>∃ pa sa ka pc sc kc,e = .returned (.tuple #[.agg #[.slice pa n.pairs.length pc,.slice sa n.seps.length sc,.slice ka n.kids.length kc],.int .i64 0]) ∧ Own3 w' w.heap.size pa sa ka pc sc kc n ∧ Kp [] w w'
 | none=>e = .returned (.tuple #[.agg #[.slice none 0 0,.slice none 0 0,.slice none 0 0],.int .i64 code]) ∧ Kp [] w w'

def NodePostW (w : World) (code : Int) (r : Option Nd) (e : Ending) (w' : World) : Prop:=
 match r with
 | some n=>∃ pa sa ka pc sc kc,e = .returned (.tuple #[.agg #[.slice pa n.pairs.length pc,.slice sa n.seps.length sc,.slice ka n.kids.length kc],.int .i64 0]) ∧ NdAt w' pa sa ka n ∧ Kp [] w w' ∧ ∀ g ∈ ab pa ++ ab sa ++ ab ka,w.heap.size ≤ g
 | none=>e = .returned (.tuple #[.agg #[.slice none 0 0,.slice none 0 0,.slice none 0 0],.int .i64 code]) ∧ Kp [] w w'
theorem NodePost.weak {w : World} {code : Int} {r : Option Nd} {e : Ending} {w' : World} (h : NodePost w code r e w') : NodePostW w code r e w':=by
 cases r with
 | none=>exact h
 | some n=>
  obtain ⟨pa,sa,ka,pc,sc,kc,he,od,k⟩:=h
  exact ⟨pa,sa,ka,pc,sc,kc,he,od.at,k,od.lo⟩

def unpackE (p wd : Int) : Int:=if rightB p wd = true then 73 else 2
def readP (p wd : Int) (s : Bs) : Option Nd:=if rightB p wd = true then (parseP p.toNat wd.toNat false s).filter (fun n=>decide (mayE p wd n = 0)) else none


theorem nByte (b : UInt8) : b.toNat.toUInt8 = b:=by simp
theorem free_vrd : ∀ (l : Bs) (k acc m : Nat) (l' : Bs),vrd l k acc = some (m,l') → ∃ n,l = freeB n ++ l' ∧ m = acc + n * 2 ^ k ∧ (0 < k → 0 < n)
 | [],_,_,_,_,h=>by simp [vrd] at h
 | b :: l,k,acc,m,l',h=>by
  unfold vrd at h
  split at h
  ·cases h
  ·rename_i hc
   have hb:=b.toNat_lt
   split at h
   ·rename_i hlt
    simp only [Option.some.injEq,Prod.mk.injEq] at h
    obtain ⟨rfl,rfl⟩:=h
    refine ⟨b.toNat,?_,rfl,fun h0=>?_⟩
    ·rw [freeB_small hlt,nByte];rfl
    ·omega
   ·rename_i hge
    obtain ⟨n,rfl,hm,h0⟩:=free_vrd l _ _ _ _ h
    have h0':=h0 (by omega)
    have hb8 : 128 ≤ b.toNat:=by omega
    refine ⟨b.toNat % 128 + 128 * n,?_,?_,fun _=>by clear hm;omega⟩
    ·rw [freeB_big (n:=b.toNat % 128 + 128 * n) (by omega)]
     have e1 : (b.toNat % 128 + 128 * n) % 128 + 128 = b.toNat:=by omega
     have e2 : (b.toNat % 128 + 128 * n) / 128 = n:=by omega
     rw [e1,e2,nByte];rfl
    ·rw [hm,Nat.pow_add,Nat.add_mul,Nat.add_assoc]
     congr 2
     rw [show n * (2 ^ k * 2 ^ 7) = 128 * n * 2 ^ k by rw [Nat.mul_comm (2 ^ k) (2 ^ 7),← Nat.mul_assoc,Nat.mul_comm n (2 ^ 7)]]

theorem free_freeP {m n : Nat} {l l' : Bs} (h : freeP m l = some (n,l')) : l = freeB n ++ l':=by
 unfold freeP at h
 cases hv : vrd l 0 0 with
 | none=>simp [hv] at h
 | some r=>
  obtain ⟨n',l''⟩:=r
  simp only [hv] at h
  split at h
  ·simp only [Option.some.injEq,Prod.mk.injEq] at h
   obtain ⟨rfl,rfl⟩:=h
   obtain ⟨n,h1,h2,_⟩:=free_vrd _ _ _ _ _ hv
   simp at h2;subst h2;exact h1
  ·cases h

theorem text_textP {m : Nat} {t l l' : Bs} (h : textP m l = some (t,l')) : l = textB t ++ l':=by
 unfold textP at h
 cases hf : freeP m l with
 | none=>simp [hf] at h
 | some r=>
  obtain ⟨n,l1⟩:=r
  simp only [hf,rawP] at h
  split at h
  ·rename_i hle
   simp only [Option.some.injEq,Prod.mk.injEq] at h
   obtain ⟨rfl,rfl⟩:=h
   rw [free_freeP hf,textB,List.length_take,Nat.min_eq_left hle,List.append_assoc,List.take_append_drop]
  ·cases h

theorem fix_be : ∀ (l : Bs) ,fixB l.length (be l 0) = l:=by
 have key : ∀ (l : Bs) (acc : Nat),fixB l.length (be l acc) = l:=by
  intro l
  induction l with
  | nil=>intro acc;rfl
  | cons b l ih=>
   intro acc
   simp only [be,List.length_cons,fixB]
   have h1 : be l (acc * 256 + b.toNat) = (acc * 256 + b.toNat) * 256 ^ l.length + be l 0:=by
    have h2:=be_le' l (acc * 256 + b.toNat)
    exact h2
   have hlt:=be_lt l
   have hb:=b.toNat_lt
   rw [ih]
   congr 1
   rw [h1,Nat.mul_comm,Nat.mul_add_div (Nat.pow_pos (by omega)),Nat.div_eq_of_lt hlt]
   rw [show (acc * 256 + b.toNat + 0) % 256 = b.toNat by omega,nByte]
 exact fun l=>key l 0
where be_le' : ∀ (l : Bs) (acc : Nat),be l acc = acc * 256 ^ l.length + be l 0
 | [],acc=>by simp [be]
 | b :: l,acc=>by
  simp only [be,List.length_cons,Nat.zero_mul,Nat.zero_add]
  rw [be_le' l (acc * 256 + b.toNat),be_le' l b.toNat,Nat.pow_succ,Nat.add_mul]
  rw [Nat.mul_assoc,Nat.mul_comm 256];omega

theorem fix_takeP {k n : Nat} {l l' : Bs} (h : takeP k l = some (n,l')) : l = fixB k n ++ l':=by
 unfold takeP at h
 split at h
 ·rename_i hk
  simp only [Option.some.injEq,Prod.mk.injEq] at h
  obtain ⟨rfl,rfl⟩:=h
  have:=fix_be (l.take k)
  rw [List.length_take,Nat.min_eq_left hk] at this
  rw [this,List.take_append_drop]
 ·cases h

theorem pad_take {wd : Nat} {l : Bs} (h : wd ≤ 32) (hl : wd ≤ l.length) : (Dg.pad (l.take wd)).l.take wd = l.take wd:=by
 show (padB (l.take wd)).take wd = l.take wd
 unfold padB
 rw [List.take_take,Nat.min_eq_right h,List.take_append_of_le_length (by simp;omega),List.take_take,Nat.min_self]
theorem dg_dgP {wd : Nat} {d : Dg} {l l' : Bs} (h1 : wd ≤ 32) (h : dgP wd l = some (d,l')) : l = d.l.take wd ++ l':=by
 unfold dgP rawP at h
 split at h
 ·rename_i hk
  simp only [Option.map_some,Option.some.injEq,Prod.mk.injEq] at h
  obtain ⟨rfl,rfl⟩:=h
  rw [pad_take h1 hk,List.take_append_drop]
 ·simp at h

theorem pair_pairP {P : Nat} {u u' : Unit} {x : Pr} {l l' : Bs} (h : pairP P u l = some (u',x,l')) : l = pairB x ++ l':=by
 unfold pairP at h
 cases h1 : textP (P / 16) l with
 | none=>simp [h1] at h
 | some r=>
  obtain ⟨k,l1⟩:=r
  cases h2 : textP (P / 8) l1 with
  | none=>simp [h1,h2] at h
  | some r2=>
   obtain ⟨v,l2⟩:=r2
   simp only [h1,h2,Option.some.injEq,Prod.mk.injEq] at h
   obtain ⟨_,rfl,rfl⟩:=h
   rw [text_textP h1,text_textP h2,pairB,List.append_assoc]

theorem pairs_many {P : Nat} : ∀ (n : Nat) (ps : List Pr) (u : Unit) (l l' : Bs),manyP (pairP P) n () l = some (u,ps,l') → l = pairsB ps ++ l' ∧ ps.length = n
 | 0,ps,u,l,l',h=>by
  simp only [manyP,Option.some.injEq,Prod.mk.injEq] at h
  obtain ⟨_,rfl,rfl⟩:=h;exact ⟨rfl,rfl⟩
 | n + 1,ps,u,l,l',h=>by
  unfold manyP at h
  cases h1 : pairP P () l with
  | none=>simp [h1] at h
  | some r=>
   obtain ⟨_,x,l1⟩:=r
   cases h2 : manyP (pairP P) n () l1 with
   | none=>simp [h1,h2] at h
   | some r2=>
    obtain ⟨_,ts,l2⟩:=r2
    simp only [h1,h2,Option.some.injEq,Prod.mk.injEq] at h
    obtain ⟨_,rfl,rfl⟩:=h
    obtain ⟨e1,e2⟩:=pairs_many n ts _ _ _ h2
    refine ⟨?_,by simp [e2]⟩
    rw [pair_pairP h1,e1,← List.append_assoc];rfl

theorem pairsB_list {P m : Nat} {ps : List Pr} {u : Unit} {l l' : Bs} (h : listP m (pairP P) () l = some (u,ps,l')) : l = freeB ps.length ++ pairsB ps ++ l':=by
 unfold listP at h
 cases hf : freeP m l with
 | none=>simp [hf] at h
 | some r=>
  obtain ⟨n,l1⟩:=r
  simp only [hf] at h
  split at h
  ·obtain ⟨e1,e2⟩:=pairs_many n ps u l1 l' h
   rw [free_freeP hf,e1,e2,List.append_assoc]
  ·cases h

end Go.Proofs.YtcaggadjkccbiaaGreat