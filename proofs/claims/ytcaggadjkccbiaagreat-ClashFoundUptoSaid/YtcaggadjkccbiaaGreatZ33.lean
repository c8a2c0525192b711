/- Plain laws: a node's form is read as that node, and what is read is that node's form. -/
import Derived.Test.YtcaggadjkccbiaaGreatZ32
namespace Go.Proofs.YtcaggadjkccbiaaGreat
set_option linter.unusedVariables false
set_option linter.unusedSimpArgs false
open Go Go.RowKit

def kB (pages : Bool) (wd : Nat) (k : Kd) : Bs:=(if pages = true then fixB 4 k.page else []) ++ k.sum.l.take wd
def kidsT (pages : Bool) (wd : Nat) : List Kd → List Bs → Bs
 | k :: ks,s :: ss=>textB s ++ (kB pages wd k ++ kidsT pages wd ks ss)
 | _,_=>[]

theorem kidsT_range (pages : Bool) (wd : Nat) : ∀ (ks : List Kd) (ss : List Bs),ks.length = ss.length → (List.range ks.length).flatMap (fun i=>textB (ss.getD i []) ++ kB pages wd (ks.getD i Kd.zero)) = kidsT pages wd ks ss
 | [],[],_=>rfl
 | k :: ks,s :: ss,h=>by
  rw [List.length_cons,List.range_succ_eq_map,List.flatMap_cons,List.flatMap_map]
  have ih:=kidsT_range pages wd ks ss (by simpa using h)
  simp only [kidsT,List.getD_cons_zero,List.append_assoc]
  rw [← ih]
  rfl
theorem kidsB_T (pages : Bool) (wd : Nat) (ps : List Pr) (k : Kd) (ks : List Kd) (ss : List Bs) (h : ss.length + 1 = (k :: ks).length) : kidsB pages wd ⟨ps,ss,k :: ks⟩ (k :: ks).length = kB pages wd k ++ kidsT pages wd ks ss:=by
 unfold kidsB
 rw [List.length_cons,List.range_succ_eq_map,List.flatMap_cons,List.flatMap_map,← kidsT_range pages wd ks ss (by simp at h;omega)]
 congr 1

theorem kidP_kid {P wd : Nat} {pages : Bool} {x x' : Bool × List Bs} {l l' : Bs} {k : Kd} (hwd : wd ≤ 32) (h : kidP P wd pages x l = some (x',k,l')) : sepP P x l = some (x',kB pages wd k ++ l') ∧ (pages = false → k.page = 0):=by
 unfold kidP at h
 cases hs : sepP P x l with
 | none=>simp [hs] at h
 | some r=>
  obtain ⟨x1,l1⟩:=r
  cases pages
  ·simp only [hs,Bool.false_eq_true,if_false] at h
   cases hd : dgP wd l1 with
   | none=>simp [hd] at h
   | some r3=>
    obtain ⟨d,l3⟩:=r3
    simp only [hd,Option.some.injEq,Prod.mk.injEq] at h
    obtain ⟨rfl,rfl,rfl⟩:=h
    exact ⟨by rw [dg_dgP hwd hd];rfl,fun _=>rfl⟩
  ·simp only [hs,if_true] at h
   cases ht : takeP 4 l1 with
   | none=>simp [ht] at h
   | some r2=>
    obtain ⟨n,l2⟩:=r2
    cases hd : dgP wd l2 with
    | none=>simp [ht,hd] at h
    | some r3=>
     obtain ⟨d,l3⟩:=r3
     simp only [ht,hd,Option.some.injEq,Prod.mk.injEq] at h
     obtain ⟨rfl,rfl,rfl⟩:=h
     refine ⟨?_,by simp⟩
     rw [fix_takeP ht,dg_dgP hwd hd]
     simp [kB]

theorem sepP_true {P : Nat} {sp : List Bs} {l : Bs} : sepP P (true,sp) l = some ((false,sp),l):=by simp [sepP]
theorem false_sepP {P : Nat} {sp : List Bs} {x : Bool × List Bs} {l l1 : Bs} (h : sepP P (false,sp) l = some (x,l1)) : ∃ s,x = (false,sp ++ [s]) ∧ l = textB s ++ l1:=by
 unfold sepP at h
 rw [if_neg (by simp)] at h
 cases ht : textP (P / 16) l with
 | none=>simp [ht] at h
 | some r=>
  obtain ⟨t,l2⟩:=r
  simp only [ht,Option.map_some,Option.some.injEq,Prod.mk.injEq] at h
  obtain ⟨rfl,rfl⟩:=h
  exact ⟨t,rfl,text_textP ht⟩

theorem kids_many {P wd : Nat} {pages : Bool} (hwd : wd ≤ 32) : ∀ (n : Nat) (ks : List Kd) (sp : List Bs) (x : Bool × List Bs) (l l' : Bs),manyP (kidP P wd pages) n (false,sp) l = some (x,ks,l') →
  ∃ ss,x = (false,sp ++ ss) ∧ ks.length = ss.length ∧ ks.length = n ∧ l = kidsT pages wd ks ss ++ l' ∧ (pages = false → ∀ k ∈ ks,k.page = 0)
 | 0,ks,sp,x,l,l',h=>by
  simp only [manyP,Option.some.injEq,Prod.mk.injEq] at h
  obtain ⟨rfl,rfl,rfl⟩:=h
  exact ⟨[],by simp,rfl,rfl,rfl,by simp⟩
 | n + 1,ks,sp,x,l,l',h=>by
  unfold manyP at h
  cases h1 : kidP P wd pages (false,sp) l with
  | none=>simp [h1] at h
  | some r=>
   obtain ⟨x1,k,l1⟩:=r
   simp only [h1] at h
   obtain ⟨e1,e2⟩:=kidP_kid hwd h1
   obtain ⟨s,rfl,rfl⟩:=false_sepP e1
   cases h2 : manyP (kidP P wd pages) n (false,sp ++ [s]) l1 with
   | none=>simp [h2] at h
   | some r2=>
    obtain ⟨x2,ts,l2⟩:=r2
    simp only [h2,Option.some.injEq,Prod.mk.injEq] at h
    obtain ⟨rfl,rfl,rfl⟩:=h
    obtain ⟨ss,rfl,e3,e4,rfl,e5⟩:=kids_many hwd n ts _ _ _ _ h2
    refine ⟨s :: ss,by simp,by simpa using e3,by simpa using e4,by simp [kidsT],fun hp=>?_⟩
    intro y hy
    rcases List.mem_cons.1 hy with rfl | hy
    ·exact e2 hp
    ·exact e5 hp y hy

theorem kidsB_list {P wd m : Nat} {pages : Bool} (hwd : wd ≤ 32) {ks : List Kd} {x : Bool × List Bs} {l l' : Bs} (h : listP m (kidP P wd pages) (true,[]) l = some (x,ks,l')) (hne : ks ≠ []) :
  ∃ k ks' ss,ks = k :: ks' ∧ x = (false,ss) ∧ ks'.length = ss.length ∧ l = freeB ks.length ++ (kB pages wd k ++ kidsT pages wd ks' ss) ++ l' ∧ (pages = false → ∀ k ∈ ks,k.page = 0):=by
 unfold listP at h
 cases hf : freeP m l with
 | none=>simp [hf] at h
 | some r=>
  obtain ⟨n,l1⟩:=r
  simp only [hf] at h
  split at h
  ·cases n with
   | zero=>
    simp only [manyP,Option.some.injEq,Prod.mk.injEq] at h
    exact absurd h.2.1.symm hne
   | succ n=>
    unfold manyP at h
    cases h1 : kidP P wd pages (true,[]) l1 with
    | none=>simp [h1] at h
    | some r=>
     obtain ⟨x1,k,l2⟩:=r
     simp only [h1] at h
     obtain ⟨e1,e2⟩:=kidP_kid hwd h1
     rw [sepP_true] at e1
     simp only [Option.some.injEq,Prod.mk.injEq] at e1
     obtain ⟨rfl,rfl⟩:=e1
     cases h2 : manyP (kidP P wd pages) n (false,[]) l2 with
     | none=>simp [h2] at h
     | some r2=>
      obtain ⟨x2,ts,l3⟩:=r2
      simp only [h2,Option.some.injEq,Prod.mk.injEq] at h
      obtain ⟨rfl,rfl,rfl⟩:=h
      obtain ⟨ss,rfl,e3,e4,rfl,e5⟩:=kids_many hwd n ts _ _ _ _ h2
      refine ⟨k,ts,ss,rfl,by simp,e3,?_,fun hp=>?_⟩
      ·rw [free_freeP hf,List.length_cons,e4];simp
      ·intro y hy
       rcases List.mem_cons.1 hy with rfl | hy
       ·exact e2 hp
       ·exact e5 hp y hy
  ·cases h

theorem kB_len (pages : Bool) {wd : Nat} (k : Kd) (hwd : wd ≤ 32) : (kB pages wd k).length = (if pages = true then 4 else 0) + wd:=by
 unfold kB
 rw [List.length_append,List.length_take,k.sum.h]
 cases pages <;> simp [fixB_len] <;> omega
theorem fitB_iff {wd : Nat} {d : Dg} : fitB wd d = true ↔ (1 ≤ wd ∧ wd ≤ 32) ∧ Dg.cut wd d = d:=by
 simp [fitB];omega

theorem branch_good {P wd : Nat} {n : Nd} (h : shapedB P wd n = true) (hl : leafB n = false) : n.pairs = [] ∧ n.seps.length + 1 = n.kids.length ∧ (∀ s ∈ n.seps,1 ≤ s.length ∧ s.length ≤ P / 16) ∧ ∀ k ∈ n.kids,Dg.cut wd k.sum = k.sum:=by
 unfold shapedB at h
 rw [if_neg (by simp [hl])] at h
 simp only [Bool.and_eq_true,decide_eq_true_eq,Bool.not_eq_true'] at h
 obtain ⟨⟨⟨⟨h1,h2⟩,h3⟩,h4⟩,h5⟩:=h
 refine ⟨List.length_eq_zero_iff.1 h1,h3,rises_len _ _ _ h5,fun k hk=>?_⟩
 have:=List.any_eq_false.1 h4 k hk
 simp only [Bool.not_eq_true',Bool.not_eq_false] at this
 exact (fitB_iff.1 this).2
theorem form_parse {P wd : Nat} {pages : Bool} {n : Nd} {s : Bs} (hwd : wd ≤ 32) (h : parseP P wd pages s = some n) : formB pages wd n = s ∧ (pages = false → ∀ k ∈ n.kids,k.page = 0):=by
 unfold parseP at h
 cases ht : takeP 1 s with
 | none=>simp [ht] at h
 | some r=>
  obtain ⟨t,l⟩:=r
  have hs:=fix_takeP ht
  simp only [ht] at h
  split at h
  ·rename_i h1
   subst h1
   cases hp : listP s.length (pairP P) () l with
   | none=>simp [hp] at h
   | some q=>
    obtain ⟨u,ps,l'⟩:=q
    simp only [hp] at h
    split at h
    ·rename_i hn
     subst hn
     simp only [Option.some.injEq] at h
     subst h
     have:=pairsB_list hp
     refine ⟨?_,by simp⟩
     rw [hs,this]
     simp [formB,leafB,fixB]
    ·cases h
  ·split at h
   ·rename_i h1
    subst h1
    cases hp : listP s.length (kidP P wd pages) (true,[]) l with
    | none=>simp [hp] at h
    | some q=>
     obtain ⟨x,ks,l'⟩:=q
     simp only [hp] at h
     split at h
     ·cases h
     ·rename_i hne
      split at h
      ·rename_i hn
       subst hn
       simp only [Option.some.injEq] at h
       subst h
       obtain ⟨k,ks',ss,rfl,rfl,e1,e2,e3⟩:=kidsB_list hwd hp hne
       refine ⟨?_,e3⟩
       have hT:=kidsB_T pages wd [] k ks' ss (by simp;omega)
       rw [hs,e2]
       unfold formB
       rw [if_neg (by simp [leafB])]
       simp only
       rw [hT]
       simp [fixB]
      ·cases h
   ·cases h

theorem kidsT_len {pages : Bool} {wd : Nat} (hwd : wd ≤ 32) : ∀ (ks : List Kd) (ss : List Bs),ks.length = ss.length → (kidsT pages wd ks ss).length = ks.length * ((if pages = true then 4 else 0) + wd) + (ss.map txN).sum
 | [],[],_=>by simp [kidsT]
 | k :: ks,s :: ss,h=>by
  have ih:=kidsT_len (pages:=pages) hwd ks ss (by simpa using h)
  simp only [kidsT,List.length_append,textB_length,kB_len pages k hwd,ih,List.length_cons,Nat.succ_mul,List.map_cons,List.sum_cons]
  omega
theorem formB_len {P wd : Nat} {pages : Bool} {n : Nd} (hc : checkE P wd n = 0) : (formB pages wd n).length + (if pages = true then 0 else 4 * n.kids.length) = sizeN wd n:=by
 obtain ⟨hr,hs⟩:=checkE_ok hc
 have hr':=rightB_iff.1 hr
 have hwd : wd ≤ 32:=by omega
 simp only [Int.toNat_natCast] at hs
 unfold formB sizeN
 cases hl : leafB n
 ·obtain ⟨e1,e2,e3,e4⟩:=branch_good hs hl
  obtain ⟨ps,ss,ks⟩:=n
  cases ks with
  | nil=>simp at e2
  | cons k ks=>
   simp only at e1 e2
   have e2' : ks.length = ss.length:=by simp at e2;omega
   simp only [Bool.false_eq_true,if_false]
   rw [kidsB_T pages wd ps k ks ss e2]
   simp only [List.length_cons,List.length_append,freeB_length,kB_len pages k hwd,kidsT_len hwd ks ss e2',Nat.succ_mul]
   cases pages
   ·simp only [Bool.false_eq_true,if_false,Nat.zero_add]
    simp only [Nat.mul_add];omega
   ·simp only [if_true,Nat.mul_add];omega
 ·obtain ⟨e1,e2⟩:=leafB_iff.1 hl
  simp only [if_true,List.length_cons,List.length_append,freeB_length,pairsB_length,e2,List.length_nil,Nat.mul_zero,ite_self]
  omega

theorem readP_ok {p wd : Int} {s : Bs} {n : Nd} (h : readP p wd s = some n) : rightB p wd = true ∧ mayE p wd n = 0 ∧ parseP p.toNat wd.toNat false s = some n:=by
 unfold readP at h
 split at h
 ·rename_i hr
  obtain ⟨h1,h2⟩:=Option.filter_eq_some_iff.1 h
  exact ⟨hr,by simpa using h2,h1⟩
 ·cases h
theorem plain_read {p wd : Int} {s : Bs} {n : Nd} (h : readP p wd s = some n) : mayE p wd n = 0 ∧ plainS p wd n = s ∧ checkE p wd n = 0 ∧ ∀ k ∈ n.kids,k.page = 0:=by
 obtain ⟨hr,he,hp⟩:=readP_ok h
 have hr':=rightB_iff.1 hr
 obtain ⟨h1,h2⟩:=form_parse (by omega) hp
 refine ⟨he,?_,(mayE_ok he).1,h2 rfl⟩
 unfold plainS;rw [if_pos he]
 exact h1

end Go.Proofs.YtcaggadjkccbiaaGreat