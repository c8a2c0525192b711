/- Values without addresses: small facts. -/
import Derived.Test.YtgjaaffheanobaaGreatZ19
namespace Go.Proofs.YtgjaaffheanobaaGreat
set_option linter.unusedVariables false
set_option linter.unusedSimpArgs false
open Go Go.RowKit

theorem nes {a b:Nat} (h:¬ a=b):¬ b=a:=fun e=>h e.symm
theorem Rets.kp {v:Value} {w:World} {e:Ending} {w':World} (h:Rets v w e w'):e=.returned v∧Kp [] w w':=by
 obtain ⟨h1,bs,n,rfl⟩:=h
 exact ⟨h1,(Kp.refl [] _).ext _ _⟩
theorem RVal.of_int {w:World} {I:Nat→Nat→Prop} {k:IntKind} {n:Int}:RVal w I (.v (.int k n)) (.int k n):=by unfold RVal;exact ⟨rfl,rfl⟩
theorem RVal.of_str {w:World} {I:Nat→Nat→Prop} {s:Bs}:RVal w I (sD s) (.string ⟨s.toArray⟩):=by unfold RVal;exact ⟨rfl,rfl⟩
theorem RVal.of_bool {w:World} {I:Nat→Nat→Prop} {b:Bool}:RVal w I (bD b) (.bool b):=by unfold RVal;exact ⟨rfl,rfl⟩
section
variable {w : World} {I : Nat → Nat → Prop}
theorem rvs_flat {α:Type} (f:α→D) (g:α→List Value) (h:∀ x us,RV w I (f x) us ↔ us=g x):∀ (l:List α) (us:List Value),RVs w I (l.map f) us ↔ us=l.flatMap g
 | [],us=>by unfold RVs;simp
 | x::l,us=>by
  have ih:=rvs_flat f g h l
  rw [List.map_cons]
  unfold RVs
  constructor
  ·rintro ⟨xs,ys,rfl,h1,h2⟩
   rw [(h x xs).1 h1,(ih ys).1 h2];simp
  ·rintro rfl
   exact ⟨_,_,by simp,(h x _).2 rfl,(ih _).2 rfl⟩
end
theorem flat_lenz {α:Type} (g:α→List Value) (z:Nat) (h:∀ x,(g x).length=z):∀ l:List α,(l.flatMap g).length=l.length*z
 | []=>by simp
 | x::l=>by rw [List.flatMap_cons,List.length_append,h,flat_lenz g z h l,List.length_cons,Nat.add_mul];omega
def restD (es:List D) (k:Nat):D:=.tup [.agg es,.v (.int .i64 k)]
theorem restD_front (es:List D) (k:Nat):(restD es k).front=(.agg es,k):=by unfold restD D.front;simp
def LIn (bk:List (Nat×TypeId×D)) (t:TypeId) (z:Nat) (a:Option Addr) (c:Nat) (es:List D):Prop:=
 (a=none∧es=[]∧c=0)∨∃ g,a=some ⟨g,0,none⟩∧(g,t,restD es ((c - es.length)*z))∈bk∧es.length≤c∧c≤maxLen
theorem LIn.sub {bk bk':List (Nat×TypeId×D)} {t:TypeId} {z:Nat} {a:Option Addr} {c:Nat} {es:List D} (h:LIn bk t z a c es) (hs:∀ x∈bk,x∈bk'):LIn bk' t z a c es:=by
 rcases h with h | ⟨g,h1,h2,h3⟩
 ·exact .inl h
 ·exact .inr ⟨g,h1,hs _ h2,h3⟩
theorem LIn.own {α:Type} {f:α→D} {g:α→List Value} {w:World} {S:Sto} {t:TypeId} {z:Nat} {a:Option Addr} {c:Nat} {l:List α} (h:LIn S.bk t z a c (l.map f)) (hS:StAt w S) (hf:∀ x us,RV w S.I (f x) us ↔ us=g x) (hz:∀ x,(g x).length=z) :
  Own w t z a l.length c (l.flatMap g):=by
 have hl:=flat_lenz g z hz l
 refine ⟨hl,?_⟩
 rcases h with ⟨rfl,h2,rfl⟩ | ⟨b,rfl,h2,h3,h4⟩
 ·have:l=[]:=by simpa using h2
  subst this
  exact .inl ⟨rfl,rfl⟩
 ·obtain ⟨us,hb,xs,ys,rfl,h5,h6⟩:=(hS.mutAt _ _ _ h2).blk rfl
  rw [restD_front] at h5 h6
  simp only [List.length_map] at h3 h6
  unfold RV at h5
  have h5:=(rvs_flat f g hf l xs).1 h5
  subst h5
  refine .inr ⟨b,c,_,rfl,Nat.zero_le _,hb,h3,h4,?_,?_⟩
  ·simp only [List.size_toArray,List.length_append,hl,h6,← Nat.add_mul]
   congr 1;omega
  ·rw [← hl];simp

def entL (t:TypeId) (z:Nat) (a:Option Addr) (c:Nat) (es:List D):List (Nat×TypeId×D):=
 match a with
 | some x=>[(x.block,t,restD es ((c - es.length)*z))]
 | none=>[]
theorem entL_keys (t:TypeId) (z:Nat) (a:Option Addr) (c:Nat) (es:List D):(entL t z a c es).map (·.1)=ab a:=by cases a <;> rfl
theorem entL_in {α:Type} {f:α→D} {g:α→List Value} {w:World} {t:TypeId} {z:Nat} {a:Option Addr} {c:Nat} {l:List α} (h:Own w t z a l.length c (l.flatMap g)):LIn (entL t z a c (l.map f)) t z a c (l.map f):=by
 rcases h.block.2 with ⟨rfl,h1,rfl⟩ | ⟨b,cur,rfl,h1,h2,h3,_⟩
 ·exact .inl ⟨rfl,by have:l=[]:=List.eq_nil_of_length_eq_zero h1;subst this;rfl,rfl⟩
 ·exact .inr ⟨b,rfl,by simp [entL],by simpa using h2,h3⟩
theorem entL_ok {α:Type} {f:α→D} {g:α→List Value} {w:World} {t:TypeId} {z:Nat} {a:Option Addr} {c:Nat} {l:List α} (h:Own w t z a l.length c (l.flatMap g)) (hf:∀ I x us,RV w I (f x) us ↔ us=g x) :
  ∀ b t' d,(b,t',d)∈entL t z a c (l.map f)→∃ us:List Value,Blk w b t' us.toArray∧∀ I,RVT w I d us:=by
 intro b t' d hm
 rcases h.block.2 with ⟨rfl,_⟩ | ⟨b',cur,rfl,h1,h2,h3,h4,h5⟩
 ·simp [entL] at hm
 ·simp only [entL,List.mem_singleton,Prod.mk.injEq] at hm
  obtain ⟨rfl,rfl,rfl⟩:=hm
  refine ⟨cur.toList,by simpa using h1,fun I=>⟨l.flatMap g,cur.toList.drop (l.length*z),?_,?_,?_⟩⟩
  ·rw [← h5,List.take_append_drop]
  ·rw [restD_front];unfold RV;exact (rvs_flat f g (hf I) l _).2 rfl
  ·rw [restD_front]
   simp only [List.length_drop,Array.length_toList,h4,List.length_map]
   rw [Nat.sub_mul]

theorem ab_nodup (a:Option Addr):(ab a).Nodup:=by cases a <;> simp [ab]

end Go.Proofs.YtgjaaffheanobaaGreat