/- What two unlike proofs give is a clash (a plain law). -/
import Derived.Test.YtcaggadjkccbiaaGreatZ50
namespace Go.Proofs.YtcaggadjkccbiaaGreat
set_option linter.unusedVariables false
set_option linter.unusedSimpArgs false
open Go Go.RowKit

theorem textT_inj2 {t t' s s' : Bs} (h1 : t.length ≤ 64) (h2 : t'.length ≤ 64) (h : textT t [s] = textT t' [s']) : t = t' ∧ s = s':=by
 unfold textT at h
 simp only [List.cons_append,List.cons.injEq,List.flatMap_cons,List.flatMap_nil,List.append_nil] at h
 have h4:=h.2
 have h5 : t.length = t'.length:=by
  have h3:=congrArg UInt8.toNat h.1
  rw [UInt8.toNat_ofNat',UInt8.toNat_ofNat'] at h3
  omega
 have h6:=List.append_inj h4 h5
 exact ⟨h6.1,(List.append_inj h6.2 (by simp [be4L])).2⟩
theorem sum_text {p wid : Int} {s : Bs} {n : Nd} (h : readP p wid s = some n) : sumN p wid n = ofS wid (textR p wid s):=by
 obtain ⟨hm,hp,_,_⟩:=plain_read h
 have hr:=rightB_iff.1 (readP_ok h).1
 unfold sumN
 rw [if_pos hm,hp]
 unfold digS
 rw [if_pos (by omega : 1 ≤ wid ∧ wid ≤ 32),if_pos (tagN_ok n).1]
 unfold textR
 rw [nodeOf_some h]
theorem clash_holds {p wid : Int} {u v : Bs} {n n' : Nd} (hu : readP p wid u = some n) (hv : readP p wid v = some n') (hne : u ≠ v) (h0 : (sumN p wid n).2 = 0) (h1 : (sumN p wid n).1 = (sumN p wid n').1) :
  clashB wid (textR p wid u) (textR p wid v) = true ∧ holdsB p wid (textR p wid u) (textR p wid v) = true:=by
 rw [sum_text hu] at h0 h1
 rw [sum_text hv] at h1
 have hc : clashB wid (textR p wid u) (textR p wid v) = true:=by
  unfold clashB
  refine decide_eq_true ⟨h0,fun h=>hne ?_,h1⟩
  unfold textR at h
  exact (textT_inj2 (by have:=(tagN_ok (nodeOf p wid u)).2;omega) (by have:=(tagN_ok (nodeOf p wid v)).2;omega) h).2
 refine ⟨hc,?_⟩
 unfold holdsB
 rw [hc,(readP_ok hu).1]
 rfl
theorem no_clash (p wid : Int) : holdsB p wid [] [] = false:=by
 unfold holdsB clashB
 rw [decide_eq_false (fun h=>h.2.1 rfl)]
 simp
def ClashW (p wid : Int) (c : Bs × Bs) : Prop:=clashB wid c.1 c.2 = true ∧ holdsB p wid c.1 c.2 = true
theorem formP_good {p wid : Int} {key s : Bs} {first last : Bool} {r r' : Rg} (h : formP p wid key s first last r = some r') : ∃ n,readP p wid s = some n ∧ (sumN p wid n).2 = 0 ∧ (sumN p wid n).1 = r.want:=by
 unfold formP at h
 cases hn : readP p wid s with
 | none=>rw [hn] at h;cases h
 | some n=>
  rw [hn] at h
  simp only [] at h
  split at h
  ·rename_i hg
   refine ⟨n,rfl,?_⟩
   unfold goodB at hg
   simp only [Bool.and_eq_true,beq_iff_eq,decide_eq_true_eq] at hg
   exact ⟨hg.1.1.1.1,hg.1.1.1.2⟩
  ·cases h
theorem walk_clash {p wid : Int} {key : Bs} : ∀ (l m : List Bs) (i : Nat) (r r1 r2 : Rg) (c : Bs × Bs),readF p wid key i l r = some r1 → readF p wid key i m r = some r2 → firstR p wid l m = (c,0) → ClashW p wid c
 | [],m,_,_,_,_,c,_,_,h=>by
  have : firstR p wid [] m = (([],[]),171):=by cases m <;> rfl
  rw [this] at h;simp at h
 | x :: l,[],_,_,_,_,c,_,_,h=>by
  have : firstR p wid (x :: l) [] = (([],[]),171):=rfl
  rw [this] at h;simp at h
 | x :: l,y :: m,i,r,r1,r2,c,h1,h2,h=>by
  obtain ⟨ra,f1,g1⟩:=readF_cons h1
  obtain ⟨rb,f2,g2⟩:=readF_cons h2
  have hfr : firstR p wid (x :: l) (y :: m) = if x ≠ y then ((textR p wid x,textR p wid y),0) else firstR p wid l m:=rfl
  rw [hfr] at h
  by_cases hxy : x = y
  ·subst hxy
   rw [if_neg (fun h=>h rfl)] at h
   obtain ⟨n,hn,hln,ha⟩:=formP_some f1
   obtain ⟨n',hn',hlm,hb⟩:=formP_some f2
   rw [hn] at hn'
   simp only [Option.some.injEq] at hn'
   subst hn'
   have hlast : (m.length == 0) = (l.length == 0):=hlm.symm.trans hln
   rw [hlast] at hb
   have hab : ra = rb:=ha.trans hb.symm
   subst hab
   exact walk_clash l m (i + 1) ra r1 r2 c g1 g2 h
  ·rw [if_pos hxy] at h
   simp only [Prod.mk.injEq,and_true] at h
   subst h
   obtain ⟨n,hn,s1,s2⟩:=formP_good f1
   obtain ⟨n',hn',t1,t2⟩:=formP_good f2
   exact clash_holds hn hn' hxy s1 (s2.trans t2.symm)
theorem points_found (p wid : Int) (root : Dg) (key x y : Bs) :
  (((pointsP p wid root key x y).2 = 0) ↔ (errP p wid root key x = 0 ∧ errP p wid root key y = 0 ∧ ansP p wid root key x ≠ ansP p wid root key y)) ∧
  (((pointsP p wid root key x y).2 = 0 ∧ ClashW p wid (pointsP p wid root key x y).1) ∨ ((pointsP p wid root key x y).2 ≠ 0 ∧ (pointsP p wid root key x y).1 = ([],[]))):=by
 rw [points_same]
 by_cases h2 : errP p wid root key x = 2
 ·rw [if_pos h2]
  exact ⟨⟨fun h=>(by cases h),fun h=>(by rw [h2] at h;cases h.1)⟩,.inr ⟨by simp,rfl⟩⟩
 rw [if_neg h2]
 by_cases h0 : errP p wid root key x ≠ 0 ∨ errP p wid root key y ≠ 0
 ·rw [if_pos h0]
  exact ⟨⟨fun h=>(by cases h),fun h=>absurd h0 (fun q=>Or.elim q (fun q=>q h.1) (fun q=>q h.2.1))⟩,.inr ⟨by simp,rfl⟩⟩
 rw [if_neg h0]
 have hx : errP p wid root key x = 0:=Classical.byContradiction fun q=>h0 (.inl q)
 have hy : errP p wid root key y = 0:=Classical.byContradiction fun q=>h0 (.inr q)
 by_cases ha : ansP p wid root key x = ansP p wid root key y
 ·rw [if_pos ha]
  exact ⟨⟨fun h=>(by cases h),fun h=>absurd ha h.2.2⟩,.inr ⟨by simp,rfl⟩⟩
 rw [if_neg ha]
 obtain ⟨r1,g1,a1,n1⟩:=proof_some hx
 obtain ⟨r2,g2,a2,n2⟩:=proof_some hy
 obtain ⟨c,_,hc⟩:=walk_first _ _ 0 (rg0 root) r1 r2 g1 g2 n1 n2 (by rw [a1,a2];exact ha)
 have:=walk_clash _ _ 0 (rg0 root) r1 r2 c g1 g2 hc
 rw [hc]
 exact ⟨⟨fun _=>⟨hx,hy,ha⟩,fun _=>rfl⟩,.inl ⟨rfl,this⟩⟩

theorem spans_found (p wid : Int) (root : Dg) (lo hi x y : Bs) :
  (((spansP p wid root lo hi x y).2 = 0) ↔ (errS p wid root lo hi x = 0 ∧ errS p wid root lo hi y = 0 ∧ pairsS p wid root lo hi x ≠ pairsS p wid root lo hi y)) ∧
  (((spansP p wid root lo hi x y).2 = 0 ∧ ClashW p wid (spansP p wid root lo hi x y).1) ∨ ((spansP p wid root lo hi x y).2 ≠ 0 ∧ (spansP p wid root lo hi x y).1 = ([],[]))):=by
 rw [spans_same]
 by_cases h2 : errS p wid root lo hi x = 2
 ·rw [if_pos h2]
  exact ⟨⟨fun h=>(by cases h),fun h=>(by rw [h2] at h;cases h.1)⟩,.inr ⟨by simp,rfl⟩⟩
 rw [if_neg h2]
 by_cases h0 : errS p wid root lo hi x ≠ 0 ∨ errS p wid root lo hi y ≠ 0
 ·rw [if_pos h0]
  exact ⟨⟨fun h=>(by cases h),fun h=>absurd h0 (fun q=>Or.elim q (fun q=>q h.1) (fun q=>q h.2.1))⟩,.inr ⟨by simp,rfl⟩⟩
 rw [if_neg h0]
 have hx : errS p wid root lo hi x = 0:=Classical.byContradiction fun q=>h0 (.inl q)
 have hy : errS p wid root lo hi y = 0:=Classical.byContradiction fun q=>h0 (.inr q)
 by_cases ha : pairsS p wid root lo hi x = pairsS p wid root lo hi y
 ·rw [if_pos ha]
  exact ⟨⟨fun h=>(by cases h),fun h=>absurd ha h.2.2⟩,.inr ⟨by simp,rfl⟩⟩
 rw [if_neg ha]
 obtain ⟨_,u,l,s1,n1⟩:=spanS_ok hx
 obtain ⟨_,v,m,s2,n2⟩:=spanS_ok hy
 have f1 : formsS x = u :: l:=by unfold formsS;rw [s1];rfl
 have f2 : formsS y = v :: m:=by unfold formsS;rw [s2];rfl
 rw [f1,f2]
 rcases span_walk 33 true root none none _ _ _ _ _ _ n1 n2 with ⟨c,e1,e2,e3,_⟩ | ⟨c,a,b,l2,m2,e1,e2,hab,⟨n,n',hn,hn',q1,q2⟩,hw⟩
 ·exact absurd e3 ha
 ·rw [e1,e2,firstR_pre hab]
  exact ⟨⟨fun _=>⟨hx,hy,ha⟩,fun _=>rfl⟩,.inl ⟨rfl,clash_holds hn hn' hab q1 q2⟩⟩
theorem firstR_short {p wid : Int} {B : Nat} : ∀ (l m : List Bs),(∀ z ∈ l,z.length ≤ B) → (∀ z ∈ m,z.length ≤ B) → (firstR p wid l m).1.1.length ≤ B + 11 ∧ (firstR p wid l m).1.2.length ≤ B + 11
 | [],m,_,_=>by
  have : firstR p wid [] m = (([],[]),171):=by cases m <;> rfl
  rw [this];exact ⟨Nat.zero_le _,Nat.zero_le _⟩
 | x :: l,[],_,_=>by
  have : firstR p wid (x :: l) [] = (([],[]),171):=rfl
  rw [this];exact ⟨Nat.zero_le _,Nat.zero_le _⟩
 | x :: l,y :: m,h1,h2=>by
  have hfr : firstR p wid (x :: l) (y :: m) = if x ≠ y then ((textR p wid x,textR p wid y),0) else firstR p wid l m:=rfl
  rw [hfr]
  split
  ·have a1:=h1 x (by simp)
   have a2:=h2 y (by simp)
   have t1:=(tagN_ok (nodeOf p wid x)).2
   have t2:=(tagN_ok (nodeOf p wid y)).2
   unfold textR
   simp only [textT1]
   omega
  ·exact firstR_short l m (fun z hz=>h1 z (by simp [hz])) (fun z hz=>h2 z (by simp [hz]))
theorem points_short (p wid : Int) (root : Dg) (key x y : Bs) (hx : x.length ≤ 1048576) (hy : y.length ≤ 1048576) : (pointsP p wid root key x y).1.1.length ≤ 2000000 ∧ (pointsP p wid root key x y).1.2.length ≤ 2000000:=by
 rw [points_same]
 split
 ·exact ⟨Nat.zero_le _,Nat.zero_le _⟩
 ·split
  ·exact ⟨Nat.zero_le _,Nat.zero_le _⟩
  ·split
   ·exact ⟨Nat.zero_le _,Nat.zero_le _⟩
   ·have:=firstR_short (p:=p) (wid:=wid) (B:=1048576) _ _ (fun z hz=>Nat.le_trans ((forms_any p wid root key x).1 z hz) hx) (fun z hz=>Nat.le_trans ((forms_any p wid root key y).1 z hz) hy)
    omega
theorem spans_short (p wid : Int) (root : Dg) (lo hi x y : Bs) (hx : x.length ≤ 1048576) (hy : y.length ≤ 1048576) : (spansP p wid root lo hi x y).1.1.length ≤ 2000000 ∧ (spansP p wid root lo hi x y).1.2.length ≤ 2000000:=by
 have hs : ∀ s : Bs,s.length ≤ 1048576 → ∀ z ∈ formsS s,z.length ≤ 1048576:=fun s h z hz=>by
  unfold formsS at hz
  cases hp : splitP s with
  | none=>rw [hp] at hz;cases hz
  | some fs=>rw [hp] at hz;exact Nat.le_trans (splitP_shr hp z hz) h
 rw [spans_same]
 split
 ·exact ⟨Nat.zero_le _,Nat.zero_le _⟩
 ·split
  ·exact ⟨Nat.zero_le _,Nat.zero_le _⟩
  ·split
   ·exact ⟨Nat.zero_le _,Nat.zero_le _⟩
   ·have:=firstR_short (p:=p) (wid:=wid) (B:=1048576) _ _ (hs x hx) (hs y hy)
    omega

end Go.Proofs.YtcaggadjkccbiaaGreat