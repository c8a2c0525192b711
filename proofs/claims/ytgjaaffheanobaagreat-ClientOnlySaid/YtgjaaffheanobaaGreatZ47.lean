/- The rings' small functions (values without addresses). -/
import Derived.Test.YtgjaaffheanobaaGreatZ45
import Derived.Test.YtgjaaffheanobaaGreatZ46
namespace Go.Proofs.YtgjaaffheanobaaGreat
set_option maxHeartbeats 1000000
set_option maxRecDepth 100000
set_option linter.unusedVariables false
set_option linter.unusedSimpArgs false
open Go Go.RowKit

def wideB (n:Int):Bool:=decide (1≤n∧n≤32)
theorem aRingRight (n:Int) (S:Sto):ACalls Tryz.prog 56 [iD n] S (RetQ (bD (wideB n)) S):=by
 unfold wideB
 by_cases h1:1≤n
 ·have d1:decide (n ≥ 1)=true:=decide_eq_true h1
  have e:decide (1≤n∧n≤32)=decide (n≤32):=by simp [h1]
  rw [e]
  refine acalls_of prg Tryz.func56 rfl (by kernel_rfl) (congrArg Array.toList Tryz.results56) Tryz.ntmps56 (fun B hB=>fA ?_)
  refine Wk d1 ?_
  exact rE
 ·have d1:decide (n ≥ 1)=false:=decide_eq_false h1
  have e:decide (1≤n∧n≤32)=false:=by simp [h1]
  rw [e]
  refine acalls_of prg Tryz.func56 rfl (by kernel_rfl) (congrArg Array.toList Tryz.results56) Tryz.ntmps56 (fun B hB=>fA ?_)
  refine Wk d1 ?_
  exact rE

def halfL:Nat→Nat→Nat→Nat
 | 0,k,_=>k
 | f+1,k,n=>if 2*k<n then halfL f (2*k) n else k
def halfN (n:Nat):Nat:=halfL n 1 n
theorem halfL_spec:∀ (f k n:Nat),1≤k→k<n→n≤k+f→k≤halfL f k n∧halfL f k n<n∧n≤2*halfL f k n
 | 0,k,n,h1,h2,h3=>by omega
 | f+1,k,n,h1,h2,h3=>by
  unfold halfL
  split
  ·have:=halfL_spec f (2*k) n (by omega) (by assumption) (by omega);omega
  ·omega
theorem halfN_spec {n:Nat} (h:2≤n):1≤halfN n∧halfN n<n∧n≤2*halfN n:=halfL_spec n 1 n (by omega) (by omega) (by omega)
theorem aHalf (n:Nat) (S:Sto) (h2:2≤n) (hn:n≤1000000000):ACalls Tryz.prog 48 [iD n] S (RetQ (iD (halfN n:Nat)) S):=by
 refine acalls_of prg Tryz.func48 rfl (by kernel_rfl) (congrArg Array.toList Tryz.results48) Tryz.ntmps48 (fun B hB=>fA ?_)
 refine Wk Y0 ?_
 refine AW.loopS 4 [3] (fun xs S'=>∃ k f:Nat,xs=[iD k]∧S'=S∧1≤k∧k<n∧n≤k+f∧halfL f k n=halfN n) (fun xs _=>n - nI (xs.getD 0 .any)) [iD 1] S ?_ (Sto.Sub.refl _) ⟨1,n,rfl,rfl,by omega,by omega,by omega,rfl⟩ ?_
 ·exact wK
 rintro xs S' ⟨k,f,rfl,rfl,h3,h4,h5,h6⟩
 refine fR ?_
 have f1:IntKind.i64.wrap (2*(k:Int))=((2*k:Nat):Int):=by rw [IntWalk.i64_in _ (by omega)];omega
 have f2:IntKind.i64.wrap ((k:Int)*2)=((2*k:Nat):Int):=by rw [IntWalk.i64_in _ (by omega)];omega
 by_cases hlt:2*k<n
 ·have d1:decide (((2*k:Nat):Int)<n)=true:=decide_eq_true (by omega)
  refine Wk (Yy f1 (Yy d1 f2)) ?_
  cases f with
  | zero=>omega
  | succ f=>
  unfold halfL at h6
  rw [if_pos hlt] at h6
  refine ⟨[iD (2*k:Nat)],S',?_,Sto.Sub.refl _,⟨2*k,f,rfl,rfl,by omega,hlt,by omega,h6⟩,?_⟩
  ·exact wK
  ·exact mE
 ·have d1:decide (((2*k:Nat):Int)<n)=false:=decide_eq_false (by omega)
  have h7:k=halfN n:=by
   cases f with
   | zero=>omega
   | succ f=>unfold halfL at h6;rw [if_neg hlt] at h6;exact h6
  refine Wk (Yy f1 d1) ?_
  rw [← h7]
  exact rE

def eT:Bs:=[101,110,116,114,121]
def kT:Bs:=[107,110,111,116]
def rT:Bs:=[114,105,110,103,115]
def leafS (wid:Int) (s:Bs):Dg:=(digS wid eT [s]).1
def knotS (wid:Nat) (a b:Dg):Dg:=(digS wid kT [a.l.take wid,b.l.take wid]).1
def noneS (wid:Int):Dg:=(digS wid rT []).1
theorem aLeaf19 (n:Int) (s:Bs) (S:Sto) (hs:s.length≤100000000000):ACalls Tryz.prog 23 [iD n,sD s] S (RetQ (.tup [.dg (digS n eT [s]).1,iD (digS n eT [s]).2]) S):=by
 have c1:=fun S=>aRingRight n S
 have c2:=fun S=>aDigest1 n eT [s] .full S (by simp [textT,eT,be4L];omega) (by simp)
 cases hw:wideB n with
 | false=>
  rw [hw] at c1
  have e:digS n eT [s]=(Dg.zero,2):=by unfold digS;rw [if_neg (by simpa [wideB] using hw)]
  rw [e]
  refine acalls_of prg Tryz.func23 rfl (by kernel_rfl) (congrArg Array.toList Tryz.results23) Tryz.ntmps23 (fun B hB=>fA ?_)
  refine Wk Y0 ?_
  refine aL fun b4 k_b4 o_b4=>?_
  refine Wk k_b4 ?_
  refine cQ (c1 _) ?_
  refine Wk k_b4 ?_
  refine endq (S':=S) (sR k_b4) (by rfl) (Sto.Sub.refl _).cons
 | true=>
  rw [hw] at c1
  generalize digS n eT [s]=r at c2 ⊢
  refine acalls_of prg Tryz.func23 rfl (by kernel_rfl) (congrArg Array.toList Tryz.results23) Tryz.ntmps23 (fun B hB=>fA ?_)
  refine Wk Y0 ?_
  refine aL fun b4 k_b4 o_b4=>?_
  refine Wk k_b4 ?_
  refine cQ (c1 _) ?_
  refine Wk k_b4 ?_
  refine cQ (c2 _) ?_
  refine Wk k_b4 ?_
  refine endq (S':=S) (sR k_b4) (by rfl) (Sto.Sub.refl _).cons
theorem aNone (n:Int) (S:Sto):ACalls Tryz.prog 73 [iD n] S (RetQ (.dg (noneS n)) S):=by
 have c2:=fun S=>aDigest1 n rT [] .nil S (by decide) (by simp)
 unfold noneS
 generalize digS n rT []=r at c2 ⊢
 refine acalls_of prg Tryz.func73 rfl (by kernel_rfl) (congrArg Array.toList Tryz.results73) Tryz.ntmps73 (fun B hB=>fA ?_)
 refine Wk Y0 ?_
 refine aL fun b2 k_b2 o_b2=>?_
 refine Wk Y0 ?_
 refine cQ (c2 _) ?_
 refine Wk Y0 ?_
 refine aL fun b3 k_b3 o_b3=>?_
 have n1:=nes k_b3.1
 refine Wk (Yy k_b3 n1) ?_
 refine endq (S':=S) (sR (Yy k_b3 n1)) (by rfl) (Sto.Sub.refl _).cons.cons
theorem aKnotParts (n:Nat) (a b:Dg) (S:Sto) (hn:n≤32):ACalls Tryz.prog 60 [iD n,.dg a,.dg b] S (RetQ (.tup [sD (a.l.take n),sD (b.l.take n)]) S):=by
 refine acalls_of prg Tryz.func60 rfl (by kernel_rfl) (congrArg Array.toList Tryz.results60) Tryz.ntmps60 (fun B hB=>fA ?_)
 have g0:(0:Int)≤n:=by omega
 refine Wk (Yy g0 (Yy Int.toNat_natCast (Yy hn (Yy (Nat.zero_le n) (Nat.sub_zero n))))) ?_
 exact rE
theorem aKnot (n:Nat) (a b:Dg) (S:Sto) (hn:n≤32):ACalls Tryz.prog 76 [iD n,.dg a,.dg b] S (RetQ (.dg (knotS n a b)) S):=by
 have c1:=fun S=>aKnotParts n a b S hn
 have hl:(textT kT [a.l.take n,b.l.take n]).length≤140737488355000:=by
  simp [textT,kT,be4L,a.h,b.h];omega
 have c2:=fun S=>aDigest1 n kT [a.l.take n,b.l.take n] .full S hl (by simp)
 unfold knotS
 generalize digS n kT [a.l.take n,b.l.take n]=r at c2 ⊢
 refine acalls_of prg Tryz.func76 rfl (by kernel_rfl) (congrArg Array.toList Tryz.results76) Tryz.ntmps76 (fun B hB=>fA ?_)
 refine Wk Y0 ?_
 refine aL fun b6 k_b6 o_b6=>?_
 refine Wk Y0 ?_
 refine cQ (c1 _) ?_
 refine Wk Y0 ?_
 refine cQ (c2 _) ?_
 refine Wk Y0 ?_
 refine aL fun b9 k_b9 o_b9=>?_
 have n1:=nes k_b9.1
 refine Wk (Yy k_b9 n1) ?_
 refine endq (S':=S) (sR (Yy k_b9 n1)) (by rfl) (Sto.Sub.refl _).cons.cons


theorem setM_comm {bk:List (Nat×TypeId×D)} {a b:Nat} {x y:D} (h:¬ a=b):setM (setM bk a x) b y=setM (setM bk b y) a x:=by
 induction bk with
 | nil=>rfl
 | cons p bk ih=>
  obtain ⟨c,t,d⟩:=p
  simp only [setM_cons]
  by_cases h1:a=c
  ·subst h1
   have h2:¬ b=a:=fun e=>h e.symm
   simp only [if_true,setM_cons,if_neg h2]
  ·by_cases h2:b=c
   ·subst h2
    simp only [if_true,setM_cons,if_neg h1]
   ·simp only [if_neg h1,if_neg h2,setM_cons,ih]
def up3 (bk:List (Nat×TypeId×D)) (b1 b2 b3:Nat) (x y z:D):List (Nat×TypeId×D):=setM (setM (setM bk b3 z) b2 y) b1 x
section
variable {bk : List (Nat × TypeId × D)} {b1 b2 b3 : Nat} {x y z u : D}
theorem up3_1:setM (up3 bk b1 b2 b3 x y z) b1 u=up3 bk b1 b2 b3 u y z:=by unfold up3;rw [setM_setM]
theorem up3_2 (h:¬ b1=b2):setM (up3 bk b1 b2 b3 x y z) b2 u=up3 bk b1 b2 b3 x u z:=by unfold up3;rw [setM_comm h,setM_setM]
theorem up3_3 (h:¬ b1=b3) (k:¬ b2=b3):setM (up3 bk b1 b2 b3 x y z) b3 u=up3 bk b1 b2 b3 x y u:=by unfold up3;rw [setM_comm h,setM_comm k,setM_setM]
theorem up3_cons {c:Nat} {t:TypeId} {d:D} (h1:¬ b1=c) (h2:¬ b2=c) (h3:¬ b3=c):up3 ((c,t,d)::bk) b1 b2 b3 x y z=(c,t,d)::up3 bk b1 b2 b3 x y z:=by
 unfold up3;rw [setM_cons,if_neg h3,setM_cons,if_neg h2,setM_cons,if_neg h1]
theorem up3_get1 {t:TypeId} {d:D} (h:getM bk b1=some (t,d)) (h12:¬ b1=b2) (h13:¬ b1=b3):getM (up3 bk b1 b2 b3 x y z) b1=some (t,x):=by
 unfold up3;rw [getM_setM,getM_setM_ne h12,getM_setM_ne h13,h];rfl
theorem up3_get2 {t:TypeId} {d:D} (h:getM bk b2=some (t,d)) (h12:¬ b1=b2) (h23:¬ b2=b3):getM (up3 bk b1 b2 b3 x y z) b2=some (t,y):=by
 unfold up3;rw [getM_setM_ne (fun e=>h12 e.symm),getM_setM,getM_setM_ne h23,h];rfl
theorem up3_get3 {t:TypeId} {d:D} (h:getM bk b3=some (t,d)) (h13:¬ b1=b3) (h23:¬ b2=b3):getM (up3 bk b1 b2 b3 x y z) b3=some (t,z):=by
 unfold up3;rw [getM_setM_ne (fun e=>h13 e.symm),getM_setM_ne (fun e=>h23 e.symm),getM_setM,h];rfl
theorem up3_get {c:Nat} (h1:¬ c=b1) (h2:¬ c=b2) (h3:¬ c=b3):getM (up3 bk b1 b2 b3 x y z) c=getM bk c:=by
 unfold up3;rw [getM_setM_ne h1,getM_setM_ne h2,getM_setM_ne h3]
theorem up3_keys:(up3 bk b1 b2 b3 x y z).map (·.1)=bk.map (·.1):=by unfold up3;rw [setM_keys,setM_keys,setM_keys]
theorem up3_same {t1 t2 t3:TypeId} (h1:getM bk b1=some (t1,x)) (h2:getM bk b2=some (t2,y)) (h3:getM bk b3=some (t3,z)):up3 bk b1 b2 b3 x y z=bk:=by
 unfold up3;rw [setM_same h3,setM_same h2,setM_same h1]
end

@[go_sem] def dgsD (t:Tag) (l:List Dg):D:=.sl t (l.map .dg)
def nextS:List Dg×Bool→Dg×List Dg×Bool
 | ([],_)=>(Dg.zero,[],false)
 | (d::l,ok)=>(d,l,ok)
theorem sz_dg (l:List Dg):∀ d∈l.map D.dg,d.size=32:=fun d hd=>by obtain ⟨x,_,rfl⟩:=List.mem_map.1 hd;rfl
theorem aNext (bt bo:Nat) (tg:Tag) (l:List Dg) (ok:Bool) (S:Sto) (ht:getM S.bk bt=some (40,.sl tg (l.map .dg))) (ho:getM S.bk bo=some (4,bD ok)) (hne:¬ bt=bo) :
  ACalls Tryz.prog 75 [pD bt,pD bo] S (fun e S'=>∃ d,e=.ret d∧(d=.dg (nextS (l,ok)).1∧∃ tg',S'=⟨setM (setM S.bk bt (.sl tg' ((nextS (l,ok)).2.1.map .dg))) bo (bD (nextS (l,ok)).2.2),S.ow⟩)):=by
 cases l with
 | nil=>
  have e1:setM S.bk bt (.sl tg (([]:List Dg).map D.dg))=S.bk:=setM_same ht
  refine acalls_of prg Tryz.func75 rfl (by kernel_rfl) (congrArg Array.toList Tryz.results75) Tryz.ntmps75 (fun B hB=>fA ?_)
  refine Wk Y0 ?_
  refine aL fun b4 k_b4 o_b4=>?_
  have n1:¬ bt=b4:=getM_ne ht k_b4
  have n2:¬ bo=b4:=getM_ne ho k_b4
  have n3:=nes n2
  refine Wk (Yy n1 (Yy n2 (Yy n3 (Yy ht ho)))) ?_
  refine endx (S':=⟨setM S.bk bo (bD false),S.ow⟩) (sR (Yy n1 (Yy n2 n3))) (by rfl) ?_ ⟨rfl,tg,?_⟩
  ·exact (Sto.Sub.refl _).cons
  ·simp only [nextS]
   rw [e1]
 | cons x l=>
  have g2:(((l.length+1:Nat):Int) == 0)=false:=beq_eq_false_iff_ne.2 (by omega)
  have g3:(∀ d∈D.dg x::l.map D.dg,d.size=32)=True:=eq_true (sz_dg (x::l))
  have g4:(1≤l.length+1)=True:=eq_true (by omega)
  have g5:(l.map D.dg).take (l.length+1 - 1)=l.map D.dg:=List.take_of_length_le (by simp)
  refine acalls_of prg Tryz.func75 rfl (by kernel_rfl) (congrArg Array.toList Tryz.results75) Tryz.ntmps75 (fun B hB=>fA ?_)
  refine Wk Y0 ?_
  refine aL fun b4 k_b4 o_b4=>?_
  have n1:¬ bt=b4:=getM_ne ht k_b4
  have n2:¬ bo=b4:=getM_ne ho k_b4
  have n3:=nes n2
  have n4:=nes n1
  refine Wk (Yy n1 (Yy n2 (Yy n3 (Yy n4 (Yy ht (Yy ho (Yy g2 (Yy g3 (Yy g4 (Yy g5 (Nat.le_refl (l.length+1)))))))))))) ?_
  refine endx (S':=⟨setM S.bk bt (.sl .none (l.map D.dg)),S.ow⟩) (sR (Yy n1 (Yy n2 (Yy n3 n4)))) (by rfl) ?_ ⟨rfl,.none,?_⟩
  ·exact (Sto.Sub.refl _).cons
  ·simp only [nextS]
   have e1:setM (setM S.bk bt (.sl .none (l.map D.dg))) bo (bD ok)=setM S.bk bt (.sl .none (l.map D.dg)):=setM_same (by rw [getM_setM_ne (fun e=>hne e.symm),ho])
   rw [e1]

def fitsB (wid:Int) (l:List Dg):Bool:=l.all fun d=>fitB wid d
theorem all_snoc {α:Type} {p:α→Bool} {l:List α} {i:Nat} {x:α} (h:∀ y∈l.take i,p y=true) (hx:l[i]?=some x) (hp:p x=true):∀ y∈l.take (i+1),p y=true:=fun y hy=>by
 rw [List.take_add_one,hx] at hy
 rcases List.mem_append.1 hy with h1 | h1
 ·exact h y h1
 ·simp only [Option.toList_some,List.mem_singleton] at h1;subst h1;exact hp
theorem aFit (wid:Int) (tg:Tag) (l:List Dg) (S:Sto) (hl:l.length≤140737488355328):ACalls Tryz.prog 72 [iD wid,.sl tg (l.map .dg)] S (RetQ (bD (fitsB wid l)) S):=by
 obtain ⟨G,hG⟩:∃ G,fitsB wid l=G:=⟨_,rfl⟩
 rw [hG]
 unfold fitsB at hG
 refine acalls_of prg Tryz.func72 rfl (by kernel_rfl) (congrArg Array.toList Tryz.results72) Tryz.ntmps72 (fun B hB=>fA ?_)
 refine Wk Y0 ?_
 refine AW.loopS 10 [6,9] (fun xs S'=>∃ i:Nat,xs=[.any,iD i]∧S'=S∧i≤l.length∧∀ y∈l.take i,fitB wid y=true) (fun xs _=>l.length - nI (xs.getD 1 .any)) [.any,iD 0] S ?_ (Sto.Sub.refl _) ⟨0,rfl,rfl,by omega,by simp⟩ ?_
 ·exact wK
 rintro xs S' ⟨i,rfl,rfl,hi,hq⟩
 refine fR ?_
 by_cases hlt:i<l.length
 ·obtain ⟨x,hx⟩:∃ x,l[i]?=some x:=⟨_,List.getElem?_eq_getElem hlt⟩
  have d1:decide ((i:Int)<l.length)=true:=decide_eq_true (by omega)
  have gx:(l.map D.dg)[i]?=some (.dg x):=by rw [List.getElem?_map,hx];rfl
  have g0:(0:Int)≤i:=by omega
  have f1:IntKind.i64.wrap ((i:Int)+1)=((i+1:Nat):Int):=IntWalk.i64_in _ (by omega)
  have c1:=fun S=>aFits wid x S
  cases hf:fitB wid x with
  | false=>
   have hb:G=false:=by rw [← hG,List.all_eq_false];exact ⟨x,List.mem_of_getElem? hx,by rw [hf];simp⟩
   subst hb
   rw [hf] at c1
   refine Wk (Yy d1 (Yy gx (Yy g0 Int.toNat_natCast))) ?_
   refine aL fun b6 k_b6 o_b6=>?_
   refine Wk k_b6 ?_
   refine cQ (c1 _) ?_
   refine Wk k_b6 ?_
   refine endq (S':=S') (sR Y0) (by rfl) (Sto.Sub.refl _).cons
  | true=>
   rw [hf] at c1
   refine Wk (Yy d1 (Yy gx (Yy g0 Int.toNat_natCast))) ?_
   refine aL fun b6 k_b6 o_b6=>?_
   refine Wk k_b6 ?_
   refine cQ (c1 _) ?_
   refine Wk (Yy k_b6 f1) ?_
   refine ⟨[.any,iD (i+1:Nat)],S',?_,(Sto.Sub.refl _).cons,⟨i+1,rfl,rfl,by omega,all_snoc hq hx hf⟩,?_⟩
   ·exact wK
   ·exact mE
 obtain rfl:i=l.length:=by omega
 have d1:decide ((l.length:Int)<l.length)=false:=decide_eq_false (by omega)
 rw [List.take_length] at hq
 rw [List.all_eq_true.2 hq] at hG
 subst hG
 refine Wk d1 ?_
 exact rE


def upS (wid:Nat) (leaf:Dg):Nat→Nat→Nat→List Dg×Bool→Dg×List (Dg×Dg)×List Dg×Bool
 | 0,_,_,s=>(leaf,[],s)
 | f+1,i,n,s=>
  if n≤1 then (leaf,[],s)
  else if i<halfN n then
   (knotS wid (upS wid leaf f i (halfN n) s).1 (nextS (upS wid leaf f i (halfN n) s).2.2).1,(upS wid leaf f i (halfN n) s).2.1++[((upS wid leaf f i (halfN n) s).1,(nextS (upS wid leaf f i (halfN n) s).2.2).1)],(nextS (upS wid leaf f i (halfN n) s).2.2).2)
  else
   (knotS wid (nextS (upS wid leaf f (i - halfN n) (n - halfN n) s).2.2).1 (upS wid leaf f (i - halfN n) (n - halfN n) s).1,(upS wid leaf f (i - halfN n) (n - halfN n) s).2.1++[((nextS (upS wid leaf f (i - halfN n) (n - halfN n) s).2.2).1,(upS wid leaf f (i - halfN n) (n - halfN n) s).1)],(nextS (upS wid leaf f (i - halfN n) (n - halfN n) s).2.2).2)
@[go_sem] def stD (p:Dg×Dg):D:=.agg [.dg p.1,.dg p.2]
def upF (wid:Nat) (leaf:Dg) (bf bt bo bs:Nat):D:=.fn 83 [.pt (.dg leaf),pD bf,pD bt,pD bo,pD bs,.pt (iD wid)]
structure UpH (bk:List (Nat×TypeId×D)) (wid:Nat) (leaf:Dg) (bf bt bo bs:Nat):Prop where
 f:getM bk bf=some (104,upF wid leaf bf bt bo bs)
 t:∃ d,getM bk bt=some (40,d)
 o:∃ d,getM bk bo=some (4,d)
 s:∃ d,getM bk bs=some (117,d)
 n1:¬ bt=bo
 n2:¬ bt=bs
 n3:¬ bo=bs
 n4:¬ bf=bt
 n5:¬ bf=bo
 n6:¬ bf=bs
theorem UpH.cons {bk:List (Nat×TypeId×D)} {wid:Nat} {leaf:Dg} {bf bt bo bs c:Nat} {t:TypeId} {d:D} (h:UpH bk wid leaf bf bt bo bs) (hc:c ∉ bk.map (·.1)):UpH ((c,t,d)::bk) wid leaf bf bt bo bs:=by
 have ne:∀ {b:Nat} {x:TypeId×D},getM bk b=some x→getM ((c,t,d)::bk) b=some x:=fun hb=>by rw [getM_cons,if_neg (getM_ne hb hc)];exact hb
 obtain ⟨d1,h1⟩:=h.t
 obtain ⟨d2,h2⟩:=h.o
 obtain ⟨d3,h3⟩:=h.s
 exact ⟨ne h.f,⟨d1,ne h1⟩,⟨d2,ne h2⟩,⟨d3,ne h3⟩,h.n1,h.n2,h.n3,h.n4,h.n5,h.n6⟩
def UpTo (bk:List (Nat×TypeId×D)) (ow0:List (Nat×Nat)) (bt bo bs:Nat) (l:List Dg) (ok:Bool) (st:List (Dg×Dg)) (S':Sto):Prop:=
 ∃ (tg tg2:Tag) (ow:List (Nat×Nat)),S'=⟨up3 bk bt bo bs (.sl tg2 (l.map .dg)) (bD ok) (.sl tg (st.map stD)),ow⟩∧G1 ow0 ow 120 64 tg (st.map stD)
theorem aUp (wid:Nat) (leaf:Dg) (bf bt bo bs:Nat) (hw:wid≤32) (ow0:List (Nat×Nat)):∀ (f i n:Nat) (l:List Dg) (ok:Bool) (st:List (Dg×Dg)) (bk:List (Nat×TypeId×D)) (S:Sto),1≤n→n≤f→n≤2000000→i<n→UpH bk wid leaf bf bt bo bs→UpTo bk ow0 bt bo bs l ok st S→st.length+n≤4000000 →
  ACalls Tryz.prog 83 [iD i,iD n,.pt (.dg leaf),pD bf,pD bt,pD bo,pD bs,.pt (iD wid)] S (fun e S'=>∃ d,e=.ret d∧(d=.dg (upS wid leaf f i n (l,ok)).1∧UpTo bk ow0 bt bo bs (upS wid leaf f i n (l,ok)).2.2.1 (upS wid leaf f i n (l,ok)).2.2.2 (st++(upS wid leaf f i n (l,ok)).2.1) S'∧(upS wid leaf f i n (l,ok)).2.1.length<n))
 | 0,i,n,l,ok,st,bk,S,h1,h2,_,_,_,_,_=>absurd h1 (by omega)
 | f+1,i,n,l,ok,st,bk,S,h1,h2,hn,hi,hb,hS,hst=>by
  obtain ⟨tg,tg2,ow,rfl,hg⟩:=hS
  unfold upS
  by_cases hn1:n≤1
  ·obtain rfl:n=1:=by omega
   rw [if_pos hn1]
   refine acalls_of prg Tryz.func83 rfl (by kernel_rfl) (congrArg Array.toList Tryz.results83) Tryz.ntmps83 (fun B hB=>fA ?_)
   refine Wk Y0 ?_
   refine aL fun b10 k_b10 o_b10=>?_
   refine Wk k_b10 ?_
   refine endx (S':=⟨up3 bk bt bo bs (.sl tg2 (l.map .dg)) (bD ok) (.sl tg (st.map stD)),ow⟩) (sR Y0) (by rfl) (Sto.Sub.refl _).cons ⟨rfl,⟨tg,tg2,ow,by rw [List.append_nil],by rw [List.append_nil];exact hg⟩,by decide⟩
  rw [if_neg hn1]
  have hh:=halfN_spec (n:=n) (by omega)
  have z1:((n:Int) == 1)=false:=beq_eq_false_iff_ne.2 (by omega)
  have cH:=fun S=>aHalf n S (by omega) (by omega)
  generalize halfN n=h at hh cH
  obtain ⟨dt,gt⟩:=hb.t
  obtain ⟨d_o,go⟩:=hb.o
  obtain ⟨ds,gs⟩:=hb.s
  have hk:∀ {x y z:D} {c:Nat},c ∉ (up3 bk bt bo bs x y z).map (·.1)→¬ bf=c∧¬ bt=c∧¬ bo=c∧¬ bs=c∧c ∉ bk.map (·.1):=fun {x y z c} hc=>by
   rw [up3_keys] at hc
   exact ⟨getM_ne hb.f hc,getM_ne gt hc,getM_ne go hc,getM_ne gs hc,hc⟩
  have gf:∀ x y z,getM (up3 bk bt bo bs x y z) bf=some (104,upF wid leaf bf bt bo bs):=fun x y z=>by rw [up3_get hb.n4 hb.n5 hb.n6];exact hb.f
  have gt':∀ x y z,getM (up3 bk bt bo bs x y z) bt=some (40,x):=fun x y z=>up3_get1 gt hb.n1 hb.n2
  have go':∀ x y z,getM (up3 bk bt bo bs x y z) bo=some (4,y):=fun x y z=>up3_get2 go hb.n1 hb.n3
  have gs':∀ x y z,getM (up3 bk bt bo bs x y z) bs=some (117,z):=fun x y z=>up3_get3 gs hb.n2 hb.n3
  have s1:∀ x y z u,setM (up3 bk bt bo bs x y z) bt u=up3 bk bt bo bs u y z:=fun x y z u=>up3_1
  have s2:∀ x y z u,setM (up3 bk bt bo bs x y z) bo u=up3 bk bt bo bs x u z:=fun x y z u=>up3_2 hb.n1
  have s3:∀ x y z u,setM (up3 bk bt bo bs x y z) bs u=up3 bk bt bo bs x y u:=fun x y z u=>up3_3 hb.n2 hb.n3
  by_cases hlt:i<h
  ·rw [if_pos hlt]
   have d1:decide ((i:Int)<h)=true:=decide_eq_true (by omega)
   refine acalls_of prg Tryz.func83 rfl (by kernel_rfl) (congrArg Array.toList Tryz.results83) Tryz.ntmps83 (fun B hB=>fA ?_)
   refine Wk Y0 ?_
   refine aL fun b10 k_b10 o_b10=>?_
   refine Wk z1 ?_
   refine cQ (cH _) ?_
   refine Wk Y0 ?_
   refine aL fun b12 k_b12 o_b12=>?_
   have ⟨n1,n2,n3,n4,m1⟩:=hk k_b10
   have ⟨n5,n6,n7,n8,m2⟩:=hk k_b12.2
   have n9:=nes k_b12.1
   have hb2:UpH ((b12,120,.agg [.dg Dg.zero,.dg Dg.zero])::(b10,26,.dg Dg.zero)::bk) wid leaf bf bt bo bs:=(hb.cons m1).cons (by simp only [List.map_cons,List.mem_cons,not_or];exact ⟨k_b12.1,m2⟩)
   have e2:∀ x y z,up3 ((b12,120,.agg [.dg Dg.zero,.dg Dg.zero])::(b10,26,.dg Dg.zero)::bk) bt bo bs x y z=(b12,120,.agg [.dg Dg.zero,.dg Dg.zero])::(b10,26,.dg Dg.zero)::up3 bk bt bo bs x y z:=fun x y z=>by
    rw [up3_cons n6 n7 n8,up3_cons n2 n3 n4]
   have ih:=aUp wid leaf bf bt bo bs hw ow0 f i h l ok st _ ⟨(b12,120,.agg [.dg Dg.zero,.dg Dg.zero])::(b10,26,.dg Dg.zero)::up3 bk bt bo bs (.sl tg2 (l.map .dg)) (bD ok) (.sl tg (st.map stD)),ow⟩ (by omega) (by omega) (by omega) (by omega) hb2 ⟨tg,tg2,ow,by rw [e2],hg⟩ (by omega)
   refine Wk (Yy d1 (Yy n1 (Yy n5 gf))) ?_
   refine wix (c:=ih) (k:=?_)
   rintro d S1 ⟨rfl,⟨tg',tg2',ow',rfl,hg'⟩,hlen⟩
   rw [e2]
   generalize upS wid leaf f i h (l,ok)=r at hg' hlen ⊢
   obtain ⟨rd,rst,rl,rok⟩:=r
   simp only at hg' hlen ⊢
   refine Wk n9 ?_
   refine wg (c:=by exact (aNext bt bo tg2' rl rok _ (by rw [getM_cons,if_neg n6,getM_cons,if_neg n2];exact gt' _ _ _) (by rw [getM_cons,if_neg n7,getM_cons,if_neg n3];exact go' _ _ _) hb.n1)) (k:=?_)
   rintro d S2 ⟨rfl,tg3,rfl⟩
   simp only [setM_cons,if_neg n6,if_neg n2,if_neg n7,if_neg n3,s1,s2]
   generalize nextS (rl,rok)=q
   obtain ⟨x,ql,qok⟩:=q
   simp only
   have cK:=fun S=>aKnot wid rd x S hw
   refine Wk (Yy n9 (Yy n8 (Yy n4 gs'))) ?_
   refine wap 120 64 64 ?_ ?_ ?_ (fun g _ hgo=>?_)
   ·exact sz_map (f:=stD) (fun _=>rfl) (fun d hd=>by simp only [List.mem_singleton] at hd;subst hd;rfl)
   ·exact hg'.may
   ·rw [List.length_map,List.length_append];simp only [List.length_singleton];omega
   have hg3:=hg'.add (ns:=[stD (rd,x)]) hgo
   have hmp:(st++rst).map stD++[stD (rd,x)]=(st++(rst++[(rd,x)])).map stD:=by simp
   simp only [stD] at hg3 hmp
   simp only [hmp] at hg3 ⊢
   generalize (g,((st++(rst++[(rd,x)])).map stD).length*64)::dropTok tg' ow'=ow2 at hg3 ⊢
   refine Wk (Yy n8 (Yy n4 (Yy gs' (Yy s3 n9)))) ?_
   refine cQ (cK _) ?_
   refine Wk n9 ?_
   refine endx (S':=⟨up3 bk bt bo bs (.sl tg3 (ql.map .dg)) (bD qok) (.sl (.own g 120 64) ((st++(rst++[(rd,x)])).map stD)),ow2⟩) (sR n9) (by rfl) (Sto.Sub.refl _).cons.cons ⟨rfl,⟨_,tg3,ow2,rfl,hg3⟩,by rw [List.length_append];simp only [List.length_singleton];omega⟩
  ·rw [if_neg hlt]
   have d1:decide ((i:Int)<h)=false:=decide_eq_false (by omega)
   have f1:IntKind.i64.wrap ((i:Int) - h)=((i - h:Nat):Int):=by rw [IntWalk.i64_in _ (by omega)];omega
   have f2:IntKind.i64.wrap ((n:Int) - h)=((n - h:Nat):Int):=by rw [IntWalk.i64_in _ (by omega)];omega
   refine acalls_of prg Tryz.func83 rfl (by kernel_rfl) (congrArg Array.toList Tryz.results83) Tryz.ntmps83 (fun B hB=>fA ?_)
   refine Wk Y0 ?_
   refine aL fun b10 k_b10 o_b10=>?_
   refine Wk z1 ?_
   refine cQ (cH _) ?_
   refine Wk Y0 ?_
   refine aL fun b12 k_b12 o_b12=>?_
   have ⟨n1,n2,n3,n4,m1⟩:=hk k_b10
   have ⟨n5,n6,n7,n8,m2⟩:=hk k_b12.2
   have n9:=nes k_b12.1
   have hb2:UpH ((b12,120,.agg [.dg Dg.zero,.dg Dg.zero])::(b10,26,.dg Dg.zero)::bk) wid leaf bf bt bo bs:=(hb.cons m1).cons (by simp only [List.map_cons,List.mem_cons,not_or];exact ⟨k_b12.1,m2⟩)
   have e2:∀ x y z,up3 ((b12,120,.agg [.dg Dg.zero,.dg Dg.zero])::(b10,26,.dg Dg.zero)::bk) bt bo bs x y z=(b12,120,.agg [.dg Dg.zero,.dg Dg.zero])::(b10,26,.dg Dg.zero)::up3 bk bt bo bs x y z:=fun x y z=>by
    rw [up3_cons n6 n7 n8,up3_cons n2 n3 n4]
   have ih:=aUp wid leaf bf bt bo bs hw ow0 f (i - h) (n - h) l ok st _ ⟨(b12,120,.agg [.dg Dg.zero,.dg Dg.zero])::(b10,26,.dg Dg.zero)::up3 bk bt bo bs (.sl tg2 (l.map .dg)) (bD ok) (.sl tg (st.map stD)),ow⟩ (by omega) (by omega) (by omega) (by omega) hb2 ⟨tg,tg2,ow,by rw [e2],hg⟩ (by omega)
   refine Wk (Yy d1 (Yy n1 (Yy n5 (Yy gf (Yy f1 f2))))) ?_
   refine wix (c:=ih) (k:=?_)
   rintro d S1 ⟨rfl,⟨tg',tg2',ow',rfl,hg'⟩,hlen⟩
   rw [e2]
   generalize upS wid leaf f (i - h) (n - h) (l,ok)=r at hg' hlen ⊢
   obtain ⟨rd,rst,rl,rok⟩:=r
   simp only at hg' hlen ⊢
   refine Wk n9 ?_
   refine wg (c:=by exact (aNext bt bo tg2' rl rok _ (by rw [getM_cons,if_neg n6,getM_cons,if_neg n2];exact gt' _ _ _) (by rw [getM_cons,if_neg n7,getM_cons,if_neg n3];exact go' _ _ _) hb.n1)) (k:=?_)
   rintro d S2 ⟨rfl,tg3,rfl⟩
   simp only [setM_cons,if_neg n6,if_neg n2,if_neg n7,if_neg n3,s1,s2]
   generalize nextS (rl,rok)=q
   obtain ⟨x,ql,qok⟩:=q
   simp only
   have cK:=fun S=>aKnot wid x rd S hw
   refine Wk (Yy n9 (Yy n8 (Yy n4 gs'))) ?_
   refine wap 120 64 64 ?_ ?_ ?_ (fun g _ hgo=>?_)
   ·exact sz_map (f:=stD) (fun _=>rfl) (fun d hd=>by simp only [List.mem_singleton] at hd;subst hd;rfl)
   ·exact hg'.may
   ·rw [List.length_map,List.length_append];simp only [List.length_singleton];omega
   have hg3:=hg'.add (ns:=[stD (x,rd)]) hgo
   have hmp:(st++rst).map stD++[stD (x,rd)]=(st++(rst++[(x,rd)])).map stD:=by simp
   simp only [stD] at hg3 hmp
   simp only [hmp] at hg3 ⊢
   generalize (g,((st++(rst++[(x,rd)])).map stD).length*64)::dropTok tg' ow'=ow2 at hg3 ⊢
   refine Wk (Yy n8 (Yy n4 (Yy gs' (Yy s3 n9)))) ?_
   refine cQ (cK _) ?_
   refine Wk n9 ?_
   refine endx (S':=⟨up3 bk bt bo bs (.sl tg3 (ql.map .dg)) (bD qok) (.sl (.own g 120 64) ((st++(rst++[(x,rd)])).map stD)),ow2⟩) (sR n9) (by rfl) (Sto.Sub.refl _).cons.cons ⟨rfl,⟨_,tg3,ow2,rfl,hg3⟩,by rw [List.length_append];simp only [List.length_singleton];omega⟩

end Go.Proofs.YtgjaaffheanobaaGreat