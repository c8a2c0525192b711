/- A head holds a leaf (values without addresses). -/
import Derived.Test.YtgjaaffheanobaaGreatZ47
import Derived.Test.YtgjaaffheanobaaGreatZ48
namespace Go.Proofs.YtgjaaffheanobaaGreat
set_option maxHeartbeats 1000000
set_option maxRecDepth 100000
set_option linter.unusedVariables false
set_option linter.unusedSimpArgs false
open Go Go.RowKit

def climbS (wid i n:Nat) (leaf:Dg) (trail:List Dg):List (Dg×Dg)×Dg×Bool:=
 ((upS wid leaf n i n (trail,true)).2.1,(upS wid leaf n i n (trail,true)).1,(upS wid leaf n i n (trail,true)).2.2.2 && decide ((upS wid leaf n i n (trail,true)).2.2.1.length=0))
theorem untags_stD (l:List (Dg×Dg)):untags (l.map stD)=l.map stD:=by
 induction l with
 | nil=>rfl
 | cons p l ih=>simp only [List.map_cons,untags,stD,untag,ih]
theorem untag_st (t:Tag) (l:List (Dg×Dg)) (d:Dg) (b:Bool):untag (oneOf [.sl t (l.map stD),.dg d,bD b])=.tup [.sl .none (l.map stD),.dg d,bD b]:=by
 show untag (.tup [.sl t (l.map stD),.dg d,bD b])=_
 simp only [untag,untags,untags_stD]
theorem aClimb (wid i n:Nat) (leaf:Dg) (tg0:Tag) (trail:List Dg) (S:Sto) (hw:wid≤32) (h1:i<n) (hn:n≤2000000) :
  ACalls Tryz.prog 59 [iD wid,iD i,iD n,.dg leaf,.sl tg0 (trail.map .dg)] S (RetQ (.tup [.sl .none ((climbS wid i n leaf trail).1.map stD),.dg (climbS wid i n leaf trail).2.1,bD (climbS wid i n leaf trail).2.2]) S):=by
 unfold climbS
 refine acalls_of prg Tryz.func59 rfl (by kernel_rfl) (congrArg Array.toList Tryz.results59) Tryz.ntmps59 (fun B hB=>fA ?_)
 refine w3 ?_
 refine w4 ?_
 apply AOps.goN prg 2;case run=>(simp only [go_sem,Int.reduceEq,Int.reduceLT,Int.reduceBEq,Int.reduceBNe,Int.reduceNe,Nat.reduceLeDiff,Nat.reduceAdd,Nat.reduceSub,Nat.reduceLT,Nat.reduceEqDiff,Nat.reduceBEq,Int.reduceLE,Int.reduceToNat];rfl)
 refine aB fun b9 k_b9 o_b9=>?_
 refine Wk Y0 ?_
 refine aL fun b11 k_b11 o_b11=>?_
 refine Wk Y0 ?_
 refine aL fun b13 k_b13 o_b13=>?_
 refine Wk Y0 ?_
 refine aL fun b14 k_b14 o_b14=>?_
 refine Wk Y0 ?_
 refine aL fun b15 k_b15 o_b15=>?_
 refine Wk Y0 ?_
 have n1:=nes k_b14.2.2.1
 have n2:=nes k_b13.2.1
 have n3:=k_b14.1
 have n4:=k_b15.2.2.2.1
 have n5:=k_b15.1
 have n6:=k_b15.2.1
 have g1:getM ((b15,104,upF wid leaf b15 b9 b14 b13)::(b14,4,bD true)::(b13,117,.sl .nil [])::(b11,26,.dg Dg.zero)::(b9,40,.sl tg0 (trail.map .dg))::S.bk) b9=some (40,.sl tg0 (trail.map .dg)):=by
  rw [getM_cons,if_neg (nes n4),getM_cons,if_neg n1,getM_cons,if_neg n2,getM_cons,if_neg (nes k_b11.1),getM_cons,if_pos rfl]
 have g2:getM ((b15,104,upF wid leaf b15 b9 b14 b13)::(b14,4,bD true)::(b13,117,.sl .nil [])::(b11,26,.dg Dg.zero)::(b9,40,.sl tg0 (trail.map .dg))::S.bk) b14=some (4,bD true):=by
  rw [getM_cons,if_neg (nes n5),getM_cons,if_pos rfl]
 have g3:getM ((b15,104,upF wid leaf b15 b9 b14 b13)::(b14,4,bD true)::(b13,117,.sl .nil [])::(b11,26,.dg Dg.zero)::(b9,40,.sl tg0 (trail.map .dg))::S.bk) b13=some (117,.sl .nil []):=by
  rw [getM_cons,if_neg (nes n6),getM_cons,if_neg (nes n3),getM_cons,if_pos rfl]
 have hU:UpH ((b15,104,upF wid leaf b15 b9 b14 b13)::(b14,4,bD true)::(b13,117,.sl .nil [])::(b11,26,.dg Dg.zero)::(b9,40,.sl tg0 (trail.map .dg))::S.bk) wid leaf b15 b9 b14 b13:=
  ⟨by rw [getM_cons,if_pos rfl],⟨_,g1⟩,⟨_,g2⟩,⟨_,g3⟩,n1,n2,n3,n4,n5,n6⟩
 have hT:UpTo ((b15,104,upF wid leaf b15 b9 b14 b13)::(b14,4,bD true)::(b13,117,.sl .nil [])::(b11,26,.dg Dg.zero)::(b9,40,.sl tg0 (trail.map .dg))::S.bk) S.ow b9 b14 b13 trail true [] ⟨(b15,104,upF wid leaf b15 b9 b14 b13)::(b14,4,bD true)::(b13,117,.sl .nil [])::(b11,26,.dg Dg.zero)::(b9,40,.sl tg0 (trail.map .dg))::S.bk,S.ow⟩:=
  ⟨.nil,tg0,S.ow,by rw [List.map_nil,up3_same g1 g2 g3],G1.nil _ _ _⟩
 have hc:=aUp wid leaf b15 b9 b14 b13 hw S.ow n i n trail true [] _ _ (by omega) (Nat.le_refl _) hn h1 hU hT (by simp only [List.length_nil];omega)
 refine gG Y0 ?_
 refine wix (c:=hc) (k:=?_)
 rintro d S1 ⟨rfl,⟨tg,tg2,ow,rfl,hg⟩,hlen⟩
 generalize upS wid leaf n i n (trail,true)=r at hg hlen ⊢
 obtain ⟨rd,rst,rl,rok⟩:=r
 simp only [List.nil_append] at hg hlen ⊢
 have e3:∀ x y z,up3 ((b15,104,upF wid leaf b15 b9 b14 b13)::(b14,4,bD true)::(b13,117,.sl .nil [])::(b11,26,.dg Dg.zero)::(b9,40,.sl tg0 (trail.map .dg))::S.bk) b9 b14 b13 x y z =
   (b15,104,upF wid leaf b15 b9 b14 b13)::(b14,4,y)::(b13,117,z)::(b11,26,.dg Dg.zero)::(b9,40,x)::S.bk:=fun x y z=>by
  simp only [up3,setM_cons,if_neg n1,if_neg n2,if_neg n3,if_neg (nes n3),if_neg (nes n4),if_neg (nes n5),if_neg (nes n6),if_neg (nes k_b11.1),if_true]
 rw [e3]
 generalize upF wid leaf b15 b9 b14 b13=uf
 have dl:(((rl.length:Nat):Int) == 0)=decide (rl.length=0):=by rw [Bool.eq_iff_iff];simp
 refine Wk Y0 ?_
 refine aL fun b16 k_b16 o_b16=>?_
 have m1:=nes k_b16.1
 have m2:=nes k_b16.2.1
 have m3:=nes k_b16.2.2.1
 have m4:=nes k_b16.2.2.2.1
 have m5:=nes k_b16.2.2.2.2.1
 cases rok
 ·rw [Bool.false_and]
  refine Wn (Yy m1 (Yy m2 (Yy m3 (Yy m4 (Yy m5 (Yy n1 (Yy n2 (Yy n3 (Yy n4 (Yy n5 (Yy n6 (Yy (nes n1) (Yy (nes n2) (Yy (nes n3) (Yy (nes n4) (Yy (nes n5) (Yy (nes n6) (Yy k_b16 (Yy k_b11 (Yy (nes k_b11.1) (Yy k_b13 (Yy (nes k_b13.1) (Yy k_b14 (Yy (nes k_b14.2.1) (Yy k_b15 (nes k_b15.2.2.1)))))))))))))))))))))))))) ?_
  have F:=(Yy m1 (Yy m2 (Yy m3 (Yy m4 (Yy m5 (Yy n1 (Yy n2 (Yy n3 (Yy n4 (Yy n5 (Yy n6 (Yy (nes n1) (Yy (nes n2) (Yy (nes n3) (Yy (nes n4) (Yy (nes n5) (Yy (nes n6) (Yy k_b16 (Yy k_b11 (Yy (nes k_b11.1) (Yy k_b13 (Yy (nes k_b13.1) (Yy k_b14 (Yy (nes k_b14.2.1) (Yy k_b15 (Yy (nes k_b15.2.2.1) dl))))))))))))))))))))))))))
  refine yz ?_
  refine yq 0 ?_
  refine yq 1 ?_
  refine yq 2 ?_
  refine yp 3 ?_
  refine yk 4 ?_
  refine yk 5 ?_
  refine yk 6 ?_
  refine yp 7 ?_
  refine yp 8 ?_
  refine ys 9 ?_
  refine ys 10 ?_
  refine ye ?_
  refine Wk Y0 ?_
  refine enduq (S':=S) (sR (Yy m1 (Yy m2 (Yy m3 (Yy m4 (Yy m5 (Yy n1 (Yy n2 (Yy n3 (Yy n4 (Yy n5 (Yy n6 (Yy (nes n1) (Yy (nes n2) (Yy (nes n3) (Yy (nes n4) (Yy (nes n5) (Yy (nes n6) (Yy k_b16 (Yy k_b11 (Yy (nes k_b11.1) (Yy k_b13 (Yy (nes k_b13.1) (Yy k_b14 (Yy (nes k_b14.2.1) (Yy k_b15 (nes k_b15.2.2.1))))))))))))))))))))))))))) (untag_st _ _ _ _) ⟨(((((((List.Sublist.refl _).cons _).cons _).cons _).cons _).cons _).cons _),hg.sub⟩
 ·rw [Bool.true_and]
  refine Wn (Yy m1 (Yy m2 (Yy m3 (Yy m4 (Yy m5 (Yy n1 (Yy n2 (Yy n3 (Yy n4 (Yy n5 (Yy n6 (Yy (nes n1) (Yy (nes n2) (Yy (nes n3) (Yy (nes n4) (Yy (nes n5) (Yy (nes n6) (Yy k_b16 (Yy k_b11 (Yy (nes k_b11.1) (Yy k_b13 (Yy (nes k_b13.1) (Yy k_b14 (Yy (nes k_b14.2.1) (Yy k_b15 (nes k_b15.2.2.1)))))))))))))))))))))))))) ?_
  have F:=(Yy m1 (Yy m2 (Yy m3 (Yy m4 (Yy m5 (Yy n1 (Yy n2 (Yy n3 (Yy n4 (Yy n5 (Yy n6 (Yy (nes n1) (Yy (nes n2) (Yy (nes n3) (Yy (nes n4) (Yy (nes n5) (Yy (nes n6) (Yy k_b16 (Yy k_b11 (Yy (nes k_b11.1) (Yy k_b13 (Yy (nes k_b13.1) (Yy k_b14 (Yy (nes k_b14.2.1) (Yy k_b15 (Yy (nes k_b15.2.2.1) dl))))))))))))))))))))))))))
  refine yz ?_
  refine yq 0 ?_
  refine yq 1 ?_
  refine yq 2 ?_
  refine yp 3 ?_
  refine yp 8 ?_
  refine yb 4 9 ?_ ?_
  ·refine yp 5 ?_
   refine yp 6 ?_
   refine yp 7 ?_
   refine ys 9 ?_
   refine ys 10 ?_
   refine ye ?_
   refine Wk Y0 ?_
   refine enduq (S':=S) (sR (Yy m1 (Yy m2 (Yy m3 (Yy m4 (Yy m5 (Yy n1 (Yy n2 (Yy n3 (Yy n4 (Yy n5 (Yy n6 (Yy (nes n1) (Yy (nes n2) (Yy (nes n3) (Yy (nes n4) (Yy (nes n5) (Yy (nes n6) (Yy k_b16 (Yy k_b11 (Yy (nes k_b11.1) (Yy k_b13 (Yy (nes k_b13.1) (Yy k_b14 (Yy (nes k_b14.2.1) (Yy k_b15 (nes k_b15.2.2.1))))))))))))))))))))))))))) (untag_st _ _ _ _) ⟨(((((((List.Sublist.refl _).cons _).cons _).cons _).cons _).cons _).cons _),hg.sub⟩
  ·refine ys 4 ?_
   refine ys 5 ?_
   refine ys 6 ?_
   refine ys 7 ?_
   refine ys 10 ?_
   refine ye ?_
   refine Wk Y0 ?_
   refine enduq (S':=S) (sR (Yy m1 (Yy m2 (Yy m3 (Yy m4 (Yy m5 (Yy n1 (Yy n2 (Yy n3 (Yy n4 (Yy n5 (Yy n6 (Yy (nes n1) (Yy (nes n2) (Yy (nes n3) (Yy (nes n4) (Yy (nes n5) (Yy (nes n6) (Yy k_b16 (Yy k_b11 (Yy (nes k_b11.1) (Yy k_b13 (Yy (nes k_b13.1) (Yy k_b14 (Yy (nes k_b14.2.1) (Yy k_b15 (nes k_b15.2.2.1))))))))))))))))))))))))))) (untag_st _ _ _ _) ⟨(((((((List.Sublist.refl _).cons _).cons _).cons _).cons _).cons _).cons _),hg.sub⟩


structure Hd where
 size:Nat
 log:Dg
@[go_sem] def hdD (h:Hd):D:=.agg [uD h.size,.dg h.log]
def holdsS (wid:Int) (h:Hd) (n:Nat) (leaf:Dg) (trail:List Dg):Bool:=
 wideB wid && (fitB wid h.log && fitB wid leaf) && fitsB wid trail && decide (n<h.size) && decide (h.size≤1048576) &&
  ((climbS wid.toNat n h.size leaf trail).2.2 && decide ((climbS wid.toNat n h.size leaf trail).2.1=h.log))
theorem fits_two (wid:Int) (a b:Dg):fitsB wid [a,b]=(fitB wid a && fitB wid b):=by simp [fitsB]
theorem aRHolds (wid:Int) (h:Hd) (n:Nat) (leaf:Dg) (tg:Tag) (trail:List Dg) (S:Sto) (hn:n<18446744073709551616) (hs:h.size<18446744073709551616) (ht:trail.length≤140737488355328) :
  ACalls Tryz.prog 40 [iD wid,hdD h,uD n,.dg leaf,.sl tg (trail.map .dg)] S (RetQ (bD (holdsS wid h n leaf trail)) S):=by
 obtain ⟨sz,lg⟩:=h
 simp only at hs
 have c1:=fun S=>aRingRight wid S
 have c2:=fun S=>aFit wid .full [lg,leaf] S (by simp)
 have c3:=fun S=>aFit wid tg trail S ht
 rw [fits_two] at c2
 unfold holdsS
 simp only
 cases hw:wideB wid with
 | false=>
  rw [hw] at c1
  simp only [Bool.false_and]
  refine acalls_of prg Tryz.func40 rfl (by kernel_rfl) (congrArg Array.toList Tryz.results40) Tryz.ntmps40 (fun B hB=>fA ?_)
  refine Wk Y0 ?_
  refine cQ (c1 _) ?_
  refine Wk Y0 ?_
  exact rE
 | true=>
 rw [hw] at c1
 cases h2:(fitB wid lg && fitB wid leaf) with
 | false=>
  rw [h2] at c2
  simp only [Bool.false_and,Bool.and_false]
  refine acalls_of prg Tryz.func40 rfl (by kernel_rfl) (congrArg Array.toList Tryz.results40) Tryz.ntmps40 (fun B hB=>fA ?_)
  refine Wk Y0 ?_
  refine cQ (c1 _) ?_
  refine Wk Y0 ?_
  refine cQ (c2 _) ?_
  refine Wk Y0 ?_
  exact rE
 | true=>
 rw [h2] at c2
 cases h3:fitsB wid trail with
 | false=>
  rw [h3] at c3
  simp only [Bool.false_and,Bool.and_false]
  refine acalls_of prg Tryz.func40 rfl (by kernel_rfl) (congrArg Array.toList Tryz.results40) Tryz.ntmps40 (fun B hB=>fA ?_)
  refine Wk Y0 ?_
  refine cQ (c1 _) ?_
  refine Wk Y0 ?_
  refine cQ (c2 _) ?_
  refine Wk Y0 ?_
  refine cQ (c3 _) ?_
  refine Wk Y0 ?_
  exact rE
 | true=>
 rw [h3] at c3
 simp only [Bool.true_and]
 by_cases h4:n<sz
 case neg=>
  have d4:decide ((n:Int) ≥ sz)=true:=decide_eq_true (by omega)
  rw [decide_eq_false h4]
  simp only [Bool.false_and]
  refine acalls_of prg Tryz.func40 rfl (by kernel_rfl) (congrArg Array.toList Tryz.results40) Tryz.ntmps40 (fun B hB=>fA ?_)
  refine Wk Y0 ?_
  refine cQ (c1 _) ?_
  refine Wk Y0 ?_
  refine cQ (c2 _) ?_
  refine Wk Y0 ?_
  refine cQ (c3 _) ?_
  refine Wk d4 ?_
  exact rE
 have d4:decide ((n:Int) ≥ sz)=false:=decide_eq_false (by omega)
 rw [decide_eq_true h4]
 simp only [Bool.true_and]
 by_cases h5:sz≤1048576
 case neg=>
  have d5:decide ((sz:Int) > 1048576)=true:=decide_eq_true (by omega)
  rw [decide_eq_false h5]
  simp only [Bool.false_and]
  refine acalls_of prg Tryz.func40 rfl (by kernel_rfl) (congrArg Array.toList Tryz.results40) Tryz.ntmps40 (fun B hB=>fA ?_)
  refine Wk Y0 ?_
  refine cQ (c1 _) ?_
  refine Wk Y0 ?_
  refine cQ (c2 _) ?_
  refine Wk Y0 ?_
  refine cQ (c3 _) ?_
  refine Wk (Yy d4 d5) ?_
  exact rE
 have d5:decide ((sz:Int) > 1048576)=false:=decide_eq_false (by omega)
 rw [decide_eq_true h5]
 simp only [Bool.true_and]
 have hwi:1≤wid∧wid≤32:=by simpa [wideB] using hw
 obtain ⟨k,rfl⟩:=Int.eq_ofNat_of_zero_le (show 0≤wid by omega)
 rw [Int.toNat_natCast]
 have c4:=fun S=>aClimb k n sz leaf tg trail S (by omega) h4 (by omega)
 have f1:IntKind.i64.wrap (n:Int)=n:=IntWalk.i64_in _ (by omega)
 have f2:IntKind.i64.wrap (sz:Int)=sz:=IntWalk.i64_in _ (by omega)
 generalize climbS k n sz leaf trail=r at c4 ⊢
 obtain ⟨st,d,ok⟩:=r
 simp only at c4 ⊢
 refine acalls_of prg Tryz.func40 rfl (by kernel_rfl) (congrArg Array.toList Tryz.results40) Tryz.ntmps40 (fun B hB=>fA ?_)
 refine Wk Y0 ?_
 refine cQ (c1 _) ?_
 refine Wk Y0 ?_
 refine cQ (c2 _) ?_
 refine Wk Y0 ?_
 refine cQ (c3 _) ?_
 refine Wk (Yy d4 (Yy d5 (Yy f1 f2))) ?_
 refine cQ (c4 _) ?_
 refine Wk Y0 ?_
 refine aL fun b12 k_b12 o_b12=>?_
 cases ok
 ·refine Wk k_b12 ?_
  refine endq (S':=S) (sR Y0) (by rfl) (Sto.Sub.refl _).cons
 ·refine Wk k_b12 ?_
  refine endq (S':=S) (sR Y0) (by rfl) (Sto.Sub.refl _).cons


def wr2 (bk:List (Nat×TypeId×D)) (b1 b2:Nat) (x y:D):List (Nat×TypeId×D):=setM (setM bk b2 y) b1 x
section
variable {bk : List (Nat × TypeId × D)} {b1 b2 : Nat} {x y u : D}
theorem wr2_1:setM (wr2 bk b1 b2 x y) b1 u=wr2 bk b1 b2 u y:=by unfold wr2;rw [setM_setM]
theorem wr2_2 (h:¬ b1=b2):setM (wr2 bk b1 b2 x y) b2 u=wr2 bk b1 b2 x u:=by unfold wr2;rw [setM_comm h,setM_setM]
theorem wr2_cons {c:Nat} {t:TypeId} {d:D} (h1:¬ b1=c) (h2:¬ b2=c):wr2 ((c,t,d)::bk) b1 b2 x y=(c,t,d)::wr2 bk b1 b2 x y:=by
 unfold wr2;rw [setM_cons,if_neg h2,setM_cons,if_neg h1]
theorem wr2_get1 {t:TypeId} {d:D} (h:getM bk b1=some (t,d)) (h12:¬ b1=b2):getM (wr2 bk b1 b2 x y) b1=some (t,x):=by
 unfold wr2;rw [getM_setM,getM_setM_ne h12,h];rfl
theorem wr2_get2 {t:TypeId} {d:D} (h:getM bk b2=some (t,d)) (h12:¬ b1=b2):getM (wr2 bk b1 b2 x y) b2=some (t,y):=by
 unfold wr2;rw [getM_setM_ne (fun e=>h12 e.symm),getM_setM,h];rfl
theorem wr2_get {c:Nat} (h1:¬ c=b1) (h2:¬ c=b2):getM (wr2 bk b1 b2 x y) c=getM bk c:=by
 unfold wr2;rw [getM_setM_ne h1,getM_setM_ne h2]
theorem wr2_keys:(wr2 bk b1 b2 x y).map (·.1)=bk.map (·.1):=by unfold wr2;rw [setM_keys,setM_keys]
theorem wr2_same {t1 t2:TypeId} (h1:getM bk b1=some (t1,x)) (h2:getM bk b2=some (t2,y)):wr2 bk b1 b2 x y=bk:=by
 unfold wr2;rw [setM_same h2,setM_same h1]
end
def bothS (wid:Nat) (old:Dg):Nat→Nat→Nat→Bool→List Dg×Bool→(Dg×Dg)×List Dg×Bool
 | 0,_,_,_,s=>((old,old),s)
 | f+1,m,n,whole,s=>
  if m=n then (if whole then ((old,old),s) else (((nextS s).1,(nextS s).1),(nextS s).2))
  else if m≤halfN n then
   (((bothS wid old f m (halfN n) whole s).1.1,knotS wid (bothS wid old f m (halfN n) whole s).1.2 (nextS (bothS wid old f m (halfN n) whole s).2).1),(nextS (bothS wid old f m (halfN n) whole s).2).2)
  else
   ((knotS wid (nextS (bothS wid old f (m - halfN n) (n - halfN n) false s).2).1 (bothS wid old f (m - halfN n) (n - halfN n) false s).1.1,knotS wid (nextS (bothS wid old f (m - halfN n) (n - halfN n) false s).2).1 (bothS wid old f (m - halfN n) (n - halfN n) false s).1.2),(nextS (bothS wid old f (m - halfN n) (n - halfN n) false s).2).2)
def bothF (wid:Nat) (old:Hd) (bf bt bo:Nat):D:=.fn 74 [.pt (hdD old),pD bt,pD bo,pD bf,.pt (iD wid)]
structure BoH (bk:List (Nat×TypeId×D)) (wid:Nat) (old:Hd) (bf bt bo:Nat):Prop where
 f:getM bk bf=some (136,bothF wid old bf bt bo)
 t:∃ d,getM bk bt=some (40,d)
 o:∃ d,getM bk bo=some (4,d)
 n1:¬ bt=bo
 n2:¬ bf=bt
 n3:¬ bf=bo
theorem BoH.cons {bk:List (Nat×TypeId×D)} {wid:Nat} {old:Hd} {bf bt bo c:Nat} {t:TypeId} {d:D} (h:BoH bk wid old bf bt bo) (hc:c ∉ bk.map (·.1)):BoH ((c,t,d)::bk) wid old bf bt bo:=by
 have ne:∀ {b:Nat} {x:TypeId×D},getM bk b=some x→getM ((c,t,d)::bk) b=some x:=fun hb=>by rw [getM_cons,if_neg (getM_ne hb hc)];exact hb
 obtain ⟨d1,h1⟩:=h.t
 obtain ⟨d2,h2⟩:=h.o
 exact ⟨ne h.f,⟨d1,ne h1⟩,⟨d2,ne h2⟩,h.n1,h.n2,h.n3⟩
def BoTo (bk:List (Nat×TypeId×D)) (ow:List (Nat×Nat)) (bt bo:Nat) (s:List Dg×Bool) (S':Sto):Prop:=
 ∃ (tg:Tag),S'=⟨wr2 bk bt bo (.sl tg (s.1.map .dg)) (bD s.2),ow⟩
theorem aBoth (wid:Nat) (old:Hd) (bf bt bo:Nat) (hw:wid≤32) (ow:List (Nat×Nat)):∀ (f m n:Nat) (whole:Bool) (s:List Dg×Bool) (bk:List (Nat×TypeId×D)) (S:Sto),1≤m→m≤n→n≤f→n≤2000000→BoH bk wid old bf bt bo→BoTo bk ow bt bo s S →
  ACalls Tryz.prog 74 [iD m,iD n,bD whole,.pt (hdD old),pD bt,pD bo,pD bf,.pt (iD wid)] S (fun e S'=>∃ d,e=.ret d∧(d=.tup [.dg (bothS wid old.log f m n whole s).1.1,.dg (bothS wid old.log f m n whole s).1.2]∧BoTo bk ow bt bo (bothS wid old.log f m n whole s).2 S'))
 | 0,m,n,whole,s,bk,S,h1,h2,h3,_,_,_=>absurd h1 (by omega)
 | f+1,m,n,whole,s,bk,S,h1,h2,h3,hn,hb,hS=>by
  obtain ⟨l,ok⟩:=s
  obtain ⟨tg,rfl⟩:=hS
  simp only
  obtain ⟨dt,gt⟩:=hb.t
  obtain ⟨d_o,go⟩:=hb.o
  have hk:∀ {x y:D} {c:Nat},c ∉ (wr2 bk bt bo x y).map (·.1)→¬ bf=c∧¬ bt=c∧¬ bo=c∧c ∉ bk.map (·.1):=fun {x y c} hc=>by
   rw [wr2_keys] at hc
   exact ⟨getM_ne hb.f hc,getM_ne gt hc,getM_ne go hc,hc⟩
  have gf:∀ x y,getM (wr2 bk bt bo x y) bf=some (136,bothF wid old bf bt bo):=fun x y=>by rw [wr2_get hb.n2 hb.n3];exact hb.f
  have gt':∀ x y,getM (wr2 bk bt bo x y) bt=some (40,x):=fun x y=>wr2_get1 gt hb.n1
  have go':∀ x y,getM (wr2 bk bt bo x y) bo=some (4,y):=fun x y=>wr2_get2 go hb.n1
  have s1:∀ x y u,setM (wr2 bk bt bo x y) bt u=wr2 bk bt bo u y:=fun x y u=>wr2_1
  have s2:∀ x y u,setM (wr2 bk bt bo x y) bo u=wr2 bk bt bo x u:=fun x y u=>wr2_2 hb.n1
  unfold bothS
  by_cases hmn:m=n
  ·subst hmn
   rw [if_pos rfl]
   have z1:((m:Int) == m)=true:=beq_self_eq_true _
   cases whole with
   | true=>
    rw [if_pos rfl]
    refine acalls_of prg Tryz.func74 rfl (by kernel_rfl) (congrArg Array.toList Tryz.results74) Tryz.ntmps74 (fun B hB=>fA ?_)
    refine Wk Y0 ?_
    refine aL fun b11 k_b11 o_b11=>?_
    refine Wk Y0 ?_
    refine aL fun b12 k_b12 o_b12=>?_
    refine Wk z1 ?_
    refine aL fun b13 k_b13 o_b13=>?_
    have n1:=nes k_b13.1
    have n2:=nes k_b13.2.1
    have n3:=nes k_b12.1
    refine Wn (Yy k_b12 (Yy k_b13 (Yy n1 (Yy n2 n3)))) ?_
    have F:=(Yy k_b12 (Yy k_b13 (Yy n1 (Yy n2 n3))))
    refine yy [b13] ?_
    refine yq 0 ?_
    refine yd 1 ?_
    refine ys 2 ?_
    refine ys 3 ?_
    refine ye ?_
    refine Wk Y0 ?_
    refine endx (S':=⟨wr2 bk bt bo (.sl tg (l.map .dg)) (bD ok),ow⟩) (sR (Yy k_b12 (Yy k_b13 (Yy n1 (Yy n2 n3))))) (by rfl) (Sto.Sub.refl _).cons.cons.cons ⟨rfl,tg,rfl⟩
   | false=>
    rw [if_neg (by decide)]
    refine acalls_of prg Tryz.func74 rfl (by kernel_rfl) (congrArg Array.toList Tryz.results74) Tryz.ntmps74 (fun B hB=>fA ?_)
    refine Wk Y0 ?_
    refine aL fun b11 k_b11 o_b11=>?_
    refine Wk Y0 ?_
    refine aL fun b12 k_b12 o_b12=>?_
    refine Wk z1 ?_
    refine aL fun b13 k_b13 o_b13=>?_
    have n1:=nes k_b13.1
    have n2:=nes k_b13.2.1
    have n3:=nes k_b12.1
    have ⟨m1,m2,m3,_⟩:=hk k_b11
    have ⟨m4,m5,m6,_⟩:=hk k_b12.2
    have ⟨m7,m8,m9,_⟩:=hk k_b13.2.2
    refine Wk (Yy k_b12 (Yy k_b13 (Yy n1 (Yy n2 n3)))) ?_
    refine wg (c:=by exact (aNext bt bo tg l ok _ (by rw [getM_cons,if_neg m8,getM_cons,if_neg m5,getM_cons,if_neg m2];exact gt' _ _) (by rw [getM_cons,if_neg m9,getM_cons,if_neg m6,getM_cons,if_neg m3];exact go' _ _) hb.n1)) (k:=?_)
    rintro d S2 ⟨rfl,tg3,rfl⟩
    simp only [setM_cons,if_neg m8,if_neg m5,if_neg m2,if_neg m9,if_neg m6,if_neg m3,s1,s2]
    generalize nextS (l,ok)=q
    obtain ⟨x,ql,qok⟩:=q
    simp only
    refine Wn (Yy k_b12 (Yy k_b13 (Yy n1 (Yy n2 n3)))) ?_
    have F:=(Yy k_b12 (Yy k_b13 (Yy n1 (Yy n2 n3))))
    refine yy [b13] ?_
    refine yq 0 ?_
    refine yd 1 ?_
    refine ys 2 ?_
    refine ys 3 ?_
    refine ye ?_
    refine Wk Y0 ?_
    refine endx (S':=⟨wr2 bk bt bo (.sl tg3 (ql.map .dg)) (bD qok),ow⟩) (sR (Yy k_b12 (Yy k_b13 (Yy n1 (Yy n2 n3))))) (by rfl) (Sto.Sub.refl _).cons.cons.cons ⟨rfl,tg3,rfl⟩
  rw [if_neg hmn]
  have z1:((m:Int) == n)=false:=beq_eq_false_iff_ne.2 (by omega)
  have hh:=halfN_spec (n:=n) (by omega)
  have cH:=fun S=>aHalf n S (by omega) (by omega)
  generalize halfN n=h at hh cH
  have hb2:∀ {b11 b12:Nat},b11 ∉ bk.map (·.1)→¬ b12=b11∧b12 ∉ bk.map (·.1)→BoH ((b12,26,.dg Dg.zero)::(b11,26,.dg Dg.zero)::bk) wid old bf bt bo:=fun h1 h2=>(hb.cons h1).cons (by simp only [List.map_cons,List.mem_cons,not_or];exact h2)
  by_cases hlt:m≤h
  ·rw [if_pos hlt]
   have d1:decide ((m:Int)≤h)=true:=decide_eq_true (by omega)
   refine acalls_of prg Tryz.func74 rfl (by kernel_rfl) (congrArg Array.toList Tryz.results74) Tryz.ntmps74 (fun B hB=>fA ?_)
   refine Wk Y0 ?_
   refine aL fun b11 k_b11 o_b11=>?_
   refine Wk Y0 ?_
   refine aL fun b12 k_b12 o_b12=>?_
   have ⟨m1,m2,m3,q1⟩:=hk k_b11
   have ⟨m4,m5,m6,q2⟩:=hk k_b12.2
   have n3:=nes k_b12.1
   have e2:∀ x y,wr2 ((b12,26,.dg Dg.zero)::(b11,26,.dg Dg.zero)::bk) bt bo x y=(b12,26,.dg Dg.zero)::(b11,26,.dg Dg.zero)::wr2 bk bt bo x y:=fun x y=>by
    rw [wr2_cons m5 m6,wr2_cons m2 m3]
   have ih:=aBoth wid old bf bt bo hw ow f m h whole (l,ok) _ ⟨(b12,26,.dg Dg.zero)::(b11,26,.dg Dg.zero)::wr2 bk bt bo (.sl tg (l.map .dg)) (bD ok),ow⟩ h1 hlt (by omega) (by omega) (hb2 q1 ⟨k_b12.1,q2⟩) ⟨tg,by rw [e2]⟩
   refine Wk z1 ?_
   refine cQ (cH _) ?_
   refine Wk (Yy d1 (Yy m1 (Yy m4 gf))) ?_
   refine wix (c:=ih) (k:=?_)
   rintro d S1 ⟨rfl,tg',rfl⟩
   rw [e2]
   generalize bothS wid old.log f m h whole (l,ok)=r
   obtain ⟨⟨ra,rb⟩,rl,rok⟩:=r
   simp only
   refine Wk Y0 ?_
   refine aL fun b15 k_b15 o_b15=>?_
   refine Wk Y0 ?_
   refine aL fun b16 k_b16 o_b16=>?_
   have n4:=nes k_b16.1
   have n5:=nes k_b16.2.1
   have n6:=nes k_b16.2.2.1
   have n7:=nes k_b15.1
   have n8:=nes k_b15.2.1
   have ⟨m7,m8,m9,_⟩:=hk k_b15.2.2
   have ⟨ma,mb,mc,_⟩:=hk k_b16.2.2.2
   have cK:=fun S=>aKnot wid rb (nextS (rl,rok)).1 S hw
   refine Wn (Yy k_b12 (Yy k_b15 (Yy k_b16 (Yy n3 (Yy n4 (Yy n5 (Yy n6 (Yy n7 n8)))))))) ?_
   have F:=(Yy k_b12 (Yy k_b15 (Yy k_b16 (Yy n3 (Yy n4 (Yy n5 (Yy n6 (Yy n7 n8))))))))
   refine yy [b15,b16] ?_
   refine yd 0 ?_
   refine yp 1 ?_
   refine yd 2 ?_
   have hN:=fun S h1 h2=>aNext bt bo tg' rl rok S h1 h2 hb.n1
   refine yc 3 (c:=hN _ ?g1 ?g2) (hfr:=?g3) (k:=?g4)
   case g1=>rw [getM_cons,if_neg mb,getM_cons,if_neg m8,getM_cons,if_neg m5,getM_cons,if_neg m2];exact gt' _ _
   case g2=>rw [getM_cons,if_neg mc,getM_cons,if_neg m9,getM_cons,if_neg m6,getM_cons,if_neg m3];exact go' _ _
   case g3=>
    rintro d S' ⟨-,tg3,rfl⟩
    exact fr_next (fun c hc=>by
     simp only [List.mem_cons,List.not_mem_nil,or_false] at hc
     rcases hc with rfl | rfl
     ·exact ⟨nes m8,nes m9⟩
     ·exact ⟨nes mb,nes mc⟩)
   rintro d S2 ⟨rfl,tg3,rfl⟩
   simp only [setM_cons,if_neg mb,if_neg mc,if_neg m8,if_neg m5,if_neg m2,if_neg m9,if_neg m6,if_neg m3,s1,s2]
   generalize nextS (rl,rok)=q at cK ⊢
   obtain ⟨x,ql,qok⟩:=q
   simp only at cK ⊢
   refine yr 4 (c:=cK _) (k:=?_)
   refine ys 5 ?_
   refine ys 6 ?_
   refine ye ?_
   refine Wk Y0 ?_
   refine endx (S':=⟨wr2 bk bt bo (.sl tg3 (ql.map .dg)) (bD qok),ow⟩) (sR (Yy k_b12 (Yy k_b15 (Yy k_b16 (Yy n3 (Yy n4 (Yy n5 (Yy n6 (Yy n7 n8))))))))) (by rfl) (Sto.Sub.refl _).cons.cons.cons.cons ⟨rfl,tg3,rfl⟩
  ·rw [if_neg hlt]
   have d1:decide ((m:Int)≤h)=false:=decide_eq_false (by omega)
   have f1:IntKind.i64.wrap ((m:Int) - h)=((m - h:Nat):Int):=by rw [IntWalk.i64_in _ (by omega)];omega
   have f2:IntKind.i64.wrap ((n:Int) - h)=((n - h:Nat):Int):=by rw [IntWalk.i64_in _ (by omega)];omega
   refine acalls_of prg Tryz.func74 rfl (by kernel_rfl) (congrArg Array.toList Tryz.results74) Tryz.ntmps74 (fun B hB=>fA ?_)
   refine Wk Y0 ?_
   refine aL fun b11 k_b11 o_b11=>?_
   refine Wk Y0 ?_
   refine aL fun b12 k_b12 o_b12=>?_
   have ⟨m1,m2,m3,q1⟩:=hk k_b11
   have ⟨m4,m5,m6,q2⟩:=hk k_b12.2
   have n3:=nes k_b12.1
   have e2:∀ x y,wr2 ((b12,26,.dg Dg.zero)::(b11,26,.dg Dg.zero)::bk) bt bo x y=(b12,26,.dg Dg.zero)::(b11,26,.dg Dg.zero)::wr2 bk bt bo x y:=fun x y=>by
    rw [wr2_cons m5 m6,wr2_cons m2 m3]
   have ih:=aBoth wid old bf bt bo hw ow f (m - h) (n - h) false (l,ok) _ ⟨(b12,26,.dg Dg.zero)::(b11,26,.dg Dg.zero)::wr2 bk bt bo (.sl tg (l.map .dg)) (bD ok),ow⟩ (by omega) (by omega) (by omega) (by omega) (hb2 q1 ⟨k_b12.1,q2⟩) ⟨tg,by rw [e2]⟩
   refine Wk z1 ?_
   refine cQ (cH _) ?_
   refine Wk (Yy d1 (Yy m1 (Yy m4 (Yy gf (Yy f1 f2))))) ?_
   refine wix (c:=ih) (k:=?_)
   rintro d S1 ⟨rfl,tg',rfl⟩
   rw [e2]
   generalize bothS wid old.log f (m - h) (n - h) false (l,ok)=r
   obtain ⟨⟨ra,rb⟩,rl,rok⟩:=r
   simp only
   refine Wk Y0 ?_
   refine aL fun b17 k_b17 o_b17=>?_
   refine Wk Y0 ?_
   refine aL fun b18 k_b18 o_b18=>?_
   have n4:=nes k_b18.1
   have n5:=nes k_b18.2.1
   have n6:=nes k_b18.2.2.1
   have n7:=nes k_b17.1
   have n8:=nes k_b17.2.1
   have ⟨m7,m8,m9,_⟩:=hk k_b17.2.2
   have ⟨ma,mb,mc,_⟩:=hk k_b18.2.2.2
   refine Wk (Yy k_b12 (Yy k_b17 (Yy k_b18 (Yy n3 (Yy n4 (Yy n5 (Yy n6 (Yy n7 n8)))))))) ?_
   refine wg (c:=by exact (aNext bt bo tg' rl rok _ (by rw [getM_cons,if_neg mb,getM_cons,if_neg m8,getM_cons,if_neg m5,getM_cons,if_neg m2];exact gt' _ _) (by rw [getM_cons,if_neg mc,getM_cons,if_neg m9,getM_cons,if_neg m6,getM_cons,if_neg m3];exact go' _ _) hb.n1)) (k:=?_)
   rintro d S2 ⟨rfl,tg3,rfl⟩
   simp only [setM_cons,if_neg mb,if_neg mc,if_neg m8,if_neg m5,if_neg m2,if_neg m9,if_neg m6,if_neg m3,s1,s2]
   generalize nextS (rl,rok)=q
   obtain ⟨x,ql,qok⟩:=q
   simp only
   have cK1:=fun S=>aKnot wid x ra S hw
   have cK2:=fun S=>aKnot wid x rb S hw
   refine Wk Y0 ?_
   refine aL fun b19 k_b19 o_b19=>?_
   have p1:=nes k_b19.1
   have p2:=nes k_b19.2.1
   have p3:=nes k_b19.2.2.1
   have p4:=nes k_b19.2.2.2.1
   refine Wn (Yy k_b12 (Yy k_b17 (Yy k_b18 (Yy k_b19 (Yy n3 (Yy n4 (Yy n5 (Yy n6 (Yy n7 (Yy n8 (Yy p1 (Yy p2 (Yy p3 p4))))))))))))) ?_
   have F:=(Yy k_b12 (Yy k_b17 (Yy k_b18 (Yy k_b19 (Yy n3 (Yy n4 (Yy n5 (Yy n6 (Yy n7 (Yy n8 (Yy p1 (Yy p2 (Yy p3 p4)))))))))))))
   refine yy [b19,b17,b18] ?_
   refine yp 0 ?_
   refine yd 1 ?_
   refine yd 2 ?_
   refine yp 4 ?_
   refine yd 5 ?_
   refine yd 6 ?_
   refine yr 3 (c:=cK1 _) (k:=?_)
   refine yr 7 (c:=cK2 _) (k:=?_)
   refine ys 8 ?_
   refine ys 9 ?_
   refine ye ?_
   refine Wk Y0 ?_
   refine endx (S':=⟨wr2 bk bt bo (.sl tg3 (ql.map .dg)) (bD qok),ow⟩) (sR (Yy k_b12 (Yy k_b17 (Yy k_b18 (Yy k_b19 (Yy n3 (Yy n4 (Yy n5 (Yy n6 (Yy n7 (Yy n8 (Yy p1 (Yy p2 (Yy p3 p4)))))))))))))) (by rfl) (Sto.Sub.refl _).cons.cons.cons.cons.cons ⟨rfl,tg3,rfl⟩


def extendsS (wid : Int) (old now : Hd) (since : List Dg) : Bool :=
  wideB wid && (fitB wid old.log && fitB wid now.log) && fitsB wid since && decide (now.size ≤ 1048576) && decide (old.size ≤ now.size) &&
    (if old.size = now.size then decide (old.log = now.log) && decide (since.length = 0)
     else if old.size = 0 then decide (old.log = noneS wid) && decide (since.length = 0)
     else (bothS wid.toNat old.log now.size old.size now.size true (since, true)).2.2 && decide ((bothS wid.toNat old.log now.size old.size now.size true (since, true)).2.1.length = 0) &&
       decide ((bothS wid.toNat old.log now.size old.size now.size true (since, true)).1.1 = old.log) && decide ((bothS wid.toNat old.log now.size old.size now.size true (since, true)).1.2 = now.log))
theorem len_beq {α:Type} (l:List α):(((l.length:Nat):Int) == 0)=decide (l.length=0):=by rw [Bool.eq_iff_iff];simp
theorem aExtends (wid:Int) (old now:Hd) (tg:Tag) (since:List Dg) (S:Sto) (ho:old.size<18446744073709551616) (hn:now.size<18446744073709551616) (ht:since.length≤140737488355328) :
  ACalls Tryz.prog 41 [iD wid,hdD old,hdD now,.sl tg (since.map .dg)] S (RetQ (bD (extendsS wid old now since)) S):=by
 obtain ⟨os,od⟩:=old
 obtain ⟨ns,nd⟩:=now
 simp only at ho hn
 have c1:=fun S=>aRingRight wid S
 have c2:=fun S=>aFit wid .full [od,nd] S (by simp)
 have c3:=fun S=>aFit wid tg since S ht
 have dl:=len_beq since
 rw [fits_two] at c2
 unfold extendsS
 simp only
 cases hw:wideB wid with
 | false=>
  rw [hw] at c1
  simp only [Bool.false_and]
  refine acalls_of prg Tryz.func41 rfl (by kernel_rfl) (congrArg Array.toList Tryz.results41) Tryz.ntmps41 (fun B hB=>fA ?_)
  refine w3 ?_
  refine w4 ?_
  apply AOps.goN prg 3;case run=>(simp only [go_sem,Int.reduceEq,Int.reduceLT,Int.reduceBEq,Int.reduceBNe,Int.reduceNe,Nat.reduceLeDiff,Nat.reduceAdd,Nat.reduceSub,Nat.reduceLT,Nat.reduceEqDiff,Nat.reduceBEq,Int.reduceLE,Int.reduceToNat];rfl)
  refine aB fun b7 k_b7 o_b7=>?_
  refine Wk Y0 ?_
  refine cQ (c1 _) ?_
  refine Wk Y0 ?_
  refine endq (S':=S) (sR Y0) (by rfl) (Sto.Sub.refl _).cons
 | true=>
 rw [hw] at c1
 cases h2:(fitB wid od && fitB wid nd) with
 | false=>
  rw [h2] at c2
  simp only [Bool.false_and,Bool.and_false]
  refine acalls_of prg Tryz.func41 rfl (by kernel_rfl) (congrArg Array.toList Tryz.results41) Tryz.ntmps41 (fun B hB=>fA ?_)
  refine w3 ?_
  refine w4 ?_
  apply AOps.goN prg 3;case run=>(simp only [go_sem,Int.reduceEq,Int.reduceLT,Int.reduceBEq,Int.reduceBNe,Int.reduceNe,Nat.reduceLeDiff,Nat.reduceAdd,Nat.reduceSub,Nat.reduceLT,Nat.reduceEqDiff,Nat.reduceBEq,Int.reduceLE,Int.reduceToNat];rfl)
  refine aB fun b7 k_b7 o_b7=>?_
  refine Wk Y0 ?_
  refine cQ (c1 _) ?_
  refine Wk Y0 ?_
  refine cQ (c2 _) ?_
  refine Wk Y0 ?_
  refine endq (S':=S) (sR Y0) (by rfl) (Sto.Sub.refl _).cons
 | true=>
 rw [h2] at c2
 cases h3:fitsB wid since with
 | false=>
  rw [h3] at c3
  simp only [Bool.false_and,Bool.and_false]
  refine acalls_of prg Tryz.func41 rfl (by kernel_rfl) (congrArg Array.toList Tryz.results41) Tryz.ntmps41 (fun B hB=>fA ?_)
  refine w3 ?_
  refine w4 ?_
  apply AOps.goN prg 3;case run=>(simp only [go_sem,Int.reduceEq,Int.reduceLT,Int.reduceBEq,Int.reduceBNe,Int.reduceNe,Nat.reduceLeDiff,Nat.reduceAdd,Nat.reduceSub,Nat.reduceLT,Nat.reduceEqDiff,Nat.reduceBEq,Int.reduceLE,Int.reduceToNat];rfl)
  refine aB fun b7 k_b7 o_b7=>?_
  refine Wk Y0 ?_
  refine cQ (c1 _) ?_
  refine Wk Y0 ?_
  refine cQ (c2 _) ?_
  refine Wk Y0 ?_
  refine cQ (c3 _) ?_
  refine Wk Y0 ?_
  refine endq (S':=S) (sR Y0) (by rfl) (Sto.Sub.refl _).cons
 | true=>
 rw [h3] at c3
 simp only [Bool.true_and]
 by_cases h4:ns≤1048576
 case neg=>
  have d4:decide ((ns:Int) > 1048576)=true:=decide_eq_true (by omega)
  rw [decide_eq_false h4]
  simp only [Bool.false_and]
  refine acalls_of prg Tryz.func41 rfl (by kernel_rfl) (congrArg Array.toList Tryz.results41) Tryz.ntmps41 (fun B hB=>fA ?_)
  refine w3 ?_
  refine w4 ?_
  apply AOps.goN prg 3;case run=>(simp only [go_sem,Int.reduceEq,Int.reduceLT,Int.reduceBEq,Int.reduceBNe,Int.reduceNe,Nat.reduceLeDiff,Nat.reduceAdd,Nat.reduceSub,Nat.reduceLT,Nat.reduceEqDiff,Nat.reduceBEq,Int.reduceLE,Int.reduceToNat];rfl)
  refine aB fun b7 k_b7 o_b7=>?_
  refine Wk Y0 ?_
  refine cQ (c1 _) ?_
  refine Wk Y0 ?_
  refine cQ (c2 _) ?_
  refine Wk Y0 ?_
  refine cQ (c3 _) ?_
  refine Wk d4 ?_
  refine endq (S':=S) (sR Y0) (by rfl) (Sto.Sub.refl _).cons
 have d4:decide ((ns:Int) > 1048576)=false:=decide_eq_false (by omega)
 rw [decide_eq_true h4]
 simp only [Bool.true_and]
 by_cases h5:os≤ns
 case neg=>
  have d5:decide ((os:Int) > ns)=true:=decide_eq_true (by omega)
  rw [decide_eq_false h5]
  simp only [Bool.false_and]
  refine acalls_of prg Tryz.func41 rfl (by kernel_rfl) (congrArg Array.toList Tryz.results41) Tryz.ntmps41 (fun B hB=>fA ?_)
  refine w3 ?_
  refine w4 ?_
  apply AOps.goN prg 3;case run=>(simp only [go_sem,Int.reduceEq,Int.reduceLT,Int.reduceBEq,Int.reduceBNe,Int.reduceNe,Nat.reduceLeDiff,Nat.reduceAdd,Nat.reduceSub,Nat.reduceLT,Nat.reduceEqDiff,Nat.reduceBEq,Int.reduceLE,Int.reduceToNat];rfl)
  refine aB fun b7 k_b7 o_b7=>?_
  refine Wk Y0 ?_
  refine cQ (c1 _) ?_
  refine Wk Y0 ?_
  refine cQ (c2 _) ?_
  refine Wk Y0 ?_
  refine cQ (c3 _) ?_
  refine Wk (Yy d4 d5) ?_
  refine endq (S':=S) (sR Y0) (by rfl) (Sto.Sub.refl _).cons
 have d5:decide ((os:Int) > ns)=false:=decide_eq_false (by omega)
 rw [decide_eq_true h5]
 simp only [Bool.true_and]
 by_cases h6:os=ns
 ·subst h6
  rw [if_pos rfl]
  have z6:((os:Int) == os)=true:=beq_self_eq_true _
  cases h7:decide (od=nd) with
  | false=>
   simp only [Bool.false_and]
   refine acalls_of prg Tryz.func41 rfl (by kernel_rfl) (congrArg Array.toList Tryz.results41) Tryz.ntmps41 (fun B hB=>fA ?_)
   refine w3 ?_
   refine w4 ?_
   apply AOps.goN prg 3;case run=>(simp only [go_sem,Int.reduceEq,Int.reduceLT,Int.reduceBEq,Int.reduceBNe,Int.reduceNe,Nat.reduceLeDiff,Nat.reduceAdd,Nat.reduceSub,Nat.reduceLT,Nat.reduceEqDiff,Nat.reduceBEq,Int.reduceLE,Int.reduceToNat];rfl)
   refine aB fun b7 k_b7 o_b7=>?_
   refine Wk Y0 ?_
   refine cQ (c1 _) ?_
   refine Wk Y0 ?_
   refine cQ (c2 _) ?_
   refine Wk Y0 ?_
   refine cQ (c3 _) ?_
   refine Wk (Yy d4 (Yy d5 (Yy z6 h7))) ?_
   refine endq (S':=S) (sR Y0) (by rfl) (Sto.Sub.refl _).cons
  | true=>
   simp only [Bool.true_and]
   refine acalls_of prg Tryz.func41 rfl (by kernel_rfl) (congrArg Array.toList Tryz.results41) Tryz.ntmps41 (fun B hB=>fA ?_)
   refine w3 ?_
   refine w4 ?_
   apply AOps.goN prg 3;case run=>(simp only [go_sem,Int.reduceEq,Int.reduceLT,Int.reduceBEq,Int.reduceBNe,Int.reduceNe,Nat.reduceLeDiff,Nat.reduceAdd,Nat.reduceSub,Nat.reduceLT,Nat.reduceEqDiff,Nat.reduceBEq,Int.reduceLE,Int.reduceToNat];rfl)
   refine aB fun b7 k_b7 o_b7=>?_
   refine Wk Y0 ?_
   refine cQ (c1 _) ?_
   refine Wk Y0 ?_
   refine cQ (c2 _) ?_
   refine Wk Y0 ?_
   refine cQ (c3 _) ?_
   refine Wk (Yy d4 (Yy d5 (Yy z6 (Yy h7 dl)))) ?_
   refine endq (S':=S) (sR Y0) (by rfl) (Sto.Sub.refl _).cons
 rw [if_neg h6]
 have z6:((os:Int) == ns)=false:=beq_eq_false_iff_ne.2 (by omega)
 have hwi:1≤wid∧wid≤32:=by simpa [wideB] using hw
 obtain ⟨k,rfl⟩:=Int.eq_ofNat_of_zero_le (show 0≤wid by omega)
 by_cases h8:os=0
 ·subst h8
  rw [if_pos rfl]
  have cN:=fun S=>aNone k S
  generalize noneS k=nn at cN
  cases h7:decide (od=nn) with
  | false=>
   simp only [Bool.false_and]
   refine acalls_of prg Tryz.func41 rfl (by kernel_rfl) (congrArg Array.toList Tryz.results41) Tryz.ntmps41 (fun B hB=>fA ?_)
   refine w3 ?_
   refine w4 ?_
   apply AOps.goN prg 3;case run=>(simp only [go_sem,Int.reduceEq,Int.reduceLT,Int.reduceBEq,Int.reduceBNe,Int.reduceNe,Nat.reduceLeDiff,Nat.reduceAdd,Nat.reduceSub,Nat.reduceLT,Nat.reduceEqDiff,Nat.reduceBEq,Int.reduceLE,Int.reduceToNat];rfl)
   refine aB fun b7 k_b7 o_b7=>?_
   refine Wk Y0 ?_
   refine cQ (c1 _) ?_
   refine Wk Y0 ?_
   refine cQ (c2 _) ?_
   refine Wk Y0 ?_
   refine cQ (c3 _) ?_
   refine Wk (Yy d4 (Yy d5 z6)) ?_
   refine cQ (cN _) ?_
   refine Wk h7 ?_
   refine endq (S':=S) (sR Y0) (by rfl) (Sto.Sub.refl _).cons
  | true=>
   simp only [Bool.true_and]
   refine acalls_of prg Tryz.func41 rfl (by kernel_rfl) (congrArg Array.toList Tryz.results41) Tryz.ntmps41 (fun B hB=>fA ?_)
   refine w3 ?_
   refine w4 ?_
   apply AOps.goN prg 3;case run=>(simp only [go_sem,Int.reduceEq,Int.reduceLT,Int.reduceBEq,Int.reduceBNe,Int.reduceNe,Nat.reduceLeDiff,Nat.reduceAdd,Nat.reduceSub,Nat.reduceLT,Nat.reduceEqDiff,Nat.reduceBEq,Int.reduceLE,Int.reduceToNat];rfl)
   refine aB fun b7 k_b7 o_b7=>?_
   refine Wk Y0 ?_
   refine cQ (c1 _) ?_
   refine Wk Y0 ?_
   refine cQ (c2 _) ?_
   refine Wk Y0 ?_
   refine cQ (c3 _) ?_
   refine Wk (Yy d4 (Yy d5 z6)) ?_
   refine cQ (cN _) ?_
   refine Wk (Yy h7 dl) ?_
   refine endq (S':=S) (sR Y0) (by rfl) (Sto.Sub.refl _).cons
 rw [if_neg h8]
 have z8:((os:Int) == 0)=false:=beq_eq_false_iff_ne.2 (by omega)
 have f1:IntKind.i64.wrap (os:Int)=os:=IntWalk.i64_in _ (by omega)
 have f2:IntKind.i64.wrap (ns:Int)=ns:=IntWalk.i64_in _ (by omega)
 rw [Int.toNat_natCast]
 refine acalls_of prg Tryz.func41 rfl (by kernel_rfl) (congrArg Array.toList Tryz.results41) Tryz.ntmps41 (fun B hB=>fA ?_)
 refine w3 ?_
 refine w4 ?_
 apply AOps.goN prg 3;case run=>(simp only [go_sem,Int.reduceEq,Int.reduceLT,Int.reduceBEq,Int.reduceBNe,Int.reduceNe,Nat.reduceLeDiff,Nat.reduceAdd,Nat.reduceSub,Nat.reduceLT,Nat.reduceEqDiff,Nat.reduceBEq,Int.reduceLE,Int.reduceToNat];rfl)
 refine aB fun b7 k_b7 o_b7=>?_
 refine Wk Y0 ?_
 refine cQ (c1 _) ?_
 refine Wk Y0 ?_
 refine cQ (c2 _) ?_
 refine Wk Y0 ?_
 refine cQ (c3 _) ?_
 refine Wk (Yy d4 (Yy d5 (Yy z6 z8))) ?_
 refine aL fun b9 k_b9 o_b9=>?_
 refine Wk Y0 ?_
 refine aL fun b10 k_b10 o_b10=>?_
 have n1:=nes k_b9.1
 have n2:=nes k_b10.1
 have n3:=nes k_b10.2.1
 have e0:wr2 ((b10,136,bothF k ⟨os,od⟩ b10 b7 b9)::(b9,4,bD true)::(b7,40,.sl tg (since.map .dg))::S.bk) b7 b9 (.sl tg (since.map .dg)) (bD true)=(b10,136,bothF k ⟨os,od⟩ b10 b7 b9)::(b9,4,bD true)::(b7,40,.sl tg (since.map .dg))::S.bk:=
  wr2_same (t1:=40) (t2:=4) (by rw [getM_cons,if_neg n3,getM_cons,if_neg n1,getM_cons,if_pos rfl]) (by rw [getM_cons,if_neg n2,getM_cons,if_pos rfl])
 have e3:∀ x y,wr2 ((b10,136,bothF k ⟨os,od⟩ b10 b7 b9)::(b9,4,bD true)::(b7,40,.sl tg (since.map .dg))::S.bk) b7 b9 x y=(b10,136,bothF k ⟨os,od⟩ b10 b7 b9)::(b9,4,y)::(b7,40,x)::S.bk:=fun x y=>by
  simp only [wr2,setM_cons,if_neg n1,if_neg n2,if_neg n3,if_true]
 have hB:BoH ((b10,136,bothF k ⟨os,od⟩ b10 b7 b9)::(b9,4,bD true)::(b7,40,.sl tg (since.map .dg))::S.bk) k ⟨os,od⟩ b10 b7 b9:=
  ⟨by rw [getM_cons,if_pos rfl],⟨_,by rw [getM_cons,if_neg n3,getM_cons,if_neg n1,getM_cons,if_pos rfl]⟩,⟨_,by rw [getM_cons,if_neg n2,getM_cons,if_pos rfl]⟩,n1,nes n3,nes n2⟩
 have hc:=aBoth k ⟨os,od⟩ b10 b7 b9 (by omega) S.ow ns os ns true (since,true) _ _ (by omega) h5 (Nat.le_refl _) (by omega) hB ⟨tg,by rw [e0]⟩
 refine Wk (Yy f1 f2) ?_
 refine wix (c:=hc) (k:=?_)
 rintro d S1 ⟨rfl,tg',rfl⟩
 rw [e3]
 simp only
 generalize bothS k od ns os ns true (since,true)=r
 obtain ⟨⟨ra,rb⟩,rl,rok⟩:=r
 simp only
 generalize bothF k ⟨os,od⟩ b10 b7 b9=uf
 have dr:=len_beq rl
 refine Wk Y0 ?_
 refine aL fun b11 k_b11 o_b11=>?_
 refine Wk Y0 ?_
 refine aL fun b12 k_b12 o_b12=>?_
 have m1:=nes k_b11.1
 have m2:=nes k_b11.2.1
 have m3:=nes k_b11.2.2.1
 have m4:=nes k_b12.1
 have m5:=nes k_b12.2.1
 have m6:=nes k_b12.2.2.1
 have m7:=nes k_b12.2.2.2.1
 cases rok with
 | false=>
  simp only [Bool.false_and]
  refine Wk (Yy k_b9 (Yy k_b10 (Yy k_b11 (Yy k_b12 (Yy n1 (Yy n2 (Yy n3 (Yy m1 (Yy m2 (Yy m3 (Yy m4 (Yy m5 (Yy m6 m7))))))))))))) ?_
  refine endq (S':=S) (sR Y0) (by rfl) (Sto.Sub.refl _).cons.cons.cons.cons.cons
 | true=>
 simp only [Bool.true_and]
 cases e1:decide (rl.length=0) with
 | false=>
  rw [e1] at dr
  simp only [Bool.false_and]
  refine Wk (Yy k_b9 (Yy k_b10 (Yy k_b11 (Yy k_b12 (Yy n1 (Yy n2 (Yy n3 (Yy m1 (Yy m2 (Yy m3 (Yy m4 (Yy m5 (Yy m6 (Yy m7 dr)))))))))))))) ?_
  refine endq (S':=S) (sR Y0) (by rfl) (Sto.Sub.refl _).cons.cons.cons.cons.cons
 | true=>
 rw [e1] at dr
 simp only [Bool.true_and]
 cases e2:decide (ra=od) with
 | false=>
  simp only [Bool.false_and]
  refine Wk (Yy k_b9 (Yy k_b10 (Yy k_b11 (Yy k_b12 (Yy n1 (Yy n2 (Yy n3 (Yy m1 (Yy m2 (Yy m3 (Yy m4 (Yy m5 (Yy m6 (Yy m7 (Yy dr e2))))))))))))))) ?_
  refine endq (S':=S) (sR Y0) (by rfl) (Sto.Sub.refl _).cons.cons.cons.cons.cons
 | true=>
  simp only [Bool.true_and]
  refine Wk (Yy k_b9 (Yy k_b10 (Yy k_b11 (Yy k_b12 (Yy n1 (Yy n2 (Yy n3 (Yy m1 (Yy m2 (Yy m3 (Yy m4 (Yy m5 (Yy m6 (Yy m7 (Yy dr e2))))))))))))))) ?_
  refine endq (S':=S) (sR Y0) (by rfl) (Sto.Sub.refl _).cons.cons.cons.cons.cons


structure Cl where
 pg:Int
 wd:Int
 head:Hd
 last:En
 knows:Bool
 one:Hd
 two:Hd
 forked:Bool
@[go_sem] def cliD (c:Cl):D:=.agg [frD c.pg c.wd,hdD c.head,enD c.last,bD c.knows,.agg [hdD c.one,hdD c.two],bD c.forked]
def hd0:Hd:=⟨0,Dg.zero⟩
def en0:En:=⟨0,Dg.zero,0,[]⟩
def cl0 (pg wd:Int):Cl:=⟨pg,wd,hd0,en0,false,hd0,hd0,false⟩
theorem aCliNew (pg wd:Int) (S:Sto) (h:rightB pg wd=true):ACalls Tryz.prog 13 [frD pg wd] S (fun e S'=>∃ d,e=.ret d∧∃ b,d=.tup [pD b,iD 0]∧b ∉ S.bk.map (·.1)∧S'=⟨(b,92,cliD (cl0 pg wd))::S.bk,S.ow⟩):=by
 have c1:=fun S=>aNRight pg wd S
 rw [h] at c1
 refine acalls_of prg Tryz.func13 rfl (by kernel_rfl) (congrArg Array.toList Tryz.results13) Tryz.ntmps13 (fun B hB=>fA ?_)
 refine Wk Y0 ?_
 refine cQ (c1 _) ?_
 refine gG Y0 ?_
 refine w6 ?_
 refine w9 ?_
 refine wa ?_
 refine w3 ?_
 refine w4 ?_
 apply AOps.goN prg 2;case run=>(simp only [go_sem,Int.reduceEq,Int.reduceLT,Int.reduceBEq,Int.reduceBNe,Int.reduceNe,Nat.reduceLeDiff,Nat.reduceAdd,Nat.reduceSub,Nat.reduceLT,Nat.reduceEqDiff,Nat.reduceBEq,Int.reduceLE,Int.reduceToNat];rfl)
 refine aB fun b9 k_b9 o_b9=>?_
 refine Wk Y0 ?_
 refine endx (S':=⟨(b9,92,cliD (cl0 pg wd))::S.bk,S.ow⟩) (sR Y0) (by rfl) (Sto.Sub.refl _) ⟨b9,rfl,k_b9,rfl⟩
theorem aCliNew2 (pg wd:Int) (S:Sto) (h:rightB pg wd=false):ACalls Tryz.prog 13 [frD pg wd] S (RetQ (.tup [.v (.pointer none),iD 2]) S):=by
 have c1:=fun S=>aNRight pg wd S
 rw [h] at c1
 refine acalls_of prg Tryz.func13 rfl (by kernel_rfl) (congrArg Array.toList Tryz.results13) Tryz.ntmps13 (fun B hB=>fA ?_)
 refine Wk Y0 ?_
 refine cQ (c1 _) ?_
 refine Wk Y0 ?_
 exact rE
def CliAt (S:Sto) (b:Nat) (c:Cl):Prop:=getM S.bk b=some (92,cliD c)
theorem aThere (b:Nat) (c:Cl) (S:Sto) (h:CliAt S b c) (hp:(c.pg == 0)=false):ACalls Tryz.prog 38 [pD b] S (RetQ (bD true) S):=by
 have z0:(c.pg != 0)=true:=by rw [bne,hp];rfl
 have h:getM S.bk b=some (92,cliD c):=h
 refine acalls_of prg Tryz.func38 rfl (by kernel_rfl) (congrArg Array.toList Tryz.results38) Tryz.ntmps38 (fun B hB=>fA ?_)
 refine Wk (Yy h z0) ?_
 exact rE
def leafC (pg wd:Int) (e:En):Dg×Bool:=
 if (writeS pg wd e).2=0 then ((digS wd eT [(writeS pg wd e).1]).1,decide ((digS wd eT [(writeS pg wd e).1]).2=0)) else (Dg.zero,false)
theorem writeS_len {pg wd:Int} {e:En} (h:(writeS pg wd e).2=0):(writeS pg wd e).1.length≤100:=by
 unfold writeS at h ⊢
 split at h
 ·cases h
 rename_i h1
 split at h
 ·cases h
 rename_i h2
 split at h
 ·cases h
 rename_i h3
 rw [if_neg h1,if_neg h2,if_neg h3]
 have:=List.length_take_le wd.toNat e.sum.l
 have h4:=rightB_iff.1 ((Bool.not_eq_false _).mp h1)
 simp only [List.length_append,fixB_len]
 omega
theorem int_beq0 (n:Int):(n == 0)=decide (n=0):=by rw [Bool.eq_iff_iff];simp
theorem aLeafC (b:Nat) (c:Cl) (e:En) (S:Sto) (h:CliAt S b c) (he:e.Ok):ACalls Tryz.prog 39 [pD b,enD e] S (RetQ (.tup [.dg (leafC c.pg c.wd e).1,bD (leafC c.pg c.wd e).2]) S):=by
 have h:getM S.bk b=some (92,cliD c):=h
 have c1:=fun S=>aWrite c.pg c.wd e S he
 have hl:=@writeS_len c.pg c.wd e
 unfold leafC
 generalize writeS c.pg c.wd e=r at c1 hl ⊢
 obtain ⟨t,code⟩:=r
 simp only at c1 hl ⊢
 by_cases h0:code=0
 ·subst h0
  rw [if_pos rfl]
  have c2:=fun S=>aLeaf19 c.wd t S (by have:=hl rfl;omega)
  generalize digS c.wd eT [t]=q at c2 ⊢
  obtain ⟨dq,eq⟩:=q
  simp only at c2 ⊢
  have z0:=int_beq0 eq
  refine acalls_of prg Tryz.func39 rfl (by kernel_rfl) (congrArg Array.toList Tryz.results39) Tryz.ntmps39 (fun B hB=>fA ?_)
  refine Wk Y0 ?_
  refine aL fun b4 k_b4 o_b4=>?_
  have n1:¬ b=b4:=getM_ne h k_b4
  refine Wk (Yy n1 h) ?_
  refine cQ (c1 _) ?_
  refine Wk (Yy n1 h) ?_
  refine cQ (c2 _) ?_
  refine Wk Y0 ?_
  refine aL fun b8 k_b8 o_b8=>?_
  have n2:=nes k_b8.1
  refine Wk (Yy n1 (Yy n2 (Yy k_b8 z0))) ?_
  refine endq (S':=S) (sR (Yy n2 k_b8)) (by rfl) (Sto.Sub.refl _).cons.cons
 ·rw [if_neg h0]
  have z0:(code != 0)=true:=bne_iff_ne.2 h0
  refine acalls_of prg Tryz.func39 rfl (by kernel_rfl) (congrArg Array.toList Tryz.results39) Tryz.ntmps39 (fun B hB=>fA ?_)
  refine Wk Y0 ?_
  refine aL fun b4 k_b4 o_b4=>?_
  have n1:¬ b=b4:=getM_ne h k_b4
  refine Wk (Yy n1 h) ?_
  refine cQ (c1 _) ?_
  refine Wk z0 ?_
  refine endq (S':=S) (sR Y0) (by rfl) (Sto.Sub.refl _).cons
theorem aState (b:Nat) (c:Cl) (S:Sto) (h:CliAt S b c) (hp:(c.pg == 0)=false):ACalls Tryz.prog 50 [pD b] S (RetQ (iD (if c.knows then 0 else 3)) S):=by
 have c1:=aThere b c S h hp
 have h:getM S.bk b=some (92,cliD c):=h
 cases hk:c.knows with
 | true=>
  refine acalls_of prg Tryz.func50 rfl (by kernel_rfl) (congrArg Array.toList Tryz.results50) Tryz.ntmps50 (fun B hB=>fA ?_)
  refine Wk Y0 ?_
  refine cQ (c1) ?_
  refine Wk (Yy h hk) ?_
  exact rE
 | false=>
  refine acalls_of prg Tryz.func50 rfl (by kernel_rfl) (congrArg Array.toList Tryz.results50) Tryz.ntmps50 (fun B hB=>fA ?_)
  refine Wk Y0 ?_
  refine cQ (c1) ?_
  refine Wk (Yy h hk) ?_
  exact rE
theorem aCliHead (b:Nat) (c:Cl) (S:Sto) (h:CliAt S b c) (hp:(c.pg == 0)=false):ACalls Tryz.prog 14 [pD b] S (RetQ (.tup [hdD c.head,enD c.last,bD c.knows]) S):=by
 have c1:=aThere b c
 have h:getM S.bk b=some (92,cliD c):=h
 refine acalls_of prg Tryz.func14 rfl (by kernel_rfl) (congrArg Array.toList Tryz.results14) Tryz.ntmps14 (fun B hB=>fA ?_)
 refine Wk Y0 ?_
 refine aL fun b2 k_b2 o_b2=>?_
 refine Wk Y0 ?_
 refine aL fun b3 k_b3 o_b3=>?_
 have n1:¬ b=b2:=getM_ne h k_b2
 have n2:¬ b=b3:=getM_ne h k_b3.2
 have n3:=nes k_b3.1
 have h2:CliAt ⟨(b3,39,enD en0)::(b2,28,hdD hd0)::S.bk,S.ow⟩ b c:=by
  show getM ((b3,_,_)::(b2,_,_)::S.bk) b=_
  rw [getM_cons,if_neg n2,getM_cons,if_neg n1];exact h
 refine Wk Y0 ?_
 refine cQ (c1 _ h2 hp) ?_
 refine Wn (Yy n1 (Yy n2 (Yy n3 (Yy k_b3 h)))) ?_
 have F:=(Yy n1 (Yy n2 (Yy n3 (Yy k_b3 h))))
 have h3:getM (⟨(b3,39,enD en0)::(b2,28,hdD hd0)::S.bk,S.ow⟩:Sto).bk b=some (92,cliD c):=h2
 refine yy [b] ?_
 refine yp 0 ?_
 refine yp 1 ?_
 refine yp 2 ?_
 refine yo 3 h3 ?_
 refine yp 4 ?_
 refine yp 5 ?_
 refine yp 6 ?_
 refine yo 7 h3 ?_
 refine yp 8 ?_
 refine yp 9 ?_
 refine yp 10 ?_
 refine yo 11 h3 ?_
 refine ys 12 ?_
 refine ys 13 ?_
 refine ys 14 ?_
 refine ye ?_
 refine Wk Y0 ?_
 refine endq (S':=S) (sR (Yy n3 k_b3)) (by rfl) (Sto.Sub.refl _).cons.cons
theorem aCliEv (b:Nat) (c:Cl) (S:Sto) (h:CliAt S b c) (hp:(c.pg == 0)=false):ACalls Tryz.prog 15 [pD b] S (RetQ (.tup [.agg [hdD c.one,hdD c.two],bD c.forked]) S):=by
 have c1:=aThere b c
 have h:getM S.bk b=some (92,cliD c):=h
 refine acalls_of prg Tryz.func15 rfl (by kernel_rfl) (congrArg Array.toList Tryz.results15) Tryz.ntmps15 (fun B hB=>fA ?_)
 refine Wk Y0 ?_
 refine aL fun b2 k_b2 o_b2=>?_
 have n1:¬ b=b2:=getM_ne h k_b2
 have h2:CliAt ⟨(b2,30,.agg [hdD hd0,hdD hd0])::S.bk,S.ow⟩ b c:=by
  show getM ((b2,_,_)::S.bk) b=_
  rw [getM_cons,if_neg n1];exact h
 refine Wk Y0 ?_
 refine cQ (c1 _ h2 hp) ?_
 refine Wn (Yy n1 h) ?_
 have F:=(Yy n1 h)
 have h3:getM (⟨(b2,30,.agg [hdD hd0,hdD hd0])::S.bk,S.ow⟩:Sto).bk b=some (92,cliD c):=h2
 refine yy [b] ?_
 refine yp 0 ?_
 refine yp 1 ?_
 refine yp 2 ?_
 refine yo 3 h3 ?_
 refine yp 4 ?_
 refine yp 5 ?_
 refine yp 6 ?_
 refine yo 7 h3 ?_
 refine ys 8 ?_
 refine ys 9 ?_
 refine ye ?_
 refine Wk Y0 ?_
 refine endq (S':=S) (sR Y0) (by rfl) (Sto.Sub.refl _).cons

end Go.Proofs.YtgjaaffheanobaaGreat