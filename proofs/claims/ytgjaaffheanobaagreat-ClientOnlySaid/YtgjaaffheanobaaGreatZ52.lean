/- What a client is, whatever it is told (values without addresses). -/
import Derived.Test.YtgjaaffheanobaaGreatZ50
import Derived.Test.YtgjaaffheanobaaGreatZ51
namespace Go.Proofs.YtgjaaffheanobaaGreat
set_option linter.unusedVariables false
set_option linter.unusedSimpArgs false
open Go Go.RowKit

structure CInv (pg wd:Int) (c:Cl):Prop where
 hpg:c.pg=pg
 hwd:c.wd=wd
 hd:c.head.Ok
 fk:c.forked=true→c.knows=true∧forkB pg wd c.one c.two=true
 kn:c.knows=true→fitB wd c.head.log=true∧c.head.size≠0
theorem CInv.new {pg wd:Int}:CInv pg wd (cl0 pg wd):=⟨rfl,rfl,⟨show 0<18446744073709551616 by decide⟩,fun h=>(by cases h),fun h=>(by cases h)⟩
theorem learn_cases {pg wd:Int} {c:Cl} (hr:rightB pg wd=true) (hc:CInv pg wd c) (h:Hd) (e:En) (trail since:List Dg) (hh:h.Ok) :
  CInv pg wd (learnS c h e trail since).2 ∧
  (((learnS c h e trail since).1≠0∧(learnS c h e trail since).2=c)
  ∨ ((learnS c h e trail since).1=211∧c.knows=true∧c.forked=false∧(learnS c h e trail since).2=⟨c.pg,c.wd,c.head,c.last,c.knows,c.head,h,true⟩)
  ∨ ((learnS c h e trail since).1=0∧(learnS c h e trail since).2=⟨c.pg,c.wd,h,e,true,c.one,c.two,c.forked⟩∧(c.knows=true→c.head.size<h.size∨(c.head.size=h.size∧c.head.log=h.log)))):=by
 unfold learnS
 obtain ⟨h1,h2,h3,h4,h5⟩:=hc
 split
 ·exact ⟨⟨h1,h2,h3,h4,h5⟩,.inl ⟨by simp,rfl⟩⟩
 rename_i q1
 split
 ·exact ⟨⟨h1,h2,h3,h4,h5⟩,.inl ⟨by simp,rfl⟩⟩
 rename_i q2
 simp only [not_or] at q1
 split
 ·rename_i q3
  cases hf:c.forked with
  | true=>
   rw [if_pos rfl]
   exact ⟨⟨h1,h2,h3,h4,h5⟩,.inl ⟨by simp,rfl⟩⟩
  | false=>
   rw [if_neg (show ¬ (false=true) by decide)]
   refine ⟨⟨h1,h2,h3,fun _=>⟨q3.1,?_⟩,h5⟩,.inr (.inl ⟨rfl,q3.1,rfl,rfl⟩)⟩
   have k:=h5 q3.1
   have w2:fitB wd h.log=true:=by have:=q1.2.1;rw [h2] at this;exact (Bool.not_eq_false _).mp this
   unfold forkB
   simp only [hr,k.1,w2,Bool.true_and]
   have a1:=q3.2.1
   have a2:=k.2
   have a3:¬ c.head.log=h.log:=fun q=>q3.2.2 (Eq.symm q)
   simp [← a1,a2,a3,q1.1]
 rename_i q3
 split
 ·exact ⟨⟨h1,h2,h3,h4,h5⟩,.inl ⟨by simp,rfl⟩⟩
 split
 ·exact ⟨⟨h1,h2,h3,h4,h5⟩,.inl ⟨by simp,rfl⟩⟩
 refine ⟨⟨h1,h2,hh,fun k=>⟨rfl,(h4 k).2⟩,fun _=>⟨by have:=q1.2.1;rw [h2] at this;exact (Bool.not_eq_false _).mp this,q1.1⟩⟩,.inr (.inr ⟨rfl,rfl,fun k=>?_⟩)⟩
 have n2:¬ h.size<c.head.size:=fun q=>q2 ⟨k,q⟩
 by_cases z:h.size=c.head.size
 ·right
  refine ⟨z.symm,?_⟩
  by_cases y:h.log=c.head.log
  ·exact y.symm
  ·exact absurd ⟨k,z,y⟩ q3
 ·left;omega


set_option maxHeartbeats 20000000 in set_option maxRecDepth 100000 in
theorem aClientOnly (pg wid:Int) (tg:Tag) (l:List Stp) (S:Sto) (hl:l.length≤140737488355328) (hok:∀ s∈l,s.Ok 140737488355328):ACalls Tryz.prog 4 [frD pg wid,.sl tg (l.map stpD)] S (RetQ (bD true) S):=by
 have cW:=fun S=>aAwake21 S
 cases hr:rightB pg wid with
 | false=>
  have cN:=fun S=>aCliNew2 pg wid S hr
  refine acalls_of prg Tryz.func4 rfl (by kernel_rfl) (congrArg Array.toList Tryz.results4) Tryz.ntmps4 (fun B hB=>fA ?_)
  refine Wk Y0 ?_
  refine cQ (cW _) ?_
  refine Wk Y0 ?_
  refine cQ (cN _) ?_
  refine Wk Y0 ?_
  exact rE
 | true=>
 have cN:=fun S=>aCliNew pg wid S hr
 have hp0:(pg == 0)=false:=by
  have:=(rightB_iff.1 hr).1
  rw [beq_eq_false_iff_ne];omega
 refine acalls_of prg Tryz.func4 rfl (by kernel_rfl) (congrArg Array.toList Tryz.results4) Tryz.ntmps4 (fun B hB=>fA ?_)
 refine Wk Y0 ?_
 refine cQ (cW _) ?_
 refine Wk Y0 ?_
 refine cX (cN _) ?_
 rintro d S1 ⟨bc,rfl,hbc,rfl⟩
 refine Wk Y0 ?_
 refine AW.loopS 20 [7,8,9,10,11,12,13,14,15,16,17,18,19] (fun xs S'=>∃ (i:Nat) (c:Cl),xs=[iD i,.any,.any,.any,.any,.any,.any,.any,.any,.any,.any,.any,.any]∧S'=⟨(bc,92,cliD c)::S.bk,S.ow⟩∧i≤l.length∧CInv pg wid c) (fun xs _=>l.length - nI (xs.getD 0 .any)) [iD 0,.any,.any,.any,.any,.any,.any,.any,.any,.any,.any,.any,.any] _ ?_ (Sto.Sub.refl _) ⟨0,cl0 pg wid,rfl,rfl,by omega,CInv.new⟩ ?_
 ·exact wK
 rintro xs S' ⟨i,c,rfl,rfl,hi,hc⟩
 refine fR ?_
 by_cases hlt:i<l.length
 case neg=>
  obtain rfl:i=l.length:=by omega
  have d1:decide ((l.length:Int)<l.length)=false:=decide_eq_false (by omega)
  refine Wk d1 ?_
  refine endq (S':=S) (sR Y0) (by rfl) (Sto.Sub.refl _).cons
 obtain ⟨x,hx⟩:∃ x,l[i]?=some x:=⟨_,List.getElem?_eq_getElem hlt⟩
 have xk:=hok x (List.mem_of_getElem? hx)
 have d1:decide ((i:Int)<l.length)=true:=decide_eq_true (by omega)
 have gx:(l.map stpD)[i]?=some (stpD x):=by rw [List.getElem?_map,hx];rfl
 have g0:(0:Int)≤i:=by omega
 have f1:IntKind.i64.wrap ((i:Int)+1)=((i+1:Nat):Int):=IntWalk.i64_in _ (by omega)
 have hcp:(c.pg == 0)=false:=by rw [hc.hpg];exact hp0
 have cL:∀ S,CliAt S bc c→ACalls Tryz.prog 16 [pD bc,hdD x.head,enD x.entry,.sl .none (x.trail.map .dg),.sl .none (x.since.map .dg)] S (RetQ (iD (learnS c x.head x.entry x.trail x.since).1) ⟨setM S.bk bc (cliD (learnS c x.head x.entry x.trail x.since).2),S.ow⟩):=fun S h=>aLearn bc c x.head x.entry .none .none x.trail x.since S h hcp xk.he ⟨xk.hh⟩ hc.hd xk.ht xk.hs
 have hlc:=learn_cases hr hc x.head x.entry x.trail x.since ⟨xk.hh⟩
 generalize learnS c x.head x.entry x.trail x.since=r at cL hlc
 obtain ⟨z,c'⟩:=r
 obtain ⟨hc',hz⟩:=hlc
 simp only at cL hc' hz
 have hcp':(c'.pg == 0)=false:=by rw [hc'.hpg];exact hp0
 refine Wk (Yy d1 (Yy gx (Yy g0 Int.toNat_natCast))) ?_
 refine aL fun b8 k_b8 o_b8=>?_
 have n1:=nes k_b8.1
 refine Wk (Yy k_b8 n1) ?_
 refine we (c:=aCliHead bc c _ ?g1 hcp) (k:=?_)
 case g1=>show getM _ _=_;rw [getM_cons,if_neg n1,getM_cons,if_pos rfl];rfl
 refine Wk Y0 ?_
 refine aL fun b9 k_b9 o_b9=>?_
 have n2:=nes k_b9.1
 have n3:=nes k_b9.2.1
 refine Wk (Yy k_b8 (Yy k_b9 (Yy n1 (Yy n2 n3)))) ?_
 refine aL fun b10 k_b10 o_b10=>?_
 have n4:=nes k_b10.1
 have n5:=nes k_b10.2.1
 have n6:=nes k_b10.2.2.1
 refine Wk (Yy k_b8 (Yy k_b9 (Yy k_b10 (Yy n1 (Yy n2 (Yy n3 (Yy n4 (Yy n5 n6)))))))) ?_
 refine we (c:=aCliEv bc c _ ?g2 hcp) (k:=?_)
 case g2=>show getM _ _=_;rw [getM_cons,if_neg n6,getM_cons,if_neg n3,getM_cons,if_neg n1,getM_cons,if_pos rfl];rfl
 refine Wk Y0 ?_
 refine aL fun b12 k_b12 o_b12=>?_
 have n7:=nes k_b12.1
 have n8:=nes k_b12.2.1
 have n9:=nes k_b12.2.2.1
 have m1:=nes k_b12.2.2.2.1
 refine Wk (Yy k_b8 (Yy k_b9 (Yy k_b10 (Yy k_b12 (Yy n1 (Yy n2 (Yy n3 (Yy n4 (Yy n5 (Yy n6 (Yy n7 (Yy n8 (Yy n9 m1))))))))))))) ?_
 refine we (c:=cL _ ?g3) (k:=?_)
 case g3=>show getM _ _=_;rw [getM_cons,if_neg m1,getM_cons,if_neg n6,getM_cons,if_neg n3,getM_cons,if_neg n1,getM_cons,if_pos rfl];rfl
 simp only [setM_cons,if_neg n1,if_neg n3,if_neg n6,if_neg m1,if_true]
 refine Wk Y0 ?_
 refine we (c:=aCliHead bc c' _ ?g4 hcp') (k:=?_)
 case g4=>show getM _ _=_;rw [getM_cons,if_neg m1,getM_cons,if_neg n6,getM_cons,if_neg n3,getM_cons,if_neg n1,getM_cons,if_pos rfl];rfl
 refine Wk Y0 ?_
 refine aL fun b15 k_b15 o_b15=>?_
 have u1:=nes k_b15.1
 have u2:=nes k_b15.2.1
 have u3:=nes k_b15.2.2.1
 have u4:=nes k_b15.2.2.2.1
 have m2:=nes k_b15.2.2.2.2.1
 refine Wk (Yy k_b8 (Yy k_b9 (Yy k_b10 (Yy k_b12 (Yy k_b15 (Yy n1 (Yy n2 (Yy n3 (Yy n4 (Yy n5 (Yy n6 (Yy n7 (Yy n8 (Yy n9 (Yy m1 (Yy m2 (Yy u1 (Yy u2 (Yy u3 u4))))))))))))))))))) ?_
 refine aL fun b16 k_b16 o_b16=>?_
 have u5:=nes k_b16.1
 have u6:=nes k_b16.2.1
 have u7:=nes k_b16.2.2.1
 have u8:=nes k_b16.2.2.2.1
 have u9:=nes k_b16.2.2.2.2.1
 have m3:=nes k_b16.2.2.2.2.2.1
 refine Wk (Yy k_b8 (Yy k_b9 (Yy k_b10 (Yy k_b12 (Yy k_b15 (Yy k_b16 (Yy n1 (Yy n2 (Yy n3 (Yy n4 (Yy n5 (Yy n6 (Yy n7 (Yy n8 (Yy n9 (Yy m1 (Yy m2 (Yy m3 (Yy u1 (Yy u2 (Yy u3 (Yy u4 (Yy u5 (Yy u6 (Yy u7 (Yy u8 u9)))))))))))))))))))))))))) ?_
 refine we (c:=aCliEv bc c' _ ?g5 hcp') (k:=?_)
 case g5=>show getM _ _=_;rw [getM_cons,if_neg m3,getM_cons,if_neg m2,getM_cons,if_neg m1,getM_cons,if_neg n6,getM_cons,if_neg n3,getM_cons,if_neg n1,getM_cons,if_pos rfl];rfl
 refine Wk Y0 ?_
 refine aL fun b18 k_b18 o_b18=>?_
 have v1:=nes k_b18.1
 have v2:=nes k_b18.2.1
 have v3:=nes k_b18.2.2.1
 have v4:=nes k_b18.2.2.2.1
 have v5:=nes k_b18.2.2.2.2.1
 have v6:=nes k_b18.2.2.2.2.2.1
 have m4:=nes k_b18.2.2.2.2.2.2.1
 have h1:=hc.hpg
 have h2:=hc.hwd
 have h1':=hc'.hpg
 have h2':=hc'.hwd
 rcases hz with ⟨z0,rfl⟩ | ⟨rfl,k1,k2,rfl⟩ | ⟨rfl,rfl,k3⟩
 ·have z1:(z == 0)=false:=beq_eq_false_iff_ne.2 z0
  have z2:(z != 0)=true:=bne_iff_ne.2 z0
  have d2:decide ((c'.head.size:Int)<c'.head.size)=false:=decide_eq_false (by omega)
  cases hf:c'.forked with
  | true=>
   have hk:=(hc'.fk hf).1
   have hF:=(hc'.fk hf).2
   have cF:=fun S=>aFork pg wid c'.one c'.two S
   rw [hF] at cF
   refine Wk (Yy k_b8 (Yy k_b9 (Yy k_b10 (Yy k_b12 (Yy k_b15 (Yy k_b16 (Yy k_b18 (Yy n1 (Yy n2 (Yy n3 (Yy n4 (Yy n5 (Yy n6 (Yy n7 (Yy n8 (Yy n9 (Yy m1 (Yy m2 (Yy m3 (Yy m4 (Yy u1 (Yy u2 (Yy u3 (Yy u4 (Yy u5 (Yy u6 (Yy u7 (Yy u8 (Yy u9 (Yy v1 (Yy v2 (Yy v3 (Yy v4 (Yy v5 (Yy v6 (Yy f1 (Yy hf (Yy hk (Yy h1 (Yy h2 (Yy z1 (Yy z2 d2)))))))))))))))))))))))))))))))))))))))))) ?_
   refine cQ (cF _) ?_
   refine Wk (Yy k_b8 (Yy k_b9 (Yy k_b10 (Yy k_b12 (Yy k_b15 (Yy k_b16 (Yy k_b18 (Yy n1 (Yy n2 (Yy n3 (Yy n4 (Yy n5 (Yy n6 (Yy n7 (Yy n8 (Yy n9 (Yy m1 (Yy m2 (Yy m3 (Yy m4 (Yy u1 (Yy u2 (Yy u3 (Yy u4 (Yy u5 (Yy u6 (Yy u7 (Yy u8 (Yy u9 (Yy v1 (Yy v2 (Yy v3 (Yy v4 (Yy v5 (Yy v6 (Yy f1 (Yy hf (Yy hk (Yy h1 (Yy h2 (Yy z1 (Yy z2 d2)))))))))))))))))))))))))))))))))))))))))) ?_
   refine ⟨[iD (i+1:Nat),.any,.any,.any,.any,.any,.any,.any,.any,.any,.any,.any,.any],⟨(bc,92,cliD c')::S.bk,S.ow⟩,?_,by simp only [go_sem,Int.reduceEq,Int.reduceLT,Int.reduceBEq,Int.reduceBNe,Int.reduceNe,Nat.reduceLeDiff,Nat.reduceAdd,Nat.reduceSub,Nat.reduceLT,Nat.reduceEqDiff,Nat.reduceBEq,Int.reduceLE,Int.reduceToNat,hf,hk,h1,h2,z1,z2,d2];exact (Sto.Sub.refl _).cons.cons.cons.cons.cons.cons.cons,⟨i+1,c',rfl,rfl,by omega,hc'⟩,?_⟩
   ·exact wK
   ·exact mE
  | false=>
   cases hk:c'.knows with
   | true=>
    refine Wk (Yy k_b8 (Yy k_b9 (Yy k_b10 (Yy k_b12 (Yy k_b15 (Yy k_b16 (Yy k_b18 (Yy n1 (Yy n2 (Yy n3 (Yy n4 (Yy n5 (Yy n6 (Yy n7 (Yy n8 (Yy n9 (Yy m1 (Yy m2 (Yy m3 (Yy m4 (Yy u1 (Yy u2 (Yy u3 (Yy u4 (Yy u5 (Yy u6 (Yy u7 (Yy u8 (Yy u9 (Yy v1 (Yy v2 (Yy v3 (Yy v4 (Yy v5 (Yy v6 (Yy f1 (Yy hf (Yy hk (Yy h1 (Yy h2 (Yy z1 (Yy z2 d2)))))))))))))))))))))))))))))))))))))))))) ?_
    refine ⟨[iD (i+1:Nat),.any,.any,.any,.any,.any,.any,.any,.any,.any,.any,.any,.any],⟨(bc,92,cliD c')::S.bk,S.ow⟩,?_,by simp only [go_sem,Int.reduceEq,Int.reduceLT,Int.reduceBEq,Int.reduceBNe,Int.reduceNe,Nat.reduceLeDiff,Nat.reduceAdd,Nat.reduceSub,Nat.reduceLT,Nat.reduceEqDiff,Nat.reduceBEq,Int.reduceLE,Int.reduceToNat,hf,hk,h1,h2,z1,z2,d2];exact (Sto.Sub.refl _).cons.cons.cons.cons.cons.cons.cons,⟨i+1,c',rfl,rfl,by omega,hc'⟩,?_⟩
    ·exact wK
    ·exact mE
   | false=>
    refine Wk (Yy k_b8 (Yy k_b9 (Yy k_b10 (Yy k_b12 (Yy k_b15 (Yy k_b16 (Yy k_b18 (Yy n1 (Yy n2 (Yy n3 (Yy n4 (Yy n5 (Yy n6 (Yy n7 (Yy n8 (Yy n9 (Yy m1 (Yy m2 (Yy m3 (Yy m4 (Yy u1 (Yy u2 (Yy u3 (Yy u4 (Yy u5 (Yy u6 (Yy u7 (Yy u8 (Yy u9 (Yy v1 (Yy v2 (Yy v3 (Yy v4 (Yy v5 (Yy v6 (Yy f1 (Yy hf (Yy hk (Yy h1 (Yy h2 (Yy z1 (Yy z2 d2)))))))))))))))))))))))))))))))))))))))))) ?_
    refine ⟨[iD (i+1:Nat),.any,.any,.any,.any,.any,.any,.any,.any,.any,.any,.any,.any],⟨(bc,92,cliD c')::S.bk,S.ow⟩,?_,by simp only [go_sem,Int.reduceEq,Int.reduceLT,Int.reduceBEq,Int.reduceBNe,Int.reduceNe,Nat.reduceLeDiff,Nat.reduceAdd,Nat.reduceSub,Nat.reduceLT,Nat.reduceEqDiff,Nat.reduceBEq,Int.reduceLE,Int.reduceToNat,hf,hk,h1,h2,z1,z2,d2];exact (Sto.Sub.refl _).cons.cons.cons.cons.cons.cons.cons,⟨i+1,c',rfl,rfl,by omega,hc'⟩,?_⟩
    ·exact wK
    ·exact mE
 ·have hF:=(hc'.fk rfl).2
  have cF:=fun S=>aFork pg wid c.head x.head S
  simp only at hF
  rw [hF] at cF
  have d2:decide ((c.head.size:Int)<c.head.size)=false:=decide_eq_false (by omega)
  refine Wk (Yy k_b8 (Yy k_b9 (Yy k_b10 (Yy k_b12 (Yy k_b15 (Yy k_b16 (Yy k_b18 (Yy n1 (Yy n2 (Yy n3 (Yy n4 (Yy n5 (Yy n6 (Yy n7 (Yy n8 (Yy n9 (Yy m1 (Yy m2 (Yy m3 (Yy m4 (Yy u1 (Yy u2 (Yy u3 (Yy u4 (Yy u5 (Yy u6 (Yy u7 (Yy u8 (Yy u9 (Yy v1 (Yy v2 (Yy v3 (Yy v4 (Yy v5 (Yy v6 (Yy f1 (Yy k1 (Yy k2 (Yy h1 (Yy h2 d2)))))))))))))))))))))))))))))))))))))))) ?_
  refine cQ (cF _) ?_
  refine Wk (Yy k_b8 (Yy k_b9 (Yy k_b10 (Yy k_b12 (Yy k_b15 (Yy k_b16 (Yy k_b18 (Yy n1 (Yy n2 (Yy n3 (Yy n4 (Yy n5 (Yy n6 (Yy n7 (Yy n8 (Yy n9 (Yy m1 (Yy m2 (Yy m3 (Yy m4 (Yy u1 (Yy u2 (Yy u3 (Yy u4 (Yy u5 (Yy u6 (Yy u7 (Yy u8 (Yy u9 (Yy v1 (Yy v2 (Yy v3 (Yy v4 (Yy v5 (Yy v6 (Yy f1 (Yy k1 (Yy k2 (Yy h1 (Yy h2 d2)))))))))))))))))))))))))))))))))))))))) ?_
  refine ⟨[iD (i+1:Nat),.any,.any,.any,.any,.any,.any,.any,.any,.any,.any,.any,.any],⟨(bc,92,cliD ⟨c.pg,c.wd,c.head,c.last,c.knows,c.head,x.head,true⟩)::S.bk,S.ow⟩,?_,by simp only [go_sem,Int.reduceEq,Int.reduceLT,Int.reduceBEq,Int.reduceBNe,Int.reduceNe,Nat.reduceLeDiff,Nat.reduceAdd,Nat.reduceSub,Nat.reduceLT,Nat.reduceEqDiff,Nat.reduceBEq,Int.reduceLE,Int.reduceToNat,k1,k2,h1,h2,d2];exact (Sto.Sub.refl _).cons.cons.cons.cons.cons.cons.cons,⟨i+1,⟨c.pg,c.wd,c.head,c.last,c.knows,c.head,x.head,true⟩,rfl,rfl,by omega,hc'⟩,?_⟩
  ·exact wK
  ·exact mE
 ·cases hk:c.knows with
  | false=>
   have hf:c.forked=false:=by
    cases q:c.forked with
    | false=>rfl
    | true=>exact absurd (hc.fk q).1 (by rw [hk];decide)
   refine Wk (Yy k_b8 (Yy k_b9 (Yy k_b10 (Yy k_b12 (Yy k_b15 (Yy k_b16 (Yy k_b18 (Yy n1 (Yy n2 (Yy n3 (Yy n4 (Yy n5 (Yy n6 (Yy n7 (Yy n8 (Yy n9 (Yy m1 (Yy m2 (Yy m3 (Yy m4 (Yy u1 (Yy u2 (Yy u3 (Yy u4 (Yy u5 (Yy u6 (Yy u7 (Yy u8 (Yy u9 (Yy v1 (Yy v2 (Yy v3 (Yy v4 (Yy v5 (Yy v6 (Yy f1 (Yy hk (Yy hf (Yy h1 h2))))))))))))))))))))))))))))))))))))))) ?_
   refine ⟨[iD (i+1:Nat),.any,.any,.any,.any,.any,.any,.any,.any,.any,.any,.any,.any],⟨(bc,92,cliD ⟨c.pg,c.wd,x.head,x.entry,true,c.one,c.two,c.forked⟩)::S.bk,S.ow⟩,?_,by simp only [go_sem,Int.reduceEq,Int.reduceLT,Int.reduceBEq,Int.reduceBNe,Int.reduceNe,Nat.reduceLeDiff,Nat.reduceAdd,Nat.reduceSub,Nat.reduceLT,Nat.reduceEqDiff,Nat.reduceBEq,Int.reduceLE,Int.reduceToNat,hk,hf,h1,h2];exact (Sto.Sub.refl _).cons.cons.cons.cons.cons.cons.cons,⟨i+1,⟨c.pg,c.wd,x.head,x.entry,true,c.one,c.two,c.forked⟩,rfl,rfl,by omega,hc'⟩,?_⟩
   ·exact wK
   ·exact mE
  | true=>
   have d2:decide ((x.head.size:Int)<c.head.size)=false:=decide_eq_false (by rcases k3 hk with q | q <;> omega)
   cases hf:c.forked with
   | true=>
    have hF:=(hc.fk hf).2
    have cF:=fun S=>aFork pg wid c.one c.two S
    rw [hF] at cF
    rcases k3 hk with q | ⟨q1,q2⟩
    ·have q3:((x.head.size:Int) == c.head.size)=false:=by rw [beq_eq_false_iff_ne];omega
     refine Wk (Yy k_b8 (Yy k_b9 (Yy k_b10 (Yy k_b12 (Yy k_b15 (Yy k_b16 (Yy k_b18 (Yy n1 (Yy n2 (Yy n3 (Yy n4 (Yy n5 (Yy n6 (Yy n7 (Yy n8 (Yy n9 (Yy m1 (Yy m2 (Yy m3 (Yy m4 (Yy u1 (Yy u2 (Yy u3 (Yy u4 (Yy u5 (Yy u6 (Yy u7 (Yy u8 (Yy u9 (Yy v1 (Yy v2 (Yy v3 (Yy v4 (Yy v5 (Yy v6 (Yy f1 (Yy hk (Yy hf (Yy h1 (Yy h2 (Yy d2 q3))))))))))))))))))))))))))))))))))))))))) ?_
     refine cQ (cF _) ?_
     refine Wk (Yy k_b8 (Yy k_b9 (Yy k_b10 (Yy k_b12 (Yy k_b15 (Yy k_b16 (Yy k_b18 (Yy n1 (Yy n2 (Yy n3 (Yy n4 (Yy n5 (Yy n6 (Yy n7 (Yy n8 (Yy n9 (Yy m1 (Yy m2 (Yy m3 (Yy m4 (Yy u1 (Yy u2 (Yy u3 (Yy u4 (Yy u5 (Yy u6 (Yy u7 (Yy u8 (Yy u9 (Yy v1 (Yy v2 (Yy v3 (Yy v4 (Yy v5 (Yy v6 (Yy f1 (Yy hk (Yy hf (Yy h1 (Yy h2 (Yy d2 q3))))))))))))))))))))))))))))))))))))))))) ?_
     refine ⟨[iD (i+1:Nat),.any,.any,.any,.any,.any,.any,.any,.any,.any,.any,.any,.any],⟨(bc,92,cliD ⟨c.pg,c.wd,x.head,x.entry,true,c.one,c.two,c.forked⟩)::S.bk,S.ow⟩,?_,by simp only [go_sem,Int.reduceEq,Int.reduceLT,Int.reduceBEq,Int.reduceBNe,Int.reduceNe,Nat.reduceLeDiff,Nat.reduceAdd,Nat.reduceSub,Nat.reduceLT,Nat.reduceEqDiff,Nat.reduceBEq,Int.reduceLE,Int.reduceToNat,hk,hf,h1,h2,d2,q3];exact (Sto.Sub.refl _).cons.cons.cons.cons.cons.cons.cons,⟨i+1,⟨c.pg,c.wd,x.head,x.entry,true,c.one,c.two,c.forked⟩,rfl,rfl,by omega,hc'⟩,?_⟩
     ·exact wK
     ·exact mE
    ·have q3:((x.head.size:Int) == c.head.size)=true:=by rw [beq_iff_eq];omega
     refine Wk (Yy k_b8 (Yy k_b9 (Yy k_b10 (Yy k_b12 (Yy k_b15 (Yy k_b16 (Yy k_b18 (Yy n1 (Yy n2 (Yy n3 (Yy n4 (Yy n5 (Yy n6 (Yy n7 (Yy n8 (Yy n9 (Yy m1 (Yy m2 (Yy m3 (Yy m4 (Yy u1 (Yy u2 (Yy u3 (Yy u4 (Yy u5 (Yy u6 (Yy u7 (Yy u8 (Yy u9 (Yy v1 (Yy v2 (Yy v3 (Yy v4 (Yy v5 (Yy v6 (Yy f1 (Yy hk (Yy hf (Yy h1 (Yy h2 (Yy d2 (Yy q3 q2)))))))))))))))))))))))))))))))))))))))))) ?_
     refine cQ (cF _) ?_
     refine Wk (Yy k_b8 (Yy k_b9 (Yy k_b10 (Yy k_b12 (Yy k_b15 (Yy k_b16 (Yy k_b18 (Yy n1 (Yy n2 (Yy n3 (Yy n4 (Yy n5 (Yy n6 (Yy n7 (Yy n8 (Yy n9 (Yy m1 (Yy m2 (Yy m3 (Yy m4 (Yy u1 (Yy u2 (Yy u3 (Yy u4 (Yy u5 (Yy u6 (Yy u7 (Yy u8 (Yy u9 (Yy v1 (Yy v2 (Yy v3 (Yy v4 (Yy v5 (Yy v6 (Yy f1 (Yy hk (Yy hf (Yy h1 (Yy h2 (Yy d2 (Yy q3 q2)))))))))))))))))))))))))))))))))))))))))) ?_
     refine ⟨[iD (i+1:Nat),.any,.any,.any,.any,.any,.any,.any,.any,.any,.any,.any,.any],⟨(bc,92,cliD ⟨c.pg,c.wd,x.head,x.entry,true,c.one,c.two,c.forked⟩)::S.bk,S.ow⟩,?_,by simp only [go_sem,Int.reduceEq,Int.reduceLT,Int.reduceBEq,Int.reduceBNe,Int.reduceNe,Nat.reduceLeDiff,Nat.reduceAdd,Nat.reduceSub,Nat.reduceLT,Nat.reduceEqDiff,Nat.reduceBEq,Int.reduceLE,Int.reduceToNat,hk,hf,h1,h2,d2,q3,q2];exact (Sto.Sub.refl _).cons.cons.cons.cons.cons.cons.cons,⟨i+1,⟨c.pg,c.wd,x.head,x.entry,true,c.one,c.two,c.forked⟩,rfl,rfl,by omega,hc'⟩,?_⟩
     ·exact wK
     ·exact mE
   | false=>
    rcases k3 hk with q | ⟨q1,q2⟩
    ·have q3:((x.head.size:Int) == c.head.size)=false:=by rw [beq_eq_false_iff_ne];omega
     refine Wk (Yy k_b8 (Yy k_b9 (Yy k_b10 (Yy k_b12 (Yy k_b15 (Yy k_b16 (Yy k_b18 (Yy n1 (Yy n2 (Yy n3 (Yy n4 (Yy n5 (Yy n6 (Yy n7 (Yy n8 (Yy n9 (Yy m1 (Yy m2 (Yy m3 (Yy m4 (Yy u1 (Yy u2 (Yy u3 (Yy u4 (Yy u5 (Yy u6 (Yy u7 (Yy u8 (Yy u9 (Yy v1 (Yy v2 (Yy v3 (Yy v4 (Yy v5 (Yy v6 (Yy f1 (Yy hk (Yy hf (Yy h1 (Yy h2 (Yy d2 q3))))))))))))))))))))))))))))))))))))))))) ?_
     refine ⟨[iD (i+1:Nat),.any,.any,.any,.any,.any,.any,.any,.any,.any,.any,.any,.any],⟨(bc,92,cliD ⟨c.pg,c.wd,x.head,x.entry,true,c.one,c.two,c.forked⟩)::S.bk,S.ow⟩,?_,by simp only [go_sem,Int.reduceEq,Int.reduceLT,Int.reduceBEq,Int.reduceBNe,Int.reduceNe,Nat.reduceLeDiff,Nat.reduceAdd,Nat.reduceSub,Nat.reduceLT,Nat.reduceEqDiff,Nat.reduceBEq,Int.reduceLE,Int.reduceToNat,hk,hf,h1,h2,d2,q3];exact (Sto.Sub.refl _).cons.cons.cons.cons.cons.cons.cons,⟨i+1,⟨c.pg,c.wd,x.head,x.entry,true,c.one,c.two,c.forked⟩,rfl,rfl,by omega,hc'⟩,?_⟩
     ·exact wK
     ·exact mE
    ·have q3:((x.head.size:Int) == c.head.size)=true:=by rw [beq_iff_eq];omega
     refine Wk (Yy k_b8 (Yy k_b9 (Yy k_b10 (Yy k_b12 (Yy k_b15 (Yy k_b16 (Yy k_b18 (Yy n1 (Yy n2 (Yy n3 (Yy n4 (Yy n5 (Yy n6 (Yy n7 (Yy n8 (Yy n9 (Yy m1 (Yy m2 (Yy m3 (Yy m4 (Yy u1 (Yy u2 (Yy u3 (Yy u4 (Yy u5 (Yy u6 (Yy u7 (Yy u8 (Yy u9 (Yy v1 (Yy v2 (Yy v3 (Yy v4 (Yy v5 (Yy v6 (Yy f1 (Yy hk (Yy hf (Yy h1 (Yy h2 (Yy d2 (Yy q3 q2)))))))))))))))))))))))))))))))))))))))))) ?_
     refine ⟨[iD (i+1:Nat),.any,.any,.any,.any,.any,.any,.any,.any,.any,.any,.any,.any],⟨(bc,92,cliD ⟨c.pg,c.wd,x.head,x.entry,true,c.one,c.two,c.forked⟩)::S.bk,S.ow⟩,?_,by simp only [go_sem,Int.reduceEq,Int.reduceLT,Int.reduceBEq,Int.reduceBNe,Int.reduceNe,Nat.reduceLeDiff,Nat.reduceAdd,Nat.reduceSub,Nat.reduceLT,Nat.reduceEqDiff,Nat.reduceBEq,Int.reduceLE,Int.reduceToNat,hk,hf,h1,h2,d2,q3,q2];exact (Sto.Sub.refl _).cons.cons.cons.cons.cons.cons.cons,⟨i+1,⟨c.pg,c.wd,x.head,x.entry,true,c.one,c.two,c.forked⟩,rfl,rfl,by omega,hc'⟩,?_⟩
     ·exact wK
     ·exact mE

end Go.Proofs.YtgjaaffheanobaaGreat