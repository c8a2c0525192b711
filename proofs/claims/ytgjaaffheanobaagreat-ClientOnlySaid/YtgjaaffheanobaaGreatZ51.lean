/- A client learns a head (values without addresses). -/
import Derived.Test.YtgjaaffheanobaaGreatZ49
namespace Go.Proofs.YtgjaaffheanobaaGreat
set_option linter.unusedVariables false
set_option linter.unusedSimpArgs false
open Go Go.RowKit

def learnS (c:Cl) (h:Hd) (l:En) (trail since:List Dg):Int×Cl:=
 if h.size=0∨fitB c.wd h.log=false∨(leafC c.pg c.wd l).2=false∨l.ver≠h.size - 1 then (2,c)
 else if c.knows=true∧h.size<c.head.size then (212,c)
 else if c.knows=true∧h.size=c.head.size∧h.log≠c.head.log then (211,if c.forked=true then c else { c with one:=c.head,two:=h,forked:=true })
 else if holdsS c.wd h (h.size - 1) (leafC c.pg c.wd l).1 trail=false then (210,c)
 else if (c.knows=true∧extendsS c.wd c.head h since=false)∨(c.knows=false∧0<since.length) then (210,c)
 else (0,{ c with head:=h,last:=l,knows:=true })
structure Hd.Ok (h:Hd):Prop where
 s:h.size<18446744073709551616
theorem CliAt.cons {b b2:Nat} {c:Cl} {t:TypeId} {d:D} {bk:List (Nat×TypeId×D)} {ow:List (Nat×Nat)} (h:getM bk b=some (92,cliD c)) (hn:¬ b=b2):CliAt ⟨(b2,t,d)::bk,ow⟩ b c:=by
 show getM ((b2,_,_)::bk) b=_
 rw [getM_cons,if_neg hn];exact h
set_option maxHeartbeats 20000000 in set_option maxRecDepth 100000 in
theorem aLearn (b:Nat) (c:Cl) (hd:Hd) (e:En) (tg tg':Tag) (trail since:List Dg) (S:Sto) (h:CliAt S b c) (hp:(c.pg == 0)=false) (he:e.Ok) (hh:hd.Ok) (hc:c.head.Ok) (ht:trail.length≤140737488355328) (hs:since.length≤140737488355328) :
  ACalls Tryz.prog 16 [pD b,hdD hd,enD e,.sl tg (trail.map .dg),.sl tg' (since.map .dg)] S (RetQ (iD (learnS c hd e trail since).1) ⟨setM S.bk b (cliD (learnS c hd e trail since).2),S.ow⟩):=by
 have hsame:(⟨setM S.bk b (cliD c),S.ow⟩:Sto)=S:=by
  have:setM S.bk b (cliD c)=S.bk:=setM_same h
  rw [this]
 have c1:∀ S,CliAt S b c→(c.pg == 0)=false→ACalls Tryz.prog 38 [pD b] S (RetQ (bD true) S):=fun S h hp=>aThere b c S h hp
 have c2:∀ S,CliAt S b c→e.Ok→ACalls Tryz.prog 39 [pD b,enD e] S (RetQ (.tup [.dg (leafC c.pg c.wd e).1,bD (leafC c.pg c.wd e).2]) S):=fun S h he=>aLeafC b c e S h he
 have c3:=fun S=>aFits c.wd hd.log S
 have c4:∀ leaf S,ACalls Tryz.prog 40 [iD c.wd,hdD hd,uD (hd.size - 1:Nat),.dg leaf,.sl tg (trail.map .dg)] S (RetQ (bD (holdsS c.wd hd (hd.size - 1) leaf trail)) S):=fun leaf S=>aRHolds c.wd hd (hd.size - 1) leaf tg trail S (by have:=hh.s;omega) hh.s ht
 have c5:=fun S=>aExtends c.wd c.head hd tg' since S hc.s hh.s hs
 unfold learnS
 generalize leafC c.pg c.wd e=lf at c2 ⊢
 obtain ⟨leaf,lok⟩:=lf
 have c4:=c4 leaf
 have hsz:=hh.s
 obtain ⟨hs',hl⟩:=hd
 obtain ⟨ev,es,ec,en⟩:=e
 obtain ⟨pg,wd,⟨cs,cl⟩,⟨lv,ls,lc,ln⟩,kn,⟨o1,o2⟩,⟨t1,t2⟩,fk⟩:=c
 simp only at c2 c3 c4 c5 hsz ⊢
 have h0:getM S.bk b=some (92,cliD ⟨pg,wd,⟨cs,cl⟩,⟨lv,ls,lc,ln⟩,kn,⟨o1,o2⟩,⟨t1,t2⟩,fk⟩):=h
 generalize holdsS wd ⟨hs',hl⟩ (hs' - 1) leaf trail=ho at c4 ⊢
 generalize extendsS wd ⟨cs,cl⟩ ⟨hs',hl⟩ since=ex at c5 ⊢
 by_cases z:hs'=0
 ·rw [if_pos (.inl z)]
  have z1:((hs':Int) == 0)=true:=by rw [beq_iff_eq];omega
  refine acalls_of prg Tryz.func16 rfl (by kernel_rfl) (congrArg Array.toList Tryz.results16) Tryz.ntmps16 (fun B hB=>fA ?_)
  refine Wk Y0 ?_
  refine cQ (c1 _ h hp) ?_
  refine Wk Y0 ?_
  refine cQ (c2 _ h he) ?_
  refine Wk Y0 ?_
  refine aL fun b11 k_b11 o_b11=>?_
  have n1:¬ b=b11:=getM_ne h k_b11
  have n2:=nes n1
  refine Wk (Yy z1 (Yy h0 n1)) ?_
  rw [hsame]
  refine endq (S':=S) (sR (Yy n1 n2)) (by rfl) (Sto.Sub.refl _).cons
 have z1:((hs':Int) == 0)=false:=by rw [beq_eq_false_iff_ne];omega
 have f1:IntKind.u64.wrap ((hs':Int) - 1)=((hs' - 1:Nat):Int):=by rw [IntWalk.u64_in _ (by omega)];omega
 cases hf:fitB wd hl with
 | false=>
  rw [if_pos (.inr (.inl rfl))]
  rw [hf] at c3
  refine acalls_of prg Tryz.func16 rfl (by kernel_rfl) (congrArg Array.toList Tryz.results16) Tryz.ntmps16 (fun B hB=>fA ?_)
  refine Wk Y0 ?_
  refine cQ (c1 _ h hp) ?_
  refine Wk Y0 ?_
  refine cQ (c2 _ h he) ?_
  refine Wk Y0 ?_
  refine aL fun b11 k_b11 o_b11=>?_
  have n1:¬ b=b11:=getM_ne h k_b11
  have n2:=nes n1
  refine Wk (Yy z1 (Yy h0 n1)) ?_
  refine cQ (c3 _) ?_
  refine Wk Y0 ?_
  rw [hsame]
  refine endq (S':=S) (sR (Yy n1 n2)) (by rfl) (Sto.Sub.refl _).cons
 | true=>
 rw [hf] at c3
 cases lok with
 | false=>
  rw [if_pos (.inr (.inr (.inl rfl)))]
  refine acalls_of prg Tryz.func16 rfl (by kernel_rfl) (congrArg Array.toList Tryz.results16) Tryz.ntmps16 (fun B hB=>fA ?_)
  refine Wk Y0 ?_
  refine cQ (c1 _ h hp) ?_
  refine Wk Y0 ?_
  refine cQ (c2 _ h he) ?_
  refine Wk Y0 ?_
  refine aL fun b11 k_b11 o_b11=>?_
  have n1:¬ b=b11:=getM_ne h k_b11
  have n2:=nes n1
  refine Wk (Yy z1 (Yy h0 n1)) ?_
  refine cQ (c3 _) ?_
  refine Wk Y0 ?_
  rw [hsame]
  refine endq (S':=S) (sR (Yy n1 n2)) (by rfl) (Sto.Sub.refl _).cons
 | true=>
 by_cases hv:ev=hs' - 1
 case neg=>
  rw [if_pos (.inr (.inr (.inr hv)))]
  have z2:((ev:Int) != ((hs' - 1:Nat):Int))=true:=by rw [bne_iff_ne];omega
  refine acalls_of prg Tryz.func16 rfl (by kernel_rfl) (congrArg Array.toList Tryz.results16) Tryz.ntmps16 (fun B hB=>fA ?_)
  refine Wk Y0 ?_
  refine cQ (c1 _ h hp) ?_
  refine Wk Y0 ?_
  refine cQ (c2 _ h he) ?_
  refine Wk Y0 ?_
  refine aL fun b11 k_b11 o_b11=>?_
  have n1:¬ b=b11:=getM_ne h k_b11
  have n2:=nes n1
  refine Wk (Yy z1 (Yy h0 n1)) ?_
  refine cQ (c3 _) ?_
  refine Wk (Yy f1 z2) ?_
  rw [hsame]
  refine endq (S':=S) (sR (Yy n1 n2)) (by rfl) (Sto.Sub.refl _).cons
 have z2:((ev:Int) != ((hs' - 1:Nat):Int))=false:=by rw [bne_eq_false_iff_eq];omega
 rw [if_neg (fun q=>by rcases q with q | q | q | q <;> first | exact z q | cases q | exact q hv)]
 cases kn with
 | true=>
  by_cases h2:hs'<cs
  ·rw [if_pos ⟨rfl,h2⟩]
   have d2:decide ((hs':Int)<cs)=true:=decide_eq_true (by omega)
   refine acalls_of prg Tryz.func16 rfl (by kernel_rfl) (congrArg Array.toList Tryz.results16) Tryz.ntmps16 (fun B hB=>fA ?_)
   refine Wk Y0 ?_
   refine cQ (c1 _ h hp) ?_
   refine Wk Y0 ?_
   refine cQ (c2 _ h he) ?_
   refine Wk Y0 ?_
   refine aL fun b11 k_b11 o_b11=>?_
   have n1:¬ b=b11:=getM_ne h k_b11
   have n2:=nes n1
   refine Wk (Yy z1 (Yy h0 n1)) ?_
   refine cQ (c3 _) ?_
   refine Wk (Yy f1 (Yy z2 (Yy h0 (Yy n1 d2)))) ?_
   rw [hsame]
   refine endq (S':=S) (sR (Yy n1 n2)) (by rfl) (Sto.Sub.refl _).cons
  rw [if_neg (fun q=>h2 q.2)]
  have d2:decide ((hs':Int)<cs)=false:=decide_eq_false (by omega)
  by_cases h3:hs'=cs∧hl≠cl
  ·rw [if_pos ⟨rfl,h3⟩]
   have d3:((hs':Int) == cs)=true:=by rw [beq_iff_eq];omega
   have d4:decide (hl=cl)=false:=decide_eq_false h3.2
   cases fk with
   | true=>
    rw [if_pos rfl]
    refine acalls_of prg Tryz.func16 rfl (by kernel_rfl) (congrArg Array.toList Tryz.results16) Tryz.ntmps16 (fun B hB=>fA ?_)
    refine Wk Y0 ?_
    refine cQ (c1 _ h hp) ?_
    refine Wk Y0 ?_
    refine cQ (c2 _ h he) ?_
    refine Wk Y0 ?_
    refine aL fun b11 k_b11 o_b11=>?_
    have n1:¬ b=b11:=getM_ne h k_b11
    have n2:=nes n1
    refine Wk (Yy z1 (Yy h0 n1)) ?_
    refine cQ (c3 _) ?_
    refine Wk (Yy f1 (Yy z2 (Yy h0 (Yy n1 (Yy d2 (Yy d3 d4)))))) ?_
    rw [hsame]
    refine endq (S':=S) (sR (Yy n1 n2)) (by rfl) (Sto.Sub.refl _).cons
   | false=>
    rw [if_neg (by decide)]
    refine acalls_of prg Tryz.func16 rfl (by kernel_rfl) (congrArg Array.toList Tryz.results16) Tryz.ntmps16 (fun B hB=>fA ?_)
    refine Wk Y0 ?_
    refine cQ (c1 _ h hp) ?_
    refine Wk Y0 ?_
    refine cQ (c2 _ h he) ?_
    refine Wk Y0 ?_
    refine aL fun b11 k_b11 o_b11=>?_
    have n1:¬ b=b11:=getM_ne h k_b11
    have n2:=nes n1
    refine Wk (Yy z1 (Yy h0 n1)) ?_
    refine cQ (c3 _) ?_
    refine Wn (Yy f1 z2) ?_
    refine wk5 ?_
    refine Wn (Yy h0 (Yy n1 d2)) ?_
    refine wk5 ?_
    refine Wn (Yy h0 (Yy n1 (Yy d3 d4))) ?_
    have F:=(Yy h0 (Yy n1 n2))
    refine yz ?_
    refine yp 0 ?_
    refine yp 1 ?_
    refine yp 2 ?_
    refine yp 3 ?_
    refine yp 4 ?_
    refine yq 5 ?_
    refine yp 6 ?_
    refine yp 7 ?_
    refine yp 8 ?_
    refine yp 9 ?_
    refine ys 10 ?_
    refine yp 11 ?_
    refine yp 12 ?_
    refine ys 13 ?_
    refine ye ?_
    refine Wk (Yy h0 n1) ?_
    refine endq (S':=⟨setM S.bk b (cliD ⟨pg,wd,⟨cs,cl⟩,⟨lv,ls,lc,ln⟩,true,⟨cs,cl⟩,⟨hs',hl⟩,true⟩),S.ow⟩) (sR (Yy n1 n2)) (by rfl) ?_
    exact (Sto.Sub.refl _).cons
  rw [if_neg (fun q=>h3 ⟨q.2.1,q.2.2⟩)]
  by_cases h5:hs'=cs
  ·have h6:hl=cl:=Classical.byContradiction fun q=>h3 ⟨h5,q⟩
   have d3:((hs':Int) == cs)=true:=by rw [beq_iff_eq];omega
   have d4:decide (hl=cl)=true:=decide_eq_true h6
   cases ho with
   | false=>
    rw [if_pos rfl]
    refine acalls_of prg Tryz.func16 rfl (by kernel_rfl) (congrArg Array.toList Tryz.results16) Tryz.ntmps16 (fun B hB=>fA ?_)
    refine Wk Y0 ?_
    refine cQ (c1 _ h hp) ?_
    refine Wk Y0 ?_
    refine cQ (c2 _ h he) ?_
    refine Wk Y0 ?_
    refine aL fun b11 k_b11 o_b11=>?_
    have n1:¬ b=b11:=getM_ne h k_b11
    have n2:=nes n1
    refine Wk (Yy z1 (Yy h0 n1)) ?_
    refine cQ (c3 _) ?_
    refine Wk (Yy f1 z2) ?_
    refine Wk (Yy h0 (Yy n1 (Yy f1 (Yy d2 (Yy d3 d4))))) ?_
    refine cQ (c4 _) ?_
    refine Wk Y0 ?_
    rw [hsame]
    refine endq (S':=S) (sR (Yy n1 n2)) (by rfl) (Sto.Sub.refl _).cons
   | true=>
   rw [if_neg (by decide)]
   cases ex with
   | false=>
    rw [if_pos (.inl ⟨rfl,rfl⟩)]
    refine acalls_of prg Tryz.func16 rfl (by kernel_rfl) (congrArg Array.toList Tryz.results16) Tryz.ntmps16 (fun B hB=>fA ?_)
    refine Wk Y0 ?_
    refine cQ (c1 _ h hp) ?_
    refine Wk Y0 ?_
    refine cQ (c2 _ h he) ?_
    refine Wk Y0 ?_
    refine aL fun b11 k_b11 o_b11=>?_
    have n1:¬ b=b11:=getM_ne h k_b11
    have n2:=nes n1
    refine Wk (Yy z1 (Yy h0 n1)) ?_
    refine cQ (c3 _) ?_
    refine Wk (Yy f1 z2) ?_
    refine Wk (Yy h0 (Yy n1 (Yy f1 (Yy d2 (Yy d3 d4))))) ?_
    refine cQ (c4 _) ?_
    refine Wk (Yy h0 n1) ?_
    refine cQ (c5 _) ?_
    refine Wk Y0 ?_
    rw [hsame]
    refine endq (S':=S) (sR (Yy n1 n2)) (by rfl) (Sto.Sub.refl _).cons
   | true=>
    rw [if_neg (fun q=>by rcases q with q | q <;> first | cases q.2 | cases q.1)]
    refine acalls_of prg Tryz.func16 rfl (by kernel_rfl) (congrArg Array.toList Tryz.results16) Tryz.ntmps16 (fun B hB=>fA ?_)
    refine Wk Y0 ?_
    refine cQ (c1 _ h hp) ?_
    refine Wk Y0 ?_
    refine cQ (c2 _ h he) ?_
    refine Wk Y0 ?_
    refine aL fun b11 k_b11 o_b11=>?_
    have n1:¬ b=b11:=getM_ne h k_b11
    have n2:=nes n1
    refine Wk (Yy z1 (Yy h0 n1)) ?_
    refine cQ (c3 _) ?_
    refine Wk (Yy f1 z2) ?_
    refine Wk (Yy h0 (Yy n1 (Yy f1 (Yy d2 (Yy d3 d4))))) ?_
    refine cQ (c4 _) ?_
    refine Wk (Yy h0 n1) ?_
    refine cQ (c5 _) ?_
    refine Wn (Yy h0 n1) ?_
    have F:=(Yy h0 (Yy n1 n2))
    refine yz ?_
    refine yp 0 ?_
    refine yp 1 ?_
    refine yp 2 ?_
    refine yp 3 ?_
    refine yp 4 ?_
    refine yp 5 ?_
    refine yp 6 ?_
    refine ys 7 ?_
    refine yp 8 ?_
    refine yp 9 ?_
    refine ys 10 ?_
    refine yp 11 ?_
    refine yp 12 ?_
    refine ys 13 ?_
    refine ye ?_
    refine Wk (Yy h0 n1) ?_
    refine endq (S':=⟨setM S.bk b (cliD ⟨pg,wd,⟨hs',hl⟩,⟨ev,es,ec,en⟩,true,⟨o1,o2⟩,⟨t1,t2⟩,fk⟩),S.ow⟩) (sR (Yy n1 n2)) (by rfl) ?_
    exact (Sto.Sub.refl _).cons
  ·have d3:((hs':Int) == cs)=false:=by rw [beq_eq_false_iff_ne];omega
   cases ho with
   | false=>
    rw [if_pos rfl]
    refine acalls_of prg Tryz.func16 rfl (by kernel_rfl) (congrArg Array.toList Tryz.results16) Tryz.ntmps16 (fun B hB=>fA ?_)
    refine Wk Y0 ?_
    refine cQ (c1 _ h hp) ?_
    refine Wk Y0 ?_
    refine cQ (c2 _ h he) ?_
    refine Wk Y0 ?_
    refine aL fun b11 k_b11 o_b11=>?_
    have n1:¬ b=b11:=getM_ne h k_b11
    have n2:=nes n1
    refine Wk (Yy z1 (Yy h0 n1)) ?_
    refine cQ (c3 _) ?_
    refine Wk (Yy f1 z2) ?_
    refine Wk (Yy h0 (Yy n1 (Yy f1 (Yy d2 d3)))) ?_
    refine cQ (c4 _) ?_
    refine Wk Y0 ?_
    rw [hsame]
    refine endq (S':=S) (sR (Yy n1 n2)) (by rfl) (Sto.Sub.refl _).cons
   | true=>
   rw [if_neg (by decide)]
   cases ex with
   | false=>
    rw [if_pos (.inl ⟨rfl,rfl⟩)]
    refine acalls_of prg Tryz.func16 rfl (by kernel_rfl) (congrArg Array.toList Tryz.results16) Tryz.ntmps16 (fun B hB=>fA ?_)
    refine Wk Y0 ?_
    refine cQ (c1 _ h hp) ?_
    refine Wk Y0 ?_
    refine cQ (c2 _ h he) ?_
    refine Wk Y0 ?_
    refine aL fun b11 k_b11 o_b11=>?_
    have n1:¬ b=b11:=getM_ne h k_b11
    have n2:=nes n1
    refine Wk (Yy z1 (Yy h0 n1)) ?_
    refine cQ (c3 _) ?_
    refine Wk (Yy f1 z2) ?_
    refine Wk (Yy h0 (Yy n1 (Yy f1 (Yy d2 d3)))) ?_
    refine cQ (c4 _) ?_
    refine Wk (Yy h0 n1) ?_
    refine cQ (c5 _) ?_
    refine Wk Y0 ?_
    rw [hsame]
    refine endq (S':=S) (sR (Yy n1 n2)) (by rfl) (Sto.Sub.refl _).cons
   | true=>
    rw [if_neg (fun q=>by rcases q with q | q <;> first | cases q.2 | cases q.1)]
    refine acalls_of prg Tryz.func16 rfl (by kernel_rfl) (congrArg Array.toList Tryz.results16) Tryz.ntmps16 (fun B hB=>fA ?_)
    refine Wk Y0 ?_
    refine cQ (c1 _ h hp) ?_
    refine Wk Y0 ?_
    refine cQ (c2 _ h he) ?_
    refine Wk Y0 ?_
    refine aL fun b11 k_b11 o_b11=>?_
    have n1:¬ b=b11:=getM_ne h k_b11
    have n2:=nes n1
    refine Wk (Yy z1 (Yy h0 n1)) ?_
    refine cQ (c3 _) ?_
    refine Wk (Yy f1 z2) ?_
    refine Wk (Yy h0 (Yy n1 (Yy f1 (Yy d2 d3)))) ?_
    refine cQ (c4 _) ?_
    refine Wk (Yy h0 n1) ?_
    refine cQ (c5 _) ?_
    refine Wn (Yy h0 n1) ?_
    have F:=(Yy h0 (Yy n1 n2))
    refine yz ?_
    refine yp 0 ?_
    refine yp 1 ?_
    refine yp 2 ?_
    refine yp 3 ?_
    refine yp 4 ?_
    refine yp 5 ?_
    refine yp 6 ?_
    refine ys 7 ?_
    refine yp 8 ?_
    refine yp 9 ?_
    refine ys 10 ?_
    refine yp 11 ?_
    refine yp 12 ?_
    refine ys 13 ?_
    refine ye ?_
    refine Wk (Yy h0 n1) ?_
    refine endq (S':=⟨setM S.bk b (cliD ⟨pg,wd,⟨hs',hl⟩,⟨ev,es,ec,en⟩,true,⟨o1,o2⟩,⟨t1,t2⟩,fk⟩),S.ow⟩) (sR (Yy n1 n2)) (by rfl) ?_
    exact (Sto.Sub.refl _).cons
 | false=>
  rw [if_neg (fun q=>by cases q.1),if_neg (fun q=>by cases q.1)]
  cases ho with
  | false=>
   rw [if_pos rfl]
   refine acalls_of prg Tryz.func16 rfl (by kernel_rfl) (congrArg Array.toList Tryz.results16) Tryz.ntmps16 (fun B hB=>fA ?_)
   refine Wk Y0 ?_
   refine cQ (c1 _ h hp) ?_
   refine Wk Y0 ?_
   refine cQ (c2 _ h he) ?_
   refine Wk Y0 ?_
   refine aL fun b11 k_b11 o_b11=>?_
   have n1:¬ b=b11:=getM_ne h k_b11
   have n2:=nes n1
   refine Wk (Yy z1 (Yy h0 n1)) ?_
   refine cQ (c3 _) ?_
   refine Wk (Yy f1 z2) ?_
   refine Wk (Yy h0 (Yy n1 f1)) ?_
   refine cQ (c4 _) ?_
   refine Wk Y0 ?_
   rw [hsame]
   refine endq (S':=S) (sR (Yy n1 n2)) (by rfl) (Sto.Sub.refl _).cons
  | true=>
  rw [if_neg (by decide)]
  by_cases hsl:0<since.length
  ·rw [if_pos (.inr ⟨rfl,hsl⟩)]
   have d7:decide ((since.length:Int) > 0)=true:=decide_eq_true (by omega)
   refine acalls_of prg Tryz.func16 rfl (by kernel_rfl) (congrArg Array.toList Tryz.results16) Tryz.ntmps16 (fun B hB=>fA ?_)
   refine Wk Y0 ?_
   refine cQ (c1 _ h hp) ?_
   refine Wk Y0 ?_
   refine cQ (c2 _ h he) ?_
   refine Wk Y0 ?_
   refine aL fun b11 k_b11 o_b11=>?_
   have n1:¬ b=b11:=getM_ne h k_b11
   have n2:=nes n1
   refine Wk (Yy z1 (Yy h0 n1)) ?_
   refine cQ (c3 _) ?_
   refine Wk (Yy f1 z2) ?_
   refine Wk (Yy h0 (Yy n1 f1)) ?_
   refine cQ (c4 _) ?_
   refine Wk (Yy h0 (Yy n1 d7)) ?_
   rw [hsame]
   refine endq (S':=S) (sR (Yy n1 n2)) (by rfl) (Sto.Sub.refl _).cons
  ·rw [if_neg (fun q=>by rcases q with q | q;cases q.1;exact hsl q.2)]
   have d7:decide ((since.length:Int) > 0)=false:=decide_eq_false (by omega)
   refine acalls_of prg Tryz.func16 rfl (by kernel_rfl) (congrArg Array.toList Tryz.results16) Tryz.ntmps16 (fun B hB=>fA ?_)
   refine Wk Y0 ?_
   refine cQ (c1 _ h hp) ?_
   refine Wk Y0 ?_
   refine cQ (c2 _ h he) ?_
   refine Wk Y0 ?_
   refine aL fun b11 k_b11 o_b11=>?_
   have n1:¬ b=b11:=getM_ne h k_b11
   have n2:=nes n1
   refine Wk (Yy z1 (Yy h0 n1)) ?_
   refine cQ (c3 _) ?_
   refine Wk (Yy f1 z2) ?_
   refine Wk (Yy h0 (Yy n1 f1)) ?_
   refine cQ (c4 _) ?_
   refine Wn (Yy h0 n1) ?_
   refine wk5 ?_
   refine Wn (Yy h0 (Yy n1 d7)) ?_
   have F:=(Yy h0 (Yy n1 n2))
   refine yz ?_
   refine yp 0 ?_
   refine yp 1 ?_
   refine yp 2 ?_
   refine yp 3 ?_
   refine yp 4 ?_
   refine yp 5 ?_
   refine yp 6 ?_
   refine ys 7 ?_
   refine yp 8 ?_
   refine yp 9 ?_
   refine ys 10 ?_
   refine yp 11 ?_
   refine yp 12 ?_
   refine ys 13 ?_
   refine ye ?_
   refine Wk (Yy h0 n1) ?_
   refine endq (S':=⟨setM S.bk b (cliD ⟨pg,wd,⟨hs',hl⟩,⟨ev,es,ec,en⟩,true,⟨o1,o2⟩,⟨t1,t2⟩,fk⟩),S.ow⟩) (sR (Yy n1 n2)) (by rfl) ?_
   exact (Sto.Sub.refl _).cons

set_option maxHeartbeats 1000000
set_option maxRecDepth 100000

def pastS (c:Cl) (n:Nat) (e:En) (trail:List Dg):Int:=
 if c.knows=false then 3
 else if (leafC c.pg c.wd e).2=false∨e.ver≠n then 2
 else if holdsS c.wd c.head n (leafC c.pg c.wd e).1 trail=false then 210 else 0
theorem aPast (b:Nat) (c:Cl) (n:Nat) (e:En) (tg:Tag) (trail:List Dg) (S:Sto) (h:CliAt S b c) (hp:(c.pg == 0)=false) (he:e.Ok) (hn:n<18446744073709551616) (hc:c.head.Ok) (ht:trail.length≤140737488355328) :
  ACalls Tryz.prog 21 [pD b,uD n,enD e,.sl tg (trail.map .dg)] S (RetQ (iD (pastS c n e trail)) S):=by
 have c1:∀ S,CliAt S b c→ACalls Tryz.prog 50 [pD b] S (RetQ (iD (if c.knows then 0 else 3)) S):=fun S h=>aState b c S h hp
 have c2:∀ S,CliAt S b c→ACalls Tryz.prog 39 [pD b,enD e] S (RetQ (.tup [.dg (leafC c.pg c.wd e).1,bD (leafC c.pg c.wd e).2]) S):=fun S h=>aLeafC b c e S h he
 have c4:∀ leaf S,ACalls Tryz.prog 40 [iD c.wd,hdD c.head,uD n,.dg leaf,.sl tg (trail.map .dg)] S (RetQ (bD (holdsS c.wd c.head n leaf trail)) S):=fun leaf S=>aRHolds c.wd c.head n leaf tg trail S hn hc.s ht
 unfold pastS
 generalize leafC c.pg c.wd e=lf at c2 ⊢
 obtain ⟨leaf,lok⟩:=lf
 have c4:=c4 leaf
 have h0:getM S.bk b=some (92,cliD c):=h
 obtain ⟨ev,es,ec,en⟩:=e
 simp only at c2 c4 ⊢
 generalize holdsS c.wd c.head n leaf trail=ho at c4 ⊢
 cases hk:c.knows with
 | false=>
  rw [if_pos rfl]
  rw [hk] at c1
  have c1:∀ S,CliAt S b c→ACalls Tryz.prog 50 [pD b] S (RetQ (iD 3) S):=c1
  refine acalls_of prg Tryz.func21 rfl (by kernel_rfl) (congrArg Array.toList Tryz.results21) Tryz.ntmps21 (fun B hB=>fA ?_)
  refine Wk Y0 ?_
  refine cQ (c1 _ h) ?_
  refine Wk Y0 ?_
  exact rE
 | true=>
 rw [if_neg (by decide)]
 rw [hk] at c1
 have c1:∀ S,CliAt S b c→ACalls Tryz.prog 50 [pD b] S (RetQ (iD 0) S):=c1
 cases lok with
 | false=>
  rw [if_pos (.inl rfl)]
  refine acalls_of prg Tryz.func21 rfl (by kernel_rfl) (congrArg Array.toList Tryz.results21) Tryz.ntmps21 (fun B hB=>fA ?_)
  refine Wk Y0 ?_
  refine cQ (c1 _ h) ?_
  refine Wk Y0 ?_
  refine cQ (c2 _ h) ?_
  refine Wk Y0 ?_
  refine aL fun b10 k_b10 o_b10=>?_
  refine Wk Y0 ?_
  refine endq (S':=S) (sR Y0) (by rfl) (Sto.Sub.refl _).cons
 | true=>
 by_cases hv:ev=n
 case neg=>
  rw [if_pos (.inr hv)]
  have z2:((ev:Int) != (n:Int))=true:=by rw [bne_iff_ne];omega
  refine acalls_of prg Tryz.func21 rfl (by kernel_rfl) (congrArg Array.toList Tryz.results21) Tryz.ntmps21 (fun B hB=>fA ?_)
  refine Wk Y0 ?_
  refine cQ (c1 _ h) ?_
  refine Wk Y0 ?_
  refine cQ (c2 _ h) ?_
  refine Wk Y0 ?_
  refine aL fun b10 k_b10 o_b10=>?_
  refine Wk z2 ?_
  refine endq (S':=S) (sR Y0) (by rfl) (Sto.Sub.refl _).cons
 rw [if_neg (fun q=>by rcases q with q | q;cases q;exact q hv)]
 have z2:((ev:Int) != (n:Int))=false:=by rw [bne_eq_false_iff_eq];omega
 cases ho with
 | false=>
  rw [if_pos rfl]
  refine acalls_of prg Tryz.func21 rfl (by kernel_rfl) (congrArg Array.toList Tryz.results21) Tryz.ntmps21 (fun B hB=>fA ?_)
  refine Wk Y0 ?_
  refine cQ (c1 _ h) ?_
  refine Wk Y0 ?_
  refine cQ (c2 _ h) ?_
  refine Wk Y0 ?_
  refine aL fun b10 k_b10 o_b10=>?_
  have n1:¬ b=b10:=getM_ne h0 k_b10
  refine Wk (Yy z2 (Yy n1 h0)) ?_
  refine cQ (c4 _) ?_
  refine Wk Y0 ?_
  refine endq (S':=S) (sR Y0) (by rfl) (Sto.Sub.refl _).cons
 | true=>
  rw [if_neg (by decide)]
  refine acalls_of prg Tryz.func21 rfl (by kernel_rfl) (congrArg Array.toList Tryz.results21) Tryz.ntmps21 (fun B hB=>fA ?_)
  refine Wk Y0 ?_
  refine cQ (c1 _ h) ?_
  refine Wk Y0 ?_
  refine cQ (c2 _ h) ?_
  refine Wk Y0 ?_
  refine aL fun b10 k_b10 o_b10=>?_
  have n1:¬ b=b10:=getM_ne h0 k_b10
  refine Wk (Yy z2 (Yy n1 h0)) ?_
  refine cQ (c4 _) ?_
  refine Wk Y0 ?_
  refine endq (S':=S) (sR Y0) (by rfl) (Sto.Sub.refl _).cons
def forkB (pg wd:Int) (a b:Hd):Bool:=rightB pg wd && fitB wd a.log && fitB wd b.log && decide (a.size=b.size) && decide (a.size≠0) && decide (a.log≠b.log)
@[go_sem] def evD (a b:Hd):D:=.agg [hdD a,hdD b]
theorem aFork (pg wd:Int) (a b:Hd) (S:Sto):ACalls Tryz.prog 10 [frD pg wd,evD a b] S (RetQ (bD (forkB pg wd a b)) S):=by
 obtain ⟨na,al⟩:=a
 obtain ⟨nb,bl⟩:=b
 have c1:=fun S=>aNRight pg wd S
 have c2:=fun S=>aFits wd al S
 have c3:=fun S=>aFits wd bl S
 unfold forkB
 simp only
 cases h1:rightB pg wd with
 | false=>
  rw [h1] at c1
  simp only [Bool.false_and]
  refine acalls_of prg Tryz.func10 rfl (by kernel_rfl) (congrArg Array.toList Tryz.results10) Tryz.ntmps10 (fun B hB=>fA ?_)
  refine Wk Y0 ?_
  refine cQ (c1 _) ?_
  refine Wk Y0 ?_
  exact rE
 | true=>
 rw [h1] at c1
 cases h2:fitB wd al with
 | false=>
  rw [h2] at c2
  simp only [Bool.false_and,Bool.and_false]
  refine acalls_of prg Tryz.func10 rfl (by kernel_rfl) (congrArg Array.toList Tryz.results10) Tryz.ntmps10 (fun B hB=>fA ?_)
  refine Wk Y0 ?_
  refine cQ (c1 _) ?_
  refine Wk Y0 ?_
  refine cQ (c2 _) ?_
  refine Wk Y0 ?_
  exact rE
 | true=>
 rw [h2] at c2
 cases h3:fitB wd bl with
 | false=>
  rw [h3] at c3
  simp only [Bool.false_and,Bool.and_false]
  refine acalls_of prg Tryz.func10 rfl (by kernel_rfl) (congrArg Array.toList Tryz.results10) Tryz.ntmps10 (fun B hB=>fA ?_)
  refine Wk Y0 ?_
  refine cQ (c1 _) ?_
  refine Wk Y0 ?_
  refine cQ (c2 _) ?_
  refine Wk Y0 ?_
  refine cQ (c3 _) ?_
  refine Wk Y0 ?_
  exact rE
 | true=>
 rw [h3] at c3
 simp only [Bool.true_and]
 by_cases h4:na=nb
 case neg=>
  have z4:((na:Int) == nb)=false:=by rw [beq_eq_false_iff_ne];omega
  rw [decide_eq_false h4]
  simp only [Bool.false_and]
  refine acalls_of prg Tryz.func10 rfl (by kernel_rfl) (congrArg Array.toList Tryz.results10) Tryz.ntmps10 (fun B hB=>fA ?_)
  refine Wk Y0 ?_
  refine cQ (c1 _) ?_
  refine Wk Y0 ?_
  refine cQ (c2 _) ?_
  refine Wk Y0 ?_
  refine cQ (c3 _) ?_
  refine Wk z4 ?_
  exact rE
 have z4:((na:Int) == nb)=true:=by rw [beq_iff_eq];omega
 rw [decide_eq_true h4]
 simp only [Bool.true_and]
 by_cases h5:na=0
 ·have z5:((na:Int) != 0)=false:=by rw [bne_eq_false_iff_eq];omega
  rw [decide_eq_false (fun q=>q h5)]
  simp only [Bool.false_and]
  refine acalls_of prg Tryz.func10 rfl (by kernel_rfl) (congrArg Array.toList Tryz.results10) Tryz.ntmps10 (fun B hB=>fA ?_)
  refine Wk Y0 ?_
  refine cQ (c1 _) ?_
  refine Wk Y0 ?_
  refine cQ (c2 _) ?_
  refine Wk Y0 ?_
  refine cQ (c3 _) ?_
  refine Wk (Yy z4 z5) ?_
  exact rE
 have z5:((na:Int) != 0)=true:=by rw [bne_iff_ne];omega
 rw [decide_eq_true h5]
 simp only [Bool.true_and]
 have e6:decide (al≠bl)=!decide (al=bl):=by simp
 rw [e6]
 refine acalls_of prg Tryz.func10 rfl (by kernel_rfl) (congrArg Array.toList Tryz.results10) Tryz.ntmps10 (fun B hB=>fA ?_)
 refine Wk Y0 ?_
 refine cQ (c1 _) ?_
 refine Wk Y0 ?_
 refine cQ (c2 _) ?_
 refine Wk Y0 ?_
 refine cQ (c3 _) ?_
 refine Wk (Yy z4 z5) ?_
 exact rE


@[go_sem] def logD (wid:Int) (tg:Tag) (leaves:List Dg) (bm:Nat):D:=.agg [iD wid,.sl tg (leaves.map .dg),.v (.map (some bm))]
theorem aOff (bl bm:Nat) (wid:Int) (tg:Tag) (leaves:List Dg) (S:Sto) (h:getM S.bk bl=some (144,logD wid tg leaves bm)) (hw:(wid == 0)=false):ACalls Tryz.prog 45 [pD bl] S (RetQ (bD false) S):=by
 refine acalls_of prg Tryz.func45 rfl (by kernel_rfl) (congrArg Array.toList Tryz.results45) Tryz.ntmps45 (fun B hB=>fA ?_)
 refine Wk (Yy h hw) ?_
 exact rE
theorem aAdd (bl bm:Nat) (wid:Int) (tg tt:Tag) (leaves:List Dg) (texts:List Bs) (ow0:List (Nat×Nat)) (S:Sto) (h:getM S.bk bl=some (144,logD wid tg leaves bm)) (hg:G1 ow0 S.ow 26 32 tg (leaves.map .dg))
  (hw:wideB wid=true) (hfew:leaves.length+texts.length≤1048576) (hts:∀ t∈texts,t.length≤100000000000) :
  ACalls Tryz.prog 77 [pD bl,.sl tt (texts.map sD)] S (fun e S'=>∃ d,e=.ret d∧(d=iD 0∧∃ (tg':Tag) (ow':List (Nat×Nat)),S'=⟨setM S.bk bl (logD wid tg' (leaves++texts.map (leafS wid)) bm),ow'⟩∧G1 ow0 ow' 26 32 tg' ((leaves++texts.map (leafS wid)).map .dg))):=by
 have hwi:1≤wid∧wid≤32:=by simpa [wideB] using hw
 have z0:(wid == 0)=false:=by rw [beq_eq_false_iff_ne];omega
 have c1:=aOff bl bm wid tg leaves S h z0
 have f0:IntKind.i64.wrap (1048576 - (leaves.length:Int))=((1048576 - leaves.length:Nat):Int):=by rw [IntWalk.i64_in _ (by omega)];omega
 have d0:decide ((texts.length:Int) > ((1048576 - leaves.length:Nat):Int))=false:=decide_eq_false (by omega)
 have hsm:∀ d,getM (setM S.bk bl d) bl=some (144,d):=fun d=>by rw [getM_setM,h];rfl
 refine acalls_of prg Tryz.func77 rfl (by kernel_rfl) (congrArg Array.toList Tryz.results77) Tryz.ntmps77 (fun B hB=>fA ?_)
 refine Wk Y0 ?_
 refine cQ (c1) ?_
 refine Wk (Yy h (Yy f0 d0)) ?_
 refine AW.loopS 23 [6,7,8,22] (fun xs S'=>∃ (i:Nat) (tg':Tag) (ow':List (Nat×Nat)),xs=[.any,.any,.any,iD i]∧S'=⟨setM S.bk bl (logD wid tg' (leaves++(texts.take i).map (leafS wid)) bm),ow'⟩∧i≤texts.length∧G1 ow0 ow' 26 32 tg' ((leaves++(texts.take i).map (leafS wid)).map .dg)) (fun xs _=>texts.length - nI (xs.getD 3 .any)) [.any,.any,.any,iD 0] S ?_ (Sto.Sub.refl _) ⟨0,tg,S.ow,rfl,?_,by omega,?_⟩ ?_
 ·exact wK
 ·rw [List.take_zero,List.map_nil,List.append_nil,setM_same h]
 ·rw [List.take_zero,List.map_nil,List.append_nil];exact hg
 rintro xs S' ⟨i,tg',ow',rfl,rfl,hi,hg'⟩
 refine fR ?_
 by_cases hlt:i<texts.length
 ·obtain ⟨x,hx⟩:∃ x,texts[i]?=some x:=⟨_,List.getElem?_eq_getElem hlt⟩
  have d1:decide ((i:Int)<texts.length)=true:=decide_eq_true (by omega)
  have gx:(texts.map sD)[i]?=some (sD x):=by rw [List.getElem?_map,hx];rfl
  have g0:(0:Int)≤i:=by omega
  have f1:IntKind.i64.wrap ((i:Int)+1)=((i+1:Nat):Int):=IntWalk.i64_in _ (by omega)
  have cL:=fun S=>aLeaf19 wid x S (hts x (List.mem_of_getElem? hx))
  have ht:texts.take (i+1)=texts.take i++[x]:=by rw [List.take_add_one,hx];rfl
  have hll:(leaves++(texts.take i).map (leafS wid)).length≤1048576:=by simp;omega
  generalize hD:leaves++(texts.take i).map (leafS wid)=L at hg' hll ⊢
  have hL2:leaves++(texts.take (i+1)).map (leafS wid)=L++[leafS wid x]:=by rw [ht,List.map_append,← List.append_assoc,hD];rfl
  have hs1:=hsm (logD wid tg' L bm)
  refine Wk (Yy d1 (Yy gx (Yy g0 (Yy Int.toNat_natCast h)))) ?_
  refine cQ (cL _) ?_
  refine Wk Y0 ?_
  refine aL fun b7 k_b7 o_b7=>?_
  have n1:¬ bl=b7:=getM_ne hs1 k_b7
  have n2:=nes n1
  refine Wn (Yy n1 (Yy n2 h)) ?_
  have F:=(Yy n1 (Yy n2 h))
  refine yz ?_
  refine yp 0 ?_
  refine yp 1 ?_
  refine yp 2 ?_
  refine yp 3 ?_
  refine yq 4 ?_
  refine yq 5 ?_
  refine yp 6 ?_
  refine ya 7 26 32 32 ?_ ?_ ?_ (fun g _ hgo=>?_)
  ·exact sz_map (f:=D.dg) (fun _=>rfl) (fun d hd=>by simp only [List.mem_singleton] at hd;subst hd;rfl)
  ·exact hg'.may
  ·rw [List.length_map];simp only [List.length_singleton];omega
  have hg3:=hg'.add (ns:=[.dg (leafS wid x)]) hgo
  have hmp:L.map D.dg++[.dg (leafS wid x)]=(L++[leafS wid x]).map D.dg:=by simp
  have hL3:leaves++(texts.take (i+1)).map (leafS wid)=L++[(digS wid eT [x]).1]:=hL2
  unfold leafS at hg3 hmp
  simp only [hmp] at hg3 ⊢
  generalize (g,((L++[(digS wid eT [x]).1]).map D.dg).length*32)::dropTok tg' ow'=ow2 at hg3 ⊢
  refine yp 8 ?_
  refine yp 9 ?_
  refine ys 10 ?_
  refine ye ?_
  refine Wk f1 ?_
  refine ⟨[.any,.any,.any,iD (i+1:Nat)],⟨setM S.bk bl (logD wid (.own g 26 32) (L++[(digS wid eT [x]).1]) bm),ow2⟩,?_,(Sto.Sub.refl _).cons,⟨i+1,_,ow2,rfl,by rw [hL3],by omega,by rw [hL3];exact hg3⟩,?_⟩
  ·exact wK
  ·exact mE
 obtain rfl:i=texts.length:=by omega
 have d1:decide ((texts.length:Int)<texts.length)=false:=decide_eq_false (by omega)
 rw [List.take_length] at hg' ⊢
 refine Wk d1 ?_
 refine endx (S':=⟨setM S.bk bl (logD wid tg' (leaves++texts.map (leafS wid)) bm),ow'⟩) (sR Y0) (by rfl) (Sto.Sub.refl _) ⟨rfl,tg',ow',rfl,hg'⟩
theorem aRNew (wid:Int) (tt:Tag) (texts:List Bs) (S:Sto) (hw:wideB wid=true) (hfew:texts.length≤1048576) (hts:∀ t∈texts,t.length≤100000000000) :
  ACalls Tryz.prog 42 [iD wid,.sl tt (texts.map sD)] S (fun e S'=>∃ d,e=.ret d∧∃ (bl bm:Nat) (tg:Tag) (ow:List (Nat×Nat)),d=.tup [pD bl,iD 0]∧¬ bl=bm∧bl ∉ S.bk.map (·.1)∧bm ∉ S.bk.map (·.1) ∧
   S'=⟨(bl,144,logD wid tg (texts.map (leafS wid)) bm)::(bm,142,mapD [] [])::S.bk,ow⟩∧G1 S.ow ow 26 32 tg ((texts.map (leafS wid)).map .dg)):=by
 have c1:=fun S=>aRingRight wid S
 rw [hw] at c1
 refine acalls_of prg Tryz.func42 rfl (by kernel_rfl) (congrArg Array.toList Tryz.results42) Tryz.ntmps42 (fun B hB=>fA ?_)
 refine Wk Y0 ?_
 refine cQ (c1 _) ?_
 refine gG Y0 ?_
 refine w6 ?_
 refine w9 ?_
 refine wa ?_
 refine w3 ?_
 refine w4 ?_
 apply AOps.goN prg 1;case run=>(simp only [go_sem,Int.reduceEq,Int.reduceLT,Int.reduceBEq,Int.reduceBNe,Int.reduceNe,Nat.reduceLeDiff,Nat.reduceAdd,Nat.reduceSub,Nat.reduceLT,Nat.reduceEqDiff,Nat.reduceBEq,Int.reduceLE,Int.reduceToNat];rfl)
 refine wmm (fun bm k_m o_m=>?_)
 apply AOps.goN prg 1;case run=>(simp only [go_sem,Int.reduceEq,Int.reduceLT,Int.reduceBEq,Int.reduceBNe,Int.reduceNe,Nat.reduceLeDiff,Nat.reduceAdd,Nat.reduceSub,Nat.reduceLT,Nat.reduceEqDiff,Nat.reduceBEq,Int.reduceLE,Int.reduceToNat];rfl)
 refine aB fun b14 k_b14 o_b14=>?_
 have hA:=fun S h hg=>aAdd b14 bm wid .nil tt [] texts S.ow S h hg hw (by simpa using hfew) hts
 refine Wk Y0 ?_
 refine wg (c:=hA _ ?g1 ?g2) (k:=?_)
 case g1=>rw [getM_cons,if_pos rfl];rfl
 case g2=>exact G1.nil _ _ _
 rintro d S1 ⟨rfl,tg,ow,rfl,hg⟩
 simp only [setM_cons,if_true,List.nil_append] at hg ⊢
 refine Wk Y0 ?_
 refine endx (S':=⟨(b14,144,logD wid tg (texts.map (leafS wid)) bm)::(bm,142,mapD [] [])::S.bk,ow⟩) (sR Y0) (by rfl) (Sto.Sub.refl _) ⟨b14,bm,tg,ow,rfl,k_b14.1,k_b14.2,k_m,rfl,hg⟩
theorem aHead1 (bl bm:Nat) (wid:Int) (tg:Tag) (x:Dg) (l:List Dg) (S:Sto) (h:getM S.bk bl=some (144,logD wid tg (x::l) bm)) (hw:wideB wid=true) (hfew:l.length≤1048576) :
  ACalls Tryz.prog 43 [pD bl,uD 1] S (RetQ (.tup [hdD ⟨1,x⟩,iD 0]) S):=by
 have hwi:1≤wid∧wid≤32:=by simpa [wideB] using hw
 have z0:(wid == 0)=false:=by rw [beq_eq_false_iff_ne];omega
 have c1:∀ S,getM S.bk bl=some (144,logD wid tg (x::l) bm)→ACalls Tryz.prog 45 [pD bl] S (RetQ (bD false) S):=fun S h=>aOff bl bm wid tg (x::l) S h z0
 have c2:∀ S,getM S.bk bl=some (144,logD wid tg (x::l) bm)→ACalls Tryz.prog 46 [pD bl] S (RetQ (uD (l.length+1:Nat)) S):=fun S h=>by
  have f0:IntKind.u64.wrap ((l.length+1:Nat):Int)=((l.length+1:Nat):Int):=IntWalk.u64_in _ (by omega)
  refine acalls_of prg Tryz.func46 rfl (by kernel_rfl) (congrArg Array.toList Tryz.results46) Tryz.ntmps46 (fun B hB=>fA ?_)
  refine Wk Y0 ?_
  refine cQ (c1 _ h) ?_
  refine Wk (Yy h f0) ?_
  exact rE
 have c3:∀ S,getM S.bk bl=some (144,logD wid tg (x::l) bm)→ACalls Tryz.prog 49 [pD bl,iD 0,iD 1] S (RetQ (.dg x) S):=fun S h=>by
  refine acalls_of prg Tryz.func49 rfl (by kernel_rfl) (congrArg Array.toList Tryz.results49) Tryz.ntmps49 (fun B hB=>fA ?_)
  refine Wk Y0 ?_
  refine aL fun b6 k_b6 o_b6=>?_
  have n1:¬ bl=b6:=getM_ne h k_b6
  refine Wk (Yy n1 h) ?_
  refine endq (S':=S) (sR Y0) (by rfl) (Sto.Sub.refl _).cons
 have d1:decide ((1:Int) > ((l.length+1:Nat):Int))=false:=decide_eq_false (by omega)
 refine acalls_of prg Tryz.func43 rfl (by kernel_rfl) (congrArg Array.toList Tryz.results43) Tryz.ntmps43 (fun B hB=>fA ?_)
 refine Wk Y0 ?_
 refine aL fun b4 k_b4 o_b4=>?_
 have n1:¬ bl=b4:=getM_ne h k_b4
 have h2:getM (⟨(b4,28,hdD ⟨0,Dg.zero⟩)::S.bk,S.ow⟩:Sto).bk bl=some (144,logD wid tg (x::l) bm):=by
  show getM ((b4,_,_)::S.bk) bl=_
  rw [getM_cons,if_neg n1];exact h
 refine Wk Y0 ?_
 refine cQ (c1 _ h2) ?_
 refine Wk Y0 ?_
 refine cQ (c2 _ h2) ?_
 refine Wk d1 ?_
 refine cQ (c3 _ h2) ?_
 refine Wk Y0 ?_
 refine endq (S':=S) (sR Y0) (by rfl) (Sto.Sub.refl _).cons


theorem aGet0 (b:Nat) (c:Cl) (key bytes:Bs) (S:Sto) (h:CliAt S b c) (hp:(c.pg == 0)=false) (hk:c.knows=false):ACalls Tryz.prog 29 [pD b,sD key,sD bytes] S (RetQ (.tup [.agg [bD false,sD []],iD 3]) S):=by
 have c1:∀ S,CliAt S b c→ACalls Tryz.prog 50 [pD b] S (RetQ (iD 3) S):=fun S h=>by
  have:=aState b c S h hp
  rw [hk] at this
  exact this
 have h0:getM S.bk b=some (92,cliD c):=h
 refine acalls_of prg Tryz.func29 rfl (by kernel_rfl) (congrArg Array.toList Tryz.results29) Tryz.ntmps29 (fun B hB=>fA ?_)
 refine Wk Y0 ?_
 refine aL fun b6 k_b6 o_b6=>?_
 have n1:¬ b=b6:=getM_ne h0 k_b6
 have h2:CliAt ⟨(b6,79,.agg [bD false,sD []])::S.bk,S.ow⟩ b c:=CliAt.cons h0 n1
 refine Wk Y0 ?_
 refine cQ (c1 _ h2) ?_
 refine Wk Y0 ?_
 refine endq (S':=S) (sR Y0) (by rfl) (Sto.Sub.refl _).cons

def sW:Bs:=List.replicate 48 0
def one1:Dg:=Dg.zero.setB 0 1
def xW:Dg:=(digS 32 eT [sW]).1
set_option maxRecDepth 100000 in
theorem aw1:writeS 1024 32 en0=(sW,0):=by decide +kernel
set_option maxRecDepth 100000 in
theorem aw2:(digS 32 eT [sW]).2=0:=by decide +kernel
set_option maxRecDepth 100000 in
theorem aw3:decide (xW=one1)=false:=by decide +kernel
set_option maxRecDepth 100000 in
theorem aw4:fitB 32 xW=true:=by decide +kernel
set_option maxRecDepth 100000 in
theorem aw5:fitB 32 one1=true:=by decide +kernel
theorem aw6:rightB 1024 32=true:=by decide
theorem aw7:leafC 1024 32 en0=(xW,true):=by
 unfold leafC
 rw [aw1,if_pos rfl]
 show ((digS 32 eT [sW]).1,decide ((digS 32 eT [sW]).2=0))=_
 rw [aw2];rfl
theorem awHold (x:Dg) (hf:fitB 32 x=true):holdsS 32 ⟨1,x⟩ 0 x []=true:=by
 simp [holdsS,wideB,hf,fitsB,climbS,upS]
theorem awLearn1:learnS (cl0 1024 32) ⟨1,xW⟩ en0 [] []=(0,⟨1024,32,⟨1,xW⟩,en0,true,hd0,hd0,false⟩):=by
 have h1:=aw4
 have h2:=aw7
 have h3:=awHold xW aw4
 generalize xW=x at h1 h2 h3 ⊢
 simp only [learnS,cl0,h1,h2,h3]
 simp [en0]
theorem awLearn2:learnS ⟨1024,32,⟨1,xW⟩,en0,true,hd0,hd0,false⟩ ⟨1,one1⟩ en0 [] []=(211,⟨1024,32,⟨1,xW⟩,en0,true,⟨1,xW⟩,⟨1,one1⟩,true⟩):=by
 have h1:=aw5
 have h2:=aw7
 have h3:¬ one1=xW:=fun e=>(of_decide_eq_false aw3) e.symm
 generalize xW=x at h2 h3 ⊢
 generalize one1=y at h1 h3 ⊢
 simp only [learnS,h1,h2]
 simp [h3,en0]
theorem awPast (c:Cl) (h1:c.pg=1024) (h2:c.wd=32) (h3:c.head=⟨1,xW⟩) (h4:c.knows=true):pastS c 0 en0 []=0:=by
 have h5:=awHold xW aw4
 unfold pastS
 rw [h1,h2,h3,h4,aw7]
 generalize xW=x at h5
 simp [h5,en0]
theorem awFork:forkB 1024 32 ⟨1,xW⟩ ⟨1,one1⟩=true:=by
 have h1:=aw4
 have h2:=aw5
 have h3:=aw3
 unfold forkB
 simp only
 rw [h1,h2,aw6]
 have:decide (xW≠one1)=true:=decide_eq_true (of_decide_eq_false h3)
 rw [this];rfl
theorem en0_ok:en0.Ok:=⟨by decide,by decide,by decide⟩
theorem aSmall (S:Sto):ACalls Tryz.prog 32 [] S (RetQ (frD 1024 32) S):=by
 refine acalls_of prg Tryz.func32 rfl (by kernel_rfl) (congrArg Array.toList Tryz.results32) Tryz.ntmps32 (fun B hB=>fA ?_)
 refine Wk Y0 ?_
 refine aL fun b0 k_b0 o_b0=>?_
 refine Wk Y0 ?_
 refine endq (S':=S) (sR Y0) (by rfl) (Sto.Sub.refl _).cons
theorem aFirst21 (S:Sto):ACalls Tryz.prog 37 [frD 1024 32] S (RetQ (.tup [enD en0,hdD ⟨1,xW⟩,bD true]) S):=by
 have c1:=fun S=>aWrite 1024 32 en0 S en0_ok
 rw [aw1] at c1
 have c2:=fun S=>aRNew 32 .full [sW] S (by decide) (by decide) (by intro t ht;simp only [List.mem_singleton] at ht;subst ht;decide)
 have hx:leafS 32 sW=xW:=rfl
 simp only [List.map_cons,List.map_nil,hx] at c2
 generalize xW=x at c2 ⊢
 generalize sW=s at c1 c2
 refine acalls_of prg Tryz.func37 rfl (by kernel_rfl) (congrArg Array.toList Tryz.results37) Tryz.ntmps37 (fun B hB=>fA ?_)
 refine Wk Y0 ?_
 refine aL fun b2 k_b2 o_b2=>?_
 refine Wk Y0 ?_
 refine aL fun b3 k_b3 o_b3=>?_
 refine Wk Y0 ?_
 refine aL fun b5 k_b5 o_b5=>?_
 have n1:=nes k_b5.1
 have n2:=nes k_b5.2.1
 have n3:=nes k_b3.1
 refine Wk (Yy n1 (Yy n2 n3)) ?_
 refine cQ (c1 _) ?_
 refine Wk Y0 ?_
 refine cX (c2 _) ?_
 rintro d S1 ⟨bl,bm,tg,ow,rfl,hne,hbl,hbm,rfl,hg⟩
 simp only [List.map_cons,List.mem_cons,not_or] at hbl hbm
 have m1:=hbl.1
 have m2:=hbl.2.1
 have m3:=hbl.2.2.1
 have m4:=hbm.1
 have m5:=hbm.2.1
 have m6:=hbm.2.2.1
 have cH:=fun S h=>aHead1 bl bm 32 tg x [] S h (by decide) (by decide)
 refine Wk Y0 ?_
 refine we (c:=cH _ ?g1) (k:=?_)
 case g1=>rw [getM_cons,if_pos rfl];rfl
 refine Wk Y0 ?_
 refine aL fun b10 k_b10 o_b10=>?_
 have p1:=k_b10.1
 have p2:=k_b10.2.1
 have p3:=k_b10.2.2.1
 have p4:=k_b10.2.2.2.1
 have p5:=k_b10.2.2.2.2.1
 refine Wn (Yy n1 (Yy n2 (Yy n3 (Yy m1 (Yy m2 (Yy m3 (Yy m4 (Yy m5 (Yy m6 (Yy p1 (Yy p2 (Yy p3 (Yy p4 p5))))))))))))) ?_
 have q1:=nes p1
 have q2:=nes p2
 have q3:=nes p3
 have q4:=nes p4
 have q5:=nes p5
 have F:=(Yy n1 (Yy n2 (Yy n3 (Yy m1 (Yy m2 (Yy m3 (Yy m4 (Yy m5 (Yy m6 (Yy p1 (Yy p2 (Yy p3 (Yy p4 (Yy p5 (Yy q1 (Yy q2 (Yy q3 (Yy q4 (Yy q5 (Yy (nes m1) (Yy (nes m2) (Yy (nes m3) (Yy (nes m4) (Yy (nes m5) (Yy (nes m6) (Yy k_b10 (Yy k_b3 k_b5)))))))))))))))))))))))))))
 refine yy [b5,b10] ?_
 refine yd 0 ?_
 refine yd 1 ?_
 refine yp 2 ?_
 refine yp 3 ?_
 refine ys 4 ?_
 refine ys 5 ?_
 refine ys 6 ?_
 refine ye ?_
 refine Wk Y0 ?_
 refine endq (S':=S) (sR (Yy n1 (Yy n2 (Yy n3 (Yy m1 (Yy m2 (Yy m3 (Yy m4 (Yy m5 (Yy m6 (Yy q1 (Yy q2 (Yy q3 (Yy q4 (Yy q5 (Yy (nes m1) (Yy (nes m2) (Yy (nes m3) (Yy (nes m4) (Yy (nes m5) (Yy (nes m6) (Yy k_b10 (Yy k_b3 k_b5))))))))))))))))))))))) (by rfl) ⟨(((((((List.Sublist.refl _).cons _).cons _).cons _).cons _).cons _).cons _),hg.sub⟩


def cW0:Cl:=cl0 1024 32
def cW1:Cl:=⟨1024,32,⟨1,xW⟩,en0,true,hd0,hd0,false⟩
def cW2:Cl:=⟨1024,32,⟨1,xW⟩,en0,true,⟨1,xW⟩,⟨1,one1⟩,true⟩
theorem hdok1 (x:Dg):(⟨1,x⟩:Hd).Ok:=⟨show 1<18446744073709551616 by decide⟩
theorem aAwake21 (S:Sto):ACalls Tryz.prog 12 [] S (RetQ (bD true) S):=by
 have cS:=fun S=>aSmall S
 have cF:=fun S=>aFirst21 S
 have cN:=fun S=>aCliNew 1024 32 S aw6
 have cG:∀ b S,CliAt S b cW0→ACalls Tryz.prog 29 [pD b,sD [97],sD []] S (RetQ (.tup [.agg [bD false,sD []],iD 3]) S):=fun b S h=>aGet0 b cW0 [97] [] S h rfl rfl
 have cL1:∀ b S,CliAt S b cW0→ACalls Tryz.prog 16 [pD b,hdD ⟨1,xW⟩,enD en0,.sl .nil [],.sl .nil []] S (RetQ (iD 0) ⟨setM S.bk b (cliD cW1),S.ow⟩):=fun b S h=>by
  have:=aLearn b cW0 ⟨1,xW⟩ en0 .nil .nil [] [] S h rfl en0_ok (hdok1 _) ⟨by decide⟩ (by decide) (by decide)
  unfold cW0 at this
  rw [awLearn1] at this
  exact this
 have cL2:∀ b S,CliAt S b cW1→ACalls Tryz.prog 16 [pD b,hdD ⟨1,one1⟩,enD en0,.sl .nil [],.sl .nil []] S (RetQ (iD 211) ⟨setM S.bk b (cliD cW2),S.ow⟩):=fun b S h=>by
  have:=aLearn b cW1 ⟨1,one1⟩ en0 .nil .nil [] [] S h rfl en0_ok (hdok1 _) (hdok1 _) (by decide) (by decide)
  unfold cW1 at this
  rw [awLearn2] at this
  exact this
 have cH:∀ b S,CliAt S b cW1→ACalls Tryz.prog 14 [pD b] S (RetQ (.tup [hdD ⟨1,xW⟩,enD en0,bD true]) S):=fun b S h=>aCliHead b cW1 S h rfl
 have cE:∀ b S,CliAt S b cW2→ACalls Tryz.prog 15 [pD b] S (RetQ (.tup [.agg [hdD ⟨1,xW⟩,hdD ⟨1,one1⟩],bD true]) S):=fun b S h=>aCliEv b cW2 S h rfl
 have cK:=fun S=>aFork 1024 32 ⟨1,xW⟩ ⟨1,one1⟩ S
 rw [awFork] at cK
 have cP:∀ b S,CliAt S b cW2→ACalls Tryz.prog 21 [pD b,uD 0,enD en0,.sl .nil []] S (RetQ (iD 0) S):=fun b S h=>by
  have:=aPast b cW2 0 en0 .nil [] S h rfl en0_ok (by decide) (hdok1 _) (by decide)
  rw [awPast cW2 rfl rfl rfl rfl] at this
  exact this
 have e1:Dg.zero.setB 0 1=one1:=rfl
 have e2:cl0 1024 32=cW0:=rfl
 simp only [e2] at cN
 refine acalls_of prg Tryz.func12 rfl (by kernel_rfl) (congrArg Array.toList Tryz.results12) Tryz.ntmps12 (fun B hB=>fA ?_)
 refine Wk Y0 ?_
 refine cQ (cS _) ?_
 refine Wk Y0 ?_
 refine aL fun b1 k_b1 o_b1=>?_
 refine Wk Y0 ?_
 refine cQ (cF _) ?_
 refine Wk Y0 ?_
 refine aL fun b2 k_b2 o_b2=>?_
 refine Wk Y0 ?_
 refine aL fun b3 k_b3 o_b3=>?_
 have n1:=nes k_b2.1
 have n2:=nes k_b3.1
 have n3:=nes k_b3.2.1
 refine Wk (Yy k_b2 (Yy k_b3 (Yy n1 (Yy n2 n3)))) ?_
 refine cX (cN _) ?_
 rintro d S1 ⟨bc,rfl,hbc,rfl⟩
 simp only [List.map_cons,List.mem_cons,not_or] at hbc
 have m1:=nes hbc.1
 have m2:=nes hbc.2.1
 have m3:=nes hbc.2.2.1
 refine Wk Y0 ?_
 refine we (c:=cG bc _ ?g1) (k:=?_)
 case g1=>show getM _ _=_;rw [getM_cons,if_pos rfl];rfl
 refine Wk Y0 ?_
 refine aL fun b7 k_b7 o_b7=>?_
 have p0:=k_b7.1
 have p1:=nes k_b7.1
 have p2:=nes k_b7.2.1
 have p3:=nes k_b7.2.2.1
 have p4:=nes k_b7.2.2.2.1
 refine Wk (Yy k_b2 (Yy k_b3 (Yy k_b7 (Yy n1 (Yy n2 (Yy n3 (Yy hbc (Yy m1 (Yy m2 (Yy m3 (Yy p1 (Yy p2 (Yy p3 p4))))))))))))) ?_
 refine we (c:=cL1 bc _ ?g2) (k:=?_)
 case g2=>show getM _ _=_;rw [getM_cons,if_neg p1,getM_cons,if_pos rfl];rfl
 simp only [setM_cons,if_neg p1,if_true]
 refine Wk Y0 ?_
 refine we (c:=cH bc _ ?g3) (k:=?_)
 case g3=>show getM _ _=_;rw [getM_cons,if_neg p1,getM_cons,if_pos rfl];rfl
 refine Wk Y0 ?_
 refine aL fun b10 k_b10 o_b10=>?_
 refine Wk Y0 ?_
 refine aL fun b11 k_b11 o_b11=>?_
 have q1:=nes k_b10.1
 have q2:=nes k_b10.2.1
 have q3:=nes k_b10.2.2.1
 have q4:=nes k_b10.2.2.2.1
 have q5:=nes k_b10.2.2.2.2.1
 have r1:=nes k_b11.1
 have r2:=nes k_b11.2.1
 have r3:=nes k_b11.2.2.1
 have r4:=nes k_b11.2.2.2.1
 have r5:=nes k_b11.2.2.2.2.1
 have r6:=nes k_b11.2.2.2.2.2.1
 refine Wk (Yy k_b2 (Yy k_b3 (Yy k_b7 (Yy k_b10 (Yy k_b11 (Yy n1 (Yy n2 (Yy n3 (Yy hbc (Yy m1 (Yy m2 (Yy m3 (Yy p1 (Yy p2 (Yy p3 (Yy p4 (Yy q1 (Yy q2 (Yy q3 (Yy q4 (Yy q5 (Yy r1 (Yy r2 (Yy r3 (Yy r4 (Yy r5 r6)))))))))))))))))))))))))) ?_
 refine we (c:=cL2 bc _ ?g4) (k:=?_)
 case g4=>show getM _ _=_;rw [getM_cons,if_neg r3,getM_cons,if_neg q2,getM_cons,if_neg p1,getM_cons,if_pos rfl];rfl
 simp only [setM_cons,if_neg p1,if_neg q2,if_neg r3,if_true]
 refine Wk Y0 ?_
 refine we (c:=cE bc _ ?g5) (k:=?_)
 case g5=>show getM _ _=_;rw [getM_cons,if_neg r3,getM_cons,if_neg q2,getM_cons,if_neg p1,getM_cons,if_pos rfl];rfl
 refine Wk Y0 ?_
 refine aL fun b14 k_b14 o_b14=>?_
 have u1:=nes k_b14.1
 have u2:=nes k_b14.2.1
 have u3:=nes k_b14.2.2.1
 have u4:=nes k_b14.2.2.2.1
 have u5:=nes k_b14.2.2.2.2.1
 have u6:=nes k_b14.2.2.2.2.2.1
 have u7:=nes k_b14.2.2.2.2.2.2.1
 refine Wk (Yy k_b2 (Yy k_b3 (Yy k_b7 (Yy k_b10 (Yy k_b11 (Yy k_b14 (Yy n1 (Yy n2 (Yy n3 (Yy hbc (Yy m1 (Yy m2 (Yy m3 (Yy p1 (Yy p2 (Yy p3 (Yy p4 (Yy q1 (Yy q2 (Yy q3 (Yy q4 (Yy q5 (Yy r1 (Yy r2 (Yy r3 (Yy r4 (Yy r5 (Yy r6 (Yy u1 (Yy u2 (Yy u3 (Yy u4 (Yy u5 (Yy u6 u7)))))))))))))))))))))))))))))))))) ?_
 refine cQ (cK _) ?_
 refine Wk (Yy k_b2 (Yy k_b3 (Yy k_b7 (Yy k_b10 (Yy k_b11 (Yy k_b14 (Yy n1 (Yy n2 (Yy n3 (Yy hbc (Yy m1 (Yy m2 (Yy m3 (Yy p1 (Yy p2 (Yy p3 (Yy p4 (Yy q1 (Yy q2 (Yy q3 (Yy q4 (Yy q5 (Yy r1 (Yy r2 (Yy r3 (Yy r4 (Yy r5 (Yy r6 (Yy u1 (Yy u2 (Yy u3 (Yy u4 (Yy u5 (Yy u6 u7)))))))))))))))))))))))))))))))))) ?_
 refine we (c:=cP bc _ ?g6) (k:=?_)
 case g6=>show getM _ _=_;rw [getM_cons,if_neg u4,getM_cons,if_neg r3,getM_cons,if_neg q2,getM_cons,if_neg p1,getM_cons,if_pos rfl];rfl
 refine Wk Y0 ?_
 refine endq (S':=S) (sR Y0) (by rfl) (Sto.Sub.refl _).cons.cons.cons.cons.cons.cons.cons.cons
end Go.Proofs.YtgjaaffheanobaaGreat