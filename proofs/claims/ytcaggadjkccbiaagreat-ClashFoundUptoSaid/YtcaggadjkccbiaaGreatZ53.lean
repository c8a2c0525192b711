/- The law ClashFound (values without addresses). -/
import Derived.Test.YtcaggadjkccbiaaGreatZ51
import Derived.Test.YtcaggadjkccbiaaGreatZ52
namespace Go.Proofs.YtcaggadjkccbiaaGreat
set_option maxHeartbeats 1000000
set_option maxRecDepth 100000
set_option linter.unusedVariables false
set_option linter.unusedSimpArgs false
open Go Go.RowKit

theorem aLawSame (l m : List Pr) (S : Sto) (hl : l.length ≤ 20000000000) (hm : m.length ≤ 20000000000) : ACalls Tryz.prog 22 [.sl .none (l.map prD),.sl .none (m.map prD)] S (RetQ (bD (decide (l = m))) S):=by
 by_cases hlen : l.length = m.length
 case neg=>
  rw [decide_eq_false (fun h=>hlen (by rw [h]))]
  have z0 : ((l.length : Int) != m.length) = true:=by rw [bne_iff_ne];omega
  refine acalls_of prg Tryz.func22 rfl (by kernel_rfl) (congrArg Array.toList Tryz.results22) Tryz.ntmps22 (fun B hB=>fA ?_)
  refine Wk z0 ?_
  exact rE
 have z0 : ((l.length : Int) != m.length) = false:=by rw [hlen];simp
 obtain ⟨G,hG⟩ : ∃ G,decide (l = m) = G:=⟨_,rfl⟩
 rw [hG]
 refine acalls_of prg Tryz.func22 rfl (by kernel_rfl) (congrArg Array.toList Tryz.results22) Tryz.ntmps22 (fun B hB=>fA ?_)
 refine Wk z0 ?_
 refine AW.loopS 6 [5] (fun xs S'=>∃ i : Nat,xs = [iD i] ∧ S' = S ∧ i ≤ l.length ∧ l.take i = m.take i) (fun xs _=>l.length - nI (xs.getD 0 .any)) [iD 0] S ?_ (Sto.Sub.refl _) ⟨0,rfl,rfl,by omega,rfl⟩ ?_
 ·exact wK
 rintro xs S' ⟨i,rfl,rfl,hile,htk⟩
 refine fR ?_
 by_cases hlt : i < l.length
 ·obtain ⟨x,hx⟩ : ∃ x,l[i]? = some x:=⟨_,List.getElem?_eq_getElem hlt⟩
  obtain ⟨y,hy⟩ : ∃ y,m[i]? = some y:=⟨_,List.getElem?_eq_getElem (by omega)⟩
  have d1 : decide ((i : Int) < l.length) = true:=decide_eq_true (by omega)
  have gx : (l.map prD)[i]? = some (prD x):=by rw [List.getElem?_map,hx];rfl
  have gy : (m.map prD)[i]? = some (prD y):=by rw [List.getElem?_map,hy];rfl
  have g0 : (0 : Int) ≤ i:=by omega
  have f1 : IntKind.i64.wrap ((i : Int) + 1) = ((i + 1 : Nat) : Int):=IntWalk.i64_in _ (by omega)
  by_cases hxy : x = y
  ·have z1 : (x.1 == y.1 && x.2 == y.2) = true:=by rw [hxy];simp
   refine Wk (Yy d1 (Yy gx (Yy gy (Yy g0 (Yy Int.toNat_natCast (Yy z1 f1)))))) ?_
   refine ⟨[iD (i + 1 : Nat)],S',?_,Sto.Sub.refl _,⟨i + 1,rfl,rfl,by omega,by rw [List.take_add_one,List.take_add_one,htk,hx,hy,hxy]⟩,?_⟩
   ·exact wK
   ·exact mE
  ·have z1 : (x.1 == y.1 && x.2 == y.2) = false:=by
    rw [Bool.and_eq_false_iff,beq_eq_false_iff_ne,beq_eq_false_iff_ne]
    by_cases h1 : x.1 = y.1
    ·exact .inr (fun h2=>hxy (Prod.ext h1 h2))
    ·exact .inl h1
   have hf : G = false:=by
    rw [← hG]
    exact decide_eq_false (fun h=>hxy (by rw [h,hy] at hx;exact (Option.some.inj hx).symm))
   subst hf
   refine Wk (Yy d1 (Yy gx (Yy gy (Yy g0 (Yy Int.toNat_natCast z1))))) ?_
   exact rE
 obtain rfl : i = l.length:=by omega
 have hf : G = true:=by
  rw [← hG]
  rw [List.take_length,hlen,List.take_length] at htk
  exact decide_eq_true htk
 subst hf
 have d1 : decide ((l.length : Int) < l.length) = false:=decide_eq_false (by omega)
 refine Wk d1 ?_
 exact rE

theorem aClashFound (p wid : Int) (rt : D) (rb key lo hi x y : Bs) (S : Sto) (hrt : RtOk rt rb) (hrb : rb.length ≤ 1048576) (hx : x.length ≤ 1048576) (hy : y.length ≤ 1048576) :
  ACalls Tryz.prog 8 [askD p wid rt key lo hi x y] S (RetQ (bD true) S):=by
 have c1 : ∀ S,ACalls Tryz.prog 13 [askD p wid rt key lo hi x y] S (RetQ (.dg (rootOf rb)) S):=fun S=>by
  rcases hrt with rfl | ⟨rfl,ad,c,rfl⟩
  ·exact aRoot p wid rb key lo hi x y S (by omega)
  ·exact aRoot0 p wid ad c key lo hi x y S
 generalize rootOf rb = root at c1
 have q1:=fun S=>aProofRead p wid root key x S hx
 have q2:=fun S=>aProofRead p wid root key y S hy
 have q3:=fun S=>aPoints p wid root key x y S hx hy
 have q4:=fun S=>aSRead p wid root lo hi x S hx
 have q5:=fun S=>aSRead p wid root lo hi y S hy
 have q6:=fun S=>aSpansC p wid root lo hi x y S hx hy
 have c4:=fun S=>aAwake S
 have p1:=pairs_few p wid root lo hi x hx
 have p2:=pairs_few p wid root lo hi y hy
 have cE:=fun S=>aLawSame (pairsS p wid root lo hi x) (pairsS p wid root lo hi y) S p1 p2
 obtain ⟨i1,j1⟩:=points_found p wid root key x y
 obtain ⟨i2,j2⟩:=spans_found p wid root lo hi x y
 have s1:=points_short p wid root key x y hx hy
 have s2:=spans_short p wid root lo hi x y hx hy
 generalize pointsP p wid root key x y = r1 at q3 i1 j1 s1
 generalize spansP p wid root lo hi x y = r2 at q6 i2 j2 s2
 obtain ⟨c,g⟩:=r1
 obtain ⟨c2,g2⟩:=r2
 generalize errP p wid root key x = e at q1 i1
 generalize errP p wid root key y = f at q2 i1
 generalize ansP p wid root key x = a1 at q1 i1
 generalize ansP p wid root key y = a2 at q2 i1
 generalize errS p wid root lo hi x = e2 at q4 i2
 generalize errS p wid root lo hi y = f2 at q5 i2
 generalize pairsS p wid root lo hi x = P1 at q4 cE i2
 generalize pairsS p wid root lo hi y = P2 at q5 cE i2
 simp only [] at i1 j1 i2 j2 s1 s2
 have cH:=fun S=>aHolds p wid c.1 c.2 S (by omega) (by omega)
 have cC:=fun S=>aSClash wid c.1 c.2 S (by omega) (by omega)
 have cH2:=fun S=>aHolds p wid c2.1 c2.2 S (by omega) (by omega)
 have cC2:=fun S=>aSClash wid c2.1 c2.2 S (by omega) (by omega)
 have H1 : (g = 0 ∧ e = 0 ∧ f = 0 ∧ a1 ≠ a2 ∧ holdsB p wid c.1 c.2 = true ∧ clashB wid c.1 c.2 = true) ∨ (g ≠ 0 ∧ ¬ (e = 0 ∧ f = 0 ∧ a1 ≠ a2) ∧ holdsB p wid c.1 c.2 = false):=by
  rcases j1 with ⟨h1,h2,h3⟩ | ⟨h1,h2⟩
  ·exact .inl ⟨h1,(i1.1 h1).1,(i1.1 h1).2.1,(i1.1 h1).2.2,h3,h2⟩
  ·exact .inr ⟨h1,fun h=>h1 (i1.2 h),by rw [h2];exact no_clash p wid⟩
 have H2 : (g2 = 0 ∧ e2 = 0 ∧ f2 = 0 ∧ P1 ≠ P2 ∧ holdsB p wid c2.1 c2.2 = true ∧ clashB wid c2.1 c2.2 = true) ∨ (g2 ≠ 0 ∧ ¬ (e2 = 0 ∧ f2 = 0 ∧ P1 ≠ P2) ∧ holdsB p wid c2.1 c2.2 = false):=by
  rcases j2 with ⟨h1,h2,h3⟩ | ⟨h1,h2⟩
  ·exact .inl ⟨h1,(i2.1 h1).1,(i2.1 h1).2.1,(i2.1 h1).2.2,h3,h2⟩
  ·exact .inr ⟨h1,fun h=>h1 (i2.2 h),by rw [h2];exact no_clash p wid⟩
 clear i1 j1 i2 j2
 have bt : (true != true) = false:=rfl
 have bf : (false != false) = false:=rfl
 have et : (true == true) = true:=rfl
 have ef : (false == false) = true:=rfl
 rcases hrt with rfl | ⟨rfl,ad,cc,rfl⟩
 ·refine acalls_of prg Tryz.func8 rfl (by kernel_rfl) (congrArg Array.toList Tryz.results8) Tryz.ntmps8 (fun B hB=>fA ?_)
  refine Wk Y0 ?_
  refine cQ (c1 _) ?_
  refine Wk Y0 ?_
  refine aL fun b3 k_b3 o_b3=>?_
  refine Wk Y0 ?_
  refine cQ (q1 _) ?_
  refine Wk Y0 ?_
  refine aL fun b4 k_b4 o_b4=>?_
  have n1:=nes k_b4.1
  refine Wk (Yy k_b4 n1) ?_
  refine cQ (q2 _) ?_
  refine Wk Y0 ?_
  refine aL fun b6 k_b6 o_b6=>?_
  have n2:=nes k_b6.1
  have n3:=nes k_b6.2.1
  refine Wk (Yy k_b4 (Yy n1 (Yy k_b6 (Yy n2 n3)))) ?_
  refine cQ (q3 _) ?_
  refine Wk Y0 ?_
  refine aL fun b8 k_b8 o_b8=>?_
  have n4:=nes k_b8.1
  have n5:=nes k_b8.2.1
  have n6:=nes k_b8.2.2.1
  refine gG (Yy k_b4 (Yy k_b6 (Yy k_b8 (Yy n1 (Yy n2 (Yy n3 (Yy n4 (Yy n5 n6)))))))) ?_
  refine w6 ?_
  refine AW.cutS 12 [] (fun xs S'=>xs = [] ∧ S' = ⟨(b8,26,clD c) :: (b6,42,ansD a2) :: (b4,42,ansD a1) :: (b3,36,.dg root) :: S.bk,S.ow⟩) ?_ ?_
  ·rcases H1 with ⟨g0,e0,f0,ha,hh,hc⟩ | ⟨g0,hn,hh⟩
   ·rw [hh] at cH
    have y1 : (g == 0) = true:=beq_iff_eq.2 g0
    have y2 : (e == 0) = true:=beq_iff_eq.2 e0
    have y3 : (f == 0) = true:=beq_iff_eq.2 f0
    have y4:=ans_beq a1 a2
    rw [decide_eq_false ha] at y4
    refine Wk (Yy k_b4 (Yy k_b6 (Yy k_b8 (Yy n1 (Yy n2 (Yy n3 (Yy n4 (Yy n5 (Yy n6 (Yy y1 (Yy y2 (Yy y3 (Yy y4 bt))))))))))))) ?_
    refine cQ (cH _) ?_
    refine Wk (Yy k_b4 (Yy k_b6 (Yy k_b8 (Yy n1 (Yy n2 (Yy n3 (Yy n4 (Yy n5 (Yy n6 bt))))))))) ?_
    exact ⟨[],_,wK,Sto.Sub.refl _,rfl,rfl⟩
   ·rw [hh] at cH
    have y1 : (g == 0) = false:=beq_eq_false_iff_ne.2 g0
    by_cases e0 : e = 0
    case neg=>
     have y2 : (e == 0) = false:=beq_eq_false_iff_ne.2 e0
     refine Wk (Yy k_b4 (Yy k_b6 (Yy k_b8 (Yy n1 (Yy n2 (Yy n3 (Yy n4 (Yy n5 (Yy n6 (Yy y1 (Yy y2 bf))))))))))) ?_
     refine cQ (cH _) ?_
     refine Wk (Yy k_b4 (Yy k_b6 (Yy k_b8 (Yy n1 (Yy n2 (Yy n3 (Yy n4 (Yy n5 (Yy n6 bf))))))))) ?_
     exact ⟨[],_,wK,Sto.Sub.refl _,rfl,rfl⟩
    have y2 : (e == 0) = true:=beq_iff_eq.2 e0
    by_cases f0 : f = 0
    case neg=>
     have y3 : (f == 0) = false:=beq_eq_false_iff_ne.2 f0
     refine Wk (Yy k_b4 (Yy k_b6 (Yy k_b8 (Yy n1 (Yy n2 (Yy n3 (Yy n4 (Yy n5 (Yy n6 (Yy y1 (Yy y2 (Yy y3 bf)))))))))))) ?_
     refine cQ (cH _) ?_
     refine Wk (Yy k_b4 (Yy k_b6 (Yy k_b8 (Yy n1 (Yy n2 (Yy n3 (Yy n4 (Yy n5 (Yy n6 bf))))))))) ?_
     exact ⟨[],_,wK,Sto.Sub.refl _,rfl,rfl⟩
    have y3 : (f == 0) = true:=beq_iff_eq.2 f0
    have ha : a1 = a2:=Classical.byContradiction fun q=>hn ⟨e0,f0,q⟩
    have y4:=ans_beq a1 a2
    rw [decide_eq_true ha] at y4
    refine Wk (Yy k_b4 (Yy k_b6 (Yy k_b8 (Yy n1 (Yy n2 (Yy n3 (Yy n4 (Yy n5 (Yy n6 (Yy y1 (Yy y2 (Yy y3 (Yy y4 bf))))))))))))) ?_
    refine cQ (cH _) ?_
    refine Wk (Yy k_b4 (Yy k_b6 (Yy k_b8 (Yy n1 (Yy n2 (Yy n3 (Yy n4 (Yy n5 (Yy n6 bf))))))))) ?_
    exact ⟨[],_,wK,Sto.Sub.refl _,rfl,rfl⟩
  rintro xs S' ⟨rfl,rfl⟩
  refine fR ?_
  refine AW.cutS 12 [] (fun xs S'=>xs = [] ∧ S' = ⟨(b8,26,clD c) :: (b6,42,ansD a2) :: (b4,42,ansD a1) :: (b3,36,.dg root) :: S.bk,S.ow⟩) ?_ ?_
  ·rcases H1 with ⟨g0,e0,f0,ha,hh,hc⟩ | ⟨g0,hn,hh⟩
   ·rw [hc] at cC
    have y1 : (g == 0) = true:=beq_iff_eq.2 g0
    refine Wk (Yy k_b4 (Yy k_b6 (Yy k_b8 (Yy n1 (Yy n2 (Yy n3 (Yy n4 (Yy n5 (Yy n6 y1))))))))) ?_
    refine cQ (cC _) ?_
    refine Wk Y0 ?_
    exact ⟨[],_,wK,Sto.Sub.refl _,rfl,rfl⟩
   ·have y1 : (g == 0) = false:=beq_eq_false_iff_ne.2 g0
    refine Wk (Yy k_b4 (Yy k_b6 (Yy k_b8 (Yy n1 (Yy n2 (Yy n3 (Yy n4 (Yy n5 (Yy n6 y1))))))))) ?_
    exact ⟨[],_,wK,Sto.Sub.refl _,rfl,rfl⟩
  rintro xs S' ⟨rfl,rfl⟩
  refine fR ?_
  refine Wk (Yy k_b4 (Yy k_b6 (Yy k_b8 (Yy n1 (Yy n2 (Yy n3 (Yy n4 (Yy n5 n6)))))))) ?_
  refine cQ (q4 _) ?_
  refine Wk (Yy k_b4 (Yy k_b6 (Yy k_b8 (Yy n1 (Yy n2 (Yy n3 (Yy n4 (Yy n5 n6)))))))) ?_
  refine cQ (q5 _) ?_
  refine Wk (Yy k_b4 (Yy k_b6 (Yy k_b8 (Yy n1 (Yy n2 (Yy n3 (Yy n4 (Yy n5 n6)))))))) ?_
  refine cQ (q6 _) ?_
  refine gG (Yy k_b4 (Yy k_b6 (Yy k_b8 (Yy n1 (Yy n2 (Yy n3 (Yy n4 (Yy n5 n6)))))))) ?_
  refine w6 ?_
  refine AW.cutS 12 [] (fun xs S'=>xs = [] ∧ S' = ⟨(b8,26,clD c2) :: (b6,42,ansD a2) :: (b4,42,ansD a1) :: (b3,36,.dg root) :: S.bk,S.ow⟩) ?_ ?_
  ·rcases H2 with ⟨g0,e0,f0,ha,hh,hc⟩ | ⟨g0,hn,hh⟩
   ·rw [decide_eq_false ha] at cE
    have y1 : (g2 == 0) = true:=beq_iff_eq.2 g0
    have y2 : (e2 == 0) = true:=beq_iff_eq.2 e0
    have y3 : (f2 == 0) = true:=beq_iff_eq.2 f0
    refine Wk (Yy k_b4 (Yy k_b6 (Yy k_b8 (Yy n1 (Yy n2 (Yy n3 (Yy n4 (Yy n5 (Yy n6 (Yy y1 (Yy y2 y3))))))))))) ?_
    refine cQ (cE _) ?_
    refine Wk (Yy k_b4 (Yy k_b6 (Yy k_b8 (Yy n1 (Yy n2 (Yy n3 (Yy n4 (Yy n5 (Yy n6 bt))))))))) ?_
    exact ⟨[],_,wK,Sto.Sub.refl _,rfl,rfl⟩
   ·have y1 : (g2 == 0) = false:=beq_eq_false_iff_ne.2 g0
    by_cases e0 : e2 = 0
    case neg=>
     have y2 : (e2 == 0) = false:=beq_eq_false_iff_ne.2 e0
     refine Wk (Yy k_b4 (Yy k_b6 (Yy k_b8 (Yy n1 (Yy n2 (Yy n3 (Yy n4 (Yy n5 (Yy n6 (Yy y1 (Yy y2 bf))))))))))) ?_
     exact ⟨[],_,wK,Sto.Sub.refl _,rfl,rfl⟩
    have y2 : (e2 == 0) = true:=beq_iff_eq.2 e0
    by_cases f0 : f2 = 0
    case neg=>
     have y3 : (f2 == 0) = false:=beq_eq_false_iff_ne.2 f0
     refine Wk (Yy k_b4 (Yy k_b6 (Yy k_b8 (Yy n1 (Yy n2 (Yy n3 (Yy n4 (Yy n5 (Yy n6 (Yy y1 (Yy y2 (Yy y3 bf)))))))))))) ?_
     exact ⟨[],_,wK,Sto.Sub.refl _,rfl,rfl⟩
    have y3 : (f2 == 0) = true:=beq_iff_eq.2 f0
    have ha : P1 = P2:=Classical.byContradiction fun q=>hn ⟨e0,f0,q⟩
    rw [decide_eq_true ha] at cE
    refine Wk (Yy k_b4 (Yy k_b6 (Yy k_b8 (Yy n1 (Yy n2 (Yy n3 (Yy n4 (Yy n5 (Yy n6 (Yy y1 (Yy y2 y3))))))))))) ?_
    refine cQ (cE _) ?_
    refine Wk (Yy k_b4 (Yy k_b6 (Yy k_b8 (Yy n1 (Yy n2 (Yy n3 (Yy n4 (Yy n5 (Yy n6 bf))))))))) ?_
    exact ⟨[],_,wK,Sto.Sub.refl _,rfl,rfl⟩
  rintro xs S' ⟨rfl,rfl⟩
  refine fR ?_
  rcases H2 with ⟨g0,e0,f0,ha,hh,hc⟩ | ⟨g0,hn,hh⟩
  ·rw [hh] at cH2
   rw [hc] at cC2
   have y1 : (g2 == 0) = true:=beq_iff_eq.2 g0
   have y5 : (g2 != 0) = false:=by rw [g0];rfl
   refine Wk (Yy k_b4 (Yy k_b6 (Yy k_b8 (Yy n1 (Yy n2 (Yy n3 (Yy n4 (Yy n5 (Yy n6 (Yy y1 y5)))))))))) ?_
   refine cQ (cH2 _) ?_
   refine Wk (Yy k_b4 (Yy k_b6 (Yy k_b8 (Yy n1 (Yy n2 (Yy n3 (Yy n4 (Yy n5 (Yy n6 (Yy y1 (Yy y5 et))))))))))) ?_
   refine cQ (cC2 _) ?_
   refine Wk (Yy k_b4 (Yy k_b6 (Yy k_b8 (Yy n1 (Yy n2 (Yy n3 (Yy n4 (Yy n5 n6)))))))) ?_
   refine cQ (c4 _) ?_
   refine Wk Y0 ?_
   refine endq (S':=S) (sR Y0) (by rfl) (Sto.Sub.refl _).cons.cons.cons.cons
  ·rw [hh] at cH2
   have y1 : (g2 == 0) = false:=beq_eq_false_iff_ne.2 g0
   have y5 : (g2 != 0) = true:=bne_iff_ne.2 g0
   refine Wk (Yy k_b4 (Yy k_b6 (Yy k_b8 (Yy n1 (Yy n2 (Yy n3 (Yy n4 (Yy n5 (Yy n6 (Yy y1 y5)))))))))) ?_
   refine cQ (cH2 _) ?_
   refine Wk (Yy k_b4 (Yy k_b6 (Yy k_b8 (Yy n1 (Yy n2 (Yy n3 (Yy n4 (Yy n5 (Yy n6 (Yy y1 (Yy y5 ef))))))))))) ?_
   refine cQ (c4 _) ?_
   refine Wk Y0 ?_
   refine endq (S':=S) (sR Y0) (by rfl) (Sto.Sub.refl _).cons.cons.cons.cons
 ·refine acalls_of prg Tryz.func8 rfl (by kernel_rfl) (congrArg Array.toList Tryz.results8) Tryz.ntmps8 (fun B hB=>fA ?_)
  refine Wk Y0 ?_
  refine cQ (c1 _) ?_
  refine Wk Y0 ?_
  refine aL fun b3 k_b3 o_b3=>?_
  refine Wk Y0 ?_
  refine cQ (q1 _) ?_
  refine Wk Y0 ?_
  refine aL fun b4 k_b4 o_b4=>?_
  have n1:=nes k_b4.1
  refine Wk (Yy k_b4 n1) ?_
  refine cQ (q2 _) ?_
  refine Wk Y0 ?_
  refine aL fun b6 k_b6 o_b6=>?_
  have n2:=nes k_b6.1
  have n3:=nes k_b6.2.1
  refine Wk (Yy k_b4 (Yy n1 (Yy k_b6 (Yy n2 n3)))) ?_
  refine cQ (q3 _) ?_
  refine Wk Y0 ?_
  refine aL fun b8 k_b8 o_b8=>?_
  have n4:=nes k_b8.1
  have n5:=nes k_b8.2.1
  have n6:=nes k_b8.2.2.1
  refine gG (Yy k_b4 (Yy k_b6 (Yy k_b8 (Yy n1 (Yy n2 (Yy n3 (Yy n4 (Yy n5 n6)))))))) ?_
  refine w6 ?_
  refine AW.cutS 12 [] (fun xs S'=>xs = [] ∧ S' = ⟨(b8,26,clD c) :: (b6,42,ansD a2) :: (b4,42,ansD a1) :: (b3,36,.dg root) :: S.bk,S.ow⟩) ?_ ?_
  ·rcases H1 with ⟨g0,e0,f0,ha,hh,hc⟩ | ⟨g0,hn,hh⟩
   ·rw [hh] at cH
    have y1 : (g == 0) = true:=beq_iff_eq.2 g0
    have y2 : (e == 0) = true:=beq_iff_eq.2 e0
    have y3 : (f == 0) = true:=beq_iff_eq.2 f0
    have y4:=ans_beq a1 a2
    rw [decide_eq_false ha] at y4
    refine Wk (Yy k_b4 (Yy k_b6 (Yy k_b8 (Yy n1 (Yy n2 (Yy n3 (Yy n4 (Yy n5 (Yy n6 (Yy y1 (Yy y2 (Yy y3 (Yy y4 bt))))))))))))) ?_
    refine cQ (cH _) ?_
    refine Wk (Yy k_b4 (Yy k_b6 (Yy k_b8 (Yy n1 (Yy n2 (Yy n3 (Yy n4 (Yy n5 (Yy n6 bt))))))))) ?_
    exact ⟨[],_,wK,Sto.Sub.refl _,rfl,rfl⟩
   ·rw [hh] at cH
    have y1 : (g == 0) = false:=beq_eq_false_iff_ne.2 g0
    by_cases e0 : e = 0
    case neg=>
     have y2 : (e == 0) = false:=beq_eq_false_iff_ne.2 e0
     refine Wk (Yy k_b4 (Yy k_b6 (Yy k_b8 (Yy n1 (Yy n2 (Yy n3 (Yy n4 (Yy n5 (Yy n6 (Yy y1 (Yy y2 bf))))))))))) ?_
     refine cQ (cH _) ?_
     refine Wk (Yy k_b4 (Yy k_b6 (Yy k_b8 (Yy n1 (Yy n2 (Yy n3 (Yy n4 (Yy n5 (Yy n6 bf))))))))) ?_
     exact ⟨[],_,wK,Sto.Sub.refl _,rfl,rfl⟩
    have y2 : (e == 0) = true:=beq_iff_eq.2 e0
    by_cases f0 : f = 0
    case neg=>
     have y3 : (f == 0) = false:=beq_eq_false_iff_ne.2 f0
     refine Wk (Yy k_b4 (Yy k_b6 (Yy k_b8 (Yy n1 (Yy n2 (Yy n3 (Yy n4 (Yy n5 (Yy n6 (Yy y1 (Yy y2 (Yy y3 bf)))))))))))) ?_
     refine cQ (cH _) ?_
     refine Wk (Yy k_b4 (Yy k_b6 (Yy k_b8 (Yy n1 (Yy n2 (Yy n3 (Yy n4 (Yy n5 (Yy n6 bf))))))))) ?_
     exact ⟨[],_,wK,Sto.Sub.refl _,rfl,rfl⟩
    have y3 : (f == 0) = true:=beq_iff_eq.2 f0
    have ha : a1 = a2:=Classical.byContradiction fun q=>hn ⟨e0,f0,q⟩
    have y4:=ans_beq a1 a2
    rw [decide_eq_true ha] at y4
    refine Wk (Yy k_b4 (Yy k_b6 (Yy k_b8 (Yy n1 (Yy n2 (Yy n3 (Yy n4 (Yy n5 (Yy n6 (Yy y1 (Yy y2 (Yy y3 (Yy y4 bf))))))))))))) ?_
    refine cQ (cH _) ?_
    refine Wk (Yy k_b4 (Yy k_b6 (Yy k_b8 (Yy n1 (Yy n2 (Yy n3 (Yy n4 (Yy n5 (Yy n6 bf))))))))) ?_
    exact ⟨[],_,wK,Sto.Sub.refl _,rfl,rfl⟩
  rintro xs S' ⟨rfl,rfl⟩
  refine fR ?_
  refine AW.cutS 12 [] (fun xs S'=>xs = [] ∧ S' = ⟨(b8,26,clD c) :: (b6,42,ansD a2) :: (b4,42,ansD a1) :: (b3,36,.dg root) :: S.bk,S.ow⟩) ?_ ?_
  ·rcases H1 with ⟨g0,e0,f0,ha,hh,hc⟩ | ⟨g0,hn,hh⟩
   ·rw [hc] at cC
    have y1 : (g == 0) = true:=beq_iff_eq.2 g0
    refine Wk (Yy k_b4 (Yy k_b6 (Yy k_b8 (Yy n1 (Yy n2 (Yy n3 (Yy n4 (Yy n5 (Yy n6 y1))))))))) ?_
    refine cQ (cC _) ?_
    refine Wk Y0 ?_
    exact ⟨[],_,wK,Sto.Sub.refl _,rfl,rfl⟩
   ·have y1 : (g == 0) = false:=beq_eq_false_iff_ne.2 g0
    refine Wk (Yy k_b4 (Yy k_b6 (Yy k_b8 (Yy n1 (Yy n2 (Yy n3 (Yy n4 (Yy n5 (Yy n6 y1))))))))) ?_
    exact ⟨[],_,wK,Sto.Sub.refl _,rfl,rfl⟩
  rintro xs S' ⟨rfl,rfl⟩
  refine fR ?_
  refine Wk (Yy k_b4 (Yy k_b6 (Yy k_b8 (Yy n1 (Yy n2 (Yy n3 (Yy n4 (Yy n5 n6)))))))) ?_
  refine cQ (q4 _) ?_
  refine Wk (Yy k_b4 (Yy k_b6 (Yy k_b8 (Yy n1 (Yy n2 (Yy n3 (Yy n4 (Yy n5 n6)))))))) ?_
  refine cQ (q5 _) ?_
  refine Wk (Yy k_b4 (Yy k_b6 (Yy k_b8 (Yy n1 (Yy n2 (Yy n3 (Yy n4 (Yy n5 n6)))))))) ?_
  refine cQ (q6 _) ?_
  refine gG (Yy k_b4 (Yy k_b6 (Yy k_b8 (Yy n1 (Yy n2 (Yy n3 (Yy n4 (Yy n5 n6)))))))) ?_
  refine w6 ?_
  refine AW.cutS 12 [] (fun xs S'=>xs = [] ∧ S' = ⟨(b8,26,clD c2) :: (b6,42,ansD a2) :: (b4,42,ansD a1) :: (b3,36,.dg root) :: S.bk,S.ow⟩) ?_ ?_
  ·rcases H2 with ⟨g0,e0,f0,ha,hh,hc⟩ | ⟨g0,hn,hh⟩
   ·rw [decide_eq_false ha] at cE
    have y1 : (g2 == 0) = true:=beq_iff_eq.2 g0
    have y2 : (e2 == 0) = true:=beq_iff_eq.2 e0
    have y3 : (f2 == 0) = true:=beq_iff_eq.2 f0
    refine Wk (Yy k_b4 (Yy k_b6 (Yy k_b8 (Yy n1 (Yy n2 (Yy n3 (Yy n4 (Yy n5 (Yy n6 (Yy y1 (Yy y2 y3))))))))))) ?_
    refine cQ (cE _) ?_
    refine Wk (Yy k_b4 (Yy k_b6 (Yy k_b8 (Yy n1 (Yy n2 (Yy n3 (Yy n4 (Yy n5 (Yy n6 bt))))))))) ?_
    exact ⟨[],_,wK,Sto.Sub.refl _,rfl,rfl⟩
   ·have y1 : (g2 == 0) = false:=beq_eq_false_iff_ne.2 g0
    by_cases e0 : e2 = 0
    case neg=>
     have y2 : (e2 == 0) = false:=beq_eq_false_iff_ne.2 e0
     refine Wk (Yy k_b4 (Yy k_b6 (Yy k_b8 (Yy n1 (Yy n2 (Yy n3 (Yy n4 (Yy n5 (Yy n6 (Yy y1 (Yy y2 bf))))))))))) ?_
     exact ⟨[],_,wK,Sto.Sub.refl _,rfl,rfl⟩
    have y2 : (e2 == 0) = true:=beq_iff_eq.2 e0
    by_cases f0 : f2 = 0
    case neg=>
     have y3 : (f2 == 0) = false:=beq_eq_false_iff_ne.2 f0
     refine Wk (Yy k_b4 (Yy k_b6 (Yy k_b8 (Yy n1 (Yy n2 (Yy n3 (Yy n4 (Yy n5 (Yy n6 (Yy y1 (Yy y2 (Yy y3 bf)))))))))))) ?_
     exact ⟨[],_,wK,Sto.Sub.refl _,rfl,rfl⟩
    have y3 : (f2 == 0) = true:=beq_iff_eq.2 f0
    have ha : P1 = P2:=Classical.byContradiction fun q=>hn ⟨e0,f0,q⟩
    rw [decide_eq_true ha] at cE
    refine Wk (Yy k_b4 (Yy k_b6 (Yy k_b8 (Yy n1 (Yy n2 (Yy n3 (Yy n4 (Yy n5 (Yy n6 (Yy y1 (Yy y2 y3))))))))))) ?_
    refine cQ (cE _) ?_
    refine Wk (Yy k_b4 (Yy k_b6 (Yy k_b8 (Yy n1 (Yy n2 (Yy n3 (Yy n4 (Yy n5 (Yy n6 bf))))))))) ?_
    exact ⟨[],_,wK,Sto.Sub.refl _,rfl,rfl⟩
  rintro xs S' ⟨rfl,rfl⟩
  refine fR ?_
  rcases H2 with ⟨g0,e0,f0,ha,hh,hc⟩ | ⟨g0,hn,hh⟩
  ·rw [hh] at cH2
   rw [hc] at cC2
   have y1 : (g2 == 0) = true:=beq_iff_eq.2 g0
   have y5 : (g2 != 0) = false:=by rw [g0];rfl
   refine Wk (Yy k_b4 (Yy k_b6 (Yy k_b8 (Yy n1 (Yy n2 (Yy n3 (Yy n4 (Yy n5 (Yy n6 (Yy y1 y5)))))))))) ?_
   refine cQ (cH2 _) ?_
   refine Wk (Yy k_b4 (Yy k_b6 (Yy k_b8 (Yy n1 (Yy n2 (Yy n3 (Yy n4 (Yy n5 (Yy n6 (Yy y1 (Yy y5 et))))))))))) ?_
   refine cQ (cC2 _) ?_
   refine Wk (Yy k_b4 (Yy k_b6 (Yy k_b8 (Yy n1 (Yy n2 (Yy n3 (Yy n4 (Yy n5 n6)))))))) ?_
   refine cQ (c4 _) ?_
   refine Wk Y0 ?_
   refine endq (S':=S) (sR Y0) (by rfl) (Sto.Sub.refl _).cons.cons.cons.cons
  ·rw [hh] at cH2
   have y1 : (g2 == 0) = false:=beq_eq_false_iff_ne.2 g0
   have y5 : (g2 != 0) = true:=bne_iff_ne.2 g0
   refine Wk (Yy k_b4 (Yy k_b6 (Yy k_b8 (Yy n1 (Yy n2 (Yy n3 (Yy n4 (Yy n5 (Yy n6 (Yy y1 y5)))))))))) ?_
   refine cQ (cH2 _) ?_
   refine Wk (Yy k_b4 (Yy k_b6 (Yy k_b8 (Yy n1 (Yy n2 (Yy n3 (Yy n4 (Yy n5 (Yy n6 (Yy y1 (Yy y5 ef))))))))))) ?_
   refine cQ (c4 _) ?_
   refine Wk Y0 ?_
   refine endq (S':=S) (sR Y0) (by rfl) (Sto.Sub.refl _).cons.cons.cons.cons

end Go.Proofs.YtcaggadjkccbiaaGreat