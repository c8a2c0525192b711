/- A question that comes in is opened. -/
import Derived.Test.YtcaggadjkccbiaaGreatRows
import Derived.Test.YtcaggadjkccbiaaGreatZ28
import Derived.Test.YtcaggadjkccbiaaGreatZ48
import Derived.Test.YtcaggadjkccbiaaGreatZ50
namespace Go.Proofs.YtcaggadjkccbiaaGreat
set_option linter.unusedVariables false
set_option linter.unusedSimpArgs false
open Go Go.RowKit Go.ChangeShapes Go.WideShapes Go.Deep Go.Joins

theorem bulk_one {H : Type} (d : DataW H) : 1 ≤ Rows.uptoBulk d:=by
 cases d with
 | lit l=>cases l <;> simp [Rows.uptoBulk]
 | _=>simp [Rows.uptoBulk]
theorem bulk_len {H : Type} : ∀ ds : List (DataW H),ds.length ≤ Rows.uptoBulkAll ds
 | []=>Nat.zero_le _
 | d :: r=>by
  have h1:=bulk_one d
  have h2:=bulk_len r
  simp only [List.length_cons,Rows.uptoBulkAll];omega

section
variable {H : Type} {enc : TypeId × Value → H} {P : Program} {w : World} {base : Nat} {spare : Nat → Bool} {held : Bool}
theorem open_bytes {t e : TypeId} {fuel : Nat} {cs : List Value} {x : DataW H × List MemPlace} (ht : P.underlying t = some (.slice e)) (he : P.underlying e = some (.int .u8)) (hc : P.cellsOf e = 1) (h : DataW.trod enc P w base spare held fuel t cs = some x) :
  ∃ (a : Option Addr) (l : Bs) (cap : Nat) (rt : D),cs = [.slice a l.length cap] ∧ l.length ≤ Rows.uptoBulk x.1 ∧ RtOk rt l ∧ RV w noS.I rt [.slice a l.length cap]:=by
 rcases DataW.trod_slice ht h with ⟨rfl,rfl⟩ | ⟨a,len,cap,elems,rest,n,_,rfl,rfl,hb,hl,hm,hlen,hel,_,_⟩
 ·refine ⟨none,[],0,byD [],rfl,Nat.zero_le _,.inl rfl,?_⟩
  exact RV.mk_list (z:=1) (fun e h=>by cases h) (Nat.le_refl _) (fun _=>⟨rfl,rfl⟩) (fun x h=>by cases h) (fun i e h=>by simp at h)
 ·by_cases h0 : len = 0
  ·subst h0
   refine ⟨some a,[],cap,.v (.slice (some a) 0 cap),rfl,Nat.zero_le _,.inr ⟨rfl,_,_,rfl⟩,?_⟩
   unfold RV
   exact ⟨rfl,rfl⟩
  have each : ∀ i,i < len → ∃ u : UInt8,w.cell? (a.add i) = some (.int .u8 (u.toNat : Int)):=by
   intro i hi
   have h1:=hel i hi
   rw [List.getElem?_eq_getElem (by omega)] at h1
   obtain ⟨cs',hcs,hd⟩:=Option.bind_eq_some_iff.1 h1
   rw [hc,Nat.mul_one] at hcs
   obtain ⟨z,rfl,_,hwf⟩:=DataW.trod_int he hd
   have hr : 0 ≤ z ∧ z < 256:=by
    simp [Lit.wf,IntKind.min,IntKind.max,IntKind.bits,IntKind.signed] at hwf
    omega
   refine ⟨UInt8.ofNat z.toNat,?_⟩
   rw [cells1 hcs]
   congr 2
   rw [UInt8.toNat_ofNat_of_lt' (by simp [UInt8.size];omega)]
   omega
  obtain ⟨f,hf⟩:=choose_lt each
  have hsp:=spot_none (hf 0 (by omega))
  have ha : a = ⟨a.block,a.off,none⟩:=by
   have:=hsp.1
   obtain ⟨b,o,sp⟩:=a
   simp only [Addr.add,Nat.add_zero] at this
   exact this
  have hlt : a.block < w.heap.size:=by have:=hsp.2;simpa [Addr.add] using this
  have hlen2 : ((List.range len).map f).length = len:=by simp
  refine ⟨some a,(List.range len).map f,cap,byD ((List.range len).map f),by rw [hlen2],?_,.inl rfl,?_⟩
  ·rw [hlen2]
   have:=bulk_len (elems.map (·.1))
   rw [List.length_map] at this
   simp only [Rows.uptoBulk]
   omega
  ·have hz : ∀ e ∈ ((List.range len).map f).map (fun x : UInt8=>D.v (.int .u8 x.toNat)),e.size = 1:=fun e he=>by
    obtain ⟨u,_,rfl⟩:=List.mem_map.1 he
    rfl
   have:=RV.mk_list (w:=w) (I:=noS.I) (a:=some a) (c:=cap) hz (by simp;omega) (fun h=>by cases h) (fun x h=>by
    simp only [Option.some.injEq] at h
    subst h
    exact ⟨by rw [ha],hlt,noS_I _ _⟩) (fun i e h=>by
    have hi : i < len:=by
     rcases Nat.lt_or_ge i len with h1 | h1
     ·exact h1
     ·simp [List.getElem?_eq_none (show (List.range len).length ≤ i by simpa using h1)] at h
    simp only [List.getElem?_map,List.getElem?_range hi,Option.map_some,Option.some.injEq] at h
    subst h
    refine ⟨a.block,a.off,[.int .u8 ((f i).toNat : Int)],by rw [← ha],by unfold RV;exact ⟨rfl,rfl⟩,?_⟩
    intro j v hj
    cases j with
    | zero=>
     simp only [List.getElem?_cons_zero,Option.some.injEq] at hj
     subst hj
     have hc2:=hf i hi
     rw [ha,Addr.add_lit] at hc2
     simpa using hc2
    | succ j=>simp at hj)
   rw [List.length_map] at this
   exact this
theorem open_str {t : TypeId} (ht : P.underlying t = some .string) {n : Nat} {cs : List Value} {y : DataW H × List MemPlace} (h : DataW.trod enc P w base spare held n t cs = some y) :
  ∃ l : Bs,cs = [.string ⟨l.toArray⟩] ∧ l.length ≤ Rows.uptoBulk y.1:=by
 obtain ⟨s,rfl,rfl,_⟩:=DataW.trod_string ht h
 exact ⟨s.data.toList,by simp,by simp [Rows.uptoBulk]⟩
end

theorem ask_struct : ∃ f0 f1 f2 f3 f4 f5 f6,Tryz.prog.underlying 31 = some (.struct #[f0,f1,f2,f3,f4,f5,f6]) ∧ (f0.type = 24 ∧ f1.type = 29 ∧ f2.type = 9 ∧ f3.type = 9 ∧ f4.type = 9 ∧ f5.type = 9 ∧ f6.type = 9) ∧
  f0.offset = 0 ∧ f1.offset = 2 ∧ f2.offset = 3 ∧ f3.offset = 4 ∧ f4.offset = 5 ∧ f5.offset = 6 ∧ f6.offset = 7:=⟨_,_,_,_,_,_,_,Tryz.underlying31,⟨rfl,rfl,rfl,rfl,rfl,rfl,rfl⟩,rfl,rfl,rfl,rfl,rfl,rfl,rfl⟩

section
variable {H : Type} {enc : TypeId × Value → H} {w : World} {base : Nat} {spare : Nat → Bool} {held : Bool}
theorem agg_cells {v : Value} {us : List Value} (h : v.cells.toList = us) (hl : 2 ≤ us.length) : v = .agg us.toArray:=by
 subst h
 cases v <;> simp [Value.cells] at hl ⊢
theorem open_ask {v : Value} {d : DataW H} {p : List MemPlace} (h : DataW.Trod enc Tryz.prog w base spare held 31 v d p) (hb : Rows.uptoBulk d ≤ 1048576) :
  ∃ (pg wd : Int) (rt : D) (rb key lo hi x y : Bs),RVal w noS.I (askD pg wd rt key lo hi x y) v ∧ RtOk rt rb ∧ rb.length ≤ 1048576 ∧ key.length ≤ 1048576 ∧ lo.length ≤ 1048576 ∧ hi.length ≤ 1048576 ∧ x.length ≤ 1048576 ∧ y.length ≤ 1048576:=by
 obtain ⟨fuel,hf⟩:=h
 obtain ⟨f0,f1,f2,f3,f4,f5,f6,hu,⟨e0,e1,e2,e3,e4,e5,e6⟩,o0,o1,o2,o3,o4,o5,o6⟩:=ask_struct
 obtain ⟨xs,n,_,hx,hl,hlen,hfs⟩:=DataW.trod_struct hu hf
 simp only [Prod.mk.injEq] at hx
 match xs,hlen with
 | [y0,y1,y2,y3,y4,y5,y6],_=>
  have hc : Tryz.prog.cellsOf 31 = 8:=by kernel_rfl
  have hi0 : Tryz.prog.cellsOf 24 = 2:=by kernel_rfl
  have hi1 : Tryz.prog.cellsOf 29 = 1:=by kernel_rfl
  have hi2 : Tryz.prog.cellsOf 9 = 1:=by kernel_rfl
  have h0:=hfs 0 f0 rfl
  have h1:=hfs 1 f1 rfl
  have h2:=hfs 2 f2 rfl
  have h3:=hfs 3 f3 rfl
  have h4:=hfs 4 f4 rfl
  have h5:=hfs 5 f5 rfl
  have h6:=hfs 6 f6 rfl
  rw [e0,o0,hi0] at h0
  rw [e1,o1,hi1] at h1
  rw [e2,o2,hi2] at h2
  rw [e3,o3,hi2] at h3
  rw [e4,o4,hi2] at h4
  rw [e5,o5,hi2] at h5
  rw [e6,o6,hi2] at h6
  rw [hc] at hl
  rw [hx.1] at hb
  simp only [List.map_cons,List.map_nil,Rows.uptoBulk,Rows.uptoBulkAll] at hb
  obtain ⟨g0,g1,hu2,q0,q1,p0,p1⟩:=frame_struct
  obtain ⟨z0,z1,m,hz,hzl,k0,k1⟩:=trod_struct2 hu2 h0
  have hci : Tryz.prog.cellsOf 3 = 1:=by kernel_rfl
  rw [q0,p0,hci] at k0
  rw [q1,p1,hci] at k1
  obtain ⟨pg,r0,_,_⟩:=DataW.trod_int Tryz.underlying3 k0
  obtain ⟨wd,r1,_,_⟩:=DataW.trod_int Tryz.underlying3 k1
  obtain ⟨a,rb,cap,rt,s1,b1,ok,rv⟩:=open_bytes (w:=w) Tryz.underlying29 Tryz.underlying5 (by kernel_rfl) h1
  obtain ⟨key,s2,b2⟩:=open_str Tryz.underlying9 h2
  obtain ⟨lo,s3,b3⟩:=open_str Tryz.underlying9 h3
  obtain ⟨hi,s4,b4⟩:=open_str Tryz.underlying9 h4
  obtain ⟨x,s5,b5⟩:=open_str Tryz.underlying9 h5
  obtain ⟨y,s6,b6⟩:=open_str Tryz.underlying9 h6
  refine ⟨pg,wd,rt,rb,key,lo,hi,x,y,?_,ok,by omega,by omega,by omega,by omega,by omega,by omega⟩
  have hv : v = .agg [.int .i64 pg,.int .i64 wd,.slice a rb.length cap,.string ⟨key.toArray⟩,.string ⟨lo.toArray⟩,.string ⟨hi.toArray⟩,.string ⟨x.toArray⟩,.string ⟨y.toArray⟩].toArray:=by
   refine agg_cells ?_ (by simp)
   clear hf hfs h0 h1 h2 h3 h4 h5 h6 k0 k1 hb rv ok
   generalize v.cells.toList = cs at *
   match cs,hl with
   | [c0,c1,c2,c3,c4,c5,c6,c7],_=>
    simp at r0 r1 s1 s2 s3 s4 s5 s6
    rw [r0,r1,s1,s2,s3,s4,s5,s6]
  rw [hv]
  unfold askD RVal
  refine ⟨_,rfl,?_⟩
  have mk : ∀ {d : D} {ds : List D} {xs ys : List Value},RV w noS.I d xs → RVs w noS.I ds ys → RVs w noS.I (d :: ds) (xs ++ ys):=fun h1 h2=>by unfold RVs;exact ⟨_,_,rfl,h1,h2⟩
  have st : ∀ l : Bs,RV w noS.I (sD l) [.string ⟨l.toArray⟩]:=fun l=>by unfold RV;exact ⟨rfl,rfl⟩
  have i : ∀ m : Int,RV w noS.I (iD m) [.int .i64 m]:=fun m=>by unfold RV;exact ⟨rfl,rfl⟩
  have nl : RVs w noS.I [] []:=by unfold RVs;rfl
  exact mk (xs:=[_,_]) (by unfold RV;exact mk (xs:=[_]) (i _) (mk (xs:=[_]) (i _) nl)) (mk (xs:=[_]) rv (mk (xs:=[_]) (st _) (mk (xs:=[_]) (st _) (mk (xs:=[_]) (st _) (mk (xs:=[_]) (st _) (mk (xs:=[_]) (st _) nl))))))
end

end Go.Proofs.YtcaggadjkccbiaaGreat
namespace Go.Proofs.YtcaggadjkccbiaaGreat
set_option maxHeartbeats 1000000
set_option maxRecDepth 100000
set_option linter.unusedVariables false
set_option linter.unusedSimpArgs false
open Go Go.RowKit

@[go_sem] def plD (w : List Nat) (no : Int) (sum : Dg) (lo hi : Option Bs) : D:=.agg [.sl .none (w.map natD),.v (.int .u32 no),.dg sum,sD (lo.getD []),sD (hi.getD []),bD lo.isSome,bD hi.isSome]
theorem aPWithin0 (w : List Nat) (no : Int) (sum : Dg) (a c : Bool) (l h : Bs) (n : Nd) (S : Sto) (ho : NdOk n) : ACalls Tryz.prog 106 [.agg [.sl .none (w.map natD),.v (.int .u32 no),.dg sum,sD l,sD h,bD a,bD c],ndA n] S
  (RetQ (bD ((n.pairs.all fun q=>!((a && Op.bytesLess q.1 l) || (c && !Op.bytesLess q.1 h))) && (n.seps.all fun s=>!((a && (Op.bytesLess s l || s == l)) || (c && !Op.bytesLess s h))))) S):=by
 have hnp:=ho.np
 have hns:=ho.ns
 obtain ⟨G,hG⟩ : ∃ G,((n.pairs.all fun q=>!((a && Op.bytesLess q.1 l) || (c && !Op.bytesLess q.1 h))) && (n.seps.all fun s=>!((a && (Op.bytesLess s l || s == l)) || (c && !Op.bytesLess s h)))) = G:=⟨_,rfl⟩
 rw [hG]
 refine acalls_of prg Tryz.func106 rfl (by kernel_rfl) (congrArg Array.toList Tryz.results106) Tryz.ntmps106 (fun B hB=>fA ?_)
 refine Wk Y0 ?_
 refine AW.loopS 8 [5,6] (fun xs S'=>∃ i : Nat,xs = [iD i,.any] ∧ S' = S ∧ i ≤ n.pairs.length ∧ ∀ q ∈ n.pairs.take i,(!((a && Op.bytesLess q.1 l) || (c && !Op.bytesLess q.1 h))) = true) (fun xs _=>n.pairs.length - nI (xs.getD 0 .any)) [iD 0,.any] S ?_ (Sto.Sub.refl _) ⟨0,rfl,rfl,by omega,by simp⟩ ?_
 ·exact wK
 rintro xs S' ⟨i,rfl,rfl,hi1,hq⟩
 refine fR ?_
 by_cases hlt : i < n.pairs.length
 ·obtain ⟨x,hx⟩ : ∃ x,n.pairs[i]? = some x:=⟨_,List.getElem?_eq_getElem hlt⟩
  have d1 : decide ((i : Int) < n.pairs.length) = true:=decide_eq_true (by omega)
  have hgt : (n.pairs.map prD)[i]? = some (prD x):=by rw [List.getElem?_map,hx];rfl
  have g0 : (0 : Int) ≤ i:=by omega
  have f1 : IntKind.i64.wrap ((i : Int) + 1) = ((i + 1 : Nat) : Int):=IntWalk.i64_in _ (by omega)
  by_cases hout : ((a && Op.bytesLess x.1 l) || (c && !Op.bytesLess x.1 h)) = true
  ·have hf : G = false:=by
    rw [← hG,Bool.and_eq_false_iff]
    left
    rw [List.all_eq_false]
    exact ⟨x,List.mem_of_getElem? hx,by rw [hout];simp⟩
   subst hf
   clear hG hq
   cases a <;> cases hb : Op.bytesLess x.1 l <;> cases c <;> cases hd : Op.bytesLess x.1 h <;> (first | exact absurd hout (by rw [hb,hd];decide) | skip)
   all_goals refine Wk (Yy d1 (Yy hgt (Yy g0 (Yy Int.toNat_natCast (Yy hb hd))))) ?_
   all_goals exact rE
  ·have hin : ∀ q ∈ n.pairs.take (i + 1),(!((a && Op.bytesLess q.1 l) || (c && !Op.bytesLess q.1 h))) = true:=fun q hmem=>by
    rw [List.take_add_one,hx] at hmem
    rcases List.mem_append.1 hmem with h1 | h1
    ·exact hq q h1
    ·simp only [Option.toList_some,List.mem_singleton] at h1;subst h1;rw [(Bool.not_eq_true _).mp hout];rfl
   clear hG hq
   have hout : ((a && Op.bytesLess x.1 l) || (c && !Op.bytesLess x.1 h)) = false:=(Bool.not_eq_true _).mp hout
   cases a <;> cases hb : Op.bytesLess x.1 l <;> cases c <;> cases hd : Op.bytesLess x.1 h <;> (first | exact absurd hout (by rw [hb,hd];decide) | skip)
   all_goals refine Wk (Yy d1 (Yy hgt (Yy g0 (Yy Int.toNat_natCast (Yy hb (Yy hd f1)))))) ?_
   all_goals refine ⟨[iD (i + 1 : Nat),.any],S',?_,Sto.Sub.refl _,⟨i + 1,rfl,rfl,by omega,hin⟩,by exact mE⟩
   all_goals exact wK
 obtain rfl : i = n.pairs.length:=by omega
 have d1 : decide ((n.pairs.length : Int) < n.pairs.length) = false:=decide_eq_false (by omega)
 rw [List.take_length] at hq
 rw [List.all_eq_true.2 hq,Bool.true_and] at hG
 refine Wk d1 ?_
 refine AW.loopS 8 [7] (fun xs S2=>∃ i : Nat,xs = [iD i] ∧ S2 = S' ∧ i ≤ n.seps.length ∧ ∀ s ∈ n.seps.take i,(!((a && (Op.bytesLess s l || s == l)) || (c && !Op.bytesLess s h))) = true) (fun xs _=>n.seps.length - nI (xs.getD 0 .any)) [iD 0] S' ?_ (Sto.Sub.refl _) ⟨0,rfl,rfl,by omega,by simp⟩ ?_
 ·exact wK
 rintro xs S2 ⟨i,rfl,rfl,hi1,hq2⟩
 refine fR ?_
 by_cases hlt : i < n.seps.length
 ·obtain ⟨x,hx⟩ : ∃ x,n.seps[i]? = some x:=⟨_,List.getElem?_eq_getElem hlt⟩
  have d1 : decide ((i : Int) < n.seps.length) = true:=decide_eq_true (by omega)
  have hgt : (n.seps.map sD)[i]? = some (sD x):=by rw [List.getElem?_map,hx];rfl
  have g0 : (0 : Int) ≤ i:=by omega
  have f1 : IntKind.i64.wrap ((i : Int) + 1) = ((i + 1 : Nat) : Int):=IntWalk.i64_in _ (by omega)
  by_cases hout : ((a && (Op.bytesLess x l || x == l)) || (c && !Op.bytesLess x h)) = true
  ·have hf : G = false:=by
    rw [← hG,List.all_eq_false]
    exact ⟨x,List.mem_of_getElem? hx,by rw [hout];simp⟩
   subst hf
   clear hG hq hq2
   cases a <;> cases hb : (Op.bytesLess x l || x == l) <;> cases c <;> cases hd : Op.bytesLess x h <;> (first | exact absurd hout (by rw [hb,hd];decide) | skip)
   all_goals refine Wk (Yy d1 (Yy hgt (Yy g0 (Yy Int.toNat_natCast (Yy hb hd))))) ?_
   all_goals exact rE
  ·have hin : ∀ s ∈ n.seps.take (i + 1),(!((a && (Op.bytesLess s l || s == l)) || (c && !Op.bytesLess s h))) = true:=fun q hmem=>by
    rw [List.take_add_one,hx] at hmem
    rcases List.mem_append.1 hmem with h1 | h1
    ·exact hq2 q h1
    ·simp only [Option.toList_some,List.mem_singleton] at h1;subst h1;rw [(Bool.not_eq_true _).mp hout];rfl
   clear hG hq hq2
   have hout : ((a && (Op.bytesLess x l || x == l)) || (c && !Op.bytesLess x h)) = false:=(Bool.not_eq_true _).mp hout
   cases a <;> cases hb : (Op.bytesLess x l || x == l) <;> cases c <;> cases hd : Op.bytesLess x h <;> (first | exact absurd hout (by rw [hb,hd];decide) | skip)
   all_goals refine Wk (Yy d1 (Yy hgt (Yy g0 (Yy Int.toNat_natCast (Yy hb (Yy hd f1)))))) ?_
   all_goals refine ⟨[iD (i + 1 : Nat)],S2,?_,Sto.Sub.refl _,⟨i + 1,rfl,rfl,by omega,hin⟩,by exact mE⟩
   all_goals exact wK
 obtain rfl : i = n.seps.length:=by omega
 have d1 : decide ((n.seps.length : Int) < n.seps.length) = false:=decide_eq_false (by omega)
 rw [List.take_length] at hq2
 rw [List.all_eq_true.2 hq2] at hG
 subst hG
 refine Wk d1 ?_
 exact rE
theorem aPWithin (w : List Nat) (no : Int) (sum : Dg) (lo hi : Option Bs) (n : Nd) (S : Sto) (ho : NdOk n) : ACalls Tryz.prog 106 [plD w no sum lo hi,ndA n] S (RetQ (bD (keptB lo hi n)) S):=by
 have:=aPWithin0 w no sum lo.isSome hi.isSome (lo.getD []) (hi.getD []) n S ho
 have e1 : (fun q : Pr=>!((lo.isSome && Op.bytesLess q.1 (lo.getD [])) || (hi.isSome && !Op.bytesLess q.1 (hi.getD [])))) = fun q=>inB lo hi q.1 false:=by
  funext q;have:=outK_in lo hi q.1;unfold outK at this;rw [this,Bool.not_not]
 have e2 : (fun s : Bs=>!((lo.isSome && (Op.bytesLess s (lo.getD []) || s == lo.getD [])) || (hi.isSome && !Op.bytesLess s (hi.getD [])))) = fun s=>inB lo hi s true:=by
  funext q;have:=outS_in lo hi q;unfold outS at this;rw [this,Bool.not_not]
 rw [e1,e2] at this
 exact this


theorem untag_pl (t : Tag) (w : List Nat) (i : Nat) (no : Int) (sum : Dg) (l h : Bs) (a c : Bool) : untag (oneOf [.agg [.sl t (w.map natD ++ [iD i]),.v (.int .u32 no),.dg sum,sD l,sD h,bD a,bD c]]) = .agg [.sl .none ((w ++ [i]).map natD),.v (.int .u32 no),.dg sum,sD l,sD h,bD a,bD c]:=by
 have : untags (w.map natD ++ [iD i]) = (w ++ [i]).map natD:=by rw [← untags_nat (w ++ [i]),List.map_append];rfl
 simp only [oneOf,untag,untags,this]
 rw [List.map_append]
 rfl
theorem aPBelow (w : List Nat) (no : Int) (sum : Dg) (lo hi : Option Bs) (n : Nd) (i : Nat) (kd : Kd) (S : Sto) (ho : NdOk n) (hk : n.kids[i]? = some kd) (hi1 : i ≤ n.seps.length) (hw : w.length ≤ 1000) :
  ACalls Tryz.prog 107 [plD w no sum lo hi,ndA n,iD i] S (RetQ (plD (w ++ [i]) kd.page kd.sum (belowLo lo n i) (belowHi hi n i)) S):=by
 have hns:=ho.ns
 have e0 : (0 : Int) ≤ i:=by omega
 have gk : (n.kids.map kdD)[i]? = some (kdD kd):=by rw [List.getElem?_map,hk];rfl
 unfold plD
 refine acalls_of prg Tryz.func107 rfl (by kernel_rfl) (congrArg Array.toList Tryz.results107) Tryz.ntmps107 (fun B hB=>fA ?_)
 refine Wk Y0 ?_
 refine aL fun b6 k_b6 o_b6=>?_
 refine Wk Y0 ?_
 refine aL fun b7 k_b7 o_b7=>?_
 have n1:=nes k_b7.1
 refine gG (Yy k_b7 n1) ?_
 refine w6 ?_
 refine w3 ?_
 refine w4 ?_
 refine gG Y0 ?_
 refine w6 ?_
 refine AW.cutS 9 [8] (fun xs S'=>∃ (tg : Tag) (ow1 : List (Nat × Nat)),xs = [.sl tg (w.map natD)] ∧ S' = ⟨(b7,128,plD w no sum lo hi) :: (b6,128,.agg [.sl .nil [],.v (.int .u32 0),.dg Dg.zero,sD [],sD [],bD false,bD false]) :: S.bk,ow1⟩ ∧ G1 S.ow ow1 3 1 tg (w.map natD)) ?_ ?_
 ·by_cases hw0 : w = []
  ·subst hw0
   refine Wk Y0 ?_
   refine AOps.append0 prg (by rfl) (by rfl) (by rfl) (by rfl) (by rfl) (by rfl) ?_
   refine Wk Y0 ?_
   exact ⟨[_],_,wK,Sto.Sub.refl _,.nil,S.ow,rfl,rfl,G1.nil _ _ _⟩
  ·refine Wk Y0 ?_
   refine wap 3 1 8 ?_ ?_ ?_ (fun g _ hgo=>?_) (hn:=by simpa using hw0)
   ·exact sz_map (f:=natD) (l:=[]) (fun _=>rfl) (fun d hd=>by obtain ⟨_,_,rfl⟩:=List.mem_map.1 hd;rfl)
   ·exact (G1.nil S.ow 3 1).may
   ·simp only [List.length_nil,List.length_map];omega
   have hg:=(G1.nil S.ow 3 1).add (ns:=w.map natD) hgo
   rw [List.nil_append,List.length_map] at hg
   refine Wk Y0 ?_
   exact ⟨[_],_,wK,Sto.Sub.refl _,.own g 3 1,_,rfl,rfl,hg⟩
 rintro xs S' ⟨tg,ow1,rfl,rfl,hg⟩
 refine fR ?_
 refine Wk Y0 ?_
 refine wap 3 1 8 ?_ ?_ ?_ (fun g _ hgo=>?_)
 ·exact sz_map (f:=natD) (fun _=>rfl) (fun d hd=>by simp only [List.mem_singleton] at hd;subst hd;rfl)
 ·exact hg.may
 ·rw [List.length_map];simp only [List.length_singleton];omega
 have hg3:=hg.add (ns:=[iD i]) hgo
 by_cases h1 : 0 < i
 ·obtain ⟨x,hx⟩ : ∃ x,n.seps[i - 1]? = some x:=⟨_,List.getElem?_eq_getElem (by omega)⟩
  have d1 : decide ((i : Int) > 0) = true:=decide_eq_true (by omega)
  have f1 : IntKind.i64.wrap ((i : Int) - 1) = ((i - 1 : Nat) : Int):=by rw [IntWalk.i64_in _ (by omega)];omega
  have g1 : (n.seps.map sD)[i - 1]? = some (sD x):=by rw [List.getElem?_map,hx];rfl
  have g0 : (0 : Int) ≤ ((i - 1 : Nat) : Int):=by omega
  by_cases h2 : i < n.seps.length
  ·obtain ⟨y,hy⟩ : ∃ y,n.seps[i]? = some y:=⟨_,List.getElem?_eq_getElem h2⟩
   have d2 : decide ((i : Int) < n.seps.length) = true:=decide_eq_true (by omega)
   have g2 : (n.seps.map sD)[i]? = some (sD y):=by rw [List.getElem?_map,hy];rfl
   rw [show belowLo lo n i = some x from by unfold belowLo;rw [if_pos h1,hx],show belowHi hi n i = some y from by unfold belowHi;rw [if_pos h2,hy]]
   refine Wk (Yy e0 (Yy Int.toNat_natCast (Yy gk (Yy k_b7 (Yy n1 (Yy d1 (Yy d2 (Yy f1 (Yy g1 (Yy g0 g2)))))))))) ?_
   refine enduq (S':=S) (sR (Yy k_b7 n1)) (untag_pl _ _ _ _ _ _ _ _ _) ⟨((List.Sublist.refl _).cons _).cons _,hg3.sub⟩
  ·have d2 : decide ((i : Int) < n.seps.length) = false:=decide_eq_false (by omega)
   rw [show belowLo lo n i = some x from by unfold belowLo;rw [if_pos h1,hx],show belowHi hi n i = hi from by unfold belowHi;rw [if_neg h2]]
   refine Wk (Yy e0 (Yy Int.toNat_natCast (Yy gk (Yy k_b7 (Yy n1 (Yy d1 (Yy d2 (Yy f1 (Yy g1 g0))))))))) ?_
   refine enduq (S':=S) (sR (Yy k_b7 n1)) (untag_pl _ _ _ _ _ _ _ _ _) ⟨((List.Sublist.refl _).cons _).cons _,hg3.sub⟩
 ·have d1 : decide ((i : Int) > 0) = false:=decide_eq_false (by omega)
  by_cases h2 : i < n.seps.length
  ·obtain ⟨y,hy⟩ : ∃ y,n.seps[i]? = some y:=⟨_,List.getElem?_eq_getElem h2⟩
   have d2 : decide ((i : Int) < n.seps.length) = true:=decide_eq_true (by omega)
   have g2 : (n.seps.map sD)[i]? = some (sD y):=by rw [List.getElem?_map,hy];rfl
   rw [show belowLo lo n i = lo from by unfold belowLo;rw [if_neg h1],show belowHi hi n i = some y from by unfold belowHi;rw [if_pos h2,hy]]
   refine Wk (Yy e0 (Yy Int.toNat_natCast (Yy gk (Yy k_b7 (Yy n1 (Yy d1 (Yy d2 g2))))))) ?_
   refine enduq (S':=S) (sR (Yy k_b7 n1)) (untag_pl _ _ _ _ _ _ _ _ _) ⟨((List.Sublist.refl _).cons _).cons _,hg3.sub⟩
  ·have d2 : decide ((i : Int) < n.seps.length) = false:=decide_eq_false (by omega)
   rw [show belowLo lo n i = lo from by unfold belowLo;rw [if_neg h1],show belowHi hi n i = hi from by unfold belowHi;rw [if_neg h2]]
   refine Wk (Yy e0 (Yy Int.toNat_natCast (Yy gk (Yy k_b7 (Yy n1 (Yy d1 d2)))))) ?_
   refine enduq (S':=S) (sR (Yy k_b7 n1)) (untag_pl _ _ _ _ _ _ _ _ _) ⟨((List.Sublist.refl _).cons _).cons _,hg3.sub⟩

end Go.Proofs.YtcaggadjkccbiaaGreat