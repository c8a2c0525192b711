/- A question that comes in is opened. -/
import Derived.Test.YtcaggadjkccbiaaGreatRows
import Derived.Test.YtcaggadjkccbiaaGreatZ26
import Derived.Test.YtcaggadjkccbiaaGreatZ45
import Derived.Test.YtcaggadjkccbiaaGreatZ50
namespace Go.Proofs.YtcaggadjkccbiaaGreat
set_option linter.unusedVariables false
set_option linter.unusedSimpArgs false
open Go Go.RowKit Go.ChangeShapes Go.WideShapes Go.Deep Go.Joins

theorem bulk_one {H:Type} (d:DataW H):1≤Rows.uptoBulk d:=by
 cases d with
 | lit l=>cases l <;> simp [Rows.uptoBulk]
 | _=>simp [Rows.uptoBulk]
theorem bulk_len {H:Type}:∀ ds:List (DataW H),ds.length≤Rows.uptoBulkAll ds
 | []=>Nat.zero_le _
 | d::r=>by
  have h1:=bulk_one d
  have h2:=bulk_len r
  simp only [List.length_cons,Rows.uptoBulkAll];omega

section
variable {H : Type} {enc : TypeId × Value → H} {P : Program} {w : World} {base : Nat} {spare : Nat → Bool} {held : Bool}
theorem open_bytes {t e:TypeId} {fuel:Nat} {cs:List Value} {x:DataW H×List MemPlace} (ht:P.underlying t=some (.slice e)) (he:P.underlying e=some (.int .u8)) (hc:P.cellsOf e=1) (h:DataW.trod enc P w base spare held fuel t cs=some x) :
  ∃ (a:Option Addr) (l:Bs) (cap:Nat) (rt:D),cs=[.slice a l.length cap]∧l.length≤Rows.uptoBulk x.1∧RtOk rt l∧RV w noS.I rt [.slice a l.length cap]:=by
 rcases DataW.trod_slice ht h with ⟨rfl,rfl⟩ | ⟨a,len,cap,elems,rest,n,_,rfl,rfl,hb,hl,hm,hlen,hel,_,_⟩
 ·refine ⟨none,[],0,byD [],rfl,Nat.zero_le _,.inl rfl,?_⟩
  exact RV.mk_list (z:=1) (fun e h=>by cases h) (Nat.le_refl _) (fun _=>⟨rfl,rfl⟩) (fun x h=>by cases h) (fun i e h=>by simp at h)
 ·by_cases h0:len=0
  ·subst h0
   refine ⟨some a,[],cap,.v (.slice (some a) 0 cap),rfl,Nat.zero_le _,.inr ⟨rfl,_,_,rfl⟩,?_⟩
   unfold RV
   exact ⟨rfl,rfl⟩
  have each:∀ i,i<len→∃ u:UInt8,w.cell? (a.add i)=some (.int .u8 (u.toNat:Int)):=by
   intro i hi
   have h1:=hel i hi
   rw [List.getElem?_eq_getElem (by omega)] at h1
   obtain ⟨cs',hcs,hd⟩:=Option.bind_eq_some_iff.1 h1
   rw [hc,Nat.mul_one] at hcs
   obtain ⟨z,rfl,_,hwf⟩:=DataW.trod_int he hd
   have hr:0≤z∧z<256:=by
    simp [Lit.wf,IntKind.min,IntKind.max,IntKind.bits,IntKind.signed] at hwf
    omega
   refine ⟨UInt8.ofNat z.toNat,?_⟩
   rw [cells1 hcs]
   congr 2
   rw [UInt8.toNat_ofNat_of_lt' (by simp [UInt8.size];omega)]
   omega
  obtain ⟨f,hf⟩:=choose_lt each
  have hsp:=spot_none (hf 0 (by omega))
  have ha:a=⟨a.block,a.off,none⟩:=by
   have:=hsp.1
   obtain ⟨b,o,sp⟩:=a
   simp only [Addr.add,Nat.add_zero] at this
   exact this
  have hlt:a.block<w.heap.size:=by have:=hsp.2;simpa [Addr.add] using this
  have hlen2:((List.range len).map f).length=len:=by simp
  refine ⟨some a,(List.range len).map f,cap,byD ((List.range len).map f),by rw [hlen2],?_,.inl rfl,?_⟩
  ·rw [hlen2]
   have:=bulk_len (elems.map (·.1))
   rw [List.length_map] at this
   simp only [Rows.uptoBulk]
   omega
  ·have hz:∀ e∈((List.range len).map f).map (fun x:UInt8=>D.v (.int .u8 x.toNat)),e.size=1:=fun e he=>by
    obtain ⟨u,_,rfl⟩:=List.mem_map.1 he
    rfl
   have:=RV.mk_list (w:=w) (I:=noS.I) (a:=some a) (c:=cap) hz (by simp;omega) (fun h=>by cases h) (fun x h=>by
    simp only [Option.some.injEq] at h
    subst h
    exact ⟨by rw [ha],hlt,noS_I _ _⟩) (fun i e h=>by
    have hi:i<len:=by
     rcases Nat.lt_or_ge i len with h1 | h1
     ·exact h1
     ·simp [List.getElem?_eq_none (show (List.range len).length≤i by simpa using h1)] at h
    simp only [List.getElem?_map,List.getElem?_range hi,Option.map_some,Option.some.injEq] at h
    subst h
    refine ⟨a.block,a.off,[.int .u8 ((f i).toNat:Int)],by rw [← ha],by unfold RV;exact ⟨rfl,rfl⟩,?_⟩
    intro j v hj
    cases j with
    | zero=>
     simp only [List.getElem?_cons_zero,Option.some.injEq] at hj
     subst hj
     have hc2:=hf i hi
     rw [ha,Addr.add_lit] at hc2
     simpa using hc2
    | succ j=>simp at hj)
   rw [List.length_map] at this
   exact this
theorem open_str {t:TypeId} (ht:P.underlying t=some .string) {n:Nat} {cs:List Value} {y:DataW H×List MemPlace} (h:DataW.trod enc P w base spare held n t cs=some y) :
  ∃ l:Bs,cs=[.string ⟨l.toArray⟩]∧l.length≤Rows.uptoBulk y.1:=by
 obtain ⟨s,rfl,rfl,_⟩:=DataW.trod_string ht h
 exact ⟨s.data.toList,by simp,by simp [Rows.uptoBulk]⟩
end

theorem ask_struct:∃ f0 f1 f2 f3 f4 f5 f6,Tryz.prog.underlying 31=some (.struct #[f0,f1,f2,f3,f4,f5,f6])∧(f0.type=24∧f1.type=29∧f2.type=9∧f3.type=9∧f4.type=9∧f5.type=9∧f6.type=9) ∧
  f0.offset=0∧f1.offset=2∧f2.offset=3∧f3.offset=4∧f4.offset=5∧f5.offset=6∧f6.offset=7:=⟨_,_,_,_,_,_,_,Tryz.underlying31,⟨rfl,rfl,rfl,rfl,rfl,rfl,rfl⟩,rfl,rfl,rfl,rfl,rfl,rfl,rfl⟩

section
variable {H : Type} {enc : TypeId × Value → H} {w : World} {base : Nat} {spare : Nat → Bool} {held : Bool}
theorem agg_cells {v:Value} {us:List Value} (h:v.cells.toList=us) (hl:2≤us.length):v=.agg us.toArray:=by
 subst h
 cases v <;> simp [Value.cells] at hl ⊢
theorem open_ask {v:Value} {d:DataW H} {p:List MemPlace} (h:DataW.Trod enc Tryz.prog w base spare held 31 v d p) (hb:Rows.uptoBulk d≤1048576) :
  ∃ (pg wd:Int) (rt:D) (rb key lo hi x y:Bs),RVal w noS.I (askD pg wd rt key lo hi x y) v∧RtOk rt rb∧rb.length≤1048576∧key.length≤1048576∧lo.length≤1048576∧hi.length≤1048576∧x.length≤1048576∧y.length≤1048576:=by
 obtain ⟨fuel,hf⟩:=h
 obtain ⟨f0,f1,f2,f3,f4,f5,f6,hu,⟨e0,e1,e2,e3,e4,e5,e6⟩,o0,o1,o2,o3,o4,o5,o6⟩:=ask_struct
 obtain ⟨xs,n,_,hx,hl,hlen,hfs⟩:=DataW.trod_struct hu hf
 simp only [Prod.mk.injEq] at hx
 match xs,hlen with
 | [y0,y1,y2,y3,y4,y5,y6],_=>
  have hc:Tryz.prog.cellsOf 31=8:=by kernel_rfl
  have hi0:Tryz.prog.cellsOf 24=2:=by kernel_rfl
  have hi1:Tryz.prog.cellsOf 29=1:=by kernel_rfl
  have hi2:Tryz.prog.cellsOf 9=1:=by kernel_rfl
  have h0:=hfs 0 f0 rfl
  have h1:=hfs 1 f1 rfl
  have h2:=hfs 2 f2 rfl
  have h3:=hfs 3 f3 rfl
  have h4:=hfs 4 f4 rfl
  have h5:=hfs 5 f5 rfl
  have h6:=hfs 6 f6 rfl
  rw [e0,o0,hi0] at h0
  rw [e1,o1,hi1] at h1
  rw [e2,o2,hi2] at h2
  rw [e3,o3,hi2] at h3
  rw [e4,o4,hi2] at h4
  rw [e5,o5,hi2] at h5
  rw [e6,o6,hi2] at h6
  rw [hc] at hl
  rw [hx.1] at hb
  simp only [List.map_cons,List.map_nil,Rows.uptoBulk,Rows.uptoBulkAll] at hb
  obtain ⟨g0,g1,hu2,q0,q1,p0,p1⟩:=frame_struct
  obtain ⟨z0,z1,m,hz,hzl,k0,k1⟩:=trod_struct2 hu2 h0
  have hci:Tryz.prog.cellsOf 3=1:=by kernel_rfl
  rw [q0,p0,hci] at k0
  rw [q1,p1,hci] at k1
  obtain ⟨pg,r0,_,_⟩:=DataW.trod_int Tryz.underlying3 k0
  obtain ⟨wd,r1,_,_⟩:=DataW.trod_int Tryz.underlying3 k1
  obtain ⟨a,rb,cap,rt,s1,b1,ok,rv⟩:=open_bytes (w:=w) Tryz.underlying29 Tryz.underlying5 (by kernel_rfl) h1
  obtain ⟨key,s2,b2⟩:=open_str Tryz.underlying9 h2
  obtain ⟨lo,s3,b3⟩:=open_str Tryz.underlying9 h3
  obtain ⟨hi,s4,b4⟩:=open_str Tryz.underlying9 h4
  obtain ⟨x,s5,b5⟩:=open_str Tryz.underlying9 h5
  obtain ⟨y,s6,b6⟩:=open_str Tryz.underlying9 h6
  refine ⟨pg,wd,rt,rb,key,lo,hi,x,y,?_,ok,by omega,by omega,by omega,by omega,by omega,by omega⟩
  have hv:v=.agg [.int .i64 pg,.int .i64 wd,.slice a rb.length cap,.string ⟨key.toArray⟩,.string ⟨lo.toArray⟩,.string ⟨hi.toArray⟩,.string ⟨x.toArray⟩,.string ⟨y.toArray⟩].toArray:=by
   refine agg_cells ?_ (by simp)
   clear hf hfs h0 h1 h2 h3 h4 h5 h6 k0 k1 hb rv ok
   generalize v.cells.toList=cs at *
   match cs,hl with
   | [c0,c1,c2,c3,c4,c5,c6,c7],_=>
    simp at r0 r1 s1 s2 s3 s4 s5 s6
    rw [r0,r1,s1,s2,s3,s4,s5,s6]
  rw [hv]
  unfold askD RVal
  refine ⟨_,rfl,?_⟩
  have mk:∀ {d:D} {ds:List D} {xs ys:List Value},RV w noS.I d xs→RVs w noS.I ds ys→RVs w noS.I (d::ds) (xs++ys):=fun h1 h2=>by unfold RVs;exact ⟨_,_,rfl,h1,h2⟩
  have st:∀ l:Bs,RV w noS.I (sD l) [.string ⟨l.toArray⟩]:=fun l=>by unfold RV;exact ⟨rfl,rfl⟩
  have i:∀ m:Int,RV w noS.I (iD m) [.int .i64 m]:=fun m=>by unfold RV;exact ⟨rfl,rfl⟩
  have nl:RVs w noS.I [] []:=by unfold RVs;rfl
  exact mk (xs:=[_,_]) (by unfold RV;exact mk (xs:=[_]) (i _) (mk (xs:=[_]) (i _) nl)) (mk (xs:=[_]) rv (mk (xs:=[_]) (st _) (mk (xs:=[_]) (st _) (mk (xs:=[_]) (st _) (mk (xs:=[_]) (st _) (mk (xs:=[_]) (st _) nl))))))
end

end Go.Proofs.YtcaggadjkccbiaaGreat
namespace Go.Proofs.YtcaggadjkccbiaaGreat
set_option linter.unusedVariables false
set_option linter.unusedSimpArgs false
open Go Go.RowKit

theorem pairs_few (p wid:Int) (root:Dg) (lo hi s:Bs) (hs:s.length≤1048576):(pairsS p wid root lo hi s).length≤20000000000:=by
 by_cases h:errS p wid root lo hi s=0
 ·obtain ⟨_,x,l,h1,h2⟩:=spanS_ok h
  have h3:=(nodeR_few 33 true root none none _ _ _ h2).2
  have h4:=splitP_len h1
  omega
 ·have:pairsS p wid root lo hi s=[]:=by
   cases ha:argsS p wid root with
   | false=>exact (spanS_arg ha).2
   | true=>
    cases hp:spanP p wid root lo hi s with
    | none=>exact (spanS_no ha hp).2
    | some ps=>exact absurd (spanS_yes ha hp).1 h
  rw [this];simp

end Go.Proofs.YtcaggadjkccbiaaGreat