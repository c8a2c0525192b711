/- What comes in is opened, whatever its shape. -/
import Derived.Test.YtgjaaffheanobaaGreatZ10
import Derived.Test.YtgjaaffheanobaaGreatZ20
namespace Go.Proofs.YtgjaaffheanobaaGreat
set_option linter.unusedVariables false
set_option linter.unusedSimpArgs false
open Go Go.RowKit Go.ChangeShapes Go.WideShapes Go.Deep Go.Joins

inductive Sh where
 | int (k:IntKind)
 | bool
 | str
 | dig
 | st (fs:List Sh)
 | sl (e:Sh)
mutual
def Sh.size:Sh→Nat
 | .int _=>1
 | .bool=>1
 | .str=>1
 | .dig=>32
 | .st fs=>Sh.sizes fs
 | .sl _=>1
def Sh.sizes:List Sh→Nat
 | []=>0
 | s::l=>s.size+Sh.sizes l
end
mutual
def Sh.ok (P:Program):Sh→TypeId→Bool
 | .int k,t=>P.cellsOf t == 1 && (match P.underlying t with | some (.int k')=>decide (k=k') | _=>false)
 | .bool,t=>P.cellsOf t == 1 && (match P.underlying t with | some .bool=>true | _=>false)
 | .str,t=>P.cellsOf t == 1 && (match P.underlying t with | some .string=>true | _=>false)
 | .dig,t=>P.cellsOf t == 32 && (match P.underlying t with | some (.array 32 e)=>P.cellsOf e == 1 && (match P.underlying e with | some (.int .u8)=>true | _=>false) | _=>false)
 | .st fs,t=>P.cellsOf t == Sh.sizes fs && (match P.underlying t with | some (.struct F)=>Sh.oks P fs F.toList 0 | _=>false)
 | .sl s,t=>P.cellsOf t == 1 && (match P.underlying t with | some (.slice e)=>s.ok P e && decide (0<s.size) && decide (0<P.bytesOf e) | _=>false)
def Sh.oks (P:Program):List Sh→List Field→Nat→Bool
 | [],[],_=>true
 | s::l,f::fs,o=>f.offset == o && s.ok P f.type && Sh.oks P l fs (o+s.size)
 | _,_,_=>false
end
theorem Sh.ok_cells {P:Program} {t:TypeId}:∀ {s:Sh},s.ok P t=true→P.cellsOf t=s.size
 | .int k,h=>by unfold Sh.ok at h;simp only [Bool.and_eq_true,beq_iff_eq] at h;exact h.1
 | .bool,h=>by unfold Sh.ok at h;simp only [Bool.and_eq_true,beq_iff_eq] at h;exact h.1
 | .str,h=>by unfold Sh.ok at h;simp only [Bool.and_eq_true,beq_iff_eq] at h;exact h.1
 | .dig,h=>by unfold Sh.ok at h;simp only [Bool.and_eq_true,beq_iff_eq] at h;exact h.1
 | .st fs,h=>by unfold Sh.ok at h;simp only [Bool.and_eq_true,beq_iff_eq] at h;exact h.1
 | .sl s,h=>by unfold Sh.ok at h;simp only [Bool.and_eq_true,beq_iff_eq] at h;exact h.1
mutual
def IsD (N:Nat):Sh→D→Prop
 | .int k,d=>∃ n:Int,d=.v (.int k n)∧(Lit.int k n).wf=true
 | .bool,d=>∃ b,d=bD b
 | .str,d=>∃ s,d=sD s∧s.length≤N
 | .dig,d=>∃ x,d=.dg x
 | .st fs,d=>∃ ds,d=.agg ds∧IsDs N fs ds
 | .sl s,d=>∃ es,d=.sl .none es∧es.length≤N∧∀ x∈es,IsD N s x
def IsDs (N:Nat):List Sh→List D→Prop
 | [],ds=>ds=[]
 | s::l,ds=>∃ x xs,ds=x::xs∧IsD N s x∧IsDs N l xs
end
mutual
theorem IsD.size {N:Nat}:∀ (s:Sh) (d:D),IsD N s d→d.size=s.size
 | .int k,d,h=>by unfold IsD at h;obtain ⟨n,rfl,_⟩:=h;rfl
 | .bool,d,h=>by unfold IsD at h;obtain ⟨n,rfl⟩:=h;rfl
 | .str,d,h=>by unfold IsD at h;obtain ⟨n,rfl,_⟩:=h;rfl
 | .dig,d,h=>by unfold IsD at h;obtain ⟨n,rfl⟩:=h;rfl
 | .st fs,d,h=>by unfold IsD at h;obtain ⟨ds,rfl,h⟩:=h;exact IsDs.size fs ds h
 | .sl s,d,h=>by unfold IsD at h;obtain ⟨es,rfl,_⟩:=h;rfl
theorem IsDs.size {N:Nat}:∀ (l:List Sh) (ds:List D),IsDs N l ds→D.sizes ds=Sh.sizes l
 | [],ds,h=>by unfold IsDs at h;subst h;rfl
 | s::l,ds,h=>by unfold IsDs at h;obtain ⟨x,xs,rfl,h1,h2⟩:=h;unfold D.sizes Sh.sizes;rw [IsD.size s x h1,IsDs.size l xs h2]
end

structure BdOk {H:Type} (P:Program) (N:Nat) (B:TypeId→DataW H→Prop):Prop where
 str:∀ t l,P.underlying t=some .string→B t (.lit (.string l))→l.length≤N
 st:∀ t F ds,P.underlying t=some (.struct F)→B t (.agg ds)→∀ (i:Nat) (f:Field) (d:DataW H),F[i]?=some f→ds[i]?=some d→B f.type d
 sl:∀ t e es rest,P.underlying t=some (.slice e)→0<P.bytesOf e→B t (.slice es rest)→es.length≤N∧∀ d∈es,B e d

section
variable {H : Type} {enc : TypeId × Value → H} {P : Program} {w : World} {base : Nat} {spare : Nat → Bool} {held : Bool} {N : Nat} {B : TypeId → DataW H → Prop}
mutual
theorem open_sh (hB:BdOk P N B):∀ (s:Sh) (t fuel:Nat) (cs:List Value) (x:DataW H×List MemPlace),s.ok P t=true→DataW.trod enc P w base spare held fuel t cs=some x→B t x.1→∃ d,IsD N s d∧RV w noS.I d cs
 | .int k,t,fuel,cs,x,hs,hx,hb=>by
  unfold Sh.ok at hs
  simp only [Bool.and_eq_true] at hs
  obtain ⟨_,hs⟩:=hs
  split at hs
  ·rename_i k' hu
   obtain rfl:=of_decide_eq_true hs
   obtain ⟨n,rfl,_,hw⟩:=DataW.trod_int hu hx
   exact ⟨.v (.int k n),by unfold IsD;exact ⟨n,rfl,hw⟩,by unfold RV;exact ⟨rfl,rfl⟩⟩
  ·cases hs
 | .bool,t,fuel,cs,x,hs,hx,hb=>by
  unfold Sh.ok at hs
  simp only [Bool.and_eq_true] at hs
  obtain ⟨_,hs⟩:=hs
  split at hs
  ·rename_i hu
   obtain ⟨b,rfl,_⟩:=DataW.trod_bool hu hx
   exact ⟨bD b,by unfold IsD;exact ⟨b,rfl⟩,by unfold RV;exact ⟨rfl,rfl⟩⟩
  ·cases hs
 | .str,t,fuel,cs,x,hs,hx,hb=>by
  unfold Sh.ok at hs
  simp only [Bool.and_eq_true] at hs
  obtain ⟨_,hs⟩:=hs
  split at hs
  ·rename_i hu
   obtain ⟨s,rfl,rfl,_⟩:=DataW.trod_string hu hx
   exact ⟨sD s.data.toList,by unfold IsD;exact ⟨_,rfl,hB.str t _ hu hb⟩,by unfold RV;exact ⟨by simp,rfl⟩⟩
  ·cases hs
 | .dig,t,fuel,cs,x,hs,hx,hb=>by
  unfold Sh.ok at hs
  simp only [Bool.and_eq_true,beq_iff_eq] at hs
  obtain ⟨hc,hs⟩:=hs
  split at hs
  ·rename_i e hu
   simp only [Bool.and_eq_true,beq_iff_eq] at hs
   obtain ⟨h1,hs⟩:=hs
   split at hs
   ·rename_i he
    obtain ⟨l,hl,rfl⟩:=elem_bytes hu he h1 hc hx
    exact ⟨.dg ⟨l,hl⟩,by unfold IsD;exact ⟨_,rfl⟩,by unfold RV;rfl⟩
   ·cases hs
  ·cases hs
 | .st fs,t,fuel,cs,x,hs,hx,hb=>by
  unfold Sh.ok at hs
  simp only [Bool.and_eq_true,beq_iff_eq] at hs
  obtain ⟨hc,hs⟩:=hs
  split at hs
  ·rename_i F hu
   obtain ⟨xs,n,_,rfl,hl,hxl,hel⟩:=DataW.trod_struct hu hx
   obtain ⟨ds,h1,h2⟩:=open_shs hB fs F.toList 0 cs xs n hs (fun i f hf=>hel i f (by simpa using hf)) (by simp [hxl]) (fun i f y hf hy=>hB.st t F _ hu hb i f y.1 (by simpa using hf) (by simp [hy])) (by rw [hl,hc];omega)
   exact ⟨.agg ds,by unfold IsD;exact ⟨ds,rfl,h1⟩,by unfold RV;simpa using h2⟩
  ·cases hs
 | .sl s,t,fuel,cs,x,hs,hx,hb=>by
  unfold Sh.ok at hs
  simp only [Bool.and_eq_true,beq_iff_eq] at hs
  obtain ⟨hc,hs⟩:=hs
  split at hs
  ·rename_i e hu
   simp only [Bool.and_eq_true,decide_eq_true_eq] at hs
   obtain ⟨⟨h1,h2⟩,hby⟩:=hs
   have hce:=Sh.ok_cells h1
   rcases DataW.trod_slice hu hx with ⟨rfl,rfl⟩ | ⟨a,len,cap,elems,rest,n,_,rfl,rfl,_,hl,_,hlen,hel,_,_⟩
   ·exact ⟨.sl .none [],by unfold IsD;exact ⟨[],rfl,Nat.zero_le _,fun x hx=>by cases hx⟩,RV.mk_list (z:=1) (fun e h=>by cases h) (Nat.le_refl _) (fun _=>⟨rfl,rfl⟩) (fun x h=>by cases h) (fun i e h=>by simp at h)⟩
   ·obtain ⟨hn,hall⟩:=hB.sl t e _ _ hu hby hb
    rw [List.length_map] at hn
    have ha0:0<len→a=⟨a.block,a.off,none⟩:=fun hp=>by
     have h3:=hel 0 hp
     rw [List.getElem?_eq_getElem (by omega)] at h3
     obtain ⟨cs',h4,_⟩:=Option.bind_eq_some_iff.1 h3
     rw [hce] at h4
     have c1:=(cells_at h4 h2).1
     simpa [Addr.add] using c1
    have each:∀ i,i<len→∃ d:D,IsD N s d∧a=⟨a.block,a.off,none⟩∧a.block<w.heap.size∧∃ us,RV w noS.I d us∧CellsAt w a.block (a.off+i*s.size) us:=by
     intro i hi
     have hy:elems[i]?=some (elems[i]'(by omega)):=List.getElem?_eq_getElem (by omega)
     have h3:=hel i hi
     rw [hy] at h3
     obtain ⟨cs',h4,h5⟩:=Option.bind_eq_some_iff.1 h3
     obtain ⟨d,h6,h7⟩:=open_sh hB s e n cs' _ h1 h5 (hall _ (List.mem_map.2 ⟨_,List.getElem_mem _,rfl⟩))
     rw [hce] at h4
     obtain ⟨c1,c2,c3,c4⟩:=cells_at h4 h2
     have ha:a=⟨a.block,a.off,none⟩:=ha0 (by omega)
     have hadd:a.add (i*s.size)=⟨a.block,a.off+i*s.size,none⟩:=by rw [ha];exact addr_add _ _ _
     rw [hadd] at c2 c4
     exact ⟨d,h6,ha,c2,cs',h7,fun j v hj=>by
      have hlt:j<s.size:=by rw [← c3];exact (List.getElem?_eq_some_iff.1 hj).1
      rw [← hj];exact c4 j hlt⟩
    obtain ⟨f,hf⟩:=choose_lt each
    have hlm:((List.range len).map f).length=len:=by simp
    have hget:∀ (i:Nat) (e:D),((List.range len).map f)[i]?=some e→i<len∧e=f i:=fun i e he=>by
     have hi:i<len:=by have:=(List.getElem?_eq_some_iff.1 he).1;simpa using this
     refine ⟨hi,?_⟩
     simp [hi] at he
     exact he.symm
    refine ⟨.sl .none ((List.range len).map f),by unfold IsD;exact ⟨_,rfl,by rw [hlm];omega,fun x hx=>by
     obtain ⟨i,hi,rfl⟩:=List.mem_map.1 hx
     exact (hf i (List.mem_range.1 hi)).1⟩,?_⟩
    by_cases h0:len=0
    ·subst h0
     unfold RV
     exact ⟨some a,0,cap,rfl,rfl,Nat.zero_le _,trivial,.inr (.inl ⟨.inl rfl,rfl,by simp⟩)⟩
    have hsp:=hf 0 (by omega)
    have:=RV.mk_list (w:=w) (I:=noS.I) (a:=some a) (c:=cap) (z:=s.size) (es:=(List.range len).map f) (fun e he=>by
     obtain ⟨i,hi,rfl⟩:=List.mem_map.1 he
     exact IsD.size s _ (hf i (List.mem_range.1 hi)).1) (by rw [hlm];exact hl) (fun h=>by cases h) (fun x h=>by
     simp only [Option.some.injEq] at h
     subst h
     refine ⟨?_,hsp.2.2.1,noS_I _ _⟩
     rw [hsp.2.1]) (fun i e he=>by
     obtain ⟨hi,rfl⟩:=hget i e he
     obtain ⟨_,ha,_,us,h6,h7⟩:=hf i hi
     exact ⟨a.block,a.off,us,by rw [← ha],h6,h7⟩)
    rw [hlm] at this
    exact this
  ·cases hs
theorem open_shs (hB:BdOk P N B):∀ (l:List Sh) (fs:List Field) (o:Nat) (cs:List Value) (xs:List (DataW H×List MemPlace)) (n:Nat),Sh.oks P l fs o=true →
  (∀ (i:Nat) (f:Field),fs[i]?=some f→DataW.trod enc P w base spare held n f.type ((cs.drop f.offset).take (P.cellsOf f.type))=xs[i]?)→fs.length=xs.length →
  (∀ (i:Nat) (f:Field) (y:DataW H×List MemPlace),fs[i]?=some f→xs[i]?=some y→B f.type y.1)→cs.length=o+Sh.sizes l→∃ ds,IsDs N l ds∧RVs w noS.I ds (cs.drop o)
 | [],[],o,cs,xs,n,hs,hel,hl,hb,hc=>by
  refine ⟨[],by unfold IsDs;rfl,?_⟩
  rw [List.drop_of_length_le (by rw [hc];unfold Sh.sizes;omega)]
  unfold RVs;rfl
 | [],_::_,_,_,_,_,hs,_,_,_,_=>by simp [Sh.oks] at hs
 | _::_,[],_,_,_,_,hs,_,_,_,_=>by simp [Sh.oks] at hs
 | s::l,f::fs,o,cs,xs,n,hs,hel,hl,hb,hc=>by
  unfold Sh.oks at hs
  simp only [Bool.and_eq_true,beq_iff_eq] at hs
  obtain ⟨⟨h1,h2⟩,h3⟩:=hs
  match xs,hl with
  | y::ys,hl=>
   have h4:=hel 0 f rfl
   simp only [List.getElem?_cons_zero] at h4
   obtain ⟨d,h5,h6⟩:=open_sh hB s f.type n _ y h2 h4 (hb 0 f y rfl rfl)
   unfold Sh.sizes at hc
   obtain ⟨ds,h7,h8⟩:=open_shs hB l fs (o+s.size) cs ys n h3 (fun i g hg=>by simpa using hel (i+1) g (by simpa using hg)) (by simpa using hl) (fun i g z hg hz=>hb (i+1) g z (by simpa using hg) (by simpa using hz)) (by omega)
   refine ⟨d::ds,by unfold IsDs;exact ⟨d,ds,rfl,h5,h7⟩,?_⟩
   rw [h1,Sh.ok_cells h2] at h6
   unfold RVs
   refine ⟨_,_,?_,h6,h8⟩
   rw [← List.drop_drop,List.take_append_drop]
end
theorem open_val (hB:BdOk P N B) {s:Sh} {t:TypeId} {v:Value} {d:DataW H} {p:List MemPlace} {r:Reach} {b0:Nat} (hs:s.ok P t=true) (hval:Value.okWide P w r b0 t v) (h:DataW.Trod enc P w base spare held t v d p) (hb:B t d) :
  ∃ x,IsD N s x∧RVal w noS.I x v:=by
 obtain ⟨fuel,hf⟩:=h
 obtain ⟨x,h1,h2⟩:=open_sh hB s t fuel _ _ hs hf hb
 refine ⟨x,h1,?_⟩
 have one:∀ {u:Value},v.cells.toList=[u]→(∀ cs,v≠.agg cs)→v=u:=fun {u} hc hn=>by
  cases v <;> first | exact absurd rfl (hn _) | (simp [Value.cells] at hc;exact hc)
 cases s with
 | int k=>
  unfold Sh.ok at hs
  simp only [Bool.and_eq_true] at hs
  obtain ⟨_,hs⟩:=hs
  split at hs
  ·rename_i hu
   have hn:∀ cs,v≠.agg cs:=fun cs hv=>by subst hv;simp only [Value.okWide,hu,Cell.okWide] at hval;simp_all [Cell.ok]
   unfold IsD at h1
   obtain ⟨n,rfl,_⟩:=h1
   unfold RV at h2
   obtain rfl:=one h2.1 hn
   exact RVal.vv rfl
  ·cases hs
 | bool=>
  unfold Sh.ok at hs
  simp only [Bool.and_eq_true] at hs
  obtain ⟨_,hs⟩:=hs
  split at hs
  ·rename_i hu
   have hn:∀ cs,v≠.agg cs:=fun cs hv=>by subst hv;simp only [Value.okWide,hu,Cell.okWide] at hval;simp_all [Cell.ok]
   unfold IsD at h1
   obtain ⟨n,rfl⟩:=h1
   unfold RV at h2
   obtain rfl:=one h2.1 hn
   exact RVal.vv rfl
  ·cases hs
 | str=>
  unfold Sh.ok at hs
  simp only [Bool.and_eq_true] at hs
  obtain ⟨_,hs⟩:=hs
  split at hs
  ·rename_i hu
   have hn:∀ cs,v≠.agg cs:=fun cs hv=>by subst hv;simp only [Value.okWide,hu,Cell.okWide] at hval;simp_all [Cell.ok]
   unfold IsD at h1
   obtain ⟨n,rfl,_⟩:=h1
   unfold RV at h2
   obtain rfl:=one h2.1 hn
   exact RVal.vv rfl
  ·cases hs
 | dig=>
  unfold Sh.ok at hs
  simp only [Bool.and_eq_true] at hs
  obtain ⟨_,hs⟩:=hs
  split at hs
  ·rename_i e hu
   simp only [Value.okWide,hu] at hval
   obtain ⟨cs,rfl,_⟩:=hval
   unfold IsD at h1
   obtain ⟨n,rfl⟩:=h1
   unfold RV at h2
   have h2:cs.toList=bC n.l:=h2
   show Value.agg cs=.agg n.c
   congr 1
   apply Array.ext'
   rw [h2];simp [Dg.c]
  ·cases hs
 | st fs=>
  unfold Sh.ok at hs
  simp only [Bool.and_eq_true] at hs
  obtain ⟨_,hs⟩:=hs
  split at hs
  ·rename_i F hu
   simp only [Value.okWide,hu] at hval
   obtain ⟨cs,rfl,_⟩:=hval
   unfold IsD at h1
   obtain ⟨ds,rfl,_⟩:=h1
   unfold RV at h2
   unfold RVal
   exact ⟨cs.toList,by simp,h2⟩
  ·cases hs
 | sl s=>
  unfold Sh.ok at hs
  simp only [Bool.and_eq_true] at hs
  obtain ⟨_,hs⟩:=hs
  split at hs
  ·rename_i e hu
   have hn:∀ cs,v≠.agg cs:=fun cs hv=>by subst hv;simp only [Value.okWide,hu,Cell.okWide] at hval;simp_all [Cell.ok]
   unfold IsD at h1
   obtain ⟨es,rfl,_⟩:=h1
   have h3:=h2
   unfold RV at h3
   obtain ⟨a,n,c,he,_⟩:=h3
   have:=one he hn
   rw [he,← this] at h2
   unfold RVal
   exact h2
  ·cases hs
theorem bd_weights (H:Type) (P:Program):BdOk (H:=H) P reachBytes (fun t d=>∀ m∈d.weights P t,m≤reachBytes) where
 str:=fun t l _ hb=>hb l.length (by simp [DataW.weights])
 st:=fun t F ds hu hb i f d hf hd m hm=>hb m (by
  simp only [DataW.weights,hu]
  exact DataW.weights_mem_each (j:=i) (t:=f.type) (d:=d) (by simp [hf]) hd m hm)
 sl:=fun t e es rest hu hby hb=>⟨by
  have:=hb ((es.length+rest.length)*P.bytesOf e) (by simp [DataW.weights,hu])
  have h1:(es.length+rest.length)*1≤(es.length+rest.length)*P.bytesOf e:=Nat.mul_le_mul_left _ hby
  omega,fun d hd m hm=>hb m (by
  simp only [DataW.weights,hu,List.mem_cons,List.mem_append]
  exact .inr (.inl (weightsAll_mem hd m hm)))⟩
end

end Go.Proofs.YtgjaaffheanobaaGreat