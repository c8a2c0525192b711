/- Values without addresses: stores, boxes, rows. -/
import Derived.Test.YtgjaaffheanobaaGreatZ13
import Derived.Great.BuildSlice
namespace Go.Proofs.YtgjaaffheanobaaGreat
set_option linter.unusedVariables false
set_option linter.unusedSimpArgs false
open Go Go.RowKit

def storeV (T:TypeId→Ty) (bk:List (Nat×TypeId×D)) (t:TypeId) (p x:D):Option (List (Nat×TypeId×D)):=
 match p with
 | .v (.pointer (some ⟨b,o,Option.none⟩))=>
  if (T t).known=true∧x.size=(T t).zero.size∧x.lies=true then
   match getM bk b with
   | some (_,d)=>(putD d o x).map (setM bk b)
   | Option.none=>Option.none
  else Option.none
 | _=>Option.none

def rowV (T:TypeId→Ty) (t:TypeId) (n:Nat) (ps:List (Nat×D)):Option (List D):=
 match T t with
 | .slice e=>if (T e).known=true∧ps.map (·.1)=List.range n∧(ps.map (·.2)).all (fun d=>d.size == (T e).zero.size && d.lies)=true∧n*(T e).zero.size≤16777216∧0<n*(T e).zero.size then some (ps.map (·.2)) else Option.none
 | _=>Option.none

noncomputable def evalS (T:TypeId→Ty) (A:List D) (S:Sto) (op:Op):Option (D×Sto):=
 match op with
 | .store t p x=>(storeV T S.bk t (evalO A p) (evalO A x)).map fun bk=>(.tup [],⟨bk,S.ow⟩)
 | .box _ x=>if (evalO A x).lies=true then some (.pt (evalO A x),S) else Option.none
 | .buildSlice t n ps=>(rowV T t n (ps.toList.map fun p=>(p.1,evalO A p.2))).map fun ds=>(.sl .full ds,S)
 | op=>(evalV T A S.bk op).map fun d=>(d,S)

theorem fill_row (z:Nat):∀ (vs:List Value) (j:Nat) (us:Array Value),(∀ v∈vs,v.cells.size=z)→(j+vs.length)*z≤us.size →
  Instr.fill (fun i=>some (i*z,z)) us ((vs.zipIdx j).map fun p=>(p.2,p.1))=some (us.toList.take (j*z)++vs.flatMap (·.cells.toList)++us.toList.drop ((j+vs.length)*z)).toArray
 | [],j,us,_,h=>by simp [Instr.fill]
 | v::vs,j,us,hv,h=>by
  have hz:=hv v List.mem_cons_self
  have e1:(j+(v::vs).length)*z=(j+1+vs.length)*z:=by rw [List.length_cons];congr 1;omega
  have e2:(j+1+vs.length)*z=j*z+z+vs.length*z:=by rw [Nat.add_mul,Nat.add_mul,Nat.one_mul]
  have e3:(j+1)*z=j*z+z:=by rw [Nat.add_mul,Nat.one_mul]
  rw [e1,e2] at h
  simp only [List.zipIdx_cons,List.map_cons]
  unfold Instr.fill
  simp only
  have hle:¬ ((decide (v.cells.size≠z) || decide (j*z+v.cells.size > us.size))=true):=by
   rw [hz];simp;omega
  rw [if_neg hle]
  rw [← Array.foldl_toList,Array.toList_zipIdx,fold_set (j*z) v.cells.toList 0 _ (by simp only [Array.length_toList,hz];omega)]
  rw [fill_row z vs (j+1) _ (fun v' hv'=>hv v' (List.mem_cons_of_mem _ hv')) (by
   simp only [List.size_toArray,List.length_append,List.length_take,List.length_drop,Array.length_toList,hz];rw [e2];omega)]
  congr 2
  simp only [Nat.add_zero,Array.length_toList,hz,List.flatMap_cons]
  have l1:(us.toList.take (j*z)++v.cells.toList).length=(j+1)*z:=by
   rw [List.length_append,List.length_take,Array.length_toList,Array.length_toList,hz,e3];omega
  rw [List.take_left' l1,e1,e2]
  rw [List.drop_append,l1,List.drop_of_length_le (by rw [l1,e3];omega),List.drop_drop,e3]
  simp only [List.nil_append,List.append_assoc]
  congr 3
  rw [show j*z+z+(j*z+z+vs.length*z - (j*z+z))=j*z+z+vs.length*z by omega]

section
variable {P : Program} {T : TypeId → Ty} {w : World} {S : Sto} {A : List D} {a : Act}

theorem StAt.lt (h:StAt w S) {b:Nat} (hb:b∈S.bk.map (·.1)∨b∈S.ow.map (·.1)):b<w.heap.size:=by
 rcases hb with hb | hb
 ·obtain ⟨⟨b',t,d⟩,h1,rfl⟩:=List.mem_map.1 hb
  exact (h.mutAt b' t d h1).lt
 ·obtain ⟨⟨b',L⟩,h1,rfl⟩:=List.mem_map.1 hb
  obtain ⟨t,cur,h2,_⟩:=h.ownAt b' L h1
  exact lt_of_block h2

theorem StAt.new_I (h:StAt w S) (e:Nat):S.I w.heap.size e:=
 ⟨fun hm=>absurd (h.lt (.inl hm)) (by omega),fun L hL=>absurd (h.lt (.inr (List.mem_map.2 ⟨_,hL,rfl⟩))) (by omega)⟩

theorem evo_alloc (I:Nat→Nat→Prop) (o:Obj):Evo w I (w.alloc o) I:=
 ((Kp.refl [] w).alloc o).evo (fun _ _ _ _=>by simp) (fun _ _ _ h=>h)

theorem StAt.alloc (h:StAt w S) (o:Obj):StAt (w.alloc o) S:=
 ⟨h.nd,fun b t d hm=>by
  exact (h.mutAt b t d hm).alloc o (evo_alloc _ o),fun b L hm=>by
  obtain ⟨t,cur,h1,h2⟩:=h.ownAt b L hm
  exact ⟨t,cur,(Below.heap_alloc _ _ _ (lt_of_block h1)).trans h1,h2⟩⟩

theorem cells_new (us:List Value) (t:TypeId):CellsAt (w.alloc (.cells us.toArray t)) w.heap.size 0 us:=by
 intro j v hj
 rw [World.cell?_alloc_new]
 simpa using hj

theorem RVal.box {d:D} {x:Value} (h:RVal w S.I d x) (hl:d.lies=true) (hS:StAt w S) (t:TypeId):RVal (w.alloc (.cells x.cells t)) S.I (.pt d) (.pointer (some ⟨w.heap.size,0,Option.none⟩)):=by
 have hr:=(h.cells hl).evo (evo_alloc S.I (.cells x.cells t)) _ _
 unfold RVal RV
 refine ⟨_,_,_,rfl,by simp,hS.new_I _,hr,?_⟩
 have:=cells_new (w:=w) x.cells.toList t
 simpa using this

def Does (P:Program) (w:World) (S:Sto) (s:Sem Next) (d:D) (S':Sto):Prop:=
 ∃ r y w',s.run P w=.ok r w'∧(r=.value y∨(r=.skip∧y=undef))∧RVal w' S'.I d y∧StAt w' S'∧Evo w S.I w' S'.I

theorem setM_I {bk:List (Nat×TypeId×D)} {ow:List (Nat×Nat)} {b:Nat} {x:D}:(⟨setM bk b x,ow⟩:Sto).I=(⟨bk,ow⟩:Sto).I:=by
 funext c e
 unfold Sto.I
 simp only [setM_keys]

theorem StAt.setRow (hS:StAt w S) {b:Nat} {tb:TypeId} {d d':D} (hg:getM S.bk b=some (tb,d)) {us vs:List Value} (hb:Blk w b tb us.toArray) (hv:∀ w',Evo w S.I w' S.I→RV w' S.I d' vs) :
  StAt (w.setRow b vs.toArray) ⟨setM S.bk b d',S.ow⟩∧Evo w S.I (w.setRow b vs.toArray) S.I:=by
 have hmem:=getM_mem hg
 have hkb:b∈S.bk.map (·.1):=List.mem_map.2 ⟨_,hmem,rfl⟩
 have hk:Kp [b] w (w.setRow b vs.toArray):=(Kp.refl [b] w).setRow b _ (.inr (by simp))
 have hevo:Evo w S.I (w.setRow b vs.toArray) S.I:=hk.evo (fun c e _ hi hc=>by simp only [List.mem_singleton] at hc;subst hc;exact hi.1 hkb) (fun _ _ _ h=>h)
 have hnd:=hS.nd
 have hbk:(S.bk.map (·.1)).Nodup:=(List.nodup_append.1 hnd).1
 refine ⟨⟨by rw [setM_keys];exact hnd,fun c t e hm=>?_,fun c L hm=>?_⟩,hevo⟩
 ·rw [setM_I]
  rcases setM_mem hbk hg hm with ⟨rfl,rfl,rfl⟩ | ⟨hne,hm⟩
  ·exact .of (Blk.setRow hb _) (.of (hv _ hevo))
  ·exact (hS.mutAt c t e hm).same (Go.setRow_other w b c vs.toArray hne) hevo
 ·obtain ⟨t,cur,h1,h2⟩:=hS.ownAt c L hm
  have hne:c≠b:=by
   intro e
   subst e
   exact (List.nodup_append.1 hnd).2.2 c hkb c (List.mem_map.2 ⟨_,hm,rfl⟩) rfl
  exact ⟨t,cur,(Go.setRow_other w b c vs.toArray hne).trans h1,h2⟩

theorem storeV_ok (hP:Prg P T) (hS:StAt w S) {t:TypeId} {p x:D} {u v:Value} {bk:List (Nat×TypeId×D)} (h:storeV T S.bk t p x=some bk) (hp:RVal w S.I p u) (hx:RVal w S.I x v) :
  Does P w S (do Instr.storeAt t u v;pure .skip) (.tup []) ⟨bk,S.ow⟩:=by
 unfold storeV at h
 split at h
 ·rename_i b o
  split at h
  ·rename_i hc
   obtain ⟨hk,hsz,hl⟩:=hc
   have ok:=hP.ty t (Ty.known_ne hk)
   split at h
   ·rename_i tb d hg
    obtain ⟨d',hp',rfl⟩:=Option.map_eq_some_iff.1 h
    obtain ⟨us,hb,hd⟩:=(hS.mutAt _ _ _ (getM_mem hg)).blk (mapOf_ne (putD_tup hp'))
    have hd:=hd.plain (putD_tup hp')
    have hxc:=hx.cells hl
    have hxl:=RV.len _ _ hxc
    obtain ⟨xs,ms,zs,rfl,h3,h4,h5⟩:=putD_ok d us o x d' _ hd hp' hxc
    unfold RVal at hp
    obtain ⟨rfl,-⟩:=hp
    have hsz':v.cells.size=x.size:=by rw [← hxl];simp
    have hst:=run_store_blk (P:=P) (t:=t) b o tb _ v hb (by rw [ok.run_size,hsz',hsz]) hxc.one (by simp only [List.size_toArray,List.length_append,h3,h4,Array.length_toList];omega)
    have hspl:spl (xs++ms++zs).toArray o v.cells=(xs++v.cells.toList++zs).toArray:=by
     unfold spl
     simp only [← h3,List.append_assoc,List.take_left]
     congr 2
     have e:xs.length+v.cells.size=(xs++ms).length:=by rw [List.length_append,h4];simp
     rw [e,← List.append_assoc,List.drop_left]
    rw [hspl] at hst
    obtain ⟨g1,g2⟩:=StAt.setRow hS (d':=d') hg hb (vs:=xs++v.cells.toList++zs) (fun w' he=>h5.evo he _ _)
    refine ⟨.skip,undef,_,?_,.inr ⟨rfl,rfl⟩,RVal.undef,g1,by rw [setM_I];exact g2⟩
    simp only [Instr.storeAt,Instr.sureAddr,Sem.run_bind,Sem.run_pure,Result.andThen_ok,hst]
   ·cases h
  ·cases h
 ·cases h

theorem REs.of_cells {I:Nat→Nat→Prop} {b:Nat}:∀ (ds:List D) (vs:List Value) (o:Nat),ds.length=vs.length→(∀ (i:Nat) (d:D) (v:Value),ds[i]?=some d→vs[i]?=some v→RV w I d v.cells.toList)→CellsAt w b o (vs.flatMap (·.cells.toList))→REs w I b o ds
 | [],_,o,_,_,_=>by unfold REs;trivial
 | d::ds,[],o,hn,_,_=>by simp at hn
 | d::ds,v::vs,o,hn,h,hc=>by
  unfold REs
  have h0:=h 0 d v rfl rfl
  have hl:=RV.len _ _ h0
  refine ⟨v.cells.toList,h0,fun j x hj=>hc j x (by rw [List.flatMap_cons,List.getElem?_append_left (List.getElem?_eq_some_iff.1 hj).1];exact hj),?_⟩
  refine REs.of_cells ds vs (o+d.size) (by simpa using hn) (fun i d' v' hd hv=>h (i+1) d' v' (by simpa using hd) (by simpa using hv)) (fun j x hj=>?_)
  have:=hc (d.size+j) x (by rw [List.flatMap_cons,List.getElem?_append_right (by omega),hl,Nat.add_sub_cancel_left];exact hj)
  rw [← Nat.add_assoc] at this
  exact this

theorem rowV_ok (hP:Prg P T) (hS:StAt w S) {t:TypeId} {n:Nat} {ps:List (Nat×D)} {ds:List D} (h:rowV T t n ps=some ds) (vs:List (Nat×Value)) (hn:ps.length=vs.length)
  (hp:∀ (j:Nat) (p:Nat×D) (v:Nat×Value),ps[j]?=some p→vs[j]?=some v→p.1=v.1∧RVal w S.I p.2 v.2):∃ y w',(Instr.buildSlice t n vs.toArray).run P w=.ok y w'∧RVal w' S.I (.sl .full ds) y∧StAt w' S∧Evo w S.I w' S.I:=by
 unfold rowV at h
 split at h
 ·rename_i e ht
  split at h
  ·rename_i hc
   obtain ⟨hk,hr,hall,hbig,hpos⟩:=hc
   simp only [Option.some.injEq] at h
   subst h
   have ok:=hP.ty t (by rw [ht];simp)
   rw [ht] at ok
   obtain ⟨dd,hu,hd⟩:=ok.desc
   simp only [Ty.isDesc] at hd
   subst hd
   have oke:=hP.ty e (Ty.known_ne hk)
   obtain ⟨i,z,hi,hiz,hz,hzv⟩:=oke.info
   have hlen:ps.length=n:=by have:=congrArg List.length hr;simpa using this
   have hds:∀ d∈ps.map (·.2),d.size=(T e).zero.size∧d.lies=true:=fun d hd=>by
    have:=List.all_eq_true.1 hall d hd
    simpa using this
   have hvs:∀ (j:Nat) (d:D) (v:Value),(ps.map (·.2))[j]?=some d→(vs.map (·.2))[j]?=some v→RVal w S.I d v:=fun j d v hd hv=>by
    simp only [List.getElem?_map,Option.map_eq_some_iff] at hd hv
    obtain ⟨p,h1,rfl⟩:=hd
    obtain ⟨q,h2,rfl⟩:=hv
    exact (hp j p q h1 h2).2
   have hvz:∀ v∈vs.map (·.2),v.cells.size=(T e).zero.size:=fun v hv=>by
    obtain ⟨j,hj⟩:=List.getElem?_of_mem hv
    have hlt:j<(ps.map (·.2)).length:=by have:=(List.getElem?_eq_some_iff.1 hj).1;simp at this ⊢;omega
    have hd:=List.getElem?_eq_getElem hlt
    have h1:=hvs j _ v hd hj
    obtain ⟨h2,h3⟩:=hds _ (List.mem_of_getElem? hd)
    have:=RV.len _ _ (h1.cells h3)
    rw [← h2,← this];simp
   have hvi:vs=(((vs.map (·.2)).zipIdx 0).map fun p=>(p.2,p.1)):=by
    apply List.ext_getElem?
    intro j
    simp only [List.getElem?_map,List.getElem?_zipIdx]
    cases hv:vs[j]? with
    | none=>rfl
    | some v=>
     have hlt:j<ps.length:=by have:=(List.getElem?_eq_some_iff.1 hv).1;omega
     have h1:=(hp j _ v (List.getElem?_eq_getElem hlt) hv).1
     have h2:(ps.map (·.1))[j]?=(List.range n)[j]?:=by rw [hr]
     rw [List.getElem?_map,List.getElem?_eq_getElem hlt,List.getElem?_range (by omega)] at h2
     simp only [Option.map_some,Option.some.injEq] at h2
     simp only [Option.map_some,Nat.zero_add]
     rw [show j=v.1 by rw [← h1,h2]]
   have hcells:(vs.map (·.2)).length=n:=by simp;omega
   have hfill:=fill_row (T e).zero.size (vs.map (·.2)) 0 ((Array.range (n*i.size)).map (z.cells[· % z.cells.size]!)) hvz (by simp only [Array.size_map,Array.size_range,hiz,hcells,Nat.zero_add];exact Nat.le_refl _)
   rw [← hvi] at hfill
   have hfl:(((Array.range (n*i.size)).map (z.cells[· % z.cells.size]!)).toList.take (0*(T e).zero.size)++(vs.map (·.2)).flatMap (·.cells.toList)++((Array.range (n*i.size)).map (z.cells[· % z.cells.size]!)).toList.drop ((0+(vs.map (·.2)).length)*(T e).zero.size)).toArray=((vs.map (·.2)).flatMap (·.cells.toList)).toArray:=by
    rw [Nat.zero_mul,List.take_zero,List.nil_append,List.drop_of_length_le (by simp only [Array.length_toList,Array.size_map,Array.size_range,hiz,Nat.zero_add,hcells];exact Nat.le_refl _),List.append_nil]
   rw [hfl] at hfill
   have hrun:(Instr.buildSlice t n vs.toArray).run P w=.ok (.slice (some ⟨w.heap.size,0,Option.none⟩) n n) (w.alloc (.cells ((vs.map (·.2)).flatMap (·.cells.toList)).toArray e)):=by
    refine run_buildSlice w t e n vs.toArray _ i z hu hi hz (by rw [hiz];omega) (by rw [hiz];omega) ?_
    simpa [hiz] using hfill
   refine ⟨_,_,hrun,?_,hS.alloc _,evo_alloc _ _⟩
   have hsz:∀ d∈ps.map (·.2),d.size=(T e).zero.size:=fun d hd=>(hds d hd).1
   unfold RVal RV
   refine ⟨_,_,_,rfl,by simp [hlen],Nat.le_refl _,by show _=_;simp [hlen],.inr <| .inr ⟨_,_,rfl,by simp,hS.new_I _,⟨_,hsz⟩,?_⟩⟩
   refine REs.of_cells _ (vs.map (·.2)) 0 (by simpa using hn) (fun j d v hd hv=>((hvs j d v hd hv).cells (hds d (List.mem_of_getElem? hd)).2).evo (evo_alloc _ _) _ _) (cells_new _ _)
  ·cases h
 ·cases h

theorem evalS_ok (hP:Prg P T) (hS:StAt w S) (hA:ActAt w S.I A a) {o:Oper} {d:D} {S':Sto} (h:evalS T A S o.op=some (d,S')):Does P w S (execOp a.eval o) d S':=by
 obtain ⟨dst,op,type,pos,after,guard⟩:=o
 simp only at h
 have hval:∀ (op:Op),(evalV T A S.bk op).map (fun d=>(d,S))=some (d,S')→Does P w S (execOp a.eval { dst,op,type,pos,after,guard }) d S':=by
  intro op h
  obtain ⟨d',h1,h2⟩:=Option.map_eq_some_iff.1 h
  simp only [Prod.mk.injEq] at h2
  obtain ⟨rfl,rfl⟩:=h2
  obtain ⟨y,h3,h4⟩:=evalV_ok hP hS hA (o:={ dst,op,type,pos,after,guard }) h1
  exact ⟨_,y,w,h3,.inl rfl,h4,hS,Evo.refl _ _⟩
 unfold evalS at h
 split at h
 ·rename_i t p x
  obtain ⟨bk,h1,h2⟩:=Option.map_eq_some_iff.1 h
  simp only [Prod.mk.injEq] at h2
  obtain ⟨rfl,rfl⟩:=h2
  exact storeV_ok hP hS h1 (evalO_ok hA p) (evalO_ok hA x)
 ·rename_i t x
  split at h
  ·rename_i hl
   simp only [Option.some.injEq,Prod.mk.injEq] at h
   obtain ⟨rfl,rfl⟩:=h
   exact ⟨_,_,_,rfl,.inl rfl,(evalO_ok hA x).box hl hS t,hS.alloc _,evo_alloc _ _⟩
  ·cases h
 ·rename_i t n ps
  obtain ⟨ds,h1,h2⟩:=Option.map_eq_some_iff.1 h
  simp only [Prod.mk.injEq] at h2
  obtain ⟨rfl,rfl⟩:=h2
  obtain ⟨y,w',h3,h4,h5,h6⟩:=rowV_ok hP hS h1 (ps.toList.map fun p=>(p.1,a.eval p.2)) (by simp) (fun j p v hp hv=>by
   simp only [List.getElem?_map,Option.map_eq_some_iff] at hp hv
   obtain ⟨q,hq,rfl⟩:=hp
   obtain ⟨q',hq',rfl⟩:=hv
   rw [hq] at hq'
   simp only [Option.some.injEq] at hq'
   subst hq'
   exact ⟨rfl,evalO_ok hA _⟩)
  have e:(List.map (fun p=>(p.1,a.eval p.2)) ps.toList).toArray=ps.map fun (p:Nat×Operand)=>(p.1,a.eval p.2):=by apply Array.ext';simp
  rw [e] at h3
  exact ⟨_,y,w',by simp only [execOp,Sem.run_bind,h3,Result.andThen_ok];rfl,.inl rfl,h4,h5,h6⟩
 ·exact hval _ h
end


inductive AEnd where
 | ret (d:D)
 | pan (d:D)

def APost (w:World) (S:Sto) (R:AEnd→Sto→Prop):Ending→World→Prop
 | .returned v,w'=>∃ d S',StAt w' S'∧Evo w S.I w' S'.I∧RVal w' S'.I d v∧R (.ret d) S'
 | .panicked ch,w'=>∃ d v S',ch=[{ v:=v,recovered:=false }]∧StAt w' S'∧Evo w S.I w' S'.I∧RVal w' S'.I d v∧R (.pan d) S'
 | .outgrown,_=>False

def Callable (P:Program) (f:FuncId):Prop:=∀ args w,(callFunc f args).run P w=.ok (.enter f args) w

def ACalls (P:Program) (f:FuncId) (args:List D) (S:Sto) (R:AEnd→Sto→Prop):Prop:=
 Callable P f∧∀ w xs,StAt w S→RVals w S.I args xs→Calls P f xs.toArray w (APost w S R)

theorem ACalls.mono {P:Program} {f:FuncId} {args:List D} {S:Sto} {R R':AEnd→Sto→Prop} (h:ACalls P f args S R) (hr:∀ e S',R e S'→R' e S'):ACalls P f args S R':=
 ⟨h.1,fun w xs hS hx=>(h.2 w xs hS hx).mono fun e w' hp=>by
  cases e with
  | returned v=>obtain ⟨d,S',a,b,c,k⟩:=hp;exact ⟨d,S',a,b,c,hr _ _ k⟩
  | panicked ch=>obtain ⟨d,v,S',e,a,b,c,k⟩:=hp;exact ⟨d,v,S',e,a,b,c,hr _ _ k⟩
  | outgrown=>exact hp⟩

structure Bg where
 w:World
 I:Nat→Nat→Prop
 dl:List Deferred

structure At (B:Bg) (A:List D) (S:Sto) (a:Act) (w:World):Prop where
 act:ActAt w S.I A a
 st:StAt w S
 evo:Evo B.w B.I w S.I
 df:a.defers=B.dl

inductive AX where
 | normal
 | exit (id:Nat)
 | goto (l:Nat)
 | ret
 | panic (d:D)

def Conc (B:Bg) (Q:AX→List D→Sto→Prop):Exit→Act→World→Prop
 | .normal,a,w=>∃ A S,At B A S a w∧Q .normal A S
 | .exit id,a,w=>∃ A S,At B A S a w∧Q (.exit id) A S
 | .goto l,a,w=>∃ A S,At B A S a w∧Q (.goto l) A S
 | .ret,a,w=>∃ A S,At B A S a w∧Q .ret A S
 | .panic ch,a,w=>∃ A S d v,At B A S a w∧ch=[{ v:=v,recovered:=false }]∧RVal w S.I d v∧Q (.panic d) A S
 | .outgrown,_,_=>False

def AX.then (K:List D→Sto→Prop) (Q:AX→List D→Sto→Prop):AX→List D→Sto→Prop
 | .normal,A,S=>K A S
 | e,A,S=>Q e A S
def AX.inBlock (id:Nat) (Q:AX→List D→Sto→Prop):AX→List D→Sto→Prop
 | .exit id',A,S=>if id'=id then Q .normal A S else Q (.exit id') A S
 | e,A,S=>Q e A S

def AW (P:Program) (B:Bg) (c:Code) (Q:AX→List D→Sto→Prop) (A:List D) (S:Sto):Prop:=∀ a w,At B A S a w→c.wp P (Conc B Q) a w
def AOps (P:Program) (B:Bg) (ops:Array Oper) (Q:AX→List D→Sto→Prop) (l:List Oper) (A:List D) (S:Sto):Prop:=∀ a w,At B A S a w→wpList P ops (Conc B Q) l a w

section
variable {P : Program} {T : TypeId → Ty} {B : Bg} {Q : AX → List D → Sto → Prop} {A : List D} {S : Sto}

theorem AW.skip (h:Q .normal A S):AW P B .skip Q A S:=fun a w k=>wp_skip ⟨A,S,k,h⟩
theorem AW.label {l:Nat} (h:Q .normal A S):AW P B (.label l) Q A S:=fun a w k=>wp_label ⟨A,S,k,h⟩
theorem AW.exit {id:Nat} (h:Q (.exit id) A S):AW P B (.exit id) Q A S:=fun a w k=>wp_exit ⟨A,S,k,h⟩
theorem AW.ret (h:Q .ret A S):AW P B .ret Q A S:=fun a w k=>wp_ret ⟨A,S,k,h⟩
theorem AW.seq {x y:Code} (h:AW P B x (AX.then (AW P B y Q) Q) A S):AW P B (.seq x y) Q A S:=fun a w k=>
 wp_seq (wp_mono (h a w k) (fun e a w q=>by
  cases e with
  | normal=>obtain ⟨A',S',k',h'⟩:=q;exact h' a w k'
  | exit id=>exact q
  | goto l=>exact q
  | ret=>exact q
  | panic ch=>exact q
  | outgrown=>exact q))
theorem AW.block {id:Nat} {c:Code} (h:AW P B c (AX.inBlock id Q) A S):AW P B (.block id c) Q A S:=fun a w k=>
 wp_block (wp_mono (h a w k) (fun e a w q=>by
  cases e with
  | normal=>exact q
  | exit id'=>
   obtain ⟨A',S',k',h'⟩:=q
   show (if id'=id then _ else _)
   simp only [AX.inBlock] at h'
   split
   ·rename_i e;rw [if_pos e] at h';exact ⟨A',S',k',h'⟩
   ·rename_i e;rw [if_neg e] at h';exact ⟨A',S',k',h'⟩
  | goto l=>exact q
  | ret=>exact q
  | panic ch=>exact q
  | outgrown=>exact q))
theorem AW.cond {c:Operand} {x y:Code} {t:Bool} (hc:evalO A c=.v (.bool t)) (h:AW P B (if t=true then x else y) Q A S):AW P B (.cond c x y) Q A S:=fun a w k=>by
 have:=evalO_ok k.act c
 rw [hc] at this
 unfold RVal at this
 refine wp_cond (t:=t) this.1 ?_
 cases t
 ·exact h a w k
 ·exact h a w k
theorem AW.mono {c:Code} {Q':AX→List D→Sto→Prop} (h:AW P B c Q A S) (hq:∀ e A S,Q e A S→Q' e A S):AW P B c Q' A S:=fun a w k=>wp_mono (h a w k) (fun e a w q=>by
 cases e with
 | normal=>obtain ⟨A',S',k',h'⟩:=q;exact ⟨A',S',k',hq _ _ _ h'⟩
 | exit id=>obtain ⟨A',S',k',h'⟩:=q;exact ⟨A',S',k',hq _ _ _ h'⟩
 | goto l=>obtain ⟨A',S',k',h'⟩:=q;exact ⟨A',S',k',hq _ _ _ h'⟩
 | ret=>obtain ⟨A',S',k',h'⟩:=q;exact ⟨A',S',k',hq _ _ _ h'⟩
 | panic ch=>obtain ⟨A',S',d,v,k',e,r,h'⟩:=q;exact ⟨A',S',d,v,k',e,r,hq _ _ _ h'⟩
 | outgrown=>exact q)

def weakA:List D→List D→Prop
 | [],[]=>True
 | d::A,e::A'=>(e=d∨e=.any)∧weakA A A'
 | _,_=>False
theorem weakA_get:∀ {A A':List D},weakA A A'→A'.length=A.length∧∀ (i:Nat) (e:D),A'[i]?=some e→∃ d,A[i]?=some d∧(e=d∨e=D.any)
 | [],[],_=>⟨rfl,fun i e h=>by simp at h⟩
 | d::A,e::A',h=>by
  obtain ⟨h1,h2⟩:=weakA_get h.2
  refine ⟨by simp [h1],fun i x hx=>?_⟩
  cases i with
  | zero=>simp only [List.getElem?_cons_zero,Option.some.injEq] at hx;subst hx;exact ⟨d,rfl,h.1⟩
  | succ i=>simp only [List.getElem?_cons_succ] at hx ⊢;exact h2 i x hx
 | [],_::_,h=>h.elim
 | _::_,[],h=>h.elim
theorem At.weak {a:Act} {w:World} {A':List D} (h:At B A S a w) (hw:weakA A A'):At B A' S a w:=by
 obtain ⟨h1,h2⟩:=weakA_get hw
 refine ⟨⟨by rw [h1];exact h.act.size,fun i e he=>?_⟩,h.st,h.evo,h.df⟩
 obtain ⟨d,hd,h3⟩:=h2 i e he
 rcases h3 with rfl | rfl
 ·exact h.act.val i _ hd
 ·exact RVal.any
theorem At.sub {a:Act} {w:World} {S':Sto} (h:At B A S a w) (hs:S'.Sub S):At B A S' a w:=
 ⟨h.act.evo (Evo.imp (fun _ _=>hs.I)),h.st.sub hs,h.evo.trans (Evo.imp (fun _ _=>hs.I)),h.df⟩

theorem exists_min {p:Nat→Prop} (h:∃ n,p n):∃ n,p n∧∀ m,p m→n≤m:=by
 obtain ⟨n,hn⟩:=h
 induction n using Nat.strongRecOn with
 | _ n ih=>
  by_cases hm:∃ m,m<n∧p m
  ·obtain ⟨m,h1,h2⟩:=hm;exact ih m h1 h2
  ·exact ⟨n,hn,fun m hp=>Nat.le_of_not_lt (fun hlt=>hm ⟨m,hlt,hp⟩)⟩

theorem AW.loop {c:Code} (J:List D→Sto→Prop) (μ:List D→Sto→Nat) (A0:List D) (S0:Sto) (h0:weakA A A0) (hs0:S0.Sub S) (hJ:J A0 S0)
  (round:∀ A S,J A S→AW P B c (AX.then (fun A' S'=>∃ A'' S'',weakA A' A''∧S''.Sub S'∧J A'' S''∧μ A'' S''<μ A S) Q) A S):AW P B (.loop c) Q A S:=fun a w k=>by
 let W:Act→World→Prop:=fun a w=>∃ A S,At B A S a w∧J A S
 let R:Act→World→Nat→Prop:=fun a w n=>∃ A S,At B A S a w∧J A S∧μ A S=n
 open Classical in
 let ν:Act→World→Nat:=fun a w=>if h:∃ n,R a w n then (exists_min h).choose else 0
 have hν:∀ a w (h:∃ n,R a w n),R a w (ν a w)∧∀ m,R a w m→ν a w≤m:=fun a w h=>by
  simp only [ν];rw [dif_pos h];exact (exists_min h).choose_spec
 refine wp_loop W ν ⟨A0,S0,(k.weak h0).sub hs0,hJ⟩ (fun a w hW=>?_)
 have hex:∃ n,R a w n:=by obtain ⟨A,S,h1,h2⟩:=hW;exact ⟨_,A,S,h1,h2,rfl⟩
 obtain ⟨⟨A1,S1,k1,j1,m1⟩,-⟩:=hν a w hex
 refine wp_mono (round A1 S1 j1 a w k1) (fun e a' w' q=>?_)
 cases e with
 | normal=>
  obtain ⟨A',S',k',A'',S'',h1,h2,h3,h4⟩:=q
  have k2:=(k'.weak h1).sub h2
  refine ⟨⟨A'',S'',k2,h3⟩,?_⟩
  have:=(hν a' w' ⟨_,A'',S'',k2,h3,rfl⟩).2 _ ⟨A'',S'',k2,h3,rfl⟩
  omega
 | exit id=>exact q
 | goto l=>exact q
 | ret=>exact q
 | panic ch=>exact q
 | outgrown=>exact q
end


section
variable {w : World} {I : Nat → Nat → Prop}
theorem RVs.app:∀ (ds es:List D) (xs ys:List Value),RVs w I ds xs→RVs w I es ys→RVs w I (ds++es) (xs++ys)
 | [],es,xs,ys,h,k=>by unfold RVs at h;subst h;exact k
 | d::ds,es,xs,ys,h,k=>by
  unfold RVs at h
  obtain ⟨p,q,rfl,h1,h2⟩:=h
  simp only [List.cons_append]
  unfold RVs
  exact ⟨p,q++ys,by simp,h1,RVs.app ds es q ys h2 k⟩
theorem REs.flat {b:Nat}:∀ (es:List D) (o:Nat),REs w I b o es→∃ xs,RVs w I es xs∧CellsAt w b o xs
 | [],o,_=>⟨[],by unfold RVs;rfl,fun j v h=>by simp at h⟩
 | d::ds,o,h=>by
  unfold REs at h
  obtain ⟨us,h1,h2,h3⟩:=h
  obtain ⟨xs,h4,h5⟩:=REs.flat ds _ h3
  refine ⟨us++xs,by unfold RVs;exact ⟨us,xs,rfl,h1,h4⟩,fun j v hj=>?_⟩
  have hl:=RV.len _ _ h1
  by_cases hlt:j<us.length
  ·rw [List.getElem?_append_left hlt] at hj;exact h2 j v hj
  ·rw [List.getElem?_append_right (by omega)] at hj
   have:=h5 (j - us.length) v hj
   rw [show o+d.size+(j - us.length)=o+j by omega] at this
   exact this
theorem REs.of_flat {b:Nat}:∀ (es:List D) (o:Nat) (xs:List Value),RVs w I es xs→CellsAt w b o xs→REs w I b o es
 | [],o,xs,_,_=>by unfold REs;trivial
 | d::ds,o,xs,h,hc=>by
  unfold RVs at h
  obtain ⟨p,q,rfl,h1,h2⟩:=h
  have hl:=RV.len _ _ h1
  unfold REs
  refine ⟨p,h1,fun j v hj=>hc j v (by rw [List.getElem?_append_left (List.getElem?_eq_some_iff.1 hj).1];exact hj),REs.of_flat ds _ q h2 (fun j v hj=>?_)⟩
  have:=hc (d.size+j) v (by rw [List.getElem?_append_right (by omega),hl,Nat.add_sub_cancel_left];exact hj)
  rw [← Nat.add_assoc] at this
  exact this
theorem RVs.one {ds:List D} {us:List Value} (h:RVs w I ds us):∀ v∈us,v.oneCell'=true:=RV.one (d:=.agg ds) (by unfold RV;exact h)
end

def dropTok (tg:Tag) (ow:List (Nat×Nat)):List (Nat×Nat):=
 match tg with
 | .own b _ _=>ow.filter (fun p=>p.1 != b)
 | _=>ow
def mayApp (S:Sto) (e:TypeId) (z:Nat) (es:List D):Tag→Prop
 | .nil=>True
 | .full=>True
 | .own b t z'=>t=e∧z'=z∧(b,es.length*z)∈S.ow
 | .none=>False

section
variable {P : Program} {T : TypeId → Ty} {B : Bg} {Q : AX → List D → Sto → Prop} {A : List D} {S : Sto} {ops : Array Oper} {l : List Oper} {o : Oper}

theorem AOps.nil (h:Q .normal A S):AOps P B ops Q [] A S:=fun a w k=>wpList_nil ⟨A,S,k,h⟩
theorem AOps.skip (hw:wantedA ops A o=some false) (h:AOps P B ops Q l (putA A o.dst (.tup [])) S):AOps P B ops Q (o::l) A S:=fun a w k=>
 wpList_step fun K hK=>by
  rw [if_neg (by rw [wantedA_ok k.act hw];simp)]
  exact hK _ _ (h _ _ ⟨k.act.put o.dst RVal.undef,k.st,k.evo,by cases o.dst <;> exact k.df⟩)
theorem put_df {a:Act} {dst:Option Tmp} {x:Value}:(a.put dst x).defers=a.defers:=by cases dst <;> rfl

theorem does1 {a:Act} {w:World} {d:D} {S':Sto} (k:At B A S a w) (hw:wantedA ops A o=some true) (hd:Does P w S (execOp a.eval o) d S') (h:AOps P B ops Q l (putA A o.dst d) S'):wpList P ops (Conc B Q) (o::l) a w:=
 wpList_step fun K hK=>by
  rw [if_pos (wantedA_ok k.act hw)]
  obtain ⟨r,y,w',h1,h2,h3,h4,h5⟩:=hd
  unfold Oper.wp
  rw [h1]
  have hgo:K (a.put o.dst y) w':=hK _ _ (h _ _ ⟨(k.act.evo h5).put o.dst h3,h4,k.evo.trans h5,by rw [put_df];exact k.df⟩)
  rcases h2 with rfl | ⟨rfl,rfl⟩
  ·exact hgo
  ·exact hgo
theorem AOps.does {d:D} {S':Sto} (hw:wantedA ops A o=some true) (hd:∀ a w,At B A S a w→Does P w S (execOp a.eval o) d S') (h:AOps P B ops Q l (putA A o.dst d) S'):AOps P B ops Q (o::l) A S:=
 fun a w k=>does1 k hw (hd a w k) h

theorem AOps.step (hP:Prg P T) {d:D} {S':Sto} (hw:wantedA ops A o=some true) (he:evalS T A S o.op=some (d,S')) (h:AOps P B ops Q l (putA A o.dst d) S'):AOps P B ops Q (o::l) A S:=
 AOps.does hw (fun a w k=>evalS_ok hP k.st k.act he) h

noncomputable def runOps (T:TypeId→Ty) (ops:Array Oper):List Oper→List D→Sto→List Oper×List D×Sto
 | [],A,S=>([],A,S)
 | o::l,A,S=>
  match wantedA ops A o with
  | some true=>(match evalS T A S o.op with | some (d,S')=>runOps T ops l (putA A o.dst d) S' | Option.none=>(o::l,A,S))
  | some false=>runOps T ops l (putA A o.dst (.tup [])) S
  | Option.none=>(o::l,A,S)
theorem AOps.run (hP:Prg P T):∀ (l:List Oper) (A:List D) (S:Sto) {l':List Oper} {A':List D} {S':Sto},runOps T ops l A S=(l',A',S')→AOps P B ops Q l' A' S'→AOps P B ops Q l A S
 | [],A,S,l',A',S',h,k=>by simp only [runOps,Prod.mk.injEq] at h;obtain ⟨rfl,rfl,rfl⟩:=h;exact k
 | o::l,A,S,l',A',S',h,k=>by
  unfold runOps at h
  split at h
  ·rename_i hw
   split at h
   ·rename_i d S1 he
    exact AOps.step hP hw he (AOps.run hP l _ _ h k)
   ·simp only [Prod.mk.injEq] at h;obtain ⟨rfl,rfl,rfl⟩:=h;exact k
  ·rename_i hw
   exact AOps.skip hw (AOps.run hP l _ _ h k)
  ·simp only [Prod.mk.injEq] at h;obtain ⟨rfl,rfl,rfl⟩:=h;exact k

theorem AOps.go (hP:Prg P T) {l l':List Oper} {A A':List D} {S S':Sto} (run:runOps T ops l A S=(l',A',S')) (k:AOps P B ops Q l' A' S'):AOps P B ops Q l A S:=AOps.run hP l A S run k

theorem AOps.runP (hP:Prg P T) (r:List Oper):∀ (l:List Oper) (A:List D) (S:Sto) {l':List Oper} {A':List D} {S':Sto},runOps T ops l A S=(l',A',S')→AOps P B ops Q (l'++r) A' S'→AOps P B ops Q (l++r) A S
 | [],A,S,l',A',S',h,k=>by simp only [runOps,Prod.mk.injEq] at h;obtain ⟨rfl,rfl,rfl⟩:=h;exact k
 | o::l,A,S,l',A',S',h,k=>by
  unfold runOps at h
  split at h
  ·rename_i hw
   split at h
   ·rename_i d S1 he
    exact AOps.step hP hw he (AOps.runP hP r l _ _ h k)
   ·simp only [Prod.mk.injEq] at h;obtain ⟨rfl,rfl,rfl⟩:=h;exact k
  ·rename_i hw
   exact AOps.skip hw (AOps.runP hP r l _ _ h k)
  ·simp only [Prod.mk.injEq] at h;obtain ⟨rfl,rfl,rfl⟩:=h;exact k
theorem AOps.goP (hP:Prg P T) {l l' m:List Oper} {A A':List D} {S S':Sto} (run:runOps T ops (l.take 5) A S=(l',A',S')) (pr:Nat.blt l'.length (l.take 5).length=true) (mm:l'++l.drop 5=m) (k:AOps P B ops Q m A' S'):AOps P B ops Q l A S:=by
 have h:=AOps.runP hP (l.drop 5) (l.take 5) A S run (by rw [mm];exact k)
 rwa [List.take_append_drop] at h

theorem AW.region {id:Nat} {l:List Oper} (h:AOps P B l.toArray Q l A S):AW P B (.region id l.toArray false) Q A S:=fun a w k=>wp_region_lit (h a w k)

theorem StAt.new {w:World} (hS:StAt w S) (t:TypeId) {d:D} {us:List Value} (hd:RV w S.I d us):StAt (w.alloc (.cells us.toArray t)) ⟨(w.heap.size,t,d)::S.bk,S.ow⟩∧Evo w S.I (w.alloc (.cells us.toArray t)) (⟨(w.heap.size,t,d)::S.bk,S.ow⟩:Sto).I:=by
 have hevo:Evo w S.I (w.alloc (.cells us.toArray t)) (⟨(w.heap.size,t,d)::S.bk,S.ow⟩:Sto).I:=
  (evo_alloc S.I _).mono (fun b e hb hi=>⟨by
   simp only [List.map_cons,List.mem_cons,not_or]
   exact ⟨by omega,hi.1⟩,hi.2⟩)
 refine ⟨⟨?_,fun b t' d' hm=>?_,fun b L hm=>?_⟩,hevo⟩
 ·simp only [List.map_cons,List.cons_append,List.nodup_cons]
  refine ⟨fun hm=>?_,hS.nd⟩
  rcases List.mem_append.1 hm with hm | hm
  ·exact absurd (hS.lt (.inl hm)) (by omega)
  ·exact absurd (hS.lt (.inr hm)) (by omega)
 ·rcases List.mem_cons.1 hm with hm | hm
  ·simp only [Prod.mk.injEq] at hm
   obtain ⟨rfl,rfl,rfl⟩:=hm
   exact .of (Blk.new w t' _) (.of (hd.evo hevo _ _))
  ·exact (hS.mutAt b t' d' hm).alloc _ hevo
 ·obtain ⟨t',cur,h1,h2⟩:=hS.ownAt b L hm
  exact ⟨t',cur,(Below.heap_alloc _ _ _ (lt_of_block h1)).trans h1,h2⟩

theorem fresh_new {w:World} (hS:StAt w S):w.heap.size ∉ S.bk.map (·.1)∧w.heap.size ∉ S.ow.map (·.1):=
 ⟨fun hm=>absurd (hS.lt (.inl hm)) (by omega),fun hm=>absurd (hS.lt (.inr hm)) (by omega)⟩
theorem exec_plain {w:World} {s:Sem Value} {y:Value} {w':World} (h:s.run P w=.ok y w'):(do pure (Next.value (← s)):Sem Next).run P w=.ok (.value y) w':=by rw [Sem.run_bind,h];rfl

theorem AOps.alloc (hP:Prg P T) {t:TypeId} (ho:o.op=.alloc t) (hw:wantedA ops A o=some true) (ht:(T t).known=true) (hl:(T t).zero.lies=true)
  (h:∀ b,b ∉ S.bk.map (·.1)∧b ∉ S.ow.map (·.1)→AOps P B ops Q l (putA A o.dst (.v (.pointer (some ⟨b,0,Option.none⟩)))) ⟨(b,t,(T t).zero)::S.bk,S.ow⟩):AOps P B ops Q (o::l) A S:=fun a w k=>by
 refine does1 k hw ?_ (h w.heap.size (fresh_new k.st))
 obtain ⟨z,hz,hzv⟩:=(hP.ty t (Ty.known_ne ht)).run_zero w
 have hc:=(hzv w S.I).cells hl
 obtain ⟨h1,h2⟩:=k.st.new t hc
 refine ⟨_,_,_,?_,.inl rfl,RVal.vv rfl,h1,h2⟩
 obtain ⟨dst,op,type,pos,after,guard⟩:=o
 simp only at ho
 subst ho
 simp only [execOp,Instr.alloc,Sem.run_bind,hz,Result.andThen_ok,newVar,newRow,run_newObj,Sem.run_pure]
 simp

theorem AOps.boxm {t:TypeId} {x:Operand} (ho:o.op=.box t x) (hw:wantedA ops A o=some true) (hl:(evalO A x).lies=true)
  (h:∀ b,b ∉ S.bk.map (·.1)∧b ∉ S.ow.map (·.1)→AOps P B ops Q l (putA A o.dst (.v (.pointer (some ⟨b,0,Option.none⟩)))) ⟨(b,t,evalO A x)::S.bk,S.ow⟩):AOps P B ops Q (o::l) A S:=fun a w k=>by
 refine does1 k hw ?_ (h w.heap.size (fresh_new k.st))
 have hc:=(evalO_ok k.act x).cells hl
 obtain ⟨h1,h2⟩:=k.st.new t hc
 refine ⟨_,_,_,?_,.inl rfl,RVal.vv rfl,h1,h2⟩
 obtain ⟨dst,op,type,pos,after,guard⟩:=o
 simp only at ho
 subst ho
 simp only [execOp,Instr.box,Sem.run_bind,newVar,newRow,run_newObj,Result.andThen_ok,Sem.run_pure]
 simp

theorem RVals.of_eval {a:Act} {w:World} {I:Nat→Nat→Prop} (h:ActAt w I A a):∀ (xs:List Operand),RVals w I (xs.map (evalO A)) (xs.map a.eval)
 | []=>by simp only [List.map_nil];unfold RVals;rfl
 | x::xs=>by simp only [List.map_cons];unfold RVals;exact ⟨_,_,rfl,evalO_ok h x,RVals.of_eval h xs⟩
theorem RVals.app {w:World} {I:Nat→Nat→Prop}:∀ {ds es:List D} {xs ys:List Value},RVals w I ds xs→RVals w I es ys→RVals w I (ds++es) (xs++ys)
 | [],es,xs,ys,h,k=>by unfold RVals at h;subst h;exact k
 | d::ds,es,xs,ys,h,k=>by
  unfold RVals at h
  obtain ⟨y,zs,rfl,h1,h2⟩:=h
  simp only [List.cons_append]
  unfold RVals
  exact ⟨y,zs++ys,rfl,h1,RVals.app h2 k⟩
theorem RVals.vs {w:World} {I:Nat→Nat→Prop}:∀ (xs:List Value),(∀ x∈xs,x.oneCell'=true)→RVals w I (xs.map .v) xs
 | [],_=>by simp only [List.map_nil];unfold RVals;rfl
 | x::xs,h=>by simp only [List.map_cons];unfold RVals;exact ⟨x,xs,rfl,RVal.vv (h x List.mem_cons_self),RVals.vs xs (fun y hy=>h y (List.mem_cons_of_mem _ hy))⟩

theorem call_on {a:Act} {w:World} {f:FuncId} {ds:List D} {xs:List Value} {R:AEnd→Sto→Prop} (k:At B A S a w) (hw:wantedA ops A o=some true) (hx:RVals w S.I ds xs)
  (hrun:(execOp a.eval o).run P w=.ok (.enter f xs.toArray) w) (hc:ACalls P f ds S R) (hk:∀ d S',R (.ret d) S'→AOps P B ops Q l (putA A o.dst d) S') (hp:∀ d S',R (.pan d) S'→Q (.panic d) A S') :
  wpList P ops (Conc B Q) (o::l) a w:=
 wpList_step fun K hK=>by
  rw [if_pos (wantedA_ok k.act hw)]
  unfold Oper.wp
  rw [hrun]
  refine (hc.2 w xs k.st hx).mono (fun e w' hpost=>?_)
  cases e with
  | returned v=>
   obtain ⟨d,S',h1,h2,h3,h4⟩:=hpost
   exact hK _ _ (hk d S' h4 _ _ ⟨(k.act.evo h2).put o.dst h3,h1,k.evo.trans h2,by rw [put_df];exact k.df⟩)
  | panicked ch=>
   obtain ⟨d,v,S',he,h1,h2,h3,h4⟩:=hpost
   exact ⟨A,S',d,v,⟨k.act.evo h2,h1,k.evo.trans h2,k.df⟩,he,h3,hp d S' h4⟩
  | outgrown=>exact hpost.elim

theorem AOps.call {f:FuncId} {args:Array Operand} {ats:Array TypeId} {R:AEnd→Sto→Prop} (ho:o.op=.call ⟨.value (.func f),args,ats⟩) (hw:wantedA ops A o=some true)
  (hc:ACalls P f (args.toList.map (evalO A)) S R) (hk:∀ d S',R (.ret d) S'→AOps P B ops Q l (putA A o.dst d) S') (hp:∀ d S',R (.pan d) S'→Q (.panic d) A S'):AOps P B ops Q (o::l) A S:=fun a w k=>by
 refine call_on k hw (RVals.of_eval k.act args.toList) ?_ hc hk hp
 obtain ⟨dst,op,type,pos,after,guard⟩:=o
 simp only at ho
 subst ho
 have e:(List.map a.eval args.toList).toArray=args.map a.eval:=by apply Array.ext';simp
 rw [e]
 have h:=hc.1 (args.map a.eval) w
 simp only [execOp,resolve,Sem.run_bind,Act.eval,Deferred.ofValue,Sem.run_pure,Result.andThen_ok,invoke]
 simpa using h

theorem AOps.callf {x:Operand} {f:FuncId} {cs:List D} {args:Array Operand} {ats:Array TypeId} {R:AEnd→Sto→Prop} (ho:o.op=.call ⟨.value x,args,ats⟩) (hw:wantedA ops A o=some true)
  (hx:evalO A x=.fn f cs) (hc:ACalls P f (args.toList.map (evalO A)++cs) S R) (hk:∀ d S',R (.ret d) S'→AOps P B ops Q l (putA A o.dst d) S') (hp:∀ d S',R (.pan d) S'→Q (.panic d) A S'):AOps P B ops Q (o::l) A S:=fun a w k=>by
 have hv:=evalO_ok k.act x
 rw [hx] at hv
 unfold RVal RV at hv
 obtain ⟨xs,hv,hr⟩:=hv
 simp only [List.cons.injEq,and_true] at hv
 refine call_on k hw ((RVals.of_eval k.act args.toList).app hr.vals) ?_ hc hk hp
 obtain ⟨dst,op,type,pos,after,guard⟩:=o
 simp only at ho
 subst ho
 have e:(List.map a.eval args.toList++xs).toArray=#[]++args.map a.eval++xs.toArray:=by apply Array.ext';simp
 rw [e]
 have h:=hc.1 (#[]++args.map a.eval++xs.toArray) w
 simp only [execOp,resolve,Sem.run_bind,hv,Deferred.ofValue,Sem.run_pure,Result.andThen_ok,invoke]
 exact h
theorem AOps.panic {x:Operand} {t:TypeId} {v:Value} (ho:o.op=.panic x) (hw:wantedA ops A o=some true) (hx:evalO A x=.v (.iface t v)) (h:Q (.panic (.v (.iface t v))) A S):AOps P B ops Q (o::l) A S:=fun a w k=>by
 have hv:=evalO_ok k.act x
 rw [hx] at hv
 refine wpList_step fun K hK=>?_
 rw [if_pos (wantedA_ok k.act hw)]
 unfold Oper.wp
 have hrun:(execOp a.eval o).run P w=.halt (.panic (.iface t v)) w:=by
  obtain ⟨dst,op,type,pos,after,guard⟩:=o
  simp only at ho
  subst ho
  unfold RVal at hv
  simp only [execOp,hv.1,Instr.panic,Sem.run_bind]
  rfl
 rw [hrun]
 exact ⟨A,S,.v (.iface t v),.iface t v,k,rfl,RVal.vv rfl,h⟩

theorem callable {f : FuncId} {fn : Func} {c : Code} (hf : P.funcs[f]? = some fn) (hb : fn.body = some c) (hn : (fn.name == "runtime.NumGoroutine") = false) : Callable P f := fun args w => by
 have hn' : ¬ fn.name = "runtime.NumGoroutine" := by simpa using hn
 simp [callFunc,Sem.run_bind,hf,hb,hn']

noncomputable def resD (T:TypeId→Ty) (A:List D) (S:Sto):List ResultVar→Option (List D)
 | []=>some []
 | .tmp t::rs=>(resD T A S rs).map (A.getD t .any::·)
 | .cell a t::rs=>match loadV T S.bk t (A.getD a .any),resD T A S rs with
  | some d,some ds=>some (d::ds)
  | _,_=>Option.none
def oneOf:List D→D
 | [d]=>d
 | ds=>.tup ds

mutual
def untag:D→D
 | .sl _ es=>.sl .none es
 | .agg ds=>.agg (untags ds)
 | .tup ds=>.tup (untags ds)
 | .v x=>.v x
 | .dg d=>.dg d
 | .pt d=>.pt d
 | .fn f cs=>.fn f cs
 | .any=>.any
def untags:List D→List D
 | []=>[]
 | d::ds=>untag d::untags ds
end
section
variable {w : World} {I : Nat → Nat → Prop}
mutual
theorem RV.untag:∀ (d:D) (us:List Value),RV w I d us→RV w I (untag d) us
 | .sl t es,us,h=>by
  unfold Proofs.YtgjaaffheanobaaGreat.untag
  unfold RV at *
  obtain ⟨a,n,c,h1,h2,h3,h4,h5⟩:=h
  exact ⟨a,n,c,h1,h2,h3,trivial,h5.imp id (Or.imp (fun h=>⟨.inl rfl,h.2⟩) id)⟩
 | .agg ds,us,h=>by unfold Proofs.YtgjaaffheanobaaGreat.untag;unfold RV at *;exact RVs.untag ds us h
 | .tup ds,us,h=>by unfold RV at h;exact h.elim
 | .v x,us,h=>by unfold Proofs.YtgjaaffheanobaaGreat.untag;exact h
 | .dg x,us,h=>by unfold Proofs.YtgjaaffheanobaaGreat.untag;exact h
 | .pt x,us,h=>by unfold Proofs.YtgjaaffheanobaaGreat.untag;exact h
 | .fn f x,us,h=>by unfold Proofs.YtgjaaffheanobaaGreat.untag;exact h
 | .any,us,h=>by unfold Proofs.YtgjaaffheanobaaGreat.untag;exact h
theorem RVs.untag:∀ (ds:List D) (us:List Value),RVs w I ds us→RVs w I (untags ds) us
 | [],us,h=>by unfold untags;exact h
 | d::ds,us,h=>by
  unfold untags
  unfold RVs at *
  obtain ⟨xs,ys,e,h1,h2⟩:=h
  exact ⟨xs,ys,e,RV.untag d xs h1,RVs.untag ds ys h2⟩
end
mutual
theorem RVal.untag:∀ (d:D) (x:Value),RVal w I d x→RVal w I (untag d) x
 | .sl t es,x,h=>by unfold RVal at h;have:=RV.untag _ _ h;unfold Proofs.YtgjaaffheanobaaGreat.untag at *;unfold RVal;exact this
 | .agg ds,x,h=>by unfold Proofs.YtgjaaffheanobaaGreat.untag;unfold RVal at *;obtain ⟨us,e,h⟩:=h;exact ⟨us,e,RVs.untag ds us h⟩
 | .tup ds,x,h=>by unfold Proofs.YtgjaaffheanobaaGreat.untag;unfold RVal at *;obtain ⟨xs,e,h⟩:=h;exact ⟨xs,e,RVals.untag ds xs h⟩
 | .v y,x,h=>by unfold Proofs.YtgjaaffheanobaaGreat.untag;exact h
 | .dg y,x,h=>by unfold Proofs.YtgjaaffheanobaaGreat.untag;exact h
 | .pt y,x,h=>by unfold Proofs.YtgjaaffheanobaaGreat.untag;exact h
 | .fn f y,x,h=>by unfold Proofs.YtgjaaffheanobaaGreat.untag;exact h
 | .any,x,h=>by unfold Proofs.YtgjaaffheanobaaGreat.untag;exact h
theorem RVals.untag:∀ (ds:List D) (xs:List Value),RVals w I ds xs→RVals w I (untags ds) xs
 | [],xs,h=>by unfold untags;exact h
 | d::ds,xs,h=>by
  unfold untags
  unfold RVals at *
  obtain ⟨y,ys,e,h1,h2⟩:=h
  exact ⟨y,ys,e,RVal.untag d y h1,RVals.untag ds ys h2⟩
end
end
def Less (d d':D):Prop:=d'=d∨d'=untag d

def EndQ (T:TypeId→Ty) (rs:List ResultVar) (S0:Sto) (R:AEnd→Sto→Prop):AX→List D→Sto→Prop
 | .normal,A,S=>∃ ds d S',resD T A S rs=some ds∧Less (oneOf ds) d∧S'.Sub S∧R (.ret d) S'
 | .ret,A,S=>∃ ds d S',resD T A S rs=some ds∧Less (oneOf ds) d∧S'.Sub S∧R (.ret d) S'
 | .panic d,_,S=>∃ S',S'.Sub S∧R (.pan d) S'
 | _,_,_=>False

theorem RVals.len {w:World} {I:Nat→Nat→Prop}:∀ {ds:List D} {xs:List Value},RVals w I ds xs→xs.length=ds.length
 | [],xs,h=>by unfold RVals at h;subst h;rfl
 | d::ds,xs,h=>by unfold RVals at h;obtain ⟨y,ys,rfl,_,h2⟩:=h;simp [RVals.len h2]
def resF (tmps:Array Value):ResultVar→Sem Value
 | .tmp t=>pure (tmps.getD t undef)
 | .cell p t=>do loadVar t (← asAddr (tmps.getD p undef))
theorem results_eq (fn:Func) (tmps:Array Value):results fn tmps=(do let vs ← fn.results.mapM (resF tmps);pure (if h:vs.size=1 then vs[0] else .tuple vs)):=rfl
theorem resD_ok (hP:Prg P T) {a:Act} {w:World} (k:At B A S a w):∀ (rs:List ResultVar) (ds:List D),resD T A S rs=some ds→∃ xs:List Value,(rs.mapM (resF a.tmps)).run P w=.ok xs w∧RVals w S.I ds xs
 | [],ds,h=>by simp only [resD,Option.some.injEq] at h;subst h;exact ⟨[],rfl,by unfold RVals;rfl⟩
 | .tmp t::rs,ds,h=>by
  unfold resD at h
  obtain ⟨es,h1,rfl⟩:=Option.map_eq_some_iff.1 h
  obtain ⟨xs,h2,h3⟩:=resD_ok hP k rs es h1
  refine ⟨a.tmps.getD t undef::xs,?_,by unfold RVals;exact ⟨_,_,rfl,evalO_ok k.act (.tmp t),h3⟩⟩
  rw [List.mapM_cons,Sem.run_bind]
  simp only [resF,Sem.run_pure,Result.andThen_ok,Sem.run_bind,h2]
 | .cell p t::rs,ds,h=>by
  unfold resD at h
  split at h
  ·rename_i d es h0 h1
   simp only [Option.some.injEq] at h
   subst h
   obtain ⟨xs,h2,h3⟩:=resD_ok hP k rs es h1
   have hp:=evalO_ok k.act (.tmp p)
   obtain ⟨y,h4,h5⟩:=loadV_ok hP.ty k.st h0 hp
   refine ⟨y::xs,?_,by unfold RVals;exact ⟨_,_,rfl,h5,h3⟩⟩
   have hload:(resF a.tmps (.cell p t)).run P w=.ok y w:=by
    show (do loadVar t (← asAddr (a.tmps.getD p undef)):Sem Value).run P w=.ok y w
    have h6:(Instr.loadAt t (a.tmps.getD p undef)).run P w=.ok y w:=h4
    unfold Instr.loadAt at h6
    generalize a.tmps.getD p undef=q at *
    cases q <;> first
     | (rename_i ad;cases ad <;> first | exact h6 | (simp [Instr.sureAddr] at h6))
     | (simp [Instr.sureAddr] at h6)
   rw [List.mapM_cons,Sem.run_bind,hload]
   simp only [Sem.run_pure,Result.andThen_ok,Sem.run_bind,h2]
  ·cases h

theorem start_at {fn:Func} {args:List D} {n:Nat} {w:World} {xs:List Value} (hnt:fn.ntmps=n) (hS:StAt w S) (hx:RVals w S.I args xs) :
  At ⟨w,S.I,[]⟩ (args++List.replicate (n - args.length) (.tup [])) S { tmps:=xs.toArray++Array.replicate (fn.ntmps - xs.toArray.size) undef,defers:=[] } w:=by
 have hlen:=hx.len
 refine ⟨⟨by simp [hlen,hnt],fun i d hi=>?_⟩,hS,Evo.refl _ _,rfl⟩
 by_cases hlt:i<args.length
 ·rw [List.getElem?_append_left hlt] at hi
  obtain ⟨x,h1,h2⟩:=hx.get hi
  have:(xs.toArray++Array.replicate (fn.ntmps - xs.toArray.size) undef).getD i undef=x:=by
   rw [Array.getD_eq_getD_getElem?,Array.getElem?_append_left (by simp;omega)]
   simp [h1]
  rw [this];exact h2
 ·rw [List.getElem?_append_right (by omega),List.getElem?_replicate] at hi
  split at hi
  ·rename_i h3
   simp only [Option.some.injEq] at hi
   subst hi
   have:(xs.toArray++Array.replicate (fn.ntmps - xs.toArray.size) undef).getD i undef=undef:=by
    rw [Array.getD_eq_getD_getElem?,Array.getElem?_append_right (by simp;omega)]
    simp only [List.size_toArray,Array.getElem?_replicate]
    split <;> rfl
   rw [this];exact RVal.undef
  ·cases hi
def ResQ (T:TypeId→Ty) (rs:List ResultVar) (A:List D) (S:Sto) (R:D→Sto→Prop):Prop:=∃ ds d S',resD T A S rs=some ds∧Less (oneOf ds) d∧S'.Sub S∧R d S'
theorem ResQ.ok (hP:Prg P T) {fn:Func} {rs:List ResultVar} {R:D→Sto→Prop} (hrs:fn.results.toList=rs) {a:Act} {w:World} {A:List D} {S:Sto} (k:At B A S a w) (h:ResQ T rs A S R) :
  ∃ v d S',(results fn a.tmps).run P w=.ok v w∧StAt w S'∧Evo B.w B.I w S'.I∧RVal w S'.I d v∧R d S':=by
 obtain ⟨ds,d,S'',h1,hl,h2,h3⟩:=h
 obtain ⟨ys,h4,h5⟩:=resD_ok hP k rs ds h1
 refine ⟨if h:ys.toArray.size=1 then ys.toArray[0] else .tuple ys.toArray,d,S'',?_,k.st.sub h2,k.evo.trans (Evo.imp (fun _ _=>h2.I)),?_,h3⟩
 ·rw [results_eq,Sem.run_bind,← Array.toArray_toList (xs:=fn.results),hrs,List.mapM_toArray,Sem.run_map]
  rw [h4]
  rfl
 ·suffices hone:RVal w S''.I (oneOf ds) (if h:ys.toArray.size=1 then ys.toArray[0] else .tuple ys.toArray) by
   rcases hl with rfl | rfl
   ·exact hone
   ·exact RVal.untag _ _ hone
  have h5':=RVals.evo (Evo.imp (w:=w) (fun _ _=>h2.I)) _ _ h5
  have hl:=h5.len
  match ds,ys,hl with
  | [],[],_=>exact RVal.undef
  | [d],[y],_=>unfold RVals at h5';obtain ⟨y',ys',e,h6,_⟩:=h5';simp only [List.cons.injEq] at e;rw [← e.1] at h6;exact h6
  | d1::d2::ds,y1::y2::ys,_=>show RVal _ _ (.tup _) _;unfold RVal;exact ⟨_,by simp,h5'⟩
theorem endq_body (hP:Prg P T) {fn:Func} {rs:List ResultVar} {R:AEnd→Sto→Prop} {S0:Sto} {w:World} (hrs:fn.results.toList=rs) (hd:B.dl=[]) (hw:B.w=w) (hI:B.I=S0.I) (e:Exit) (a':Act) (w':World) (q:Conc B (EndQ T rs S0 R) e a' w'):bodyPost P fn (APost w S0 R) e a' w':=by
 subst hw
 have hend:∀ A' S',At B A' S' a' w'→ResQ T rs A' S' (fun d S'=>R (.ret d) S')→a'.defers=[]∧∃ v,(results fn a'.tmps).run P w'=.ok v w'∧APost B.w S0 R (.returned v) w':=by
  intro A' S' k q
  obtain ⟨v,d,S'',h1,h2,h3,h4,h5⟩:=q.ok hP hrs k
  exact ⟨k.df.trans hd,v,h1,d,S'',h2,hI ▸ h3,h4,h5⟩
 cases e with
 | normal=>obtain ⟨A',S',k,q⟩:=q;exact hend A' S' k q
 | ret=>obtain ⟨A',S',k,q⟩:=q;exact hend A' S' k q
 | panic ch=>
  obtain ⟨A',S',d,v,k,he,hr,S'',h2,h3⟩:=q
  exact ⟨k.df.trans hd,d,v,S'',he,k.st.sub h2,hI ▸ k.evo.trans (Evo.imp (fun _ _=>h2.I)),hr.evo (Evo.imp (fun _ _=>h2.I)) _ _,h3⟩
 | exit id=>obtain ⟨_,_,_,q⟩:=q;exact q.elim
 | goto l=>obtain ⟨_,_,_,q⟩:=q;exact q.elim
 | outgrown=>exact q.elim

theorem acalls_of (hP : Prg P T) {f : FuncId} {fn : Func} {c : Code} {rs : List ResultVar} {args : List D} {n : Nat} {R : AEnd → Sto → Prop} (hf : P.funcs[f]? = some fn) (hb : fn.body = some c) (hn : (fn.name == "runtime.NumGoroutine") = false)
  (hrs:fn.results.toList=rs) (hnt:fn.ntmps=n)
  (h:∀ B:Bg,B.dl=[]→AW P B c (EndQ T rs S R) (args++List.replicate (n - args.length) (.tup [])) S):ACalls P f args S R:=
 ⟨callable hf hb hn,fun w xs hS hx=>calls_of_wp hf hb (Go.wp_mono (h ⟨w,S.I,[]⟩ rfl _ _ (start_at hnt hS hx)) (fun e a' w' q=>endq_body hP (B:=⟨w,S.I,[]⟩) hrs rfl rfl rfl e a' w' q))⟩
end


theorem addr_add (b o j:Nat):(⟨b,o,none⟩:Addr).add j=⟨b,o+j,none⟩:=by unfold Addr.add;split <;> simp_all

theorem mem_drop {tg:Tag} {ow:List (Nat×Nat)} {c L:Nat} (h:(c,L)∈dropTok tg ow):(c,L)∈ow:=by
 unfold dropTok at h
 split at h
 ·exact (List.mem_filter.1 h).1
 ·exact h
theorem drop_sub (tg:Tag) (ow:List (Nat×Nat)):List.Sublist (dropTok tg ow) ow:=by
 unfold dropTok
 split
 ·exact List.filter_sublist
 ·exact List.Sublist.refl _

section
variable {P : Program} {T : TypeId → Ty} {w : World} {S : Sto}

def AppPost (w:World) (S:Sto) (e:TypeId) (z:Nat) (tg:Tag) (es:List D) (s:Sem Value) (P:Program):Prop:=
 ∃ y w' g,s.run P w=.ok y w'∧g ∉ S.bk.map (·.1)∧g ∉ (dropTok tg S.ow).map (·.1)∧RVal w' (⟨S.bk,(g,es.length*z)::dropTok tg S.ow⟩:Sto).I (.sl (.own g e z) es) y ∧
  StAt w' ⟨S.bk,(g,es.length*z)::dropTok tg S.ow⟩∧Evo w S.I w' (⟨S.bk,(g,es.length*z)::dropTok tg S.ow⟩:Sto).I

theorem app_new (hS:StAt w S) {e:TypeId} {z:Nat} {tg:Tag} {ds:List D} {us rest:List Value} {cap:Nat} {s:Sem Value} (hsz:∀ d∈ds,d.size=z) (hu:RVs w S.I ds us) (hn:ds.length≤cap) (hc:cap≤maxLen)
  (hcap:us.length+rest.length=cap*z) (hr:s.run P w=.ok (.slice (some ⟨w.heap.size,0,none⟩) ds.length cap) (w.drew.alloc (.cells (us++rest).toArray e))):AppPost w S e z tg ds s P:=by
 have hul:us.length=ds.length*z:=by rw [RVs.len _ _ hu,sizes_const ds z hsz]
 have hfresh:=fresh_new hS
 have hgd:w.heap.size ∉ (dropTok tg S.ow).map (·.1):=fun hm=>hfresh.2 (((drop_sub tg S.ow).map (·.1)).subset hm)
 have hevo:Evo w S.I (w.drew.alloc (.cells (us++rest).toArray e)) (⟨S.bk,(w.heap.size,ds.length*z)::dropTok tg S.ow⟩:Sto).I:=by
  refine (((Kp.refl [] w).drew).alloc _).evo (fun _ _ _ _=>by simp) (fun b e' hb hi=>⟨hi.1,fun L hL=>?_⟩)
  rcases List.mem_cons.1 hL with hL | hL
  ·simp only [Prod.mk.injEq] at hL;omega
  ·exact hi.2 L (mem_drop hL)
 refine ⟨_,_,w.heap.size,hr,hfresh.1,hgd,?_,⟨?_,fun b t d hm=>?_,fun b L hm=>?_⟩,hevo⟩
 ·unfold RVal RV
  refine ⟨_,_,_,rfl,rfl,hn,⟨rfl,⟨_,heap_alloc_new w.drew _,by simp;exact hcap⟩,hc,hsz⟩,.inr <| .inr ⟨_,_,rfl,by simp,⟨hfresh.1,fun L hL=>?_⟩,⟨z,hsz⟩,?_⟩⟩
  ·rcases List.mem_cons.1 hL with hL | hL
   ·simp only [Prod.mk.injEq] at hL;rw [hL.2,sizes_const ds z hsz];omega
   ·exact absurd (List.mem_map.2 ⟨_,hL,rfl⟩) hgd
  ·refine REs.of_flat ds 0 us (hu.evo hevo _ _) (fun j v hj=>?_)
   have:=cells_new (w:=w.drew) (us++rest) e j v (by rw [List.getElem?_append_left (List.getElem?_eq_some_iff.1 hj).1];exact hj)
   exact this
 ·have h1:=hS.nd
  rw [List.nodup_append] at h1 ⊢
  refine ⟨h1.1,?_,?_⟩
  ·simp only [List.map_cons,List.nodup_cons]
   exact ⟨hgd,((drop_sub tg S.ow).map _).nodup h1.2.1⟩
  ·intro a ha b hb
   simp only [List.map_cons,List.mem_cons] at hb
   rcases hb with rfl | hb
   ·intro e;subst e;exact hfresh.1 ha
   ·exact h1.2.2 a ha b (((drop_sub tg S.ow).map _).subset hb)
 ·exact (hS.mutAt b t d hm).same (Below.heap_alloc w.drew _ _ (hS.mutAt b t d hm).lt) hevo
 ·rcases List.mem_cons.1 hm with hm | hm
  ·simp only [Prod.mk.injEq] at hm
   obtain ⟨rfl,rfl⟩:=hm
   exact ⟨e,_,heap_alloc_new w.drew _,by simp [hul]⟩
  ·obtain ⟨t,cur,h1,h2⟩:=hS.ownAt b L (mem_drop hm)
   exact ⟨t,cur,(Below.heap_alloc w.drew _ _ (lt_of_block h1)).trans h1,h2⟩

theorem append_ok (hP:Prg P T) (hS:StAt w S) {t ty e:TypeId} {z by_:Nat} (ht:T t=.slice e) (hk:(T e).known=true) (hl:(T e).zero.lies=true) (hz:(T e).zero.size=z) (hz0:0<z) (hby:(P.info? e).map (·.bytes)=some by_) (hby0:0<by_)
  {tg tg':Tag} {es ns:List D} {u v:Value} (hu:RVal w S.I (.sl tg es) u) (hv:RVal w S.I (.sl tg' ns) v) (hsz:∀ d∈es++ns,d.size=z) (hm:mayApp S e z es tg) (hn:ns≠[]) (hb:(es.length+ns.length)*by_≤140737488355328) :
  AppPost w S e z tg (es++ns) (Builtin.append_ #[t,t] ty #[u,v]) P:=by
 have ok:=hP.ty t (by rw [ht];simp)
 rw [ht] at ok
 obtain ⟨dd,hut,hd⟩:=ok.desc
 simp only [Ty.isDesc] at hd
 subst hd
 obtain ⟨i,zv,hi,hiz,hzz,hzr⟩:=(hP.ty e (Ty.known_ne hk)).info
 have hzs:zv.cells.size=z:=by
  have:=RV.len _ _ ((hzr w S.I).cells hl)
  rw [hz] at this;simpa using this
 have hbi:i.bytes=by_:=by rw [hi] at hby;simpa using hby
 rw [hz] at hiz
 have hlen:es.length+ns.length≤140737488355328:=by
  have:(es.length+ns.length)*1≤(es.length+ns.length)*by_:=Nat.mul_le_mul_left _ hby0
  omega
 have h63:es.length+ns.length≤maxLen:=by unfold maxLen;omega
 have hsz1:∀ d∈es,d.size=z:=fun d hd=>hsz d (List.mem_append.2 (.inl hd))
 have hsz2:∀ d∈ns,d.size=z:=fun d hd=>hsz d (List.mem_append.2 (.inr hd))
 have hnp:0<ns.length:=List.length_pos_iff.2 hn
 -- what is appended
 unfold RVal RV at hv
 obtain ⟨a2,n2,c2,he2,rfl,-,-,h2⟩:=hv
 simp only [List.cons.injEq,and_true] at he2
 subst he2
 rcases h2 with ⟨-,rfl,-⟩ | ⟨-,rfl,-⟩ | ⟨b2,o2,rfl,hb2,-,-,hr2⟩
 ·exact absurd rfl hn
 ·exact absurd rfl hn
 obtain ⟨news,hnews,hcn⟩:=REs.flat ns o2 hr2
 have hnl:news.length=ns.length*i.size:=by rw [RVs.len _ _ hnews,sizes_const ns z hsz2,hiz]
 have hcn':∀ j v,news[j]?=some v→w.cell? ((⟨b2,o2,none⟩:Addr).add j)=some v:=fun j v hj=>by rw [addr_add];exact hcn j v hj
 -- what it is appended to
 unfold RVal RV at hu
 obtain ⟨a1,n1,c1,he1,rfl,hcap,htg,h1⟩:=hu
 simp only [List.cons.injEq,and_true] at he1
 subst he1
 have hgn:∀ old,grownCap w (es.length+ns.length) old e≤maxLen:=fun old=>grownCap_le_maxLen w _ old e h63
 have hgge:∀ old,es.length+ns.length≤grownCap w (es.length+ns.length) old e:=fun old=>grownCap_ge w _ old e
 rcases h1 with ⟨rfl,rfl,rfl⟩ | ⟨htg1,rfl,ha1⟩ | ⟨b,o,rfl,hbl,hib,-,hr⟩
 ·have hrun:=run_append_nil (P:=P) w t ty e i zv hut hi hzz ⟨b2,o2,none⟩ ns.length c2 news hnl hcn' hnp (by omega) (by simp only [List.length_nil,Nat.zero_add] at hb;rw [hbi];omega)
  have h0:=hgge 0
  have h0':=hgn 0
  simp only [List.length_nil,Nat.zero_add] at h0 h0'
  have hrest:(Builtin.zeroCells zv.cells (grownCap w ns.length 0 e - ns.length)).toList.length=(grownCap w ns.length 0 e - ns.length)*z:=by rw [Array.length_toList,size_zeroCells,hzs]
  refine app_new hS (us:=news) (rest:=(Builtin.zeroCells zv.cells (grownCap w ns.length 0 e - ns.length)).toList) (cap:=grownCap w ns.length 0 e) hsz (by simpa using hnews) (by simpa using h0) h0' ?_ ?_
  ·rw [hrest,hnl,hiz,← Nat.add_mul];congr 1;omega
  ·refine hrun.trans ?_
   congr 2
   congr 1
   apply Array.ext'
   simp
 ·obtain ⟨a0,rfl⟩:=Option.ne_none_iff_exists'.1 ha1
  rcases htg1 with rfl | rfl
  ·exact absurd hm (by simp [mayApp])
  have hc0:c1=0:=htg
  subst hc0
  have h0:=hgge 0
  have h0':=hgn 0
  simp only [List.length_nil,Nat.zero_add] at h0 h0'
  have hrun:=run_append_grow (P:=P) w t ty e i zv hut hi hzz a0 0 0 [] (by simp) (by simp) ⟨b2,o2,none⟩ ns.length c2 news hnl hcn' (by omega) (by omega) (growslice_fits (by omega) (by rw [hbi];simpa using hb))
  simp only [Nat.zero_add,List.nil_append] at hrun
  have hrest:(Builtin.zeroCells zv.cells (grownCap w ns.length 0 e - ns.length)).toList.length=(grownCap w ns.length 0 e - ns.length)*z:=by rw [Array.length_toList,size_zeroCells,hzs]
  refine app_new hS (us:=news) (rest:=(Builtin.zeroCells zv.cells (grownCap w ns.length 0 e - ns.length)).toList) (cap:=grownCap w ns.length 0 e) hsz (by simpa using hnews) (by simpa using h0) h0' ?_ ?_
  ·rw [hrest,hnl,hiz,← Nat.add_mul];congr 1;omega
  ·refine hrun.trans ?_
   congr 2
   congr 1
   apply Array.ext'
   simp
 ·obtain ⟨olds,holds,hco⟩:=REs.flat es o hr
  have hol:olds.length=es.length*i.size:=by rw [RVs.len _ _ holds,sizes_const es z hsz1,hiz]
  have hco':∀ j v,olds[j]?=some v→w.cell? ((⟨b,o,none⟩:Addr).add j)=some v:=fun j v hj=>by rw [addr_add];exact hco j v hj
  have grow:c1<es.length+ns.length→AppPost w S e z tg (es++ns) (Builtin.append_ #[t,t] ty #[.slice (some ⟨b,o,none⟩) es.length c1,.slice (some ⟨b2,o2,none⟩) ns.length c2]) P:=fun hg=>by
   have hrun:=run_append_grow (P:=P) w t ty e i zv hut hi hzz ⟨b,o,none⟩ es.length c1 olds hol hco' ⟨b2,o2,none⟩ ns.length c2 news hnl hcn' hg (by omega) (growslice_fits hg (by rw [hbi];exact hb))
   have hrest:(Builtin.zeroCells zv.cells (grownCap w (es.length+ns.length) c1 e - (es.length+ns.length))).toList.length=(grownCap w (es.length+ns.length) c1 e - (es.length+ns.length))*z:=by rw [Array.length_toList,size_zeroCells,hzs]
   have hge:=hgge c1
   refine app_new hS (us:=olds++news) (rest:=(Builtin.zeroCells zv.cells (grownCap w (es.length+ns.length) c1 e - (es.length+ns.length))).toList) (cap:=grownCap w (es.length+ns.length) c1 e) hsz (RVs.app _ _ _ _ holds hnews) (by simpa using hge) (hgn c1) ?_ ?_
   ·rw [List.length_append,hrest,hnl,hol,hiz,← Nat.add_mul,← Nat.add_mul];congr 1;omega
   ·rw [hrun]
    congr 1
    ·simp
    ·congr 2
     apply Array.ext'
     simp
  cases tg with
  | none=>exact hm.elim
  | nil=>unfold TagOk at htg;cases htg
  | full=>unfold TagOk at htg;exact grow (by omega)
  | own g e' z'=>
   obtain ⟨rfl,rfl,htok⟩:=hm
   obtain ⟨ha,⟨cur,hcur,hcs⟩,hcm,-⟩:=htg
   simp only [Option.some.injEq,Addr.mk.injEq,and_true] at ha
   obtain ⟨rfl,rfl⟩:=ha
   by_cases hroom:es.length+ns.length≤c1
   ·have hfit:es.length*i.size+news.length≤cur.size:=by rw [hnl,hcs,hiz,← Nat.add_mul];exact Nat.mul_le_mul_right _ hroom
    have hrun:=run_append_room (P:=P) w t ty e' i hut hi b es.length c1 cur hcur ⟨b2,o2,none⟩ ns.length c2 news hnl hcn' hnews.one hroom hfit
    have hgbk:b ∉ S.bk.map (·.1):=fun hm=>by
     have:=(List.nodup_append.1 hS.nd).2.2 b hm b (List.mem_map.2 ⟨_,htok,rfl⟩)
     exact this rfl
    have hgd:b ∉ (dropTok (.own b e' z') S.ow).map (·.1):=fun hm=>by
     obtain ⟨⟨c,L⟩,h3,h4⟩:=List.mem_map.1 hm
     simp only at h4
     subst h4
     unfold dropTok at h3
     have:=(List.mem_filter.1 h3).2
     simp at this
    have hKp:Kp [b] w (w.setRow b (cur.toList.take (es.length*i.size)++news++cur.toList.drop (es.length*i.size+news.length)).toArray):=(Kp.refl [b] w).setRow b _ (.inr (by simp))
    have hcl:cur.toList.length=cur.size:=by simp
    have hsame:∀ j,j<es.length*z'→(w.setRow b (cur.toList.take (es.length*i.size)++news++cur.toList.drop (es.length*i.size+news.length)).toArray).cell? ⟨b,j,none⟩=w.cell? ⟨b,j,none⟩:=fun j hj=>by
     rw [cell_of_row _ b j _ _ _ (setRow_heap w b cur _ e' _ hcur),cell_of_row w b j cur e' _ hcur]
     simp only [List.getElem?_toArray,List.append_assoc]
     rw [List.getElem?_append_left (by rw [List.length_take,hcl,hiz];have:=hfit;rw [hiz] at this;omega),List.getElem?_take,if_pos (by rw [hiz];exact hj)]
     simp
    have hevo:Evo w S.I (w.setRow b (cur.toList.take (es.length*i.size)++news++cur.toList.drop (es.length*i.size+news.length)).toArray) (⟨S.bk,(b,(es++ns).length*z')::dropTok (.own b e' z') S.ow⟩:Sto).I:=by
     refine ⟨hKp.os,hKp.tape,hKp.output,hKp.size,hKp.drawn,fun c x hc hi=>⟨hi.1,fun L hL=>?_⟩,fun c x hc hi o' ho'=>?_,fun c x hc hi cu tt f hcu=>?_,fun c hc hi=>?_⟩
     ·rcases List.mem_cons.1 hL with hL | hL
      ·simp only [Prod.mk.injEq] at hL
       obtain ⟨rfl,rfl⟩:=hL
       have:=hi.2 _ htok
       rw [List.length_append,Nat.add_mul];omega
      ·exact hi.2 L (mem_drop hL)
     ·by_cases hcb:c=b
      ·subst hcb
       have:=hi.2 _ htok
       exact hsame o' (by omega)
      ·exact World.cell?_of_block (w:=w) (hKp.block c hc (by simp [hcb]))
     ·by_cases hcb:c=b
      ·subst hcb
       rw [hcur] at hcu
       simp only [Option.some.injEq,Obj.cells.injEq] at hcu
       obtain ⟨rfl,rfl,rfl⟩:=hcu
       refine ⟨_,setRow_heap w c cur _ _ _ hcur,?_⟩
       simp only [List.size_toArray,List.length_append,List.length_take,List.length_drop,Array.length_toList]
       omega
      ·exact ⟨cu,(hKp.block c hc (by simp [hcb])).trans hcu,rfl⟩
     ·refine hKp.block c hc (fun hm=>?_)
      simp only [List.mem_singleton] at hm
      subst hm
      have:=(hi (es.length*z'+1)).2 _ htok
      omega
    have hsize:(cur.toList.take (es.length*i.size)++news++cur.toList.drop (es.length*i.size+news.length)).toArray.size=cur.size:=by
     simp only [List.size_toArray,List.length_append,List.length_take,List.length_drop,Array.length_toList]
     omega
    refine ⟨_,_,b,hrun,hgbk,hgd,?_,⟨?_,fun c tt d hm=>?_,fun c L hm=>?_⟩,hevo⟩
    ·unfold RVal RV
     refine ⟨_,_,_,rfl,by simp,hroom,⟨rfl,⟨_,setRow_heap w b cur _ e' _ hcur,by rw [hsize,hcs]⟩,hcm,hsz⟩,.inr <| .inr ⟨_,_,rfl,by simp;exact hbl,⟨hgbk,fun L hL=>?_⟩,⟨z',hsz⟩,?_⟩⟩
     ·rcases List.mem_cons.1 hL with hL | hL
      ·simp only [Prod.mk.injEq] at hL;rw [hL.2,sizes_const _ z' hsz];omega
      ·exact absurd (List.mem_map.2 ⟨_,hL,rfl⟩) hgd
     ·refine REs.of_flat (es++ns) 0 (olds++news) ((RVs.app _ _ _ _ holds hnews).evo hevo _ _) (fun j v hj=>?_)
      rw [Nat.zero_add]
      by_cases hlt:j<olds.length
      ·rw [List.getElem?_append_left hlt] at hj
       rw [hsame j (by rw [hol,hiz] at hlt;exact hlt)]
       have:=hco j v hj
       rwa [Nat.zero_add] at this
      ·rw [List.getElem?_append_right (by omega)] at hj
       rw [cell_of_row _ b j _ _ _ (setRow_heap w b cur _ e' _ hcur)]
       have htl:(cur.toList.take (es.length*i.size)).length=olds.length:=by rw [List.length_take,hcl,hol];omega
       simp only [List.getElem?_toArray,List.append_assoc]
       rw [List.getElem?_append_right (by omega),htl,List.getElem?_append_left (List.getElem?_eq_some_iff.1 hj).1]
       exact hj
    ·have h3:=hS.nd
     rw [List.nodup_append] at h3 ⊢
     refine ⟨h3.1,?_,?_⟩
     ·simp only [List.map_cons,List.nodup_cons]
      exact ⟨hgd,((drop_sub _ S.ow).map _).nodup h3.2.1⟩
     ·intro x hx y hy
      simp only [List.map_cons,List.mem_cons] at hy
      rcases hy with rfl | hy
      ·intro e;subst e;exact hgbk hx
      ·exact h3.2.2 x hx y (((drop_sub _ S.ow).map _).subset hy)
    ·have hcb:c≠b:=by intro e;subst e;exact hgbk (List.mem_map.2 ⟨_,hm,rfl⟩)
     exact (hS.mutAt c tt d hm).same (Go.setRow_other w b c _ hcb) hevo
    ·rcases List.mem_cons.1 hm with hm | hm
     ·simp only [Prod.mk.injEq] at hm
      obtain ⟨rfl,rfl⟩:=hm
      refine ⟨e',_,setRow_heap w c cur _ e' _ hcur,?_⟩
      rw [hsize,hcs,List.length_append]
      exact Nat.mul_le_mul_right _ hroom
     ·obtain ⟨tt,cu,h3,h4⟩:=hS.ownAt c L (mem_drop hm)
      have hcb:c≠b:=by intro e;subst e;exact hgd (List.mem_map.2 ⟨_,hm,rfl⟩)
      exact ⟨tt,cu,(Go.setRow_other w b c _ hcb).trans h3,h4⟩
   ·exact grow (by omega)

variable {B : Bg} {Q : AX → List D → Sto → Prop} {A : List D} {ops : Array Oper} {l : List Oper} {o : Oper}
theorem run_appA {a:Act} {x y:Operand} {t ty:TypeId} {dst:Option Tmp} {pos:String} {after:Array Edge} {guard:Option (Nat×Bool)} {w:World} :
  (execOp a.eval ⟨dst,.call ⟨.builtin .append,#[x,y],#[t,t]⟩,ty,pos,after,guard⟩).run P w=(do pure (Next.value (← Builtin.append_ #[t,t] ty #[a.eval x,a.eval y])):Sem Next).run P w:=by
 simp only [execOp,resolve,invoke,builtin,Sem.run_bind,Sem.run_pure,Result.andThen_ok,List.map_toArray,List.map_cons,List.map_nil]

theorem AOps.append (hP:Prg P T) {t e:TypeId} {z by_:Nat} {x y:Operand} {tg tg':Tag} {es ns:List D} (ho:o.op=.call ⟨.builtin .append,#[x,y],#[t,t]⟩) (hw:wantedA ops A o=some true) (ht:T t=.slice e) (hx:evalO A x=.sl tg es) (hy:evalO A y=.sl tg' ns)
  (hk:(T e).known=true) (hl:(T e).zero.lies=true) (hz:(T e).zero.size=z) (hz0:0<z) (hby:(P.info? e).map (·.bytes)=some by_) (hby0:0<by_) (hsz:∀ d∈es++ns,d.size=z) (hm:mayApp S e z es tg) (hn:ns≠[])
  (hb:(es.length+ns.length)*by_≤140737488355328)
  (h:∀ g,g ∉ S.bk.map (·.1)→g ∉ (dropTok tg S.ow).map (·.1)→AOps P B ops Q l (putA A o.dst (.sl (.own g e z) (es++ns))) ⟨S.bk,(g,(es++ns).length*z)::dropTok tg S.ow⟩):AOps P B ops Q (o::l) A S:=fun a w k=>by
 have hu:=evalO_ok k.act x
 have hv:=evalO_ok k.act y
 rw [hx] at hu
 rw [hy] at hv
 obtain ⟨r,w',g,h1,h2,h3,h4,h5,h6⟩:=append_ok (ty:=o.type) hP k.st ht hk hl hz hz0 hby hby0 hu hv hsz hm hn hb
 refine does1 k hw ⟨_,r,w',?_,.inl rfl,h4,h5,h6⟩ (h g h2 h3)
 obtain ⟨dst,op,type,pos,after,guard⟩:=o
 simp only at ho
 subst ho
 rw [run_appA]
 exact exec_plain h1

end


attribute [go_sem] bytesOf_map runOps wantedA evalS evalV evalO dOf putA loadV fieldAddrV fieldV indexAddrV indexV bndV sliceV convV lenV callV isConstO nilV fnV List.all_cons List.all_nil ifaceV typeV dIf valsO intV strV eqV eq1V eqSV layBs cmpTys binV buildV layDs storeV rowV getM setM subD subDs putD putDs szs D.size D.sizes D.isAgg D.lies Ty.zero Ty.agg Ty.known resD oneOf mayApp dropTok
attribute [go_sem] List.getD_cons_zero List.getD_cons_succ List.getD_nil List.set_cons_zero List.set_cons_succ List.getElem?_cons_zero List.getElem?_cons_succ List.getElem?_nil List.getElem?_toArray List.map_cons List.map_nil List.length_cons List.length_nil Option.map_some Option.map_none Option.bind_some Option.bind_none Array.toList_map Bool.true_and Bool.and_true Bool.false_and Bool.and_false Bool.not_true Bool.not_false decide_true decide_false beq_self_eq_true if_true if_false true_and and_true and_self eq_self ite_true ite_false Bool.false_eq_true Nat.add_zero Nat.zero_add reduceCtorEq beq_true beq_false

mutual
def zcells:D→List Value
 | .v x=>[x]
 | .dg d=>bC d.l
 | .agg ds=>zcellss ds
 | .sl _ _=>[.slice none 0 0]
 | .pt _=>[]
 | .fn _ _=>[]
 | .tup _=>[]
 | .any=>[]
def zcellss:List D→List Value
 | []=>[]
 | d::ds=>zcells d++zcellss ds
end
mutual
def zlike:D→Bool
 | .v x=>x.oneCell'
 | .dg _=>true
 | .agg ds=>zlikes ds
 | .sl .nil []=>true
 | _=>false
def zlikes:List D→Bool
 | []=>true
 | d::ds=>zlike d && zlikes ds
end
mutual
theorem zcells_ok {w:World} {I:Nat→Nat→Prop}:∀ (d:D),zlike d=true→RV w I d (zcells d)
 | .v x,h=>by unfold zlike at h;unfold RV zcells;exact ⟨rfl,h⟩
 | .dg d,_=>by unfold RV zcells;rfl
 | .agg ds,h=>by unfold zlike at h;unfold RV zcells;exact zcellss_ok ds h
 | .sl .nil [],_=>by unfold RV zcells;exact ⟨none,0,0,rfl,rfl,Nat.le_refl _,rfl,.inl ⟨rfl,rfl,rfl⟩⟩
 | .sl .nil (_::_),h=>by unfold zlike at h;cases h
 | .sl .none _,h=>by unfold zlike at h;cases h
 | .sl .full _,h=>by unfold zlike at h;cases h
 | .sl (.own _ _ _) _,h=>by unfold zlike at h;cases h
 | .pt _,h=>by unfold zlike at h;cases h
 | .fn _ _,h=>by unfold zlike at h;cases h
 | .tup _,h=>by unfold zlike at h;cases h
 | .any,h=>by unfold zlike at h;cases h
theorem zcellss_ok {w:World} {I:Nat→Nat→Prop}:∀ (ds:List D),zlikes ds=true→RVs w I ds (zcellss ds)
 | [],_=>by unfold RVs zcellss;rfl
 | d::ds,h=>by
  unfold zlikes at h
  simp only [Bool.and_eq_true] at h
  unfold RVs zcellss
  exact ⟨_,_,rfl,zcells_ok d h.1,zcellss_ok ds h.2⟩
end

def structB (P:Program):List D→List Field→Nat→Bool
 | [],[],_=>true
 | z::zs,f::fs,o=>f.offset == o && (P.info? f.type).map (·.size) == some z.size && z.size != 0 && (P.underlying f.type).map aggDesc == some z.isAgg && structB P zs fs (o+z.size)
 | _,_,_=>false
theorem structB_ok {P:Program}:∀ (zs:List D) (fs:List Field) (o:Nat),structB P zs fs o=true→fs.length=zs.length∧∀ k f,fs[k]?=some f→∃ z j dd,zs[k]?=some z∧f.offset=o+D.sizes (zs.take k)∧P.info? f.type=some j∧j.size=z.size∧j.size≠0∧P.underlying f.type=some dd∧aggDesc dd=z.isAgg
 | [],[],_,_=>⟨rfl,fun k f h=>by simp at h⟩
 | z::zs,f::fs,o,h=>by
  unfold structB at h
  simp only [Bool.and_eq_true,beq_iff_eq,bne_iff_ne] at h
  obtain ⟨⟨⟨⟨h1,h2⟩,h3⟩,h4⟩,h5⟩:=h
  obtain ⟨h6,h7⟩:=structB_ok zs fs _ h5
  refine ⟨by simp [h6],fun k g hg=>?_⟩
  cases k with
  | zero=>
   simp only [List.getElem?_cons_zero,Option.some.injEq] at hg
   subst hg
   obtain ⟨j,hj,hjs⟩:=Option.map_eq_some_iff.1 h2
   obtain ⟨dd,hd,hdd⟩:=Option.map_eq_some_iff.1 h4
   exact ⟨z,j,dd,rfl,by simp [D.sizes,h1],hj,hjs,by rw [hjs];exact h3,hd,hdd⟩
  | succ k=>
   simp only [List.getElem?_cons_succ] at hg
   obtain ⟨z',j,dd,a,b,c⟩:=h7 k g hg
   exact ⟨z',j,dd,by simpa using a,by rw [b,List.take_succ_cons];simp only [D.sizes];omega,c⟩
 | [],_::_,_,h=>by unfold structB at h;cases h
 | _::_,[],_,h=>by unfold structB at h;cases h

section
variable {P : Program} {t : TypeId}
theorem tyOk_mk {ty:Ty} {d:TypeDesc} (hu:P.underlying t=some d) (hd:ty.isDesc P d) (hz:zlike ty.zero=true) (hi:(P.info? t).map (fun i=>(i.size,i.zero))=some (ty.zero.size,some (ofCells ty.zero.isAgg (zcells ty.zero)))):TyOk P t ty:=by
 obtain ⟨i,h1,h2⟩:=Option.map_eq_some_iff.1 hi
 simp only [Prod.mk.injEq] at h2
 exact ⟨⟨i,_,h1,h2.1,h2.2,fun w I=>(zcells_ok ty.zero hz).loaded⟩,d,hu,hd⟩
theorem isDesc_struct {zs:List D} {F:Array Field} (h:structB P zs F.toList 0=true):(Ty.struct zs).isDesc P (.struct F):=by
 obtain ⟨h1,h2⟩:=structB_ok zs F.toList 0 h
 refine ⟨F,rfl,by simpa using h1,fun k f hk=>?_⟩
 obtain ⟨z,j,dd,a,b,c⟩:=h2 k f (by simpa using hk)
 exact ⟨z,j,dd,a,by simpa using b,c⟩
def arrZB (P:Program) (e:TypeId) (zs:List D) (dd:TypeDesc):Bool:=
 match P.info? e with
 | some j=>zs.all fun z=>z.size == j.size && aggDesc dd == z.isAgg
 | Option.none=>false
theorem isDesc_arr {e n:Nat} {zs:List D} {dd:TypeDesc} (h:zs.length=n) (hu:P.underlying e=some dd) (h2:arrZB P e zs dd=true):(Ty.arr e zs).isDesc P (.array n e):=by
 subst h
 unfold arrZB at h2
 split at h2
 ·rename_i j hj
  refine ⟨j,rfl,hj,dd,hu,fun z hz=>?_⟩
  have:=List.all_eq_true.1 h2 z hz
  simp only [Bool.and_eq_true,beq_iff_eq] at this
  exact this
 ·cases h2
theorem isDesc_dig {e:TypeId} (h1:P.underlying e=some (.int .u8)) (h2:(P.info? e).map (·.size)=some 1):Ty.dig.isDesc P (.array 32 e):=⟨e,rfl,h1,h2⟩
end

end Go.Proofs.YtgjaaffheanobaaGreat