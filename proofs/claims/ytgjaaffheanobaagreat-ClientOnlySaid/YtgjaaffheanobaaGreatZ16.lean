/- Values without addresses: statements whose order is open. -/
import Derived.Test.YtgjaaffheanobaaGreatZ14
namespace Go.Proofs.YtgjaaffheanobaaGreat
set_option linter.unusedVariables false
set_option linter.unusedSimpArgs false
open Go Go.RowKit

section
variable {P : Program} {T : TypeId → Ty} {B : Bg} {Q : AX → List D → Sto → Prop} {S : Sto} {ops : Array Oper}

def Agree (ts:List Tmp) (A A':List D):Prop:=∀ t∈ts,A[t]?=A'[t]?

def OStep (P:Program) (B:Bg) (Q:AX→List D→Sto→Prop) (ops:Array Oper) (S:Sto) (o:Oper) (K:List D→Prop) (A:List D):Prop:=
 ∀ a w,At B A S a w→if Region.wanted o (yielded ops a.tmps) then o.wp P a w (fun a' w'=>∃ A',At B A' S a' w'∧K A') (Conc B Q) else ∃ A',At B A' S (a.put o.dst undef) w∧K A'

def QOp (P:Program) (B:Bg) (Q:AX→List D→Sto→Prop) (ops:Array Oper) (S:Sto) (o:Oper) (A:List D) (d:D):Prop:=
 ∀ A',Agree (o.looksAt ops) A A'→∀ K:List D→Prop,K (putA A' o.dst d)→OStep P B Q ops S o K A'

def ALex (P:Program) (B:Bg) (Q:AX→List D→Sto→Prop) (ops:Array Oper) (S:Sto):List Oper→List D→Prop
 | [],A=>Q .normal A S
 | o::l,A=>∃ d,QOp P B Q ops S o A d∧ALex P B Q ops S l (putA A o.dst d)

def AAny (P:Program) (B:Bg) (Q:AX→List D→Sto→Prop) (ops:Array Oper) (S:Sto):Nat→Array Bool→List D→Prop
 | 0,listed,A=>Region.ready .any ops listed=[]∧Q .normal A S
 | n+1,listed,A=>(Region.ready .any ops listed=[]→Q .normal A S)∧∀ i∈Region.ready .any ops listed,∃ o d,ops[i]?=some o∧QOp P B Q ops S o A d∧AAny P B Q ops S n (listed.setIfInBounds i true) (putA A o.dst d)

theorem Agree.refl (ts:List Tmp) (A:List D):Agree ts A A:=fun _ _=>rfl
theorem Agree.symm {ts:List Tmp} {A A':List D} (h:Agree ts A A'):Agree ts A' A:=fun t ht=>(h t ht).symm
theorem Agree.trans {ts:List Tmp} {A A' A'':List D} (h:Agree ts A A') (k:Agree ts A' A''):Agree ts A A'':=fun t ht=>(h t ht).trans (k t ht)
theorem agree_put {ts:List Tmp} (A:List D) (dst:Option Tmp) (d:D) (h:∀ t,dst=some t→t ∉ ts):Agree ts A (putA A dst d):=fun t ht=>by
 cases dst with
 | none=>rfl
 | some u=>
  have:u≠t:=fun e=>h u rfl (e ▸ ht)
  simp [putA,List.getElem?_set_ne this]
theorem putA_comm (A:List D) (d1 d2:Option Tmp) (x y:D) (h:∀ t,d1=some t→d2≠some t):putA (putA A d1 x) d2 y=putA (putA A d2 y) d1 x:=by
 cases d1 with
 | none=>rfl
 | some t=>
  cases d2 with
  | none=>rfl
  | some u=>
   have:t≠u:=fun e=>h t rfl (by rw [e])
   simp [putA,List.set_comm _ _ this]
theorem QOp.agree {o:Oper} {A A':List D} {d:D} (h:QOp P B Q ops S o A d) (k:Agree (o.looksAt ops) A A'):QOp P B Q ops S o A' d:=
 fun A'' h2=>h A'' (k.trans h2)

theorem AAny.sound : ∀ (n : Nat) (listed : Array Bool) (A : List D), AAny P B Q ops S n listed A → ∀ a w, At B A S a w → wpAny P .any ops (Conc B Q) n listed a w
  | 0, listed, A, h, a, w, k => ⟨h.1, A, S, k, h.2⟩
  | n + 1, listed, A, h, a, w, k => by
    refine ⟨fun h0 => ⟨A, S, k, h.1 h0⟩, fun i hi => ?_⟩
    obtain ⟨o, d, ho, hq, hn⟩ := h.2 i hi
    unfold wpOp
    simp only [ho]
    have := hq A (Agree.refl _ _) (fun A' => A' = putA A o.dst d) rfl a w k
    have hgo : ∀ a' w', (∃ A', At B A' S a' w' ∧ A' = putA A o.dst d) → wpAny P .any ops (Conc B Q) n (listed.setIfInBounds i true) a' w' := fun a' w' ⟨A', k', e⟩ => by
      subst e; exact AAny.sound n _ _ hn a' w' k'
    split
    · rename_i hw
      rw [if_pos hw] at this
      refine .inl ?_
      unfold Oper.wp at this ⊢
      generalize (execOp a.eval o).run P w = r at *
      cases r with
      | ok nx w' =>
        cases nx <;> simp only [Oper.upon] at this ⊢ <;> first
          | exact hgo _ _ this
          | (refine this.mono (fun e w'' he => ?_)
             cases e <;> first | exact hgo _ _ he | exact he)
          | exact this.mono (fun v w'' he => hgo _ _ he)
          | exact this
      | halt x w' => cases x <;> first | exact this | exact this.elim
    · rename_i hw
      rw [if_neg hw] at this
      exact hgo _ _ this

theorem AAny.first {i:Nat} {oi:Oper} {v:D} (hi:ops[i]?=some oi):∀ (n:Nat) (listed:Array Bool) (A:List D),
  (∀ j oj,ops[j]?=some oj→j≠i→listed.getD j true=false→(∀ e∈oj.after,Region.binds .any e=true→e.on≠i)→oi.apart ops oj=true) →
  i∈Region.ready .any ops listed→QOp P B Q ops S oi A v→AAny P B Q ops S n (listed.setIfInBounds i true) (putA A oi.dst v)→AAny P B Q ops S (n+1) listed A:=by
 intro n
 induction n with
 | zero=>
  intro listed A _ hr hq H
  refine ⟨fun h=>(by rw [h] at hr;cases hr),fun j hj=>?_⟩
  by_cases hji:j=i
  ·subst hji;exact ⟨oi,v,hi,hq,H⟩
  ·have:=ready_mono hj hji
   rw [H.1] at this
   cases this
 | succ n ih=>
  intro listed A hfree hr hq H
  refine ⟨fun h=>(by rw [h] at hr;cases hr),fun j hj=>?_⟩
  by_cases hji:j=i
  ·subst hji;exact ⟨oi,v,hi,hq,H⟩
  ·obtain ⟨oj,u,hoj,hqj,Hj⟩:=H.2 j (ready_mono hj hji)
   obtain ⟨hjun,oj',hoj',hall⟩:=mem_ready.1 hj
   rw [hoj] at hoj'
   simp only [Option.some.injEq] at hoj'
   subst hoj'
   have hnot:∀ e∈oj.after,Region.binds .any e=true→e.on≠i:=fun e he hb heq=>by
    have h1:=hall e he hb
    have h0:=(mem_ready.1 hr).1
    rw [heq] at h1
    rcases Nat.lt_or_ge i listed.size with h' | h'
    ·simp [h'] at h0 h1;rw [h0] at h1;cases h1
    ·simp [Array.getElem?_eq_none h'] at h1
   obtain ⟨p1,p2,p3⟩:=Oper.apart_spec (hfree j oj hoj hji hjun hnot)
   refine ⟨oj,u,hoj,hqj.agree (agree_put A oi.dst v p1).symm,?_⟩
   refine ih (listed.setIfInBounds j true) (putA A oj.dst u) (fun k ok hk hki hun hno=>?_) (ready_mono hr (Ne.symm hji)) (hq.agree (agree_put A oj.dst u p3)) ?_
   ·refine hfree k ok hk hki ?_ hno
    by_cases hjk:j=k
    ·subst hjk;exact hjun
    ·rw [getD_set_ne true hjk] at hun;exact hun
   ·rw [Array.setIfInBounds_comm _ _ hji,← putA_comm A oi.dst oj.dst v u p2]
    exact Hj

theorem AAny.lex:∀ (l:List Oper) (k:Nat) (listed:Array Bool) (A:List D),(∀ j:Nat,l[j]?=ops[k+j]?)→Region.lexFrom .any ops l.length k listed=true→ALex P B Q ops S l A→AAny P B Q ops S l.length listed A
 | [],_,_,_,_,hB,h=>⟨by simpa [Region.lexFrom] using hB,h⟩
 | o::l,k,listed,A,hl,hB,h=>by
  have h0:ops[k]?=some o:=by simpa using (hl 0).symm
  simp only [List.length_cons,Region.lexFrom,Bool.and_eq_true] at hB
  obtain ⟨⟨hr,hf⟩,hB'⟩:=hB
  obtain ⟨d,hq,hK⟩:=h
  exact AAny.first h0 l.length listed A (Region.free_spec h0 hf) (by simpa using hr) hq
   (AAny.lex l (k+1) _ _ (fun j=>by have:=hl (j+1);simpa [Nat.add_assoc,Nat.add_comm 1 j] using this) hB' hK)

theorem At.drawn {A:List D} {a:Act} {w:World} (k:At B A S a w):At B A S a { w with drawn:=w.drawn+1 }:=by
 have e:Evo w S.I w.drew S.I:=((Kp.refl [] w).drew).evo (fun _ _ _ _=>by simp) (fun _ _ _ h=>h)
 exact ⟨k.act.evo e,⟨k.st.nd,fun b t d hm=>(k.st.mutAt b t d hm).same rfl e,k.st.ownAt⟩,k.evo.trans e,k.df⟩

theorem AW.draw (hP:Prg P T) {id:Nat} {l:List Oper} {A:List D} (hB:Region.lexB .any l.toArray=true) (h:ALex P B Q l.toArray S l A):AW P B (.region id l.toArray true) Q A S:=fun a w k=>by
 simp only [Region.lexB,Bool.and_eq_true] at hB
 refine wp_region_any hP.mixed ?_
 have:=AAny.lex (P:=P) (B:=B) (Q:=Q) (S:=S) (ops:=l.toArray) l 0 (Array.replicate l.toArray.size false) A (by simp) (by simpa using hB.2) h
 have h2:=AAny.sound _ _ _ this a _ k.drawn
 simpa using h2

theorem getD_agree {ts:List Tmp} {A A':List D} (h:Agree ts A A') {t:Tmp} (ht:t∈ts):A.getD t .any=A'.getD t .any:=by
 rw [List.getD_eq_getElem?_getD,List.getD_eq_getElem?_getD,h t ht]
theorem evalO_agree {ts:List Tmp} {A A':List D} (h:Agree ts A A') {x:Operand} (hx:∀ t,x=.tmp t→t∈ts):evalO A x=evalO A' x:=by
 cases x with
 | tmp t=>exact getD_agree h (hx t rfl)
 | const v=>rfl
 | global g=>rfl
 | func f=>rfl
theorem looks_mem {o:Oper} {t:Tmp} (h:Operand.tmp t∈o.op.operands.toList):t∈o.looksAt ops:=by
 unfold Oper.looksAt
 exact List.mem_append_left _ (List.mem_filterMap.2 ⟨_,h,rfl⟩)

theorem valsO_agree {ts:List Tmp} {A A':List D} (h:Agree ts A A'):∀ {xs:List Operand},(∀ t,Operand.tmp t∈xs→t∈ts)→valsO A xs=valsO A' xs
 | [],_=>rfl
 | x::xs,hx=>by
  unfold valsO
  rw [evalO_agree h (fun t e=>hx t (e ▸ List.mem_cons_self)),valsO_agree h (fun t ht=>hx t (List.mem_cons_of_mem _ ht))]
theorem opt_agree {ts:List Tmp} {A A':List D} (h:Agree ts A A') (o:Option Operand) (hx:∀ t,o=some (.tmp t)→t∈ts):o.map (evalO A)=o.map (evalO A'):=by
 cases o with
 | none=>rfl
 | some x=>simp only [Option.map_some];rw [evalO_agree h (fun t e=>hx t (by rw [e]))]

theorem evalS_agree {o:Oper} {A A':List D} (h:Agree (o.looksAt ops) A A'):evalS T A S o.op=evalS T A' S o.op:=by
 obtain ⟨dst,op,type,pos,after,guard⟩:=o
 have m:∀ t,Operand.tmp t∈op.operands.toList→t∈Oper.looksAt ops ⟨dst,op,type,pos,after,guard⟩:=fun t ht=>looks_mem ht
 have ev:∀ x,x∈op.operands.toList→evalO A x=evalO A' x:=fun x hx=>evalO_agree h (fun t e=>m t (e ▸ hx))
 cases op with
 | move x=>simp only [evalS,evalV];rw [ev x (by simp [Op.operands])]
 | assign x=>simp only [evalS,evalV];rw [ev x (by simp [Op.operands])]
 | pick c x y=>simp only [evalS,evalV];rw [ev c (by simp [Op.operands]),ev x (by simp [Op.operands]),ev y (by simp [Op.operands])]
 | box t x=>simp only [evalS];rw [ev x (by simp [Op.operands])]
 | build t ps=>
  simp only [evalS,evalV]
  have:(ps.toList.map fun p=>(p.1,evalO A p.2))=ps.toList.map fun p=>(p.1,evalO A' p.2):=List.map_congr_left (fun p hp=>by rw [ev p.2 (by simp only [Op.operands];exact List.mem_map.2 ⟨p,hp,rfl⟩)])
  rw [this]
 | buildSlice t n ps=>
  simp only [evalS]
  have:(ps.toList.map fun p=>(p.1,evalO A p.2))=ps.toList.map fun p=>(p.1,evalO A' p.2):=List.map_congr_left (fun p hp=>by rw [ev p.2 (by simp only [Op.operands];exact List.mem_map.2 ⟨p,hp,rfl⟩)])
  rw [this]
 | load t x=>simp only [evalS,evalV];rw [ev x (by simp [Op.operands])]
 | store t x y=>simp only [evalS];rw [ev x (by simp [Op.operands]),ev y (by simp [Op.operands])]
 | nilCheck x=>simp only [evalS,evalV];rw [ev x (by simp [Op.operands])]
 | binOp b t x y t2=>
  simp only [evalS,evalV]
  rw [ev x (by simp [Op.operands]),ev y (by simp [Op.operands])]
 | unOp u t x=>simp only [evalS,evalV];rw [ev x (by simp [Op.operands])]
 | convert s d x=>simp only [evalS,evalV];rw [ev x (by simp [Op.operands])]
 | makeInterface t x=>simp only [evalS,evalV];rw [ev x (by simp [Op.operands])]
 | makeFunc fn f c=>
  simp only [evalS,evalV]
  have:c.toList.map (evalO A)=c.toList.map (evalO A'):=List.map_congr_left (fun x hx=>ev x (by simp only [Op.operands,Array.toList_append,List.mem_append];exact .inr hx))
  rw [this,valsO_agree h (xs:=f.toList) (fun t ht=>m t (by simp only [Op.operands];simp only [Array.toList_append,List.mem_append];exact .inl ht)),valsO_agree h (xs:=c.toList) (fun t ht=>m t (by simp only [Op.operands];simp only [Array.toList_append,List.mem_append];exact .inr ht))]
 | slice t x lo hi mx=>
  simp only [evalS,evalV]
  rw [ev x (by simp [Op.operands]),opt_agree h lo (fun t e=>m t (by subst e;simp [Op.operands])),opt_agree h hi (fun t e=>m t (by subst e;simp [Op.operands])),opt_agree h mx (fun t e=>m t (by subst e;simp [Op.operands]))]
 | fieldAddr t x k=>simp only [evalS,evalV];rw [ev x (by simp [Op.operands])]
 | field t x k=>simp only [evalS,evalV];rw [ev x (by simp [Op.operands])]
 | indexAddr t x i=>simp only [evalS,evalV];rw [ev x (by simp [Op.operands]),ev i (by simp [Op.operands])]
 | index t x i=>simp only [evalS,evalV];rw [ev x (by simp [Op.operands]),ev i (by simp [Op.operands])]
 | extract x i=>simp only [evalS,evalV];rw [ev x (by simp [Op.operands])]
 | typeAssert x a b c=>simp only [evalS,evalV];rw [ev x (by simp [Op.operands])]
 | call c=>
  obtain ⟨callee,args,ats⟩:=c
  have ea:args.toList.map (evalO A)=args.toList.map (evalO A'):=List.map_congr_left (fun x hx=>ev x (by simp only [Op.operands,Call.operands,Array.toList_append,List.mem_append];exact .inr hx))
  simp only [evalS,evalV,ea]
 | _=>rfl

theorem wantedA_agree {o:Oper} {A A':List D} (h:Agree (o.looksAt ops) A A'):wantedA ops A o=wantedA ops A' o:=by
 unfold wantedA
 cases hg:o.guard with
 | none=>rfl
 | some gw=>
  obtain ⟨g,want⟩:=gw
  simp only
  cases hd:(ops[g]?).bind (·.dst) with
  | none=>rfl
  | some t=>
   simp only
   rw [h t (by unfold Oper.looksAt;rw [hg];exact List.mem_append_right _ (by show t∈((ops[g]?).bind (·.dst)).toList;rw [hd];simp))]

theorem QOp.step (hP:Prg P T) {o:Oper} {A:List D} {d:D} (hw:wantedA ops A o=some true) (he:evalS T A S o.op=some (d,S)):QOp P B Q ops S o A d:=fun A' hag K hK a w k=>by
 have hw':wantedA ops A' o=some true:=(wantedA_agree hag).symm.trans hw
 have he':evalS T A' S o.op=some (d,S):=(evalS_agree (T:=T) (S:=S) hag).symm.trans he
 rw [if_pos (wantedA_ok k.act hw')]
 obtain ⟨r,y,w',h1,h2,h3,h4,h5⟩:=evalS_ok hP k.st k.act he'
 unfold Oper.wp
 rw [h1]
 have hgo:∃ A'',At B A'' S (a.put o.dst y) w'∧K A'':=⟨_,⟨(k.act.evo h5).put o.dst h3,h4,k.evo.trans h5,by rw [put_df];exact k.df⟩,hK⟩
 rcases h2 with rfl | ⟨rfl,rfl⟩
 ·exact hgo
 ·exact hgo
theorem QOp.skip {o:Oper} {A:List D} (hw:wantedA ops A o=some false):QOp P B Q ops S o A (.tup []):=fun A' hag K hK a w k=>by
 have hw':wantedA ops A' o=some false:=(wantedA_agree hag).symm.trans hw
 rw [if_neg (by rw [wantedA_ok k.act hw'];simp)]
 exact ⟨_,⟨k.act.put o.dst RVal.undef,k.st,k.evo,by rw [put_df];exact k.df⟩,hK⟩
theorem QOp.call {f:FuncId} {args:Array Operand} {ats:Array TypeId} {o:Oper} {A:List D} {d:D} {ds:List D} (ho:o.op=.call ⟨.value (.func f),args,ats⟩) (hw:wantedA ops A o=some true) (hd:args.toList.map (evalO A)=ds)
  (hc:ACalls P f ds S (fun e S'=>e=.ret d∧S'=S)):QOp P B Q ops S o A d:=fun A' hag K hK a w k=>by
 have hw':wantedA ops A' o=some true:=(wantedA_agree hag).symm.trans hw
 rw [if_pos (wantedA_ok k.act hw')]
 have hx:=RVals.of_eval k.act args.toList
 have hag':args.toList.map (evalO A')=ds:=by
  rw [← hd]
  refine List.map_congr_left (fun x hx=>(evalO_agree hag (fun t e=>?_)).symm)
  subst e
  exact looks_mem (by rw [ho];simp only [Op.operands,Call.operands,Array.toList_append,List.mem_append];exact .inr hx)
 rw [hag'] at hx
 unfold Oper.wp
 have hrun:(execOp a.eval o).run P w=.ok (.enter f (args.toList.map a.eval).toArray) w:=by
  obtain ⟨dst,op,type,pos,after,guard⟩:=o
  simp only at ho
  subst ho
  have e:(List.map a.eval args.toList).toArray=args.map a.eval:=by apply Array.ext';simp
  rw [e]
  have h:=hc.1 (args.map a.eval) w
  simp only [execOp,resolve,Sem.run_bind,Act.eval,Deferred.ofValue,Sem.run_pure,Result.andThen_ok,invoke]
  simpa using h
 rw [hrun]
 refine (hc.2 w _ k.st hx).mono (fun e w' hpost=>?_)
 cases e with
 | returned v=>
  obtain ⟨d',S',h1,h2,h3,h4,rfl⟩:=hpost
  simp only [AEnd.ret.injEq] at h4
  subst h4
  exact ⟨_,⟨(k.act.evo h2).put o.dst h3,h1,k.evo.trans h2,by rw [put_df];exact k.df⟩,hK⟩
 | panicked ch=>obtain ⟨d',v,S',he,h1,h2,h3,h4,_⟩:=hpost;cases h4
 | outgrown=>exact hpost.elim

noncomputable def runQ (T:TypeId→Ty) (ops:Array Oper) (S:Sto):List Oper→List D→List Oper×List D
 | [],A=>([],A)
 | o::l,A=>
  match wantedA ops A o with
  | some true=>(match o.op with
   | .store _ _ _=>(o::l,A)
   | _=>match evalS T A S o.op with | some (d,_)=>runQ T ops S l (putA A o.dst d) | Option.none=>(o::l,A))
  | some false=>runQ T ops S l (putA A o.dst (.tup []))
  | Option.none=>(o::l,A)
theorem evalS_quiet {A : List D} {op : Op} {d : D} {S' : Sto} (hs : ∀ t x y, op ≠ .store t x y) (h : evalS T A S op = some (d, S')) : S' = S := by
  have key : ∀ op, (evalV T A S.bk op).map (fun d => (d, S)) = some (d, S') → S' = S := fun op h => by
    obtain ⟨_, _, h⟩ := Option.map_eq_some_iff.1 h
    simp only [Prod.mk.injEq] at h; exact h.2.symm
  cases op <;> first
    | exact absurd rfl (hs _ _ _)
    | exact key _ h
    | (simp only [evalS] at h
       first
         | (split at h
            · simp only [Option.some.injEq, Prod.mk.injEq] at h; exact h.2.symm
            · cases h)
         | (obtain ⟨_, _, h⟩ := Option.map_eq_some_iff.1 h
            simp only [Prod.mk.injEq] at h; exact h.2.symm))
theorem ALex.run (hP:Prg P T):∀ (l:List Oper) (A:List D) {l':List Oper} {A':List D},runQ T ops S l A=(l',A')→ALex P B Q ops S l' A'→ALex P B Q ops S l A
 | [],A,l',A',h,k=>by simp only [runQ,Prod.mk.injEq] at h;obtain ⟨rfl,rfl⟩:=h;exact k
 | o::l,A,l',A',h,k=>by
  unfold runQ at h
  split at h
  ·rename_i hw
   split at h
   ·simp only [Prod.mk.injEq] at h;obtain ⟨rfl,rfl⟩:=h;exact k
   ·rename_i hns
    split at h
    ·rename_i d S' he
     have e:S'=S:=evalS_quiet (fun t x y e=>hns t x y e) he
     rw [e] at he
     exact ⟨d,QOp.step hP hw he,ALex.run hP l _ h k⟩
    ·simp only [Prod.mk.injEq] at h;obtain ⟨rfl,rfl⟩:=h;exact k
  ·rename_i hw
   exact ⟨_,QOp.skip hw,ALex.run hP l _ h k⟩
  ·simp only [Prod.mk.injEq] at h;obtain ⟨rfl,rfl⟩:=h;exact k
theorem ALex.runP (hP:Prg P T) (r:List Oper):∀ (l:List Oper) (A:List D) {l':List Oper} {A':List D},runQ T ops S l A=(l',A')→ALex P B Q ops S (l'++r) A'→ALex P B Q ops S (l++r) A
 | [],A,l',A',h,k=>by simp only [runQ,Prod.mk.injEq] at h;obtain ⟨rfl,rfl⟩:=h;exact k
 | o::l,A,l',A',h,k=>by
  unfold runQ at h
  split at h
  ·rename_i hw
   split at h
   ·simp only [Prod.mk.injEq] at h;obtain ⟨rfl,rfl⟩:=h;exact k
   ·rename_i hns
    split at h
    ·rename_i d S' he
     have e:S'=S:=evalS_quiet (fun t x y e=>hns t x y e) he
     rw [e] at he
     exact ⟨d,QOp.step hP hw he,ALex.runP hP r l _ h k⟩
    ·simp only [Prod.mk.injEq] at h;obtain ⟨rfl,rfl⟩:=h;exact k
  ·rename_i hw
   exact ⟨_,QOp.skip hw,ALex.runP hP r l _ h k⟩
  ·simp only [Prod.mk.injEq] at h;obtain ⟨rfl,rfl⟩:=h;exact k
theorem ALex.goP (hP:Prg P T) {l l' m:List Oper} {A A':List D} (run:runQ T ops S (l.take 5) A=(l',A')) (pr:Nat.blt l'.length (l.take 5).length=true) (mm:l'++l.drop 5=m) (k:ALex P B Q ops S m A'):ALex P B Q ops S l A:=by
 have h:=ALex.runP hP (l.drop 5) (l.take 5) A run (by rw [mm];exact k)
 rwa [List.take_append_drop] at h
theorem ALex.go (hP:Prg P T) {l l':List Oper} {A A':List D} (run:runQ T ops S l A=(l',A')) (k:ALex P B Q ops S l' A'):ALex P B Q ops S l A:=ALex.run hP l A run k
theorem ALex.nil {A:List D} (h:Q .normal A S):ALex P B Q ops S [] A:=h
theorem ALex.call {f:FuncId} {args:Array Operand} {ats:Array TypeId} {o:Oper} {l:List Oper} {A:List D} {d:D} {ds:List D} (ho:o.op=.call ⟨.value (.func f),args,ats⟩) (hw:wantedA ops A o=some true) (hd:args.toList.map (evalO A)=ds)
  (hc:ACalls P f ds S (fun e S'=>e=.ret d∧S'=S)) (k:ALex P B Q ops S l (putA A o.dst d)):ALex P B Q ops S (o::l) A:=⟨d,QOp.call ho hw hd hc,k⟩
end
attribute [go_sem] runQ


section
variable {P : Program} {T : TypeId → Ty} {B : Bg} {Q : AX → List D → Sto → Prop} {A : List D} {S : Sto} {ops : Array Oper} {l : List Oper} {o : Oper}
theorem AW.condT {c:Operand} {x y:Code} (hc:evalO A c=.v (.bool true)) (h:AW P B x Q A S):AW P B (.cond c x y) Q A S:=AW.cond hc (by simpa using h)
theorem AW.condF {c:Operand} {x y:Code} (hc:evalO A c=.v (.bool false)) (h:AW P B y Q A S):AW P B (.cond c x y) Q A S:=AW.cond hc (by simpa using h)

def RetQ (d:D) (S:Sto):AEnd→Sto→Prop:=fun e S'=>e=.ret d∧S'=S
theorem AOps.callq {f:FuncId} {args:Array Operand} {ats:Array TypeId} {d:D} {S':Sto} (ho:o.op=.call ⟨.value (.func f),args,ats⟩) (hw:wantedA ops A o=some true)
  (hc:ACalls P f (args.toList.map (evalO A)) S (RetQ d S')) (k:AOps P B ops Q l (putA A o.dst d) S'):AOps P B ops Q (o::l) A S:=
 AOps.call ho hw hc (fun d' S' h=>by obtain ⟨h1,rfl⟩:=h;simp only [AEnd.ret.injEq] at h1;subst h1;exact k) (fun d' S' h=>by cases h.1)
theorem ALex.callq {f:FuncId} {args:Array Operand} {ats:Array TypeId} {d:D} (ho:o.op=.call ⟨.value (.func f),args,ats⟩) (hw:wantedA ops A o=some true)
  (hc:ACalls P f (args.toList.map (evalO A)) S (RetQ d S)) (k:ALex P B Q ops S l (putA A o.dst d)):ALex P B Q ops S (o::l) A:=ALex.call ho hw rfl hc k
theorem AOps.callx {f:FuncId} {args:Array Operand} {ats:Array TypeId} {R:D→Sto→Prop} (ho:o.op=.call ⟨.value (.func f),args,ats⟩) (hw:wantedA ops A o=some true)
  (hc:ACalls P f (args.toList.map (evalO A)) S (fun e S'=>∃ d,e=.ret d∧R d S')) (k:∀ d S',R d S'→AOps P B ops Q l (putA A o.dst d) S'):AOps P B ops Q (o::l) A S:=
 AOps.call ho hw hc (fun d' S' h=>by obtain ⟨d,h1,h2⟩:=h;simp only [AEnd.ret.injEq] at h1;subst h1;exact k _ _ h2) (fun d' S' h=>by obtain ⟨d,h1,_⟩:=h;cases h1)

theorem endq {rs:List ResultVar} {ds:List D} {S0 S':Sto} {d:D} (h:resD T A S rs=some ds) (hd:oneOf ds=d) (hS:S'.Sub S):EndQ T rs S0 (RetQ d S') .ret A S:=⟨ds,d,S',h,.inl hd.symm,hS,rfl,rfl⟩
theorem endn {rs:List ResultVar} {ds:List D} {S0 S':Sto} {d:D} (h:resD T A S rs=some ds) (hd:oneOf ds=d) (hS:S'.Sub S):EndQ T rs S0 (RetQ d S') .normal A S:=⟨ds,d,S',h,.inl hd.symm,hS,rfl,rfl⟩
theorem endx {rs:List ResultVar} {ds:List D} {S0 S':Sto} {d:D} {R:D→Sto→Prop} (h:resD T A S rs=some ds) (hd:oneOf ds=d) (hs:S'.Sub S) (hr:R d S'):EndQ T rs S0 (fun e S'=>∃ d,e=.ret d∧R d S') .ret A S:=⟨ds,d,S',h,.inl hd.symm,hs,d,rfl,hr⟩
theorem enduq {rs:List ResultVar} {ds:List D} {S0 S':Sto} {d:D} (h:resD T A S rs=some ds) (hd:untag (oneOf ds)=d) (hs:S'.Sub S):EndQ T rs S0 (RetQ d S') .ret A S:=⟨ds,d,S',h,.inr hd.symm,hs,rfl,rfl⟩
theorem getM_key {bk:List (Nat×TypeId×D)} {b:Nat} {x:TypeId×D} (h:getM bk b=some x):b∈bk.map (·.1):=by
 obtain ⟨t,d⟩:=x
 exact List.mem_map.2 ⟨_,getM_mem h,rfl⟩
theorem getM_ne {bk:List (Nat×TypeId×D)} {b c:Nat} {x:TypeId×D} (h:getM bk b=some x) (hc:c ∉ bk.map (·.1)):¬ b=c:=fun e=>hc (e ▸ getM_key h)
theorem getM_cons {c b:Nat} {t:TypeId} {d:D} {bk:List (Nat×TypeId×D)}:getM ((c,t,d)::bk) b=if b=c then some (t,d) else getM bk b:=rfl
theorem setM_cons {c b:Nat} {t:TypeId} {d x:D} {bk:List (Nat×TypeId×D)}:setM ((c,t,d)::bk) b x=if b=c then (c,t,x)::bk else (c,t,d)::setM bk b x:=rfl
@[go_sem] theorem getM_setM {bk:List (Nat×TypeId×D)} {b:Nat} {x:D}:getM (setM bk b x) b=(getM bk b).map fun p=>(p.1,x):=by
 induction bk with
 | nil=>rfl
 | cons a bk ih=>
  obtain ⟨c,t,d⟩:=a
  rw [setM_cons,getM_cons]
  by_cases e:b=c
  ·rw [if_pos e,if_pos e,getM_cons,if_pos e];rfl
  ·rw [if_neg e,if_neg e,getM_cons,if_neg e];exact ih
@[go_sem] theorem setM_setM {bk:List (Nat×TypeId×D)} {b:Nat} {x y:D}:setM (setM bk b x) b y=setM bk b y:=by
 induction bk with
 | nil=>rfl
 | cons a bk ih=>
  obtain ⟨c,t,d⟩:=a
  rw [setM_cons,setM_cons]
  by_cases e:b=c
  ·rw [if_pos e,if_pos e,setM_cons,if_pos e]
  ·rw [if_neg e,if_neg e,setM_cons,if_neg e,ih]
theorem getM_setM_ne {bk:List (Nat×TypeId×D)} {b c:Nat} {x:D} (h:¬ c=b):getM (setM bk b x) c=getM bk c:=by
 induction bk with
 | nil=>rfl
 | cons a bk ih=>
  obtain ⟨k,t,d⟩:=a
  rw [setM_cons,getM_cons]
  by_cases e:b=k
  ·subst e;rw [if_pos rfl,if_neg h,getM_cons,if_neg h]
  ·rw [if_neg e,getM_cons,ih]
theorem setM_same {bk:List (Nat×TypeId×D)} {b:Nat} {t:TypeId} {x:D} (h:getM bk b=some (t,x)):setM bk b x=bk:=by
 induction bk with
 | nil=>rfl
 | cons a bk ih=>
  obtain ⟨k,t',d⟩:=a
  rw [getM_cons] at h
  rw [setM_cons]
  by_cases e:b=k
  ·rw [if_pos e] at h ⊢;simp only [Option.some.injEq,Prod.mk.injEq] at h;rw [h.2]
  ·rw [if_neg e] at h ⊢;rw [ih h]
theorem Sto.Sub.cons {S':Sto} {bk:List (Nat×TypeId×D)} {ow:List (Nat×Nat)} {x:Nat×TypeId×D} (h:S'.Sub ⟨bk,ow⟩):S'.Sub ⟨x::bk,ow⟩:=⟨h.m.cons x,h.o⟩
end

def setL:List D→List Nat→List D→List D
 | A,s::sl,x::xs=>setL (A.set s x) sl xs
 | A,_,_=>A
def frameL (m:Nat) (sl:List Nat) (A xs:List D):List D:=setL (A.take m++List.replicate (A.length - m) .any) sl xs
theorem AW.frame {P:Program} {B:Bg} {Q:AX→List D→Sto→Prop} {A A':List D} {S:Sto} {c:Code} (fr:A=A') (h:AW P B c Q A' S):AW P B c Q A S:=fr ▸ h
theorem AW.loopS {P:Program} {B:Bg} {Q:AX→List D→Sto→Prop} {A:List D} {S:Sto} {c:Code} (m:Nat) (sl:List Nat) (J:List D→Sto→Prop) (μ:List D→Sto→Nat) (xs0:List D) (S0:Sto) (weak:weakA A (frameL m sl A xs0)) (hs0:S0.Sub S) (start:J xs0 S0)
  (round:∀ xs S',J xs S'→AW P B c (AX.then (fun A' S''=>∃ ys S3,weakA A' (frameL m sl A ys)∧S3.Sub S''∧J ys S3∧μ ys S3<μ xs S') Q) (frameL m sl A xs) S'):AW P B (.loop c) Q A S:=by
 refine AW.loop (fun A' S'=>∃ xs,A'=frameL m sl A xs∧J xs S') (fun A' S'=>open Classical in if h:∃ n,∃ xs,A'=frameL m sl A xs∧J xs S'∧μ xs S'=n then (exists_min h).choose else 0) _ S0 weak hs0 ⟨xs0,rfl,start⟩ ?_
 intro A1 S1 ⟨xs1,e1,j1⟩
 have hex:∃ n,∃ xs,A1=frameL m sl A xs∧J xs S1∧μ xs S1=n:=⟨_,xs1,e1,j1,rfl⟩
 obtain ⟨⟨xs,e,j,hm⟩,-⟩:=(exists_min hex).choose_spec
 rw [e]
 refine (round xs S1 j).mono (fun x A' S' q=>?_)
 cases x with
 | normal=>
  obtain ⟨ys,S3,h1,h2,h3,h4⟩:=q
  refine ⟨_,S3,h1,h2,⟨ys,rfl,h3⟩,?_⟩
  have hex':∃ n,∃ xs,frameL m sl A ys=frameL m sl A xs∧J xs S3∧μ xs S3=n:=⟨_,ys,rfl,h3,rfl⟩
  rw [dif_pos hex',← e,dif_pos hex,← hm]
  exact Nat.lt_of_le_of_lt ((exists_min hex').choose_spec.2 _ ⟨ys,rfl,h3,rfl⟩) h4
 | exit id=>exact q
 | goto l=>exact q
 | ret=>exact q
 | panic d=>exact q

abbrev sD (s:Bs):D:=.v (.string ⟨s.toArray⟩)
abbrev iD (n:Int):D:=.v (.int .i64 n)
abbrev uD (n:Int):D:=.v (.int .u64 n)
abbrev bD (b:Bool):D:=.v (.bool b)
def nI:D→Nat
 | .v (.int _ n)=>n.toNat
 | _=>0
abbrev pD (b:Nat):D:=.v (.pointer (some ⟨b,0,none⟩))

@[go_sem] theorem str_size (l:Bs):ByteArray.size ⟨l.toArray⟩=l.length:=rfl
@[go_sem] theorem str_toList (l:Bs):ByteArray.toList ⟨l.toArray⟩=l:=by simp
@[go_sem] theorem strA_app (l m:Bs):(⟨l.toArray⟩++⟨m.toArray⟩:ByteArray)=⟨(l++m).toArray⟩:=by
 apply ByteArray.ext
 simp
@[go_sem] theorem str_extract (l:Bs) (a b:Nat):ByteArray.extract ⟨l.toArray⟩ a b=⟨((l.drop a).take (b - a)).toArray⟩:=by
 apply ByteArray.ext
 simp [ByteArray.data_extract,List.extract_eq_take_drop]
@[go_sem] theorem str_data (l:Bs):(ByteArray.mk l.toArray).data.toList=l:=by simp

attribute [go_sem] untag untags and_false false_and or_false false_or or_true true_or not_true_eq_false not_false_eq_true nI setL frameL List.replicate_succ List.replicate_zero List.cons_append List.nil_append List.size_toArray List.take_succ_cons List.take_zero List.drop_zero List.drop_succ_cons


def tagB:Tag→Option Nat
 | .own b _ _=>some b
 | _=>Option.none

def Grw (ow:List (Nat×Nat)) (e:TypeId) (z:Nat) (tg:Tag) (es:List D):Prop:=(tg=.nil∧es=[])∨∃ b,tg=.own b e z∧(b,es.length*z)∈ow
theorem Grw.may {S:Sto} {e:TypeId} {z:Nat} {tg:Tag} {es:List D} (h:Grw S.ow e z tg es):mayApp S e z es tg:=by
 rcases h with ⟨rfl,_⟩ | ⟨b,rfl,h⟩
 ·trivial
 ·exact ⟨rfl,rfl,h⟩
theorem Grw.nil (ow:List (Nat×Nat)) (e:TypeId) (z:Nat):Grw ow e z .nil []:=.inl ⟨rfl,rfl⟩
theorem Grw.new {ow:List (Nat×Nat)} {e:TypeId} {z g:Nat} {es:List D}:Grw ((g,es.length*z)::ow) e z (.own g e z) es:=.inr ⟨g,rfl,List.mem_cons_self⟩
theorem Grw.keep {ow:List (Nat×Nat)} {e:TypeId} {z:Nat} {tg tg':Tag} {es:List D} {g L:Nat} (h:Grw ow e z tg es) (hne:∀ b,tagB tg=some b→tagB tg'≠some b):Grw ((g,L)::dropTok tg' ow) e z tg es:=by
 rcases h with h | ⟨b,rfl,h⟩
 ·exact .inl h
 ·refine .inr ⟨b,rfl,List.mem_cons_of_mem _ ?_⟩
  have:=hne b rfl
  unfold dropTok
  split
  ·rename_i c _ _
   refine List.mem_filter.2 ⟨h,?_⟩
   simp only [tagB,ne_eq,Option.some.injEq] at this
   simp only [bne_iff_ne,ne_eq]
   exact fun e=>this e.symm
  ·exact h
theorem Grw.fresh {ow:List (Nat×Nat)} {e:TypeId} {z:Nat} {tg tg':Tag} {es:List D} {g:Nat} (h:Grw ow e z tg es) (hne:∀ b,tagB tg=some b→tagB tg'≠some b) (hg:g ∉ (dropTok tg' ow).map (·.1)):∀ b,tagB tg=some b→g≠b:=by
 intro b hb e'
 rcases Grw.keep (g:=g) (L:=0) h hne with ⟨rfl,_⟩ | ⟨c,rfl,hc⟩
 ·cases hb
 ·simp only [tagB,Option.some.injEq] at hb
  subst hb
  rcases h with ⟨h,_⟩ | ⟨c',h,hm⟩
  ·cases h
  ·simp only [Tag.own.injEq,and_true] at h
   subst h
   subst e'
   refine hg (List.mem_map.2 ⟨(g,es.length*z),?_,rfl⟩)
   have:=hne g rfl
   unfold dropTok
   split
   ·rename_i c'' _ _
    refine List.mem_filter.2 ⟨hm,?_⟩
    simp only [tagB,ne_eq,Option.some.injEq] at this
    simp only [bne_iff_ne,ne_eq]
    exact fun e=>this e.symm
   ·exact hm
theorem drop_keep {ow0 ow:List (Nat×Nat)} {tg:Tag} {p:Nat×Nat} (h:List.Sublist ow0 ow) (hb:∀ b,tagB tg=some b→b ∉ ow0.map (·.1)):List.Sublist ow0 (p::dropTok tg ow):=by
 refine List.Sublist.cons _ ?_
 unfold dropTok
 split
 ·rename_i b _ _
  have h1:ow0.filter (fun p=>p.1 != b)=ow0:=by
   refine List.filter_eq_self.2 (fun p hp=>?_)
   simp only [bne_iff_ne,ne_eq]
   exact fun e=>hb b rfl (e ▸ List.mem_map.2 ⟨p,hp,rfl⟩)
  rw [← h1]
  exact h.filter _
 ·exact h
theorem fresh_keep {ow0 ow:List (Nat×Nat)} {tg:Tag} {g:Nat} (h:List.Sublist ow0 ow) (hb:∀ b,tagB tg=some b→b ∉ ow0.map (·.1)) (hg:g ∉ (dropTok tg ow).map (·.1)):g ∉ ow0.map (·.1):=fun hm=>by
 have h2:=drop_keep (p:=(g,0)) h hb
 have h3:List.Sublist ow0 (dropTok tg ow):=by
  unfold dropTok at *
  split at h2
  ·rename_i b _ _
   have h1:ow0.filter (fun p=>p.1 != b)=ow0:=by
    refine List.filter_eq_self.2 (fun p hp=>?_)
    simp only [bne_iff_ne,ne_eq]
    exact fun e=>hb b rfl (e ▸ List.mem_map.2 ⟨p,hp,rfl⟩)
   rw [← h1]
   exact h.filter _
  ·exact h
 exact hg ((h3.map (·.1)).subset hm)

structure G1 (ow0 ow:List (Nat×Nat)) (e:TypeId) (z:Nat) (tg:Tag) (es:List D):Prop where
 g:Grw ow e z tg es
 sub:List.Sublist ow0 ow
 out:∀ b,tagB tg=some b→b ∉ ow0.map (·.1)
theorem G1.nil (ow:List (Nat×Nat)) (e:TypeId) (z:Nat):G1 ow ow e z .nil []:=⟨Grw.nil _ _ _,List.Sublist.refl _,fun b h=>by cases h⟩
theorem G1.add {ow0 ow:List (Nat×Nat)} {e:TypeId} {z:Nat} {tg:Tag} {es ns:List D} (h:G1 ow0 ow e z tg es) {g:Nat} (hg:g ∉ (dropTok tg ow).map (·.1)) :
  G1 ow0 ((g,(es++ns).length*z)::dropTok tg ow) e z (.own g e z) (es++ns):=
 ⟨Grw.new,drop_keep h.sub h.out,fun b hb=>by simp only [tagB,Option.some.injEq] at hb;subst hb;exact fresh_keep h.sub h.out hg⟩
theorem G1.may {ow0:List (Nat×Nat)} {S:Sto} {e:TypeId} {z:Nat} {tg:Tag} {es:List D} (h:G1 ow0 S.ow e z tg es):mayApp S e z es tg:=h.g.may
theorem sz_map {α:Type} {f:α→D} {z:Nat} (h:∀ x,(f x).size=z) {l:List α} {ns:List D} (hn:∀ d∈ns,d.size=z):∀ d∈l.map f++ns,d.size=z:=fun d hd=>by
 rcases List.mem_append.1 hd with hd | hd
 ·obtain ⟨x,_,rfl⟩:=List.mem_map.1 hd;exact h x
 ·exact hn d hd

section
variable {P : Program} {T : TypeId → Ty} {B : Bg} {Q : AX → List D → Sto → Prop} {A : List D} {S : Sto} {ops : Array Oper} {l : List Oper} {o : Oper}
theorem AOps.goN {T:TypeId→Ty} (hP:Prg P T) (n:Nat) {l:List Oper} {A A':List D} {S S':Sto} (run:runOps T ops (l.take n) A S=([],A',S')) (k:AOps P B ops Q (l.drop n) A' S'):AOps P B ops Q l A S:=by
 induction l generalizing n A S with
 | nil=>
  simp only [List.take_nil,runOps,Prod.mk.injEq,true_and] at run
  obtain ⟨rfl,rfl⟩:=run
  simpa using k
 | cons o l ih=>
  cases n with
  | zero=>
   simp only [List.take_zero,runOps,Prod.mk.injEq,true_and] at run
   obtain ⟨rfl,rfl⟩:=run
   simpa using k
  | succ n=>
   simp only [List.take_succ_cons,List.drop_succ_cons] at run k
   unfold runOps at run
   split at run
   ·rename_i hw
    split at run
    ·rename_i d S1 he
     exact AOps.step hP hw he (ih n run k)
    ·simp at run
   ·rename_i hw
    exact AOps.skip hw (ih n run k)
   ·simp at run
theorem AW.nd {c:Code} (h:(S.bk.map (·.1)++S.ow.map (·.1)).Nodup→AW P B c Q A S):AW P B c Q A S:=fun a w k=>h k.st.nd a w k
theorem AOps.nd (h:(S.bk.map (·.1)++S.ow.map (·.1)).Nodup→AOps P B ops Q l A S):AOps P B ops Q l A S:=fun a w k=>h k.st.nd a w k
theorem AW.weak {c:Code} {A':List D} (weak:weakA A A') (h:AW P B c Q A' S):AW P B c Q A S:=fun a w k=>h a w (k.weak weak)
end

end Go.Proofs.YtgjaaffheanobaaGreat