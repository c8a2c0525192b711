/- Values without addresses: statements whose order is open, taken operation by operation: those that change nothing first. -/
import Derived.Test.YtcaggadjkccbiaaGreatZ44
namespace Go.Proofs.YtcaggadjkccbiaaGreat
set_option linter.unusedVariables false
set_option linter.unusedSimpArgs false
open Go Go.RowKit

section
variable {P : Program} {T : TypeId → Ty} {B : Bg} {Q : AX → List D → Sto → Prop} {S : Sto} {A : List D} {ops : Array Oper}

def loudOp (o:Oper):Bool:=match o.op with
 | .store _ _ _=>true
 | .alloc _=>true
 | .call c=>(match c.callee with | .builtin .len=>false | .builtin .max=>false | _=>true)
 | _=>false
theorem quiet_same {o:Oper} {d:D} {S':Sto} (h:evalS T A S o.op=some (d,S')) (hq:loudOp o=false):S'=S:=by
 unfold evalS at h
 split at h
 ·rename_i he
  unfold loudOp at hq
  rw [he] at hq
  cases hq
 ·split at h
  ·simp only [Option.some.injEq,Prod.mk.injEq] at h;exact h.2.symm
  ·cases h
 all_goals
  obtain ⟨d',h1,h2⟩:=Option.map_eq_some_iff.1 h
  simp only [Prod.mk.injEq] at h2
  exact h2.2.symm

def StepY (P:Program) (B:Bg) (ops:Array Oper) (o:Oper) (A:List D) (S:Sto) (K:List D→Sto→Prop):Prop:=
 ∃ R:D→Sto→Prop,(loudOp o=false→∀ d S',R d S'→S'=S)∧(∀ (Q':AX→List D→Sto→Prop) (A':List D),Agree (o.looksAt ops) A A'→(∀ d S',R d S'→Q' .normal (putA A' o.dst d) S')→AOps P B ops Q' [o] A' S)∧∀ d S',R d S'→K (putA A o.dst d) S'
def AAnyY (P:Program) (B:Bg) (Q:AX→List D→Sto→Prop) (ops:Array Oper):Nat→Array Bool→List D→Sto→Prop
 | 0,listed,A,S=>Region.ready .any ops listed=[]∧Q .normal A S
 | n+1,listed,A,S=>Region.ready .any ops listed≠[]∧∀ i∈Region.ready .any ops listed,∃ o,ops[i]?=some o∧StepY P B ops o A S (fun A' S'=>AAnyY P B Q ops n (listed.setIfInBounds i true) A' S')
theorem AAnyY.sound:∀ (n:Nat) (listed:Array Bool) (A:List D) (S:Sto),AAnyY P B Q ops n listed A S→AMix P B Q ops n listed A S
 | 0,listed,A,S,h=>AMix.end h.1 h.2
 | n+1,listed,A,S,h=>AMix.branch _ rfl h.1 (fun i hi=>by
  obtain ⟨o,ho,R,_,h1,h2⟩:=h.2 i hi
  exact ⟨o,ho,h1 _ A (Agree.refl _ _) (fun d S' hr=>AAnyY.sound n _ _ _ (h2 d S' hr))⟩)
theorem StepY.eval (hP:Prg P T) {o:Oper} {d:D} {S':Sto} {K:List D→Sto→Prop} (hw:wantedA ops A o=some true) (he:evalS T A S o.op=some (d,S')) (h:K (putA A o.dst d) S'):StepY P B ops o A S K:=
 ⟨fun d1 S1=>d1=d∧S1=S',fun hq d1 S1 h1=>h1.2.trans (quiet_same he hq),fun Q' A' hag hq=>AOps.step hP ((wantedA_agree hag).symm.trans hw) ((evalS_agree (T:=T) (S:=S) hag).symm.trans he) (AOps.nil (hq d S' ⟨rfl,rfl⟩)),fun d1 S1 h1=>by obtain ⟨rfl,rfl⟩:=h1;exact h⟩
theorem StepY.skip {o:Oper} {K:List D→Sto→Prop} (hw:wantedA ops A o=some false) (h:K (putA A o.dst (.tup [])) S):StepY P B ops o A S K:=
 ⟨fun d1 S1=>d1=.tup []∧S1=S,fun _ d1 S1 h1=>h1.2,fun Q' A' hag hq=>AOps.skip ((wantedA_agree hag).symm.trans hw) (AOps.nil (hq _ _ ⟨rfl,rfl⟩)),fun d1 S1 h1=>by obtain ⟨rfl,rfl⟩:=h1;exact h⟩
def QY (T:TypeId→Ty) (ops:Array Oper) (o:Oper) (A:List D) (S:Sto) (v:D):Prop:=(wantedA ops A o=some true∧evalS T A S o.op=some (v,S))∨(wantedA ops A o=some false∧v=.tup [])
theorem QY.step (hP:Prg P T) {o:Oper} {v:D} {K:List D→Sto→Prop} (h:QY T ops o A S v) (k:K (putA A o.dst v) S):StepY P B ops o A S K:=by
 rcases h with ⟨h1,h2⟩ | ⟨h1,rfl⟩
 ·exact .eval hP h1 h2 k
 ·exact .skip h1 k
theorem QY.agree {o:Oper} {v:D} {A':List D} (hag:Agree (o.looksAt ops) A A') (h:QY T ops o A S v):QY T ops o A' S v:=by
 rcases h with ⟨h1,h2⟩ | ⟨h1,h2⟩
 ·exact .inl ⟨(wantedA_agree hag).symm.trans h1,(evalS_agree (T:=T) (S:=S) hag).symm.trans h2⟩
 ·exact .inr ⟨(wantedA_agree hag).symm.trans h1,h2⟩

theorem AAnyY.first (hP:Prg P T) {Fs:Sto→Prop} {i F:Nat} {oi:Oper} {v:D} (hi:ops[i]?=some oi) (pure:Bool) (hT:pure=true→∀ S,Fs S) (hreach:pure=false→∀ j oj,ops[j]?=some oj→j≠i→loudOp oj=true→reachB ops F j i=true) :
  ∀ (n:Nat) (listed:Array Bool) (A:List D) (S:Sto),Closed ops listed→(∀ j oj,ops[j]?=some oj→j≠i→listed.getD j true=false→(∀ e∈oj.after,Region.binds .any e=true→e.on≠i)→oi.apart ops oj=true) →
  i∈Region.ready .any ops listed→(∀ S',Fs S'→QY T ops oi A S' v)→Fs S→AAnyY P B Q ops n (listed.setIfInBounds i true) (putA A oi.dst v) S→AAnyY P B Q ops (n+1) listed A S:=by
 intro n
 induction n with
 | zero=>
  intro listed A S hc hfree hr hq hS H
  refine ⟨fun h=>(by rw [h] at hr;cases hr),fun j hj=>?_⟩
  by_cases hji:j=i
  ·subst hji;exact ⟨oi,hi,(hq S hS).step hP H⟩
  ·have:=ready_mono hj hji
   rw [H.1] at this
   cases this
 | succ n ih=>
  intro listed A S hc hfree hr hq hS H
  refine ⟨fun h=>(by rw [h] at hr;cases hr),fun j hj=>?_⟩
  by_cases hji:j=i
  ·subst hji;exact ⟨oi,hi,(hq S hS).step hP H⟩
  ·obtain ⟨oj,hoj,R,hl,h1,h2⟩:=H.2 j (ready_mono hj hji)
   obtain ⟨hjun,oj',hoj',hall⟩:=mem_ready.1 hj
   rw [hoj] at hoj'
   simp only [Option.some.injEq] at hoj'
   subst hoj'
   have hnot:∀ e∈oj.after,Region.binds .any e=true→e.on≠i:=fun e he hb heq=>by
    have h1:=hall e he hb
    have h0:=(mem_ready.1 hr).1
    rw [heq] at h1
    rw [getD_tf h1] at h0;cases h0
   obtain ⟨p1,p2,p3⟩:=Oper.apart_spec (hfree j oj hoj hji hjun hnot)
   have hag:=agree_put A oi.dst v p1
   refine ⟨oj,hoj,R,hl,fun Q' A' ha hk=>h1 Q' A' (hag.symm.trans ha) hk,fun d S' hd=>?_⟩
   have hS':Fs S':=by
    cases hp:pure with
    | true=>exact hT hp _
    | false=>
     cases hlo:loudOp oj with
     | true=>
      exfalso
      have h1:=getD_tf (reach_listed hc F j i oj hoj hall (hreach hp j oj hoj hji hlo))
      have h0:=(mem_ready.1 hr).1
      rw [h1] at h0;cases h0
     | false=>rw [hl hlo d S' hd];exact hS
   refine ih (listed.setIfInBounds j true) _ S' (hc.set hj) (fun k ok hk hki hun hno=>?_) (ready_mono hr (Ne.symm hji)) (fun S2 h2=>(hq S2 h2).agree (agree_put A oj.dst d p3)) hS' ?_
   ·refine hfree k ok hk hki ?_ hno
    by_cases hjk:j=k
    ·subst hjk;exact hjun
    ·rw [getD_set_ne true hjk] at hun;exact hun
   ·rw [Array.setIfInBounds_comm _ _ hji,← putA_comm A oi.dst oj.dst v d p2]
    exact h2 d S' hd

def reachAll (ops:Array Oper) (i:Nat):Bool:=(List.range ops.size).all fun j=>Nat.beq j i || (match ops[j]? with | some o=>!loudOp o | none=>true) || reachB ops ops.size j i
theorem reachAll_spec {i:Nat} (h:reachAll ops i=true):∀ j oj,ops[j]?=some oj→j≠i→loudOp oj=true→reachB ops ops.size j i=true:=fun j oj hj hji hl=>by
 unfold reachAll at h
 simp only [List.all_eq_true,List.mem_range] at h
 have:=h j (Array.getElem?_eq_some_iff.1 hj).1
 rw [hj] at this
 simp only [hl,Bool.not_true,Bool.or_false,Bool.or_eq_true] at this
 rcases this with h1 | h1
 ·exact absurd (Nat.eq_of_beq_eq_true h1) hji
 ·exact h1
def AY (P:Program) (B:Bg) (Q:AX→List D→Sto→Prop) (ops:Array Oper) (n:Nat) (listed:Array Bool) (A:List D) (S:Sto):Prop:=Closed ops listed→AAnyY P B Q ops n listed A S
end

section
variable {B : Bg} {Q : AX → List D → Sto → Prop} {A A' : List D} {S S' : Sto} {ops : Array Oper} {l : List Oper} {R : Prop} {o : Oper} {id n : Nat} {listed l1 : Array Bool}
theorem yp (i:Nat) {v:D} (k:AY Tryz.prog B Q ops n l1 A' S) (hi:ops[i]?=some o:=by (simp only [List.getElem?_toArray,List.getElem?_cons_succ,List.getElem?_cons_zero];rfl)) (hr:(Region.ready .any ops listed).contains i=true:=by kernel_rfl) (hf:Region.free .any ops listed i=true:=by kernel_rfl)
  (hw:wantedA ops A o=some true:=by (first | rfl | (simp only [go_sem,Int.reduceEq,Int.reduceLT,Int.reduceBEq,Int.reduceBNe,Int.reduceNe,Nat.reduceLeDiff,Nat.reduceAdd,Nat.reduceSub,Nat.reduceLT,Nat.reduceEqDiff,Nat.reduceBEq,Int.reduceLE,Int.reduceToNat,F];done) | (simp only [go_sem,Int.reduceEq,Int.reduceLT,Int.reduceBEq,Int.reduceBNe,Int.reduceNe,Nat.reduceLeDiff,Nat.reduceAdd,Nat.reduceSub,Nat.reduceLT,Nat.reduceEqDiff,Nat.reduceBEq,Int.reduceLE,Int.reduceToNat,F];rfl))) (he:∀ S1,evalS tys A S1 o.op=some (v,S1):=by (intro S1;simp only [go_sem,Int.reduceEq,Int.reduceLT,Int.reduceBEq,Int.reduceBNe,Int.reduceNe,Nat.reduceLeDiff,Nat.reduceAdd,Nat.reduceSub,Nat.reduceLT,Nat.reduceEqDiff,Nat.reduceBEq,Int.reduceLE,Int.reduceToNat,F];rfl)) (hA:putA A o.dst v=A':=by (simp only [go_sem,Int.reduceEq,Int.reduceLT,Int.reduceBEq,Int.reduceBNe,Int.reduceNe,Nat.reduceLeDiff,Nat.reduceAdd,Nat.reduceSub,Nat.reduceLT,Nat.reduceEqDiff,Nat.reduceBEq,Int.reduceLE,Int.reduceToNat];rfl)) (h1:listed.setIfInBounds i true=l1:=by rfl):AY Tryz.prog B Q ops (n+1) listed A S:=fun hc=>by
 subst hA h1
 have hr':i∈Region.ready .any ops listed:=by simpa using hr
 exact AAnyY.first (F:=0) (Fs:=fun _=>True) prg hi true (fun _ _=>trivial) (fun h=>by cases h) n listed A S hc (fun j oj hj hne hun hno=>Region.free_spec hi hf j oj hj hne hun hno) hr' (fun S' _=>.inl ⟨hw,he S'⟩) trivial (k (hc.set hr'))
theorem yq (i:Nat) {v:D} (k:AY Tryz.prog B Q ops n l1 A' S) (hi:ops[i]?=some o:=by (simp only [List.getElem?_toArray,List.getElem?_cons_succ,List.getElem?_cons_zero];rfl)) (hr:(Region.ready .any ops listed).contains i=true:=by kernel_rfl) (hf:Region.free .any ops listed i=true:=by kernel_rfl) (hL:reachAll ops i=true:=by kernel_rfl)
  (hw:wantedA ops A o=some true:=by (first | rfl | (simp only [go_sem,Int.reduceEq,Int.reduceLT,Int.reduceBEq,Int.reduceBNe,Int.reduceNe,Nat.reduceLeDiff,Nat.reduceAdd,Nat.reduceSub,Nat.reduceLT,Nat.reduceEqDiff,Nat.reduceBEq,Int.reduceLE,Int.reduceToNat,F];done) | (simp only [go_sem,Int.reduceEq,Int.reduceLT,Int.reduceBEq,Int.reduceBNe,Int.reduceNe,Nat.reduceLeDiff,Nat.reduceAdd,Nat.reduceSub,Nat.reduceLT,Nat.reduceEqDiff,Nat.reduceBEq,Int.reduceLE,Int.reduceToNat,F];rfl))) (he:evalS tys A S o.op=some (v,S):=by (simp only [go_sem,Int.reduceEq,Int.reduceLT,Int.reduceBEq,Int.reduceBNe,Int.reduceNe,Nat.reduceLeDiff,Nat.reduceAdd,Nat.reduceSub,Nat.reduceLT,Nat.reduceEqDiff,Nat.reduceBEq,Int.reduceLE,Int.reduceToNat,F];rfl)) (hA:putA A o.dst v=A':=by (simp only [go_sem,Int.reduceEq,Int.reduceLT,Int.reduceBEq,Int.reduceBNe,Int.reduceNe,Nat.reduceLeDiff,Nat.reduceAdd,Nat.reduceSub,Nat.reduceLT,Nat.reduceEqDiff,Nat.reduceBEq,Int.reduceLE,Int.reduceToNat];rfl)) (h1:listed.setIfInBounds i true=l1:=by rfl):AY Tryz.prog B Q ops (n+1) listed A S:=fun hc=>by
 subst hA h1
 have hr':i∈Region.ready .any ops listed:=by simpa using hr
 exact AAnyY.first (Fs:=fun S'=>S'=S) prg hi false (fun h=>by cases h) (fun _=>reachAll_spec hL) n listed A S hc (fun j oj hj hne hun hno=>Region.free_spec hi hf j oj hj hne hun hno) hr' (fun S' h=>by rw [h];exact .inl ⟨hw,he⟩) rfl (k (hc.set hr'))
theorem ys (i:Nat) {v:D} (k:AY Tryz.prog B Q ops n l1 A' S') (hi:ops[i]?=some o:=by (simp only [List.getElem?_toArray,List.getElem?_cons_succ,List.getElem?_cons_zero];rfl)) (hr:Region.ready .any ops listed=[i]:=by kernel_rfl)
  (hw:wantedA ops A o=some true:=by (first | rfl | (simp only [go_sem,Int.reduceEq,Int.reduceLT,Int.reduceBEq,Int.reduceBNe,Int.reduceNe,Nat.reduceLeDiff,Nat.reduceAdd,Nat.reduceSub,Nat.reduceLT,Nat.reduceEqDiff,Nat.reduceBEq,Int.reduceLE,Int.reduceToNat,F];done) | (simp only [go_sem,Int.reduceEq,Int.reduceLT,Int.reduceBEq,Int.reduceBNe,Int.reduceNe,Nat.reduceLeDiff,Nat.reduceAdd,Nat.reduceSub,Nat.reduceLT,Nat.reduceEqDiff,Nat.reduceBEq,Int.reduceLE,Int.reduceToNat,F];rfl))) (he:evalS tys A S o.op=some (v,S'):=by (simp only [go_sem,Int.reduceEq,Int.reduceLT,Int.reduceBEq,Int.reduceBNe,Int.reduceNe,Nat.reduceLeDiff,Nat.reduceAdd,Nat.reduceSub,Nat.reduceLT,Nat.reduceEqDiff,Nat.reduceBEq,Int.reduceLE,Int.reduceToNat,F];rfl)) (hA:putA A o.dst v=A':=by (simp only [go_sem,Int.reduceEq,Int.reduceLT,Int.reduceBEq,Int.reduceBNe,Int.reduceNe,Nat.reduceLeDiff,Nat.reduceAdd,Nat.reduceSub,Nat.reduceLT,Nat.reduceEqDiff,Nat.reduceBEq,Int.reduceLE,Int.reduceToNat];rfl)) (h1:listed.setIfInBounds i true=l1:=by rfl):AY Tryz.prog B Q ops (n+1) listed A S:=fun hc=>by
 subst hA h1
 refine ⟨by rw [hr];simp,fun j hj=>?_⟩
 have hj':=hj
 rw [hr] at hj
 simp only [List.mem_singleton] at hj
 subst hj
 exact ⟨o,hi,.eval prg hw he (k (hc.set hj'))⟩
theorem ya (i:Nat) (e:TypeId) (z by_:Nat) {t:TypeId} {x y:Operand} {tg tg':Tag} {es ns:List D} (hsz:∀ d∈es++ns,d.size=z) (hm:mayApp S e z es tg) (hb:(es.length+ns.length)*by_≤140737488355328)
  (k:∀ g,g ∉ S.bk.map (·.1)→g ∉ (dropTok tg S.ow).map (·.1)→AY Tryz.prog B Q ops n l1 (putA A o.dst (.sl (.own g e z) (es++ns))) ⟨S.bk,(g,(es++ns).length*z)::dropTok tg S.ow⟩)
  (hi:ops[i]?=some o:=by (simp only [List.getElem?_toArray,List.getElem?_cons_succ,List.getElem?_cons_zero];rfl)) (ho:o.op=.call ⟨.builtin .append,#[x,y],#[t,t]⟩:=by rfl) (hr:Region.ready .any ops listed=[i]:=by kernel_rfl) (hw:wantedA ops A o=some true:=by rfl) (hx:evalO A x=.sl tg es:=by rfl) (hy:evalO A y=.sl tg' ns:=by rfl) (ht:tys t=.slice e:=by rfl)
  (hk:(tys e).known=true:=by rfl) (hl:(tys e).zero.lies=true:=by rfl) (hz:(tys e).zero.size=z:=by rfl) (hz0:0<z:=by decide) (hby:((Tryz.prog).info? e).map (·.bytes)=some by_:=by kernel_rfl) (hby0:0<by_:=by decide) (hn:ns≠[]:=by simp) (h1:listed.setIfInBounds i true=l1:=by rfl):AY Tryz.prog B Q ops (n+1) listed A S:=fun hc=>by
 subst h1
 refine ⟨by rw [hr];simp,fun j hj=>?_⟩
 have hj':=hj
 rw [hr] at hj
 simp only [List.mem_singleton] at hj
 subst hj
 refine ⟨o,hi,fun d S'=>∃ g,g ∉ S.bk.map (·.1)∧g ∉ (dropTok tg S.ow).map (·.1)∧d=.sl (.own g e z) (es++ns)∧S'=⟨S.bk,(g,(es++ns).length*z)::dropTok tg S.ow⟩,?_,?_,?_⟩
 ·intro hq
  unfold loudOp at hq
  rw [ho] at hq
  cases hq
 ·intro Q' A' hag hk'
  have hlook:∀ u,x=.tmp u∨y=.tmp u→u∈o.looksAt ops:=fun u hu=>looks_mem (by rw [ho];rcases hu with h | h <;> (subst h;simp [Op.operands,Call.operands]))
  refine AOps.append prg ho ((wantedA_agree hag).symm.trans hw) ht ((evalO_agree hag (fun u hu=>hlook u (.inl hu))).symm.trans hx) ((evalO_agree hag (fun u hu=>hlook u (.inr hu))).symm.trans hy) hk hl hz hz0 hby hby0 hsz hm hn hb (fun g h1 h2=>AOps.nil (hk' _ _ ⟨g,h1,h2,rfl,rfl⟩))
 ·rintro d S' ⟨g,h1,h2,rfl,rfl⟩
  exact k g h1 h2 (hc.set hj')
theorem ye (k:R) (hr:Region.ready .any ops listed=[]:=by kernel_rfl) (h:Q .normal A S=R:=by ((try dsimp only [AX.then,AX.inBlock]);try rfl)):AY Tryz.prog B Q ops 0 listed A S:=fun _=>⟨hr,h ▸ k⟩
theorem yz (k:AY Tryz.prog B Q l.toArray l.length (Array.replicate l.length false) A S):AW Tryz.prog B (.region id l.toArray true) Q A S:=fun a w ka=>by
 refine wp_region_any prg.mixed ?_
 have h3:=AAnyY.sound _ _ _ _ (k (Closed.none _)) a _ ka.drawn
 simpa using h3
end

end Go.Proofs.YtcaggadjkccbiaaGreat