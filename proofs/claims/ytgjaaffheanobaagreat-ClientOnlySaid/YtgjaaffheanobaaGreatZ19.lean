/- Short words of the walk: what they want is shown at the place by the facts F. -/
import Derived.Test.YtgjaaffheanobaaGreatZ15
import Derived.Test.YtgjaaffheanobaaGreatZ18
namespace Go.Proofs.YtgjaaffheanobaaGreat
set_option linter.unusedVariables false
set_option linter.unusedSimpArgs false
open Go Go.RowKit

section
variable {B : Bg} {Q : AX → List D → Sto → Prop} {A A' : List D} {S S' : Sto} {ops : Array Oper} {l l' m : List Oper} {R : Prop} {o : Oper} {id : Nat}
theorem w1 (k:AOps Tryz.prog B ops Q m A' S') (run:runOps tys ops (l.take 5) A S=(l',A',S'):=by (simp only [go_sem,Int.reduceEq,Int.reduceLT,Int.reduceBEq,Int.reduceBNe,Int.reduceNe,Nat.reduceLeDiff,Nat.reduceAdd,Nat.reduceSub,Nat.reduceLT,Nat.reduceEqDiff,Nat.reduceBEq,Int.reduceLE,Int.reduceToNat,List.take_nil,F];rfl)) (pr:Nat.blt l'.length (l.take 5).length=true:=by rfl) (mm:l'++l.drop 5=m:=by (simp only [List.take_nil,List.drop_nil,List.append_nil,List.nil_append,List.cons_append,List.drop_succ_cons,List.drop_zero];rfl)):AOps Tryz.prog B ops Q l A S:=AOps.goP prg run pr mm k
theorem w2 (k:ALex Tryz.prog B Q ops S m A') (run:runQ tys ops S (l.take 5) A=(l',A'):=by (simp only [go_sem,Int.reduceEq,Int.reduceLT,Int.reduceBEq,Int.reduceBNe,Int.reduceNe,Nat.reduceLeDiff,Nat.reduceAdd,Nat.reduceSub,Nat.reduceLT,Nat.reduceEqDiff,Nat.reduceBEq,Int.reduceLE,Int.reduceToNat,List.take_nil,F];rfl)) (pr:Nat.blt l'.length (l.take 5).length=true:=by rfl) (mm:l'++l.drop 5=m:=by (simp only [List.take_nil,List.drop_nil,List.append_nil,List.nil_append,List.cons_append,List.drop_succ_cons,List.drop_zero];rfl)):ALex Tryz.prog B Q ops S l A:=ALex.goP prg run pr mm k
theorem w3 {x y:Code} (k:AW Tryz.prog B x (AX.then (AW Tryz.prog B y Q) Q) A S):AW Tryz.prog B (.seq x y) Q A S:=AW.seq k
theorem w4 (k:AOps Tryz.prog B l.toArray Q l A S):AW Tryz.prog B (.region id l.toArray false) Q A S:=AW.region k
theorem w5 (k:ALex Tryz.prog B Q l.toArray S l A) (hB:Region.lexB .any l.toArray=true:=by kernel_rfl):AW Tryz.prog B (.region id l.toArray true) Q A S:=AW.draw prg hB k
theorem w6 (k:R) (h:Q .normal A S=R:=by ((try dsimp only [AX.then,AX.inBlock]);try rfl)):AOps Tryz.prog B ops Q [] A S:=AOps.nil (h ▸ k)
theorem w7 (k:R) (h:Q .normal A S=R:=by ((try dsimp only [AX.then,AX.inBlock]);try rfl)):ALex Tryz.prog B Q ops S [] A:=ALex.nil (h ▸ k)
theorem w8 {c:Operand} {x y:Code} (k:AW Tryz.prog B x Q A S) (hc:evalO A c=.v (.bool true):=by rfl):AW Tryz.prog B (.cond c x y) Q A S:=AW.condT hc k
theorem w9 {c:Operand} {x y:Code} (k:AW Tryz.prog B y Q A S) (hc:evalO A c=.v (.bool false):=by rfl):AW Tryz.prog B (.cond c x y) Q A S:=AW.condF hc k
theorem wa (k:R) (h:Q .normal A S=R:=by ((try dsimp only [AX.then,AX.inBlock]);try rfl)):AW Tryz.prog B .skip Q A S:=AW.skip (h ▸ k)
theorem wb (k:R) (h:Q .ret A S=R:=by ((try dsimp only [AX.then,AX.inBlock]);try rfl)):AW Tryz.prog B .ret Q A S:=AW.ret (h ▸ k)
theorem wc {x:Code} (k:AW Tryz.prog B x (AX.inBlock id Q) A S):AW Tryz.prog B (.block id x) Q A S:=AW.block k
theorem wd (k:R) (h:Q (.exit id) A S=R:=by (simp only [AX.then,AX.inBlock,if_true,Nat.reduceEqDiff,if_false];try rfl)):AW Tryz.prog B (.exit id) Q A S:=AW.exit (h ▸ k)
theorem we {f:FuncId} {args:Array Operand} {ats:Array TypeId} {d:D} (ho:o.op=.call ⟨.value (.func f),args,ats⟩:=by rfl) (hw:wantedA ops A o=some true:=by rfl)
  (c:ACalls Tryz.prog f (args.toList.map (evalO A)) S (RetQ d S')) (k:AOps Tryz.prog B ops Q l (putA A o.dst d) S'):AOps Tryz.prog B ops Q (o::l) A S:=AOps.callq ho hw c k
theorem wf {f:FuncId} {args:Array Operand} {ats:Array TypeId} {d:D} (ho:o.op=.call ⟨.value (.func f),args,ats⟩:=by rfl) (hw:wantedA ops A o=some true:=by rfl)
  (c:ACalls Tryz.prog f (args.toList.map (evalO A)) S (RetQ d S)) (k:ALex Tryz.prog B Q ops S l (putA A o.dst d)):ALex Tryz.prog B Q ops S (o::l) A:=ALex.callq ho hw c k
theorem wg {f:FuncId} {args:Array Operand} {ats:Array TypeId} {R:D→Sto→Prop} (ho:o.op=.call ⟨.value (.func f),args,ats⟩:=by rfl) (hw:wantedA ops A o=some true:=by rfl)
  (c:ACalls Tryz.prog f (args.toList.map (evalO A)) S (fun e S'=>∃ d,e=.ret d∧R d S')) (k:∀ d S',R d S'→AOps Tryz.prog B ops Q l (putA A o.dst d) S'):AOps Tryz.prog B ops Q (o::l) A S:=AOps.callx ho hw c k
theorem wh {t:TypeId} (k:∀ b,b ∉ S.bk.map (·.1)∧b ∉ S.ow.map (·.1)→AOps Tryz.prog B ops Q l (putA A o.dst (.v (.pointer (some ⟨b,0,Option.none⟩)))) ⟨(b,t,(tys t).zero)::S.bk,S.ow⟩)
  (ho:o.op=.alloc t:=by rfl) (hw:wantedA ops A o=some true:=by rfl) (ht:(tys t).known=true:=by rfl) (hl:(tys t).zero.lies=true:=by rfl):AOps Tryz.prog B ops Q (o::l) A S:=AOps.alloc prg ho hw ht hl k
theorem wix {x:Operand} {f:FuncId} {cs:List D} {args:Array Operand} {ats:Array TypeId} {R:D→Sto→Prop} (ho:o.op=.call ⟨.value x,args,ats⟩:=by rfl) (hw:wantedA ops A o=some true:=by rfl) (hx:evalO A x=.fn f cs:=by rfl)
  (c:ACalls Tryz.prog f (args.toList.map (evalO A)++cs) S (fun e S'=>∃ d,e=.ret d∧R d S')) (k:∀ d S',R d S'→AOps Tryz.prog B ops Q l (putA A o.dst d) S'):AOps Tryz.prog B ops Q (o::l) A S:=
 AOps.callf ho hw hx c (fun d' S' h=>by obtain ⟨d,h1,h2⟩:=h;simp only [AEnd.ret.injEq] at h1;subst h1;exact k _ _ h2) (fun d' S' h=>by obtain ⟨d,h1,_⟩:=h;cases h1)
theorem wap (e:TypeId) (z by_:Nat) {t:TypeId} {x y:Operand} {tg tg':Tag} {es ns:List D} (hsz:∀ d∈es++ns,d.size=z) (hm:mayApp S e z es tg) (hb:(es.length+ns.length)*by_≤140737488355328)
  (k:∀ g,g ∉ S.bk.map (·.1)→g ∉ (dropTok tg S.ow).map (·.1)→AOps Tryz.prog B ops Q l (putA A o.dst (.sl (.own g e z) (es++ns))) ⟨S.bk,(g,(es++ns).length*z)::dropTok tg S.ow⟩)
  (ho:o.op=.call ⟨.builtin .append,#[x,y],#[t,t]⟩:=by rfl) (hw:wantedA ops A o=some true:=by rfl) (hx:evalO A x=.sl tg es:=by rfl) (hy:evalO A y=.sl tg' ns:=by rfl) (ht:tys t=.slice e:=by rfl)
  (hk:(tys e).known=true:=by rfl) (hl:(tys e).zero.lies=true:=by rfl) (hz:(tys e).zero.size=z:=by rfl) (hz0:0<z:=by decide) (hby:((Tryz.prog).info? e).map (·.bytes)=some by_:=by kernel_rfl) (hby0:0<by_:=by decide) (hn:ns≠[]:=by simp):AOps Tryz.prog B ops Q (o::l) A S:=
 AOps.append prg ho hw ht hx hy hk hl hz hz0 hby hby0 hsz hm hn hb k
theorem aL {t:TypeId} {p:Nat→Prop} (k:∀ b,p b→b ∉ S.ow.map (·.1)→AOps Tryz.prog B ops Q l (putA A o.dst (.v (.pointer (some ⟨b,0,Option.none⟩)))) ⟨(b,t,(tys t).zero)::S.bk,S.ow⟩)
  (ho:o.op=.alloc t:=by rfl) (hw:wantedA ops A o=some true:=by rfl) (ht:(tys t).known=true:=by rfl) (hl:(tys t).zero.lies=true:=by rfl) (hp:∀ b,b ∉ S.bk.map (·.1)→p b:=by (intro b h;(try simp only [List.map_cons,List.mem_cons,not_or] at h);exact h)):AOps Tryz.prog B ops Q (o::l) A S:=wh (fun b h=>k b (hp b h.1) h.2) ho hw ht hl
theorem aB {t:TypeId} {x:Operand} {p:Nat→Prop} (k:∀ b,p b→b ∉ S.ow.map (·.1)→AOps Tryz.prog B ops Q l (putA A o.dst (.v (.pointer (some ⟨b,0,Option.none⟩)))) ⟨(b,t,evalO A x)::S.bk,S.ow⟩)
  (ho:o.op=.box t x:=by rfl) (hw:wantedA ops A o=some true:=by rfl) (hl:(evalO A x).lies=true:=by rfl) (hp:∀ b,b ∉ S.bk.map (·.1)→p b:=by (intro b h;(try simp only [List.map_cons,List.mem_cons,not_or] at h);exact h)):AOps Tryz.prog B ops Q (o::l) A S:=AOps.boxm ho hw hl (fun b h=>k b (hp b h.1) h.2)
theorem fR {P:Program} {c:Code} (k:AW P B c Q A' S) (fr:A=A':=by (simp only [go_sem,Int.reduceEq,Int.reduceLT,Int.reduceBEq,Int.reduceBNe,Int.reduceNe,Nat.reduceLeDiff,Nat.reduceAdd,Nat.reduceSub,Nat.reduceLT,Nat.reduceEqDiff,Nat.reduceBEq,Int.reduceLE,Int.reduceToNat];rfl)):AW P B c Q A S:=AW.frame fr k
theorem Yy {p q:Prop} (h:p) (k:q):p∧q:=⟨h,k⟩
theorem Y0:∀ p,(True∧p)=p:=true_and
theorem sR {f G:Prop} (F:f) (h:f→G:=by (intro F;simp only [go_sem,Int.reduceEq,Int.reduceLT,Int.reduceBEq,Int.reduceBNe,Int.reduceNe,Nat.reduceLeDiff,Nat.reduceAdd,Nat.reduceSub,Nat.reduceLT,Nat.reduceEqDiff,Nat.reduceBEq,Int.reduceLE,Int.reduceToNat,F];rfl)):G:=h F
theorem wK {G:Prop} (h:G:=by simp only [go_sem,Int.reduceEq,Int.reduceLT,Int.reduceBEq,Int.reduceBNe,Int.reduceNe,Nat.reduceLeDiff,Nat.reduceAdd,Nat.reduceSub,Nat.reduceLT,Nat.reduceEqDiff,Nat.reduceBEq,Int.reduceLE,Int.reduceToNat,weakA,or_true,true_or,and_self]):G:=h
theorem mE {G:Prop} (h:G:=by (simp only [go_sem,Int.reduceEq,Int.reduceLT,Int.reduceBEq,Int.reduceBNe,Int.reduceNe,Nat.reduceLeDiff,Nat.reduceAdd,Nat.reduceSub,Nat.reduceLT,Nat.reduceEqDiff,Nat.reduceBEq,Int.reduceLE,Int.reduceToNat,Int.toNat_natCast];omega)):G:=h
theorem rE {G:Prop} (h:G:=by (first | exact endq (by simp only [go_sem,Int.reduceEq,Int.reduceLT,Int.reduceBEq,Int.reduceBNe,Int.reduceNe,Nat.reduceLeDiff,Nat.reduceAdd,Nat.reduceSub,Nat.reduceLT,Nat.reduceEqDiff,Nat.reduceBEq,Int.reduceLE,Int.reduceToNat];rfl) (by rfl) (Sto.Sub.refl _) | exact endn (by simp only [go_sem,Int.reduceEq,Int.reduceLT,Int.reduceBEq,Int.reduceBNe,Int.reduceNe,Nat.reduceLeDiff,Nat.reduceAdd,Nat.reduceSub,Nat.reduceLT,Nat.reduceEqDiff,Nat.reduceBEq,Int.reduceLE,Int.reduceToNat];rfl) (by rfl) (Sto.Sub.refl _))):G:=h
theorem fA {H G:Prop} (k:H) (h:H→G:=by (intro k;(simp only [List.length_cons,List.length_nil,Nat.reduceAdd,Nat.reduceSub,List.replicate_succ,List.replicate_zero,List.cons_append,List.nil_append]);exact k)):G:=h k
theorem cQ {c H G:Prop} (X:c) (k:H) (h:c→H→G:=by (intro c k;first | exact we (c:=c) (k:=k) | exact wf (c:=c) (k:=k))):G:=h X k
theorem cX {c H G:Prop} (X:c) (k:H) (h:c→H→G:=by (intro c k;exact wg (c:=c) (k:=k))):G:=h X k
theorem gG {f H G:Prop} (F:f) (k:H) (h:f→H→G:=by (intro F k;(repeat refine w1 ?_);exact k)):G:=h F k
end

end Go.Proofs.YtgjaaffheanobaaGreat