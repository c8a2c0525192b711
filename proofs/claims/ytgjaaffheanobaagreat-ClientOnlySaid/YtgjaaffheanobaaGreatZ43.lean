/- Values without addresses: scopes. -/
import Derived.Test.YtgjaaffheanobaaGreatZ19
import Derived.Scope
namespace Go.Proofs.YtgjaaffheanobaaGreat
set_option linter.unusedVariables false
set_option linter.unusedSimpArgs false
open Go Go.RowKit

def AX.noGoto (Q:AX→List D→Sto→Prop):AX→List D→Sto→Prop
 | .goto _,_,_=>False
 | e,A,S=>Q e A S
section
variable {P : Program} {B : Bg} {Q : AX → List D → Sto → Prop} {A : List D} {S : Sto}
theorem AW.scope {c:Code} (h:AW P B c (AX.noGoto Q) A S):AW P B (.scope c) Q A S:=fun a w k=>wp_scope_straight (wp_mono (h a w k) (fun e a w q=>by
 cases e with
 | normal=>exact q
 | exit id=>exact q
 | goto l=>obtain ⟨_,_,_,q⟩:=q;exact q.elim
 | ret=>exact q
 | panic ch=>exact q
 | outgrown=>exact q))
theorem ws {c:Code} (k:AW Tryz.prog B c (AX.noGoto Q) A S):AW Tryz.prog B (.scope c) Q A S:=AW.scope k
theorem wlb {l:Nat} {R:Prop} (k:R) (h:Q .normal A S=R:=by ((try dsimp only [AX.then,AX.inBlock]);try rfl)):AW Tryz.prog B (.label l) Q A S:=AW.label (h ▸ k)
end

def npA:List Oper→Nat
 | []=>0
 | o::l=>match o.op with
  | .store _ _ _=>0
  | .alloc _=>1000000
  | _=>npA l+1
section
variable {B : Bg} {Q : AX → List D → Sto → Prop} {A : List D} {S : Sto} {l : List Oper} {id : Nat}
theorem wk2 {l1 l2:List Oper} (k:ALex Tryz.prog B (AX.then (fun A S'=>AOps Tryz.prog B l.toArray Q l2 A S) Q) l.toArray S l1 A) (hs:Nat.blt (npA l) l.length=true:=by rfl) (h1:l.take (npA l)=l1:=by (simp only [npA,List.take_succ_cons,List.take_zero];try rfl)) (h2:l.drop (npA l)=l2:=by (simp only [npA,List.drop_succ_cons,List.drop_zero];try rfl))
  (hB:lexK l.toArray (npA l) (npA l) 0 (Array.replicate l.length false)=true:=by kernel_rfl) (hf:forcedB l.toArray (l.length - npA l) (npA l) (setTo (Array.replicate l.length false) (npA l) 0)=true:=by kernel_rfl):AW Tryz.prog B (.region id l.toArray true) Q A S:=
 AW.drawT prg (npA l) h1 h2 (Nat.le_of_lt (Nat.blt_eq.mp hs)) hB hf k
def noSt:List Oper→Bool
 | []=>true
 | o::l=>match o.op with
  | .store _ _ _=>false
  | .alloc _=>false
  | _=>noSt l
theorem wk5 (k:ALex Tryz.prog B Q l.toArray S l A) (hs:noSt l=true:=by rfl) (hB:Region.lexB .any l.toArray=true:=by kernel_rfl):AW Tryz.prog B (.region id l.toArray true) Q A S:=AW.draw prg hB k
theorem Wk {f H G:Prop} (F:f) (k:H) (h:f→H→G:=by (intro F k;(repeat (first | refine w1 ?_ | refine w2 ?_ | refine w3 ?_ | refine w4 ?_ | refine wk2 ?_ | refine wk5 ?_ | refine w6 ?_ | refine w7 ?_ | refine w8 ?_ | refine w9 ?_ | refine wa ?_ | refine wb ?_ | refine wc ?_ | refine wd ?_ | refine ws ?_ | refine wlb ?_));exact k)):G:=h F k
theorem Wn {f H G:Prop} (F:f) (k:H) (h:f→H→G:=by (intro F k;(repeat (first | refine w1 ?_ | refine w2 ?_ | refine w3 ?_ | refine w4 ?_ | refine w6 ?_ | refine w7 ?_ | refine w8 ?_ | refine w9 ?_ | refine wa ?_ | refine wb ?_ | refine wc ?_ | refine wd ?_ | refine ws ?_ | refine wlb ?_));exact k)):G:=h F k
end

attribute [go_sem] List.length_map Bool.or_false Bool.or_true Bool.true_or Bool.false_or

end Go.Proofs.YtgjaaffheanobaaGreat