/- Between contracts with addresses and contracts without. -/
import Derived.Test.YtgjaaffheanobaaGreatZ16
import Derived.Test.YtgjaaffheanobaaGreatZ9
namespace Go.Proofs.YtgjaaffheanobaaGreat
set_option linter.unusedVariables false
set_option linter.unusedSimpArgs false
open Go Go.RowKit

@[go_sem] def prD (p:Pr):D:=.agg [sD p.1,sD p.2]
@[go_sem] def kdD (k:Kd):D:=.agg [.v (.int .u32 (k.page:Nat)),.dg k.sum]
@[go_sem] def ndT (tp ts tk:Tag) (n:Nd):D:=.agg [.sl tp (n.pairs.map prD),.sl ts (n.seps.map sD),.sl tk (n.kids.map kdD)]
@[go_sem] def ndA (n:Nd):D:=ndT .none .none .none n
@[go_sem] def frD (p w:Int):D:=.agg [iD p,iD w]

theorem StAt.kp {w w':World} {S:Sto} (h:StAt w S) (k:Kp [] w w'):StAt w' S:=by
 have e:Evo w S.I w' S.I:=k.evo (fun _ _ _ _=>by simp) (fun _ _ _ h=>h)
 exact ⟨h.nd,fun b t d hm=>(h.mutAt b t d hm).kp k (by simp) e,fun b L hm=>by
  obtain ⟨t,cur,h1,h2⟩:=h.ownAt b L hm
  exact ⟨t,cur,k.blk h1 (by simp),h2⟩⟩
theorem Kp.evo0 {w w':World} (k:Kp [] w w') (I:Nat→Nat→Prop):Evo w I w' I:=k.evo (fun _ _ _ _=>by simp) (fun _ _ _ h=>h)

section
variable {P : Program} {f : FuncId} {ds : List D} {S : Sto}
theorem ACalls.liftq (hc:Callable P f) {d:D} (h:∀ w xs,StAt w S→RVals w S.I ds xs→Calls P f xs.toArray w (fun e w'=>∃ v,e=.returned v∧Kp [] w w'∧RVal w' S.I d v)):ACalls P f ds S (RetQ d S):=
 ⟨hc,fun w xs hS hx=>(h w xs hS hx).mono fun e w' ⟨v,he,hk,hv⟩=>by
  subst he
  exact ⟨d,S,hS.kp hk,hk.evo0 _,hv,rfl,rfl⟩⟩
def noS:Sto:=⟨[],[]⟩
theorem noS_at (w:World):StAt w noS:=⟨List.nodup_nil,fun b t d h=>by simp [noS] at h,fun b L h=>by simp [noS] at h⟩
theorem noS_I (b e:Nat):noS.I b e:=⟨by simp [noS],fun L h=>by simp [noS] at h⟩
theorem Evo.kp {w w':World} {I I':Nat→Nat→Prop} (h:Evo w I w' I') (hI:∀ b e,I b e):Kp [] w w':=⟨h.os,h.tape,h.output,h.size,fun b hb _=>h.whole b hb (hI b),h.drawn⟩
theorem ACalls.lowerq {d:D} (h:ACalls P f ds noS (RetQ d noS)) {w:World} {xs:List Value} (hx:RVals w noS.I ds xs):Calls P f xs.toArray w (fun e w'=>∃ v,e=.returned v∧Kp [] w w'∧RVal w' noS.I d v):=
 (h.2 w xs (noS_at w) hx).mono fun e w' hp=>by
  cases e with
  | returned v=>
   obtain ⟨d',S',h1,h2,h3,e1,rfl⟩:=hp
   simp only [AEnd.ret.injEq] at e1
   subst e1
   exact ⟨v,rfl,h2.kp noS_I,h3⟩
  | panicked ch=>obtain ⟨d,v,S',_,_,_,_,e1,_⟩:=hp;cases e1
  | outgrown=>exact hp.elim
end

section
variable {w : World} {I : Nat → Nat → Prop}
theorem RVal.str {s:Bs} {x:Value} (h:RVal w I (sD s) x):x=.string ⟨s.toArray⟩:=by unfold RVal at h;exact h.1
theorem RVal.int {k:IntKind} {n:Int} {x:Value} (h:RVal w I (.v (.int k n)) x):x=.int k n:=by unfold RVal at h;exact h.1
theorem RVal.bool {b:Bool} {x:Value} (h:RVal w I (bD b) x):x=.bool b:=by unfold RVal at h;exact h.1
theorem RVal.dig {d:Dg} {x:Value} (h:RVal w I (.dg d) x):x=.agg d.c:=by unfold RVal at h;exact h
theorem RVals.cons {d:D} {ds:List D} {xs:List Value} (h:RVals w I (d::ds) xs):∃ y ys,xs=y::ys∧RVal w I d y∧RVals w I ds ys:=by unfold RVals at h;exact h
theorem RVals.nil {xs:List Value} (h:RVals w I [] xs):xs=[]:=by unfold RVals at h;exact h
theorem RVal.frame {p wd:Int} {x:Value} (h:RVal w I (frD p wd) x):x=.agg #[.int .i64 p,.int .i64 wd]:=by
 unfold frD RVal at h
 obtain ⟨us,rfl,h⟩:=h
 unfold RVs at h
 obtain ⟨a,b,rfl,h1,h2⟩:=h
 unfold RVs at h2
 obtain ⟨c,d,rfl,h3,h4⟩:=h2
 unfold RV at h1 h3
 unfold RVs at h4
 rw [h1.1,h3.1,h4];rfl
theorem RVals.mk1 {d:D} {x:Value} (h:RVal w I d x):RVals w I [d] [x]:=by unfold RVals;exact ⟨x,[],rfl,h,by unfold RVals;rfl⟩
theorem RVals.mk {d:D} {ds:List D} {x:Value} {xs:List Value} (h:RVal w I d x) (k:RVals w I ds xs):RVals w I (d::ds) (x::xs):=by unfold RVals;exact ⟨x,xs,rfl,h,k⟩
theorem RVals.mk0:RVals w I [] []:=by unfold RVals;rfl
theorem RVal.mk_tup {ds:List D} {xs:List Value} (h:RVals w I ds xs):RVal w I (.tup ds) (.tuple xs.toArray):=by unfold RVal;exact ⟨xs,rfl,h⟩

theorem RVs.two {a b:D} {us:List Value} (h:RVs w I [a,b] us):∃ xs ys,us=xs++ys∧RV w I a xs∧RV w I b ys:=by
 unfold RVs at h
 obtain ⟨xs,r,rfl,h1,h2⟩:=h
 unfold RVs at h2
 obtain ⟨ys,r,rfl,h3,h4⟩:=h2
 unfold RVs at h4
 subst h4
 exact ⟨xs,ys,by simp,h1,h3⟩
theorem RVs.mk2 {a b:D} {xs ys:List Value} (h1:RV w I a xs) (h2:RV w I b ys):RVs w I [a,b] (xs++ys):=by
 unfold RVs;exact ⟨xs,ys,rfl,h1,by unfold RVs;exact ⟨ys,[],by simp,h2,by unfold RVs;rfl⟩⟩
theorem RV.list {t:Tag} {es:List D} {us:List Value} (h:RV w I (.sl t es) us):∃ a c,us=[.slice a es.length c]∧es.length≤c∧TagOk w a c es t∧∀ (i:Nat) (e:D),es[i]?=some e→∃ b o vs,a=some ⟨b,o,none⟩∧b<w.heap.size∧RV w I e vs∧CellsAt w b (o+i*e.size) vs:=by
 unfold RV at h
 obtain ⟨a,n,c,rfl,rfl,hc,ht,h⟩:=h
 refine ⟨a,c,rfl,hc,ht,fun i e hi=>?_⟩
 rcases h with ⟨_,rfl,_⟩ | ⟨_,rfl,_⟩ | ⟨b,o,rfl,hb,_,⟨z,hz⟩,hr⟩
 ·simp at hi
 ·simp at hi
 ·obtain ⟨vs,h1,h2⟩:=REs.get o es z hz hr i e hi
  exact ⟨b,o,vs,rfl,hb,h1,by rw [hz e (List.mem_of_getElem? hi)];exact h2⟩

theorem REs.mk {b:Nat}:∀ (es:List D) (o z:Nat),(∀ e∈es,e.size=z)→(∀ (i:Nat) (e:D),es[i]?=some e→∃ us,RV w I e us∧CellsAt w b (o+i*z) us)→REs w I b o es
 | [],_,_,_,_=>by unfold REs;trivial
 | d::ds,o,z,hz,h=>by
  unfold REs
  obtain ⟨us,h1,h2⟩:=h 0 d rfl
  refine ⟨us,h1,by simpa using h2,?_⟩
  rw [hz d List.mem_cons_self]
  refine REs.mk ds (o+z) z (fun e he=>hz e (List.mem_cons_of_mem _ he)) (fun i e hi=>?_)
  obtain ⟨vs,h3,h4⟩:=h (i+1) e (by simpa using hi)
  exact ⟨vs,h3,by rw [show o+z+i*z=o+(i+1)*z by rw [Nat.add_mul];omega];exact h4⟩
theorem RV.mk_list {es:List D} {a:Option Addr} {c z:Nat} (hz:∀ e∈es,e.size=z) (hc:es.length≤c) (h0:a=none→es=[]∧c=0) (hsp:∀ x,a=some x→x.spot=none∧x.block<w.heap.size∧I x.block (x.off+es.length*z))
  (h:∀ (i:Nat) (e:D),es[i]?=some e→∃ b o us,a=some ⟨b,o,none⟩∧RV w I e us∧CellsAt w b (o+i*z) us):RV w I (.sl .none es) [.slice a es.length c]:=by
 unfold RV
 refine ⟨a,_,c,rfl,rfl,hc,trivial,?_⟩
 cases a with
 | none=>obtain ⟨h1,h2⟩:=h0 rfl;exact .inl ⟨rfl,h1,h2⟩
 | some x=>
  obtain ⟨b,o,sp⟩:=x
  obtain ⟨h1,h2,h3⟩:=hsp _ rfl
  simp only at h1 h2 h3
  subst h1
  refine .inr <| .inr ⟨b,o,rfl,h2,by rw [sizes_const es z hz];exact h3,⟨z,hz⟩,REs.mk es o z hz (fun i e hi=>?_)⟩
  obtain ⟨b',o',us,ha,hr,hcl⟩:=h i e hi
  simp only [Option.some.injEq,Addr.mk.injEq,and_true] at ha
  obtain ⟨rfl,rfl⟩:=ha
  exact ⟨us,hr,hcl⟩
end

end Go.Proofs.YtgjaaffheanobaaGreat