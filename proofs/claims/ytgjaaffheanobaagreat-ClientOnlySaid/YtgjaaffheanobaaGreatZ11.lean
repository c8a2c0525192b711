/- Values without addresses: what a value stands for, whatever lies where in memory. -/
import Derived.Test.YtgjaaffheanobaaGreatZ2
namespace Go.Proofs.YtgjaaffheanobaaGreat
set_option linter.unusedVariables false
set_option linter.unusedSimpArgs false
open Go Go.RowKit

inductive Tag where
 | none
 | nil
 | full
 | own (b:Nat) (t:TypeId) (z:Nat)

inductive D where
 | v (x:Value)
 | dg (d:Dg)
 | agg (ds:List D)
 | sl (t:Tag) (es:List D)
 | pt (d:D)
 | fn (f:FuncId) (cs:List D)
 | tup (ds:List D)
 | any
instance:Inhabited D:=⟨.any⟩

mutual
def D.size:D→Nat
 | .v _=>1
 | .dg _=>32
 | .agg ds=>D.sizes ds
 | .sl _ _=>1
 | .pt _=>1
 | .fn _ _=>1
 | .tup _=>0
 | .any=>0
def D.sizes:List D→Nat
 | []=>0
 | d::ds=>d.size+D.sizes ds
end

def CellsAt (w:World) (b o:Nat) (us:List Value):Prop:=∀ j v,us[j]?=some v→w.cell? ⟨b,o+j,none⟩=some v

def TagOk (w:World) (a:Option Addr) (c:Nat) (es:List D):Tag→Prop
 | .none=>True
 | .nil=>a=none
 | .full=>c=es.length
 | .own b t z=>a=some ⟨b,0,Option.none⟩∧(∃ cur,w.heap[b]?=some (.cells cur t (0,0))∧cur.size=c*z)∧c≤maxLen∧∀ e∈es,e.size=z

def D.isAgg:D→Bool
 | .agg _=>true
 | .dg _=>true
 | _=>false

mutual
def RV (w:World) (I:Nat→Nat→Prop):D→List Value→Prop
 | .v x,us=>us=[x]∧x.oneCell'=true
 | .dg d,us=>us=bC d.l
 | .agg ds,us=>RVs w I ds us
 | .sl t es,us=>∃ a n c,us=[.slice a n c]∧n=es.length∧n≤c∧TagOk w a c es t ∧
   ((a=Option.none∧es=[]∧c=0)∨((t=.none∨t=.full)∧es=[]∧a≠Option.none)∨∃ b o,a=some ⟨b,o,Option.none⟩∧b<w.heap.size∧I b (o+D.sizes es)∧(∃ z,∀ e∈es,e.size=z)∧REs w I b o es)
 | .pt d,us=>∃ b o ys,us=[.pointer (some ⟨b,o,Option.none⟩)]∧b<w.heap.size∧I b (o+d.size)∧RV w I d ys∧CellsAt w b o ys
 | .fn f cs,us=>∃ xs:List Value,us=[.func (.func f) #[] xs.toArray]∧RCs w I cs xs
 | .tup _,_=>False
 | .any,_=>False
def RCs (w:World) (I:Nat→Nat→Prop):List D→List Value→Prop
 | [],xs=>xs=[]
 | d::ds,xs=>∃ y ys,xs=y::ys∧d.isAgg=false∧RV w I d [y]∧RCs w I ds ys
def RVs (w:World) (I:Nat→Nat→Prop):List D→List Value→Prop
 | [],us=>us=[]
 | d::ds,us=>∃ xs ys,us=xs++ys∧RV w I d xs∧RVs w I ds ys
def REs (w:World) (I:Nat→Nat→Prop) (b:Nat):Nat→List D→Prop
 | _,[]=>True
 | o,e::es=>∃ us,RV w I e us∧CellsAt w b o us∧REs w I b (o+e.size) es
end

mutual
theorem RV.len {w:World} {I:Nat→Nat→Prop}:∀ (d:D) (us:List Value),RV w I d us→us.length=d.size
 | .v x,us,h=>by unfold RV at h;rw [h.1];rfl
 | .dg d,us,h=>by unfold RV at h;rw [h,bC_length,d.h];rfl
 | .agg ds,us,h=>by unfold RV at h;unfold D.size;exact RVs.len ds us h
 | .sl t es,us,h=>by unfold RV at h;obtain ⟨a,n,c,rfl,_⟩:=h;rfl
 | .pt d,us,h=>by unfold RV at h;obtain ⟨b,o,ys,rfl,_⟩:=h;rfl
 | .fn f cs,us,h=>by unfold RV at h;obtain ⟨xs,rfl,_⟩:=h;rfl
 | .tup _,us,h=>by unfold RV at h;exact h.elim
 | .any,us,h=>by unfold RV at h;exact h.elim
theorem RVs.len {w:World} {I:Nat→Nat→Prop}:∀ (ds:List D) (us:List Value),RVs w I ds us→us.length=D.sizes ds
 | [],us,h=>by unfold RVs at h;rw [h];rfl
 | d::ds,us,h=>by
  unfold RVs at h
  obtain ⟨xs,ys,rfl,h1,h2⟩:=h
  rw [List.length_append,RV.len d xs h1,RVs.len ds ys h2];rfl
end

structure Evo (w:World) (I:Nat→Nat→Prop) (w':World) (I':Nat→Nat→Prop):Prop where
 os:w'.os=w.os
 tape:w'.tape=w.tape
 output:w'.output=w.output
 size:w.heap.size≤w'.heap.size
 drawn:w.drawn≤w'.drawn
 imm:∀ b e,b<w.heap.size→I b e→I' b e
 cell:∀ b e,b<w.heap.size→I b e→∀ o,o<e→w'.cell? ⟨b,o,none⟩=w.cell? ⟨b,o,none⟩
 shape:∀ b e,b<w.heap.size→I b e→∀ cur t f,w.heap[b]?=some (.cells cur t f)→∃ cur',w'.heap[b]?=some (.cells cur' t f)∧cur'.size=cur.size
 whole:∀ b,b<w.heap.size→(∀ e,I b e)→w'.heap[b]?=w.heap[b]?

theorem Evo.refl (w:World) (I:Nat→Nat→Prop):Evo w I w I:=
 ⟨rfl,rfl,rfl,Nat.le_refl _,Nat.le_refl _,fun _ _ _ h=>h,fun _ _ _ _ _ _=>rfl,fun _ _ _ _ cur _ _ h=>⟨cur,h,rfl⟩,fun _ _ _=>rfl⟩
theorem Evo.trans {w w1 w2:World} {I I1 I2:Nat→Nat→Prop} (h:Evo w I w1 I1) (k:Evo w1 I1 w2 I2):Evo w I w2 I2:=
 ⟨k.os.trans h.os,k.tape.trans h.tape,k.output.trans h.output,Nat.le_trans h.size k.size,Nat.le_trans h.drawn k.drawn,
  fun b e hb hi=>k.imm b e (Nat.lt_of_lt_of_le hb h.size) (h.imm b e hb hi),
  fun b e hb hi o ho=>(k.cell b e (Nat.lt_of_lt_of_le hb h.size) (h.imm b e hb hi) o ho).trans (h.cell b e hb hi o ho),
  fun b e hb hi cur t f hc=>by
   obtain ⟨c1,h1,s1⟩:=h.shape b e hb hi cur t f hc
   obtain ⟨c2,h2,s2⟩:=k.shape b e (Nat.lt_of_lt_of_le hb h.size) (h.imm b e hb hi) c1 t f h1
   exact ⟨c2,h2,s2.trans s1⟩,
  fun b hb hi=>(k.whole b (Nat.lt_of_lt_of_le hb h.size) (fun e=>h.imm b e hb (hi e))).trans (h.whole b hb hi)⟩
theorem Evo.mono {w w':World} {I I1 I':Nat→Nat→Prop} (h:Evo w I w' I1) (hi:∀ b e,b<w.heap.size→I1 b e→I' b e):Evo w I w' I':=
 ⟨h.os,h.tape,h.output,h.size,h.drawn,fun b e hb x=>hi b e hb (h.imm b e hb x),h.cell,h.shape,h.whole⟩
theorem Kp.evo {S:List Nat} {w w':World} {I I':Nat→Nat→Prop} (k:Kp S w w') (hS:∀ b e,b<w.heap.size→I b e→b ∉ S) (hI:∀ b e,b<w.heap.size→I b e→I' b e):Evo w I w' I':=
 ⟨k.os,k.tape,k.output,k.size,k.drawn,hI,fun b e hb hi o _=>World.cell?_of_block (k.block b hb (hS b e hb hi)),
  fun b e hb hi cur t f hc=>⟨cur,(k.block b hb (hS b e hb hi)).trans hc,rfl⟩,fun b hb hi=>k.block b hb (hS b 0 hb (hi 0))⟩

theorem CellsAt.evo {w w':World} {I I':Nat→Nat→Prop} (h:Evo w I w' I') {b o e:Nat} {us:List Value} (hc:CellsAt w b o us) (hb:b<w.heap.size) (hi:I b e) (he:o+us.length≤e):CellsAt w' b o us:=by
 intro j v hj
 have hlt:j<us.length:=(List.getElem?_eq_some_iff.1 hj).1
 rw [h.cell b e hb hi (o+j) (by omega)]
 exact hc j v hj

theorem TagOk.evo {w w':World} {I I':Nat→Nat→Prop} (h:Evo w I w' I') {a:Option Addr} {c:Nat} {es:List D} {t:Tag} (ht:TagOk w a c es t) (ha:∀ b o,a=some ⟨b,o,none⟩→b<w.heap.size∧∃ e,I b e):TagOk w' a c es t:=by
 cases t with
 | none=>trivial
 | nil=>exact ht
 | full=>exact ht
 | own b t z=>
  obtain ⟨h1,⟨cur,h2,h3⟩,h4,h5⟩:=ht
  obtain ⟨hb,e,hi⟩:=ha b 0 h1
  obtain ⟨c1,h6,h7⟩:=h.shape b e hb hi cur t _ h2
  exact ⟨h1,⟨c1,h6,h7.trans h3⟩,h4,h5⟩

mutual
theorem RV.evo {w w':World} {I I':Nat→Nat→Prop} (h:Evo w I w' I'):∀ (d:D) (us:List Value),RV w I d us→RV w' I' d us
 | .v x,us,k=>by unfold RV at *;exact k
 | .dg d,us,k=>by unfold RV at *;exact k
 | .agg ds,us,k=>by unfold RV at *;exact RVs.evo h ds us k
 | .sl t es,us,k=>by
  unfold RV at *
  obtain ⟨a,n,c,rfl,h1,h2,h3,h4⟩:=k
  refine ⟨a,n,c,rfl,h1,h2,?_,?_⟩
  ·rcases h4 with ⟨rfl,h5,h6⟩ | ⟨h5,_⟩ | h4
   ·exact h3.evo h (fun b o ha=>by cases ha)
   ·rcases h5 with rfl | rfl
    ·trivial
    ·exact h3
   refine h3.evo h (fun b o ha=>?_)
   obtain ⟨b',o',rfl,hb,hi,_⟩:=h4
   simp only [Option.some.injEq,Addr.mk.injEq,and_true] at ha
   obtain ⟨rfl,rfl⟩:=ha
   exact ⟨hb,_,hi⟩
  ·rcases h4 with h4 | h4 | ⟨b',o',rfl,hb,hi,hz,hr⟩
   ·exact .inl h4
   ·exact .inr (.inl h4)
   ·exact .inr <| .inr ⟨b',o',rfl,Nat.lt_of_lt_of_le hb h.size,h.imm _ _ hb hi,hz,REs.evo h b' (o'+D.sizes es) hb hi o' es (Nat.le_refl _) hr⟩
 | .pt d,us,k=>by
  unfold RV at *
  obtain ⟨b,o,ys,rfl,hb,hi,hd,hc⟩:=k
  exact ⟨b,o,ys,rfl,Nat.lt_of_lt_of_le hb h.size,h.imm _ _ hb hi,RV.evo h d ys hd,hc.evo h hb hi (by rw [RV.len d ys hd];exact Nat.le_refl _)⟩
 | .fn f cs,us,k=>by
  unfold RV at *
  obtain ⟨xs,rfl,k⟩:=k
  exact ⟨xs,rfl,RCs.evo h cs xs k⟩
 | .tup _,us,k=>by unfold RV at k;exact k.elim
 | .any,us,k=>by unfold RV at k;exact k.elim
theorem RCs.evo {w w':World} {I I':Nat→Nat→Prop} (h:Evo w I w' I'):∀ (ds:List D) (us:List Value),RCs w I ds us→RCs w' I' ds us
 | [],us,k=>by unfold RCs at *;exact k
 | d::ds,us,k=>by
  unfold RCs at *
  obtain ⟨y,ys,rfl,h0,h1,h2⟩:=k
  exact ⟨y,ys,rfl,h0,RV.evo h d _ h1,RCs.evo h ds ys h2⟩
theorem RVs.evo {w w':World} {I I':Nat→Nat→Prop} (h:Evo w I w' I'):∀ (ds:List D) (us:List Value),RVs w I ds us→RVs w' I' ds us
 | [],us,k=>by unfold RVs at *;exact k
 | d::ds,us,k=>by
  unfold RVs at *
  obtain ⟨xs,ys,rfl,h1,h2⟩:=k
  exact ⟨xs,ys,rfl,RV.evo h d xs h1,RVs.evo h ds ys h2⟩
theorem REs.evo {w w':World} {I I':Nat→Nat→Prop} (h:Evo w I w' I') (b e:Nat) (hb:b<w.heap.size) (hi:I b e):∀ (o:Nat) (es:List D),o+D.sizes es≤e→REs w I b o es→REs w' I' b o es
 | _,[],_,_=>by unfold REs;trivial
 | o,d::ds,he,k=>by
  unfold REs at *
  obtain ⟨us,h1,h2,h3⟩:=k
  unfold D.sizes at he
  exact ⟨us,RV.evo h d us h1,h2.evo h hb hi (by rw [RV.len d us h1];omega),REs.evo h b e hb hi (o+d.size) ds (by omega) h3⟩
end

mutual
def RVal (w:World) (I:Nat→Nat→Prop):D→Value→Prop
 | .agg ds,x=>∃ us:List Value,x=.agg us.toArray∧RVs w I ds us
 | .dg d,x=>x=.agg d.c
 | .tup ds,x=>∃ xs:List Value,x=.tuple xs.toArray∧RVals w I ds xs
 | .any,_=>True
 | .v y,x=>x=y∧y.oneCell'=true
 | .sl t es,x=>RV w I (.sl t es) [x]
 | .pt d,x=>RV w I (.pt d) [x]
 | .fn f cs,x=>RV w I (.fn f cs) [x]
def RVals (w:World) (I:Nat→Nat→Prop):List D→List Value→Prop
 | [],xs=>xs=[]
 | d::ds,xs=>∃ y ys,xs=y::ys∧RVal w I d y∧RVals w I ds ys
end

mutual
theorem RVal.evo {w w':World} {I I':Nat→Nat→Prop} (h:Evo w I w' I'):∀ (d:D) (x:Value),RVal w I d x→RVal w' I' d x
 | .agg ds,x,k=>by unfold RVal at *;obtain ⟨us,rfl,k⟩:=k;exact ⟨us,rfl,k.evo h ds us⟩
 | .dg d,x,k=>by unfold RVal at *;exact k
 | .tup ds,x,k=>by unfold RVal at *;obtain ⟨xs,rfl,k⟩:=k;exact ⟨xs,rfl,RVals.evo h ds xs k⟩
 | .any,x,k=>by unfold RVal;trivial
 | .v y,x,k=>by unfold RVal at *;exact k
 | .sl t es,x,k=>by unfold RVal at *;exact k.evo h _ _
 | .pt d,x,k=>by unfold RVal at *;exact k.evo h _ _
 | .fn f cs,x,k=>by unfold RVal at *;exact k.evo h _ _
theorem RVals.evo {w w':World} {I I':Nat→Nat→Prop} (h:Evo w I w' I'):∀ (ds:List D) (xs:List Value),RVals w I ds xs→RVals w' I' ds xs
 | [],xs,k=>by unfold RVals at *;exact k
 | d::ds,xs,k=>by unfold RVals at *;obtain ⟨y,ys,rfl,h1,h2⟩:=k;exact ⟨y,ys,rfl,RVal.evo h d y h1,RVals.evo h ds ys h2⟩
end

def D.front:D→D×Nat
 | .tup [d,.v (.int .i64 k)]=>(d,k.toNat)
 | d=>(d,0)
def RVT (w:World) (I:Nat→Nat→Prop) (d:D) (us:List Value):Prop:=∃ xs ys,us=xs++ys∧RV w I d.front.1 xs∧ys.length=d.front.2
theorem D.front_plain {d:D} (h:∀ l,d≠.tup l):d.front=(d,0):=by
 cases d <;> first | rfl | exact absurd rfl (h _)
theorem RVT.of {w:World} {I:Nat→Nat→Prop} {d:D} {us:List Value} (h:RV w I d us):RVT w I d us:=by
 have hd:d.front=(d,0):=D.front_plain (fun l e=>by subst e;unfold RV at h;exact h)
 exact ⟨us,[],by simp,by rw [hd];exact h,by rw [hd];rfl⟩
theorem RVT.plain {w:World} {I:Nat→Nat→Prop} {d:D} {us:List Value} (h:RVT w I d us) (hd:∀ l,d≠.tup l):RV w I d us:=by
 obtain ⟨xs,ys,rfl,h1,h2⟩:=h
 rw [D.front_plain hd] at h1 h2
 have:ys=[]:=List.eq_nil_of_length_eq_zero h2
 subst this
 simpa using h1
theorem RVT.evo {w w':World} {I I':Nat→Nat→Prop} (h:Evo w I w' I'):∀ (d:D) (us:List Value),RVT w I d us→RVT w' I' d us:=fun d us ⟨xs,ys,e,h1,h2⟩=>⟨xs,ys,e,RV.evo h _ _ h1,h2⟩

def D.lies:D→Bool
 | .tup _=>false
 | .any=>false
 | _=>true

theorem RVal.cells {w:World} {I:Nat→Nat→Prop} {d:D} {x:Value} (h:RVal w I d x) (hl:d.lies=true):RV w I d x.cells.toList:=by
 cases d with
 | v y=>unfold RVal at h;obtain ⟨rfl,h1⟩:=h;unfold RV;cases x <;> simp_all [Value.cells,Value.oneCell']
 | dg d=>unfold RVal at h;subst h;unfold RV;simp [Value.cells,Dg.c]
 | agg ds=>unfold RVal at h;obtain ⟨us,rfl,h1⟩:=h;unfold RV;simpa [Value.cells] using h1
 | sl t es=>
  unfold RVal at h
  have h0:=h
  unfold RV at h0;obtain ⟨a,n,c,e,_⟩:=h0;simp only [List.cons.injEq,and_true] at e;subst e;exact h
 | pt d=>
  unfold RVal at h
  have h0:=h
  unfold RV at h0;obtain ⟨b,o,ys,e,_⟩:=h0;simp only [List.cons.injEq,and_true] at e;subst e;exact h
 | fn f cs=>
  unfold RVal at h
  have h0:=h
  unfold RV at h0;obtain ⟨xs,e,_⟩:=h0;simp only [List.cons.injEq,and_true] at e;subst e;exact h
 | tup ds=>cases hl
 | any=>cases hl

def ofCells (g:Bool) (us:List Value):Value:=if g then .agg us.toArray else us.headD undef
theorem RV.loaded {w:World} {I:Nat→Nat→Prop} {d:D} {us:List Value} (h:RV w I d us):RVal w I d (ofCells d.isAgg us):=by
 cases d with
 | v y=>unfold RV at h;obtain ⟨rfl,h1⟩:=h;unfold RVal;exact ⟨rfl,h1⟩
 | dg d=>unfold RV at h;subst h;unfold RVal;rfl
 | agg ds=>unfold RV at h;unfold RVal;exact ⟨us,rfl,h⟩
 | sl t es=>have h0:=h;unfold RV at h0;obtain ⟨a,n,c,rfl,_⟩:=h0;unfold RVal;exact h
 | pt d=>have h0:=h;unfold RV at h0;obtain ⟨b,o,ys,rfl,_⟩:=h0;unfold RVal;exact h
 | fn f cs=>have h0:=h;unfold RV at h0;obtain ⟨xs,rfl,_⟩:=h0;unfold RVal;exact h
 | tup ds=>unfold RV at h;exact h.elim
 | any=>unfold RV at h;exact h.elim

theorem RCs.vals {w:World} {I:Nat→Nat→Prop}:∀ {ds:List D} {xs:List Value},RCs w I ds xs→RVals w I ds xs
 | [],xs,h=>by unfold RCs at h;unfold RVals;exact h
 | d::ds,xs,h=>by
  unfold RCs at h
  obtain ⟨y,ys,rfl,h0,h1,h2⟩:=h
  have:=h1.loaded
  rw [h0] at this
  unfold RVals
  exact ⟨y,ys,rfl,this,RCs.vals h2⟩
theorem RCs.one {w:World} {I:Nat→Nat→Prop} {d:D} {x:Value} (h:RVal w I d x) (ha:d.isAgg=false) (hl:d.lies=true):RV w I d [x]:=by
 cases d with
 | v y=>unfold RVal at h;unfold RV;exact ⟨by rw [h.1],h.2⟩
 | dg d=>cases ha
 | agg ds=>cases ha
 | sl t es=>unfold RVal at h;exact h
 | pt d=>unfold RVal at h;exact h
 | fn f cs=>unfold RVal at h;exact h
 | tup ds=>cases hl
 | any=>cases hl


structure Sto where
 bk:List (Nat×TypeId×D)
 ow:List (Nat×Nat)

def Sto.I (S:Sto) (b e:Nat):Prop:=b ∉ S.bk.map (·.1)∧∀ L,(b,L)∈S.ow→e≤L

def mapD (ks vs:List D):D:=.tup [.any,.tup ks,.tup vs]
def D.mapOf:D→Option (List D×List D)
 | .tup [.any,.tup ks,.tup vs]=>some (ks,vs)
 | _=>Option.none
def MutOk (w:World) (I:Nat→Nat→Prop) (b:Nat) (t:TypeId) (d:D):Prop:=
 match d.mapOf with
 | some p=>∃ (es:Array MapEntry) (n:Nat),w.heap[b]?=some (.map es n)∧RVals w I p.1 (es.toList.map (·.key))∧RVals w I p.2 (es.toList.map (·.val))
 | Option.none=>∃ us:List Value,Blk w b t us.toArray∧RVT w I d us
theorem mapOf_ne {d:D} (h:∀ l,d≠.tup l):d.mapOf=Option.none:=by
 unfold D.mapOf
 split
 ·exact absurd rfl (h _)
 ·rfl
theorem mapOf_tup {d:D} {p:List D×List D} (h:d.mapOf=some p):d=mapD p.1 p.2:=by
 unfold D.mapOf at h
 split at h
 ·simp only [Option.some.injEq] at h;subst h;rfl
 ·cases h
theorem MutOk.blk {w:World} {I:Nat→Nat→Prop} {b:Nat} {t:TypeId} {d:D} (h:MutOk w I b t d) (hd:d.mapOf=Option.none):∃ us:List Value,Blk w b t us.toArray∧RVT w I d us:=by
 unfold MutOk at h;rw [hd] at h;exact h
theorem MutOk.of {w:World} {I:Nat→Nat→Prop} {b:Nat} {t:TypeId} {d:D} {us:List Value} (h:Blk w b t us.toArray) (k:RVT w I d us):MutOk w I b t d:=by
 unfold MutOk
 cases hd:d.mapOf with
 | none=>exact ⟨us,h,k⟩
 | some p=>
  have:=mapOf_tup hd
  subst this
  obtain ⟨xs,ys,_,h1,_⟩:=k
  have e:(mapD p.1 p.2).front=(mapD p.1 p.2,0):=rfl
  rw [e] at h1
  unfold mapD RV at h1
  exact h1.elim
theorem MutOk.same {w w':World} {I I':Nat→Nat→Prop} {b:Nat} {t:TypeId} {d:D} (h:MutOk w I b t d) (hh:w'.heap[b]?=w.heap[b]?) (e:Evo w I w' I'):MutOk w' I' b t d:=by
 unfold MutOk at *
 split at h
 ·obtain ⟨es,n,h1,h2,h3⟩:=h
  exact ⟨es,n,hh.trans h1,h2.evo e _ _,h3.evo e _ _⟩
 ·obtain ⟨us,h1,h2⟩:=h
  exact ⟨us,hh.trans h1,h2.evo e _ _⟩
theorem MutOk.lt {w:World} {I:Nat→Nat→Prop} {b:Nat} {t:TypeId} {d:D} (h:MutOk w I b t d):b<w.heap.size:=by
 unfold MutOk at h
 split at h
 ·obtain ⟨es,n,h1,_⟩:=h
  exact (Array.getElem?_eq_some_iff.1 h1).1
 ·obtain ⟨us,h1,_⟩:=h
  exact h1.lt
theorem MutOk.kp {B:List Nat} {w w':World} {I I':Nat→Nat→Prop} {b:Nat} {t:TypeId} {d:D} (h:MutOk w I b t d) (k:Kp B w w') (hb:b ∉ B) (e:Evo w I w' I'):MutOk w' I' b t d:=
 h.same (k.block b h.lt hb) e
theorem MutOk.alloc {w:World} {I I':Nat→Nat→Prop} {b:Nat} {t:TypeId} {d:D} (h:MutOk w I b t d) (o:Obj) (e:Evo w I (w.alloc o) I'):MutOk (w.alloc o) I' b t d:=
 h.same (by have:=Array.getElem?_eq_getElem h.lt;exact (Below.heap_alloc _ _ _ h.lt)) e
structure StAt (w:World) (S:Sto):Prop where
 nd:(S.bk.map (·.1)++S.ow.map (·.1)).Nodup
 mutAt:∀ b t d,(b,t,d)∈S.bk→MutOk w S.I b t d
 ownAt:∀ b L,(b,L)∈S.ow→∃ t cur,w.heap[b]?=some (.cells cur t (0,0))∧L≤cur.size

structure Sto.Sub (S' S:Sto):Prop where
 m:List.Sublist S'.bk S.bk
 o:List.Sublist S'.ow S.ow
theorem Sto.Sub.refl (S:Sto):S.Sub S:=⟨List.Sublist.refl _,List.Sublist.refl _⟩
theorem Sto.Sub.I {S' S:Sto} (h:S'.Sub S) {b e:Nat} (hi:S.I b e):S'.I b e:=
 ⟨fun hm=>hi.1 ((h.m.map (·.1)).subset hm),fun L hL=>hi.2 L (h.o.subset hL)⟩
theorem Evo.imp {w:World} {I I':Nat→Nat→Prop} (h:∀ b e,I b e→I' b e):Evo w I w I':=(Evo.refl w I).mono (fun b e _=>h b e)
theorem StAt.sub {w:World} {S S':Sto} (h:StAt w S) (s:S'.Sub S):StAt w S':=
 ⟨((s.m.map _).append (s.o.map _)).nodup h.nd,fun b t d hm=>by
  exact (h.mutAt b t d (s.m.subset hm)).same rfl (Evo.imp (fun _ _=>s.I)),fun b L hm=>h.ownAt b L (s.o.subset hm)⟩

def getM:List (Nat×TypeId×D)→Nat→Option (TypeId×D)
 | [],_=>none
 | (b',t,d)::l,b=>if b=b' then some (t,d) else getM l b
def setM:List (Nat×TypeId×D)→Nat→D→List (Nat×TypeId×D)
 | [],_,_=>[]
 | (b',t,d)::l,b,x=>if b=b' then (b',t,x)::l else (b',t,d)::setM l b x
theorem getM_mem:∀ {l:List (Nat×TypeId×D)} {b:Nat} {t:TypeId} {d:D},getM l b=some (t,d)→(b,t,d)∈l
 | (b',t',d')::l,b,t,d,h=>by
  unfold getM at h
  split at h
  ·rename_i e;simp only [Option.some.injEq,Prod.mk.injEq] at h;obtain ⟨rfl,rfl⟩:=h;subst e;exact List.mem_cons_self
  ·exact List.mem_cons_of_mem _ (getM_mem h)
theorem setM_keys:∀ (l:List (Nat×TypeId×D)) (b:Nat) (x:D),(setM l b x).map (·.1)=l.map (·.1)
 | [],_,_=>rfl
 | (b',t,d)::l,b,x=>by unfold setM;split <;> simp [setM_keys l b x]
theorem setM_mem:∀ {l:List (Nat×TypeId×D)} {b:Nat} {x:D} {t0:TypeId} {d0:D},(l.map (·.1)).Nodup→getM l b=some (t0,d0)→∀ {c:Nat} {t:TypeId} {d:D},(c,t,d)∈setM l b x→(c=b∧t=t0∧d=x)∨(c≠b∧(c,t,d)∈l)
 | (b',t',d')::l,b,x,t0,d0,hn,hg,c,t,d,h=>by
  simp only [List.map_cons,List.nodup_cons] at hn
  unfold getM at hg
  unfold setM at h
  split at h
  ·rename_i e
   rw [if_pos e] at hg
   simp only [Option.some.injEq,Prod.mk.injEq] at hg
   obtain ⟨rfl,rfl⟩:=hg
   subst e
   rcases List.mem_cons.1 h with h | h
   ·simp only [Prod.mk.injEq] at h;obtain ⟨rfl,rfl,rfl⟩:=h;exact .inl ⟨rfl,rfl,rfl⟩
   ·exact .inr ⟨fun e=>hn.1 (List.mem_map.2 ⟨_,h,e⟩),List.mem_cons_of_mem _ h⟩
  ·rename_i e
   rw [if_neg e] at hg
   rcases List.mem_cons.1 h with h | h
   ·simp only [Prod.mk.injEq] at h;obtain ⟨rfl,rfl,rfl⟩:=h;exact .inr ⟨fun e'=>e e'.symm,List.mem_cons_self⟩
   ·rcases setM_mem hn.2 hg h with h | ⟨h1,h2⟩
    ·exact .inl h
    ·exact .inr ⟨h1,List.mem_cons_of_mem _ h2⟩

mutual
def subD:D→Nat→Nat→Bool→Option D
 | .agg ds,o,n,g=>if o=0∧D.sizes ds=n∧g=true then some (.agg ds) else subDs ds o n g
 | .dg d,o,n,g=>if o=0∧n=32∧g=true then some (.dg d) else if n=1∧g=false then (d.l[o]?).map (fun b=>.v (.int .u8 b.toNat)) else none
 | .tup _,_,_,_=>none
 | d,o,n,g=>if o=0∧d.size=n∧d.isAgg=g then some d else none
def subDs:List D→Nat→Nat→Bool→Option D
 | [],_,_,_=>none
 | d::ds,o,n,g=>if o<d.size then subD d o n g else subDs ds (o - d.size) n g
end
def Dg.setB (d:Dg) (o k:Nat):Dg:=⟨d.l.set o (UInt8.ofNat k),by simp [d.h]⟩
mutual
def putD:D→Nat→D→Option D
 | .agg ds,o,x=>if o=0∧D.sizes ds=x.size∧x.isAgg=true then some x else (putDs ds o x).map .agg
 | .dg d,o,x=>if o=0∧x.size=32∧x.isAgg=true then some x else
  match x with
  | .v (.int .u8 n)=>if o<32∧0≤n∧n<256 then some (.dg (d.setB o n.toNat)) else none
  | _=>none
 | .tup _,_,_=>none
 | d,o,x=>if o=0∧d.size=x.size∧d.isAgg=x.isAgg then some x else none
def putDs:List D→Nat→D→Option (List D)
 | [],_,_=>none
 | d::ds,o,x=>if o<d.size then (putD d o x).map (·::ds) else (putDs ds (o - d.size) x).map (d::·)
end

section
variable {w : World} {I : Nat → Nat → Prop}
theorem subD_leaf {d:D} (hl:∀ ds,d≠.agg ds) (hg:∀ x,d≠.dg x) {o n:Nat} {g:Bool} {e:D} (h:subD d o n g=some e):o=0∧d.size=n∧d.isAgg=g∧d=e:=by
 cases d <;> first | exact absurd rfl (hl _) | exact absurd rfl (hg _) | (unfold subD at h;cases h;done) | (unfold subD at h;split at h;(rename_i h1;simp only [Option.some.injEq] at h;exact ⟨h1.1,h1.2.1,h1.2.2,h⟩);cases h)
theorem putD_leaf {d:D} (hl:∀ ds,d≠.agg ds) (hg:∀ x,d≠.dg x) {o:Nat} {x e:D} (h:putD d o x=some e):o=0∧d.size=x.size∧d.isAgg=x.isAgg∧x=e:=by
 cases d <;> first | exact absurd rfl (hl _) | exact absurd rfl (hg _) | (unfold putD at h;cases h;done) | (unfold putD at h;split at h;(rename_i h1;simp only [Option.some.injEq] at h;exact ⟨h1.1,h1.2.1,h1.2.2,h⟩);cases h)
theorem subD_tup {d e:D} {o n:Nat} {g:Bool} (h:subD d o n g=some e):∀ l,d≠.tup l:=fun l hd=>by subst hd;unfold subD at h;cases h
theorem putD_tup {d x e:D} {o:Nat} (h:putD d o x=some e):∀ l,d≠.tup l:=fun l hd=>by subst hd;unfold putD at h;cases h
mutual
theorem subD_ok:∀ (d:D) (us:List Value) (o n:Nat) (g:Bool) (e:D),RV w I d us→subD d o n g=some e→∃ xs ys zs,us=xs++ys++zs∧xs.length=o∧RV w I e ys∧e.size=n∧e.isAgg=g
 | .agg ds,us,o,n,g,e,h,hs=>by
  unfold subD at hs
  split at hs
  ·rename_i h1
   obtain ⟨rfl,h2,rfl⟩:=h1
   simp only [Option.some.injEq] at hs
   subst hs
   exact ⟨[],us,[],by simp,rfl,h,h2,rfl⟩
  ·unfold RV at h
   exact subDs_ok ds us o n g e h hs
 | .v x,us,o,n,g,e,h,hs=>by obtain ⟨rfl,h2,h3,rfl⟩:=subD_leaf (by simp) (by simp) hs;exact ⟨[],us,[],by simp,rfl,h,h2,h3⟩
 | .dg x,us,o,n,g,e,h,hs=>by
  unfold subD at hs
  split at hs
  ·rename_i h1
   obtain ⟨rfl,rfl,rfl⟩:=h1
   simp only [Option.some.injEq] at hs
   subst hs
   exact ⟨[],us,[],by simp,rfl,h,rfl,rfl⟩
  ·split at hs
   ·rename_i h1
    obtain ⟨rfl,rfl⟩:=h1
    obtain ⟨u,hu,rfl⟩:=Option.map_eq_some_iff.1 hs
    unfold RV at h
    subst h
    have hlt:o<x.l.length:=(List.getElem?_eq_some_iff.1 hu).1
    refine ⟨bC (x.l.take o),[.int .u8 u.toNat],bC (x.l.drop (o+1)),?_,by rw [bC_length,List.length_take];omega,by unfold RV;exact ⟨rfl,rfl⟩,rfl,rfl⟩
    have e1:x.l=x.l.take o++[u]++x.l.drop (o+1):=by
     rw [List.append_assoc,List.singleton_append,← (List.getElem?_eq_some_iff.1 hu).2,List.getElem_cons_drop,List.take_append_drop]
    have e2:=congrArg bC e1
    rw [bC_app,bC_app] at e2
    exact e2
   ·cases hs
 | .sl _ x,us,o,n,g,e,h,hs=>by obtain ⟨rfl,h2,h3,rfl⟩:=subD_leaf (by simp) (by simp) hs;exact ⟨[],us,[],by simp,rfl,h,h2,h3⟩
 | .fn f x,us,o,n,g,e,h,hs=>by obtain ⟨rfl,h2,h3,rfl⟩:=subD_leaf (by simp) (by simp) hs;exact ⟨[],us,[],by simp,rfl,h,h2,h3⟩
 | .pt x,us,o,n,g,e,h,hs=>by obtain ⟨rfl,h2,h3,rfl⟩:=subD_leaf (by simp) (by simp) hs;exact ⟨[],us,[],by simp,rfl,h,h2,h3⟩
 | .tup x,us,o,n,g,e,h,hs=>by unfold RV at h;exact h.elim
 | .any,us,o,n,g,e,h,hs=>by unfold RV at h;exact h.elim
theorem subDs_ok:∀ (ds:List D) (us:List Value) (o n:Nat) (g:Bool) (e:D),RVs w I ds us→subDs ds o n g=some e→∃ xs ys zs,us=xs++ys++zs∧xs.length=o∧RV w I e ys∧e.size=n∧e.isAgg=g
 | [],us,o,n,g,e,h,hs=>by unfold subDs at hs;cases hs
 | d::ds,us,o,n,g,e,h,hs=>by
  unfold RVs at h
  obtain ⟨pp,qq,rfl,h1,h2⟩:=h
  unfold subDs at hs
  split at hs
  ·obtain ⟨xs,ys,zs,rfl,h3,h4,h5⟩:=subD_ok d pp o n g e h1 hs
   exact ⟨xs,ys,zs++qq,by simp,h3,h4,h5⟩
  ·rename_i hlt
   obtain ⟨xs,ys,zs,rfl,h3,h4,h5⟩:=subDs_ok ds qq (o - d.size) n g e h2 hs
   exact ⟨pp++xs,ys,zs,by simp,by rw [List.length_append,RV.len d pp h1,h3];omega,h4,h5⟩
end
mutual
theorem putD_ok:∀ (d:D) (us:List Value) (o:Nat) (x e:D) (ys:List Value),RV w I d us→putD d o x=some e→RV w I x ys→∃ xs ms zs,us=xs++ms++zs∧xs.length=o∧ms.length=ys.length∧RV w I e (xs++ys++zs)
 | .agg ds,us,o,x,e,ys,h,hs,hx=>by
  unfold putD at hs
  split at hs
  ·rename_i h1
   obtain ⟨rfl,h2,_⟩:=h1
   simp only [Option.some.injEq] at hs
   subst hs
   refine ⟨[],us,[],by simp,rfl,?_,by simpa using hx⟩
   rw [RV.len _ _ h,RV.len _ _ hx,← h2];rfl
  ·unfold RV at h
   cases hp:putDs ds o x with
   | none=>rw [hp] at hs;cases hs
   | some es=>
    rw [hp] at hs
    simp only [Option.map_some,Option.some.injEq] at hs
    subst hs
    obtain ⟨xs,ms,zs,h1,h2,h3,h4⟩:=putDs_ok ds us o x es ys h hp hx
    exact ⟨xs,ms,zs,h1,h2,h3,by unfold RV;exact h4⟩
 | .v x,us,o,y,e,ys,h,hs,hx=>by obtain ⟨rfl,h2,h3,rfl⟩:=putD_leaf (by simp) (by simp) hs;exact ⟨[],us,[],by simp,rfl,by rw [RV.len _ _ h,RV.len _ _ hx,h2],by simpa using hx⟩
 | .dg x,us,o,y,e,ys,h,hs,hx=>by
  unfold putD at hs
  split at hs
  ·rename_i h1
   obtain ⟨rfl,h2,_⟩:=h1
   simp only [Option.some.injEq] at hs
   subst hs
   exact ⟨[],us,[],by simp,rfl,by rw [RV.len _ _ h,RV.len _ _ hx,h2];rfl,by simpa using hx⟩
  ·split at hs
   ·rename_i n _
    split at hs
    ·rename_i h1
     obtain ⟨h1,h2,h3⟩:=h1
     simp only [Option.some.injEq] at hs
     subst hs
     unfold RV at h hx
     subst h
     obtain ⟨rfl,-⟩:=hx
     have hlt:o<x.l.length:=by rw [x.h];exact h1
     refine ⟨bC (x.l.take o),[.int .u8 (x.l[o]).toNat],bC (x.l.drop (o+1)),?_,by rw [bC_length,List.length_take];omega,rfl,?_⟩
     ·have e1:x.l=x.l.take o++[x.l[o]]++x.l.drop (o+1):=by
       rw [List.append_assoc,List.singleton_append,List.getElem_cons_drop,List.take_append_drop]
      have e2:=congrArg bC e1
      rw [bC_app,bC_app] at e2
      exact e2
     ·unfold RV
      have e1:(x.setB o n.toNat).l=x.l.take o++[UInt8.ofNat n.toNat]++x.l.drop (o+1):=by
       show x.l.set o _=_
       rw [List.set_eq_take_append_cons_drop,if_pos hlt];simp
      rw [e1,bC_app,bC_app]
      congr 2
      simp only [bC,List.map_cons,List.map_nil,UInt8.toNat_ofNat']
      congr 2
      omega
    ·cases hs
   ·cases hs
 | .sl _ x,us,o,y,e,ys,h,hs,hx=>by obtain ⟨rfl,h2,h3,rfl⟩:=putD_leaf (by simp) (by simp) hs;exact ⟨[],us,[],by simp,rfl,by rw [RV.len _ _ h,RV.len _ _ hx,h2],by simpa using hx⟩
 | .fn f x,us,o,y,e,ys,h,hs,hx=>by obtain ⟨rfl,h2,h3,rfl⟩:=putD_leaf (by simp) (by simp) hs;exact ⟨[],us,[],by simp,rfl,by rw [RV.len _ _ h,RV.len _ _ hx,h2],by simpa using hx⟩
 | .pt x,us,o,y,e,ys,h,hs,hx=>by obtain ⟨rfl,h2,h3,rfl⟩:=putD_leaf (by simp) (by simp) hs;exact ⟨[],us,[],by simp,rfl,by rw [RV.len _ _ h,RV.len _ _ hx,h2],by simpa using hx⟩
 | .tup x,us,o,y,e,ys,h,hs,hx=>by unfold RV at h;exact h.elim
 | .any,us,o,y,e,ys,h,hs,hx=>by unfold RV at h;exact h.elim
theorem putDs_ok:∀ (ds:List D) (us:List Value) (o:Nat) (x:D) (es:List D) (ys:List Value),RVs w I ds us→putDs ds o x=some es→RV w I x ys→∃ xs ms zs,us=xs++ms++zs∧xs.length=o∧ms.length=ys.length∧RVs w I es (xs++ys++zs)
 | [],us,o,x,es,ys,h,hs,hx=>by unfold putDs at hs;cases hs
 | d::ds,us,o,x,es,ys,h,hs,hx=>by
  unfold RVs at h
  obtain ⟨pp,qq,rfl,h1,h2⟩:=h
  unfold putDs at hs
  split at hs
  ·cases hp:putD d o x with
   | none=>rw [hp] at hs;cases hs
   | some e=>
    rw [hp] at hs
    simp only [Option.map_some,Option.some.injEq] at hs
    subst hs
    obtain ⟨xs,ms,zs,rfl,h3,h4,h5⟩:=putD_ok d pp o x e ys h1 hp hx
    exact ⟨xs,ms,zs++qq,by simp,h3,h4,by unfold RVs;exact ⟨xs++ys++zs,qq,by simp,h5,h2⟩⟩
  ·rename_i hlt
   cases hp:putDs ds (o - d.size) x with
   | none=>rw [hp] at hs;cases hs
   | some es'=>
    rw [hp] at hs
    simp only [Option.map_some,Option.some.injEq] at hs
    subst hs
    obtain ⟨xs,ms,zs,rfl,h3,h4,h5⟩:=putDs_ok ds qq (o - d.size) x es' ys h2 hp hx
    exact ⟨pp++xs,ms,zs,by simp,by rw [List.length_append,RV.len d pp h1,h3];omega,h4,by unfold RVs;exact ⟨pp,xs++ys++zs,by simp,h1,h5⟩⟩
end
theorem RV.one {d:D} {us:List Value} (h:RV w I d us):∀ v∈us,v.oneCell'=true:=by
 have key:(∀ (d:D) (us:List Value),RV w I d us→∀ v∈us,v.oneCell'=true):=by
  apply D.rec (motive_1:=fun d=>∀ (us:List Value),RV w I d us→∀ v∈us,v.oneCell'=true) (motive_2:=fun ds=>∀ (us:List Value),RVs w I ds us→∀ v∈us,v.oneCell'=true)
  ·intro x us h v hv;unfold RV at h;obtain ⟨rfl,h⟩:=h;simp at hv;subst hv;exact h
  ·intro d us h v hv;unfold RV at h;subst h;exact bC_one _ v hv
  ·intro ds ih us h;unfold RV at h;exact ih us h
  ·intro t es _ us h v hv;unfold RV at h;obtain ⟨a,n,c,rfl,_⟩:=h;simp at hv;subst hv;rfl
  ·intro d _ us h v hv;unfold RV at h;obtain ⟨b,o,ys,rfl,_⟩:=h;simp at hv;subst hv;rfl
  ·intro f cs _ us h v hv;unfold RV at h;obtain ⟨xs,rfl,_⟩:=h;simp at hv;subst hv;rfl
  ·intro ds _ us h;unfold RV at h;exact h.elim
  ·intro us h;unfold RV at h;exact h.elim
  ·intro us h v hv;unfold RVs at h;subst h;cases hv
  ·intro d ds ih1 ih2 us h v hv
   unfold RVs at h
   obtain ⟨xs,ys,rfl,h1,h2⟩:=h
   rcases List.mem_append.1 hv with hv | hv
   ·exact ih1 xs h1 v hv
   ·exact ih2 ys h2 v hv
 exact key d us h
theorem REs.get {b:Nat}:∀ (o:Nat) (es:List D) (z:Nat),(∀ e∈es,e.size=z)→REs w I b o es→∀ (i:Nat) (e:D),es[i]?=some e→∃ us,RV w I e us∧CellsAt w b (o+i*z) us
 | o,[],z,hz,h,i,e,hi=>by simp at hi
 | o,d::ds,z,hz,h,i,e,hi=>by
  unfold REs at h
  obtain ⟨us,h1,h2,h3⟩:=h
  have hd:d.size=z:=hz d List.mem_cons_self
  cases i with
  | zero=>simp only [List.getElem?_cons_zero,Option.some.injEq] at hi;subst hi;exact ⟨us,h1,by simpa using h2⟩
  | succ i=>
   simp only [List.getElem?_cons_succ] at hi
   obtain ⟨ys,h4,h5⟩:=REs.get (o+d.size) ds z (fun e he=>hz e (List.mem_cons_of_mem _ he)) h3 i e hi
   exact ⟨ys,h4,by rw [hd] at h5;rw [show o+(i+1)*z=o+z+i*z by rw [Nat.add_mul];omega];exact h5⟩
theorem sizes_const:∀ (es:List D) (z:Nat),(∀ e∈es,e.size=z)→D.sizes es=es.length*z
 | [],z,_=>by simp [D.sizes]
 | d::ds,z,h=>by
  unfold D.sizes
  rw [h d List.mem_cons_self,sizes_const ds z (fun e he=>h e (List.mem_cons_of_mem _ he))]
  simp [Nat.add_mul,Nat.add_comm]
theorem REs.drop {b:Nat}:∀ (k o:Nat) (es:List D) (z:Nat),(∀ e∈es,e.size=z)→k≤es.length→REs w I b o es→REs w I b (o+k*z) (es.drop k)
 | 0,o,es,z,hz,hk,h=>by simpa using h
 | k+1,o,[],z,hz,hk,h=>by simp at hk
 | k+1,o,d::ds,z,hz,hk,h=>by
  unfold REs at h
  obtain ⟨us,h1,h2,h3⟩:=h
  have hd:d.size=z:=hz d List.mem_cons_self
  have:=REs.drop k (o+d.size) ds z (fun e he=>hz e (List.mem_cons_of_mem _ he)) (by simpa using hk) h3
  rw [hd] at this
  simpa [show o+(k+1)*z=o+z+k*z by rw [Nat.add_mul];omega] using this
theorem REs.take {b:Nat}:∀ (k o:Nat) (es:List D),REs w I b o es→REs w I b o (es.take k)
 | 0,o,es,h=>by simp [REs]
 | k+1,o,[],h=>by simp [REs]
 | k+1,o,d::ds,h=>by
  unfold REs at h
  obtain ⟨us,h1,h2,h3⟩:=h
  simp only [List.take_succ_cons]
  unfold REs
  exact ⟨us,h1,h2,REs.take k _ ds h3⟩
end


theorem RV.size1 {w:World} {I:Nat→Nat→Prop} {d:D} {us:List Value} (h:RV w I d us) (hg:d.isAgg=false):d.size=1:=by
 cases d with
 | v x=>rfl
 | dg d=>cases hg
 | agg ds=>cases hg
 | sl t es=>rfl
 | pt d=>rfl
 | fn f cs=>rfl
 | tup ds=>unfold RV at h;exact h.elim
 | any=>unfold RV at h;exact h.elim

inductive Ty where
 | int (k:IntKind)
 | bool
 | str
 | slice (e:TypeId)
 | struct (zs:List D)
 | arr (e:TypeId) (zs:List D)
 | map (k e:TypeId)
 | dig
 | ptr
 | fn
 | iface
 | other

def Ty.zero:Ty→D
 | .int k=>.v (.int k 0)
 | .bool=>.v (.bool false)
 | .str=>.v (.string ⟨#[]⟩)
 | .slice _=>.sl .nil []
 | .struct zs=>.agg zs
 | .arr _ zs=>.agg zs
 | .dig=>.dg Dg.zero
 | .ptr=>.v (.pointer Option.none)
 | .map _ _=>.v (.map Option.none)
 | .fn=>.v .nilFunc
 | .iface=>.v .nilIface
 | .other=>.any
def Ty.agg:Ty→Bool
 | .struct _=>true
 | .arr _ _=>true
 | .dig=>true
 | _=>false

def aggDesc:TypeDesc→Bool
 | .struct _=>true
 | .array _ _=>true
 | _=>false

def Ty.isDesc (P:Program):Ty→TypeDesc→Prop
 | .int k,d=>d=.int k
 | .bool,d=>d=.bool
 | .str,d=>d=.string
 | .slice e,d=>d=.slice e
 | .struct zs,d=>∃ F,d=.struct F∧F.size=zs.length∧∀ k f,F[k]?=some f→∃ z j dd,zs[k]?=some z∧f.offset=D.sizes (zs.take k)∧P.info? f.type=some j∧j.size=z.size∧j.size≠0∧P.underlying f.type=some dd∧aggDesc dd=z.isAgg
 | .arr e zs,d=>∃ j,d=.array zs.length e∧P.info? e=some j∧∃ dd,P.underlying e=some dd∧∀ z∈zs,z.size=j.size∧aggDesc dd=z.isAgg
 | .dig,d=>∃ e,d=.array 32 e∧P.underlying e=some (.int .u8)∧(P.info? e).map (·.size)=some 1
 | .ptr,d=>∃ e,d=.pointer e
 | .map k e,d=>d=.map k e
 | .fn,d=>∃ a b c,d=.func a b c
 | .iface,d=>∃ m,d=.interface m
 | .other,_=>True

structure TyOk (P:Program) (t:TypeId) (ty:Ty):Prop where
 info:∃ i z,P.info? t=some i∧i.size=ty.zero.size∧i.zero=some z∧∀ w I,RVal w I ty.zero z
 desc:∃ d,P.underlying t=some d∧ty.isDesc P d

def TysOk (P:Program) (T:TypeId→Ty):Prop:=∀ t,T t≠.other→TyOk P t (T t)

section
variable {P : Program} {T : TypeId → Ty} {t : TypeId} {w : World} {I : Nat → Nat → Prop}
theorem TyOk.size {ty:Ty} (h:TyOk P t ty):(P.info? t).map (·.size)=some ty.zero.size:=by
 obtain ⟨i,z,h1,h2,_⟩:=h.info
 rw [h1,Option.map_some,h2]
theorem TyOk.run_size {ty:Ty} (h:TyOk P t ty) (w:World):(sizeOf t).run P w=.ok ty.zero.size w:=by
 obtain ⟨i,z,h1,h2,_⟩:=h.info
 simp [sizeOf,typeInfo,h1,h2]
theorem run_isAgg {d:TypeDesc} (h:P.underlying t=some d) (w:World):(isAgg t).run P w=.ok (aggDesc d) w:=by
 unfold isAgg
 rw [Sem.run_bind,run_underlying h]
 cases d <;> rfl
theorem TyOk.run_agg {ty:Ty} (h:TyOk P t ty) (ho:ty≠.other) (w:World):(isAgg t).run P w=.ok ty.agg w:=by
 obtain ⟨d,h1,h2⟩:=h.desc
 rw [run_isAgg h1]
 cases ty <;> simp only [Ty.isDesc] at h2 <;> first | (obtain ⟨_,rfl,_⟩:=h2;rfl) | (obtain ⟨_,rfl⟩:=h2;rfl) | (obtain ⟨_,_,_,rfl⟩:=h2;rfl) | (subst h2;rfl) | exact absurd rfl ho
theorem TyOk.run_zero {ty:Ty} (h:TyOk P t ty) (w:World):∃ z,(zeroValue t).run P w=.ok z w∧∀ w I,RVal w I ty.zero z:=by
 obtain ⟨i,z,h1,h2,h3,h4⟩:=h.info
 exact ⟨z,by simp [zeroValue,typeInfo,h1,h3],h4⟩

theorem run_load_cells (b o:Nat) (us:List Value) (g:Bool) (hg:(isAgg t).run P w=.ok g w) (hs:(sizeOf t).run P w=.ok us.length w) (h1:g=false→us.length=1) (hc:CellsAt w b o us) :
  (loadVar t ⟨b,o,none⟩).run P w=.ok (ofCells g us) w:=by
 have hadd:∀ j,(⟨b,o,none⟩:Addr).add j=⟨b,o+j,none⟩:=fun j=>by unfold Addr.add;split <;> simp_all
 unfold loadVar
 rw [Sem.run_bind,hg,Result.andThen_ok]
 cases g with
 | true=>
  have hl:=run_loadCells_list (P:=P) w ⟨b,o,none⟩ us (fun j v hv=>by rw [hadd];exact hc j v hv)
  simp only [if_true,Sem.run_bind,hs,Result.andThen_ok,hl]
  simp [ofCells]
 | false=>
  have h2:=h1 rfl
  match us,h2 with
  | [u],_=>
   have:=hc 0 u rfl
   simp only [Nat.add_zero] at this
   simp [ofCells,run_load,this]

theorem run_store_blk (b o:Nat) (tb:TypeId) (cs:Array Value) (x:Value) (hb:Blk w b tb cs) (hs:(sizeOf t).run P w=.ok x.cells.size w) (h1:∀ v∈x.cells.toList,v.oneCell'=true) (hle:o+x.cells.size≤cs.size) :
  (storeVar t ⟨b,o,none⟩ x).run P w=.ok () (w.setRow b (spl cs o x.cells)):=by
 have hst:=run_storeCells_at P b o tb x.cells.toList 0 cs w hb (by simpa using hle) h1
 simp only [Nat.add_zero,Array.length_toList] at hst
 simp [storeVar,Sem.run_bind,hs,hst,spl]
end

def dOf:Value→D
 | .slice a n c=>if a=Option.none∧n=0∧c=0 then .sl .nil [] else .v (.slice a n c)
 | .agg _=>.any
 | .tuple vs=>if vs.size=0 then .tup [] else .any
 | x=>.v x

def evalO (A:List D):Operand→D
 | .tmp t=>A.getD t .any
 | .const x=>dOf x
 | .global g=>.v (.pointer (some ⟨g,0,Option.none⟩))
 | .func f=>.v (.func (.func f) #[] #[])

structure ActAt (w:World) (I:Nat→Nat→Prop) (A:List D) (a:Act):Prop where
 size:A.length≤a.tmps.size
 val:∀ i d,A[i]?=some d→RVal w I d (a.tmps.getD i undef)

section
variable {P : Program} {T : TypeId → Ty} {w : World} {I : Nat → Nat → Prop} {A : List D} {a : Act}
theorem RVal.any {x:Value}:RVal w I .any x:=by unfold RVal;trivial
theorem RVal.vv {x:Value} (h:x.oneCell'=true):RVal w I (.v x) x:=by unfold RVal;exact ⟨rfl,h⟩
theorem RVal.nil {x:Value}:RVal w I (.sl .nil []) (.slice Option.none 0 0):=by
 unfold RVal RV;exact ⟨Option.none,0,0,rfl,rfl,Nat.le_refl _,rfl,.inl ⟨rfl,rfl,rfl⟩⟩
theorem RVal.undef:RVal w I (.tup []) Go.undef:=by unfold RVal;exact ⟨[],rfl,by unfold RVals;rfl⟩
theorem dOf_ok (x:Value):RVal w I (dOf x) x:=by
 cases x with
 | slice a n c=>
  show RVal w I (if a=Option.none∧n=0∧c=0 then .sl .nil [] else .v (.slice a n c)) _
  split
  ·rename_i h
   obtain ⟨rfl,rfl,rfl⟩:=h
   exact RVal.nil (x:=default)
  ·exact RVal.vv rfl
 | agg cs=>exact RVal.any
 | tuple vs=>
  show RVal w I (if vs.size=0 then .tup [] else .any) _
  split
  ·rename_i h
   have:vs=#[]:=Array.eq_empty_of_size_eq_zero h
   subst this
   exact RVal.undef
  ·exact RVal.any
 | _=>exact RVal.vv rfl
theorem evalO_ok (h:ActAt w I A a) (x:Operand):RVal w I (evalO A x) (a.eval x):=by
 cases x with
 | tmp t=>
  show RVal w I (A.getD t .any) (a.tmps.getD t undef)
  cases hA:A[t]? with
  | none=>rw [List.getD_eq_getElem?_getD,hA];simp only [Option.getD_none];unfold RVal;trivial
  | some d=>rw [List.getD_eq_getElem?_getD,hA];exact h.val t d hA
 | const x=>exact dOf_ok x
 | global g=>show RVal w I (.v _) _;unfold RVal;exact ⟨rfl,rfl⟩
 | func f=>show RVal w I (.v _) _;unfold RVal;exact ⟨rfl,rfl⟩
theorem ActAt.evo {w':World} {I':Nat→Nat→Prop} (h:ActAt w I A a) (e:Evo w I w' I'):ActAt w' I' A a:=⟨h.size,fun i d hi=>(h.val i d hi).evo e _ _⟩

def putA (A:List D) (dst:Option Tmp) (d:D):List D:=
 match dst with
 | some t=>A.set t d
 | Option.none=>A
theorem ActAt.put (h:ActAt w I A a) (dst:Option Tmp) {d:D} {x:Value} (hx:RVal w I d x):ActAt w I (putA A dst d) (a.put dst x):=by
 cases dst with
 | none=>exact h
 | some t=>
  refine ⟨by simp [putA,Act.put];exact h.size,fun i e hi=>?_⟩
  simp only [putA] at hi
  simp only [Act.put]
  rw [List.getElem?_set] at hi
  split at hi
  ·rename_i hti
   subst hti
   split at hi
   ·rename_i hlt
    simp only [Option.some.injEq] at hi
    subst hi
    have:t<a.tmps.size:=Nat.lt_of_lt_of_le hlt h.size
    simpa [Array.getD,this] using hx
   ·cases hi
  ·rename_i hne
   have:=h.val i e hi
   simpa [Array.getD_eq_getD_getElem?,Array.getElem?_setIfInBounds,hne] using this
end

def wantedA (ops:Array Oper) (A:List D) (o:Oper):Option Bool:=
 match o.guard with
 | Option.none=>some true
 | some (j,want)=>
  match (ops[j]?).bind (·.dst) with
  | Option.none=>some false
  | some t=>match A[t]? with
   | some (.v (.bool b))=>some (b == want)
   | some (.tup [])=>some false
   | _=>Option.none
theorem wantedA_ok {w:World} {I:Nat→Nat→Prop} {A:List D} {a:Act} (h:ActAt w I A a) {ops:Array Oper} {o:Oper} {r:Bool} (hr:wantedA ops A o=some r):Region.wanted o (yielded ops a.tmps)=r:=by
 unfold wantedA at hr
 unfold Region.wanted
 split at hr
 ·rename_i hg;rw [hg];simpa using hr
 ·rename_i j want hg
  rw [hg]
  unfold yielded
  dsimp only
  split at hr
  ·rename_i hd
   rw [hd]
   simp at hr ⊢;exact hr
  ·rename_i t hd
   rw [hd]
   have hv:∀ d,A[t]?=some d→∃ x,a.tmps[t]?=some x∧RVal w I d x:=fun d hA=>by
    have hlt:t<a.tmps.size:=Nat.lt_of_lt_of_le (List.getElem?_eq_some_iff.1 hA).1 h.size
    have:=h.val t d hA
    simp only [Array.getD,hlt,dite_true] at this
    exact ⟨_,Array.getElem?_eq_getElem hlt,this⟩
   split at hr
   ·rename_i b hA
    obtain ⟨x,h1,h2⟩:=hv _ hA
    unfold RVal at h2
    obtain ⟨rfl,_⟩:=h2
    simp only [Option.some.injEq] at hr
    simp [h1,← hr]
   ·rename_i hA
    obtain ⟨x,h1,h2⟩:=hv _ hA
    unfold RVal RVals at h2
    obtain ⟨xs,rfl,rfl⟩:=h2
    simp only [Option.some.injEq] at hr
    simp [h1,← hr]
   ·cases hr

end Go.Proofs.YtgjaaffheanobaaGreat