/- Values without addresses: structs and short arrays are compared. -/
import Derived.Test.YtgjaaffheanobaaGreatZ11
import Derived.Laws.StructEq
namespace Go.Proofs.YtgjaaffheanobaaGreat
set_option linter.unusedVariables false
set_option linter.unusedSimpArgs false
open Go Go.RowKit

inductive CK where
 | int
 | bool
 | str
 | dig
 | st (ks:List CK)
 | arr (ks:List CK)

mutual
def CK.size:CK→Nat
 | .int=>1
 | .bool=>1
 | .str=>1
 | .dig=>32
 | .st ks=>CK.sizes ks
 | .arr ks=>CK.sizes ks
def CK.sizes:List CK→Nat
 | []=>0
 | k::ks=>k.size+CK.sizes ks
end
mutual
def CK.dep:CK→Nat
 | .int=>0
 | .bool=>0
 | .str=>0
 | .dig=>0
 | .st ks=>CK.deps ks+1
 | .arr ks=>CK.deps ks+1
def CK.deps:List CK→Nat
 | []=>0
 | k::ks=>max k.dep (CK.deps ks)
end
mutual
def eq1V:CK→D→D→Option Bool
 | .int,.v (.int k1 a),.v (.int k2 b)=>if k1=k2 then some (a == b) else Option.none
 | .bool,.v (.bool a),.v (.bool b)=>some (a == b)
 | .str,.v (.string a),.v (.string b)=>some (a.toList == b.toList)
 | .dig,.dg a,.dg b=>some (decide (a=b))
 | .st ks,.agg ds,.agg es=>eqSV ks ds es
 | .arr ks,.agg ds,.agg es=>eqSV ks ds es
 | _,_,_=>Option.none
def eqSV:List CK→List D→List D→Option Bool
 | [],[],[]=>some true
 | k::ks,d::ds,e::es=>
  match eq1V k d e,eqSV ks ds es with
  | some a,some b=>some (a && b)
  | _,_=>Option.none
 | _,_,_=>Option.none
end

def sizeB (P:Program) (t:TypeId) (n:Nat):Bool:=(P.info? t).map (·.size) == some n
mutual
def CK.ok (P:Program):CK→TypeId→Bool
 | .int,t=>(match P.underlying t with | some (.int _)=>true | _=>false)
 | .bool,t=>(match P.underlying t with | some .bool=>true | _=>false)
 | .str,t=>(match P.underlying t with | some .string=>true | _=>false)
 | .dig,t=>(match P.underlying t with | some (.array 32 e)=>(match P.underlying e with | some (.int .u8)=>true | _=>false) && sizeB P e 1 && sizeB P t 32 | _=>false)
 | .st ks,t=>(match P.underlying t with | some (.struct _)=>!P.stoodInHeld t && sizeB P t (CK.sizes ks) && cmpB P ks (P.fieldsOf t).toList 0 | _=>false)
 | .arr ks,t=>(match P.underlying t with | some (.array n e)=>n == ks.length && sizeB P t (CK.sizes ks) && (match P.info? e with | some i=>arrB P ks e i.size | Option.none=>false) | _=>false)
def cmpB (P:Program):List CK→List Field→Nat→Bool
 | [],[],_=>true
 | k :: ks, f :: fs, o => f.name != "_" && f.offset == o && k.ok P f.type && cmpB P ks fs (o + k.size)
 | _,_,_=>false
def arrB (P:Program):List CK→TypeId→Nat→Bool
 | [],_,_=>true
 | k::ks,e,n=>k.ok P e && k.size == n && arrB P ks e n
end
structure CmpOk (P:Program) (t:TypeId) (k:CK):Prop where
 ok:k.ok P t=true
 dep:k.dep≤9000
 guard:P.eqGuardType P.depth t=false

def eqElems (d:Nat) (e n:Nat) (xs ys:Array Value):Nat→Nat→Sem Bool
 | _,0=>pure true
 | i,k+1=>do
  let a ← part e xs (i*n)
  let b ← part e ys (i*n)
  let r ← Op.equalIn d e a b
  if (!r)=true then pure false else eqElems d e n xs ys (i+1) k

section
variable {P : Program} {w : World} {I : Nat → Nat → Prop} {t : TypeId}
theorem eqElems_run (d len e n:Nat) (xs ys:Array Value) (ht:P.underlying t=some (.array len e)) (hn:(P.info? e).map (·.size)=some n) {r:Bool} (h:(eqElems d e n xs ys 0 len).run P w=.ok r w) :
  (Op.equalIn (d+1) t (.agg xs) (.agg ys)).run P w=.ok r w:=by
 obtain ⟨i,hi,hi2⟩:=Option.map_eq_some_iff.1 hn
 simp only [Op.equalIn,Sem.run_bind,run_underlying ht,Result.andThen_ok,sizeOf,typeInfo,run_program,hi,hi2,Sem.run_pure]
 rw [Std.Legacy.Range.forIn_eq_forIn_range']
 have key:∀ k i,∀ (f:Nat→Option Bool×PUnit→Sem (ForInStep (Option Bool×PUnit))),(∀ j,f j (none,())=(do
   let x ← part e xs (j*n)
   let y ← part e ys (j*n)
   let r ← Op.equalIn d e x y
   if (!r)=true then pure (ForInStep.done (some false,())) else do pure (ForInStep.yield (none,()))))→∀ (w w':World) (r:Bool),(eqElems d e n xs ys i k).run P w=.ok r w' →
   (forIn (List.range' i k 1) ((none,()):Option Bool×Unit) f).run P w=.ok (if r=true then (none,()) else (some false,())) w':=by
  intro k
  induction k with
  | zero=>
   intro i f _ w w' r hr
   simp only [eqElems,Sem.run_pure,Result.ok.injEq] at hr
   obtain ⟨rfl,rfl⟩:=hr
   simp
  | succ k ih=>
   intro i f hf w w' r hr
   rw [List.range'_succ,List.forIn_cons,hf]
   simp only [eqElems,Sem.run_bind] at hr ⊢
   generalize (part e xs (i*n)).run P w=r1 at hr ⊢
   cases r1 with
   | ok a w1=>
    simp only [Result.andThen_ok] at hr ⊢
    generalize (part e ys (i*n)).run P w1=r2 at hr ⊢
    cases r2 with
    | ok b w2=>
     simp only [Result.andThen_ok] at hr ⊢
     generalize (Op.equalIn d e a b).run P w2=r3 at hr ⊢
     cases r3 with
     | ok c w3=>
      simp only [Result.andThen_ok] at hr ⊢
      cases c
      ·simp only [Bool.not_false,if_true,Sem.run_pure,Result.ok.injEq] at hr
       obtain ⟨rfl,rfl⟩:=hr
       simp [Sem.run_pure]
      ·simp only [Bool.not_true,Bool.false_eq_true,if_false,Sem.run_pure,Result.andThen_ok] at hr ⊢
       exact ih (i+1) f hf w3 w' r hr
     | _=>cases hr
    | _=>cases hr
   | _=>cases hr
 simp only [Std.Legacy.Range.size,show (len - 0+1 - 1) / 1=len by omega]
 rw [key len 0 _ (fun j=>rfl) w w r h]
 cases r <;> simp [Sem.run_pure]

theorem part_one {d:TypeDesc} (hu:P.underlying t=some d) (ha:aggDesc d=false) {cs:Array Value} {o:Nat} {v:Value} (hc:cs[o]?=some v):(part t cs o).run P w=.ok v w:=by
 unfold part
 rw [Sem.run_bind,run_isAgg hu,ha,Result.andThen_ok]
 simp [hc]
theorem part_agg {d:TypeDesc} (hu:P.underlying t=some d) (ha:aggDesc d=true) {n:Nat} (hs:sizeB P t n=true) (xs:List Value) (hl:xs.length=n) (pre suf:List Value):(part t (pre++(xs++suf)).toArray pre.length).run P w=.ok (.agg xs.toArray) w:=by
 have hs:(sizeOf t).run P w=.ok n w:=by
  unfold sizeB at hs
  rw [beq_iff_eq] at hs
  obtain ⟨i,hi,hi2⟩:=Option.map_eq_some_iff.1 hs
  simp [sizeOf,typeInfo,hi,hi2]
 unfold part
 rw [Sem.run_bind,run_isAgg hu,Result.andThen_ok]
 simp only [ha,if_true,Sem.run_bind,hs,Result.andThen_ok,Sem.run_pure]
 simp [List.extract_eq_take_drop,← hl]

def CmpAt (P:Program) (w:World) (k:CK) (t:TypeId) (x y:D) (r:Bool) (xs ys:List Value) (n:Nat):Prop:=
 xs.length=k.size∧ys.length=k.size∧∃ u v,(∀ pre suf:List Value,(part t (pre++(xs++suf)).toArray pre.length).run P w=.ok u w)∧(∀ pre suf:List Value,(part t (pre++(ys++suf)).toArray pre.length).run P w=.ok v w)∧(Op.equalIn (n+2) t u v).run P w=.ok r w∧u=ofCells x.isAgg xs∧v=ofCells y.isAgg ys

mutual
theorem eq1_run:∀ (k:CK) (t:TypeId) (x y:D) (r:Bool),eq1V k x y=some r→k.ok P t=true→∀ (xs ys:List Value),RV w I x xs→RV w I y ys→∀ n,k.dep≤n→CmpAt P w k t x y r xs ys n
 | .int,t,x,y,r,h,hk,xs,ys,hx,hy,n,hn=>by
  unfold eq1V at h
  split at h <;> first | (cases h;done) | (rename_i heq;cases heq;done) | skip
  rename_i k1 a k2 b _
  split at h
  ·rename_i e
   subst e
   simp only [Option.some.injEq] at h
   subst h
   unfold RV at hx hy
   obtain ⟨rfl,-⟩:=hx
   obtain ⟨rfl,-⟩:=hy
   unfold CK.ok at hk
   split at hk <;> first | (cases hk;done) | skip
   rename_i hu
   exact ⟨rfl,rfl,_,_,fun pre suf=>part_one (v:=.int k1 a) hu rfl (by simp),fun pre suf=>part_one (v:=.int k1 b) hu rfl (by simp),run_equalIn_int w _ t k1 _ a b hu,rfl,rfl⟩
  ·cases h
 | .bool,t,x,y,r,h,hk,xs,ys,hx,hy,n,hn=>by
  unfold eq1V at h
  split at h <;> first | (cases h;done) | (rename_i heq;cases heq;done) | skip
  rename_i a b _
  simp only [Option.some.injEq] at h
  subst h
  unfold RV at hx hy
  obtain ⟨rfl,-⟩:=hx
  obtain ⟨rfl,-⟩:=hy
  unfold CK.ok at hk
  split at hk <;> first | (cases hk;done) | skip
  rename_i hu
  exact ⟨rfl,rfl,_,_,fun pre suf=>part_one (v:=.bool a) hu rfl (by simp),fun pre suf=>part_one (v:=.bool b) hu rfl (by simp),run_equalIn_bool' w _ t _ _ hu,rfl,rfl⟩
 | .str,t,x,y,r,h,hk,xs,ys,hx,hy,n,hn=>by
  unfold eq1V at h
  split at h <;> first | (cases h;done) | (rename_i heq;cases heq;done) | skip
  rename_i a b _
  simp only [Option.some.injEq] at h
  subst h
  unfold RV at hx hy
  obtain ⟨rfl,-⟩:=hx
  obtain ⟨rfl,-⟩:=hy
  unfold CK.ok at hk
  split at hk <;> first | (cases hk;done) | skip
  rename_i hu
  exact ⟨rfl,rfl,_,_,fun pre suf=>part_one (v:=.string a) hu rfl (by simp),fun pre suf=>part_one (v:=.string b) hu rfl (by simp),run_equalIn_string w _ t _ _ hu,rfl,rfl⟩
 | .dig,t,x,y,r,h,hk,xs,ys,hx,hy,n,hn=>by
  unfold eq1V at h
  split at h <;> first | (cases h;done) | (rename_i heq;cases heq;done) | skip
  rename_i a b _
  simp only [Option.some.injEq] at h
  subst h
  unfold RV at hx hy
  subst hx hy
  unfold CK.ok at hk
  split at hk <;> first | (cases hk;done) | skip
  rename_i te hu
  simp only [Bool.and_eq_true] at hk
  obtain ⟨⟨h1,h2⟩,h3⟩:=hk
  split at h1
  ·rename_i he
   have la:(bC a.l).length=32:=by rw [bC_length,a.h]
   have lb:(bC b.l).length=32:=by rw [bC_length,b.h]
   refine ⟨la,lb,_,_,part_agg hu rfl h3 _ la,part_agg hu rfl h3 _ lb,?_,rfl,rfl⟩
   unfold sizeB at h2
   have:=run_equalIn_u8 (P:=P) w n t 32 _ hu he (by simpa using h2) a.l b.l a.h b.h
   rw [show (decide (a=b))=(a.l == b.l) by rw [Bool.eq_iff_iff];simp;exact ⟨fun h=>by rw [h],Dg.ext'⟩]
   exact this
  ·cases h1
 | .st ks,t,x,y,r,h,hk,xs,ys,hx,hy,n,hn=>by
  unfold eq1V at h
  split at h <;> first | (cases h;done) | (rename_i heq;cases heq;done) | skip
  rename_i ks' ds es heq
  simp only [CK.st.injEq,CK.arr.injEq] at heq
  subst heq
  unfold RV at hx hy
  unfold CK.ok at hk
  split at hk <;> first | (cases hk;done) | skip
  rename_i fs hu
  simp only [Bool.and_eq_true,Bool.not_eq_true'] at hk
  obtain ⟨⟨h1,h2⟩,h3⟩:=hk
  unfold CK.dep at hn
  obtain ⟨m,rfl⟩:∃ m,n=m+1:=⟨n - 1,by omega⟩
  obtain ⟨l1,l2,l3⟩:=eqS_run ks (P.fieldsOf t).toList 0 ds es xs ys [] [] r h3 rfl rfl hx hy h m (by omega)
  refine ⟨l1,l2,_,_,part_agg hu rfl h2 _ l1,part_agg hu rfl h2 _ l2,?_,rfl,rfl⟩
  have hf:P.underlying t=some (.struct (P.fieldsOf t)):=by unfold Program.fieldsOf;rw [hu]
  rw [run_equalIn_struct w (m+2) t _ _ hf h1]
  exact l3
 | .arr ks,t,x,y,r,h,hk,xs,ys,hx,hy,n,hn=>by
  unfold eq1V at h
  split at h <;> first | (cases h;done) | (rename_i heq;cases heq;done) | skip
  rename_i ks' ds es heq
  simp only [CK.st.injEq,CK.arr.injEq] at heq
  subst heq
  unfold RV at hx hy
  unfold CK.ok at hk
  split at hk <;> first | (cases hk;done) | skip
  rename_i len e hu
  simp only [Bool.and_eq_true,beq_iff_eq] at hk
  obtain ⟨⟨rfl,h2⟩,h3⟩:=hk
  split at h3
  ·rename_i i hi
   unfold CK.dep at hn
   obtain ⟨m,rfl⟩:∃ m,n=m+1:=⟨n - 1,by omega⟩
   obtain ⟨l1,l2,l3⟩:=eqA_run ks e i.size 0 ds es xs ys [] [] r h3 (by simp) (by simp) hx hy h m (by omega)
   refine ⟨l1,l2,_,_,part_agg hu rfl h2 _ l1,part_agg hu rfl h2 _ l2,?_,rfl,rfl⟩
   exact eqElems_run (m+2) ks.length e i.size _ _ hu (by rw [hi];rfl) l3
  ·cases h3
theorem eqS_run:∀ (ks:List CK) (fs:List Field) (o:Nat) (ds es:List D) (us vs pre pre':List Value) (r:Bool),cmpB P ks fs o=true→pre.length=o→pre'.length=o→RVs w I ds us→RVs w I es vs→eqSV ks ds es=some r→∀ n,CK.deps ks≤n →
  us.length=CK.sizes ks∧vs.length=CK.sizes ks∧(Op.eqFields (n+2) (pre++us).toArray (pre'++vs).toArray fs).run P w=.ok r w
 | [],[],o,ds,es,us,vs,pre,pre',r,hc,hp,hp',hd,he,h,n,hn=>by
  match ds,es,h with
  | [],[],h=>
   simp only [eqSV,Option.some.injEq] at h
   subst h
   unfold RVs at hd he
   subst hd he
   exact ⟨rfl,rfl,rfl⟩
  | _::_,_,h=>simp [eqSV] at h
  | [],_::_,h=>simp [eqSV] at h
 | [],_::_,_,_,_,_,_,_,_,_,hc,_,_,_,_,_,_,_=>by simp [cmpB] at hc
 | _::_,[],_,_,_,_,_,_,_,_,hc,_,_,_,_,_,_,_=>by simp [cmpB] at hc
 | k::ks,f::fs,o,ds,es,us,vs,pre,pre',r,hc,hp,hp',hd,he,h,n,hn=>by
  match ds,es,h with
  | [],_,h=>simp [eqSV] at h
  | _::_,[],h=>simp [eqSV] at h
  | d::ds,e::es,h=>
   unfold eqSV at h
   split at h
   ·rename_i a b h1 h2
    simp only [Option.some.injEq] at h
    subst h
    unfold RVs at hd he
    obtain ⟨xs,us',rfl,hx,hd⟩:=hd
    obtain ⟨ys,vs',rfl,hy,he⟩:=he
    unfold cmpB at hc
    simp only [Bool.and_eq_true,beq_iff_eq,bne_iff_ne] at hc
    obtain ⟨⟨⟨c1,c2⟩,c3⟩,c4⟩:=hc
    unfold CK.deps at hn
    obtain ⟨l1,l2,u,v,p1,p2,p3,-⟩:=eq1_run k f.type d e a h1 c3 xs ys hx hy n (by omega)
    have q1:=p1 pre us'
    have q2:=p2 pre' vs'
    rw [hp] at q1
    rw [hp'] at q2
    rw [c2.symm] at q1 q2
    obtain ⟨m1,m2,ih⟩:=eqS_run ks fs (o+k.size) ds es us' vs' (pre++xs) (pre'++ys) b c4 (by simp [hp,l1]) (by simp [hp',l2]) hd he h2 n (by omega)
    rw [List.append_assoc,List.append_assoc] at ih
    refine ⟨by rw [List.length_append,l1,m1];rfl,by rw [List.length_append,l2,m2];rfl,?_⟩
    unfold Op.eqFields
    rw [if_pos c1]
    simp only [Sem.run_bind,q1,q2,Result.andThen_ok,p3,Sem.run_ite]
    cases a
    ·simp
    ·simp only [Bool.not_true,Bool.false_eq_true,if_false,Bool.true_and]
     exact ih
   ·cases h
theorem eqA_run:∀ (ks:List CK) (et sz i:Nat) (ds es:List D) (us vs pre pre':List Value) (r:Bool),arrB P ks et sz=true→pre.length=i*sz→pre'.length=i*sz→RVs w I ds us→RVs w I es vs→eqSV ks ds es=some r→∀ n,CK.deps ks≤n →
  us.length=CK.sizes ks∧vs.length=CK.sizes ks∧(eqElems (n+2) et sz (pre++us).toArray (pre'++vs).toArray i ks.length).run P w=.ok r w
 | [],et,sz,i,ds,es,us,vs,pre,pre',r,hc,hp,hp',hd,he,h,n,hn=>by
  match ds,es,h with
  | [],[],h=>
   simp only [eqSV,Option.some.injEq] at h
   subst h
   unfold RVs at hd he
   subst hd he
   exact ⟨rfl,rfl,rfl⟩
  | _::_,_,h=>simp [eqSV] at h
  | [],_::_,h=>simp [eqSV] at h
 | k::ks,et,sz,i,ds,es,us,vs,pre,pre',r,hc,hp,hp',hd,he,h,n,hn=>by
  match ds,es,h with
  | [],_,h=>simp [eqSV] at h
  | _::_,[],h=>simp [eqSV] at h
  | d::ds,e::es,h=>
   unfold eqSV at h
   split at h
   ·rename_i a b h1 h2
    simp only [Option.some.injEq] at h
    subst h
    unfold RVs at hd he
    obtain ⟨xs,us',rfl,hx,hd⟩:=hd
    obtain ⟨ys,vs',rfl,hy,he⟩:=he
    unfold arrB at hc
    simp only [Bool.and_eq_true,beq_iff_eq] at hc
    obtain ⟨⟨c3,c2⟩,c4⟩:=hc
    unfold CK.deps at hn
    obtain ⟨l1,l2,u,v,p1,p2,p3,-⟩:=eq1_run k et d e a h1 c3 xs ys hx hy n (by omega)
    have q1:=p1 pre us'
    have q2:=p2 pre' vs'
    rw [hp] at q1
    rw [hp'] at q2
    have hi:(i+1)*sz=i*sz+sz:=by rw [Nat.add_mul,Nat.one_mul]
    obtain ⟨m1,m2,ih⟩:=eqA_run ks et sz (i+1) ds es us' vs' (pre++xs) (pre'++ys) b c4 (by rw [List.length_append,hp,l1,hi,c2]) (by rw [List.length_append,hp',l2,hi,c2]) hd he h2 n (by omega)
    rw [List.append_assoc,List.append_assoc] at ih
    refine ⟨by rw [List.length_append,l1,m1];rfl,by rw [List.length_append,l2,m2];rfl,?_⟩
    rw [List.length_cons]
    unfold eqElems
    simp only [Sem.run_bind,q1,q2,Result.andThen_ok,p3,Sem.run_ite]
    cases a
    ·simp
    ·simp only [Bool.not_true,Bool.false_eq_true,if_false,Bool.true_and]
     exact ih
   ·cases h
end

theorem eqS_ok {k:CK} (hk:CmpOk P t k) {ds es:List D} {r:Bool} (h:eq1V k (.agg ds) (.agg es)=some r) {a b:Value} (ha:RVal w I (.agg ds) a) (hb:RVal w I (.agg es) b):(Op.equal t a b).run P w=.ok r w:=by
 unfold RVal at ha hb
 obtain ⟨us,rfl,ha⟩:=ha
 obtain ⟨vs,rfl,hb⟩:=hb
 obtain ⟨_,_,u,v,_,_,h3,rfl,rfl⟩:=eq1_run k t (.agg ds) (.agg es) r h hk.ok us vs (by unfold RV;exact ha) (by unfold RV;exact hb) 9998 (by have:=hk.dep;omega)
 exact h3
end

end Go.Proofs.YtgjaaffheanobaaGreat
namespace Go.Proofs.YtgjaaffheanobaaGreat
open Go

def cmpTys:TypeId→Option CK
 | 23=>some (.st [.int,.int])
 | 28=>some (.st [.int,.dig])
 | 30=>some (.st [(.st [.int,.dig]),(.st [.int,.dig])])
 | 39=>some (.st [.int,.dig,.int,.str])
 | 79=>some (.st [.bool,.str])
 | 92=>some (.st [(.st [.int,.int]),(.st [.int,.dig]),(.st [.int,.dig,.int,.str]),.bool,(.st [(.st [.int,.dig]),(.st [.int,.dig])]),.bool])
 | 120=>some (.arr [.dig,.dig])
 | 124=>some (.st [(.st [.int,.int]),.bool,(.st [.int,.dig]),(.st [.int,.dig,.int,.str]),.bool,(.st [(.st [.int,.dig]),(.st [.int,.dig])])])
 | 129=>some (.st [.str,.str])
 | 147=>some (.arr [.int,.int])
 | 213=>some (.st [.int,.dig])
 | 229=>some (.st [.dig,.dig])
 | 232=>some (.st [.str,.int,.int])
 | 236=>some (.st [.str,.str,.bool,.bool])
 | 246=>some (.st [.bool,.str,.int,.int])
 | 252=>some (.st [.int,.int])
 | _=>none

end Go.Proofs.YtgjaaffheanobaaGreat
namespace Go.Proofs.YtgjaaffheanobaaGreat
set_option linter.unusedVariables false
set_option linter.unusedSimpArgs false
open Go Go.RowKit

def Yields (P:Program) (w:World) (I:Nat→Nat→Prop) (s:Sem Value) (d:D):Prop:=∃ x,s.run P w=.ok x w∧RVal w I d x

def Ty.known:Ty→Bool
 | .other=>false
 | _=>true
theorem Ty.known_ne {ty:Ty} (h:ty.known=true):ty≠.other:=by rintro rfl;cases h

def intV (op:BinOp) (k:IntKind) (a b:Int):Option D:=
 match op with
 | .add=>some (.v (.int k (k.wrap (a+b))))
 | .sub=>some (.v (.int k (k.wrap (a - b))))
 | .mul=>some (.v (.int k (k.wrap (a*b))))
 | .quo=>if b=0 then Option.none else some (.v (.int k (k.wrap (a.tdiv b))))
 | .rem=>if b=0 then Option.none else some (.v (.int k (a.tmod b)))
 | .eql=>some (.v (.bool (a == b)))
 | .neq=>some (.v (.bool (a != b)))
 | .lss=>some (.v (.bool (decide (a<b))))
 | .leq=>some (.v (.bool (decide (a≤b))))
 | .gtr=>some (.v (.bool (decide (a > b))))
 | .geq=>some (.v (.bool (decide (a ≥ b))))
 | _=>Option.none

def strV (op:BinOp) (a b:ByteArray):Option D:=
 match op with
 | .add=>if a.size+b.size≤9223372036854775807 then some (.v (.string (a++b))) else Option.none
 | .eql=>some (.v (.bool (a.toList == b.toList)))
 | .neq=>some (.v (.bool (!(a.toList == b.toList))))
 | .lss=>some (.v (.bool (Op.bytesLess a.toList b.toList)))
 | .leq=>some (.v (.bool (Op.bytesLess a.toList b.toList || a.toList == b.toList)))
 | .gtr=>some (.v (.bool (!(Op.bytesLess a.toList b.toList || a.toList == b.toList))))
 | .geq=>some (.v (.bool (!(Op.bytesLess a.toList b.toList))))
 | _=>Option.none

def eqV (ty:Ty) (x y:D):Option Bool:=
 match ty,x,y with
 | .bool,.v (.bool a),.v (.bool b)=>some (a == b)
 | .dig,.dg a,.dg b=>some (decide (a=b))
 | .ptr,.v (.pointer Option.none),.v (.pointer b)=>some b.isNone
 | .ptr,.v (.pointer (some _)),.v (.pointer Option.none)=>some false
 | .ptr,.pt _,.v (.pointer Option.none)=>some false
 | .ptr,.v (.pointer Option.none),.pt _=>some false
 | .iface,.v (.iface _ _),.v .nilIface=>some false
 | .iface,.v .nilIface,.v (.iface _ _)=>some false
 | .slice _,.sl .nil _,.sl .nil _=>some true
 | .slice _,.sl (.own _ _ _) _,.sl .nil _=>some false
 | .fn,.v (.func _ _ _),.v .nilFunc=>some false
 | .fn,.fn _ _,.v .nilFunc=>some false
 | .fn,.v .nilFunc,.v .nilFunc=>some true
 | _,_,_=>Option.none

def binV (T:TypeId→Ty) (op:BinOp) (t:TypeId) (x y:D):Option D:=
 match op,x,y with
 | .shl,_,_=>Option.none
 | .shr,_,_=>Option.none
 | op,.v (.int k a),.v (.int k' b)=>if k=k' then intV op k a b else Option.none
 | op,.v (.string a),.v (.string b)=>strV op a b
 | .eql,.agg ds,.agg es=>(match cmpTys t with | some ks=>(eq1V ks (.agg ds) (.agg es)).map fun b=>.v (.bool b) | Option.none=>Option.none)
 | .neq,.agg ds,.agg es=>(match cmpTys t with | some ks=>(eq1V ks (.agg ds) (.agg es)).map fun b=>.v (.bool (!b)) | Option.none=>Option.none)
 | .eql,x,y=>(eqV (T t) x y).map fun b=>.v (.bool b)
 | .neq,x,y=>(eqV (T t) x y).map fun b=>.v (.bool (!b))
 | _,_,_=>Option.none

section
variable {P : Program} {T : TypeId → Ty} {w : World} {I : Nat → Nat → Prop}

theorem intV_ok {op:BinOp} {k:IntKind} {a b:Int} {d:D} (h:intV op k a b=some d) {t:TypeId} (hs:op≠.shl∧op≠.shr):Yields P w I (binOp op t (.int k a) (.int k b)) d:=by
 cases op <;> simp only [intV,Option.some.injEq,reduceCtorEq] at h <;> first
  | (subst h;exact ⟨_,rfl,RVal.vv rfl⟩)
  | (split at h;cases h;rename_i hb;simp only [Option.some.injEq] at h;subst h;refine ⟨_,?_,RVal.vv rfl⟩;simp [binOp,Op.intDiv,hb])
  | (subst h;refine ⟨_,?_,RVal.vv rfl⟩;simp [binOp,Op.intArith,Op.intCmp];done)

theorem strV_ok {op : BinOp} {a b : ByteArray} {d : D} (h : strV op a b = some d) {t : TypeId} : Yields P w I (binOp op t (.string a) (.string b)) d := by
  cases op <;> simp only [strV, Option.some.injEq, reduceCtorEq] at h <;> first
    | (subst h; exact ⟨_, rfl, RVal.vv rfl⟩)
    | (split at h
       · rename_i hb
         simp only [Option.some.injEq] at h
         subst h
         refine ⟨.string (a ++ b), ?_, RVal.vv rfl⟩
         have hn : ¬ ((a.size + b.size : Nat) : Int) > IntKind.i64.max := by
           have : IntKind.i64.max = 9223372036854775807 := by decide
           omega
         simp only [binOp, Op.stringOp, if_neg hn]
         rfl
       · cases h)

set_option maxHeartbeats 1000000 in
theorem eqV_ok (hT:TysOk P T) {t:TypeId} {x y:D} {r:Bool} (h:eqV (T t) x y=some r) {a b:Value} (ha:RVal w I x a) (hb:RVal w I y b):(Op.equal t a b).run P w=.ok r w:=by
 have hk:∀ ty,T t=ty→ty≠.other→TyOk P t ty:=fun ty e hne=>e ▸ hT t (e ▸ hne)
 suffices key:∀ n,(Op.equalIn (n+2) t a b).run P w=.ok r w from key 9998
 intro n
 unfold eqV at h
 split at h
 ·rename_i e
  obtain ⟨d,h1,h2⟩:=(hk _ e (by simp)).desc
  unfold RVal at ha hb
  obtain ⟨rfl,-⟩:=ha
  obtain ⟨rfl,-⟩:=hb
  simp only [Ty.isDesc] at h2
  subst h2
  simp only [Option.some.injEq] at h
  (rw [Op.equalIn,Sem.run_bind,run_underlying h1,Result.andThen_ok,← h];rfl)
 ·rename_i e
  obtain ⟨d,h1,h2⟩:=(hk _ e (by simp)).desc
  unfold RVal at ha hb
  subst ha hb
  simp only [Ty.isDesc] at h2
  obtain ⟨e2,rfl,h3,h4⟩:=h2
  rename_i x y
  have:=run_equalIn_u8 (P:=P) w n t 32 e2 h1 h3 h4 x.l y.l x.h y.h
  simp only [Option.some.injEq] at h
  rw [← h,show (decide (x=y))=(x.l == y.l) by rw [Bool.eq_iff_iff];simp;exact ⟨fun h=>by rw [h],Dg.ext'⟩]
  exact this
 all_goals first
  | (cases h;done)
  | skip
 all_goals
  rename_i e
  obtain ⟨d,h1,h2⟩:=(hk _ e (by simp)).desc
  simp only [Ty.isDesc] at h2
  simp only [Option.some.injEq,reduceCtorEq] at h
 ·obtain ⟨e2,rfl⟩:=h2
  unfold RVal at ha hb
  obtain ⟨rfl,-⟩:=ha
  obtain ⟨rfl,-⟩:=hb
  (rw [Op.equalIn,Sem.run_bind,run_underlying h1,Result.andThen_ok,← h];rfl)
 ·obtain ⟨e2,rfl⟩:=h2
  unfold RVal at ha hb
  obtain ⟨rfl,-⟩:=ha
  obtain ⟨rfl,-⟩:=hb
  (rw [Op.equalIn,Sem.run_bind,run_underlying h1,Result.andThen_ok,← h];rfl)
 ·obtain ⟨e2,rfl⟩:=h2
  unfold RVal at ha hb
  obtain ⟨rfl,-⟩:=hb
  unfold RV at ha
  obtain ⟨b,o,ys,hx,-⟩:=ha
  simp only [List.cons.injEq,and_true] at hx
  subst hx
  (rw [Op.equalIn,Sem.run_bind,run_underlying h1,Result.andThen_ok,← h];rfl)
 ·obtain ⟨e2,rfl⟩:=h2
  unfold RVal at ha hb
  obtain ⟨rfl,-⟩:=ha
  unfold RV at hb
  obtain ⟨b,o,ys,hx,-⟩:=hb
  simp only [List.cons.injEq,and_true] at hx
  subst hx
  (rw [Op.equalIn,Sem.run_bind,run_underlying h1,Result.andThen_ok,← h];rfl)
 ·obtain ⟨e2,rfl⟩:=h2
  unfold RVal at ha hb
  obtain ⟨rfl,-⟩:=ha
  obtain ⟨rfl,-⟩:=hb
  (rw [Op.equalIn,Sem.run_bind,run_underlying h1,Result.andThen_ok,← h];rfl)
 ·obtain ⟨e2,rfl⟩:=h2
  unfold RVal at ha hb
  obtain ⟨rfl,-⟩:=ha
  obtain ⟨rfl,-⟩:=hb
  (rw [Op.equalIn,Sem.run_bind,run_underlying h1,Result.andThen_ok,← h];rfl)
 ·subst h2
  unfold RVal RV at ha hb
  obtain ⟨a1,n1,c1,hx,-,-,ht,-⟩:=ha
  obtain ⟨a2,n2,c2,hy,-,-,ht2,-⟩:=hb
  simp only [List.cons.injEq,and_true] at hx hy
  unfold TagOk at ht ht2
  subst hx hy ht ht2
  (rw [Op.equalIn,Sem.run_bind,run_underlying h1,Result.andThen_ok,← h];rfl)
 ·subst h2
  unfold RVal RV at ha hb
  obtain ⟨a1,n1,c1,hx,-,-,ht,-⟩:=ha
  obtain ⟨a2,n2,c2,hy,-,-,ht2,-⟩:=hb
  simp only [List.cons.injEq,and_true] at hx hy
  unfold TagOk at ht ht2
  obtain ⟨ht,-⟩:=ht
  subst hx hy ht ht2
  (rw [Op.equalIn,Sem.run_bind,run_underlying h1,Result.andThen_ok,← h];rfl)
 ·obtain ⟨_,_,_,rfl⟩:=h2
  unfold RVal at ha hb
  obtain ⟨rfl,-⟩:=ha
  obtain ⟨rfl,-⟩:=hb
  (rw [Op.equalIn,Sem.run_bind,run_underlying h1,Result.andThen_ok,← h];rfl)
 ·obtain ⟨_,_,_,rfl⟩:=h2
  unfold RVal at ha hb
  unfold RV at ha
  obtain ⟨xs,hx,-⟩:=ha
  simp only [List.cons.injEq,and_true] at hx
  obtain ⟨rfl,-⟩:=hb
  subst hx
  (rw [Op.equalIn,Sem.run_bind,run_underlying h1,Result.andThen_ok,← h];rfl)
 ·obtain ⟨_,_,_,rfl⟩:=h2
  unfold RVal at ha hb
  obtain ⟨rfl,-⟩:=ha
  obtain ⟨rfl,-⟩:=hb
  (rw [Op.equalIn,Sem.run_bind,run_underlying h1,Result.andThen_ok,← h];rfl)
end


theorem fold_set (off:Nat):∀ (l:List Value) (k:Nat) (cs:Array Value),off+k+l.length≤cs.size →
  ((l.zipIdx k).foldl (fun cs (x:Value×Nat)=>cs.setIfInBounds (off+x.2) x.1) cs)=(cs.toList.take (off+k)++l++cs.toList.drop (off+k+l.length)).toArray
 | [],k,cs,h=>by simp
 | v::l,k,cs,h=>by
  simp only [List.zipIdx_cons,List.foldl_cons]
  rw [fold_set off l (k+1) _ (by simp at h ⊢;omega)]
  simp only [List.length_cons] at h
  apply Array.ext'
  simp only [Array.toList_setIfInBounds,List.length_cons]
  have hlt:off+k<cs.toList.length:=by simp;omega
  rw [show off+(k+1)=off+k+1 by omega,List.take_add_one,List.getElem?_set_self hlt,List.take_set_of_le (by omega),List.drop_set_of_lt (by omega)]
  simp
  omega

section
variable {P : Program} {T : TypeId → Ty} {w : World} {I : Nat → Nat → Prop}
theorem RVs.set:∀ (ds:List D) (us:List Value) (i:Nat) (e:D),RVs w I ds us→ds[i]?=some e→∃ xs ys zs,us=xs++ys++zs∧xs.length=D.sizes (ds.take i)∧RV w I e ys∧∀ d ys',RV w I d ys'→RVs w I (ds.set i d) (xs++ys'++zs)
 | [],us,i,e,h,hi=>by simp at hi
 | x::ds,us,0,e,h,hi=>by
  simp only [List.getElem?_cons_zero,Option.some.injEq] at hi
  subst hi
  unfold RVs at h
  obtain ⟨pp,qq,rfl,h1,h2⟩:=h
  exact ⟨[],pp,qq,by simp,by simp [D.sizes],h1,fun d ys' hd=>by simp only [List.set_cons_zero,List.nil_append];unfold RVs;exact ⟨ys',qq,rfl,hd,h2⟩⟩
 | x::ds,us,i+1,e,h,hi=>by
  simp only [List.getElem?_cons_succ] at hi
  unfold RVs at h
  obtain ⟨pp,qq,rfl,h1,h2⟩:=h
  obtain ⟨xs,ys,zs,rfl,h3,h4,h5⟩:=RVs.set ds qq i e h2 hi
  exact ⟨pp++xs,ys,zs,by simp,by simp only [List.length_append,RV.len x pp h1,h3,List.take_succ_cons,D.sizes],h4,fun d ys' hd=>by
   simp only [List.set_cons_succ];unfold RVs;exact ⟨pp,xs++ys'++zs,by simp,h1,h5 d ys' hd⟩⟩

def layDs:List D→List (Nat×D)→Option (List D)
 | ds,[]=>some ds
 | ds,(i,d)::ps=>
  match ds[i]? with
  | some e=>if e.size=d.size∧d.lies=true then layDs (ds.set i d) ps else Option.none
  | Option.none=>Option.none

theorem sizes_set:∀ (ds:List D) (i:Nat) (e d:D),ds[i]?=some e→e.size=d.size→∀ k,D.sizes ((ds.set i d).take k)=D.sizes (ds.take k)
 | [],i,e,d,h,_,k=>by simp at h
 | x::ds,0,e,d,h,hs,k=>by
  simp only [List.getElem?_cons_zero,Option.some.injEq] at h
  subst h
  cases k with
  | zero=>simp
  | succ k=>simp only [List.set_cons_zero,List.take_succ_cons,D.sizes,hs]
 | x::ds,i+1,e,d,h,hs,k=>by
  simp only [List.getElem?_cons_succ] at h
  cases k with
  | zero=>simp
  | succ k=>simp only [List.set_cons_succ,List.take_succ_cons,D.sizes,sizes_set ds i e d h hs k]

theorem fill_ok (place:Nat→Option (Nat×Nat)):∀ (ps:List (Nat×D)) (vs:List (Nat×Value)) (ds es:List D) (us:List Value),RVs w I ds us→layDs ds ps=some es→ps.length=vs.length →
  (∀ (j:Nat) (p:Nat×D) (v:Nat×Value),ps[j]?=some p→vs[j]?=some v→p.1=v.1∧RVal w I p.2 v.2)→(∀ k e,ds[k]?=some e→place k=some (D.sizes (ds.take k),e.size)) →
  ∃ ys:List Value,Instr.fill place us.toArray vs=some ys.toArray∧RVs w I es ys
 | [],[],ds,es,us,h,hl,_,_,_=>by
  simp only [layDs,Option.some.injEq] at hl
  subst hl
  exact ⟨us,rfl,h⟩
 | (i,d)::ps,(j,v)::vs,ds,es,us,h,hl,hn,hp,hpl=>by
  have h0:=hp 0 (i,d) (j,v) rfl rfl
  obtain ⟨h01,h02⟩:=h0
  simp only at h01 h02
  subst h01
  unfold layDs at hl
  split at hl
  ·rename_i e he
   split at hl
   ·rename_i hc
    obtain ⟨hc1,hc2⟩:=hc
    obtain ⟨xs,ys,zs,rfl,h3,h4,h5⟩:=RVs.set ds us i e h he
    have hv:=h02.cells hc2
    have hvl:=RV.len _ _ hv
    have hyl:=RV.len _ _ h4
    have hr:=h5 d _ hv
    unfold Instr.fill
    rw [hpl i e he]
    simp only
    have hsz:v.cells.size=e.size:=by rw [hc1,← hvl];simp
    have hle:¬ ((decide (v.cells.size≠e.size) || decide (D.sizes (ds.take i)+v.cells.size > (xs++ys++zs).toArray.size))=true):=by
     simp only [List.size_toArray,List.length_append,h3,hyl,hsz]
     simp
    rw [if_neg hle]
    have hfold:(v.cells.zipIdx.foldl (fun cs (x:Value×Nat)=>cs.setIfInBounds (D.sizes (ds.take i)+x.2) x.1) (xs++ys++zs).toArray)=(xs++v.cells.toList++zs).toArray:=by
     rw [← Array.foldl_toList,Array.toList_zipIdx,fold_set (D.sizes (ds.take i)) v.cells.toList 0 _ (by simp only [List.size_toArray,List.length_append,h3,hyl,Array.length_toList,hsz];omega)]
     congr 1
     simp only [Nat.add_zero,← h3,Array.length_toList,hsz,← hyl,List.append_assoc,List.take_left,← List.length_append]
     rw [← List.append_assoc xs ys zs,List.drop_left]
    have hfold':=hfold
    obtain ⟨ws,h6,h7⟩:=fill_ok place ps vs (ds.set i d) es _ hr hl (by simpa using hn) (fun j p v hpj hvj=>hp (j+1) p v (by simpa using hpj) (by simpa using hvj)) (fun k e' hk=>by
     rw [sizes_set ds i e d he hc1 k]
     by_cases hki:k=i
     ·subst hki
      have hlt:k<ds.length:=(List.getElem?_eq_some_iff.1 he).1
      rw [List.getElem?_set_self hlt] at hk
      simp only [Option.some.injEq] at hk
      subst hk
      rw [hpl k e he,hc1]
     ·rw [List.getElem?_set_ne (fun h=>hki h.symm)] at hk
      exact hpl k e' hk)
    exact ⟨ws,by rw [← h6];congr 1,h7⟩
   ·cases hl
  ·cases hl
 | [],_::_,_,_,_,_,_,hn,_,_=>by simp at hn
 | _::_,[],_,_,_,_,_,hn,_,_=>by simp at hn

def layBs:Dg→List (Nat×D)→Option Dg
 | d,[]=>some d
 | d,(i,x)::ps=>match x with
  | .v (.int .u8 n)=>if i<32∧0≤n∧n<256 then layBs (d.setB i n.toNat) ps else Option.none
  | _=>Option.none

theorem bC_setU:∀ (l:Bs) (i n:Nat),n<256→(bC l).set i (.int .u8 (n:Nat))=bC (l.set i (UInt8.ofNat n))
 | [],_,_,_=>rfl
 | x::l,0,n,h=>by simp only [bC,List.map_cons,List.set_cons_zero,List.cons.injEq,and_true,Value.int.injEq,true_and,UInt8.toNat_ofNat'];omega
 | x::l,i+1,n,h=>by
  have:=bC_setU l i n h
  simp only [bC,List.map_cons,List.set_cons_succ,List.cons.injEq,true_and] at this ⊢
  exact this
theorem layBs_fill:∀ (ps:List (Nat×D)) (vs:List (Nat×Value)) (d e:Dg),layBs d ps=some e→ps.length=vs.length →
  (∀ (j:Nat) (p:Nat×D) (v:Nat×Value),ps[j]?=some p→vs[j]?=some v→p.1=v.1∧RVal w I p.2 v.2)→Instr.fill (fun i=>some (i*1,1)) d.c vs=some e.c
 | [],[],d,e,h,_,_=>by
  simp only [layBs,Option.some.injEq] at h
  subst h;rfl
 | (i,x)::ps,(j,v)::vs,d,e,h,hn,hp=>by
  obtain ⟨h1,h2⟩:=hp 0 (i,x) (j,v) rfl rfl
  simp only at h1 h2
  subst h1
  unfold layBs at h
  split at h
  ·rename_i n
   split at h
   ·rename_i hc
    unfold RVal at h2
    obtain ⟨rfl,-⟩:=h2
    have ih:=layBs_fill ps vs (d.setB i n.toNat) e h (by simpa using hn) (fun j p v hpj hvj=>hp (j+1) p v (by simpa using hpj) (by simpa using hvj))
    have hcs:d.c.size=32:=by simp [Dg.c,bC_length,d.h]
    have hset:d.c.setIfInBounds i (.int .u8 n)=(d.setB i n.toNat).c:=by
     apply Array.ext'
     obtain ⟨m,rfl⟩:=Int.eq_ofNat_of_zero_le hc.2.1
     have:=bC_setU d.l i m (by omega)
     simpa [Dg.c,Dg.setB] using this
    have hvs:(Value.int .u8 n).cells.size=1:=rfl
    have hle:¬ ((decide ((Value.int .u8 n).cells.size≠1) || decide (i*1+(Value.int .u8 n).cells.size > d.c.size))=true):=by
     rw [hvs,hcs];simp;omega
    have hfold:((Value.int .u8 n).cells.zipIdx.foldl (fun cs (x:Value×Nat)=>cs.setIfInBounds (i*1+x.2) x.1) d.c)=d.c.setIfInBounds i (.int .u8 n):=by
     rw [← Array.foldl_toList,Array.toList_zipIdx]
     show d.c.setIfInBounds (i*1+0) _=_
     rw [Nat.mul_one,Nat.add_zero]
    unfold Instr.fill
    simp only
    rw [if_neg hle,← ih,← hset,← hfold]
   ·cases h
  ·cases h
 | [],_::_,_,_,_,hn,_=>by simp at hn
 | _::_,[],_,_,_,hn,_=>by simp at hn

def buildV (ty:Ty) (ps:List (Nat×D)):Option D:=
 match ty with
 | .struct zs=>(layDs zs ps).map .agg
 | .arr _ zs=>(layDs zs ps).map .agg
 | .dig=>(layBs Dg.zero ps).map .dg
 | _=>Option.none

theorem mapM_run {α β:Type} (f:α→Sem β) (g:α→β) (l:List α) (h:∀ a∈l,(f a).run P w=.ok (g a) w):(l.mapM f).run P w=.ok (l.map g) w:=by
 induction l with
 | nil=>rfl
 | cons a l ih=>
  rw [List.mapM_cons,Sem.run_bind,h a List.mem_cons_self,Result.andThen_ok,Sem.run_bind,ih (fun b hb=>h b (List.mem_cons_of_mem _ hb))]
  rfl

theorem buildV_ok (hT:TysOk P T) {t:TypeId} {ps:List (Nat×D)} {d:D} (h:buildV (T t) ps=some d) (vs:List (Nat×Value)) (hn:ps.length=vs.length)
  (hp:∀ (j:Nat) (p:Nat×D) (v:Nat×Value),ps[j]?=some p→vs[j]?=some v→p.1=v.1∧RVal w I p.2 v.2):Yields P w I (Instr.build t vs.toArray) d:=by
 unfold buildV at h
 split at h
 ·rename_i zs e
  have ok:=hT t (by rw [e];simp)
  rw [e] at ok
  obtain ⟨dd,h1,h2⟩:=ok.desc
  simp only [Ty.isDesc] at h2
  obtain ⟨F,rfl,h3,h4⟩:=h2
  obtain ⟨z,h5,h6⟩:=ok.run_zero w
  have h6':=h6 w I
  simp only [Ty.zero] at h6'
  unfold RVal at h6'
  obtain ⟨us,rfl,h7⟩:=h6'
  cases hl:layDs zs ps with
  | none=>rw [hl] at h;cases h
  | some es=>
   rw [hl] at h
   simp only [Option.map_some,Option.some.injEq] at h
   subst h
   have hF:∀ k (hk:k<F.size),∃ z j,zs[k]?=some z∧F[k].offset=D.sizes (zs.take k)∧P.info? F[k].type=some j∧j.size=z.size:=fun k hk=>by
    obtain ⟨z,j,dd,a,b,c,d,_⟩:=h4 k F[k] (Array.getElem?_eq_getElem hk)
    exact ⟨z,j,a,b,c,d⟩
   let g:Field→Nat×Nat:=fun f=>(f.offset,((P.info? f.type).map (·.size)).getD 0)
   have hm:(F.mapM fun (f:Field)=>(do pure (f.offset,← sizeOf f.type):Sem (Nat×Nat))).run P w=.ok (F.map g) w:=by
    rw [← Array.toArray_toList (xs:=F),List.mapM_toArray]
    have:(F.toList.mapM fun (f:Field)=>(do pure (f.offset,← sizeOf f.type):Sem (Nat×Nat))).run P w=.ok (F.toList.map g) w:=by
     refine mapM_run _ g F.toList (fun f hf=>?_)
     obtain ⟨k,hk⟩:=List.getElem?_of_mem hf
     obtain ⟨z,j,dd,a,b,c,d,_⟩:=h4 k f (by simpa using hk)
     simp [g,c,sizeOf,typeInfo]
    rw [Sem.run_map,this]
    simp only [Result.andThen_ok]
    congr 1
    apply Array.ext'
    simp
   obtain ⟨ys,h8,h9⟩:=fill_ok (fun k=>(F.map g)[k]?) ps vs zs es us h7 hl hn hp (fun k e' hk=>by
    have hlt:k<F.size:=by rw [h3];exact (List.getElem?_eq_some_iff.1 hk).1
    obtain ⟨z,j,a,b,c,dd⟩:=hF k hlt
    rw [a] at hk
    simp only [Option.some.injEq] at hk
    subst hk
    simp only [Array.getElem?_map,Array.getElem?_eq_getElem hlt,Option.map_some,g,b,c,dd,Option.getD_some])
   refine ⟨.agg ys.toArray,?_,by unfold RVal;exact ⟨ys,rfl,h9⟩⟩
   unfold Instr.build
   rw [Sem.run_bind,h5,Result.andThen_ok,Sem.run_bind,run_underlying h1,Result.andThen_ok]
   simp only [Sem.run_bind,Value.cells]
   rw [hm]
   simp only [Result.andThen_ok]
   rw [h8]
   rfl
 ·rename_i e0 zs e
  have ok:=hT t (by rw [e];simp)
  rw [e] at ok
  obtain ⟨dd,h1,h2⟩:=ok.desc
  simp only [Ty.isDesc] at h2
  obtain ⟨j,rfl,h3,d2,h4,h5⟩:=h2
  obtain ⟨z,h6,h7⟩:=ok.run_zero w
  have h7':=h7 w I
  simp only [Ty.zero] at h7'
  unfold RVal at h7'
  obtain ⟨us,rfl,h8⟩:=h7'
  cases hl:layDs zs ps with
  | none=>rw [hl] at h;cases h
  | some es=>
   rw [hl] at h
   simp only [Option.map_some,Option.some.injEq] at h
   subst h
   obtain ⟨ys,h9,h10⟩:=fill_ok (fun k=>some (k*j.size,j.size)) ps vs zs es us h8 hl hn hp (fun k e' hk=>by
    have hlt:k<zs.length:=(List.getElem?_eq_some_iff.1 hk).1
    rw [(h5 e' (List.mem_of_getElem? hk)).1]
    have hc:∀ (l:List D),(∀ z∈l,z.size=j.size)→D.sizes l=l.length*j.size:=fun l=>by
     induction l with
     | nil=>intro _;simp [D.sizes]
     | cons x l ih=>intro hz;simp only [D.sizes,List.length_cons,hz x List.mem_cons_self,ih (fun z h=>hz z (List.mem_cons_of_mem _ h)),Nat.add_mul,Nat.one_mul];omega
    rw [hc (zs.take k) (fun z h=>(h5 z (List.mem_of_mem_take h)).1),List.length_take,Nat.min_eq_left (by omega)])
   refine ⟨.agg ys.toArray,?_,by unfold RVal;exact ⟨ys,rfl,h10⟩⟩
   unfold Instr.build
   rw [Sem.run_bind,h6,Result.andThen_ok,Sem.run_bind,run_underlying h1,Result.andThen_ok]
   simp only [Sem.run_bind,Value.cells,sizeOf,typeInfo,run_program,h3,Result.andThen_ok,Sem.run_pure]
   rw [h9]
   rfl
 ·rename_i e
  obtain ⟨g,hg,rfl⟩:=Option.map_eq_some_iff.1 h
  have ok:=hT t (by rw [e];simp)
  rw [e] at ok
  obtain ⟨dd,h1,h2⟩:=ok.desc
  simp only [Ty.isDesc] at h2
  obtain ⟨ee,rfl,h3,h4⟩:=h2
  obtain ⟨z,h5,h6⟩:=ok.run_zero w
  have h6':=h6 w I
  simp only [Ty.zero] at h6'
  unfold RVal at h6'
  subst h6'
  refine ⟨.agg g.c,?_,by unfold RVal;rfl⟩
  cases hq:P.info? ee with
  | none=>rw [hq] at h4;cases h4
  | some i=>
   have hi1:i.size=1:=by rw [hq] at h4;simpa using h4
   unfold Instr.build
   rw [Sem.run_bind,h5,Result.andThen_ok,Sem.run_bind,run_underlying h1,Result.andThen_ok]
   simp only [Sem.run_bind,Value.cells,sizeOf,typeInfo,run_program,hq,Result.andThen_ok,Sem.run_pure,hi1]
   rw [layBs_fill ps vs Dg.zero g hg hn hp]
   rfl
 ·cases h
end

end Go.Proofs.YtgjaaffheanobaaGreat