/- Lists are read: the plain parser; what a closure that reads one thing does. -/
import Derived.Test.YtcaggadjkccbiaaGreatZ10
import Derived.Test.YtcaggadjkccbiaaGreatZ17
import Derived.Great.BuildSlice
namespace Go.Proofs.YtcaggadjkccbiaaGreat
set_option linter.unusedVariables false
set_option linter.unusedSimpArgs false
open Go Go.RowKit

section
variable {α T : Type}
def manyP (step:α→Bs→Option (α×T×Bs)):Nat→α→Bs→Option (α×List T×Bs)
 | 0,x,l=>some (x,[],l)
 | k+1,x,l=>match step x l with
  | none=>none
  | some (x',t,l')=>match manyP step k x' l' with
   | none=>none
   | some (x'',ts,l'')=>some (x'',t::ts,l'')

def listP (m:Nat) (step:α→Bs→Option (α×T×Bs)) (x:α) (l:Bs):Option (α×List T×Bs):=
 match freeP m l with
 | none=>none
 | some (n,l')=>if n≤l'.length then manyP step n x l' else none

def Mid (step:α→Bs→Option (α×T×Bs)) (n:Nat) (x0:α) (l0:Bs) (k:Nat) (x:α) (ts:List T) (l:Bs):Prop:=
 k≤n∧ts.length=k∧manyP step n x0 l0=(manyP step (n - k) x l).map fun r=>(r.1,ts++r.2.1,r.2.2)

theorem Mid.start (step:α→Bs→Option (α×T×Bs)) (n:Nat) (x0:α) (l0:Bs):Mid step n x0 l0 0 x0 [] l0:=
 ⟨Nat.zero_le _,rfl,by cases h:manyP step n x0 l0 <;> simp [h]⟩
theorem Mid.step {step:α→Bs→Option (α×T×Bs)} {n:Nat} {x0:α} {l0:Bs} {k:Nat} {x x':α} {ts:List T} {t:T} {l l':Bs} (h:Mid step n x0 l0 k x ts l) (hk:k<n) (hs:step x l=some (x',t,l')) :
  Mid step n x0 l0 (k+1) x' (ts++[t]) l':=by
 refine ⟨hk,by simp [h.2.1],?_⟩
 rw [h.2.2,show n - k=(n - (k+1))+1 by omega]
 simp only [manyP,hs]
 cases manyP step (n - (k+1)) x' l' <;> simp
theorem Mid.fail {step:α→Bs→Option (α×T×Bs)} {n:Nat} {x0:α} {l0:Bs} {k:Nat} {x:α} {ts:List T} {l:Bs} (h:Mid step n x0 l0 k x ts l) (hk:k<n) (hs:step x l=none) :
  manyP step n x0 l0=none:=by
 rw [h.2.2,show n - k=(n - (k+1))+1 by omega]
 simp [manyP,hs]
theorem Mid.done {step:α→Bs→Option (α×T×Bs)} {n:Nat} {x0:α} {l0:Bs} {x:α} {ts:List T} {l:Bs} (h:Mid step n x0 l0 n x ts l) :
  manyP step n x0 l0=some (x,ts,l):=by
 rw [h.2.2,Nat.sub_self];simp [manyP]

structure St (b:Nat) (J:α→World→List Nat→Prop):Prop where
 kp:∀ {x w w' fp S},J x w fp→Kp S w w'→(∀ g∈fp,g ∉ S)→J x w' fp
 lt:∀ {x w fp},J x w fp→∀ g∈fp,g<w.heap.size∧g≠b

def OnePost (tv:T→Value) (J:α→World→List Nat→Prop) (b:Nat) (s:Bs) (fp:List Nat) (w:World) (r:Option (α×T×Bs)) (e:Ending) (w':World):Prop:=
 ∃ t x' fp',e=.returned (tv t)∧J x' w' fp'∧Kp (b::fp) w w'∧(∀ g∈fp',g∈fp∨w.heap.size≤g) ∧
  match r with
  | some (x1,t1,l')=>x'=x1∧t=t1∧RdOk w' b s l'
  | none=>RdBad w' b s

def ListPost (cells:T→List Value) (e0:TypeId) (size:Nat) (J:α→World→List Nat→Prop) (b:Nat) (s:Bs) (fp:List Nat) (w:World) (r:Option (α×List T×Bs)) (e:Ending) (w':World):Prop:=
 ∃ a c ts x' fp',e=.returned (.slice a ts.length c)∧Own w' e0 size a ts.length c (ts.flatMap cells)∧J x' w' fp'∧Kp (b::fp) w w'∧(∀ g∈fp',g∈fp∨w.heap.size≤g)∧(∀ g∈ab a,w.heap.size≤g∧g ∉ fp') ∧
  match r with
  | some (x1,ts1,l')=>x'=x1∧ts=ts1∧RdOk w' b s l'
  | none=>ts=[]∧RdBad w' b s

theorem list_round {e0:TypeId} {size b k c:Nat} {J:α→World→List Nat→Prop} {a:Option Addr} {xs:List Value} {x x2:α} {fp fp' fp2:List Nat} {w wr w2 w3:World} {o:Obj}
  (hst:St b J) (hb:b<w.heap.size) (how:Own wr e0 size a k c xs) (hkp:Kp (b::fp) w wr) (hj:J x wr fp') (hfp:∀ g∈fp',g∈fp∨w.heap.size≤g) (hab:∀ g∈ab a,w.heap.size≤g∧g ∉ fp')
  (k2:Kp (b::fp') (wr.alloc o) w2) (hj2:J x2 w2 fp2) (hfp2:∀ g∈fp2,g∈fp'∨(wr.alloc o).heap.size≤g) (k3:Kp [wr.heap.size] w2 w3) :
  Own w3 e0 size a k c xs∧J x2 w3 fp2∧Kp (b::fp) w w3∧(∀ g∈fp2,g∈fp∨w.heap.size≤g)∧(∀ g∈ab a,w.heap.size≤g∧g ∉ fp2)∧b ∉ ab a:=by
 have hz:=hkp.size
 have hal:(wr.alloc o).heap.size=wr.heap.size+1:=by simp
 have hbn:b ∉ ab a:=fun e=>by have:=(hab _ e).1;omega
 refine ⟨?_,?_,?_,?_,?_,hbn⟩
 ·refine ((how.kp ((Kp.refl [] _).alloc o) (by simp)).kp k2 ?_).kp k3 ?_
  ·intro g hg;simp only [List.mem_cons,not_or];exact ⟨fun e=>hbn (e ▸ hg),(hab g hg).2⟩
  ·intro g hg;have:=how.lt g hg;simp;omega
 ·refine hst.kp hj2 k3 ?_
  intro g hg
  rcases hfp2 g hg with h | h
  ·have:=(hst.lt hj g h).1;simp;omega
  ·simp;omega
 ·refine ((hkp.alloc o).from k2 ?_).from k3 ?_
  ·intro g hg
   rcases List.mem_cons.1 hg with rfl | hg
   ·exact .inr (by simp)
   ·rcases hfp g hg with h | h
    ·exact .inr (by simp [h])
    ·exact .inl h
  ·intro g hg;simp at hg;exact .inl (by omega)
 ·intro g hg
  rcases hfp2 g hg with h | h
  ·exact hfp g h
  ·exact .inr (by omega)
 ·intro g hg
  refine ⟨(hab g hg).1,fun h=>?_⟩
  rcases hfp2 g h with h | h
  ·exact (hab g hg).2 h
  ·have:=how.lt g hg;omega
theorem list_round2 {e0:TypeId} {size b k c:Nat} {J:α→World→List Nat→Prop} {a a2:Option Addr} {xs:List Value} {x2:α} {fp fp2:List Nat} {w w3 w4:World} {s l:Bs}
  (hst:St b J) (how:Own w3 e0 size a k c xs) (hj:J x2 w3 fp2) (hkp:Kp (b::fp) w w3) (hab:∀ g∈ab a,w.heap.size≤g∧g ∉ fp2) (hbn:b ∉ ab a) (hr:RdOk w3 b s l)
  (k4:Kp (ab a) w3 w4) (hn:∀ g∈ab a2,g∈ab a∨w3.heap.size≤g) :
  J x2 w4 fp2∧RdOk w4 b s l∧Kp (b::fp) w w4∧(∀ g∈ab a2,w.heap.size≤g∧g ∉ fp2):=by
 have hz:=hkp.size
 refine ⟨hst.kp hj k4 fun g hg h=>(hab g h).2 hg,hr.kp k4 hbn,hkp.from k4 fun g hg=>.inl (hab g hg).1,fun g hg=>?_⟩
 rcases hn g hg with h | h
 ·exact hab g h
 ·exact ⟨by omega,fun hf=>by have:=(hst.lt hj g hf).1;omega⟩
theorem src_row {P:Program} {size:Nat} {tx e':TypeId} (hk:P.underlying tx=some (.slice e')) (w:World) (cs:Array Value) (t:TypeId) (g:Nat) (hg:g=w.heap.size) (hc:cs.size=size) (h1:∀ v∈cs.toList,v.oneCell'=true) :
  Src P size tx (.slice (some ⟨g,0,none⟩) 1 1) 1 cs.toList (w.alloc (.cells cs t)):=
 Src.ofSlice _ hk _ _ _ _ (by simp [hc]) (by
  subst hg
  intro j u hj
  have hb:Blk (w.alloc (.cells cs t)) w.heap.size t cs:=Blk.new w t cs
  have:=hb.cell j
  simpa [Addr.add_lit] using this.trans (by simpa using hj)) h1
end

def bsBig (t:TypeId) (v:Value):Sem Next:=do pure (.value (← Instr.buildSlice t 1 #[(0,v)]))
def slowBs (P:Program) (t:TypeId) (v:Value) (w:World):Result Next:=(bsBig t v).run P w
theorem run_bsBig (P:Program) (t e:TypeId) (n:Nat) (z:Value) (bytes:Nat) (hu:P.underlying t=some (.slice e)) (hi:(P.info? e).map (fun i=>(i.zero,i.size,i.bytes))=some (some z,n,bytes)) (hz:z.cells.size=n) (h0:0<n) (h24:n≤2 ^ 24) (cs:Array Value) (w:World) :
  (bsBig t (.agg cs)).run P w=if cs.size=n then .ok (.value (.slice (some ⟨w.heap.size,0,none⟩) 1 1)) (w.alloc (.cells cs e)) else slowBs P t (.agg cs) w:=by
 split
 ·rename_i hc
  obtain ⟨ie,hie,hz0,hz1,hz2⟩:=info_parts hi
  obtain ⟨r,hr,hsz,hk⟩:=Great.fill_dense (s:=n) h0 [.agg cs] 0 ((Array.range (1*ie.size)).map (z.cells[· % z.cells.size]!)) (by intro v hv;simp at hv;subst hv;exact hc) (by simp [hz1])
  have hrc:r=cs:=by
   apply Array.ext_getElem?
   intro k
   rw [hk k]
   simp only [Nat.zero_mul,Nat.zero_le,true_and,List.length_singleton,Nat.zero_add,Nat.one_mul,Nat.sub_zero]
   split
   ·rename_i hlt
    rw [Nat.div_eq_of_lt hlt,Nat.mod_eq_of_lt hlt]
    rfl
   ·rename_i hlt
    rw [Array.getElem?_eq_none (by simp [hz1];omega),Array.getElem?_eq_none (by omega)]
  subst hrc
  have:=run_buildSlice (P:=P) w t e 1 #[(0,.agg r)] r ie z hu hie hz0 (by rw [hz1];omega) (by rw [hz1];omega) (by rw [hz1];rw [hz1] at hr;exact hr)
  simp [bsBig,Sem.run_bind,this]
 ·rfl

theorem Tryz.infoPair:(Tryz.prog.info? 73).map (fun i=>(i.zero,i.size,i.bytes))=some (some (.agg #[.string ⟨#[]⟩,.string ⟨#[]⟩]),2,32):=by kernel_rfl

theorem wpList_app_pair {w:World} {ops:Array Oper} {rest:List Oper} {o:Oper} {A:Act} {Q:Exit→Act→World→Prop} (hgd:o.guard=none) {s x:Operand} {tx:TypeId}
  (ho:o.op=.call { callee:=.builtin .append,args:=#[s,x],argTypes:=#[46,tx] })
  {a:Option Addr} {n c:Nat} {xs:List Value} (hs:A.eval s=.slice a n c) (hown:Own w 73 2 a n c xs) (m:Nat) (news:List Value) (hsrc:Src Tryz.prog 2 tx (A.eval x) m news w)
  (h63:n+m≤4398046511104)
  (h:∀ a' c' w',Own w' 73 2 a' (n+m) c' (xs++news)→Kp (ab a) w w'→(∀ g∈ab a',g∈ab a∨w.heap.size≤g)→wpList Tryz.prog ops Q rest (A.put o.dst (.slice a' (n+m) c')) w'):wpList Tryz.prog ops Q (o::rest) A w:=by
 obtain ⟨i0,hi,hz0,hz1,hz2⟩:=info_parts Tryz.infoPair
 exact wpList_app w hgd s x 46 tx ho 73 i0 (.agg #[.string ⟨#[]⟩,.string ⟨#[]⟩]) 2 32 Tryz.underlying46 hi hz0 hz1 hz2 rfl a n c xs hs hown m news hsrc (by omega) (by unfold maxLen;omega) h

theorem Tryz.infoKid:(Tryz.prog.info? 150).map (fun i=>(i.zero,i.size,i.bytes))=some (some (.agg Kd.zero.c),33,36):=by
 rw [zero33,zero32];kernel_rfl

theorem wpList_app_kid {w:World} {ops:Array Oper} {rest:List Oper} {o:Oper} {A:Act} {Q:Exit→Act→World→Prop} (hgd:o.guard=none) {s x:Operand} {tx:TypeId}
  (ho:o.op=.call { callee:=.builtin .append,args:=#[s,x],argTypes:=#[85,tx] })
  {a:Option Addr} {n c:Nat} {xs:List Value} (hs:A.eval s=.slice a n c) (hown:Own w 150 33 a n c xs) (m:Nat) (news:List Value) (hsrc:Src Tryz.prog 33 tx (A.eval x) m news w)
  (h63:n+m≤3909374676453)
  (h:∀ a' c' w',Own w' 150 33 a' (n+m) c' (xs++news)→Kp (ab a) w w'→(∀ g∈ab a',g∈ab a∨w.heap.size≤g)→wpList Tryz.prog ops Q rest (A.put o.dst (.slice a' (n+m) c')) w'):wpList Tryz.prog ops Q (o::rest) A w:=by
 obtain ⟨i0,hi,hz0,hz1,hz2⟩:=info_parts Tryz.infoKid
 exact wpList_app w hgd s x 85 tx ho 150 i0 (.agg Kd.zero.c) 33 36 Tryz.underlying85 hi hz0 hz1 hz2 (Kd.c_size Kd.zero) a n c xs hs hown m news hsrc (by omega) (by unfold maxLen;omega) h

@[go_sem ↓] theorem exec_bs_kd (a:Act) (dst:Option Tmp) (x:Operand) (ty:TypeId) (pos:String) (after:Array Edge) (guard:Option (Nat×Bool)) :
  execOp a.eval { dst,op:=.buildSlice 85 1 #[(0,x)],type:=ty,pos,after,guard }=bsBig 85 (a.eval x):=by simp [execOp,bsBig]
@[go_sem] theorem run_bs_kd (cs:Array Value) (w:World):(bsBig 85 (.agg cs)).run Tryz.prog w=if cs.size=33 then .ok (.value (.slice (some ⟨w.heap.size,0,none⟩) 1 1)) (w.alloc (.cells cs 150)) else slowBs Tryz.prog 85 (.agg cs) w:=
 run_bsBig Tryz.prog 85 150 33 _ _ Tryz.underlying85 Tryz.infoKid (Kd.c_size Kd.zero) (by omega) (by omega) cs w
theorem Kd.c_one (k:Kd):∀ v∈k.c.toList,v.oneCell'=true:=by
 intro v hv
 simp only [Kd.c,List.mem_cons] at hv
 rcases hv with rfl | hv
 ·rfl
 ·exact bC_one _ v hv

theorem Tryz.infoStr:(Tryz.prog.info? 9).map (fun i=>(i.zero,i.size,i.bytes))=some (some (.string ⟨#[]⟩),1,16):=by kernel_rfl

theorem wpList_app_str {w:World} {ops:Array Oper} {rest:List Oper} {o:Oper} {A:Act} {Q:Exit→Act→World→Prop} (hgd:o.guard=none) {s x:Operand} {tx:TypeId}
  (ho:o.op=.call { callee:=.builtin .append,args:=#[s,x],argTypes:=#[53,tx] })
  {a:Option Addr} {n c:Nat} {xs:List Value} (hs:A.eval s=.slice a n c) (hown:Own w 9 1 a n c xs) (m:Nat) (news:List Value) (hsrc:Src Tryz.prog 1 tx (A.eval x) m news w)
  (h63:n+m≤8796093022208)
  (h:∀ a' c' w',Own w' 9 1 a' (n+m) c' (xs++news)→Kp (ab a) w w'→(∀ g∈ab a',g∈ab a∨w.heap.size≤g)→wpList Tryz.prog ops Q rest (A.put o.dst (.slice a' (n+m) c')) w'):wpList Tryz.prog ops Q (o::rest) A w:=by
 obtain ⟨i0,hi,hz0,hz1,hz2⟩:=info_parts Tryz.infoStr
 exact wpList_app w hgd s x 53 tx ho 9 i0 (.string ⟨#[]⟩) 1 16 Tryz.underlying53 hi hz0 hz1 hz2 rfl a n c xs hs hown m news hsrc (by omega) (by unfold maxLen;omega) h

theorem step_call {P:Program} {w:World} {ops:Array Oper} {o:Oper} {A:Act} {K:Act→World→Prop} {Q:Exit→Act→World→Prop} {E:Prop} (hgd:o.guard=none) (f:FuncId) {xs:Array Operand} {ts:Array TypeId} (_hop:o.op=.call { callee:=.value (.func f),args:=xs,argTypes:=ts }) (args:Array Value)
  (hrun:(execOp A.eval o).run P w=.ok (.enter f args) w) {post:Ending→World→Prop} (hc:Calls P f args w post) (h:∀ e w',post e w'→∃ v,e=.returned v∧K (A.put o.dst v) w') :
  if Region.wanted o (yielded ops A.tmps)=true then Oper.wp P o A w K Q else E:=by
 have hw:Region.wanted o (yielded ops A.tmps)=true:=by simp [Region.wanted,hgd]
 rw [if_pos hw]
 unfold Oper.wp
 rw [hrun,Oper.upon_enter]
 refine hc.mono fun e w' hh=>?_
 obtain ⟨v,rfl,hk⟩:=h e w' hh
 exact hk

theorem step_app_str {w:World} {ops:Array Oper} {o:Oper} {A:Act} {K:Act→World→Prop} {Q:Exit→Act→World→Prop} {E:Prop} (hgd:o.guard=none) {s x:Operand} {tx:TypeId}
  (ho:o.op=.call { callee:=.builtin .append,args:=#[s,x],argTypes:=#[53,tx] })
  {a:Option Addr} {n c:Nat} {xs:List Value} (hs:A.eval s=.slice a n c) (hown:Own w 9 1 a n c xs) (m:Nat) (news:List Value) {xv:Value} (hx:A.eval x=xv) (hsrc:Src Tryz.prog 1 tx xv m news w)
  (h63:n+m≤8796093022208)
  (h:∀ a' c' w',Own w' 9 1 a' (n+m) c' (xs++news)→Kp (ab a) w w'→(∀ g∈ab a',g∈ab a∨w.heap.size≤g)→K (A.put o.dst (.slice a' (n+m) c')) w') :
  if Region.wanted o (yielded ops A.tmps)=true then Oper.wp Tryz.prog o A w K Q else E:=by
 have hw:Region.wanted o (yielded ops A.tmps)=true:=by simp [Region.wanted,hgd]
 rw [if_pos hw]
 subst hx
 obtain ⟨i0,hi,hz0,hz1,hz2⟩:=info_parts Tryz.infoStr
 exact wp_app w s x 53 tx ho 9 i0 (.string ⟨#[]⟩) 1 16 Tryz.underlying53 hi hz0 hz1 hz2 rfl a n c xs hs hown m news hsrc (by omega) (by unfold maxLen;omega) h

@[go_sem] theorem neq_nilf_rp (f:Fn) (x y:Array Value) (w:World):(binOp .neq 191 (.func f x y) .nilFunc).run Tryz.prog w=.ok (.bool true) w:=run_neq_nilf w _ _ _ _ f x y Tryz.underlying191
@[go_sem] theorem neq_nilf_rk (f:Fn) (x y:Array Value) (w:World):(binOp .neq 195 (.func f x y) .nilFunc).run Tryz.prog w=.ok (.bool true) w:=run_neq_nilf w _ _ _ _ f x y Tryz.underlying195

end Go.Proofs.YtcaggadjkccbiaaGreat