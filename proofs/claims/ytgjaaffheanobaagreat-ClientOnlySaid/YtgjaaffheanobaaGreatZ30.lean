/- Lists are read: the plain parser; what a closure that reads one thing does. -/
import Derived.Test.YtgjaaffheanobaaGreatZ6
import Derived.Test.YtgjaaffheanobaaGreatZ29
import Derived.Great.BuildSlice
namespace Go.Proofs.YtgjaaffheanobaaGreat
set_option linter.unusedVariables false
set_option linter.unusedSimpArgs false
open Go Go.RowKit

section
variable {α T : Type}
def manyP (step:α→Bs→Option (α×T×Bs)):Nat→α→Bs→Option (α×List T×Bs)
 | 0,x,l=>some (x,[],l)
 | k+1,x,l=>match step x l with
  | none=>none
  | some (x',t,l')=>match manyP step k x' l' with
   | none=>none
   | some (x'',ts,l'')=>some (x'',t::ts,l'')

def Mid (step:α→Bs→Option (α×T×Bs)) (n:Nat) (x0:α) (l0:Bs) (k:Nat) (x:α) (ts:List T) (l:Bs):Prop:=
 k≤n∧ts.length=k∧manyP step n x0 l0=(manyP step (n - k) x l).map fun r=>(r.1,ts++r.2.1,r.2.2)

theorem Mid.start (step:α→Bs→Option (α×T×Bs)) (n:Nat) (x0:α) (l0:Bs):Mid step n x0 l0 0 x0 [] l0:=
 ⟨Nat.zero_le _,rfl,by cases h:manyP step n x0 l0 <;> simp [h]⟩
theorem Mid.step {step:α→Bs→Option (α×T×Bs)} {n:Nat} {x0:α} {l0:Bs} {k:Nat} {x x':α} {ts:List T} {t:T} {l l':Bs} (h:Mid step n x0 l0 k x ts l) (hk:k<n) (hs:step x l=some (x',t,l')) :
  Mid step n x0 l0 (k+1) x' (ts++[t]) l':=by
 refine ⟨hk,by simp [h.2.1],?_⟩
 rw [h.2.2,show n - k=(n - (k+1))+1 by omega]
 simp only [manyP,hs]
 cases manyP step (n - (k+1)) x' l' <;> simp
theorem Mid.fail {step:α→Bs→Option (α×T×Bs)} {n:Nat} {x0:α} {l0:Bs} {k:Nat} {x:α} {ts:List T} {l:Bs} (h:Mid step n x0 l0 k x ts l) (hk:k<n) (hs:step x l=none) :
  manyP step n x0 l0=none:=by
 rw [h.2.2,show n - k=(n - (k+1))+1 by omega]
 simp [manyP,hs]
theorem Mid.done {step:α→Bs→Option (α×T×Bs)} {n:Nat} {x0:α} {l0:Bs} {x:α} {ts:List T} {l:Bs} (h:Mid step n x0 l0 n x ts l) :
  manyP step n x0 l0=some (x,ts,l):=by
 rw [h.2.2,Nat.sub_self];simp [manyP]

structure St (b:Nat) (J:α→World→List Nat→Prop):Prop where
 kp:∀ {x w w' fp S},J x w fp→Kp S w w'→(∀ g∈fp,g ∉ S)→J x w' fp
 lt:∀ {x w fp},J x w fp→∀ g∈fp,g<w.heap.size∧g≠b

end

def bsBig (t:TypeId) (v:Value):Sem Next:=do pure (.value (← Instr.buildSlice t 1 #[(0,v)]))
def slowBs (P:Program) (t:TypeId) (v:Value) (w:World):Result Next:=(bsBig t v).run P w
theorem run_bsBig (P:Program) (t e:TypeId) (n:Nat) (z:Value) (bytes:Nat) (hu:P.underlying t=some (.slice e)) (hi:(P.info? e).map (fun i=>(i.zero,i.size,i.bytes))=some (some z,n,bytes)) (hz:z.cells.size=n) (h0:0<n) (h24:n≤2 ^ 24) (cs:Array Value) (w:World) :
  (bsBig t (.agg cs)).run P w=if cs.size=n then .ok (.value (.slice (some ⟨w.heap.size,0,none⟩) 1 1)) (w.alloc (.cells cs e)) else slowBs P t (.agg cs) w:=by
 split
 ·rename_i hc
  obtain ⟨ie,hie,hz0,hz1,hz2⟩:=info_parts hi
  obtain ⟨r,hr,hsz,hk⟩:=Great.fill_dense (s:=n) h0 [.agg cs] 0 ((Array.range (1*ie.size)).map (z.cells[· % z.cells.size]!)) (by intro v hv;simp at hv;subst hv;exact hc) (by simp [hz1])
  have hrc:r=cs:=by
   apply Array.ext_getElem?
   intro k
   rw [hk k]
   simp only [Nat.zero_mul,Nat.zero_le,true_and,List.length_singleton,Nat.zero_add,Nat.one_mul,Nat.sub_zero]
   split
   ·rename_i hlt
    rw [Nat.div_eq_of_lt hlt,Nat.mod_eq_of_lt hlt]
    rfl
   ·rename_i hlt
    rw [Array.getElem?_eq_none (by simp [hz1];omega),Array.getElem?_eq_none (by omega)]
  subst hrc
  have:=run_buildSlice (P:=P) w t e 1 #[(0,.agg r)] r ie z hu hie hz0 (by rw [hz1];omega) (by rw [hz1];omega) (by rw [hz1];rw [hz1] at hr;exact hr)
  simp [bsBig,Sem.run_bind,this]
 ·rfl

theorem Tryz.infoKid:(Tryz.prog.info? 213).map (fun i=>(i.zero,i.size,i.bytes))=some (some (.agg Kd.zero.c),33,36):=by
 rw [zero33,zero32];kernel_rfl

@[go_sem ↓] theorem exec_bs_kd (a:Act) (dst:Option Tmp) (x:Operand) (ty:TypeId) (pos:String) (after:Array Edge) (guard:Option (Nat×Bool)) :
  execOp a.eval { dst,op:=.buildSlice 204 1 #[(0,x)],type:=ty,pos,after,guard }=bsBig 204 (a.eval x):=by simp [execOp,bsBig]
@[go_sem] theorem run_bs_kd (cs:Array Value) (w:World):(bsBig 204 (.agg cs)).run Tryz.prog w=if cs.size=33 then .ok (.value (.slice (some ⟨w.heap.size,0,none⟩) 1 1)) (w.alloc (.cells cs 213)) else slowBs Tryz.prog 204 (.agg cs) w:=
 run_bsBig Tryz.prog 204 213 33 _ _ Tryz.underlying204 Tryz.infoKid (Kd.c_size Kd.zero) (by omega) (by omega) cs w
theorem Kd.c_one (k:Kd):∀ v∈k.c.toList,v.oneCell'=true:=by
 intro v hv
 simp only [Kd.c,List.mem_cons] at hv
 rcases hv with rfl | hv
 ·rfl
 ·exact bC_one _ v hv

@[go_sem] theorem neq_nilf_rp (f:Fn) (x y:Array Value) (w:World):(binOp .neq 270 (.func f x y) .nilFunc).run Tryz.prog w=.ok (.bool true) w:=run_neq_nilf w _ _ _ _ f x y Tryz.underlying270
@[go_sem] theorem neq_nilf_rk (f:Fn) (x y:Array Value) (w:World):(binOp .neq 273 (.func f x y) .nilFunc).run Tryz.prog w=.ok (.bool true) w:=run_neq_nilf w _ _ _ _ f x y Tryz.underlying273

end Go.Proofs.YtgjaaffheanobaaGreat