/- Nodes as they lie in memory. -/
import Derived.Test.YtgjaaffheanobaaGreatZ7
import Derived.Test.YtgjaaffheanobaaGreatZ8
namespace Go.Proofs.YtgjaaffheanobaaGreat
set_option linter.unusedVariables false
set_option linter.unusedSimpArgs false
open Go Go.RowKit

structure Kd where
 page:Nat
 sum:Dg
deriving DecidableEq

def Kd.c (k:Kd):Array Value:=(.int .u32 (k.page:Int)::bC k.sum.l).toArray
@[simp,go_sem] theorem Kd.c_size (k:Kd):k.c.size=33:=by simp [Kd.c,bC,k.sum.h]
@[simp,go_sem] theorem okCells_kd (k:Kd):okCells k.c=true:=okCells_of (by
 intro v hv
 simp only [Kd.c,List.mem_cons] at hv
 rcases hv with rfl | hv
 ·rfl
 ·exact bC_one _ v hv)
@[go_sem] theorem Kd.get0 (k:Kd):k.c[0]?=some (.int .u32 (k.page:Int)):=by simp [Kd.c]
@[go_sem] theorem Kd.extract1 (k:Kd):k.c.extract 1 33=k.sum.c:=by
 apply Array.ext'
 simp [Kd.c,Dg.c,List.extract_eq_take_drop]
 exact List.take_of_length_le (by simp [bC,k.sum.h])
@[go_sem] theorem Kd.extract_all (k:Kd):k.c.extract 0 33=k.c:=by simp [Array.extract_eq_self_of_le]
@[go_sem] theorem spl_kd (d e:Kd):spl e.c 0 d.c=d.c:=spl_whole _ _ (by simp)
def Kd.zero:Kd:=⟨0,Dg.zero⟩
theorem zero33:Kd.zero.c=(.int .u32 0::Dg.zero.c.toList).toArray:=by simp [Kd.zero,Kd.c,Dg.c]
@[go_sem ↓] theorem zero_kd (w:World):(zeroValue 213).run Tryz.prog w=.ok (.agg Kd.zero.c) w:=by
 rw [zero33,zero32];kernel_rfl
@[go_sem ↓] theorem exec_load_kd (a:Act) (dst:Option Tmp) (x:Operand) (ty:TypeId) (pos:String) (after:Array Edge) (guard:Option (Nat×Bool)) :
  execOp a.eval { dst,op:=.load 213 x,type:=ty,pos,after,guard }=ldBig 213 (a.eval x):=rfl
@[go_sem ↓] theorem exec_store_kd (a:Act) (dst:Option Tmp) (x y:Operand) (ty:TypeId) (pos:String) (after:Array Edge) (guard:Option (Nat×Bool)) :
  execOp a.eval { dst,op:=.store 213 x y,type:=ty,pos,after,guard }=stBig 213 (a.eval x) (a.eval y):=rfl
@[go_sem] theorem run_load_kd (a:Addr) (w:World):(ldBig 213 (.pointer (some a))).run Tryz.prog w=match rowAt? w a 33 with | some cs=>.ok (.value (.agg cs)) w | none=>slowLd Tryz.prog 213 (.pointer (some a)) w:=
 run_ldBig Tryz.prog 213 33 _ Tryz.underlying213 rfl (by kernel_rfl) a w
@[go_sem] theorem run_store_kd (g o:Nat) (cs:Array Value) (w:World):(stBig 213 (.pointer (some ⟨g,o,none⟩)) (.agg cs)).run Tryz.prog w=match own? w g with | some c=>(if o+33≤c.size∧cs.size=33∧okCells cs=true then .ok .skip (w.setRow g (spl c o cs)) else slowSt Tryz.prog 213 (.pointer (some ⟨g,o,none⟩)) (.agg cs) w) | none=>slowSt Tryz.prog 213 (.pointer (some ⟨g,o,none⟩)) (.agg cs) w:=
 run_stBig Tryz.prog 213 33 (by kernel_rfl) g o cs w

abbrev Pr:=Bs×Bs
structure Nd where
 pairs:List Pr
 seps:List Bs
 kids:List Kd
deriving DecidableEq

def PsAt (w:World) (a:Option Addr) (ps:List Pr):Prop:=∀ i p,ps[i]?=some p→∃ b o,a=some ⟨b,o,none⟩∧b<w.heap.size∧w.cell? ⟨b,o+i*2,none⟩=some (.string ⟨p.1.toArray⟩)∧w.cell? ⟨b,o+i*2+1,none⟩=some (.string ⟨p.2.toArray⟩)
def SsAt (w:World) (a:Option Addr) (ss:List Bs):Prop:=∀ i p,ss[i]?=some p→∃ b o,a=some ⟨b,o,none⟩∧b<w.heap.size∧w.cell? ⟨b,o+i,none⟩=some (.string ⟨p.toArray⟩)
def KsAt (w:World) (a:Option Addr) (ks:List Kd):Prop:=∀ i k,ks[i]?=some k→∃ b o,a=some ⟨b,o,none⟩∧b<w.heap.size∧rowAt? w ⟨b,o+i*33,none⟩ 33=some k.c

theorem PsAt.nil (w:World) (a:Option Addr):PsAt w a []:=by intro i p h;simp at h
theorem SsAt.nil (w:World) (a:Option Addr):SsAt w a []:=by intro i p h;simp at h
theorem KsAt.nil (w:World) (a:Option Addr):KsAt w a []:=by intro i p h;simp at h
theorem PsAt.kp {S:List Nat} {w w':World} {a:Option Addr} {ps:List Pr} (h:PsAt w a ps) (k:Kp S w w') (hs:∀ b∈ab a,b ∉ S):PsAt w' a ps:=by
 intro i p hp
 obtain ⟨b,o,ha,hb,h1,h2⟩:=h i p hp
 have:b ∉ S:=hs b (by simp [ab,ha])
 exact ⟨b,o,ha,Nat.lt_of_lt_of_le hb k.size,k.cell h1 this,k.cell h2 this⟩
theorem SsAt.kp {S:List Nat} {w w':World} {a:Option Addr} {ps:List Bs} (h:SsAt w a ps) (k:Kp S w w') (hs:∀ b∈ab a,b ∉ S):SsAt w' a ps:=by
 intro i p hp
 obtain ⟨b,o,ha,hb,h1⟩:=h i p hp
 have:b ∉ S:=hs b (by simp [ab,ha])
 exact ⟨b,o,ha,Nat.lt_of_lt_of_le hb k.size,k.cell h1 this⟩
theorem KsAt.kp {S:List Nat} {w w':World} {a:Option Addr} {ps:List Kd} (h:KsAt w a ps) (k:Kp S w w') (hs:∀ b∈ab a,b ∉ S):KsAt w' a ps:=by
 intro i p hp
 obtain ⟨b,o,ha,hb,h1⟩:=h i p hp
 have:b ∉ S:=hs b (by simp [ab,ha])
 exact ⟨b,o,ha,Nat.lt_of_lt_of_le hb k.size,rowAt?_kp k h1 this⟩

structure NdAt (w:World) (pa sa ka:Option Addr) (n:Nd):Prop where
 ps:PsAt w pa n.pairs
 ss:SsAt w sa n.seps
 ks:KsAt w ka n.kids

theorem NdAt.kp {S:List Nat} {w w':World} {pa sa ka:Option Addr} {n:Nd} (h:NdAt w pa sa ka n) (k:Kp S w w') (h1:∀ b∈ab pa,b ∉ S) (h2:∀ b∈ab sa,b ∉ S) (h3:∀ b∈ab ka,b ∉ S):NdAt w' pa sa ka n:=
 ⟨h.ps.kp k h1,h.ss.kp k h2,h.ks.kp k h3⟩
theorem NdAt.kp0 {w w':World} {pa sa ka:Option Addr} {n:Nd} (h:NdAt w pa sa ka n) (k:Kp [] w w'):NdAt w' pa sa ka n:=h.kp k (by simp) (by simp) (by simp)

end Go.Proofs.YtgjaaffheanobaaGreat