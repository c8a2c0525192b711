/- The reader's methods on any reader, well or not; a pair is read. -/
import Derived.Test.YtgjaaffheanobaaGreatZ31
namespace Go.Proofs.YtgjaaffheanobaaGreat
set_option linter.unusedVariables false
set_option linter.unusedSimpArgs false
open Go Go.RowKit

def RdSt (w:World) (b:Nat) (s:Bs):Option Bs→Prop
 | some l=>RdOk w b s l
 | none=>RdBad w b s
theorem RdSt.kp {S:List Nat} {w w':World} {b:Nat} {s:Bs} {o:Option Bs} (h:RdSt w b s o) (k:Kp S w w') (hs:b ∉ S):RdSt w' b s o:=by
 cases o
 ·exact RdBad.kp h k hs
 ·exact RdOk.kp h k hs
theorem RdSt.lt {w:World} {b:Nat} {s:Bs} {o:Option Bs} (h:RdSt w b s o):b<w.heap.size:=by
 cases o
 ·exact RdBad.lt h
 ·exact RdOk.lt h

def isRow:TypeDesc→Bool
 | .struct _ | .array _ _=>true
 | _=>false
theorem row_ret {fn:Func} {R:Ending→World→Prop} {a:Act} {w:World} {p:Tmp} {ty:TypeId} {d:TypeDesc} (g:Nat) {t:TypeId} {cs:Array Value} (hr:fn.results=#[.cell p ty]) (hu:Tryz.prog.underlying ty=some d) (hd:isRow d=true) (hi:(Tryz.prog.info? ty).map (·.size)=some cs.size)
  (hp:a.tmps.getD p undef=.pointer (some ⟨g,0,none⟩)) (hg:Blk w g t cs) (hdf:a.defers=[]) (hR:R (.returned (.agg cs)) w):bodyPost Tryz.prog fn R .ret a w:=
 bodyPost_ret (results_cell_row hr a.tmps w g t cs (0,0) _ hp hg hu (by cases d <;> first | rfl | cases hd) hi) hdf hR

def JP (fb P:Nat) (wd:Int) (_:Unit) (w:World) (fp:List Nat):Prop:=fp=[fb]∧Blk w fb 23 #[.int .i64 P,.int .i64 wd]
theorem JP.st (b fb P:Nat) (wd:Int) (hne:fb≠b):St b (JP fb P wd) where
 kp:=fun {x w w' fp S} ⟨h1,h2⟩ k hs=>⟨h1,h2.kp k (hs fb (by simp [h1]))⟩
 lt:=fun {x w fp} ⟨h1,h2⟩ g hg=>by subst h1;simp at hg;subst hg;exact ⟨h2.lt,hne⟩

end Go.Proofs.YtgjaaffheanobaaGreat