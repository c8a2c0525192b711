/- A leaf's form is laid. -/
import Derived.Test.YtgjaaffheanobaaGreatZ28
import Derived.Test.YtgjaaffheanobaaGreatZ23
namespace Go.Proofs.YtgjaaffheanobaaGreat
set_option linter.unusedVariables false
set_option linter.unusedSimpArgs false
open Go Go.RowKit

section
variable {P : Program} (w : World)
theorem run_equalIn_nilf (d:Nat) (t:TypeId) (ps rs:Array TypeId) (vr:Bool) (f:Fn) (x y:Array Value) (h:P.underlying t=some (.func ps rs vr)):(Op.equalIn (d+1) t (.func f x y) .nilFunc).run P w=.ok false w:=by
 simp [Op.equalIn,run_underlying h]
theorem run_eql_nilf (t:TypeId) (ps rs:Array TypeId) (vr:Bool) (f:Fn) (x y:Array Value) (h:P.underlying t=some (.func ps rs vr)):(binOp .eql t (.func f x y) .nilFunc).run P w=.ok (.bool false) w:=by
 have:=run_equalIn_nilf (P:=P) w 9999 t ps rs vr f x y h
 simp only [binOp,Op.equal,Op.maxDepth,Sem.run_bind,this,Result.andThen_ok,Sem.run_pure]
theorem run_neq_nilf (t:TypeId) (ps rs:Array TypeId) (vr:Bool) (f:Fn) (x y:Array Value) (h:P.underlying t=some (.func ps rs vr)):(binOp .neq t (.func f x y) .nilFunc).run P w=.ok (.bool true) w:=by
 have:=run_equalIn_nilf (P:=P) w 9999 t ps rs vr f x y h
 simp only [binOp,Op.equal,Op.maxDepth,Sem.run_bind,this,Result.andThen_ok,Sem.run_pure,Bool.not_false]
end
@[go_sem] theorem eql_nilf_wp (f:Fn) (x y:Array Value) (w:World):(binOp .eql 288 (.func f x y) .nilFunc).run Tryz.prog w=.ok (.bool false) w:=run_eql_nilf w _ _ _ _ f x y Tryz.underlying288
@[go_sem] theorem eql_nilf_wk (f:Fn) (x y:Array Value) (w:World):(binOp .eql 291 (.func f x y) .nilFunc).run Tryz.prog w=.ok (.bool false) w:=run_eql_nilf w _ _ _ _ f x y Tryz.underlying291

end Go.Proofs.YtgjaaffheanobaaGreat