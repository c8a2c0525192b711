/- Rows of pairs, texts, kids as what an append takes. -/
import Derived.Test.YtgjaaffheanobaaGreatZ30
import Derived.Test.YtgjaaffheanobaaGreatZ31
import Derived.Test.YtgjaaffheanobaaGreatZ33
import Derived.Test.YtgjaaffheanobaaGreatZ36
import Derived.Laws.Cover3
namespace Go.Proofs.YtgjaaffheanobaaGreat
set_option linter.unusedVariables false
set_option linter.unusedSimpArgs false
open Go Go.RowKit

abbrev csS (t:Bs):List Value:=[.string ⟨t.toArray⟩]
theorem csS_map (l:List Bs):l.flatMap csS=l.map fun t=>.string ⟨t.toArray⟩:=by
 induction l with
 | nil=>rfl
 | cons x t ih=>simp [List.flatMap_cons,ih]

theorem run_eql_nilsl {P:Program} {w:World} (t e:TypeId) (a:Option Addr) (n c:Nat) (h:P.underlying t=some (.slice e)):(binOp .eql t (.slice a n c) (.slice none 0 0)).run P w=.ok (.bool a.isNone) w:=by
 simp only [binOp,Sem.run_bind,run_equal_slice_nil w t e a n c h,Result.andThen_ok,Sem.run_pure]
@[go_sem] theorem eql_nil_ps (a:Option Addr) (n c:Nat) (w:World):(binOp .eql 82 (.slice a n c) (.slice none 0 0)).run Tryz.prog w=.ok (.bool a.isNone) w:=run_eql_nilsl _ _ a n c Tryz.underlying82
@[go_sem] theorem eql_nil_ss (a:Option Addr) (n c:Nat) (w:World):(binOp .eql 57 (.slice a n c) (.slice none 0 0)).run Tryz.prog w=.ok (.bool a.isNone) w:=run_eql_nilsl _ _ a n c Tryz.underlying57
@[go_sem] theorem eql_nil_ks (a:Option Addr) (n c:Nat) (w:World):(binOp .eql 204 (.slice a n c) (.slice none 0 0)).run Tryz.prog w=.ok (.bool a.isNone) w:=run_eql_nilsl _ _ a n c Tryz.underlying204

end Go.Proofs.YtgjaaffheanobaaGreat