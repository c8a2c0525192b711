/- Is a node well shaped? -/
import Derived.Test.YtgjaaffheanobaaGreatZ27
namespace Go.Proofs.YtgjaaffheanobaaGreat
set_option linter.unusedVariables false
set_option linter.unusedSimpArgs false
open Go Go.RowKit

theorem Rets.ext {v:Value} {w:World} {bs:List Obj} {n:Nat} {e:Ending} {w':World} (h:Rets v (Proofs.YtgjaaffheanobaaGreat.ext w bs n) e w'):Rets v w e w':=by
 obtain ⟨rfl,cs,m,rfl⟩:=h
 exact ⟨rfl,_,_,ext_ext _ _ _ _ _⟩



end Go.Proofs.YtgjaaffheanobaaGreat