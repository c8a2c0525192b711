/- The reader's methods, each with what it hands back and where it leaves the reader. -/
import Derived.Test.YtgjaaffheanobaaGreatZ0
import Derived.Test.YtgjaaffheanobaaGreatZ3
namespace Go.Proofs.YtgjaaffheanobaaGreat
set_option linter.unusedVariables false
set_option linter.unusedSimpArgs false
open Go Go.RowKit



theorem ext_drop (s:Bs) (p n:Nat):ByteArray.extract ⟨s.toArray⟩ p (p+n)=⟨((s.drop p).take n).toArray⟩:=by
 apply ByteArray.ext
 rw [ByteArray.data_extract]
 apply Array.ext'
 simp [List.extract_eq_take_drop]


end Go.Proofs.YtgjaaffheanobaaGreat