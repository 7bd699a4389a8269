/- Words of this session beside the print's. -/
import Derived.Test.YtkgpokiglanjfaaDoorWMore
import Derived.Lib.AppendIntMem
import Derived.Test.YtkgpokiglanjfaaDoorProg
set_option linter.unusedVariables false
set_option linter.unusedSimpArgs false
namespace Go.Proofs.YtkgpokiglanjfaaDoorW.PrintWords
open Go.RowKit
/-- What the world's own variables hold: the table that strconv.Itoa reads. -/
structure WG (w : World) : Prop where
  tab : Go.Lib.TabIs Tryd.prog w "internal/strconv.uint64pow10" .u64 Go.Lib.pow10Tab
theorem WG_below {w w' : World} (h : WG w) (hb : Below w.heap.size w w') : WG w' := ⟨(Go.Lib.tabBelow_of_tabIs h.tab) w' hb⟩
end Go.Proofs.YtkgpokiglanjfaaDoorW.PrintWords
