/- Words of this session beside the print's. -/
import Derived.Test.YtodpkfidkilpdaaDoorWMore
import Derived.Test.YtodpkfidkilpdaaDoorProg
set_option linter.unusedVariables false
set_option linter.unusedSimpArgs false
namespace Go.Proofs.YtodpkfidkilpdaaDoorW.PrintWords
open Go.RowKit
/-- What the world's own variables hold: a number lies in internal/bytealg.MaxLen, which strings.Split reads. -/
structure WG (w : World) : Prop where
  cell : ∃ m, w.cell? ⟨0, 0, none⟩ = some (.int .i64 m)
theorem WG_below {w w' : World} (h : WG w) (hb : Below w.heap.size w w') : WG w' := by
  obtain ⟨m, hm⟩ := h.cell
  exact ⟨m, (hb.cell (World.block_lt_of_cell? w _ hm)).trans hm⟩
end Go.Proofs.YtodpkfidkilpdaaDoorW.PrintWords
