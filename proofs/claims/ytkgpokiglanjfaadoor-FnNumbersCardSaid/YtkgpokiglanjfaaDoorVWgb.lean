/- Words of this session beside the print's. -/
import Derived.Test.YtkgpokiglanjfaaDoorWMore
import Derived.Lib.AppendIntMem
import Derived.Test.YtkgpokiglanjfaaDoorProg
set_option linter.unusedVariables false
set_option linter.unusedSimpArgs false
namespace Go.Proofs.YtkgpokiglanjfaaDoorW.PrintWords
open Go.RowKit
/-- What the world's own variables hold: the table that strconv.Itoa reads, the two errors of strconv.Atoi. -/
structure WG (w : World) : Prop where
  tab : Go.Lib.TabIs Tryd.prog w "internal/strconv.uint64pow10" .u64 Go.Lib.pow10Tab
  syn : ∃ tp p, w.var? Tryd.prog "strconv.ErrSyntax" = some #[.iface tp p]
  rng : ∃ tp p, w.var? Tryd.prog "strconv.ErrRange" = some #[.iface tp p]
theorem var_below {P : Program} {w w' : World} {n : String} {cs : Array Value} (h : w.var? P n = some cs) (hb : Below w.heap.size w w') : w'.var? P n = some cs := by
  unfold World.var? at *
  cases hg : P.globalNamed n with
  | none => simp [hg] at h
  | some g =>
    simp only [hg, Option.bind_some] at h ⊢
    have hlt : g < w.heap.size := by
      rcases Nat.lt_or_ge g w.heap.size with h' | h'
      · exact h'
      · rw [Array.getElem?_eq_none h'] at h; simp at h
    rw [hb.block g hlt]
    exact h
theorem WG_below {w w' : World} (h : WG w) (hb : Below w.heap.size w w') : WG w' := by
  obtain ⟨a, ⟨t1, p1, b⟩, ⟨t2, p2, c⟩⟩ := h
  exact ⟨(Go.Lib.tabBelow_of_tabIs a) w' hb, ⟨t1, p1, var_below b hb⟩, ⟨t2, p2, var_below c hb⟩⟩
end Go.Proofs.YtkgpokiglanjfaaDoorW.PrintWords
