/- Words of this session beside the print's. -/
import Derived.Test.YtjbfppakafkkoaaWMore
import Derived.WalkLawsBesides
set_option linter.unusedVariables false
set_option linter.unusedSimpArgs false
namespace Go.Proofs.YtjbfppakafkkoaaW.PrintWords
open Go.RowKit
theorem gtr_less : ∀ (a b : List UInt8), (!(Op.bytesLess a b || a == b)) = Op.bytesLess b a
  | [], [] => rfl
  | [], _ :: _ => rfl
  | _ :: _, [] => rfl
  | x :: a, y :: b => by
    have ih := gtr_less a b
    have e : (x :: a == y :: b) = (x == y && a == b) := rfl
    simp only [Op.bytesLess]
    rw [e, ← ih]
    by_cases h : x < y
    · have h1 : ¬ y < x := UInt8.not_lt.2 (UInt8.le_of_lt h)
      have h2 : x ≠ y := fun e => by subst e; exact UInt8.lt_irrefl _ h
      have h3 : y ≠ x := fun e => h2 e.symm
      simp [h, h1, h2, h3]
    · by_cases h1 : y < x
      · have h2 : x ≠ y := fun e => by subst e; exact UInt8.lt_irrefl _ h1
        have h3 : y ≠ x := fun e => h2 e.symm
        simp [h, h1, h2, h3]
      · have h2 : x = y := UInt8.le_antisymm (UInt8.not_lt.1 h1) (UInt8.not_lt.1 h)
        subst h2
        simp [h]
@[go_sem high] theorem binOp_gtr_less (t : TypeId) (a b : ByteArray) : binOp .gtr t (.string a) (.string b) = pure (.bool (Op.bytesLess b.toList a.toList)) := by
  rw [binOp_string_gtr, gtr_less]
/-- A store keeps which cells there are: said without a condition, so that simp need not go deeper for it. -/
@[go_sem] theorem isSome_cell_setCell (w : World) (p q : Addr) (v : Value) : ((w.setCell p v).cell? q).isSome = (w.cell? q).isSome := by
  unfold World.cell? World.setCell
  simp only [Array.getElem?_modify]
  by_cases h : p.block = q.block
  · rw [if_pos h]
    cases e : w.heap[q.block]? with
    | none => rfl
    | some o =>
      cases o with
      | cells c el fr =>
        simp only [Option.map_some]
        by_cases hq : q.spot.isSome = true
        · rw [if_pos hq, if_pos hq]
        · rw [if_neg hq, if_neg hq]
          by_cases hp : p.spot.isSome = true
          · rw [if_pos hp]
          · rw [if_neg hp]
            have : (c.setIfInBounds p.off v).size = c.size := by simp
            by_cases hl : q.off < c.size
            · rw [Array.getElem?_eq_getElem hl, Array.getElem?_eq_getElem (by omega)]
              rfl
            · rw [Array.getElem?_eq_none (by omega), Array.getElem?_eq_none (by omega)]
      | _ => rfl
  · rw [if_neg h]
end Go.Proofs.YtjbfppakafkkoaaW.PrintWords
