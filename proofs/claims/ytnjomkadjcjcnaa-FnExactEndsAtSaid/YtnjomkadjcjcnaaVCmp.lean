/- Words of this session beside the print's. -/
import Derived.Test.YtnjomkadjcjcnaaWMore
import Derived.WalkLawsBesides
set_option linter.unusedVariables false
set_option linter.unusedSimpArgs false
namespace Go.Proofs.YtnjomkadjcjcnaaW.PrintWords
open Go.RowKit
theorem gtr_less : ∀ (a b : List UInt8), (!(Op.bytesLess a b || a == b)) = Op.bytesLess b a
  | [], [] => rfl
  | [], _ :: _ => rfl
  | _ :: _, [] => rfl
  | x :: a, y :: b => by
    have ih := gtr_less a b
    have e : (x :: a == y :: b) = (x == y && a == b) := rfl
    simp only [Op.bytesLess]
    rw [e, ← ih]
    by_cases h : x < y
    · have h1 : ¬ y < x := UInt8.not_lt.2 (UInt8.le_of_lt h)
      have h2 : x ≠ y := fun e => by subst e; exact UInt8.lt_irrefl _ h
      have h3 : y ≠ x := fun e => h2 e.symm
      simp [h, h1, h2, h3]
    · by_cases h1 : y < x
      · have h2 : x ≠ y := fun e => by subst e; exact UInt8.lt_irrefl _ h1
        have h3 : y ≠ x := fun e => h2 e.symm
        simp [h, h1, h2, h3]
      · have h2 : x = y := UInt8.le_antisymm (UInt8.not_lt.1 h1) (UInt8.not_lt.1 h)
        subst h2
        simp [h]
@[go_sem high] theorem binOp_gtr_less (t : TypeId) (a b : ByteArray) : binOp .gtr t (.string a) (.string b) = pure (.bool (Op.bytesLess b.toList a.toList)) := by
  rw [binOp_string_gtr, gtr_less]
/-- A store keeps which cells there are: said without a condition, so that simp need not go deeper for it. -/
@[go_sem] theorem isSome_cell_setCell (w : World) (p q : Addr) (v : Value) : ((w.setCell p v).cell? q).isSome = (w.cell? q).isSome := by
  unfold World.cell? World.setCell
  simp only [Array.getElem?_modify]
  by_cases h : p.block = q.block
  · rw [if_pos h]
    cases e : w.heap[q.block]? with
    | none => rfl
    | some o =>
      cases o with
      | cells c el fr =>
        simp only [Option.map_some]
        by_cases hq : q.spot.isSome = true
        · rw [if_pos hq, if_pos hq]
        · rw [if_neg hq, if_neg hq]
          by_cases hp : p.spot.isSome = true
          · rw [if_pos hp]
          · rw [if_neg hp]
            have : (c.setIfInBounds p.off v).size = c.size := by simp
            by_cases hl : q.off < c.size
            · rw [Array.getElem?_eq_getElem hl, Array.getElem?_eq_getElem (by omega)]
              rfl
            · rw [Array.getElem?_eq_none (by omega), Array.getElem?_eq_none (by omega)]
      | _ => rfl
  · rw [if_neg h]
/-! The print's steps, said shorter: the step over drawn worlds is found where the lemma is used. -/
section
variable {α : Type} {d : Kd α} {e : TypeId} {w W w1 : World} {base : Nat} {ok : Nat → Prop} {v : Value} {xs : List α} {g g2 : Nat} {o : Obj}
theorem rH (h0 : d.R e w base ok v xs) (hb : Below W.heap.size W w1) (h : d.R e w base ok v xs → d.R e W base ok v xs := by (intro h_; (with_reducible repeat (first | apply Kd.R_alloc | apply Kd.R_drewN | apply Kd.R_drew)); exact h_)) : d.R e w1 base ok v xs := Kd.R_below (h h0) hb
theorem rZ (h0 : d.R e w base ok v xs) (h : d.R e w base ok v xs → d.R e W base ok v xs := by (intro h_; (with_reducible repeat (first | apply Kd.R_alloc | apply Kd.R_drewN | apply Kd.R_drew)); exact h_)) : d.R e W base ok v xs := h h0
theorem bH (h0 : w.heap[g]? = some o) (hb : Below W.heap.size W w1) (h : w.heap[g]? = some o → W.heap[g]? = some o := by (intro h_; (with_reducible repeat (first | refine blk_drewN ?_ _ | refine blk_drew ?_ | refine blk_alloc ?_ _)); exact h_)) : w1.heap[g]? = some o := blk_below (h h0) hb
theorem sz_set {n : Nat} {w : World} {p : Addr} {u : Value} (h : n ≤ w.heap.size) : n ≤ (w.setCell p u).heap.size := by simpa [World.setCell] using h
theorem sz_drewN {n m : Nat} {w : World} (h : n ≤ w.heap.size) : n ≤ (w.drewN m).heap.size := h
theorem sz_drew {n : Nat} {w : World} (h : n ≤ w.heap.size) : n ≤ w.drew.heap.size := h
theorem sz_alloc {n : Nat} {w : World} {o : Obj} (h : n ≤ w.heap.size) : n ≤ (w.alloc o).heap.size := Nat.le_trans h (below_alloc (Below.refl _ _) o).size
theorem nL (hg : g2 = W.heap.size) (h0 : w.heap[g]? = some o) (h : w.heap.size ≤ W.heap.size := by ((with_reducible repeat (first | refine sz_drewN ?_ | refine sz_set ?_ | refine sz_drew ?_ | refine sz_alloc ?_)); exact Nat.le_refl _)) : g ≠ g2 := by
  rw [hg]; exact Nat.ne_of_lt (Nat.lt_of_lt_of_le (blk_lt h0) h)
theorem nG (hg : g2 = W.heap.size) (h0 : w.heap[g]? = some o) (h : w.heap.size ≤ W.heap.size := by ((with_reducible repeat (first | refine sz_drewN ?_ | refine sz_set ?_ | refine sz_drew ?_ | refine sz_alloc ?_)); exact Nat.le_refl _)) : g2 ≠ g := (nL hg h0 h).symm
theorem lQ {u U : World} (h0 : Below u.heap.size u U) (k : Below W.heap.size W w1) (h : Below u.heap.size u U → Below u.heap.size u W := by (intro h_; (repeat (first | (with_reducible first | exact h_ | apply below_alloc | apply pw_below_drewN | apply below_drew1 | refine below_set ?_ (Aside0.out (by assumption))) | exact h_)))) : Below u.heap.size u w1 := below_step (h h0) k
theorem sQ {u U : World} (hg : g = W.heap.size) (h0 : Below u.heap.size u U) (h : Below u.heap.size u U → Below u.heap.size u W := by (intro h_; (repeat (first | (with_reducible first | exact h_ | apply below_alloc | apply pw_below_drewN | apply below_drew1 | refine below_set ?_ (Aside0.out (by assumption))) | exact h_)))) : u.heap.size ≤ g := by
  rw [hg]; exact (h h0).size
theorem bC3 {a b c : Value} {t : TypeId} (h : w.heap[g]? = some (.cells #[a, b, c] t (0, 0))) : (w.cell? ⟨g, 0, none⟩ = some a ∧ w.cell? ⟨g, 1, none⟩ = some b ∧ w.cell? ⟨g, 2, none⟩ = some c) ∧ w.frozen? ⟨g, 0, none⟩ = false ∧ w.frozen? ⟨g, 1, none⟩ = false ∧ w.frozen? ⟨g, 2, none⟩ = false :=
  ⟨⟨(blk_cell h 0).trans rfl, (blk_cell h 1).trans rfl, (blk_cell h 2).trans rfl⟩, blk_frozen h 0, blk_frozen h 1, blk_frozen h 2⟩
end
/-- A field of a struct that is a value: the operation, unfolded. -/
@[go_sem] theorem field_unfold (t : TypeId) (x : Value) (f : Nat) : Instr.field t x f = (do
    let .struct fields ← underlying t | stuck "Field: struct type expected"
    match fields[f]? with
    | some y => part y.type (← asAgg x) y.offset
    | none => stuck "Field: no such field") := rfl
@[go_sem] theorem asAgg_agg (xs : Array Value) : asAgg (.agg xs) = pure xs := rfl
section
open Go.Proofs.YtnjomkadjcjcnaaW.PrintLast
variable {P : Program} {ops : Array Oper} {Q : Exit → Act → World → Prop} {md : Region.Mode} {S : World → Prop} {ds : List Nat}
theorem pQ {i : Nat} {N : Option Tmp} {oi : Oper} {v : Value} {fuel : Nat} {l : Array Bool} {a : Act} {w : World} (l' : Array Bool) (hc : anyB md ops l l' i = true)
    (hy : ∀ w, (execOp a.eval oi).run P w = .ok (.value v) w) {a' : Act} (ha : a.put N v = a') (h : wpAnyLast P md ops Q S ds fuel l' a' w)
    (hi : ops[i]? = some oi := by rfl) (hN : oi.dst = N := by rfl) (hw : Region.wanted oi (yielded ops a.tmps) = true := by rfl)
    (hQ : ∀ c a w, Q (.panic c) (a.put oi.dst v) w → Q (.panic c) a w := by exact fun _ _ _ h => h) : wpAnyLast P md ops Q S ds (fuel + 1) l a w :=
  pure_ l' hi hN hc hQ (Or.inl ⟨hw, hy⟩) ha h
end
end Go.Proofs.YtnjomkadjcjcnaaW.PrintWords
