/- Words of this session: what is read as data, opened to what the printed functions want, by the shape of its type; no condition. -/
import Derived.Test.YtnjomkadjcjcnaaWMore
import Derived.Deep.Slices
import Derived.WideShapes
import Derived.ChangeArms
import Derived.ProofKit
set_option linter.unusedVariables false
set_option linter.unusedSimpArgs false
namespace Go.Proofs.Ytnjomkadjcjcnaa.Open
open Go.RowKit Go.ChangeShapes Go.WideShapes Go.Proofs.YtnjomkadjcjcnaaW.PrintWords
/-! What is read as data, opened to what the printed functions want of a row: by the shape of its type. -/
/-- Whatever reads as a value of type t has cells that tell a value of the kind d, of which Q holds. -/
def Opens (P : Program) (t : TypeId) {α : Type} (d : Kd α) (Q : α → Prop) : Prop :=
  P.cellsOf t = d.sz ∧ ∀ (H : Type) (enc : TypeId × Value → H) (w : World) (base : Nat) (spare : Nat → Bool) (held : Bool) (fuel : Nat) (cs : List Value) (x : DataW H × List MemPlace),
    DataW.trod enc P w base spare held fuel t cs = some x → ∃ y : α, d.K w y cs ∧ Q y
theorem opens_string {P : Program} {t : TypeId} (ht : P.underlying t = some .string) (hc : P.cellsOf t = 1) : Opens P t Kd.string (fun s => s.size ≤ 9223372036854775807) := by
  refine ⟨hc, fun H enc w base spare held fuel cs x h => ?_⟩
  obtain ⟨s, rfl, _, hs⟩ := DataW.trod_string ht h
  exact ⟨s, rfl, by simpa [maxLen] using hs⟩
theorem opens_int {P : Program} {t : TypeId} {k : IntKind} (ht : P.underlying t = some (.int k)) (hc : P.cellsOf t = 1) : Opens P t (Kd.int k) (fun n => (Lit.int k n).wf = true) := by
  refine ⟨hc, fun H enc w base spare held fuel cs x h => ?_⟩
  obtain ⟨n, rfl, _, hn⟩ := DataW.trod_int ht h
  exact ⟨n, rfl, hn⟩
theorem opens_slice {P : Program} {t e : TypeId} {α : Type} {d : Kd α} {Q : α → Prop} (ht : P.underlying t = some (.slice e)) (hc : P.cellsOf t = 1) (he : Opens P e d Q) :
    Opens P t (Kd.slice e d) (fun xs => xs.length ≤ 9223372036854775807 ∧ ∀ x ∈ xs, Q x) := by
  refine ⟨hc, fun H enc w base spare held fuel cs x h => ?_⟩
  rcases Go.Deep.open_slice ht h with ⟨rfl, _⟩ | ⟨a, len, cap, m, n, D, Pl, rfl, _, hl, hm, hmm, _, hx⟩
  · exact ⟨[], ⟨none, 0, rfl, Nat.le_refl _, rfl, by simp, fun h => absurd h (by simp)⟩, by simp, by simp⟩
  · have hle : len ≤ m := by
      rw [hmm]
      split <;> omega
    have hall : ∀ i, i < len → ∃ y : α, (∃ cs', w.cells? base (a.add (i * P.cellsOf e)) (P.cellsOf e) = some cs' ∧ d.K w y cs') ∧ Q y := by
      intro i hi
      obtain ⟨cs', h1, h2⟩ := hx i (by omega)
      obtain ⟨y, h3, h4⟩ := he.2 H enc w base spare held n cs' _ h2
      exact ⟨y, ⟨cs', h1, h3⟩, h4⟩
    have key : ∀ l : Nat, l ≤ len → ∃ ys : List α, ys.length = l ∧ ∀ i y, ys[i]? = some y → (∃ cs', w.cells? base (a.add (i * P.cellsOf e)) (P.cellsOf e) = some cs' ∧ d.K w y cs') ∧ Q y := by
      intro l
      induction l with
      | zero => intro _; exact ⟨[], rfl, by simp⟩
      | succ l ih =>
        intro hl2
        obtain ⟨ys, h1, h2⟩ := ih (by omega)
        obtain ⟨y, hy⟩ := hall l (by omega)
        refine ⟨ys ++ [y], by rw [List.length_append, h1]; rfl, fun i z hz => ?_⟩
        rcases Nat.lt_or_ge i ys.length with hi | hi
        · rw [List.getElem?_append_left hi] at hz
          exact h2 i z hz
        · have hi2 : i = ys.length := by
            have := (List.getElem?_eq_some_iff.1 hz).1
            rw [List.length_append, List.length_singleton] at this
            omega
          subst hi2
          have : y = z := by simpa using hz
          subst this
          rw [h1]
          exact hy
    obtain ⟨ys, hlen, hys⟩ := key len (Nat.le_refl _)
    have hbig : len ≤ 9223372036854775807 := by
      simp only [maxLen] at hm
      omega
    refine ⟨ys, ⟨some a, cap, by rw [hlen], by rw [hlen]; exact hl, rfl, by rw [hlen]; exact hbig, fun _ => ⟨a, rfl, fun j p hj => ?_⟩⟩, by rw [hlen]; exact hbig, fun x hx => ?_⟩
    · obtain ⟨⟨cs', h1, h2⟩, _⟩ := hys j p hj
      refine ⟨cs', d.K_len h2, h2, fun i u hu => ?_⟩
      rw [he.1] at h1
      obtain ⟨_, h3, h4⟩ := World.cells?_some h1
      have hi : i < d.sz := by
        have := (List.getElem?_eq_some_iff.1 hu).1
        rw [d.K_len h2] at this
        exact this
      have h5 := h4 i hi
      rw [Go.Deep.add_add] at h5
      rw [h5]
      exact hu
    · obtain ⟨i, hi, rfl⟩ := List.getElem_of_mem hx
      exact (hys i _ (List.getElem?_eq_getElem hi)).2
theorem opens_iso {P : Program} {t : TypeId} {α β : Type} {d : Kd α} {Q : α → Prop} {f : β → α} (g : α → β) (hf : ∀ x, f (g x) = x) (h : Opens P t d Q) : Opens P t (Kd.iso d f) (fun y => Q (f y)) :=
  ⟨h.1, fun H enc w base spare held fuel cs x hx => by
    obtain ⟨y, h1, h2⟩ := h.2 H enc w base spare held fuel cs x hx
    exact ⟨g y, by show d.K w (f (g y)) cs; rw [hf]; exact h1, by show Q (f (g y)); rw [hf]; exact h2⟩⟩
theorem opens_struct1 {P : Program} {t : TypeId} {f0 : Field} {α : Type} {d0 : Kd α} {Q0 : α → Prop} (ht : P.underlying t = some (.struct #[f0])) (hc : P.cellsOf t = d0.sz) (o0 : f0.offset = 0)
    (h0 : Opens P f0.type d0 Q0) : Opens P t d0 Q0 := by
  refine ⟨hc, fun H enc w base spare held fuel cs x h => ?_⟩
  obtain ⟨xs, n, _, _, hlen, hsz, hf⟩ := DataW.trod_struct ht h
  have g0 := hf 0 f0 rfl
  rw [o0, List.drop_zero, h0.1, List.take_of_length_le (by omega)] at g0
  obtain ⟨y, hy⟩ : ∃ y, xs[0]? = some y := ⟨xs[0]'(by rw [hsz]; exact Nat.one_pos), List.getElem?_eq_getElem _⟩
  rw [hy] at g0
  exact h0.2 H enc w base spare held n cs _ g0
theorem opens_struct2 {P : Program} {t : TypeId} {f0 f1 : Field} {α β : Type} {d0 : Kd α} {d1 : Kd β} {Q0 : α → Prop} {Q1 : β → Prop} (ht : P.underlying t = some (.struct #[f0, f1])) (hc : P.cellsOf t = d0.sz + d1.sz)
    (o0 : f0.offset = 0) (o1 : f1.offset = d0.sz) (h0 : Opens P f0.type d0 Q0) (h1 : Opens P f1.type d1 Q1) : Opens P t (Kd.pair d0 d1) (fun x => Q0 x.1 ∧ Q1 x.2) := by
  refine ⟨hc, fun H enc w base spare held fuel cs x h => ?_⟩
  obtain ⟨xs, n, _, _, hlen, hsz, hf⟩ := DataW.trod_struct ht h
  have g0 := hf 0 f0 rfl
  have g1 := hf 1 f1 rfl
  rw [o0, List.drop_zero, h0.1] at g0
  rw [o1, h1.1, List.take_of_length_le (by rw [List.length_drop]; omega)] at g1
  obtain ⟨y0, hy0⟩ : ∃ y, xs[0]? = some y := ⟨xs[0]'(by rw [hsz]; exact (by decide : 0 < 2)), List.getElem?_eq_getElem _⟩
  obtain ⟨y1, hy1⟩ : ∃ y, xs[1]? = some y := ⟨xs[1]'(by rw [hsz]; exact (by decide : 1 < 2)), List.getElem?_eq_getElem _⟩
  rw [hy0] at g0
  rw [hy1] at g1
  obtain ⟨z0, k0, q0⟩ := h0.2 H enc w base spare held n _ _ g0
  obtain ⟨z1, k1, q1⟩ := h1.2 H enc w base spare held n _ _ g1
  exact ⟨(z0, z1), ⟨_, _, (List.take_append_drop d0.sz cs).symm, k0, k1⟩, q0, q1⟩
theorem opens_struct3 {P : Program} {t : TypeId} {f0 f1 f2 : Field} {α β γ : Type} {d0 : Kd α} {d1 : Kd β} {d2 : Kd γ} {Q0 : α → Prop} {Q1 : β → Prop} {Q2 : γ → Prop} (ht : P.underlying t = some (.struct #[f0, f1, f2]))
    (hc : P.cellsOf t = d0.sz + (d1.sz + d2.sz)) (o0 : f0.offset = 0) (o1 : f1.offset = d0.sz) (o2 : f2.offset = d0.sz + d1.sz) (h0 : Opens P f0.type d0 Q0) (h1 : Opens P f1.type d1 Q1) (h2 : Opens P f2.type d2 Q2) :
    Opens P t (Kd.pair d0 (Kd.pair d1 d2)) (fun x => Q0 x.1 ∧ Q1 x.2.1 ∧ Q2 x.2.2) := by
  refine ⟨hc, fun H enc w base spare held fuel cs x h => ?_⟩
  obtain ⟨xs, n, _, _, hlen, hsz, hf⟩ := DataW.trod_struct ht h
  have g0 := hf 0 f0 rfl
  have g1 := hf 1 f1 rfl
  have g2 := hf 2 f2 rfl
  rw [o0, List.drop_zero, h0.1] at g0
  rw [o1, h1.1] at g1
  rw [o2, h2.1, List.take_of_length_le (by rw [List.length_drop]; omega)] at g2
  obtain ⟨y0, hy0⟩ : ∃ y, xs[0]? = some y := ⟨xs[0]'(by rw [hsz]; exact (by decide : 0 < 3)), List.getElem?_eq_getElem _⟩
  obtain ⟨y1, hy1⟩ : ∃ y, xs[1]? = some y := ⟨xs[1]'(by rw [hsz]; exact (by decide : 1 < 3)), List.getElem?_eq_getElem _⟩
  obtain ⟨y2, hy2⟩ : ∃ y, xs[2]? = some y := ⟨xs[2]'(by rw [hsz]; exact (by decide : 2 < 3)), List.getElem?_eq_getElem _⟩
  rw [hy0] at g0
  rw [hy1] at g1
  rw [hy2] at g2
  obtain ⟨z0, k0, q0⟩ := h0.2 H enc w base spare held n _ _ g0
  obtain ⟨z1, k1, q1⟩ := h1.2 H enc w base spare held n _ _ g1
  obtain ⟨z2, k2, q2⟩ := h2.2 H enc w base spare held n _ _ g2
  refine ⟨(z0, z1, z2), ⟨_, _, (List.take_append_drop d0.sz cs).symm, k0, _, _, ?_, k1, k2⟩, q0, q1, q2⟩
  rw [← List.drop_drop]
  exact (List.take_append_drop d1.sz (cs.drop d0.sz)).symm
end Go.Proofs.Ytnjomkadjcjcnaa.Open
