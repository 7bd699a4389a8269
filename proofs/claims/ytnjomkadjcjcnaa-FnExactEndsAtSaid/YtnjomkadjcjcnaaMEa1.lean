/- The matcher's walk: the relation that tells where a piece may end, sorting and compacting a row of one's own, the memo's map. Conditions: none beyond those that each theorem names. -/
import Derived.Test.YtnjomkadjcjcnaaQFnExactEndsAtx0
import Derived.Test.YtnjomkadjcjcnaaQFnExactEndsAtx1
import Derived.Test.YtnjomkadjcjcnaaQFnExactEndsAtx2
import Derived.Test.YtnjomkadjcjcnaaQFnExactEndsAtx3
import Derived.Test.YtnjomkadjcjcnaaQFnExactEndsAtx4
import Derived.Test.YtnjomkadjcjcnaaQFnExactEndsAtx5
import Derived.Test.YtnjomkadjcjcnaaQFnExactEndsAtx6
import Derived.Test.YtnjomkadjcjcnaaShelfIdx
import Derived.Test.YtnjomkadjcjcnaaShelfSort
import Derived.Lib.Hide
import Derived.Sort.OwnSortedInts
import Derived.Lib.RowBridge
import Derived.Maps.OwnSet
import Derived.Maps.Views
import Derived.Deep.QuietTactic
import Derived.BigQuiet
import Derived.StillTailTactics
import Derived.IntWalk
import Derived.Lib.IndexAny
import Derived.Deep.RegionHeld3
import Derived.Deep.RegionLaw
import Derived.Deep.AppendLies
import Derived.RegionTactic
import Derived.Shelf.Spec.SlicesGrow
import Derived.Lib.AppendZerosOnto
set_option linter.unusedVariables false
set_option linter.unusedSimpArgs false
set_option maxHeartbeats 4000000
set_option maxRecDepth 100000
namespace Go.Proofs.Ytnjomkadjcjcnaa.QFnExactEndsAt
open Go.RowKit Go.Proofs.YtnjomkadjcjcnaaW.PrintWords Go.Proofs.YtnjomkadjcjcnaaW.PrintLast Go.Proofs.YtnjomkadjcjcnaaW.PrintMore
attribute [local go_sem] max2_int min2_int max_two min_two max_three min_three max_four min_four   -- for this text's walks alone
open Bool renaming true → bT, false → bf
open Go.Proofs.YtnjomkadjcjcnaaW.PrintWords.Kd renaming R_alloc → rA, R_drewN → rN, R_drew → rD, C_alloc → cA, C_drewN → cN, C_drew → cD, R_far → rF, R_below → rB, R_lower → rL, R_lt → rT, R_base → rS, C_below → cB, R_types → rY, R_elder' → rE, R_reads' → rR, R_new' → rW
open Go.Proofs.YtnjomkadjcjcnaaW.PrintWords renaming blk_drewN → bN, blk_drew → bD, blk_alloc → bA, below_set → lS, pw_below_drewN → lN, below_drew1 → lD, below_alloc → lA, blk_cell → bC, blk_below → bB, below_size → lZ, below_step → lP, blk_lt → bL, blk_frozen → bF
open Go.Proofs.YtnjomkadjcjcnaaW.PrintWords.Aside0 renaming mk → aM
/-! Where a piece may end: as a relation; the lists and rows that tell it. -/
structure Mt where
  kd : Nat → Int
  c0 : Nat → Nat
  c1 : Nat → Nat
  one : Nat → Nat → Nat → Prop
  n : Nat
inductive Rtc (R : Nat → Nat → Prop) (i : Nat) : Nat → Prop
  | refl : Rtc R i i
  | tail {j k : Nat} : Rtc R i j → R j k → Rtc R i k
theorem Rtc.trans {R : Nat → Nat → Prop} {i j k : Nat} (h : Rtc R i j) (h2 : Rtc R j k) : Rtc R i k := by
  induction h2 with
  | refl => exact h
  | tail _ hr ih => exact ih.tail hr
def Mt.E (m : Mt) : Nat → Nat → Nat → Nat → Prop
  | 0, _, _, _ => False
  | f + 1, k, i, e =>
    if m.kd k = 5 then ∃ j, m.E f (m.c0 k) i j ∧ m.E f (m.c1 k) j e
    else if m.kd k = 6 then m.E f (m.c0 k) i e ∨ m.E f (m.c1 k) i e
    else if m.kd k = 7 then Rtc (m.E f (m.c0 k)) i e
    else if m.kd k = 8 then ∃ j, m.E f (m.c0 k) i j ∧ Rtc (m.E f (m.c0 k)) j e
    else if m.kd k = 9 then e = i ∨ m.E f (m.c0 k) i e
    else m.one k i e
structure Mt.Ok (m : Mt) (P : Nat) : Prop where
  two : ∀ k, k < P → m.kd k = 5 ∨ m.kd k = 6 → m.c0 k < k ∧ m.c1 k < k
  three : ∀ k, k < P → m.kd k = 7 ∨ m.kd k = 8 ∨ m.kd k = 9 → m.c0 k < k
  one : ∀ k i e, i ≤ m.n → m.one k i e → e ≤ m.n
theorem Mt.E_stable {m : Mt} {P : Nat} (h : m.Ok P) : ∀ (f g k : Nat), k < P → k < f → k < g → m.E f k = m.E g k := by
  intro f
  induction f with
  | zero => intro g k _ h1; omega
  | succ f ih =>
    intro g k hP h1 h2
    obtain ⟨g, rfl⟩ : ∃ g', g = g' + 1 := ⟨g - 1, by omega⟩
    funext i e
    unfold Mt.E
    by_cases c5 : m.kd k = 5
    · obtain ⟨a, b⟩ := h.two k hP (.inl c5)
      rw [if_pos c5, if_pos c5, ih g (m.c0 k) (by omega) (by omega) (by omega), ih g (m.c1 k) (by omega) (by omega) (by omega)]
    rw [if_neg c5, if_neg c5]
    by_cases c6 : m.kd k = 6
    · obtain ⟨a, b⟩ := h.two k hP (.inr c6)
      rw [if_pos c6, if_pos c6, ih g (m.c0 k) (by omega) (by omega) (by omega), ih g (m.c1 k) (by omega) (by omega) (by omega)]
    rw [if_neg c6, if_neg c6]
    by_cases c7 : m.kd k = 7
    · have a := h.three k hP (.inl c7)
      rw [if_pos c7, if_pos c7, ih g (m.c0 k) (by omega) (by omega) (by omega)]
    rw [if_neg c7, if_neg c7]
    by_cases c8 : m.kd k = 8
    · have a := h.three k hP (.inr (.inl c8))
      rw [if_pos c8, if_pos c8, ih g (m.c0 k) (by omega) (by omega) (by omega)]
    rw [if_neg c8, if_neg c8]
    by_cases c9 : m.kd k = 9
    · have a := h.three k hP (.inr (.inr c9))
      rw [if_pos c9, if_pos c9, ih g (m.c0 k) (by omega) (by omega) (by omega)]
    rw [if_neg c9, if_neg c9]
/-- Piece k, begun at i, may end at e. -/
def Mt.N (m : Mt) (k i e : Nat) : Prop := m.E (k + 1) k i e
section
variable {m : Mt} {P k i e : Nat} (h : m.Ok P) (hk : k < P)
include h hk
theorem Mt.N5 (c : m.kd k = 5) : m.N k i e ↔ ∃ j, m.N (m.c0 k) i j ∧ m.N (m.c1 k) j e := by
  obtain ⟨a, b⟩ := h.two k hk (.inl c)
  unfold Mt.N
  rw [Mt.E, if_pos c, Mt.E_stable h k (m.c0 k + 1) (m.c0 k) (by omega) a (by omega), Mt.E_stable h k (m.c1 k + 1) (m.c1 k) (by omega) b (by omega)]
theorem Mt.N6 (c : m.kd k = 6) : m.N k i e ↔ m.N (m.c0 k) i e ∨ m.N (m.c1 k) i e := by
  obtain ⟨a, b⟩ := h.two k hk (.inr c)
  unfold Mt.N
  rw [Mt.E, if_neg (by omega), if_pos c, Mt.E_stable h k (m.c0 k + 1) (m.c0 k) (by omega) a (by omega), Mt.E_stable h k (m.c1 k + 1) (m.c1 k) (by omega) b (by omega)]
theorem Mt.N7 (c : m.kd k = 7) : m.N k i e ↔ Rtc (m.N (m.c0 k)) i e := by
  have a := h.three k hk (.inl c)
  have he : m.E k (m.c0 k) = m.N (m.c0 k) := Mt.E_stable h k (m.c0 k + 1) (m.c0 k) (by omega) a (by omega)
  rw [← he]
  show m.E (k + 1) k i e ↔ _
  rw [Mt.E, if_neg (by omega), if_neg (by omega), if_pos c]
theorem Mt.N8 (c : m.kd k = 8) : m.N k i e ↔ ∃ j, m.N (m.c0 k) i j ∧ Rtc (m.N (m.c0 k)) j e := by
  have a := h.three k hk (.inr (.inl c))
  have he : m.E k (m.c0 k) = m.N (m.c0 k) := Mt.E_stable h k (m.c0 k + 1) (m.c0 k) (by omega) a (by omega)
  rw [← he]
  show m.E (k + 1) k i e ↔ _
  rw [Mt.E, if_neg (by omega), if_neg (by omega), if_neg (by omega), if_pos c]
theorem Mt.N9 (c : m.kd k = 9) : m.N k i e ↔ e = i ∨ m.N (m.c0 k) i e := by
  have a := h.three k hk (.inr (.inr c))
  have he : m.E k (m.c0 k) = m.N (m.c0 k) := Mt.E_stable h k (m.c0 k + 1) (m.c0 k) (by omega) a (by omega)
  rw [← he]
  show m.E (k + 1) k i e ↔ _
  rw [Mt.E, if_neg (by omega), if_neg (by omega), if_neg (by omega), if_neg (by omega), if_pos c]
end
theorem Mt.N1 {m : Mt} {k i e : Nat} (c5 : m.kd k ≠ 5) (c6 : m.kd k ≠ 6) (c7 : m.kd k ≠ 7) (c8 : m.kd k ≠ 8) (c9 : m.kd k ≠ 9) : m.N k i e ↔ m.one k i e := by
  show m.E (k + 1) k i e ↔ _
  rw [Mt.E, if_neg c5, if_neg c6, if_neg c7, if_neg c8, if_neg c9]
theorem Rtc.le {R : Nat → Nat → Prop} {n i e : Nat} (hR : ∀ j k, j ≤ n → R j k → k ≤ n) (hi : i ≤ n) (h : Rtc R i e) : e ≤ n := by
  induction h with
  | refl => exact hi
  | tail _ hr ih => exact hR _ _ ih hr
theorem Mt.N_le {m : Mt} {P : Nat} (h : m.Ok P) : ∀ (k : Nat), k < P → ∀ i e, i ≤ m.n → m.N k i e → e ≤ m.n := by
  intro k
  induction k using Nat.strongRecOn with
  | ind k ih =>
    intro hk i e hi hN
    by_cases c5 : m.kd k = 5
    · obtain ⟨a, b⟩ := h.two k hk (.inl c5)
      obtain ⟨j, h1, h2⟩ := (Mt.N5 h hk c5).1 hN
      exact ih _ b (by omega) j e (ih _ a (by omega) i j hi h1) h2
    by_cases c6 : m.kd k = 6
    · obtain ⟨a, b⟩ := h.two k hk (.inr c6)
      rcases (Mt.N6 h hk c6).1 hN with h1 | h1
      · exact ih _ a (by omega) i e hi h1
      · exact ih _ b (by omega) i e hi h1
    by_cases c7 : m.kd k = 7
    · have a := h.three k hk (.inl c7)
      exact Rtc.le (fun j k' hj hr => ih _ a (by omega) j k' hj hr) hi ((Mt.N7 h hk c7).1 hN)
    by_cases c8 : m.kd k = 8
    · have a := h.three k hk (.inr (.inl c8))
      obtain ⟨j, h1, h2⟩ := (Mt.N8 h hk c8).1 hN
      exact Rtc.le (fun j k' hj hr => ih _ a (by omega) j k' hj hr) (ih _ a (by omega) i j hi h1) h2
    by_cases c9 : m.kd k = 9
    · have a := h.three k hk (.inr (.inr c9))
      rcases (Mt.N9 h hk c9).1 hN with h1 | h1
      · omega
      · exact ih _ a (by omega) i e hi h1
    exact h.one k i e hi ((Mt.N1 c5 c6 c7 c8 c9).1 hN)
open Classical in
/-- The places where it may end, ascending. -/
noncomputable def Mt.L (m : Mt) (k i : Nat) : List Nat := (List.range (m.n + 1)).filter fun e => decide (m.N k i e)
open Classical in
/-- Of each place whether it may end there. -/
noncomputable def Mt.V (m : Mt) (k i : Nat) : List Bool := (List.range (m.n + 1)).map fun e => decide (m.N k i e)
open Classical in
theorem Mt.mem_L {m : Mt} {P : Nat} (h : m.Ok P) {k i : Nat} (hk : k < P) (hi : i ≤ m.n) (e : Nat) : e ∈ m.L k i ↔ m.N k i e := by
  unfold Mt.L
  rw [List.mem_filter, List.mem_range, decide_eq_true_eq]
  exact ⟨fun h2 => h2.2, fun h2 => ⟨by have := Mt.N_le h k hk i e hi h2; omega, h2⟩⟩
theorem Mt.L_len (m : Mt) (k i : Nat) : (m.L k i).length ≤ m.n + 1 := by
  unfold Mt.L
  have := List.length_filter_le (fun e => @decide (m.N k i e) (Classical.propDecidable _)) (List.range (m.n + 1))
  rwa [List.length_range] at this
theorem Mt.L_le {m : Mt} {k i e : Nat} (h : e ∈ m.L k i) : e ≤ m.n := by
  unfold Mt.L at h
  have := List.mem_range.1 (List.mem_filter.1 h).1
  omega
/-! Two ascending lists of the same numbers are one; sort, then compact. -/
theorem strict_ext : ∀ (a b : List Int), a.Pairwise (· < ·) → b.Pairwise (· < ·) → (∀ x, x ∈ a ↔ x ∈ b) → a = b
  | [], [], _, _, _ => rfl
  | [], y :: b, _, _, h => absurd ((h y).2 (List.mem_cons_self ..)) (by simp)
  | x :: a, [], _, _, h => absurd ((h x).1 (List.mem_cons_self ..)) (by simp)
  | x :: a, y :: b, ha, hb, h => by
    rw [List.pairwise_cons] at ha hb
    have hxy : x = y := by
      rcases List.mem_cons.1 ((h x).1 (List.mem_cons_self ..)) with e | e
      · exact e
      · rcases List.mem_cons.1 ((h y).2 (List.mem_cons_self ..)) with e2 | e2
        · exact e2.symm
        · have := hb.1 x e; have := ha.1 y e2; omega
    subst hxy
    rw [strict_ext a b ha.2 hb.2 (fun z => ?_)]
    constructor
    · intro hz
      rcases List.mem_cons.1 ((h z).1 (List.mem_cons_of_mem _ hz)) with e | e
      · have := ha.1 z hz; omega
      · exact e
    · intro hz
      rcases List.mem_cons.1 ((h z).2 (List.mem_cons_of_mem _ hz)) with e | e
      · have := hb.1 z hz; omega
      · exact e
theorem compact_inv (d : Array Int) (hs : ∀ i j, i < j → j < d.size → d[i]! ≤ d[j]!) : ∀ m, m ≤ d.size → (Go.Lib.compactUpTo d m).Pairwise (· < ·) ∧ (∀ x, x ∈ Go.Lib.compactUpTo d m ↔ ∃ j, j < m ∧ d[j]! = x)
  | 0, _ => ⟨by simp [Go.Lib.compactUpTo], fun x => by simp [Go.Lib.compactUpTo]⟩
  | m + 1, hm => by
    obtain ⟨h1, h2⟩ := compact_inv d hs m (by omega)
    rw [Go.Lib.compactUpTo_succ]
    by_cases hk : Go.Lib.keeps d m = true
    · rw [if_pos hk]
      have hk2 := of_decide_eq_true hk
      refine ⟨List.pairwise_append.2 ⟨h1, by simp, fun a ha b hb => ?_⟩, fun x => ?_⟩
      · rw [List.mem_singleton.1 hb]
        obtain ⟨j, hj, rfl⟩ := (h2 a).1 ha
        rcases hk2 with e | e
        · omega
        · have h3 : d[m - 1]! ≤ d[m]! := hs (m - 1) m (by omega) (by omega)
          have h4 : d[j]! ≤ d[m - 1]! := by
            rcases Nat.lt_or_ge j (m - 1) with c | c
            · exact hs j (m - 1) c (by omega)
            · rw [show j = m - 1 by omega]; exact Int.le_refl _
          omega
      · rw [List.mem_append, h2, List.mem_singleton]
        constructor
        · rintro (⟨j, hj, e⟩ | e)
          · exact ⟨j, by omega, e⟩
          · exact ⟨m, by omega, e.symm⟩
        · rintro ⟨j, hj, e⟩
          rcases Nat.lt_or_ge j m with c | c
          · exact .inl ⟨j, c, e⟩
          · rw [show j = m by omega] at e; exact .inr e.symm
    · rw [if_neg hk, List.append_nil]
      refine ⟨h1, fun x => ?_⟩
      rw [h2]
      have hk2 : ¬ (m = 0 ∨ d[m]! ≠ d[m - 1]!) := fun c => hk (decide_eq_true c)
      constructor
      · rintro ⟨j, hj, e⟩; exact ⟨j, by omega, e⟩
      · rintro ⟨j, hj, e⟩
        rcases Nat.lt_or_ge j m with c | c
        · exact ⟨j, c, e⟩
        · have hjm : j = m := by omega
          subst hjm
          refine ⟨j - 1, by omega, ?_⟩
          have : d[j]! = d[j - 1]! := Decidable.byContradiction fun c => hk2 (.inr c)
          rw [← this]; exact e
open Classical in
theorem sorted_of (l : List Int) (n : Nat) (Q : Nat → Prop) (hl : ∀ x, x ∈ l ↔ ∃ j : Nat, x = (j : Int) ∧ j ≤ n ∧ Q j) : Go.Lib.compact (l.mergeSort fun x y => decide (x ≤ y)) = ((List.range (n + 1)).filter fun e => decide (Q e)).map (fun j : Nat => (j : Int)) := by
  obtain ⟨s, hs⟩ : ∃ s, l.mergeSort (fun x y => decide (x ≤ y)) = s := ⟨_, rfl⟩
  have hp : s.Pairwise (fun a b => decide (a ≤ b) = true) := by
    rw [← hs]
    exact List.pairwise_mergeSort (fun a b c h1 h2 => by simp at *; omega) (fun a b => by simp; omega) l
  have hmem : ∀ x, x ∈ s ↔ x ∈ l := fun x => by rw [← hs]; exact List.mem_mergeSort
  rw [hs]
  have hsd : ∀ i j, i < j → j < s.toArray.size → s.toArray[i]! ≤ s.toArray[j]! := fun i j hij hj => by
    have hj' : j < s.length := by simpa using hj
    have := List.pairwise_iff_getElem.1 hp i j (by omega) hj' hij
    simpa [hj', show i < s.length by omega] using this
  obtain ⟨h1, h2⟩ := compact_inv s.toArray hsd s.length (by simp)
  refine strict_ext _ _ h1 ?_ (fun x => ?_)
  · rw [List.pairwise_map]
    exact (List.Pairwise.filter _ List.pairwise_lt_range).imp (fun h => by omega)
  · unfold Go.Lib.compact
    rw [h2, List.mem_map]
    constructor
    · rintro ⟨j, hj, e⟩
      have : x ∈ s := by rw [← e]; simp [hj]
      obtain ⟨q, rfl, hq, hQ⟩ := (hl x).1 ((hmem x).1 this)
      exact ⟨q, List.mem_filter.2 ⟨List.mem_range.2 (by omega), decide_eq_true hQ⟩, rfl⟩
    · rintro ⟨q, hq, rfl⟩
      obtain ⟨hq1, hq2⟩ := List.mem_filter.1 hq
      have : (q : Int) ∈ s := (hmem _).2 ((hl _).2 ⟨q, rfl, by have := List.mem_range.1 hq1; omega, of_decide_eq_true hq2⟩)
      obtain ⟨j, hj, e⟩ := List.mem_iff_getElem.1 this
      exact ⟨j, hj, by simp [hj, e]⟩
abbrev OwnI (W : World) (base : Nat) (v : Value) (l : List Int) : Prop := W.ownsRow base 3 1 v l.length (nums .i64 l)
theorem OwnI.kept {W W2 : World} {base : Nat} {v : Value} {l : List Int} {S : Nat → Prop} (h : OwnI W base v l) (hk : Kept W W2 S) (hn : ∀ k, v.ownBlock = some k → ¬ S k) : OwnI W2 base v l :=
  own_move h (fun k hk2 => hk.2 k (own_lt h k hk2) (hn k hk2))
theorem OwnI.lower {W : World} {base base' : Nat} {v : Value} {l : List Int} (h : OwnI W base v l) (hb : base' ≤ base) : OwnI W base' v l := by
  obtain ⟨h1, h2⟩ := h
  refine ⟨h1, ?_⟩
  rcases h2 with h2 | ⟨g, cap, cur, rfl, hg, r⟩
  · exact .inl h2
  · exact .inr ⟨g, cap, cur, rfl, by omega, r⟩
theorem own_of_R {W : World} {base : Nat} {ok : Nat → Prop} {v : Value} {l : List Int} (h : (Kd.int .i64).R 3 W base ok v l) : OwnI W base v l := by
  obtain ⟨_, inner, ho, hl, hr⟩ := h
  have hl2 : inner.length = l.length := by have : inner.length = l.length * 1 := hl; omega
  have e : inner = nums .i64 l := by
    apply List.ext_getElem
    · rw [hl2, nums_length]
    · intro j h1 h2
      have hj : j < l.length := by rw [nums_length] at h2; exact h2
      have := hr j (l[j]'hj) (List.getElem?_eq_getElem hj)
      have h3 : ((inner.drop (j * 1)).take 1) = [Value.int .i64 (l[j]'hj)] := this
      rw [Nat.mul_one, List.drop_eq_getElem_cons h1] at h3
      simp only [nums, List.getElem_map]
      have h4 : [inner[j]] = [Value.int .i64 (l[j]'hj)] := by simpa only [List.take_succ_cons, List.take_zero] using h3
      exact (List.cons.inj h4).1
  rw [e] at ho
  exact ho
/-- slices.Sort: the slice owns the sorted numbers. -/
theorem msort (base : Nat) (A : Option Addr) (c : Nat) (l : List Int) (hl : l.length ≤ 10000000000000) (w : World) (h : OwnI w base (.slice A l.length c) l) :
    Calls Try.prog 51 #[.slice A l.length c] w fun e w' => e = .returned (.tuple #[]) ∧ OwnI w' base (.slice A l.length c) (l.mergeSort fun x y => decide (x ≤ y)) ∧ w.grownBy w' (Value.slice A l.length c).ownBlock := by
  rcases Nat.eq_zero_or_pos l.length with h0 | h0
  · obtain rfl := List.length_eq_zero_iff.1 h0
    refine (Try.slices_Sort_int_none A c w).mono ?_
    rintro e w' ⟨rfl, rfl⟩
    exact ⟨rfl, by simpa using h, World.grownBy.refl _ _⟩
  · rcases h.2 with ⟨_, hn⟩ | ⟨g, cap, cur, e, hbase, hb, h1, h2, h3, h4⟩
    · omega
    · injection e with e1 _ e3
      subst e1 e3
      have hlen : (l.mergeSort fun x y => decide (x ≤ y)).length = l.length := List.length_mergeSort _
      refine (Try.slices_Sort_int g 0 c l w (holds_of_blockI hb (by simpa [nums] using h4)) (blk_lt hb) (by omega)).mono ?_
      rintro e w' ⟨rfl, n, os, rfl⟩
      refine ⟨rfl, ?_, grownBy_sortedI _⟩
      have := ownsRow_sortedI (w := w) (n := n) (os := os) (ss := l) (ts := l.mergeSort fun x y => decide (x ≤ y)) hlen hbase hb h1 h2 h3
      unfold OwnI
      rw [hlen]
      exact this
/-- slices.Compact: the slice, cut, owns what is kept. -/
theorem mcompact (base : Nat) (A : Option Addr) (c : Nat) (l : List Int) (hl : l.length ≤ 10000000000000) (w : World) (h : OwnI w base (.slice A l.length c) l) :
    Calls Try.prog 52 #[.slice A l.length c] w fun e w' => e = .returned (.slice A (Go.Lib.compact l).length c) ∧ OwnI w' base (.slice A (Go.Lib.compact l).length c) (Go.Lib.compact l) ∧ w.grownBy w' (Value.slice A l.length c).ownBlock := by
  rcases Nat.eq_zero_or_pos l.length with h0 | h0
  · obtain rfl := List.length_eq_zero_iff.1 h0
    refine (Try.slices_Compact_int_empty A c w).mono ?_
    rintro e w' ⟨rfl, rfl⟩
    exact ⟨rfl, h, World.grownBy.refl _ _⟩
  · rcases h.2 with ⟨_, hn⟩ | ⟨g, cap, cur, e, hbase, hb, h1, h2, h3, h4⟩
    · omega
    · injection e with e1 _ e3
      subst e1 e3
      have hcle : (Go.Lib.compact l).length ≤ l.length := Go.Lib.compact_length_le l
      refine (Try.slices_Compact_int g 0 c l w (holds_of_blockI hb (by simpa [nums] using h4)) (by omega) h1).mono ?_
      rintro e w' ⟨rfl, q, rfl⟩
      obtain ⟨ys, hys⟩ : ∃ ys, Go.Lib.compact l ++ List.replicate (l.length - (Go.Lib.compact l).length) 0 = ys := ⟨_, rfl⟩
      rw [hys]
      have hyl : ys.length = l.length := by rw [← hys, List.length_append, List.length_replicate]; omega
      have hgr : ∀ x : World, Sort.grow x #[] = x := fun x => by simp [Sort.grow]
      refine ⟨rfl, ?_, ?_⟩
      · have h5 := ownsRow_sortedI (w := w) (n := q) (os := #[]) (ss := l) (ts := ys) hyl hbase hb h1 h2 h3
        rw [hgr] at h5
        rcases h5.2 with ⟨_, hn⟩ | ⟨g', cap', cur', e, k1, k2, k3, k4, k5, k6⟩
        · omega
        · injection e with e1 _ e3
          injection e1 with e1
          injection e1 with e1
          subst e1 e3
          refine ⟨by simp [nums], .inr ⟨g, c, cur', rfl, k1, k2, by omega, k4, k5, ?_⟩⟩
          have := congrArg (List.take (Go.Lib.compact l).length) k6
          rw [List.take_take, Nat.mul_one, Nat.min_eq_left hcle, ← List.map_take, ← hys, List.take_left] at this
          rw [Nat.mul_one, this]
          rfl
      · have := grownBy_sortedI (w := w) (g := g) (n := q) (os := #[]) ys.toArray
        rw [hgr] at this
        exact this
abbrev zS : Value := .slice none 0 0
def Rd (v : Value) : Option (DataW Value × List MemPlace) := some (.held v, [])
def ints (l : List Nat) : List Int := l.map fun j : Nat => (j : Int)
/-- W' is W but for the blocks of S, and new ones. -/
structure Ex (W W' : World) (S : Nat → Prop) : Prop where
  b0 : Below 0 W W'
  blk : ∀ i, i < W.heap.size → ¬ S i → W'.heap[i]? = W.heap[i]?
theorem Ex.refl (W : World) (S : Nat → Prop) : Ex W W S := ⟨Below.refl _ _, fun _ _ _ => rfl⟩
theorem Ex.size {W W' : World} {S : Nat → Prop} (h : Ex W W' S) : W.heap.size ≤ W'.heap.size := h.b0.size
theorem Ex.trans {W W' W2 : World} {S S' : Nat → Prop} (h : Ex W W' S) (h2 : Ex W' W2 S') (hS : ∀ b, S' b → b < W.heap.size → S b) : Ex W W2 S :=
  ⟨h.b0.trans h2.b0, fun i hi hn => (h2.blk i (by have := h.size; omega) (fun h' => hn (hS i h' hi))).trans (h.blk i hi hn)⟩
theorem Ex.mono {W W' : World} {S S' : Nat → Prop} (h : Ex W W' S) (hS : ∀ b, S b → b < W.heap.size → S' b) : Ex W W' S' := ⟨h.b0, fun i hi hn => h.blk i hi (fun h' => hn (hS i h' hi))⟩
theorem Ex.below {W W' : World} {S : Nat → Prop} (h : Ex W W' S) {B : Nat} (hB : B ≤ W.heap.size) (hS : ∀ b, S b → B ≤ b) : Below B W W' :=
  ⟨h.b0.os, h.b0.tape, h.b0.output, h.b0.size, fun k hk => h.blk k (by omega) (fun h' => by have := hS k h'; omega)⟩
theorem Ex.kept {W W' : World} {S : Nat → Prop} (h : Ex W W' S) : Kept W W' S := ⟨h.size, h.blk⟩
theorem Ex.of_below {W W' : World} (h : Below W.heap.size W W') (S : Nat → Prop) : Ex W W' S := ⟨h.mono (Nat.zero_le _), fun i hi _ => h.block i hi⟩
theorem Ex.of_grown {W W' : World} {row : Option Nat} (h : W.grownBy W' row) : Ex W W' (fun b => row = some b) :=
  ⟨(Below.refl 0 W).grown h (Nat.zero_le _) (fun _ _ => Nat.zero_le _), fun i hi hn => h.block i hi (fun e => hn e.symm)⟩
/-- Of a slice's block: it is none of X. -/
def NB (v : Value) (X : Nat → Prop) : Prop := ∀ b, v.ownBlock = some b → ¬ X b
/-- What a matcher told. -/
def Told (m : Mt) (P : Nat) (base : Nat) (X : Nat → Prop) (D : DataW Value) (W : World) : Prop :=
  ∀ kl, Maps.has D kl = true → ∃ k i A c, k < P ∧ i ≤ m.n ∧ kl = .int .i64 ((k * (m.n + 1) + i : Nat) : Int) ∧ D.atKey kl (.held zS) = .held (.slice A (ints (m.L k i)).length c) ∧ NB (.slice A (ints (m.L k i)).length c) X ∧ OwnI W base (.slice A (ints (m.L k i)).length c) (ints (m.L k i))
theorem Told.move {m : Mt} {P base : Nat} {X : Nat → Prop} {D : DataW Value} {W W2 : World} {S X' : Nat → Prop} (h : Told m P base X D W) (hk : Ex W W2 S) (hS : ∀ b, S b → b < W.heap.size → X b) (hX : ∀ b, X' b → X b ∨ W.heap.size ≤ b) : Told m P base X' D W2 := by
  intro kl hkl
  obtain ⟨k, i, A, c, h1, h2, h3, h4, h5, h6⟩ := h kl hkl
  refine ⟨k, i, A, c, h1, h2, h3, h4, fun b hb hx => ?_, h6.kept hk.kept fun b hb hs => h5 b hb (hS b hs (own_lt h6 b hb))⟩
  rcases hX b hx with e | e
  · exact h5 b hb e
  · have := own_lt h6 b hb; omega
def XX (g mb : Nat) (X : Nat → Prop) (b : Nat) : Prop := b = g ∨ b = mb ∨ X b
/-- A matcher in block g, its map in block mb; the pieces' slice is V; the told rows lie in none of X. -/
structure MSt (m : Mt) (P : Nat) (V : Value) (s : ByteArray) (w0 : World) (g mb : Nat) (X : Nat → Prop) (W : World) : Prop where
  blk : W.heap[g]? = some (.cells #[V, .string s, .map (some mb)] 64 (0, 0))
  ne : g ≠ mb
  hg : w0.heap.size ≤ g
  hmb : w0.heap.size ≤ mb
  bel : Below w0.heap.size w0 W
  map : ∃ cnt D, W.ownsMap Try.prog 3 Rd mb cnt D ∧ Told m P w0.heap.size (XX g mb X) D W
section
variable {m : Mt} {P : Nat} {V : Value} {s : ByteArray} {w0 W : World} {g mb : Nat} {X : Nat → Prop}
theorem MSt.lt (h : MSt m P V s w0 g mb X W) : g < W.heap.size ∧ mb < W.heap.size := by
  obtain ⟨cnt, D, h1, _⟩ := h.map
  exact ⟨blk_lt h.blk, h1.lt⟩
theorem ownsMap_block {D : DataW Value} {cnt : Nat} {W2 : World} (h : W.ownsMap Try.prog 3 Rd mb cnt D) (hb : W2.heap[mb]? = W.heap[mb]?) : W2.ownsMap Try.prog 3 Rd mb cnt D := by
  obtain ⟨es, clock, h1, r⟩ := h
  exact ⟨es, clock, hb.trans h1, r⟩
/-- Blocks that the told rows lie not in may turn. -/
theorem MSt.step (h : MSt m P V s w0 g mb X W) {W2 : World} {S X' : Nat → Prop} (hk : Ex W W2 S) (hS : ∀ b, S b → b < W.heap.size → X b ∧ b ≠ g ∧ b ≠ mb ∧ w0.heap.size ≤ b) (hX : ∀ b, X' b → X b ∨ W.heap.size ≤ b) : MSt m P V s w0 g mb X' W2 := by
  obtain ⟨l1, l2⟩ := h.lt
  obtain ⟨cnt, D, h1, h2⟩ := h.map
  refine ⟨(hk.blk g l1 (fun h' => (hS g h' l1).2.1 rfl)).trans h.blk, h.ne, h.hg, h.hmb, h.bel.trans ?_, cnt, D, ownsMap_block h1 (hk.blk mb l2 (fun h' => (hS mb h' l2).2.2.1 rfl)), h2.move hk (fun b hb hl => .inr (.inr (hS b hb hl).1)) (fun b hb => ?_)⟩
  · refine (hk.mono (S' := fun b => S b ∧ w0.heap.size ≤ b) (fun b hb hl => ⟨hb, (hS b hb hl).2.2.2⟩)).below (by have := h.hg; omega) (fun b hb => hb.2)
  · rcases hb with e | e | e
    · exact .inl (.inl e)
    · exact .inl (.inr (.inl e))
    · rcases hX b e with e | e
      · exact .inl (.inr (.inr e))
      · exact .inr e
theorem MSt.still (h : MSt m P V s w0 g mb X W) {W2 : World} (hk : Below W.heap.size W W2) : MSt m P V s w0 g mb X W2 := h.step (Ex.of_below hk (fun _ => False)) (fun _ h' => h'.elim) (fun _ h' => .inl h')
theorem MSt.alloc (h : MSt m P V s w0 g mb X W) (o : Obj) : MSt m P V s w0 g mb X (W.alloc o) := h.still ((Below.refl _ _).alloc (Nat.le_refl _) o)
theorem MSt.drewN (h : MSt m P V s w0 g mb X W) (n : Nat) : MSt m P V s w0 g mb X (W.drewN n) := h.still (lN (Below.refl _ _) n)
/-- The contract of ends, of the pieces below K. -/
def EndsC (m : Mt) (P : Nat) (V : Value) (s : ByteArray) (w0 : World) (g mb K : Nat) : Prop :=
  ∀ (k i : Nat) (X : Nat → Prop) (W : World), k < K → i ≤ m.n → MSt m P V s w0 g mb X W → (∀ b, X b → b < W.heap.size) →
    Calls Try.prog 31 #[.pointer (some ⟨g, 0, none⟩), .int .i64 (k : Int), .int .i64 (i : Int)] W fun e W' =>
      ∃ A c, e = .returned (.slice A (ints (m.L k i)).length c) ∧ OwnI W' w0.heap.size (.slice A (ints (m.L k i)).length c) (ints (m.L k i)) ∧ NB (.slice A (ints (m.L k i)).length c) (XX g mb X) ∧ MSt m P V s w0 g mb X W' ∧ Ex W W' (· = mb)
/-- The contract of found, at piece k. -/
def FoundC (m : Mt) (P : Nat) (V : Value) (s : ByteArray) (w0 : World) (g mb k : Nat) (pv : Value) : Prop :=
  ∀ (i : Nat) (X : Nat → Prop) (W : World), i ≤ m.n → MSt m P V s w0 g mb X W → (∀ b, X b → b < W.heap.size) →
    Calls Try.prog 50 #[.pointer (some ⟨g, 0, none⟩), pv, .int .i64 (i : Int)] W fun e W' =>
      ∃ A c l, e = .returned (.slice A l.length c) ∧ OwnI W' W.heap.size (.slice A l.length c) l ∧ l.length ≤ (m.n + 1) * (m.n + 1) + m.n + 2 ∧ (∀ x, x ∈ l ↔ ∃ j : Nat, x = (j : Int) ∧ j ≤ m.n ∧ m.N k i j) ∧ MSt m P V s w0 g mb (fun b => X b ∨ (Value.slice A l.length c).ownBlock = some b) W' ∧ Ex W W' (· = mb)
end
abbrev pv85 (ps : List S85) (k : Nat) (A2 : Option Addr) (c2 : Nat) : Value := .agg #[.int .i64 (rd_T85 ps k).f0, .string (rd_T85 ps k).f1, .slice A2 (rd_T85 ps k).f2.length c2]
theorem key_eq (k n i : Nat) (hk : k ≤ 60) (hn : n ≤ 1048576) (hi : i ≤ n) : wrap64 (wrap64 ((k : Int) * wrap64 ((n : Int) + 1)) + (i : Int)) = ((k * (n + 1) + i : Nat) : Int) := by
  have h1 : k * (n + 1) ≤ 60 * (n + 1) := Nat.mul_le_mul_right _ hk
  have h2 : ((k * (n + 1) : Nat) : Int) = (k : Int) * ((n : Int) + 1) := by push_cast; rfl
  rw [IntWalk.wrap64_in ((n : Int) + 1) (by omega), ← h2, IntWalk.wrap64_in ((k * (n + 1) : Nat) : Int) (by omega), IntWalk.wrap64_in _ (by omega)]
  push_cast; rfl
theorem key_wf (k n i : Nat) (hk : k ≤ 60) (hn : n ≤ 1048576) (hi : i ≤ n) : (Lit.int .i64 ((k * (n + 1) + i : Nat) : Int)).wf = true := by
  have h1 : k * (n + 1) ≤ 60 * (n + 1) := Nat.mul_le_mul_right _ hk
  have h2 : k * (n + 1) + i ≤ 100000000 := by omega
  generalize k * (n + 1) + i = q at h2
  rw [← IntWalk.wrap64_in (q : Int) (by omega)]
  exact wrap64_wf _
theorem key_inj (n k i k' i' : Nat) (hi : i ≤ n) (hi' : i' ≤ n) (h : Lit.int .i64 ((k * (n + 1) + i : Nat) : Int) = Lit.int .i64 ((k' * (n + 1) + i' : Nat) : Int)) : k = k' ∧ i = i' := by
  have h1 : k * (n + 1) + i = k' * (n + 1) + i' := by injection h with _ h; omega
  have h2 : (k * (n + 1) + i) / (n + 1) = k := by rw [Nat.mul_comm, Nat.mul_add_div (by omega), Nat.div_eq_of_lt (by omega)]; omega
  have h3 : (k' * (n + 1) + i') / (n + 1) = k' := by rw [Nat.mul_comm, Nat.mul_add_div (by omega), Nat.div_eq_of_lt (by omega)]; omega
  have : k = k' := by rw [← h2, h1, h3]
  subst this
  exact ⟨rfl, by omega⟩
theorem php : ∀ (M : Nat) (l : List Nat), l.Nodup → (∀ x ∈ l, x < M) → l.length ≤ M
  | 0, l, _, h => by
    cases l with
    | nil => exact Nat.le_refl _
    | cons a _ => exact absurd (h a (List.mem_cons_self ..)) (by omega)
  | M + 1, l, hn, h => by
    have h1 := php M (l.erase M) (hn.erase _) (fun x hx => by
      have h2 := h x (List.mem_of_mem_erase hx)
      have : x ≠ M := fun e => by subst e; exact hn.not_mem_erase hx
      omega)
    by_cases hm : M ∈ l
    · rw [List.length_erase_of_mem hm] at h1; omega
    · rw [List.erase_of_not_mem hm] at h1; omega
theorem told_count {m : Mt} {P base mb cnt : Nat} {X : Nat → Prop} {D : DataW Value} {W : World} (h : W.ownsMap Try.prog 3 Rd mb cnt D) (ht : Told m P base X D W) : W.ownsMap Try.prog 3 Rd mb (P * (m.n + 1)) D := by
  have htd := h.tidy (Maps.int_keyed Try.underlying3)
  obtain ⟨es, clock, h1, h2, _, h4⟩ := h
  refine ⟨es, clock, h1, h2, ?_, h4⟩
  obtain ⟨ds, rfl, hp⟩ := htd
  have hds : ds = (es.toList.map (WideElems.rg Try.prog 3 Rd)).foldr DataW.insert [] := by injection h4
  have hlen : ds.length = es.size := by
    rw [hds, length_sorted]; simp
  rw [← hlen]
  have hkey : ∀ p ∈ ds, ∃ q : Nat, q < P * (m.n + 1) ∧ p.1 = .int .i64 (q : Int) := fun p hp2 => by
    have hmine : ∀ kl, p.1.sameKey kl = true → Maps.has (.map ds) kl = true := fun kl hk => List.any_eq_true.2 ⟨p, hp2, hk⟩
    have hIs : WideAt.IsKeyLit p.1 := by
      rw [hds] at hp2
      obtain ⟨x, hx, rfl⟩ := List.mem_map.1 ((WideShapes.sorted_perm _).mem_iff.1 hp2)
      obtain ⟨y, hy⟩ := h2.reads x hx
      rw [WideElems.rg_of hy]
      exact (Maps.int_keyed (P := Try.prog) Try.underlying3).key (WideElems.rd_key hy)
    obtain ⟨k, i, A, c, hk, hi, e, _⟩ := ht p.1 (hmine p.1 (WideAt.sameKey_self hIs))
    refine ⟨k * (m.n + 1) + i, ?_, e⟩
    have : (k + 1) * (m.n + 1) ≤ P * (m.n + 1) := Nat.mul_le_mul_right _ hk
    rw [Nat.add_mul] at this
    omega
  have hm : (ds.map fun p => match p.1 with | .int _ q => q.toNat | _ => 0).length ≤ P * (m.n + 1) := by
    refine php _ _ ?_ (fun x hx => ?_)
    · rw [List.nodup_iff_pairwise_ne, List.pairwise_map]
      refine (hp.imp_of_mem ?_)
      intro a b ha hb hne
      obtain ⟨qa, _, ea⟩ := hkey a ha
      obtain ⟨qb, _, eb⟩ := hkey b hb
      rw [ea, eb] at hne ⊢
      intro e
      have e : qa = qb := by simpa using e
      exact hne (by rw [e])
    · obtain ⟨p, hp2, rfl⟩ := List.mem_map.1 hx
      obtain ⟨q, hq, e⟩ := hkey p hp2
      rw [e]
      simpa using hq
  simpa using hm
theorem own_ge {W : World} {base : Nat} {v : Value} {l : List Int} (h : OwnI W base v l) : ∀ b, v.ownBlock = some b → base ≤ b := by
  intro b hb
  rcases h.2 with ⟨rfl, _⟩ | ⟨g, cap, cur, rfl, hg, _⟩
  · simp [Value.ownBlock] at hb
  · have : g = b := by simpa [Value.ownBlock] using hb
    omega
theorem MSt.put {m : Mt} {P : Nat} {V : Value} {s : ByteArray} {w0 W W' : World} {g mb : Nat} {X : Nat → Prop} {cnt cnt' k i c : Nat} {A : Option Addr} {D : DataW Value} (h : MSt m P V s w0 g mb X W) (ht : Told m P w0.heap.size (XX g mb X) D W) (hm0 : W.ownsMap Try.prog 3 Rd mb cnt D)
    (hm : W'.ownsMap Try.prog 3 Rd mb cnt' (D.put (.int .i64 ((k * (m.n + 1) + i : Nat) : Int)) (.held (.slice A (ints (m.L k i)).length c)))) (hg : W.grownBy W' (some mb)) (hk : k < P) (hi : i ≤ m.n)
    (ho : OwnI W w0.heap.size (.slice A (ints (m.L k i)).length c) (ints (m.L k i))) (hn : NB (.slice A (ints (m.L k i)).length c) (XX g mb X)) : MSt m P V s w0 g mb X W' ∧ OwnI W' w0.heap.size (.slice A (ints (m.L k i)).length c) (ints (m.L k i)) := by
  obtain ⟨l1, l2⟩ := h.lt
  have hx := Ex.of_grown hg
  have hx2 : Ex W W' (· = mb) := hx.mono (fun b hb _ => by injection hb with hb; exact hb.symm)
  have ho' : OwnI W' w0.heap.size (.slice A (ints (m.L k i)).length c) (ints (m.L k i)) := ho.kept hx2.kept (fun b hb e => hn b hb (.inr (.inl e)))
  have hK := Maps.int_keyed (P := Try.prog) Try.underlying3
  refine ⟨⟨(hx2.blk g l1 h.ne).trans h.blk, h.ne, h.hg, h.hmb, h.bel.trans (hx2.below (by have := h.hg; omega) (fun b hb => by rw [hb]; exact h.hmb)), cnt', _, hm, ?_⟩, ho'⟩
  have ht' : Told m P w0.heap.size (XX g mb X) D W' := ht.move hx2 (fun b hb _ => .inr (.inl hb)) (fun b hb => .inl hb)
  intro kl hkl
  by_cases e : kl = .int .i64 ((k * (m.n + 1) + i : Nat) : Int)
  · subst e
    exact ⟨k, i, A, c, hk, hi, rfl, Maps.atKey_put_same hm0.isMap (show WideAt.IsKeyLit (.int .i64 _) from trivial) _ _, hn, ho'⟩
  · rw [Maps.has_put_other e] at hkl
    obtain ⟨k', i', A', c', h1, h2, h3, h4, h5⟩ := ht' kl hkl
    exact ⟨k', i', A', c', h1, h2, h3, by rw [Maps.atKey_put_other e]; exact h4, h5⟩
theorem m_ends (m : Mt) (ps : List S85) (A0 : Option Addr) (c0 : Nat) (s : ByteArray) (w0 : World) (g mb k : Nat) (hn : m.n = s.size) (hs : s.size ≤ 1048576) (hP : ps.length ≤ 60) (hc0 : ps.length ≤ c0) (hR : Kd.C k85 w0 A0 ps.length ps) (hk : k < ps.length)
    (hF : ∀ A2 c2, (rd_T85 ps k).f2.length ≤ c2 → (Kd.int .i64).C w0 A2 (rd_T85 ps k).f2.length (rd_T85 ps k).f2 → FoundC m ps.length (.slice A0 ps.length c0) s w0 g mb k (pv85 ps k A2 c2))
    (i : Nat) (X : Nat → Prop) (W : World) (hi : i ≤ m.n) (hS : MSt m ps.length (.slice A0 ps.length c0) s w0 g mb X W) (hX : ∀ b, X b → b < W.heap.size) :
    Calls Try.prog 31 #[.pointer (some ⟨g, 0, none⟩), .int .i64 (k : Int), .int .i64 (i : Int)] W fun e W' =>
      ∃ A c, e = .returned (.slice A (ints (m.L k i)).length c) ∧ OwnI W' w0.heap.size (.slice A (ints (m.L k i)).length c) (ints (m.L k i)) ∧ NB (.slice A (ints (m.L k i)).length c) (XX g mb X) ∧ MSt m ps.length (.slice A0 ps.length c0) s w0 g mb X W' ∧ Ex W W' (· = mb) := by
  obtain ⟨⟨h0, h1, h2⟩, f0, f1, f2⟩ := bC3 hS.blk
  have p1 : 0 ≤ ((k : Nat) : Int) := by omega
  have q1 : ((k : Nat) : Int) < ps.length := by omega
  obtain ⟨ad, A2, c2, e0, x0, x1, x2, l2, i2⟩ := at_T85 hR k p1 q1
  have hb := hS.bel
  replace x0 := (hb.cell (World.block_lt_of_cell? w0 _ x0)).trans x0
  replace x1 := (hb.cell (World.block_lt_of_cell? w0 _ x1)).trans x1
  replace x2 := (hb.cell (World.block_lt_of_cell? w0 _ x2)).trans x2
  subst e0
  rw [Int.toNat_natCast] at x0 x1 x2
  obtain ⟨cnt, D, hm, ht⟩ := hS.map
  obtain ⟨KL, eKL⟩ : ∃ KL, Lit.int .i64 ((k * (m.n + 1) + i : Nat) : Int) = KL := ⟨_, rfl⟩
  have hkey : keyOf Try.prog 3 (.int .i64 (wrap64 (wrap64 ((k : Int) * wrap64 ((s.size : Int) + 1)) + (i : Int)))) = some KL := by
    rw [← hn, key_eq k m.n i (by omega) (by omega) hi, ← eKL]
    exact Maps.keyOf_int_mk Try.underlying3 (key_wf k m.n i (by omega) (by omega) hi)
  have hKD : ∀ v ps', Rd v = some (D.atKey KL (.held zS), ps') → ∀ v', D.atKey KL (.held zS) = .held v' → v = v' := fun v ps' h1 v' h2 => by
    rw [h2] at h1
    unfold Rd at h1
    injection h1 with h1
    injection h1 with h1 _
    injection h1
  have hm2 := told_count hm ht
  have HM := aM hm
  have HM2 := aM hm2
  have HKD := aM hKD
  have HK := aM hkey
  have hu64 := Try.underlying64
  have hu62 := Try.underlying62
  have hu85 := Try.underlying85
  have hu30 := Try.underlying30
  replace p1 := eq_true p1
  replace q1 := eq_true q1
  have gp : decide (((k : Nat) : Int) < ps.length) = true := decide_eq_true (by omega)
  by_cases hh : Maps.has D KL = true
  · obtain ⟨k', i', A, c, t1, t2, t3, t4, t5, t6⟩ := ht KL hh
    rw [← eKL] at t3
    obtain ⟨rfl, rfl⟩ := key_inj m.n k i k' i' hi t2 t3
    have hfin : ∃ A' c', Ending.returned (.slice A (ints (m.L k i)).length c) = Ending.returned (.slice A' (ints (m.L k i)).length c') ∧ OwnI W w0.heap.size (.slice A' (ints (m.L k i)).length c') (ints (m.L k i)) ∧ NB (.slice A' (ints (m.L k i)).length c') (XX g mb X) ∧ MSt m ps.length (.slice (some ad) ps.length c0) s w0 g mb X W ∧ Ex W W (· = mb) :=
      ⟨A, c, rfl, t6, t5, hS, Ex.refl _ _⟩
    have HFIN := aM hfin
    have HT4 := aM t4
    have HH := aM hh
    clear hfin t4 hh t6 t5 t3 t2 t1 hS hm ht hkey hR hF i2 l2 hX hn eKL hi hk hs hP hb hc0 hKD hm2
    go_enter Try.func31, Try.ntmps31
    go_wp2_with (at_lookup; refine wpList_lookup_own_ok _ rfl _ _ 62 rfl 3 34 (Maps.int_keyed Try.underlying3) Try.underlying62 Rd (z := zS) (by go_simp) (.held zS) [] rfl mb cnt D rfl HM.out _ KL rfl HK.out ?_; intro v ps' hv; obtain rfl := HKD.out v ps' hv _ HT4.out; rw [HH.out]; clear hv)
    go_ret
    exact HFIN.out
  · have hf := hF A2 c2 l2 i2 i X W hi hS hX
    have HH := aM (Bool.eq_false_iff.mpr hh)
    have HF := aM hf
    clear hf hh
    have HS := aM hS
    have HT := aM ht
    have HX := aM hX
    have HE := aM eKL
    have HV := aM (show i ≤ m.n ∧ k < ps.length ∧ s.size ≤ 1048576 ∧ ps.length ≤ 60 ∧ m.n = s.size from ⟨hi, hk, hs, hP, hn⟩)
    clear hS hm ht hkey hR hF i2 l2 hX hn eKL hi hk hs hP hb hc0 hKD hm2
    go_enter Try.func31, Try.ntmps31
    go_wp2_with (at_lookup; refine wpList_lookup_own_ok _ rfl _ _ 62 rfl 3 34 (Maps.int_keyed Try.underlying3) Try.underlying62 Rd (z := zS) (by go_simp) (.held zS) [] rfl mb cnt D rfl HM.out _ KL rfl HK.out ?_; intro v ps' hv; rw [HH.out]; clear hv)
    refine HF.out.mono ?_
    rintro e W1 ⟨A, c, l, rfl, ho, hl, hq, hS1, hx1⟩
    obtain ⟨vi, vk, vs, vP, vn⟩ := HV.out
    have hllen : l.length ≤ 10000000000000 := by
      have : (m.n + 1) * (m.n + 1) ≤ 1048577 * 1048577 := Nat.mul_le_mul (by omega) (by omega)
      omega
    obtain ⟨lg, lm⟩ := HS.out.lt
    have hob := own_ge ho
    have HSRT := aM (msort W.heap.size A c l (by omega) W1 ho)
    have HL := aM hllen
    have HS1 := aM hS1
    have HX1 := aM hx1
    have HQ := aM hq
    have HOB := aM hob
    have HLT := aM (And.intro lg lm)
    clear ho hl hq hS1 hx1 vi vk vs vP vn hllen lg lm hob
    go_wp2_with fail
    refine HSRT.out.mono ?_
    rintro e W2 ⟨rfl, ho2, hg2⟩
    have hsl : (l.mergeSort fun x y => decide (x ≤ y)).length = l.length := List.length_mergeSort _
    have hC := mcompact W.heap.size A c (l.mergeSort fun x y => decide (x ≤ y)) (by rw [hsl]; have := HL.out; omega) W2 (by rw [hsl]; exact ho2)
    have hso : Go.Lib.compact (l.mergeSort fun x y => decide (x ≤ y)) = ints (m.L k i) := sorted_of l m.n (m.N k i) HQ.out
    rw [hso, hsl] at hC
    have HC := aM hC
    have HG2 := aM hg2
    clear hC hso hsl ho2 hg2
    go_wp2_with fail
    refine HC.out.mono ?_
    rintro e W3 ⟨rfl, ho3, hg3⟩
    obtain ⟨lg, lm⟩ := HLT.out
    have hx3 : Ex W1 W3 (fun b => (Value.slice A l.length c).ownBlock = some b) := (Ex.of_grown HG2.out).trans (Ex.of_grown hg3) (fun b hb _ => hb)
    have hS3 : MSt m ps.length (.slice (some ad) ps.length c0) s w0 g mb X W3 := HS1.out.step hx3 (fun b hb _ => by
      have h3 := HOB.out b hb
      refine ⟨.inr hb, ?_, ?_, ?_⟩
      · omega
      · omega
      · have := HS.out.hg; omega) (fun b hb => .inl (.inl hb))
    have hx4 : Ex W W3 (· = mb) := HX1.out.trans hx3 (fun b hb hl => absurd (HOB.out b hb) (by omega))
    have hnb : NB (.slice A (ints (m.L k i)).length c) (XX g mb X) := fun b hb hx => by
      have h3 := own_ge ho3 b hb
      rcases hx with e | e | e
      · omega
      · omega
      · have := HX.out b e; omega
    have ho4 : OwnI W3 w0.heap.size (.slice A (ints (m.L k i)).length c) (ints (m.L k i)) := ho3.lower (by have := HS.out.hg; omega)
    obtain ⟨cnt3, D3, hm3, ht3⟩ := hS3.map
    have hm3' := told_count hm3 ht3
    obtain ⟨vi, vk, vs, vP, vn⟩ := HV.out
    have hcl : ps.length * (m.n + 1) < maxLen := by
      have : ps.length * (m.n + 1) ≤ 60 * 1048577 := Nat.mul_le_mul vP (by omega)
      unfold maxLen; omega
    obtain ⟨⟨h30, h31, h32⟩, f30, f31, f32⟩ := bC3 hS3.blk
    have HFIN : Aside0 (∀ W4 cnt', W4.ownsMap Try.prog 3 Rd mb cnt' (D3.put KL (.held (.slice A (ints (m.L k i)).length c))) → W3.grownBy W4 (some mb) → ∃ A' c', Ending.returned (.slice A (ints (m.L k i)).length c) = Ending.returned (.slice A' (ints (m.L k i)).length c') ∧ OwnI W4 w0.heap.size (.slice A' (ints (m.L k i)).length c') (ints (m.L k i)) ∧ NB (.slice A' (ints (m.L k i)).length c') (XX g mb X) ∧ MSt m ps.length (.slice (some ad) ps.length c0) s w0 g mb X W4 ∧ Ex W W4 (· = mb)) := aM (fun W4 cnt' h4 hg4 => by
      rw [← HE.out] at h4
      obtain ⟨q1, q2⟩ := hS3.put ht3 hm3 h4 hg4 vk vi ho4 hnb
      exact ⟨A, c, rfl, q2, hnb, q1, hx4.trans ((Ex.of_grown hg4).mono (fun b hb _ => by injection hb with hb; exact hb.symm)) (fun b hb _ => hb)⟩)
    have HM3 := aM hm3'
    have HCL := aM hcl
    clear lg lm hx3 hS3 hx4 hnb ho4 hm3 ht3 hm3' vi vk vs vP vn hcl ho3 hg3 h0 h1 h2 f0 f1 f2 x0 x1 x2
    go_wp2_with (at_mapUpdate; refine wpList_mapUpdate_own _ rfl _ _ _ 62 rfl 3 34 (Maps.int_keyed Try.underlying3) Try.underlying62 Rd mb (ps.length * (m.n + 1)) D3 rfl HM3.out HCL.out _ _ KL rfl rfl HK.out (.held (.slice A (ints (m.L k i)).length c)) [] rfl ?_; intro W4 hm4 hg4; have H4 := aM hm4; have HG4 := aM hg4; clear hm4 hg4)
    go_ret
    exact HFIN.out _ _ H4.out HG4.out
theorem ints_length (l : List Nat) : (ints l).length = l.length := List.length_map _
theorem ints_get (l : List Nat) (j : Nat) (hj : j < l.length) : (ints l).getD j 0 = (l[j] : Int) := by
  unfold ints
  simp [hj]
theorem ints_app (a b : List Nat) : ints (a ++ b) = ints a ++ ints b := List.map_append
theorem inc64 (j : Nat) (hj : j ≤ 1000000000000000) : wrap64 ((j : Int) + 1) = ((j + 1 : Nat) : Int) := by
  rw [IntWalk.wrap64_in _ (by omega)]; push_cast; rfl
theorem own_form {W : World} {base : Nat} {v : Value} {l : List Int} (h : OwnI W base v l) : ∃ A c, v = .slice A l.length c ∧ l.length ≤ c := by
  rcases h.2 with ⟨rfl, h0⟩ | ⟨g, cap, cur, rfl, _, _, h1, _⟩
  · exact ⟨none, 0, by rw [h0], by omega⟩
  · exact ⟨_, cap, rfl, h1⟩
theorem own_cell {W : World} {base c : Nat} {A : Option Addr} {l : List Nat} (h : OwnI W base (.slice A (ints l).length c) (ints l)) (j : Nat) (hj : j < l.length) : ∃ bg, A = some ⟨bg, 0, none⟩ ∧ base ≤ bg ∧ bg < W.heap.size ∧ W.cell? ⟨bg, j, none⟩ = some (.int .i64 (l[j] : Int)) ∧ W.frozen? ⟨bg, j, none⟩ = false := by
  rcases h.2 with ⟨_, h0⟩ | ⟨g, cap, cur, e, hb, hh, h1, h2⟩
  · rw [ints_length] at h0; omega
  · injection e with e1 _ e3
    subst e1 e3
    have hj2 : (j : Int) < ((ints l).length : Nat) := by rw [ints_length]; omega
    obtain ⟨h3, h4⟩ := own_at h (j : Int) (by omega) hj2
    rw [Int.toNat_natCast] at h3 h4
    refine ⟨g, rfl, hb, blk_lt hh, ?_, h4⟩
    rw [h3]
    unfold rd
    rw [Int.toNat_natCast, ints_get l j hj]
/-- A row of truth values of the call's own. -/
abbrev OwnB (W : World) (base b n : Nat) (l : List Bool) : Prop := W.ownsRow base 4 1 (.slice (some ⟨b, 0, none⟩) n n) n (encs Value.bool l)
theorem OwnB.len {W : World} {base b n : Nat} {l : List Bool} (h : OwnB W base b n l) : l.length = n := by
  have := h.1; simpa [encs] using this
theorem OwnB.cell {W : World} {base b n : Nat} {l : List Bool} (h : OwnB W base b n l) (j : Nat) (hj : j < n) : W.cell? ⟨b, j, none⟩ = some (.bool (l.getD j false)) ∧ W.frozen? ⟨b, j, none⟩ = false := by
  have := own_at_of (enc := Value.bool) (d := false) h (j : Int) (by omega) (by omega)
  rw [Int.toNat_natCast] at this
  refine ⟨?_, this.2⟩
  rw [this.1]
  unfold rdOf
  rw [Int.toNat_natCast]
theorem OwnB.store {W : World} {base b n : Nat} {l : List Bool} (h : OwnB W base b n l) (j : Nat) (x : Bool) : OwnB (W.setCell ⟨b, j, none⟩ (.bool x)) base b n (l.set j x) ∧ W.grownBy (W.setCell ⟨b, j, none⟩ (.bool x)) (some b) := by
  have := own_store_of (enc := Value.bool) h (j : Int) x
  rw [Int.toNat_natCast] at this
  exact this
theorem OwnB.lt {W : World} {base b n : Nat} {l : List Bool} (h : OwnB W base b n l) : base ≤ b ∧ b < W.heap.size := by
  rcases h.2 with ⟨e, _⟩ | ⟨g, cap, cur, e, hb, hh, _⟩
  · cases e
  · injection e with e1
    injection e1 with e1
    injection e1 with e1
    subst e1
    exact ⟨hb, blk_lt hh⟩
theorem OwnB.kept {W W2 : World} {base b n : Nat} {l : List Bool} {S : Nat → Prop} (h : OwnB W base b n l) (hk : Ex W W2 S) (hn : ¬ S b) : OwnB W2 base b n l :=
  own_move h (fun k hk2 => by
    have : b = k := by simpa [Value.ownBlock] using hk2
    subst this
    exact hk.blk b h.lt.2 hn)
/-- Inside again: the list, the row of those that came, the matcher. -/
structure AgS (m : Mt) (P : Nat) (V : Value) (s : ByteArray) (w0 : World) (g mb B : Nat) (X : Nat → Prop) (v0 : Value) (W0 : World) (cb N : Nat) (come : List Bool) (v : Value) (l : List Nat) (W : World) : Prop where
  own : OwnI W B v (ints l)
  row : OwnB W W0.heap.size cb N come
  st : MSt m P V s w0 g mb (fun b => X b ∨ v.ownBlock = some b ∨ b = cb) W
  ex : Ex W0 W (fun b => b = mb ∨ v0.ownBlock = some b)
  ncb : v.ownBlock ≠ some cb
  ob : ∀ b, v.ownBlock = some b → v0.ownBlock = some b ∨ W0.heap.size ≤ b
  gB : g < B ∧ mb < B ∧ w0.heap.size ≤ B ∧ B ≤ W0.heap.size
section
variable {m : Mt} {P : Nat} {V : Value} {s : ByteArray} {w0 : World} {g mb B : Nat} {X : Nat → Prop} {v0 : Value} {W0 : World} {cb N : Nat} {come : List Bool} {v : Value} {l : List Nat} {W : World}
theorem AgS.still (h : AgS m P V s w0 g mb B X v0 W0 cb N come v l W) {W2 : World} (hk : Below W.heap.size W W2) : AgS m P V s w0 g mb B X v0 W0 cb N come v l W2 := by
  have hx : Ex W W2 (fun _ => False) := Ex.of_below hk _
  exact ⟨h.own.kept hx.kept (fun _ _ h => h), h.row.kept hx (fun h => h), h.st.still hk, h.ex.trans hx (fun _ h _ => h.elim), h.ncb, h.ob, h.gB⟩
theorem AgS.mark (h : AgS m P V s w0 g mb B X v0 W0 cb N come v l W) (j : Nat) : AgS m P V s w0 g mb B X v0 W0 cb N (come.set j true) v l (W.setCell ⟨cb, j, none⟩ (.bool true)) := by
  obtain ⟨r1, r2⟩ := h.row.store j true
  have hx : Ex W (W.setCell ⟨cb, j, none⟩ (.bool true)) (· = cb) := (Ex.of_grown r2).mono (fun b hb _ => by injection hb with hb; exact hb.symm)
  have hcb := h.row.lt
  have hB := h.gB
  refine ⟨h.own.kept hx.kept (fun b hb e => h.ncb (by rw [hb, e])), r1, h.st.step hx (fun b hb _ => ?_) (fun b hb => .inl hb), h.ex.trans hx (fun b hb hl => ?_), h.ncb, h.ob, h.gB⟩
  · subst hb
    exact ⟨.inr (.inr rfl), by omega, by omega, by omega⟩
  · omega
theorem AgS.app (h : AgS m P V s w0 g mb B X v0 W0 cb N come v l W) {v1 : Value} {W1 : World} {l1 : List Nat} (h1 : OwnI W1 B v1 (ints l1)) (h2 : W.grownBy W1 v.ownBlock) (h3 : v1.ownBlock = v.ownBlock ∨ ∃ b, v1.ownBlock = some b ∧ W.heap.size ≤ b) : AgS m P V s w0 g mb B X v0 W0 cb N come v1 l1 W1 := by
  have hx := Ex.of_grown h2
  have hcb := h.row.lt
  have hB := h.gB
  have hW := h.ex.size
  refine ⟨h1, h.row.kept hx (fun e => h.ncb e), h.st.step hx (fun b hb _ => ?_) (fun b hb => ?_), h.ex.trans hx (fun b hb hl => ?_), ?_, ?_, h.gB⟩
  · have := own_ge h.own b hb
    exact ⟨.inr (.inl hb), by omega, by omega, by omega⟩
  · rcases hb with e | e | e
    · exact .inl (.inl e)
    · rcases h3 with h3 | ⟨b', h3, h4⟩
      · exact .inl (.inr (.inl (h3 ▸ e)))
      · rw [h3] at e; injection e with e; subst e; exact .inr h4
    · exact .inl (.inr (.inr e))
  · rcases h.ob b hb with e | e
    · exact .inr e
    · omega
  · rcases h3 with h3 | ⟨b', h3, h4⟩
    · rw [h3]; exact h.ncb
    · rw [h3]; intro e; injection e with e; omega
  · intro b hb
    rcases h3 with h3 | ⟨b', h3, h4⟩
    · rw [h3] at hb; exact h.ob b hb
    · rw [h3] at hb; injection hb with hb; subst hb; exact .inr (by omega)
theorem AgS.ends (h : AgS m P V s w0 g mb B X v0 W0 cb N come v l W) {W1 : World} (h1 : MSt m P V s w0 g mb (fun b => X b ∨ v.ownBlock = some b ∨ b = cb) W1) (h2 : Ex W W1 (· = mb)) : AgS m P V s w0 g mb B X v0 W0 cb N come v l W1 := by
  have hB := h.gB
  have hcb := h.row.lt
  refine ⟨h.own.kept h2.kept (fun b hb e => ?_), h.row.kept h2 (fun e => by omega), h1, h.ex.trans h2 (fun b hb _ => .inl hb), h.ncb, h.ob, h.gB⟩
  have := own_ge h.own b hb
  omega
end
/-- Those that came. -/
def Cm (come : List Bool) (n : Nat) (Q : Nat → Prop) : Prop := ∀ j, j ≤ n → (come.getD j false = true ↔ Q j)
theorem Cm.set {come : List Bool} {n : Nat} {Q : Nat → Prop} (h : Cm come n Q) (hl : come.length = n + 1) (e : Nat) (he : e ≤ n) : Cm (come.set e true) n (fun j => Q j ∨ j = e) := by
  intro j hj
  by_cases c : j = e
  · subst c
    simp [List.getD_eq_getElem?_getD, show j < come.length by omega]
  · have := h j hj
    simp only [List.getD_eq_getElem?_getD, List.getElem?_set_ne (Ne.symm c)] at this ⊢
    rw [this]
    exact ⟨.inl, fun h => h.resolve_right c⟩
theorem take_succ_mem (l : List Nat) (i : Nat) (hi : i < l.length) (x : Nat) : x ∈ l.take (i + 1) ↔ x ∈ l.take i ∨ x = l[i] := by
  rw [List.take_succ_eq_append_getElem hi, List.mem_append, List.mem_singleton]
structure AI (m : Mt) (kk : Nat) (l0 l : List Nat) (i : Nat) : Prop where
  nd : l.Nodup
  le : ∀ x ∈ l, x ≤ m.n
  re : ∀ x ∈ l, ∃ a, a ∈ l0 ∧ Rtc (m.N kk) a x
  su : ∀ a ∈ l0, a ∈ l
  cl : ∀ q, q < i → ∀ x, l[q]? = some x → ∀ e, m.N kk x e → e ∈ l
  il : i ≤ l.length
theorem AI.len {m : Mt} {kk : Nat} {l0 l : List Nat} {i : Nat} (h : AI m kk l0 l i) : l.length ≤ m.n + 1 := php _ _ h.nd (fun x hx => by have := h.le x hx; omega)
theorem AI.app {m : Mt} {kk : Nat} {l0 l : List Nat} {i e x : Nat} (h : AI m kk l0 l i) (he : e ∉ l) (hn : e ≤ m.n) (hx : x ∈ l) (hN : m.N kk x e) : AI m kk l0 (l ++ [e]) i := by
  refine ⟨?_, fun y hy => ?_, fun y hy => ?_, fun a ha => List.mem_append_left _ (h.su a ha), fun q hq y hy e' he' => ?_, ?_⟩
  · exact List.nodup_append.2 ⟨h.nd, by simp, fun a ha b hb => by rw [List.mem_singleton.1 hb]; exact fun e2 => he (e2 ▸ ha)⟩
  · rcases List.mem_append.1 hy with h1 | h1
    · exact h.le y h1
    · rw [List.mem_singleton.1 h1]; exact hn
  · rcases List.mem_append.1 hy with h1 | h1
    · exact h.re y h1
    · rw [List.mem_singleton.1 h1]
      obtain ⟨a, ha, hr⟩ := h.re x hx
      exact ⟨a, ha, hr.tail hN⟩
  · rw [List.getElem?_append_left (by have := h.il; omega)] at hy
    exact List.mem_append_left _ (h.cl q hq y hy e' he')
  · rw [List.length_append]; have := h.il; omega
theorem AI.next {m : Mt} {kk : Nat} {l0 l : List Nat} {i x : Nat} (h : AI m kk l0 l i) (hx : l[i]? = some x) (hc : ∀ e, m.N kk x e → e ∈ l) : AI m kk l0 l (i + 1) := by
  refine ⟨h.nd, h.le, h.re, h.su, fun q hq y hy e he => ?_, ?_⟩
  · by_cases c : q = i
    · subst c; rw [hx] at hy; injection hy with hy; subst hy; exact hc e he
    · exact h.cl q (by omega) y hy e he
  · have := (List.getElem?_eq_some_iff.1 hx).1; omega
theorem AI.fin {m : Mt} {kk : Nat} {l0 l : List Nat} (h : AI m kk l0 l l.length) (x : Nat) : x ∈ l ↔ ∃ a, a ∈ l0 ∧ Rtc (m.N kk) a x := by
  refine ⟨h.re x, fun ⟨a, ha, hr⟩ => ?_⟩
  induction hr with
  | refl => exact h.su a ha
  | tail h1 h2 ih =>
    obtain ⟨q, hq, e⟩ := List.mem_iff_getElem.1 (ih ⟨a, ha, h1⟩)
    exact h.cl q hq _ (by rw [List.getElem?_eq_getElem hq, e]) _ h2
theorem AI.start {m : Mt} {kk : Nat} {l0 : List Nat} (hnd : l0.Nodup) (hle : ∀ x ∈ l0, x ≤ m.n) : AI m kk l0 l0 0 :=
  ⟨hnd, hle, fun x hx => ⟨x, hx, .refl⟩, fun _ h => h, fun q hq => absurd hq (by omega), Nat.zero_le _⟩
theorem m_again (m : Mt) (P : Nat) (V : Value) (s : ByteArray) (w0 : World) (g mb K kk : Nat) (hE : EndsC m P V s w0 g mb K) (hkk : kk < K) (hn : m.n = s.size) (hs : s.size ≤ 1048576) (hL : ∀ i, i ≤ m.n → ∀ e, e ∈ m.L kk i ↔ m.N kk i e)
    (l0 : List Nat) (A0 : Option Addr) (c0 : Nat) (X : Nat → Prop) (W : World) (B : Nat) (hnd : l0.Nodup) (hle : ∀ x ∈ l0, x ≤ m.n) (ho : OwnI W B (.slice A0 (ints l0).length c0) (ints l0)) (hS : MSt m P V s w0 g mb (fun b => X b ∨ (Value.slice A0 (ints l0).length c0).ownBlock = some b) W)
    (hB : g < B ∧ mb < B ∧ w0.heap.size ≤ B ∧ B ≤ W.heap.size) (hX : ∀ b, X b → b < W.heap.size) :
    Calls Try.prog 72 #[.pointer (some ⟨g, 0, none⟩), .int .i64 (kk : Int), .slice A0 (ints l0).length c0] W fun e W' =>
      ∃ A c l, e = .returned (.slice A (ints l).length c) ∧ OwnI W' B (.slice A (ints l).length c) (ints l) ∧ l.Nodup ∧ (∀ x, x ∈ l ↔ ∃ a, a ∈ l0 ∧ Rtc (m.N kk) a x) ∧ MSt m P V s w0 g mb (fun b => X b ∨ (Value.slice A (ints l).length c).ownBlock = some b) W' ∧ Ex W W' (fun b => b = mb ∨ (Value.slice A0 (ints l0).length c0).ownBlock = some b)
        ∧ (∀ b, (Value.slice A (ints l).length c).ownBlock = some b → (Value.slice A0 (ints l0).length c0).ownBlock = some b ∨ W.heap.size ≤ b) := by
  obtain ⟨⟨h0, h1, h2⟩, f0, f1, f2⟩ := bC3 hS.blk
  obtain ⟨v0, hv0⟩ : ∃ v0, v0 = Value.slice A0 (ints l0).length c0 := ⟨_, rfl⟩
  obtain ⟨N, hN⟩ : ∃ N, m.n + 1 = N := ⟨_, rfl⟩
  have hN1 : N ≤ 1048577 := by rw [← hN, hn]; exact Nat.succ_le_succ hs
  have hN2 : N * 1 ≤ 281474976710656 := by rw [Nat.mul_one]; exact Nat.le_trans hN1 (by decide)
  have hw1 : wrap64 ((s.size : Int) + 1) = (N : Int) := by rw [← hN, hn]; exact inc64 _ (by omega)
  have HW1 := aM hw1
  clear hw1
  have hmk := print_make_of (P := Try.prog) 58 4 (.bool false) 1 Try.underlying58 (by kernel_rfl) rfl (by decide) N hN2 W
  have hA : AgS m P V s w0 g mb B X v0 W W.heap.size N (List.replicate N false) v0 l0 (W.alloc (.cells (madeCells #[Value.bool false] N) 4)) := by
    have hb : Below W.heap.size W (W.alloc (.cells (madeCells #[Value.bool false] N) 4)) := (Below.refl _ _).alloc (Nat.le_refl _) _
    have hx : Ex W (W.alloc (.cells (madeCells #[Value.bool false] N) 4)) (fun _ => False) := Ex.of_below hb _
    have hlt : ∀ b, v0.ownBlock = some b → b < W.heap.size := fun b hb => by rw [hv0] at hb; exact own_lt ho b hb
    refine ⟨?_, own_made_of W _ _ N (Nat.le_refl _) (Nat.le_trans hN1 (by decide)), hS.step hx (fun _ h _ => h.elim) (fun b hb => ?_), hx.mono (fun _ h _ => h.elim), ?_, fun b hb => .inl hb, hB⟩
    · rw [hv0]; exact ho.kept hx.kept (fun _ _ h => h)
    · rcases hb with e | e | e
      · exact .inl (.inl e)
      · rw [hv0] at e; exact .inl (.inr e)
      · exact .inr (by omega)
    · intro e; have := hlt _ e; omega
  have hC : Cm (List.replicate N false) m.n (fun j => j ∈ l0.take 0) := fun j hj => by simp [List.getD_eq_getElem?_getD, List.getElem?_replicate, show j < N by omega]
  have HA := aM hA
  have HC := aM hC
  have HV := aM (show m.n = s.size ∧ s.size ≤ 1048576 ∧ m.n + 1 = N ∧ kk < K from ⟨hn, hs, hN, hkk⟩)
  have HLE := aM hle
  have HND := aM hnd
  have HE := aM hE
  have HLL := aM hL
  have HX := aM hX
  have HB := aM hB
  have HV0 := aM hv0
  clear hE hkk hn hs hL hnd hle ho hS hB hX hN hA hC
  have hw1 := HW1.out
  go_enter Try.func72, Try.ntmps72
  go_wp2_with fail
  clear hw1
  go_loopg [22] l0.length (fun gk v22 w' => ∃ (i : Nat) (come : List Bool), v22 = .int .i64 (i : Int) ∧ Aside0 (i + gk = l0.length) ∧ Aside0 (AgS m P V s w0 g mb B X v0 W W.heap.size N come v0 l0 w') ∧ Aside0 (Cm come m.n (fun j => j ∈ l0.take i)))
  case atStart => exact ⟨0, _, rfl, aM (by omega), HA, HC⟩
  case round =>
    clear HA HC h0 h1 h2 f0 f1 f2 hmk
    obtain ⟨i, come, rfl, HI, HA, HC⟩ := hrel
    obtain ⟨⟨h0, h1, h2⟩, f0, f1, f2⟩ := bC3 HA.out.st.blk
    by_cases c : i < l0.length
    · have hi := HI.out
      cases gk with
      | zero => omega
      | succ k1 =>
        have ho := HA.out.own
        rw [HV0.out] at ho
        obtain ⟨bg, rfl, hb1, hb2, hx1, hx2⟩ := own_cell ho i c
        have hxle : l0[i] ≤ m.n := HLE.out _ (List.getElem_mem c)
        obtain ⟨x, hx⟩ : ∃ x, x = l0[i] := ⟨_, rfl⟩
        rw [← hx] at hx1 hxle
        obtain ⟨hy1, hy2⟩ := HA.out.row.cell x (by have := HV.out.2.2.1; omega)
        have HA2 := aM (HA.out.mark x)
        have HC2 := aM ((show Cm (come.set x true) m.n (fun j => j ∈ l0.take (i + 1)) from fun j hj => by
          have h5 := HC.out.set (by rw [HA.out.row.len]; exact HV.out.2.2.1.symm) x hxle j hj
          have h6 := take_succ_mem l0 i c j
          rw [← hx] at h6
          exact h5.trans h6.symm))
        have g1 : decide ((i : Int) < ((ints l0).length : Nat)) = true := decide_eq_true (by rw [ints_length]; omega)
        have g2 : decide ((x : Int) < (N : Int)) = true := decide_eq_true (by have := HV.out.2.2.1; omega)
        have g3 : ((i : Int) < ((ints l0).length : Nat)) = True := eq_true (by rw [ints_length]; omega)
        have g4 : ((x : Int) < (N : Int)) = True := eq_true (by have := HV.out.2.2.1; omega)
        have p1 : (0 ≤ (i : Int)) = True := eq_true (by omega)
        have p2 : (0 ≤ (x : Int)) = True := eq_true (by omega)
        have HC1 := aM c; have HI2 := aM hi
        have HIL := aM (show i ≤ 1000000000000000 by have := HND.out; have := php (m.n + 1) l0 this (fun x hx => by have := HLE.out x hx; omega); have := HV.out; omega)
        clear c hi ho hb1 hb2 hx hxle
        go_wp2
        go_roundg k1
        case measure => omega
        case rel => exact ⟨i + 1, _, by rw [inc64 i HIL.out], aM (by have := HI2.out; omega), HA2, HC2⟩
    · have hi := HI.out
      have HC2 := aM (show Cm come m.n (fun j => j ∈ l0) from fun j hj => by
        have := HC.out j hj
        rw [List.take_of_length_le (by omega)] at this
        exact this)
      have HAI := aM (AI.start (m := m) (kk := kk) HND.out HLE.out)
      have g1 : decide ((i : Int) < ((ints l0).length : Nat)) = false := decide_eq_false (by rw [ints_length]; omega)
      have g3 : ((i : Int) < ((ints l0).length : Nat)) = False := eq_false (by rw [ints_length]; omega)
      clear c hi HC HI
      go_wp2
      clear g1 g3
      go_loopg [10, 2] (m.n + 2) (fun gk v10 v2 w' => ∃ (i : Nat) (come : List Bool) (l : List Nat) (A : Option Addr) (c : Nat), v10 = .int .i64 (i : Int) ∧ v2 = .slice A (ints l).length c ∧ Aside0 (i + gk = m.n + 2) ∧ Aside0 (AgS m P V s w0 g mb B X v0 W W.heap.size N come (.slice A (ints l).length c) l w') ∧ Aside0 (Cm come m.n (fun j => j ∈ l)) ∧ Aside0 (AI m kk l0 l i))
      case atStart => exact ⟨0, come, l0, A0, c0, rfl, rfl, aM (by omega), by rw [← HV0.out]; exact HA, HC2, HAI⟩
      case round =>
        clear HA HC2 HAI h0 h1 h2 f0 f1 f2
        obtain ⟨i, come, l, A, c, rfl, rfl, HI, HA, HC, HAI⟩ := hrel
        obtain ⟨⟨h0, h1, h2⟩, f0, f1, f2⟩ := bC3 HA.out.st.blk
        by_cases c9 : i < l.length
        · cases gk with
          | zero => have := HI.out; have := HAI.out.len; omega
          | succ k1 =>
            obtain ⟨bg, rfl, hb1, hb2, hx1, hx2⟩ := own_cell HA.out.own i c9
            obtain ⟨x, hx⟩ : ∃ x, x = l[i] := ⟨_, rfl⟩
            have hxm : x ∈ l := by rw [hx]; exact List.getElem_mem c9
            have hxi : l[i]? = some x := by rw [List.getElem?_eq_getElem c9, hx]
            rw [← hx] at hx1
            have hxle := HAI.out.le x hxm
            have hXl : ∀ b, (X b ∨ (Value.slice (some ⟨bg, 0, none⟩) (ints l).length c).ownBlock = some b ∨ b = W.heap.size) → b < wr.heap.size := fun b hb => by
              rcases hb with e | e | e
              · have := HX.out b e; have := HA.out.ex.size; omega
              · exact own_lt HA.out.own b e
              · have := HA.out.row.lt; omega
            have hcall := HE.out kk x _ wr HV.out.2.2.2 hxle HA.out.st hXl
            have HCALL := aM hcall
            have g1 : decide ((i : Int) < ((ints l).length : Nat)) = true := decide_eq_true (by rw [ints_length]; omega)
            have g3 : ((i : Int) < ((ints l).length : Nat)) = True := eq_true (by rw [ints_length]; omega)
            have p1 : (0 ≤ (i : Int)) = True := eq_true (by omega)
            have HXM := aM hxm; have HXI := aM hxi; have HXL := aM hxle
            clear c9 hb1 hb2 hx hxm hxi hxle hXl hcall
            go_wp2_with fail
            refine HCALL.out.mono ?_
            rintro e w1 ⟨A1, c1, rfl, ho1, hn1, hs1, hxx⟩
            have HA1 := aM (HA.out.ends hs1 hxx)
            have HO1 := aM ho1; have HN1 := aM hn1
            clear ho1 hn1 hs1 hxx g1 g3 p1 hx1 hx2 h0 h1 h2 f0 f1 f2
            go_wp2_with fail
            go_loopg [44, 2] (m.L kk x).length (fun gk v44 v2 w' => ∃ (j : Nat) (come : List Bool) (l : List Nat) (A : Option Addr) (c : Nat), v44 = .int .i64 (j : Int) ∧ v2 = .slice A (ints l).length c ∧ Aside0 (j + gk = (m.L kk x).length) ∧ Aside0 (AgS m P V s w0 g mb B X v0 W W.heap.size N come (.slice A (ints l).length c) l w') ∧ Aside0 (Cm come m.n (fun j => j ∈ l)) ∧ Aside0 (AI m kk l0 l i) ∧ Aside0 (l[i]? = some x) ∧ Aside0 (∀ e, e ∈ (m.L kk x).take j → e ∈ l) ∧ Aside0 (OwnI w' w0.heap.size (.slice A1 (ints (m.L kk x)).length c1) (ints (m.L kk x))) ∧ Aside0 (NB (.slice A1 (ints (m.L kk x)).length c1) (fun b => b = W.heap.size ∨ (Value.slice A (ints l).length c).ownBlock = some b)))
            case atStart => exact ⟨0, come, l, _, c, rfl, rfl, aM (by omega), HA1, HC, HAI, HXI, aM (by intro e he; simp at he), HO1, aM (fun b hb e => HN1.out b hb (.inr (.inr (by rcases e with e | e; exact .inr (.inr e); exact .inr (.inl e)))))⟩
            case round =>
              clear HA HA1 HC HAI HXI HO1 HN1 HCALL HXM HX HE
              obtain ⟨j, come, l, A, c, rfl, rfl, HJ, HA, HC, HAI, HXI, HT, HO, HN⟩ := hrel
              by_cases c9 : j < (m.L kk x).length
              · cases gk with
                | zero => have := HJ.out; omega
                | succ k2 =>
                  obtain ⟨bg1, rfl, hb1, hb2, hx1, hx2⟩ := own_cell HO.out j c9
                  obtain ⟨y, hy⟩ : ∃ y, y = (m.L kk x)[j] := ⟨_, rfl⟩
                  have hym : y ∈ m.L kk x := by rw [hy]; exact List.getElem_mem c9
                  have hyle : y ≤ m.n := Mt.L_le hym
                  have hyN : m.N kk x y := (HLL.out x HXL.out y).1 hym
                  rw [← hy] at hx1
                  obtain ⟨hr1, hr2⟩ := HA.out.row.cell y (by have := HV.out.2.2.1; omega)
                  have hxm : x ∈ l := List.mem_of_getElem? HXI.out
                  have g1 : decide ((j : Int) < ((ints (m.L kk x)).length : Nat)) = true := decide_eq_true (by rw [ints_length]; omega)
                  have g3 : ((j : Int) < ((ints (m.L kk x)).length : Nat)) = True := eq_true (by rw [ints_length]; omega)
                  have g2 : decide ((y : Int) < (N : Int)) = true := decide_eq_true (by have := HV.out.2.2.1; omega)
                  have g4 : ((y : Int) < (N : Int)) = True := eq_true (by have := HV.out.2.2.1; omega)
                  have p1 : (0 ≤ (j : Int)) = True := eq_true (by omega)
                  have p2 : (0 ≤ (y : Int)) = True := eq_true (by omega)
                  have hin : ∀ l2 : List Nat, (∀ e, e ∈ l → e ∈ l2) → y ∈ l2 → ∀ e, e ∈ (m.L kk x).take (j + 1) → e ∈ l2 := fun l2 h1 h2 e he => by
                    rcases (take_succ_mem _ j c9 e).1 he with h3 | h3
                    · exact h1 e (HT.out e h3)
                    · rw [h3, ← hy]; exact h2
                  have HIN := aM hin
                  have hj : j ≤ 1000000000000000 := by have := m.L_len kk x; have := HV.out; omega
                  have HJL := aM hj
                  by_cases cy : come.getD y false = true
                  · have hyl : y ∈ l := (HC.out y hyle).1 cy
                    rw [cy] at hr1
                    have HYL := aM hyl
                    clear c9 hb1 hb2 hy hym hyle hyN hxm cy hyl hin hj
                    go_wp2
                    go_roundg k2
                    case measure => omega
                    case rel => exact ⟨j + 1, come, l, A, c, by rw [inc64 j HJL.out], rfl, aM (by have := HJ.out; omega), HA, HC, HAI, HXI, aM (HIN.out l (fun _ h => h) HYL.out), HO, HN⟩
                  · have cy' : come.getD y false = false := Bool.eq_false_iff.mpr cy
                    have hyl : y ∉ l := fun h => cy ((HC.out y hyle).2 h)
                    rw [cy'] at hr1
                    have hA2 := (HA.out.mark y).still ((Below.refl _ _).alloc (Nat.le_refl _) (.cells #[.int .i64 (y : Int)] 3))
                    have hC2 : Cm (come.set y true) m.n (fun j => j ∈ l ++ [y]) := fun q hq => by
                      refine (HC.out.set (by rw [HA.out.row.len]; exact HV.out.2.2.1.symm) y hyle q hq).trans ?_
                      show (q ∈ l ∨ q = y) ↔ q ∈ l ++ [y]
                      rw [List.mem_append, List.mem_singleton]
                    have hAI2 := HAI.out.app hyl hyle hxm hyN
                    obtain ⟨A9, c9', e9, hrd⟩ := own_reads (own_lit (wr.setCell ⟨W.heap.size, y, none⟩ (.bool true)) 0 3 .i64 [(y : Int)] (Nat.zero_le _) (by rw [List.length_singleton]; decide))
                    injection e9 with e91 _ e93
                    subst e91 e93
                    have hrd2 : ReadsInt ((wr.setCell ⟨W.heap.size, y, none⟩ (.bool true)).alloc (.cells #[.int .i64 (y : Int)] 3)) .i64 (some ⟨wr.heap.size, 0, none⟩) 1 [(y : Int)] := by
                      have e : (wr.setCell ⟨W.heap.size, y, none⟩ (.bool true)).heap.size = wr.heap.size := by simp [World.setCell]
                      rw [e] at hrd
                      exact hrd
                    have hlen : ((ints l).length + 1) * 8 ≤ 140737488355328 := by rw [ints_length]; have := HAI.out.len; have := HV.out; omega
                    have hBs : B ≤ ((wr.setCell ⟨W.heap.size, y, none⟩ (.bool true)).alloc (.cells #[.int .i64 (y : Int)] 3)).heap.size := by have := hA2.ex.size; have := HB.out; omega
                    have hO2 := HO.out.kept (W2 := (wr.setCell ⟨W.heap.size, y, none⟩ (.bool true)).alloc (.cells #[.int .i64 (y : Int)] 3)) (S := (· = W.heap.size)) ⟨by simp [World.alloc, World.setCell], fun b hb hne => (Below.heap_alloc _ _ _ (by simpa [World.setCell] using hb)).trans (Below.heap_setCell _ _ _ _ hne)⟩ (fun b hb e => HN.out b hb (.inl e))
                    have HA2 := aM hA2; have HC2 := aM hC2; have HAI2 := aM hAI2; have HRD := aM hrd2; have HLEN := aM hlen; have HBS := aM hBs; have HO2 := aM hO2
                    clear c9 hb1 hb2 hy hym hyle hyN hxm cy cy' hyl hj hA2 hC2 hAI2 hrd hrd2 hlen hBs hO2 hin
                    go_wp2_with ((with_reducible refine gate_builtin (b := .append) (xs := #[.tmp 56, .tmp 58]) rfl ?_); at_builtin; refine print_append_row (w0 := _) B rfl (.tmp 56) (.tmp 58) 34 3 .i64 8 rfl Try.underlying34 info3 (by decide) (.slice A (ints l).length c) (ints l) [(y : Int)] _ _ _ rfl rfl HA2.out.own HRD.out (Below.refl _ _) HBS.out HLEN.out ?_; intro v1 w2 j1 j2 j3 j4; have hv1 := own_form j1; have HV1 := aM hv1; have HO3 := aM j1; have HG3 := aM j3; have HB3 := aM j4; clear j1 j2 j3 j4 hv1)
                    obtain ⟨A2, c2, rfl, _⟩ := HV1.out
                    have hll : (ints l ++ [(y : Int)]) = ints (l ++ [y]) := by rw [ints_app]; rfl
                    have hA3 := HO3.out
                    have hB3 := HB3.out
                    rw [hll] at hA3 hB3
                    have hA4 := HA2.out.app hA3 HG3.out hB3
                    have hO4 := HO2.out.kept (Ex.of_grown HG3.out).kept (fun b hb e => HN.out b hb (.inr e))
                    have hN4 : NB (.slice (some ⟨bg1, 0, none⟩) (ints (m.L kk x)).length c1) (fun b => b = W.heap.size ∨ (Value.slice A2 (ints (l ++ [y])).length c2).ownBlock = some b) := fun b hb e => by
                      rcases e with e | e
                      · exact HN.out b hb (.inl e)
                      · rcases hB3 with h5 | ⟨b', h5, h6⟩
                        · rw [h5] at e; exact HN.out b hb (.inr e)
                        · rw [h5] at e; injection e with e; subst e
                          have := own_lt HO2.out b' hb
                          omega
                    have HA4 := aM hA4; have HO4 := aM hO4; have HN4 := aM hN4; have HLL2 := aM hll
                    clear hA4 hO4 hN4 hA3 hB3 hll
                    go_roundg k2
                    case measure => omega
                    case rel => exact ⟨j + 1, come.set y true, l ++ [y], A2, c2, by rw [inc64 j HJL.out], by rw [HLL2.out], aM (by have := HJ.out; omega), HA4, HC2, HAI2, aM (by rw [List.getElem?_append_left (List.getElem?_eq_some_iff.1 HXI.out).1]; exact HXI.out), aM (HIN.out _ (fun e he => List.mem_append_left _ he) (by simp)), HO4, HN4⟩
              · have hj := HJ.out
                have hT : ∀ e, m.N kk x e → e ∈ l := fun e he => by
                  have h5 := (HLL.out x HXL.out e).2 he
                  refine HT.out e ?_
                  rw [List.take_of_length_le (by omega)]
                  exact h5
                have HAI2 := aM (HAI.out.next HXI.out hT)
                have hi : i ≤ 1000000000000000 := by have := HAI.out.len; have := HAI.out.il; have := HV.out; omega
                have HIL := aM hi
                have g1 : decide ((j : Int) < ((ints (m.L kk x)).length : Nat)) = false := decide_eq_false (by rw [ints_length]; omega)
                have g3 : ((j : Int) < ((ints (m.L kk x)).length : Nat)) = False := eq_false (by rw [ints_length]; omega)
                clear c9 hj hT hi HT HO HN HXI HAI HJ
                go_wp2
                go_roundg k1
                case measure => omega
                case rel => exact ⟨i + 1, come, l, A, c, by rw [inc64 i HIL.out], rfl, aM (by have := HI.out; omega), HA, HC, HAI2⟩
        · have hi : i = l.length := by have := HAI.out.il; omega
          have hfin : AI m kk l0 l l.length := hi ▸ HAI.out
          have HF := aM hfin
          have HST := aM (HA.out.st.step (Ex.refl wr (fun _ => False)) (fun _ h _ => h.elim) (X' := fun b => X b ∨ (Value.slice A (ints l).length c).ownBlock = some b) (fun b hb => by
            rcases hb with e | e
            · exact .inl (.inl e)
            · exact .inl (.inr (.inl e))))
          have g1 : decide ((i : Int) < ((ints l).length : Nat)) = false := decide_eq_false (by rw [ints_length]; omega)
          have g3 : ((i : Int) < ((ints l).length : Nat)) = False := eq_false (by rw [ints_length]; omega)
          clear hi hfin c9 h0 h1 h2 f0 f1 f2 HAI HC
          go_wp2
          go_ret
          exact ⟨A, c, l, rfl, HA.out.own, HF.out.nd, HF.out.fin, HST.out, by have := HA.out.ex; rw [HV0.out] at this; exact this, by have := HA.out.ob; rw [HV0.out] at this; exact this⟩
/-- Does a piece that takes one byte take this byte? -/
def tkB (op : Int) (txt : ByteArray) (b : Int) : Bool :=
  if op = 2 then true else if op = 4 then !(txt.data.toList.contains b.toNat.toUInt8) else txt.data.toList.contains b.toNat.toUInt8
def isOne (op : Int) : Bool := decide (1 ≤ op) && decide (op ≤ 4)
/-- The list that taken tells. -/
def tkL (op : Int) (txt s : ByteArray) (i : Nat) : List Nat := if isOne op = true ∧ i < s.size ∧ tkB op txt (bt s i) = true then [i + 1] else []
theorem box_facts {W : World} {g : Nat} {V mp kv : Value} {s txt : ByteArray} {op : Int} (hb : W.heap[g]? = some (.cells #[V, .string s, mp] 64 (0, 0))) :
    ∃ W1, W.alloc (.cells #[.int .i64 op, .string txt, kv] 85) = W1 ∧ Below W.heap.size W W1 ∧ W1.heap.size = W.heap.size + 1 ∧ W1.heap[g]? = some (.cells #[V, .string s, mp] 64 (0, 0)) ∧ W1.heap[W.heap.size]? = some (.cells #[.int .i64 op, .string txt, kv] 85 (0, 0)) :=
  ⟨_, rfl, (Below.refl _ _).alloc (Nat.le_refl _) _, Array.size_push .., bA hb _, (MapKept.heap_alloc W _).1⟩
theorem m_taken_end (op : Int) (txt s : ByteArray) (kv : Value) (g : Nat) (V : Value) (mp : Value) (i : Nat) (W : World) (hi : i = s.size) (hb : W.heap[g]? = some (.cells #[V, .string s, mp] 64 (0, 0))) :
    Calls Try.prog 70 #[.pointer (some ⟨g, 0, none⟩), .agg #[.int .i64 op, .string txt, kv], .int .i64 (i : Int)] W fun e W' => e = .returned (.tuple #[.slice none 0 0, .bool (isOne op)]) ∧ Below W.heap.size W W' := by
  obtain ⟨W1, e1, hbel, hsz, hb1, hb2⟩ := box_facts (op := op) (txt := txt) (kv := kv) hb
  obtain ⟨⟨h0, h1, h2⟩, f0, f1, f2⟩ := bC3 hb1
  obtain ⟨⟨x0, x1, x2⟩, y0, y1, y2⟩ := bC3 hb2
  subst hi
  have HB := aM hbel
  clear hb hb1 hb2 hbel hsz
  go_enter Try.func70, Try.ntmps70
  go_wp2_with fail
  have hw : impl_within.f op 1 4 = some (isOne op) := by
    unfold impl_within.f isOne
    by_cases c : op ≥ 1
    · rw [if_pos c, decide_eq_true (show 1 ≤ op from c), Bool.true_and]
    · rw [if_neg c, decide_eq_false (show ¬ (1 ≤ op) from c), Bool.false_and]
  refine (impl_within.calls op 1 4 _ _ hw).mono ?_
  rintro e w' ⟨rfl, ⟨nd, rfl⟩⟩
  clear hw
  go_wp2_with fail
  go_ret2
  exact ⟨rfl, lN HB.out _⟩
theorem tk_has (txt : ByteArray) (b : Int) : decide (0 ≤ Lib.indexByte txt.data.toList b.toNat.toUInt8) = txt.data.toList.contains b.toNat.toUInt8 := (Lib.contains_iff_indexByte _ _).symm
theorem ints_one (i : Nat) : ints [i + 1] = [(i : Int) + 1] := by
  unfold ints; simp
theorem fin_e {op : Int} {txt s : ByteArray} {i : Nat} {W W' : World} {b : Bool} (hL : tkL op txt s i = []) (hb : isOne op = b) (hB : Below W.heap.size W W') :
    ∃ A c, Ending.returned (.tuple #[.slice none 0 0, .bool b]) = .returned (.tuple #[.slice A (ints (tkL op txt s i)).length c, .bool (isOne op)]) ∧ OwnI W' W.heap.size (.slice A (ints (tkL op txt s i)).length c) (ints (tkL op txt s i)) ∧ Below W.heap.size W W' := by
  rw [hL, hb]
  exact ⟨none, 0, rfl, ⟨rfl, .inl ⟨rfl, rfl⟩⟩, hB⟩
theorem fin_l {op : Int} {txt s : ByteArray} {i : Nat} {W W' : World} {b : Bool} (hL : tkL op txt s i = [i + 1]) (hb : isOne op = b) (hB : Below W.heap.size W W') :
    ∃ A c, Ending.returned (.tuple #[.slice (some ⟨W'.heap.size, 0, none⟩) 1 1, .bool b]) = .returned (.tuple #[.slice A (ints (tkL op txt s i)).length c, .bool (isOne op)]) ∧ OwnI (W'.alloc (.cells #[.int .i64 ((i : Int) + 1)] 3)) W.heap.size (.slice A (ints (tkL op txt s i)).length c) (ints (tkL op txt s i)) ∧ Below W.heap.size W (W'.alloc (.cells #[.int .i64 ((i : Int) + 1)] 3)) := by
  rw [hL, hb, ints_one i]
  exact ⟨_, 1, rfl, own_lit W' W.heap.size 3 .i64 [(i : Int) + 1] hB.size (by rw [List.length_singleton]; decide), hB.alloc hB.size _⟩
theorem m_tk1t (op : Int) (txt s : ByteArray) (kv : Value) (g : Nat) (V : Value) (mp : Value) (i : Nat) (W : World) (hi : i < s.size) (hs : s.size ≤ 1048576) (hb : W.heap[g]? = some (.cells #[V, .string s, mp] 64 (0, 0))) (hop : op = 1) (hH : txt.data.toList.contains (bt s (i : Int)).toNat.toUInt8 = true) :
    Calls Try.prog 70 #[.pointer (some ⟨g, 0, none⟩), .agg #[.int .i64 op, .string txt, kv], .int .i64 (i : Int)] W fun e W' => ∃ A c, e = .returned (.tuple #[.slice A (ints (tkL op txt s i)).length c, .bool (isOne op)]) ∧ OwnI W' W.heap.size (.slice A (ints (tkL op txt s i)).length c) (ints (tkL op txt s i)) ∧ Below W.heap.size W W' := by
  subst hop
  obtain ⟨W1, e1, hbel, hsz, hb1, hb2⟩ := box_facts (op := 1) (txt := txt) (kv := kv) hb
  obtain ⟨⟨h0, h1, h2⟩, f0, f1, f2⟩ := bC3 hb1
  obtain ⟨⟨x0, x1, x2⟩, y0, y1, y2⟩ := bC3 hb2
  have HB := aM hbel
  have g1 : ((i : Int) = (s.size : Int)) = False := eq_false (by omega)
  have g2 : decide ((i : Int) = (s.size : Int)) = false := decide_eq_false (by omega)
  have hbt : ((s[i]'hi).toNat : Int) = bt s (i : Int) := bt_at s (i : Int) (by rw [Int.toNat_natCast]; exact hi)
  have gi : ((i : Int) < (s.size : Int)) = True := eq_true (by omega)
  have gi2 : decide ((i : Int) < (s.size : Int)) = true := decide_eq_true (by omega)
  have gi3 : decide (i < s.size) = true := decide_eq_true hi
  have gi4 : (i < s.size) = True := eq_true hi
  have gp : (0 ≤ (i : Int)) = True := eq_true (by omega)
  obtain ⟨z, hz⟩ : ∃ z, Lib.indexByte txt.data.toList (bt s (i : Int)).toNat.toUInt8 = z := ⟨_, rfl⟩
  have hth := tk_has txt (bt s (i : Int))
  rw [hz] at hth
  have HI := aM (show i ≤ 1048576 by omega)
  rw [hH] at hth
  have hz1 : (0 ≤ z) = True := eq_true (of_decide_eq_true hth)
  have hz0 : decide (0 ≤ z) = true := hth
  have HO := aM (show isOne 1 = true from rfl)
  have HL := aM (show tkL 1 txt s i = [i + 1] from if_pos ⟨rfl, hi, by unfold tkB; rw [hH]; rfl⟩)
  obtain ⟨bi, hbi⟩ : ∃ bi, bt s (i : Int) = bi := ⟨_, rfl⟩
  rw [hbi] at hbt
  have hx : ∀ W : World, Calls Try.prog 83 #[.string txt, .int .u8 bi] W fun e w' => e = .returned (.int .i64 z) ∧ w' = W := fun W => by
    have := Try.strings_IndexByte txt bi W
    rw [← hbi, hz] at this
    rw [← hbi]
    exact this
  have HXX := aM hx
  clear hb hb1 hb2 hbel hsz hx hbi hth hz hH
  go_enter Try.func70, Try.ntmps70
  go_wp2_with fail
  go_quiet ((go_at_call 83; exact Calls.quiet_of_same (HXX.out _)))
  go_wp2_with fail
  go_ret2
  exact fin_l HL.out HO.out (lN HB.out _)
theorem m_tk1f (op : Int) (txt s : ByteArray) (kv : Value) (g : Nat) (V : Value) (mp : Value) (i : Nat) (W : World) (hi : i < s.size) (hs : s.size ≤ 1048576) (hb : W.heap[g]? = some (.cells #[V, .string s, mp] 64 (0, 0))) (hop : op = 1) (hH : txt.data.toList.contains (bt s (i : Int)).toNat.toUInt8 = false) :
    Calls Try.prog 70 #[.pointer (some ⟨g, 0, none⟩), .agg #[.int .i64 op, .string txt, kv], .int .i64 (i : Int)] W fun e W' => ∃ A c, e = .returned (.tuple #[.slice A (ints (tkL op txt s i)).length c, .bool (isOne op)]) ∧ OwnI W' W.heap.size (.slice A (ints (tkL op txt s i)).length c) (ints (tkL op txt s i)) ∧ Below W.heap.size W W' := by
  subst hop
  obtain ⟨W1, e1, hbel, hsz, hb1, hb2⟩ := box_facts (op := 1) (txt := txt) (kv := kv) hb
  obtain ⟨⟨h0, h1, h2⟩, f0, f1, f2⟩ := bC3 hb1
  obtain ⟨⟨x0, x1, x2⟩, y0, y1, y2⟩ := bC3 hb2
  have HB := aM hbel
  have g1 : ((i : Int) = (s.size : Int)) = False := eq_false (by omega)
  have g2 : decide ((i : Int) = (s.size : Int)) = false := decide_eq_false (by omega)
  have hbt : ((s[i]'hi).toNat : Int) = bt s (i : Int) := bt_at s (i : Int) (by rw [Int.toNat_natCast]; exact hi)
  have gi : ((i : Int) < (s.size : Int)) = True := eq_true (by omega)
  have gi2 : decide ((i : Int) < (s.size : Int)) = true := decide_eq_true (by omega)
  have gi3 : decide (i < s.size) = true := decide_eq_true hi
  have gi4 : (i < s.size) = True := eq_true hi
  have gp : (0 ≤ (i : Int)) = True := eq_true (by omega)
  obtain ⟨z, hz⟩ : ∃ z, Lib.indexByte txt.data.toList (bt s (i : Int)).toNat.toUInt8 = z := ⟨_, rfl⟩
  have hth := tk_has txt (bt s (i : Int))
  rw [hz] at hth
  have HI := aM (show i ≤ 1048576 by omega)
  rw [hH] at hth
  have hz1 : (0 ≤ z) = False := eq_false (of_decide_eq_false hth)
  have hz0 : decide (0 ≤ z) = false := hth
  have HO := aM (show isOne 1 = true from rfl)
  have HL := aM (show tkL 1 txt s i = [] from if_neg (fun h => absurd h.2.2 (by unfold tkB; rw [hH]; decide)))
  obtain ⟨bi, hbi⟩ : ∃ bi, bt s (i : Int) = bi := ⟨_, rfl⟩
  rw [hbi] at hbt
  have hx : ∀ W : World, Calls Try.prog 83 #[.string txt, .int .u8 bi] W fun e w' => e = .returned (.int .i64 z) ∧ w' = W := fun W => by
    have := Try.strings_IndexByte txt bi W
    rw [← hbi, hz] at this
    rw [← hbi]
    exact this
  have HXX := aM hx
  clear hb hb1 hb2 hbel hsz hx hbi hth hz hH
  go_enter Try.func70, Try.ntmps70
  go_wp2_with fail
  go_quiet ((go_at_call 83; exact Calls.quiet_of_same (HXX.out _)))
  go_wp2_with fail
  go_ret2
  exact fin_e HL.out HO.out (lN HB.out _)
theorem m_tk2t (op : Int) (txt s : ByteArray) (kv : Value) (g : Nat) (V : Value) (mp : Value) (i : Nat) (W : World) (hi : i < s.size) (hs : s.size ≤ 1048576) (hb : W.heap[g]? = some (.cells #[V, .string s, mp] 64 (0, 0))) (hop : op = 2) (hH : txt.data.toList.contains (bt s (i : Int)).toNat.toUInt8 = true) :
    Calls Try.prog 70 #[.pointer (some ⟨g, 0, none⟩), .agg #[.int .i64 op, .string txt, kv], .int .i64 (i : Int)] W fun e W' => ∃ A c, e = .returned (.tuple #[.slice A (ints (tkL op txt s i)).length c, .bool (isOne op)]) ∧ OwnI W' W.heap.size (.slice A (ints (tkL op txt s i)).length c) (ints (tkL op txt s i)) ∧ Below W.heap.size W W' := by
  subst hop
  obtain ⟨W1, e1, hbel, hsz, hb1, hb2⟩ := box_facts (op := 2) (txt := txt) (kv := kv) hb
  obtain ⟨⟨h0, h1, h2⟩, f0, f1, f2⟩ := bC3 hb1
  obtain ⟨⟨x0, x1, x2⟩, y0, y1, y2⟩ := bC3 hb2
  have HB := aM hbel
  have g1 : ((i : Int) = (s.size : Int)) = False := eq_false (by omega)
  have g2 : decide ((i : Int) = (s.size : Int)) = false := decide_eq_false (by omega)
  have hbt : ((s[i]'hi).toNat : Int) = bt s (i : Int) := bt_at s (i : Int) (by rw [Int.toNat_natCast]; exact hi)
  have gi : ((i : Int) < (s.size : Int)) = True := eq_true (by omega)
  have gi2 : decide ((i : Int) < (s.size : Int)) = true := decide_eq_true (by omega)
  have gi3 : decide (i < s.size) = true := decide_eq_true hi
  have gi4 : (i < s.size) = True := eq_true hi
  have gp : (0 ≤ (i : Int)) = True := eq_true (by omega)
  obtain ⟨z, hz⟩ : ∃ z, Lib.indexByte txt.data.toList (bt s (i : Int)).toNat.toUInt8 = z := ⟨_, rfl⟩
  have hth := tk_has txt (bt s (i : Int))
  rw [hz] at hth
  have HI := aM (show i ≤ 1048576 by omega)
  rw [hH] at hth
  have hz1 : (0 ≤ z) = True := eq_true (of_decide_eq_true hth)
  have hz0 : decide (0 ≤ z) = true := hth
  have HO := aM (show isOne 2 = true from rfl)
  have HL := aM (show tkL 2 txt s i = [i + 1] from if_pos ⟨rfl, hi, by unfold tkB; rw [hH]; rfl⟩)
  obtain ⟨bi, hbi⟩ : ∃ bi, bt s (i : Int) = bi := ⟨_, rfl⟩
  rw [hbi] at hbt
  have hx : ∀ W : World, Calls Try.prog 83 #[.string txt, .int .u8 bi] W fun e w' => e = .returned (.int .i64 z) ∧ w' = W := fun W => by
    have := Try.strings_IndexByte txt bi W
    rw [← hbi, hz] at this
    rw [← hbi]
    exact this
  have HXX := aM hx
  clear hb hb1 hb2 hbel hsz hx hbi hth hz hH
  go_enter Try.func70, Try.ntmps70
  go_wp2_with fail
  go_quiet ((go_at_call 83; exact Calls.quiet_of_same (HXX.out _)))
  go_wp2_with fail
  go_ret2
  exact fin_l HL.out HO.out (lN HB.out _)
theorem m_tk2f (op : Int) (txt s : ByteArray) (kv : Value) (g : Nat) (V : Value) (mp : Value) (i : Nat) (W : World) (hi : i < s.size) (hs : s.size ≤ 1048576) (hb : W.heap[g]? = some (.cells #[V, .string s, mp] 64 (0, 0))) (hop : op = 2) (hH : txt.data.toList.contains (bt s (i : Int)).toNat.toUInt8 = false) :
    Calls Try.prog 70 #[.pointer (some ⟨g, 0, none⟩), .agg #[.int .i64 op, .string txt, kv], .int .i64 (i : Int)] W fun e W' => ∃ A c, e = .returned (.tuple #[.slice A (ints (tkL op txt s i)).length c, .bool (isOne op)]) ∧ OwnI W' W.heap.size (.slice A (ints (tkL op txt s i)).length c) (ints (tkL op txt s i)) ∧ Below W.heap.size W W' := by
  subst hop
  obtain ⟨W1, e1, hbel, hsz, hb1, hb2⟩ := box_facts (op := 2) (txt := txt) (kv := kv) hb
  obtain ⟨⟨h0, h1, h2⟩, f0, f1, f2⟩ := bC3 hb1
  obtain ⟨⟨x0, x1, x2⟩, y0, y1, y2⟩ := bC3 hb2
  have HB := aM hbel
  have g1 : ((i : Int) = (s.size : Int)) = False := eq_false (by omega)
  have g2 : decide ((i : Int) = (s.size : Int)) = false := decide_eq_false (by omega)
  have hbt : ((s[i]'hi).toNat : Int) = bt s (i : Int) := bt_at s (i : Int) (by rw [Int.toNat_natCast]; exact hi)
  have gi : ((i : Int) < (s.size : Int)) = True := eq_true (by omega)
  have gi2 : decide ((i : Int) < (s.size : Int)) = true := decide_eq_true (by omega)
  have gi3 : decide (i < s.size) = true := decide_eq_true hi
  have gi4 : (i < s.size) = True := eq_true hi
  have gp : (0 ≤ (i : Int)) = True := eq_true (by omega)
  obtain ⟨z, hz⟩ : ∃ z, Lib.indexByte txt.data.toList (bt s (i : Int)).toNat.toUInt8 = z := ⟨_, rfl⟩
  have hth := tk_has txt (bt s (i : Int))
  rw [hz] at hth
  have HI := aM (show i ≤ 1048576 by omega)
  rw [hH] at hth
  have hz1 : (0 ≤ z) = False := eq_false (of_decide_eq_false hth)
  have hz0 : decide (0 ≤ z) = false := hth
  have HO := aM (show isOne 2 = true from rfl)
  have HL := aM (show tkL 2 txt s i = [i + 1] from if_pos ⟨rfl, hi, by unfold tkB; rw [hH]; rfl⟩)
  obtain ⟨bi, hbi⟩ : ∃ bi, bt s (i : Int) = bi := ⟨_, rfl⟩
  rw [hbi] at hbt
  have hx : ∀ W : World, Calls Try.prog 83 #[.string txt, .int .u8 bi] W fun e w' => e = .returned (.int .i64 z) ∧ w' = W := fun W => by
    have := Try.strings_IndexByte txt bi W
    rw [← hbi, hz] at this
    rw [← hbi]
    exact this
  have HXX := aM hx
  clear hb hb1 hb2 hbel hsz hx hbi hth hz hH
  go_enter Try.func70, Try.ntmps70
  go_wp2_with fail
  go_quiet ((go_at_call 83; exact Calls.quiet_of_same (HXX.out _)))
  go_wp2_with fail
  go_ret2
  exact fin_l HL.out HO.out (lN HB.out _)
theorem m_tk3t (op : Int) (txt s : ByteArray) (kv : Value) (g : Nat) (V : Value) (mp : Value) (i : Nat) (W : World) (hi : i < s.size) (hs : s.size ≤ 1048576) (hb : W.heap[g]? = some (.cells #[V, .string s, mp] 64 (0, 0))) (hop : op = 3) (hH : txt.data.toList.contains (bt s (i : Int)).toNat.toUInt8 = true) :
    Calls Try.prog 70 #[.pointer (some ⟨g, 0, none⟩), .agg #[.int .i64 op, .string txt, kv], .int .i64 (i : Int)] W fun e W' => ∃ A c, e = .returned (.tuple #[.slice A (ints (tkL op txt s i)).length c, .bool (isOne op)]) ∧ OwnI W' W.heap.size (.slice A (ints (tkL op txt s i)).length c) (ints (tkL op txt s i)) ∧ Below W.heap.size W W' := by
  subst hop
  obtain ⟨W1, e1, hbel, hsz, hb1, hb2⟩ := box_facts (op := 3) (txt := txt) (kv := kv) hb
  obtain ⟨⟨h0, h1, h2⟩, f0, f1, f2⟩ := bC3 hb1
  obtain ⟨⟨x0, x1, x2⟩, y0, y1, y2⟩ := bC3 hb2
  have HB := aM hbel
  have g1 : ((i : Int) = (s.size : Int)) = False := eq_false (by omega)
  have g2 : decide ((i : Int) = (s.size : Int)) = false := decide_eq_false (by omega)
  have hbt : ((s[i]'hi).toNat : Int) = bt s (i : Int) := bt_at s (i : Int) (by rw [Int.toNat_natCast]; exact hi)
  have gi : ((i : Int) < (s.size : Int)) = True := eq_true (by omega)
  have gi2 : decide ((i : Int) < (s.size : Int)) = true := decide_eq_true (by omega)
  have gi3 : decide (i < s.size) = true := decide_eq_true hi
  have gi4 : (i < s.size) = True := eq_true hi
  have gp : (0 ≤ (i : Int)) = True := eq_true (by omega)
  obtain ⟨z, hz⟩ : ∃ z, Lib.indexByte txt.data.toList (bt s (i : Int)).toNat.toUInt8 = z := ⟨_, rfl⟩
  have hth := tk_has txt (bt s (i : Int))
  rw [hz] at hth
  have HI := aM (show i ≤ 1048576 by omega)
  rw [hH] at hth
  have hz1 : (0 ≤ z) = True := eq_true (of_decide_eq_true hth)
  have hz0 : decide (0 ≤ z) = true := hth
  have HO := aM (show isOne 3 = true from rfl)
  have HL := aM (show tkL 3 txt s i = [i + 1] from if_pos ⟨rfl, hi, by unfold tkB; rw [hH]; rfl⟩)
  obtain ⟨bi, hbi⟩ : ∃ bi, bt s (i : Int) = bi := ⟨_, rfl⟩
  rw [hbi] at hbt
  have hx : ∀ W : World, Calls Try.prog 83 #[.string txt, .int .u8 bi] W fun e w' => e = .returned (.int .i64 z) ∧ w' = W := fun W => by
    have := Try.strings_IndexByte txt bi W
    rw [← hbi, hz] at this
    rw [← hbi]
    exact this
  have HXX := aM hx
  clear hb hb1 hb2 hbel hsz hx hbi hth hz hH
  go_enter Try.func70, Try.ntmps70
  go_wp2_with fail
  go_quiet ((go_at_call 83; exact Calls.quiet_of_same (HXX.out _)))
  go_wp2_with fail
  go_ret2
  exact fin_l HL.out HO.out (lN HB.out _)
theorem m_tk3f (op : Int) (txt s : ByteArray) (kv : Value) (g : Nat) (V : Value) (mp : Value) (i : Nat) (W : World) (hi : i < s.size) (hs : s.size ≤ 1048576) (hb : W.heap[g]? = some (.cells #[V, .string s, mp] 64 (0, 0))) (hop : op = 3) (hH : txt.data.toList.contains (bt s (i : Int)).toNat.toUInt8 = false) :
    Calls Try.prog 70 #[.pointer (some ⟨g, 0, none⟩), .agg #[.int .i64 op, .string txt, kv], .int .i64 (i : Int)] W fun e W' => ∃ A c, e = .returned (.tuple #[.slice A (ints (tkL op txt s i)).length c, .bool (isOne op)]) ∧ OwnI W' W.heap.size (.slice A (ints (tkL op txt s i)).length c) (ints (tkL op txt s i)) ∧ Below W.heap.size W W' := by
  subst hop
  obtain ⟨W1, e1, hbel, hsz, hb1, hb2⟩ := box_facts (op := 3) (txt := txt) (kv := kv) hb
  obtain ⟨⟨h0, h1, h2⟩, f0, f1, f2⟩ := bC3 hb1
  obtain ⟨⟨x0, x1, x2⟩, y0, y1, y2⟩ := bC3 hb2
  have HB := aM hbel
  have g1 : ((i : Int) = (s.size : Int)) = False := eq_false (by omega)
  have g2 : decide ((i : Int) = (s.size : Int)) = false := decide_eq_false (by omega)
  have hbt : ((s[i]'hi).toNat : Int) = bt s (i : Int) := bt_at s (i : Int) (by rw [Int.toNat_natCast]; exact hi)
  have gi : ((i : Int) < (s.size : Int)) = True := eq_true (by omega)
  have gi2 : decide ((i : Int) < (s.size : Int)) = true := decide_eq_true (by omega)
  have gi3 : decide (i < s.size) = true := decide_eq_true hi
  have gi4 : (i < s.size) = True := eq_true hi
  have gp : (0 ≤ (i : Int)) = True := eq_true (by omega)
  obtain ⟨z, hz⟩ : ∃ z, Lib.indexByte txt.data.toList (bt s (i : Int)).toNat.toUInt8 = z := ⟨_, rfl⟩
  have hth := tk_has txt (bt s (i : Int))
  rw [hz] at hth
  have HI := aM (show i ≤ 1048576 by omega)
  rw [hH] at hth
  have hz1 : (0 ≤ z) = False := eq_false (of_decide_eq_false hth)
  have hz0 : decide (0 ≤ z) = false := hth
  have HO := aM (show isOne 3 = true from rfl)
  have HL := aM (show tkL 3 txt s i = [] from if_neg (fun h => absurd h.2.2 (by unfold tkB; rw [hH]; decide)))
  obtain ⟨bi, hbi⟩ : ∃ bi, bt s (i : Int) = bi := ⟨_, rfl⟩
  rw [hbi] at hbt
  have hx : ∀ W : World, Calls Try.prog 83 #[.string txt, .int .u8 bi] W fun e w' => e = .returned (.int .i64 z) ∧ w' = W := fun W => by
    have := Try.strings_IndexByte txt bi W
    rw [← hbi, hz] at this
    rw [← hbi]
    exact this
  have HXX := aM hx
  clear hb hb1 hb2 hbel hsz hx hbi hth hz hH
  go_enter Try.func70, Try.ntmps70
  go_wp2_with fail
  go_quiet ((go_at_call 83; exact Calls.quiet_of_same (HXX.out _)))
  go_wp2_with fail
  go_ret2
  exact fin_e HL.out HO.out (lN HB.out _)
theorem m_tk4t (op : Int) (txt s : ByteArray) (kv : Value) (g : Nat) (V : Value) (mp : Value) (i : Nat) (W : World) (hi : i < s.size) (hs : s.size ≤ 1048576) (hb : W.heap[g]? = some (.cells #[V, .string s, mp] 64 (0, 0))) (hop : op = 4) (hH : txt.data.toList.contains (bt s (i : Int)).toNat.toUInt8 = true) :
    Calls Try.prog 70 #[.pointer (some ⟨g, 0, none⟩), .agg #[.int .i64 op, .string txt, kv], .int .i64 (i : Int)] W fun e W' => ∃ A c, e = .returned (.tuple #[.slice A (ints (tkL op txt s i)).length c, .bool (isOne op)]) ∧ OwnI W' W.heap.size (.slice A (ints (tkL op txt s i)).length c) (ints (tkL op txt s i)) ∧ Below W.heap.size W W' := by
  subst hop
  obtain ⟨W1, e1, hbel, hsz, hb1, hb2⟩ := box_facts (op := 4) (txt := txt) (kv := kv) hb
  obtain ⟨⟨h0, h1, h2⟩, f0, f1, f2⟩ := bC3 hb1
  obtain ⟨⟨x0, x1, x2⟩, y0, y1, y2⟩ := bC3 hb2
  have HB := aM hbel
  have g1 : ((i : Int) = (s.size : Int)) = False := eq_false (by omega)
  have g2 : decide ((i : Int) = (s.size : Int)) = false := decide_eq_false (by omega)
  have hbt : ((s[i]'hi).toNat : Int) = bt s (i : Int) := bt_at s (i : Int) (by rw [Int.toNat_natCast]; exact hi)
  have gi : ((i : Int) < (s.size : Int)) = True := eq_true (by omega)
  have gi2 : decide ((i : Int) < (s.size : Int)) = true := decide_eq_true (by omega)
  have gi3 : decide (i < s.size) = true := decide_eq_true hi
  have gi4 : (i < s.size) = True := eq_true hi
  have gp : (0 ≤ (i : Int)) = True := eq_true (by omega)
  obtain ⟨z, hz⟩ : ∃ z, Lib.indexByte txt.data.toList (bt s (i : Int)).toNat.toUInt8 = z := ⟨_, rfl⟩
  have hth := tk_has txt (bt s (i : Int))
  rw [hz] at hth
  have HI := aM (show i ≤ 1048576 by omega)
  rw [hH] at hth
  have hz1 : (0 ≤ z) = True := eq_true (of_decide_eq_true hth)
  have hz0 : decide (0 ≤ z) = true := hth
  have HO := aM (show isOne 4 = true from rfl)
  have HL := aM (show tkL 4 txt s i = [] from if_neg (fun h => absurd h.2.2 (by unfold tkB; rw [hH]; decide)))
  obtain ⟨bi, hbi⟩ : ∃ bi, bt s (i : Int) = bi := ⟨_, rfl⟩
  rw [hbi] at hbt
  have hx : ∀ W : World, Calls Try.prog 83 #[.string txt, .int .u8 bi] W fun e w' => e = .returned (.int .i64 z) ∧ w' = W := fun W => by
    have := Try.strings_IndexByte txt bi W
    rw [← hbi, hz] at this
    rw [← hbi]
    exact this
  have HXX := aM hx
  clear hb hb1 hb2 hbel hsz hx hbi hth hz hH
  go_enter Try.func70, Try.ntmps70
  go_wp2_with fail
  go_quiet ((go_at_call 83; exact Calls.quiet_of_same (HXX.out _)))
  go_wp2_with fail
  go_ret2
  exact fin_e HL.out HO.out (lN HB.out _)
theorem m_tk4f (op : Int) (txt s : ByteArray) (kv : Value) (g : Nat) (V : Value) (mp : Value) (i : Nat) (W : World) (hi : i < s.size) (hs : s.size ≤ 1048576) (hb : W.heap[g]? = some (.cells #[V, .string s, mp] 64 (0, 0))) (hop : op = 4) (hH : txt.data.toList.contains (bt s (i : Int)).toNat.toUInt8 = false) :
    Calls Try.prog 70 #[.pointer (some ⟨g, 0, none⟩), .agg #[.int .i64 op, .string txt, kv], .int .i64 (i : Int)] W fun e W' => ∃ A c, e = .returned (.tuple #[.slice A (ints (tkL op txt s i)).length c, .bool (isOne op)]) ∧ OwnI W' W.heap.size (.slice A (ints (tkL op txt s i)).length c) (ints (tkL op txt s i)) ∧ Below W.heap.size W W' := by
  subst hop
  obtain ⟨W1, e1, hbel, hsz, hb1, hb2⟩ := box_facts (op := 4) (txt := txt) (kv := kv) hb
  obtain ⟨⟨h0, h1, h2⟩, f0, f1, f2⟩ := bC3 hb1
  obtain ⟨⟨x0, x1, x2⟩, y0, y1, y2⟩ := bC3 hb2
  have HB := aM hbel
  have g1 : ((i : Int) = (s.size : Int)) = False := eq_false (by omega)
  have g2 : decide ((i : Int) = (s.size : Int)) = false := decide_eq_false (by omega)
  have hbt : ((s[i]'hi).toNat : Int) = bt s (i : Int) := bt_at s (i : Int) (by rw [Int.toNat_natCast]; exact hi)
  have gi : ((i : Int) < (s.size : Int)) = True := eq_true (by omega)
  have gi2 : decide ((i : Int) < (s.size : Int)) = true := decide_eq_true (by omega)
  have gi3 : decide (i < s.size) = true := decide_eq_true hi
  have gi4 : (i < s.size) = True := eq_true hi
  have gp : (0 ≤ (i : Int)) = True := eq_true (by omega)
  obtain ⟨z, hz⟩ : ∃ z, Lib.indexByte txt.data.toList (bt s (i : Int)).toNat.toUInt8 = z := ⟨_, rfl⟩
  have hth := tk_has txt (bt s (i : Int))
  rw [hz] at hth
  have HI := aM (show i ≤ 1048576 by omega)
  rw [hH] at hth
  have hz1 : (0 ≤ z) = False := eq_false (of_decide_eq_false hth)
  have hz0 : decide (0 ≤ z) = false := hth
  have HO := aM (show isOne 4 = true from rfl)
  have HL := aM (show tkL 4 txt s i = [i + 1] from if_pos ⟨rfl, hi, by unfold tkB; rw [hH]; rfl⟩)
  obtain ⟨bi, hbi⟩ : ∃ bi, bt s (i : Int) = bi := ⟨_, rfl⟩
  rw [hbi] at hbt
  have hx : ∀ W : World, Calls Try.prog 83 #[.string txt, .int .u8 bi] W fun e w' => e = .returned (.int .i64 z) ∧ w' = W := fun W => by
    have := Try.strings_IndexByte txt bi W
    rw [← hbi, hz] at this
    rw [← hbi]
    exact this
  have HXX := aM hx
  clear hb hb1 hb2 hbel hsz hx hbi hth hz hH
  go_enter Try.func70, Try.ntmps70
  go_wp2_with fail
  go_quiet ((go_at_call 83; exact Calls.quiet_of_same (HXX.out _)))
  go_wp2_with fail
  go_ret2
  exact fin_l HL.out HO.out (lN HB.out _)
theorem m_tk0t (op : Int) (txt s : ByteArray) (kv : Value) (g : Nat) (V : Value) (mp : Value) (i : Nat) (W : World) (hi : i < s.size) (hs : s.size ≤ 1048576) (hb : W.heap[g]? = some (.cells #[V, .string s, mp] 64 (0, 0))) (hop : op ≠ 1 ∧ op ≠ 2 ∧ op ≠ 3 ∧ op ≠ 4) (hH : txt.data.toList.contains (bt s (i : Int)).toNat.toUInt8 = true) :
    Calls Try.prog 70 #[.pointer (some ⟨g, 0, none⟩), .agg #[.int .i64 op, .string txt, kv], .int .i64 (i : Int)] W fun e W' => ∃ A c, e = .returned (.tuple #[.slice A (ints (tkL op txt s i)).length c, .bool (isOne op)]) ∧ OwnI W' W.heap.size (.slice A (ints (tkL op txt s i)).length c) (ints (tkL op txt s i)) ∧ Below W.heap.size W W' := by
  obtain ⟨W1, e1, hbel, hsz, hb1, hb2⟩ := box_facts (op := op) (txt := txt) (kv := kv) hb
  obtain ⟨⟨h0, h1, h2⟩, f0, f1, f2⟩ := bC3 hb1
  obtain ⟨⟨x0, x1, x2⟩, y0, y1, y2⟩ := bC3 hb2
  have HB := aM hbel
  have g1 : ((i : Int) = (s.size : Int)) = False := eq_false (by omega)
  have g2 : decide ((i : Int) = (s.size : Int)) = false := decide_eq_false (by omega)
  have hbt : ((s[i]'hi).toNat : Int) = bt s (i : Int) := bt_at s (i : Int) (by rw [Int.toNat_natCast]; exact hi)
  have gi : ((i : Int) < (s.size : Int)) = True := eq_true (by omega)
  have gi2 : decide ((i : Int) < (s.size : Int)) = true := decide_eq_true (by omega)
  have gi3 : decide (i < s.size) = true := decide_eq_true hi
  have gi4 : (i < s.size) = True := eq_true hi
  have gp : (0 ≤ (i : Int)) = True := eq_true (by omega)
  obtain ⟨z, hz⟩ : ∃ z, Lib.indexByte txt.data.toList (bt s (i : Int)).toNat.toUInt8 = z := ⟨_, rfl⟩
  have hth := tk_has txt (bt s (i : Int))
  rw [hz] at hth
  have HI := aM (show i ≤ 1048576 by omega)
  rw [hH] at hth
  have hz1 : (0 ≤ z) = True := eq_true (of_decide_eq_true hth)
  have hz0 : decide (0 ≤ z) = true := hth
  obtain ⟨n1, n2, n3, n4⟩ := hop
  have hno : isOne op = false := by unfold isOne; by_cases c : 1 ≤ op; rw [decide_eq_true c, decide_eq_false (by omega)]; rfl; rw [decide_eq_false c]; rfl
  have HO := aM hno
  have HL := aM (show tkL op txt s i = [] from if_neg (fun h => by rw [hno] at h; cases h.1))
  have d1 : (op == 1) = false := by simpa using n1
  have d2 : (op == 2) = false := by simpa using n2
  have d3 : (op == 3) = false := by simpa using n3
  have d4 : (op == 4) = false := by simpa using n4
  clear n1 n2 n3 n4 hno
  obtain ⟨bi, hbi⟩ : ∃ bi, bt s (i : Int) = bi := ⟨_, rfl⟩
  rw [hbi] at hbt
  have hx : ∀ W : World, Calls Try.prog 83 #[.string txt, .int .u8 bi] W fun e w' => e = .returned (.int .i64 z) ∧ w' = W := fun W => by
    have := Try.strings_IndexByte txt bi W
    rw [← hbi, hz] at this
    rw [← hbi]
    exact this
  have HXX := aM hx
  clear hb hb1 hb2 hbel hsz hx hbi hth hz hH
  go_enter Try.func70, Try.ntmps70
  go_wp2_with fail
  go_quiet ((go_at_call 83; exact Calls.quiet_of_same (HXX.out _)))
  go_wp2_with fail
  go_ret2
  exact fin_e HL.out HO.out (lN HB.out _)
theorem m_tk0f (op : Int) (txt s : ByteArray) (kv : Value) (g : Nat) (V : Value) (mp : Value) (i : Nat) (W : World) (hi : i < s.size) (hs : s.size ≤ 1048576) (hb : W.heap[g]? = some (.cells #[V, .string s, mp] 64 (0, 0))) (hop : op ≠ 1 ∧ op ≠ 2 ∧ op ≠ 3 ∧ op ≠ 4) (hH : txt.data.toList.contains (bt s (i : Int)).toNat.toUInt8 = false) :
    Calls Try.prog 70 #[.pointer (some ⟨g, 0, none⟩), .agg #[.int .i64 op, .string txt, kv], .int .i64 (i : Int)] W fun e W' => ∃ A c, e = .returned (.tuple #[.slice A (ints (tkL op txt s i)).length c, .bool (isOne op)]) ∧ OwnI W' W.heap.size (.slice A (ints (tkL op txt s i)).length c) (ints (tkL op txt s i)) ∧ Below W.heap.size W W' := by
  obtain ⟨W1, e1, hbel, hsz, hb1, hb2⟩ := box_facts (op := op) (txt := txt) (kv := kv) hb
  obtain ⟨⟨h0, h1, h2⟩, f0, f1, f2⟩ := bC3 hb1
  obtain ⟨⟨x0, x1, x2⟩, y0, y1, y2⟩ := bC3 hb2
  have HB := aM hbel
  have g1 : ((i : Int) = (s.size : Int)) = False := eq_false (by omega)
  have g2 : decide ((i : Int) = (s.size : Int)) = false := decide_eq_false (by omega)
  have hbt : ((s[i]'hi).toNat : Int) = bt s (i : Int) := bt_at s (i : Int) (by rw [Int.toNat_natCast]; exact hi)
  have gi : ((i : Int) < (s.size : Int)) = True := eq_true (by omega)
  have gi2 : decide ((i : Int) < (s.size : Int)) = true := decide_eq_true (by omega)
  have gi3 : decide (i < s.size) = true := decide_eq_true hi
  have gi4 : (i < s.size) = True := eq_true hi
  have gp : (0 ≤ (i : Int)) = True := eq_true (by omega)
  obtain ⟨z, hz⟩ : ∃ z, Lib.indexByte txt.data.toList (bt s (i : Int)).toNat.toUInt8 = z := ⟨_, rfl⟩
  have hth := tk_has txt (bt s (i : Int))
  rw [hz] at hth
  have HI := aM (show i ≤ 1048576 by omega)
  rw [hH] at hth
  have hz1 : (0 ≤ z) = False := eq_false (of_decide_eq_false hth)
  have hz0 : decide (0 ≤ z) = false := hth
  obtain ⟨n1, n2, n3, n4⟩ := hop
  have hno : isOne op = false := by unfold isOne; by_cases c : 1 ≤ op; rw [decide_eq_true c, decide_eq_false (by omega)]; rfl; rw [decide_eq_false c]; rfl
  have HO := aM hno
  have HL := aM (show tkL op txt s i = [] from if_neg (fun h => by rw [hno] at h; cases h.1))
  have d1 : (op == 1) = false := by simpa using n1
  have d2 : (op == 2) = false := by simpa using n2
  have d3 : (op == 3) = false := by simpa using n3
  have d4 : (op == 4) = false := by simpa using n4
  clear n1 n2 n3 n4 hno
  obtain ⟨bi, hbi⟩ : ∃ bi, bt s (i : Int) = bi := ⟨_, rfl⟩
  rw [hbi] at hbt
  have hx : ∀ W : World, Calls Try.prog 83 #[.string txt, .int .u8 bi] W fun e w' => e = .returned (.int .i64 z) ∧ w' = W := fun W => by
    have := Try.strings_IndexByte txt bi W
    rw [← hbi, hz] at this
    rw [← hbi]
    exact this
  have HXX := aM hx
  clear hb hb1 hb2 hbel hsz hx hbi hth hz hH
  go_enter Try.func70, Try.ntmps70
  go_wp2_with fail
  go_quiet ((go_at_call 83; exact Calls.quiet_of_same (HXX.out _)))
  go_wp2_with fail
  go_ret2
  exact fin_e HL.out HO.out (lN HB.out _)
theorem m_taken (op : Int) (txt s : ByteArray) (kv : Value) (g : Nat) (V : Value) (mp : Value) (i : Nat) (W : World) (hi : i ≤ s.size) (hs : s.size ≤ 1048576) (hb : W.heap[g]? = some (.cells #[V, .string s, mp] 64 (0, 0))) :
    Calls Try.prog 70 #[.pointer (some ⟨g, 0, none⟩), .agg #[.int .i64 op, .string txt, kv], .int .i64 (i : Int)] W fun e W' => ∃ A c, e = .returned (.tuple #[.slice A (ints (tkL op txt s i)).length c, .bool (isOne op)]) ∧ OwnI W' W.heap.size (.slice A (ints (tkL op txt s i)).length c) (ints (tkL op txt s i)) ∧ Below W.heap.size W W' := by
  rcases Nat.lt_or_ge i s.size with h | h
  · by_cases hH : txt.data.toList.contains (bt s (i : Int)).toNat.toUInt8 = true
    · by_cases c1 : op = 1
      · exact m_tk1t op txt s kv g V mp i W h hs hb c1 hH
      by_cases c2 : op = 2
      · exact m_tk2t op txt s kv g V mp i W h hs hb c2 hH
      by_cases c3 : op = 3
      · exact m_tk3t op txt s kv g V mp i W h hs hb c3 hH
      by_cases c4 : op = 4
      · exact m_tk4t op txt s kv g V mp i W h hs hb c4 hH
      exact m_tk0t op txt s kv g V mp i W h hs hb ⟨c1, c2, c3, c4⟩ hH
    · have hH := Bool.eq_false_iff.mpr hH
      by_cases c1 : op = 1
      · exact m_tk1f op txt s kv g V mp i W h hs hb c1 hH
      by_cases c2 : op = 2
      · exact m_tk2f op txt s kv g V mp i W h hs hb c2 hH
      by_cases c3 : op = 3
      · exact m_tk3f op txt s kv g V mp i W h hs hb c3 hH
      by_cases c4 : op = 4
      · exact m_tk4f op txt s kv g V mp i W h hs hb c4 hH
      exact m_tk0f op txt s kv g V mp i W h hs hb ⟨c1, c2, c3, c4⟩ hH
  · refine (m_taken_end op txt s kv g V mp i W (by omega) hb).mono ?_
    rintro e W' ⟨rfl, h2⟩
    have hL : tkL op txt s i = [] := if_neg (fun h3 => by have := h3.2.1; omega)
    exact fin_e hL rfl h2
/-- The pattern's own relation. -/
def mtOf (ps : List S85) (s : ByteArray) : Mt where
  kd k := (rd_T85 ps k).f0
  c0 k := (rd (rd_T85 ps k).f2 0).toNat
  c1 k := (rd (rd_T85 ps k).f2 1).toNat
  one k i e := if (rd_T85 ps k).f0 = 10 then i = 0 ∧ e = i else if (rd_T85 ps k).f0 = 11 then i = s.size ∧ e = i else if (rd_T85 ps k).f0 = 12 then e = i else e ∈ tkL (rd_T85 ps k).f0 (rd_T85 ps k).f1 s i
  n := s.size
def FR (m : Mt) (P : Nat) (V : Value) (s : ByteArray) (w0 : World) (g mb k i : Nat) (X : Nat → Prop) (W : World) (e : Ending) (W' : World) : Prop :=
  ∃ A c l, e = .returned (.slice A l.length c) ∧ OwnI W' W.heap.size (.slice A l.length c) l ∧ l.length ≤ (m.n + 1) * (m.n + 1) + m.n + 2 ∧ (∀ x, x ∈ l ↔ ∃ j : Nat, x = (j : Int) ∧ j ≤ m.n ∧ m.N k i j) ∧ MSt m P V s w0 g mb (fun b => X b ∨ (Value.slice A l.length c).ownBlock = some b) W' ∧ Ex W W' (· = mb)
theorem mem_ints (l : List Nat) (x : Int) : x ∈ ints l ↔ ∃ j : Nat, x = (j : Int) ∧ j ∈ l := by
  unfold ints
  rw [List.mem_map]
  exact ⟨fun ⟨j, h1, h2⟩ => ⟨j, h2.symm, h1⟩, fun ⟨j, h1, h2⟩ => ⟨j, h2, h1.symm⟩⟩
/-- What is told at once, of a fresh row. -/
theorem FR.mk {m : Mt} {P : Nat} {V : Value} {s : ByteArray} {w0 : World} {g mb k i : Nat} {X : Nat → Prop} {W W' : World} {A : Option Addr} {c : Nat} (l : List Nat) (hS : MSt m P V s w0 g mb X W) (ho : OwnI W' W.heap.size (.slice A (ints l).length c) (ints l)) (hl : l.length ≤ m.n + 1) (hm : ∀ j, j ∈ l ↔ (j ≤ m.n ∧ m.N k i j)) (hB : Below W.heap.size W W') :
    FR m P V s w0 g mb k i X W (.returned (.slice A (ints l).length c)) W' := by
  refine ⟨A, c, ints l, rfl, ho, ?_, fun x => ?_, hS.step (Ex.of_below hB (fun _ => False)) (fun _ h _ => h.elim) (fun b hb => hb.imp id (fun e => own_ge ho b e)), Ex.of_below hB _⟩
  · rw [ints_length]
    omega
  · rw [mem_ints]
    exact ⟨fun ⟨j, h1, h2⟩ => ⟨j, h1, (hm j).1 h2⟩, fun ⟨j, h1, h2⟩ => ⟨j, h1, (hm j).2 h2⟩⟩
theorem own_nil (W : World) (base : Nat) : OwnI W base zS (ints []) := ⟨rfl, .inl ⟨rfl, rfl⟩⟩
theorem own_one (W : World) (base i : Nat) (h : base ≤ W.heap.size) : OwnI (W.alloc (.cells #[.int .i64 (i : Int)] 3)) base (.slice (some ⟨W.heap.size, 0, none⟩) (ints [i]).length 1) (ints [i]) := own_lit W base 3 .i64 [(i : Int)] h (by rw [List.length_singleton]; decide)
theorem isOne_iff (op : Int) : isOne op = true ↔ 1 ≤ op ∧ op ≤ 4 := by unfold isOne; rw [Bool.and_eq_true, decide_eq_true_eq, decide_eq_true_eq]
theorem mt_one {ps : List S85} {s : ByteArray} {k i e : Nat} (h : isOne (rd_T85 ps k).f0 = true) : (mtOf ps s).N k i e ↔ e ∈ tkL (rd_T85 ps k).f0 (rd_T85 ps k).f1 s i := by
  obtain ⟨h1, h2⟩ := (isOne_iff _).1 h
  have hk : (mtOf ps s).kd k = (rd_T85 ps k).f0 := rfl
  rw [Mt.N1 (by rw [hk]; omega) (by rw [hk]; omega) (by rw [hk]; omega) (by rw [hk]; omega) (by rw [hk]; omega)]
  show (if _ then _ else if _ then _ else if _ then _ else _) ↔ _
  rw [if_neg (by omega), if_neg (by omega), if_neg (by omega)]
theorem f_one (ps : List S85) (P : Nat) (V : Value) (s : ByteArray) (w0 : World) (g mb k i : Nat) (X : Nat → Prop) (W : World) (op : Int) (txt : ByteArray) (kv : Value) (hop : (rd_T85 ps k).f0 = op) (htx : (rd_T85 ps k).f1 = txt) (hs : s.size ≤ 1048576) (hi : i ≤ s.size) (hS : MSt (mtOf ps s) P V s w0 g mb X W) (ho1 : isOne op = true) :
    Calls Try.prog 50 #[.pointer (some ⟨g, 0, none⟩), (.agg #[.int .i64 op, .string txt, kv]), .int .i64 (i : Int)] W (FR (mtOf ps s) P V s w0 g mb k i X W) := by
  have hmt := fun e => mt_one (ps := ps) (k := k) (s := s) (i := i) (e := e) (by rw [hop]; exact ho1)
  rw [hop, htx] at hmt
  clear hop htx
  obtain ⟨W1, e1, hbel, hsz, hb1, hb2⟩ := box_facts (op := op) (txt := txt) (kv := kv) hS.blk
  obtain ⟨⟨x0, x1, x2⟩, y0, y1, y2⟩ := bC3 hb2
  have hT := m_taken op txt s kv g V _ i W1 hi hs hb1
  rw [ho1] at hT
  have HFIN : Aside0 (∀ W2 A c, OwnI W2 W1.heap.size (.slice A (ints (tkL op txt s i)).length c) (ints (tkL op txt s i)) → Below W1.heap.size W1 W2 → FR (mtOf ps s) P V s w0 g mb k i X W (.returned (.slice A (ints (tkL op txt s i)).length c)) W2) := aM (fun W2 A c h1 h2 => by
    refine FR.mk _ hS (h1.lower (by omega)) ?_ (fun j => ?_) (hbel.trans (h2.mono (by omega)))
    · unfold tkL; split <;> simp
    · rw [hmt j]
      refine ⟨fun h => ⟨?_, h⟩, fun h => h.2⟩
      unfold tkL at h
      split at h
      · rename_i h3
        rw [List.mem_singleton] at h
        have : (mtOf ps s).n = s.size := rfl
        omega
      · cases h)
  have HT := aM hT
  clear hmt hS hi hs hb1 hb2 hbel hsz hT ho1
  go_enter Try.func50, Try.ntmps50
  go_wp2_with fail
  refine HT.out.mono ?_
  rintro e W2 ⟨A, c, rfl, h1, h2⟩
  have H1 := aM h1; have H2 := aM h2
  clear h1 h2 x0 x1 x2 y0 y1 y2 e1
  go_wp2_with fail
  go_ret
  exact HFIN.out W2 A c H1.out H2.out
theorem f_none (ps : List S85) (P : Nat) (V : Value) (s : ByteArray) (w0 : World) (g mb k i : Nat) (X : Nat → Prop) (W : World) (txt : ByteArray) (kv : Value) (hop : (rd_T85 ps k).f0 = 12) (hs : s.size ≤ 1048576) (hi : i ≤ s.size) (hS : MSt (mtOf ps s) P V s w0 g mb X W)  :
    Calls Try.prog 50 #[.pointer (some ⟨g, 0, none⟩), .agg #[.int .i64 12, .string txt, kv], .int .i64 (i : Int)] W (FR (mtOf ps s) P V s w0 g mb k i X W) := by
  have hmt : ∀ e, (mtOf ps s).N k i e ↔ e = i := fun e => by
    have hk : (mtOf ps s).kd k = 12 := hop
    rw [Mt.N1 (by rw [hk]; decide) (by rw [hk]; decide) (by rw [hk]; decide) (by rw [hk]; decide) (by rw [hk]; decide)]
    show (if _ then _ else if _ then _ else if _ then _ else _) ↔ _
    rw [hop]
    simp <;> omega
  have hn : (mtOf ps s).n = s.size := rfl
  obtain ⟨W1, e1, hbel, hsz, hb1, hb2⟩ := box_facts (op := 12) (txt := txt) (kv := kv) hS.blk
  obtain ⟨⟨a0, a1, a2⟩, b0, b1, b2⟩ := bC3 hb2
  have hT := m_taken 12 txt s kv g V _ i W1 hi hs hb1
  have hT2 : tkL 12 txt s i = [] := if_neg (fun h => absurd h.1 (by decide))
  rw [hT2, show isOne 12 = false from rfl] at hT
  have hgl := hS.lt.1
  have HFIN : Aside0 (∀ W2, Below W1.heap.size W1 W2 → FR (mtOf ps s) P V s w0 g mb k i X W (.returned (.slice (some ⟨W2.heap.size, 0, none⟩) 1 1)) (W2.alloc (.cells #[.int .i64 (i : Int)] 3))) := aM (fun W2 h2 => by
    have hB : Below W.heap.size W W2 := hbel.trans (h2.mono (by omega))
    exact FR.mk [i] hS (own_one W2 W.heap.size i hB.size) (by simp) (fun j => by rw [hmt j, List.mem_singleton]; omega) (hB.alloc hB.size _))
  have HC : Aside0 (∀ W2, Below W1.heap.size W1 W2 → (W2.heap[g]? = some (.cells #[V, .string s, .map (some mb)] 64 (0, 0))) ∧ W2.heap[W.heap.size]? = some (.cells #[.int .i64 12, .string txt, kv] 85 (0, 0))) := aM (fun W2 h2 => ⟨(h2.block g (by omega)).trans hb1, (h2.block W.heap.size (by omega)).trans hb2⟩)
  have HT := aM hT
  clear hmt hS hi hs hb1 hb2 hbel hsz hT hop hT2 hn hgl
  go_enter Try.func50, Try.ntmps50
  go_wp2_with fail
  refine HT.out.mono ?_
  rintro e W2 ⟨A, c, rfl, h1, h2⟩
  have H2 := aM h2
  obtain ⟨hb3, hb4⟩ := HC.out W2 h2
  obtain ⟨⟨h0, h1, h2⟩, f0, f1, f2⟩ := bC3 hb3
  obtain ⟨⟨x0, x1, x2⟩, y0, y1, y2⟩ := bC3 hb4
  clear hb3 hb4 e1 a0 a1 a2 b0 b1 b2
  go_wp2_with fail
  go_ret
  exact HFIN.out _ H2.out
theorem f_beg1 (ps : List S85) (P : Nat) (V : Value) (s : ByteArray) (w0 : World) (g mb k i : Nat) (X : Nat → Prop) (W : World) (txt : ByteArray) (kv : Value) (hop : (rd_T85 ps k).f0 = 10) (hs : s.size ≤ 1048576) (hi : i ≤ s.size) (hS : MSt (mtOf ps s) P V s w0 g mb X W) (hq : i = 0) :
    Calls Try.prog 50 #[.pointer (some ⟨g, 0, none⟩), .agg #[.int .i64 10, .string txt, kv], .int .i64 (i : Int)] W (FR (mtOf ps s) P V s w0 g mb k i X W) := by
  have hmt : ∀ e, (mtOf ps s).N k i e ↔ e = i := fun e => by
    have hk : (mtOf ps s).kd k = 10 := hop
    rw [Mt.N1 (by rw [hk]; decide) (by rw [hk]; decide) (by rw [hk]; decide) (by rw [hk]; decide) (by rw [hk]; decide)]
    show (if _ then _ else if _ then _ else if _ then _ else _) ↔ _
    rw [hop]
    simp <;> omega
  have hn : (mtOf ps s).n = s.size := rfl
  obtain ⟨W1, e1, hbel, hsz, hb1, hb2⟩ := box_facts (op := 10) (txt := txt) (kv := kv) hS.blk
  obtain ⟨⟨a0, a1, a2⟩, b0, b1, b2⟩ := bC3 hb2
  have hT := m_taken 10 txt s kv g V _ i W1 hi hs hb1
  have hT2 : tkL 10 txt s i = [] := if_neg (fun h => absurd h.1 (by decide))
  rw [hT2, show isOne 10 = false from rfl] at hT
  have hgl := hS.lt.1
  have HFIN : Aside0 (∀ W2, Below W1.heap.size W1 W2 → FR (mtOf ps s) P V s w0 g mb k i X W (.returned (.slice (some ⟨W2.heap.size, 0, none⟩) 1 1)) (W2.alloc (.cells #[.int .i64 (i : Int)] 3))) := aM (fun W2 h2 => by
    have hB : Below W.heap.size W W2 := hbel.trans (h2.mono (by omega))
    exact FR.mk [i] hS (own_one W2 W.heap.size i hB.size) (by simp) (fun j => by rw [hmt j, List.mem_singleton]; omega) (hB.alloc hB.size _))
  have HC : Aside0 (∀ W2, Below W1.heap.size W1 W2 → (W2.heap[g]? = some (.cells #[V, .string s, .map (some mb)] 64 (0, 0))) ∧ W2.heap[W.heap.size]? = some (.cells #[.int .i64 10, .string txt, kv] 85 (0, 0))) := aM (fun W2 h2 => ⟨(h2.block g (by omega)).trans hb1, (h2.block W.heap.size (by omega)).trans hb2⟩)
  have g1 : (0 < (i : Int)) = False := eq_false (by omega)
  have g2 : decide (0 < (i : Int)) = false := decide_eq_false (by omega)
  have g3 : decide (0 < i) = false := decide_eq_false (by omega)
  clear hq
  have HT := aM hT
  clear hmt hS hi hs hb1 hb2 hbel hsz hT hop hT2 hn hgl
  go_enter Try.func50, Try.ntmps50
  go_wp2_with fail
  refine HT.out.mono ?_
  rintro e W2 ⟨A, c, rfl, h1, h2⟩
  have H2 := aM h2
  obtain ⟨hb3, hb4⟩ := HC.out W2 h2
  obtain ⟨⟨h0, h1, h2⟩, f0, f1, f2⟩ := bC3 hb3
  obtain ⟨⟨x0, x1, x2⟩, y0, y1, y2⟩ := bC3 hb4
  clear hb3 hb4 e1 a0 a1 a2 b0 b1 b2
  go_wp2_with fail
  go_ret
  exact HFIN.out _ H2.out
theorem f_beg0 (ps : List S85) (P : Nat) (V : Value) (s : ByteArray) (w0 : World) (g mb k i : Nat) (X : Nat → Prop) (W : World) (txt : ByteArray) (kv : Value) (hop : (rd_T85 ps k).f0 = 10) (hs : s.size ≤ 1048576) (hi : i ≤ s.size) (hS : MSt (mtOf ps s) P V s w0 g mb X W) (hq : 0 < i) :
    Calls Try.prog 50 #[.pointer (some ⟨g, 0, none⟩), .agg #[.int .i64 10, .string txt, kv], .int .i64 (i : Int)] W (FR (mtOf ps s) P V s w0 g mb k i X W) := by
  have hmt : ∀ e, (mtOf ps s).N k i e ↔ False := fun e => by
    have hk : (mtOf ps s).kd k = 10 := hop
    rw [Mt.N1 (by rw [hk]; decide) (by rw [hk]; decide) (by rw [hk]; decide) (by rw [hk]; decide) (by rw [hk]; decide)]
    show (if _ then _ else if _ then _ else if _ then _ else _) ↔ _
    rw [hop]
    simp <;> omega
  have hn : (mtOf ps s).n = s.size := rfl
  obtain ⟨W1, e1, hbel, hsz, hb1, hb2⟩ := box_facts (op := 10) (txt := txt) (kv := kv) hS.blk
  obtain ⟨⟨a0, a1, a2⟩, b0, b1, b2⟩ := bC3 hb2
  have hT := m_taken 10 txt s kv g V _ i W1 hi hs hb1
  have hT2 : tkL 10 txt s i = [] := if_neg (fun h => absurd h.1 (by decide))
  rw [hT2, show isOne 10 = false from rfl] at hT
  have hgl := hS.lt.1
  have HFIN : Aside0 (∀ W2, Below W1.heap.size W1 W2 → FR (mtOf ps s) P V s w0 g mb k i X W (.returned zS) W2) := aM (fun W2 h2 => by
    have hB : Below W.heap.size W W2 := hbel.trans (h2.mono (by omega))
    exact FR.mk [] hS (own_nil W2 W.heap.size) (by simp) (fun j => by rw [hmt j]; simp) hB)
  have HC : Aside0 (∀ W2, Below W1.heap.size W1 W2 → (W2.heap[g]? = some (.cells #[V, .string s, .map (some mb)] 64 (0, 0))) ∧ W2.heap[W.heap.size]? = some (.cells #[.int .i64 10, .string txt, kv] 85 (0, 0))) := aM (fun W2 h2 => ⟨(h2.block g (by omega)).trans hb1, (h2.block W.heap.size (by omega)).trans hb2⟩)
  have g1 : (0 < (i : Int)) = True := eq_true (by omega)
  have g2 : decide (0 < (i : Int)) = true := decide_eq_true (by omega)
  have g3 : decide (0 < i) = true := decide_eq_true hq
  clear hq
  have HT := aM hT
  clear hmt hS hi hs hb1 hb2 hbel hsz hT hop hT2 hn hgl
  go_enter Try.func50, Try.ntmps50
  go_wp2_with fail
  refine HT.out.mono ?_
  rintro e W2 ⟨A, c, rfl, h1, h2⟩
  have H2 := aM h2
  obtain ⟨hb3, hb4⟩ := HC.out W2 h2
  obtain ⟨⟨h0, h1, h2⟩, f0, f1, f2⟩ := bC3 hb3
  obtain ⟨⟨x0, x1, x2⟩, y0, y1, y2⟩ := bC3 hb4
  clear hb3 hb4 e1 a0 a1 a2 b0 b1 b2
  go_wp2_with fail
  go_ret
  exact HFIN.out _ H2.out
theorem f_end1 (ps : List S85) (P : Nat) (V : Value) (s : ByteArray) (w0 : World) (g mb k i : Nat) (X : Nat → Prop) (W : World) (txt : ByteArray) (kv : Value) (hop : (rd_T85 ps k).f0 = 11) (hs : s.size ≤ 1048576) (hi : i ≤ s.size) (hS : MSt (mtOf ps s) P V s w0 g mb X W) (hq : i = s.size) :
    Calls Try.prog 50 #[.pointer (some ⟨g, 0, none⟩), .agg #[.int .i64 11, .string txt, kv], .int .i64 (i : Int)] W (FR (mtOf ps s) P V s w0 g mb k i X W) := by
  have hmt : ∀ e, (mtOf ps s).N k i e ↔ e = i := fun e => by
    have hk : (mtOf ps s).kd k = 11 := hop
    rw [Mt.N1 (by rw [hk]; decide) (by rw [hk]; decide) (by rw [hk]; decide) (by rw [hk]; decide) (by rw [hk]; decide)]
    show (if _ then _ else if _ then _ else if _ then _ else _) ↔ _
    rw [hop]
    simp <;> omega
  have hn : (mtOf ps s).n = s.size := rfl
  obtain ⟨W1, e1, hbel, hsz, hb1, hb2⟩ := box_facts (op := 11) (txt := txt) (kv := kv) hS.blk
  obtain ⟨⟨a0, a1, a2⟩, b0, b1, b2⟩ := bC3 hb2
  have hT := m_taken 11 txt s kv g V _ i W1 hi hs hb1
  have hT2 : tkL 11 txt s i = [] := if_neg (fun h => absurd h.1 (by decide))
  rw [hT2, show isOne 11 = false from rfl] at hT
  have hgl := hS.lt.1
  have HFIN : Aside0 (∀ W2, Below W1.heap.size W1 W2 → FR (mtOf ps s) P V s w0 g mb k i X W (.returned (.slice (some ⟨W2.heap.size, 0, none⟩) 1 1)) (W2.alloc (.cells #[.int .i64 (i : Int)] 3))) := aM (fun W2 h2 => by
    have hB : Below W.heap.size W W2 := hbel.trans (h2.mono (by omega))
    exact FR.mk [i] hS (own_one W2 W.heap.size i hB.size) (by simp) (fun j => by rw [hmt j, List.mem_singleton]; omega) (hB.alloc hB.size _))
  have HC : Aside0 (∀ W2, Below W1.heap.size W1 W2 → (W2.heap[g]? = some (.cells #[V, .string s, .map (some mb)] 64 (0, 0))) ∧ W2.heap[W.heap.size]? = some (.cells #[.int .i64 11, .string txt, kv] 85 (0, 0))) := aM (fun W2 h2 => ⟨(h2.block g (by omega)).trans hb1, (h2.block W.heap.size (by omega)).trans hb2⟩)
  have g1 : ((i : Int) < (s.size : Int)) = False := eq_false (by omega)
  have g2 : decide ((i : Int) < (s.size : Int)) = false := decide_eq_false (by omega)
  have g3 : decide (i < s.size) = false := decide_eq_false (by omega)
  clear hq
  have HT := aM hT
  clear hmt hS hi hs hb1 hb2 hbel hsz hT hop hT2 hn hgl
  go_enter Try.func50, Try.ntmps50
  go_wp2_with fail
  refine HT.out.mono ?_
  rintro e W2 ⟨A, c, rfl, h1, h2⟩
  have H2 := aM h2
  obtain ⟨hb3, hb4⟩ := HC.out W2 h2
  obtain ⟨⟨h0, h1, h2⟩, f0, f1, f2⟩ := bC3 hb3
  obtain ⟨⟨x0, x1, x2⟩, y0, y1, y2⟩ := bC3 hb4
  clear hb3 hb4 e1 a0 a1 a2 b0 b1 b2
  go_wp2_with fail
  go_ret
  exact HFIN.out _ H2.out
theorem f_end0 (ps : List S85) (P : Nat) (V : Value) (s : ByteArray) (w0 : World) (g mb k i : Nat) (X : Nat → Prop) (W : World) (txt : ByteArray) (kv : Value) (hop : (rd_T85 ps k).f0 = 11) (hs : s.size ≤ 1048576) (hi : i ≤ s.size) (hS : MSt (mtOf ps s) P V s w0 g mb X W) (hq : i < s.size) :
    Calls Try.prog 50 #[.pointer (some ⟨g, 0, none⟩), .agg #[.int .i64 11, .string txt, kv], .int .i64 (i : Int)] W (FR (mtOf ps s) P V s w0 g mb k i X W) := by
  have hmt : ∀ e, (mtOf ps s).N k i e ↔ False := fun e => by
    have hk : (mtOf ps s).kd k = 11 := hop
    rw [Mt.N1 (by rw [hk]; decide) (by rw [hk]; decide) (by rw [hk]; decide) (by rw [hk]; decide) (by rw [hk]; decide)]
    show (if _ then _ else if _ then _ else if _ then _ else _) ↔ _
    rw [hop]
    simp <;> omega
  have hn : (mtOf ps s).n = s.size := rfl
  obtain ⟨W1, e1, hbel, hsz, hb1, hb2⟩ := box_facts (op := 11) (txt := txt) (kv := kv) hS.blk
  obtain ⟨⟨a0, a1, a2⟩, b0, b1, b2⟩ := bC3 hb2
  have hT := m_taken 11 txt s kv g V _ i W1 hi hs hb1
  have hT2 : tkL 11 txt s i = [] := if_neg (fun h => absurd h.1 (by decide))
  rw [hT2, show isOne 11 = false from rfl] at hT
  have hgl := hS.lt.1
  have HFIN : Aside0 (∀ W2, Below W1.heap.size W1 W2 → FR (mtOf ps s) P V s w0 g mb k i X W (.returned zS) W2) := aM (fun W2 h2 => by
    have hB : Below W.heap.size W W2 := hbel.trans (h2.mono (by omega))
    exact FR.mk [] hS (own_nil W2 W.heap.size) (by simp) (fun j => by rw [hmt j]; simp) hB)
  have HC : Aside0 (∀ W2, Below W1.heap.size W1 W2 → (W2.heap[g]? = some (.cells #[V, .string s, .map (some mb)] 64 (0, 0))) ∧ W2.heap[W.heap.size]? = some (.cells #[.int .i64 11, .string txt, kv] 85 (0, 0))) := aM (fun W2 h2 => ⟨(h2.block g (by omega)).trans hb1, (h2.block W.heap.size (by omega)).trans hb2⟩)
  have g1 : ((i : Int) < (s.size : Int)) = True := eq_true (by omega)
  have g2 : decide ((i : Int) < (s.size : Int)) = true := decide_eq_true (by omega)
  have g3 : decide (i < s.size) = true := decide_eq_true hq
  clear hq
  have HT := aM hT
  clear hmt hS hi hs hb1 hb2 hbel hsz hT hop hT2 hn hgl
  go_enter Try.func50, Try.ntmps50
  go_wp2_with fail
  refine HT.out.mono ?_
  rintro e W2 ⟨A, c, rfl, h1, h2⟩
  have H2 := aM h2
  obtain ⟨hb3, hb4⟩ := HC.out W2 h2
  obtain ⟨⟨h0, h1, h2⟩, f0, f1, f2⟩ := bC3 hb3
  obtain ⟨⟨x0, x1, x2⟩, y0, y1, y2⟩ := bC3 hb4
  clear hb3 hb4 e1 a0 a1 a2 b0 b1 b2
  go_wp2_with fail
  go_ret
  exact HFIN.out _ H2.out
end Go.Proofs.Ytnjomkadjcjcnaa.QFnExactEndsAt
