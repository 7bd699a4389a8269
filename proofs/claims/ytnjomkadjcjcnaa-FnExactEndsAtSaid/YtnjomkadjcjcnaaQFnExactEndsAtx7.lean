/- The law FnExactEndsAt walked: where the pure statement holds, it returns true. Conditions: the argument lies readable in memory. -/
import Derived.Test.YtnjomkadjcjcnaaQFnExactEndsAtx0
import Derived.Test.YtnjomkadjcjcnaaQFnExactEndsAtx1
import Derived.Test.YtnjomkadjcjcnaaQFnExactEndsAtx2
import Derived.Test.YtnjomkadjcjcnaaQFnExactEndsAtx3
import Derived.Test.YtnjomkadjcjcnaaQFnExactEndsAtx4
import Derived.Test.YtnjomkadjcjcnaaQFnExactEndsAtx5
import Derived.Test.YtnjomkadjcjcnaaQFnExactEndsAtx6
import Derived.Test.YtnjomkadjcjcnaaMEa1
import Derived.Test.YtnjomkadjcjcnaaMEa2
import Derived.Test.YtnjomkadjcjcnaaMEa3
import Derived.Test.YtnjomkadjcjcnaaMEa4
namespace Go.Proofs.Ytnjomkadjcjcnaa.QFnExactEndsAt
open Go.RowKit Go.Proofs.YtnjomkadjcjcnaaW.PrintWords Go.Proofs.YtnjomkadjcjcnaaW.PrintLast Go.Proofs.YtnjomkadjcjcnaaW.PrintMore
attribute [local go_sem] max2_int min2_int max_two min_two max_three min_three max_four min_four   -- for this text's walks alone
open Bool renaming true → bT, false → bf
open Go.Proofs.YtnjomkadjcjcnaaW.PrintWords.Kd renaming R_alloc → rA, R_drewN → rN, R_drew → rD, C_alloc → cA, C_drewN → cN, C_drew → cD, R_far → rF, R_below → rB, R_lower → rL, R_lt → rT, R_base → rS, C_below → cB, R_types → rY, R_elder' → rE, R_reads' → rR, R_new' → rW
open Go.Proofs.YtnjomkadjcjcnaaW.PrintWords renaming blk_drewN → bN, blk_drew → bD, blk_alloc → bA, below_set → lS, pw_below_drewN → lN, below_drew1 → lD, below_alloc → lA, blk_cell → bC, blk_below → bB, below_size → lZ, below_step → lP, blk_lt → bL, blk_frozen → bF
open Go.Proofs.YtnjomkadjcjcnaaW.PrintWords.Aside0 renaming mk → aM
set_option linter.unusedVariables false
set_option linter.unusedSimpArgs false
/-! ### laws_FnExactEndsAt: function 4 -/
set_option maxHeartbeats 4000000
set_option maxRecDepth 100000
theorem ends_out (A0 : Option Addr) (c0 : Nat) (l0 : List S84) (a1 : Int) (s : ByteArray) (a3 : Int) (w : World) (hs : ¬ s.size ≤ 1048576) :
    Calls Try.prog 4 #[.agg #[.slice A0 l0.length c0], .int .i64 a1, .string s, .int .i64 a3] w fun e w' => e = .returned (.bool true) ∧ Below w.heap.size w w' := by
  have HB := aM (show Below w.heap.size w (w.alloc (.cells #[.slice A0 l0.length c0] 24)) from (Below.refl _ _).alloc (Nat.le_refl _) _)
  have h20 : decide ((1048576 : Int) < (s.size : Int)) = true := decide_eq_true (by omega)
  have h21 : (1048576 : Int) < (s.size : Int) := by omega
  have h22 : decide (1048576 < s.size) = true := decide_eq_true (by omega)
  clear hs
  go_enter Try.func4, Try.ntmps4
  go_wp2
  go_ret
  exact ⟨rfl, HB.out⟩
theorem ends_neg (k : Nat) (A0 : Option Addr) (c0 : Nat) (l0 : List S84) (a1 : Int) (s : ByteArray) (a3 : Int) (r : Int) (w : World) (hr0 : Kd.C k84 w A0 l0.length l0) (hc0 : l0.length ≤ c0) (hs : s.size ≤ 1048576) (hz : laws_szPattern.f k l0 1048576 = some r) (hr : r < 0) :
    Calls Try.prog 4 #[.agg #[.slice A0 l0.length c0], .int .i64 a1, .string s, .int .i64 a3] w fun e w' => e = .returned (.bool true) ∧ Below w.heap.size w w' := by
  obtain ⟨W1, hW1⟩ : ∃ W1, w.alloc (.cells #[.slice A0 l0.length c0] 24) = W1 := ⟨_, rfl⟩
  have hB1 : Below w.heap.size w W1 := by rw [← hW1]; exact (Below.refl _ _).alloc (Nat.le_refl _) _
  have hx1 : W1.heap[w.heap.size]? = some (.cells #[.slice A0 l0.length c0] 24 (0, 0)) := by rw [← hW1]; exact (MapKept.heap_alloc w _).1
  have HZ := aM hz; have HC := aM hc0
  have B1 := aM hB1; have R1 := aM (Kd.C_below hr0 hB1)
  have y0 : W1.cell? ⟨w.heap.size, 0, none⟩ = some (.slice A0 l0.length c0) := (bC hx1 0).trans rfl
  have h20 : decide ((1048576 : Int) < (s.size : Int)) = false := decide_eq_false (by omega)
  have h21 : ¬ ((1048576 : Int) < (s.size : Int)) := by omega
  have h22 : decide (1048576 < s.size) = false := decide_eq_false (by omega)
  clear hB1 hx1 hr0 hc0 hs hz
  go_enter Try.func4, Try.ntmps4
  go_wp2_with fail
  refine (laws_szPattern.calls k A0 c0 l0 1048576 r _ R1.out HC.out HZ.out).mono ?_
  rintro e W2 ⟨rfl, hb⟩
  have B2 := aM (B1.out.trans (hb.mono B1.out.size))
  clear hb y0 B1 R1
  go_wp2
  go_ret
  exact ⟨rfl, B2.out⟩
open Classical in
noncomputable def laws_FnExactEndsAt.f (k : Nat) (l0 : List S84) (a1 : Int) (a2 : ByteArray) (a3 : Int) : Option Bool :=
  if a2.size ≤ 1048576 then
    (laws_szPattern.f k l0 1048576).bind fun r => if r < 0 then some true else (laws_toPattern.f k l0).bind fun ps => (markP k ps 1).bind fun m =>
      if (∃ b, PatF k ps b ∧ laws_eqIntS.f k (ints (EL ps a2 b a1 a3)) (ints (EL ps a2 b a1 a3)) = some true ∧ ∃ t us, laws_markIntS.f k (ints (EL ps a2 b a1 a3)) 1 = some (t, us) ∧ laws_heldIntS.f k us 1 = some t ∧ 0 ≤ t) ∧ laws_eqPattern.f k ps ps = some true ∧ 0 ≤ m.1 then some true else none
  else some true
theorem laws_FnExactEndsAt.calls (k : Nat) (A0 : Option Addr) (c0 : Nat) (l0 : List S84) (a1 : Int) (a2 : ByteArray) (a3 : Int) (r : Bool) (w : World) (hr0 : Kd.C k84 w A0 l0.length l0) (hc0 : l0.length ≤ c0) (h : laws_FnExactEndsAt.f k l0 a1 a2 a3 = some r) :
    Calls Try.prog 4 #[.agg #[.slice A0 l0.length c0], .int .i64 a1, .string a2, .int .i64 a3] w fun e w' => e = .returned (.bool r) ∧ Below w.heap.size w w' := by
  unfold laws_FnExactEndsAt.f at h
  by_cases hs : a2.size ≤ 1048576
  · rw [if_pos hs] at h
    obtain ⟨q, hz, h⟩ := Option.bind_eq_some_iff.mp h
    by_cases hq : q < 0
    · rw [if_pos hq] at h
      obtain rfl := Option.some.inj h
      exact ends_neg k A0 c0 l0 a1 a2 a3 q w hr0 hc0 hs hz hq
    · rw [if_neg hq] at h
      obtain ⟨ps, ht, h⟩ := Option.bind_eq_some_iff.mp h
      obtain ⟨⟨m1, zs⟩, hm, h⟩ := Option.bind_eq_some_iff.mp h
      split at h
      · next hc =>
        obtain rfl := Option.some.inj h
        obtain ⟨⟨b, hP, hL, t, us, h1, h2, h3⟩, he, h4⟩ := hc
        exact ends_walk k A0 c0 l0 a1 a2 a3 ps b q w hr0 hc0 hs hz (by omega) ht hP he m1 zs hm h4 hL t us h1 h2 h3
      · cases h
  · rw [if_neg hs] at h
    obtain rfl := Option.some.inj h
    exact ends_out A0 c0 l0 a1 a2 a3 w hs

end Go.Proofs.Ytnjomkadjcjcnaa.QFnExactEndsAt
