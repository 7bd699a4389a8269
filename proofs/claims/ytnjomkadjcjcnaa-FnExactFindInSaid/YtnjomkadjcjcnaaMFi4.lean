/- The reference's again, at, its memo's making; EndsAt and FindIn of the reference; wrong patterns. Conditions: none beyond those that each theorem names. -/
import Derived.Test.YtnjomkadjcjcnaaQFnExactFindInx0
import Derived.Test.YtnjomkadjcjcnaaQFnExactFindInx1
import Derived.Test.YtnjomkadjcjcnaaQFnExactFindInx2
import Derived.Test.YtnjomkadjcjcnaaQFnExactFindInx3
import Derived.Test.YtnjomkadjcjcnaaQFnExactFindInx4
import Derived.Test.YtnjomkadjcjcnaaQFnExactFindInx5
import Derived.Test.YtnjomkadjcjcnaaQFnExactFindInx6
import Derived.Test.YtnjomkadjcjcnaaShelfIdx
import Derived.Test.YtnjomkadjcjcnaaShelfSort
import Derived.Lib.Hide
import Derived.Sort.OwnSortedInts
import Derived.Lib.RowBridge
import Derived.Maps.OwnSet
import Derived.Maps.Views
import Derived.Deep.QuietTactic
import Derived.BigQuiet
import Derived.StillTailTactics
import Derived.IntWalk
import Derived.Lib.IndexAny
import Derived.Deep.RegionHeld3
import Derived.Deep.RegionLaw
import Derived.Deep.AppendLies
import Derived.RegionTactic
import Derived.Shelf.Spec.SlicesGrow
import Derived.Lib.AppendZerosOnto
import Derived.Test.YtnjomkadjcjcnaaMFi1
import Derived.Test.YtnjomkadjcjcnaaMFi2
import Derived.Test.YtnjomkadjcjcnaaMFi3
set_option linter.unusedVariables false
set_option linter.unusedSimpArgs false
set_option maxHeartbeats 4000000
set_option maxRecDepth 100000
namespace Go.Proofs.Ytnjomkadjcjcnaa.QFnExactFindIn
open Go.RowKit Go.Proofs.YtnjomkadjcjcnaaW.PrintWords Go.Proofs.YtnjomkadjcjcnaaW.PrintLast Go.Proofs.YtnjomkadjcjcnaaW.PrintMore
attribute [local go_sem] max2_int min2_int max_two min_two max_three min_three max_four min_four   -- for this text's walks alone
open Bool renaming true → bT, false → bf
open Go.Proofs.YtnjomkadjcjcnaaW.PrintWords.Kd renaming R_alloc → rA, R_drewN → rN, R_drew → rD, C_alloc → cA, C_drewN → cN, C_drew → cD, R_far → rF, R_below → rB, R_lower → rL, R_lt → rT, R_base → rS, C_below → cB, R_types → rY, R_elder' → rE, R_reads' → rR, R_new' → rW
open Go.Proofs.YtnjomkadjcjcnaaW.PrintWords renaming blk_drewN → bN, blk_drew → bD, blk_alloc → bA, below_set → lS, pw_below_drewN → lN, below_drew1 → lD, below_alloc → lA, blk_cell → bC, blk_below → bB, below_size → lZ, below_step → lP, blk_lt → bL, blk_frozen → bF
open Go.Proofs.YtnjomkadjcjcnaaW.PrintWords.Aside0 renaming mk → aM
theorem info_b : (Try.prog.info? 4).map (fun i => (i.zero, i.size, i.bytes)) = some (some (.bool false), 1, 1) := by kernel_rfl
theorem s_atone (ps : List S85) (A0 : Option Addr) (c0 : Nat) (s : ByteArray) (w0 : World) (y : Lay) (k i : Nat) (X : Nat → Prop) (W : World) (hs : s.size ≤ 1048576) (hlen : ps.length ≤ 60) (hc0 : ps.length ≤ c0) (hR : Kd.C k85 w0 A0 ps.length ps) (hk : k < ps.length) (hi : i ≤ (mtOf ps s).n) (hS : SSt (mtOf ps s) ps.length (.slice A0 ps.length c0) s w0 y X W) (hX : ∀ q, X q → q < W.heap.size) (hd : W.cell? ⟨y.D k, i, none⟩ = some (.bool false)) (ho : isOne (rd_T85 ps k).f0 = true) (htx : (rd_T85 ps k).f1.size ≤ 1048576) :
    Calls Try.prog 28 #[.pointer (some ⟨y.g, 0, none⟩), .int .i64 (k : Int), .int .i64 (i : Int)] W fun e W' =>
      ∃ A c, e = .returned (.slice A ((mtOf ps s).V k i).length c) ∧ OwnV W' y.N0 (.slice A ((mtOf ps s).V k i).length c) ((mtOf ps s).V k i) ∧ NB (.slice A ((mtOf ps s).V k i).length c) X ∧ SSt (mtOf ps s) ps.length (.slice A0 ps.length c0) s w0 y X W' ∧ Ex W W' (fun b => b < y.N0) := by
  have hn : (mtOf ps s).n = s.size := rfl
  have hn0 := hS.n0
  obtain ⟨a1, a2, _, _, a4, _⟩ := hS.at hk hi
  obtain ⟨⟨h0, h1, h2, h3⟩, f0, f1, f2, f3⟩ := bC4 hS.blk
  obtain ⟨N, hN⟩ : ∃ N, (mtOf ps s).n + 1 = N := ⟨_, rfl⟩
  have hN1 : N ≤ 1048577 := by rw [← hN, hn]; exact Nat.succ_le_succ hs
  rw [hN] at a1 a2
  have g1 : decide ((k : Int) < (ps.length : Int)) = true := decide_eq_true (by omega)
  have g2 : ((k : Int) < (ps.length : Int)) = True := eq_true (by omega)
  have p1 : (0 ≤ (k : Int)) = True := eq_true (by omega)
  have g3 : decide ((i : Int) < (N : Int)) = true := decide_eq_true (by omega)
  have g4 : ((i : Int) < (N : Int)) = True := eq_true (by omega)
  have p2 : (0 ≤ (i : Int)) = True := eq_true (by omega)
  obtain ⟨ad, A2, c2, e0, x0, x1, x2, l2, i2⟩ := at_T85 hR k (by omega) (by omega)
  replace x0 := hS.inp x0
  replace x1 := hS.inp x1
  replace x2 := hS.inp x2
  subst e0
  rw [Int.toNat_natCast] at x0 x1 x2
  have hu85 := Try.underlying85
  have hu30 := Try.underlying30
  obtain ⟨W1, e1, hb1, hz1, hq1b, hq2b⟩ := box4 (op := (rd_T85 ps k).f0) (txt := (rd_T85 ps k).f1) (kv := .slice A2 (rd_T85 ps k).f2.length c2) hS.blk
  obtain ⟨W2, e2⟩ : ∃ W2, W1.alloc (.cells #[] 4) = W2 := ⟨_, rfl⟩
  have hb2 : Below W1.heap.size W1 W2 := by rw [← e2]; exact (Below.refl _ _).alloc (Nat.le_refl _) _
  have hz2 : W2.heap.size = W1.heap.size + 1 := by rw [← e2]; exact Array.size_push ..
  have hB : Below W.heap.size W W2 := hb1.trans (hb2.mono (by omega))
  have hS2 := hS.still hB
  have hX2 : ∀ q, X q → q < W2.heap.size := fun q hq => by have := hX q hq; omega
  obtain ⟨⟨z0, z1, z2⟩, t0, t1, t2⟩ := bC3 ((hb2.block W.heap.size (by omega)).trans hq2b)
  have HV := aM (show (mtOf ps s).n = s.size ∧ s.size ≤ 1048576 ∧ k < ps.length ∧ i ≤ (mtOf ps s).n ∧ (mtOf ps s).n + 1 = N ∧ y.N0 ≤ W.heap.size from ⟨hn, hs, hk, hi, hN, hn0⟩)
  have HX := aM hX; have HB := aM hB; have HX2 := aM hX2; have HS := aM hS; have HS2 := aM hS2
  have hmt := fun e => mt_one (ps := ps) (k := k) (s := s) (i := i) (e := e) ho
  have hi' : i ≤ s.size := hi
  have hb4 : W2.heap[y.g]? = _ := hS2.blk
  have HC := aM (show Calls Try.prog 47 #[.pointer (some ⟨y.g, 0, none⟩), .agg #[.int .i64 (rd_T85 ps k).f0, .string (rd_T85 ps k).f1, .slice A2 (rd_T85 ps k).f2.length c2], .int .i64 (i : Int)] W2 (OneR (mtOf ps s) k i W2) from by
    have i3 := Kd.C_below i2 hS2.bel
    rcases Nat.lt_or_ge i s.size with q | q
    · cases ht : tkB (rd_T85 ps k).f0 (rd_T85 ps k).f1 (bt s (i : Int)) with
      | true => exact s_onet (mtOf ps s) _ _ _ s (rd_T85 ps k).f1 y.g k i W2 hn hs hi hb4 A2 c2 (rd_T85 ps k).f2 i3 l2 (rd_T85 ps k).f0 ho htx q ht hmt
      | false => exact s_onef (mtOf ps s) _ _ _ s (rd_T85 ps k).f1 y.g k i W2 hn hs hi hb4 A2 c2 (rd_T85 ps k).f2 i3 l2 (rd_T85 ps k).f0 ho htx q ht hmt
    · exact s_onen (mtOf ps s) _ _ _ s (rd_T85 ps k).f1 y.g k i W2 hn hs hi hb4 A2 c2 (rd_T85 ps k).f2 i3 l2 (rd_T85 ps k).f0 ho htx (by omega) hmt)
  have o5 : ((rd_T85 ps k).f0 == 5) = false := by simpa using (show ¬ (rd_T85 ps k).f0 = 5 by have := (isOne_iff _).1 ho; omega)
  have o5d : ((rd_T85 ps k).f0 = 5) = False := eq_false (by have := (isOne_iff _).1 ho; omega)
  have o6 : ((rd_T85 ps k).f0 == 6) = false := by simpa using (show ¬ (rd_T85 ps k).f0 = 6 by have := (isOne_iff _).1 ho; omega)
  have o6d : ((rd_T85 ps k).f0 = 6) = False := eq_false (by have := (isOne_iff _).1 ho; omega)
  have o7 : ((rd_T85 ps k).f0 == 7) = false := by simpa using (show ¬ (rd_T85 ps k).f0 = 7 by have := (isOne_iff _).1 ho; omega)
  have o7d : ((rd_T85 ps k).f0 = 7) = False := eq_false (by have := (isOne_iff _).1 ho; omega)
  have o8 : ((rd_T85 ps k).f0 == 8) = false := by simpa using (show ¬ (rd_T85 ps k).f0 = 8 by have := (isOne_iff _).1 ho; omega)
  have o8d : ((rd_T85 ps k).f0 = 8) = False := eq_false (by have := (isOne_iff _).1 ho; omega)
  have o9 : ((rd_T85 ps k).f0 == 9) = false := by simpa using (show ¬ (rd_T85 ps k).f0 = 9 by have := (isOne_iff _).1 ho; omega)
  have o9d : ((rd_T85 ps k).f0 = 9) = False := eq_false (by have := (isOne_iff _).1 ho; omega)
  clear hn hn0 hN hN1 hk hi hs hlen hc0 hR hS hX hb1 hz1 hq1b hq2b hb2 hz2 hB hS2 hX2 l2 i2 ho htx hmt hi' hb4
  go_enter Try.func28, Try.ntmps28
  go_wp2_with fail
  refine HC.out.mono ?_
  intro e W6 hOne
  obtain ⟨b, rfl, hT⟩ := TR.of_one hOne HS.out HB.out HV.out.2.2.2.2.1
  clear hOne
  obtain ⟨⟨r0, r1, ⟨r2, r3⟩, r4⟩, s0, s1, ⟨s2, s3⟩, s4⟩ := hT.facts HV.out.2.2.1 HV.out.2.2.2.1 HV.out.2.2.2.2.1
  have HF := aM (s_tell HX.out HV.out.2.2.2.2.2 hT.2.1 HV.out.2.2.1 HV.out.2.2.2.1 HV.out.2.2.2.2.1 hT.1 hT.2.2)
  clear hT a1 a2 a4 hd h0 h1 h2 h3 f0 f1 f2 f3 x0 x1 x2 z0 z1 z2 t0 t1 t2
  go_wp2
  go_ret
  exact HF.out
theorem s_at8 (ps : List S85) (A0 : Option Addr) (c0 : Nat) (s : ByteArray) (w0 : World) (y : Lay) (k i : Nat) (X : Nat → Prop) (W : World) (hs : s.size ≤ 1048576) (hlen : ps.length ≤ 60) (hc0 : ps.length ≤ c0) (hR : Kd.C k85 w0 A0 ps.length ps) (hk : k < ps.length) (hi : i ≤ (mtOf ps s).n) (hS : SSt (mtOf ps s) ps.length (.slice A0 ps.length c0) s w0 y X W) (hX : ∀ q, X q → q < W.heap.size) (hd : W.cell? ⟨y.D k, i, none⟩ = some (.bool false)) (hE : AtC (mtOf ps s) ps.length (.slice A0 ps.length c0) s w0 y k) (hOk : (mtOf ps s).Ok ps.length) (hop : (rd_T85 ps k).f0 = 8) (hl : 1 ≤ (rd_T85 ps k).f2.length) (q0 : Nat) (hq0 : rd (rd_T85 ps k).f2 0 = (q0 : Int)) (hq0K : q0 < k) :
    Calls Try.prog 28 #[.pointer (some ⟨y.g, 0, none⟩), .int .i64 (k : Int), .int .i64 (i : Int)] W fun e W' =>
      ∃ A c, e = .returned (.slice A ((mtOf ps s).V k i).length c) ∧ OwnV W' y.N0 (.slice A ((mtOf ps s).V k i).length c) ((mtOf ps s).V k i) ∧ NB (.slice A ((mtOf ps s).V k i).length c) X ∧ SSt (mtOf ps s) ps.length (.slice A0 ps.length c0) s w0 y X W' ∧ Ex W W' (fun b => b < y.N0) := by
  have hn : (mtOf ps s).n = s.size := rfl
  have hn0 := hS.n0
  obtain ⟨a1, a2, _, _, a4, _⟩ := hS.at hk hi
  obtain ⟨⟨h0, h1, h2, h3⟩, f0, f1, f2, f3⟩ := bC4 hS.blk
  obtain ⟨N, hN⟩ : ∃ N, (mtOf ps s).n + 1 = N := ⟨_, rfl⟩
  have hN1 : N ≤ 1048577 := by rw [← hN, hn]; exact Nat.succ_le_succ hs
  rw [hN] at a1 a2
  have g1 : decide ((k : Int) < (ps.length : Int)) = true := decide_eq_true (by omega)
  have g2 : ((k : Int) < (ps.length : Int)) = True := eq_true (by omega)
  have p1 : (0 ≤ (k : Int)) = True := eq_true (by omega)
  have g3 : decide ((i : Int) < (N : Int)) = true := decide_eq_true (by omega)
  have g4 : ((i : Int) < (N : Int)) = True := eq_true (by omega)
  have p2 : (0 ≤ (i : Int)) = True := eq_true (by omega)
  obtain ⟨ad, A2, c2, e0, x0, x1, x2, l2, i2⟩ := at_T85 hR k (by omega) (by omega)
  replace x0 := hS.inp x0
  replace x1 := hS.inp x1
  replace x2 := hS.inp x2
  subst e0
  rw [Int.toNat_natCast] at x0 x1 x2
  rw [hop] at x0
  have hu85 := Try.underlying85
  have hu30 := Try.underlying30
  obtain ⟨W1, e1, hb1, hz1, hq1b, hq2b⟩ := box4 (op := 8) (txt := (rd_T85 ps k).f1) (kv := .slice A2 (rd_T85 ps k).f2.length c2) hS.blk
  obtain ⟨W2, e2⟩ : ∃ W2, W1.alloc (.cells #[] 4) = W2 := ⟨_, rfl⟩
  have hb2 : Below W1.heap.size W1 W2 := by rw [← e2]; exact (Below.refl _ _).alloc (Nat.le_refl _) _
  have hz2 : W2.heap.size = W1.heap.size + 1 := by rw [← e2]; exact Array.size_push ..
  have hB : Below W.heap.size W W2 := hb1.trans (hb2.mono (by omega))
  have hS2 := hS.still hB
  have hX2 : ∀ q, X q → q < W2.heap.size := fun q hq => by have := hX q hq; omega
  obtain ⟨⟨z0, z1, z2⟩, t0, t1, t2⟩ := bC3 ((hb2.block W.heap.size (by omega)).trans hq2b)
  have HV := aM (show (mtOf ps s).n = s.size ∧ s.size ≤ 1048576 ∧ k < ps.length ∧ i ≤ (mtOf ps s).n ∧ (mtOf ps s).n + 1 = N ∧ y.N0 ≤ W.heap.size from ⟨hn, hs, hk, hi, hN, hn0⟩)
  have HX := aM hX; have HB := aM hB; have HX2 := aM hX2; have HS := aM hS; have HS2 := aM hS2
  obtain ⟨ad2, rfl, hw0⟩ := int_at i2 (Below.refl _ _) 0 (by omega)
  rw [Addr.add_zero'] at hw0
  have hw0 : w0.cell? ad2 = some (.int .i64 (q0 : Int)) := by rw [← hq0]; exact hw0
  have zz0 := hS2.inp hw0
  have gk0 : (0 < (rd_T85 ps k).f2.length) = True := eq_true (by omega)
  have gk0' : decide (0 < (rd_T85 ps k).f2.length) = true := decide_eq_true (by omega)
  have gk0i : ((0 : Int) < ((rd_T85 ps k).f2.length : Int)) = True := eq_true (by omega)
  have gk0i' : decide ((0 : Int) < ((rd_T85 ps k).f2.length : Int)) = true := decide_eq_true (by omega)
  have hkd : (mtOf ps s).kd k = 8 := hop
  have hc00 : (mtOf ps s).c0 k = q0 := by show (rd (rd_T85 ps k).f2 0).toNat = q0; rw [hq0, Int.toNat_natCast]
  have hNL : ∀ v e, v ≤ (mtOf ps s).n → (mtOf ps s).N q0 v e → e ≤ (mtOf ps s).n := fun v e hv h => Mt.N_le hOk q0 (by omega) v e hv h
  have HC := aM (s_again (mtOf ps s) ps.length _ s w0 y k q0 hE hq0K hn hs hNL i X W2 hi hS2 hX2)
  have HN := aM (show ∀ e, (∃ v, Rtc ((mtOf ps s).N q0) i v ∧ (mtOf ps s).N q0 v e) ↔ (mtOf ps s).N k i e from fun e => by rw [Mt.N8 hOk hk hkd, hc00, plus_iff])
  have HN2 := aM (show y.N0 ≤ W2.heap.size by omega)
  clear hn hn0 hN hN1 hk hi hs hlen hc0 hR hS hX hb1 hz1 hq1b hq2b hb2 hz2 hB hS2 hX2 l2 i2 hE hOk hop hl hq0 hq0K hw0 hkd hc00 hNL
  go_enter Try.func28, Try.ntmps28
  go_wp2_with fail
  refine HC.out.mono ?_
  intro e W6 hSg
  obtain ⟨b, out, rfl, hBo, hCm⟩ := BoS.of_sg hSg HX2.out HN2.out HV.out.2.2.2.2.1
  have hT := TR.of_bos hBo HB.out HV.out.2.2.2.2.1 (hCm.congr (fun e _ => HN.out e))
  clear hSg hBo hCm zz0
  obtain ⟨⟨r0, r1, ⟨r2, r3⟩, r4⟩, s0, s1, ⟨s2, s3⟩, s4⟩ := hT.facts HV.out.2.2.1 HV.out.2.2.2.1 HV.out.2.2.2.2.1
  have HF := aM (s_tell HX.out HV.out.2.2.2.2.2 hT.2.1 HV.out.2.2.1 HV.out.2.2.2.1 HV.out.2.2.2.2.1 hT.1 hT.2.2)
  clear hT a1 a2 a4 hd h0 h1 h2 h3 f0 f1 f2 f3 x0 x1 x2 z0 z1 z2 t0 t1 t2
  go_wp2
  go_ret
  exact HF.out
theorem s_at7 (ps : List S85) (A0 : Option Addr) (c0 : Nat) (s : ByteArray) (w0 : World) (y : Lay) (k i : Nat) (X : Nat → Prop) (W : World) (hs : s.size ≤ 1048576) (hlen : ps.length ≤ 60) (hc0 : ps.length ≤ c0) (hR : Kd.C k85 w0 A0 ps.length ps) (hk : k < ps.length) (hi : i ≤ (mtOf ps s).n) (hS : SSt (mtOf ps s) ps.length (.slice A0 ps.length c0) s w0 y X W) (hX : ∀ q, X q → q < W.heap.size) (hd : W.cell? ⟨y.D k, i, none⟩ = some (.bool false)) (hE : AtC (mtOf ps s) ps.length (.slice A0 ps.length c0) s w0 y k) (hOk : (mtOf ps s).Ok ps.length) (hop : (rd_T85 ps k).f0 = 7) (hl : 1 ≤ (rd_T85 ps k).f2.length) (q0 : Nat) (hq0 : rd (rd_T85 ps k).f2 0 = (q0 : Int)) (hq0K : q0 < k) :
    Calls Try.prog 28 #[.pointer (some ⟨y.g, 0, none⟩), .int .i64 (k : Int), .int .i64 (i : Int)] W fun e W' =>
      ∃ A c, e = .returned (.slice A ((mtOf ps s).V k i).length c) ∧ OwnV W' y.N0 (.slice A ((mtOf ps s).V k i).length c) ((mtOf ps s).V k i) ∧ NB (.slice A ((mtOf ps s).V k i).length c) X ∧ SSt (mtOf ps s) ps.length (.slice A0 ps.length c0) s w0 y X W' ∧ Ex W W' (fun b => b < y.N0) := by
  have hn : (mtOf ps s).n = s.size := rfl
  have hn0 := hS.n0
  obtain ⟨a1, a2, _, _, a4, _⟩ := hS.at hk hi
  obtain ⟨⟨h0, h1, h2, h3⟩, f0, f1, f2, f3⟩ := bC4 hS.blk
  obtain ⟨N, hN⟩ : ∃ N, (mtOf ps s).n + 1 = N := ⟨_, rfl⟩
  have hN1 : N ≤ 1048577 := by rw [← hN, hn]; exact Nat.succ_le_succ hs
  rw [hN] at a1 a2
  have g1 : decide ((k : Int) < (ps.length : Int)) = true := decide_eq_true (by omega)
  have g2 : ((k : Int) < (ps.length : Int)) = True := eq_true (by omega)
  have p1 : (0 ≤ (k : Int)) = True := eq_true (by omega)
  have g3 : decide ((i : Int) < (N : Int)) = true := decide_eq_true (by omega)
  have g4 : ((i : Int) < (N : Int)) = True := eq_true (by omega)
  have p2 : (0 ≤ (i : Int)) = True := eq_true (by omega)
  obtain ⟨ad, A2, c2, e0, x0, x1, x2, l2, i2⟩ := at_T85 hR k (by omega) (by omega)
  replace x0 := hS.inp x0
  replace x1 := hS.inp x1
  replace x2 := hS.inp x2
  subst e0
  rw [Int.toNat_natCast] at x0 x1 x2
  rw [hop] at x0
  have hu85 := Try.underlying85
  have hu30 := Try.underlying30
  obtain ⟨W1, e1, hb1, hz1, hq1b, hq2b⟩ := box4 (op := 7) (txt := (rd_T85 ps k).f1) (kv := .slice A2 (rd_T85 ps k).f2.length c2) hS.blk
  obtain ⟨W2, e2⟩ : ∃ W2, W1.alloc (.cells #[] 4) = W2 := ⟨_, rfl⟩
  have hb2 : Below W1.heap.size W1 W2 := by rw [← e2]; exact (Below.refl _ _).alloc (Nat.le_refl _) _
  have hz2 : W2.heap.size = W1.heap.size + 1 := by rw [← e2]; exact Array.size_push ..
  have hB : Below W.heap.size W W2 := hb1.trans (hb2.mono (by omega))
  have hS2 := hS.still hB
  have hX2 : ∀ q, X q → q < W2.heap.size := fun q hq => by have := hX q hq; omega
  obtain ⟨⟨z0, z1, z2⟩, t0, t1, t2⟩ := bC3 ((hb2.block W.heap.size (by omega)).trans hq2b)
  have HV := aM (show (mtOf ps s).n = s.size ∧ s.size ≤ 1048576 ∧ k < ps.length ∧ i ≤ (mtOf ps s).n ∧ (mtOf ps s).n + 1 = N ∧ y.N0 ≤ W.heap.size from ⟨hn, hs, hk, hi, hN, hn0⟩)
  have HX := aM hX; have HB := aM hB; have HX2 := aM hX2; have HS := aM hS; have HS2 := aM hS2
  obtain ⟨ad2, rfl, hw0⟩ := int_at i2 (Below.refl _ _) 0 (by omega)
  rw [Addr.add_zero'] at hw0
  have hw0 : w0.cell? ad2 = some (.int .i64 (q0 : Int)) := by rw [← hq0]; exact hw0
  have zz0 := hS2.inp hw0
  have gk0 : (0 < (rd_T85 ps k).f2.length) = True := eq_true (by omega)
  have gk0' : decide (0 < (rd_T85 ps k).f2.length) = true := decide_eq_true (by omega)
  have gk0i : ((0 : Int) < ((rd_T85 ps k).f2.length : Int)) = True := eq_true (by omega)
  have gk0i' : decide ((0 : Int) < ((rd_T85 ps k).f2.length : Int)) = true := decide_eq_true (by omega)
  have hkd : (mtOf ps s).kd k = 7 := hop
  have hc00 : (mtOf ps s).c0 k = q0 := by show (rd (rd_T85 ps k).f2 0).toNat = q0; rw [hq0, Int.toNat_natCast]
  have hNL : ∀ v e, v ≤ (mtOf ps s).n → (mtOf ps s).N q0 v e → e ≤ (mtOf ps s).n := fun v e hv h => Mt.N_le hOk q0 (by omega) v e hv h
  have HC := aM (s_again (mtOf ps s) ps.length _ s w0 y k q0 hE hq0K hn hs hNL i X W2 hi hS2 hX2)
  have HN := aM (show ∀ e, ((∃ v, Rtc ((mtOf ps s).N q0) i v ∧ (mtOf ps s).N q0 v e) ∨ e = i) ↔ (mtOf ps s).N k i e from fun e => by
    rw [Mt.N7 hOk hk hkd, hc00]
    constructor
    · rintro (⟨v, h1, h2⟩ | rfl)
      · exact h1.tail h2
      · exact .refl
    · intro h
      exact h.cases.symm)
  have HN2 := aM (show y.N0 ≤ W2.heap.size by omega)
  have HI := aM (show i < N by omega)
  clear hn hn0 hN hN1 hk hi hs hlen hc0 hR hS hX hb1 hz1 hq1b hq2b hb2 hz2 hB hS2 hX2 l2 i2 hE hOk hop hl hq0 hq0K hw0 hkd hc00 hNL
  go_enter Try.func28, Try.ntmps28
  go_wp2_with fail
  refine HC.out.mono ?_
  intro e W5 hSg
  obtain ⟨b, out, rfl, hBo, hCm⟩ := BoS.of_sg hSg HX2.out HN2.out HV.out.2.2.2.2.1
  obtain ⟨w1, w2⟩ := hBo.row.cell i HI.out
  have hCm2 := hCm.set (by rw [hBo.row.len]; exact HV.out.2.2.2.2.1.symm) i HV.out.2.2.2.1
  obtain ⟨W6, e6⟩ : ∃ W6, W5.setCell ⟨b, i, none⟩ (.bool true) = W6 := ⟨_, rfl⟩
  have hBo2 := (hBo.mark i true).1
  rw [e6] at hBo2
  have hT := TR.of_bos hBo2 HB.out HV.out.2.2.2.2.1 (hCm2.congr (fun e _ => HN.out e))
  clear hSg hBo hCm hCm2 hBo2 zz0
  obtain ⟨⟨r0, r1, ⟨r2, r3⟩, r4⟩, s0, s1, ⟨s2, s3⟩, s4⟩ := hT.facts HV.out.2.2.1 HV.out.2.2.2.1 HV.out.2.2.2.2.1
  have HF := aM (s_tell HX.out HV.out.2.2.2.2.2 hT.2.1 HV.out.2.2.1 HV.out.2.2.2.1 HV.out.2.2.2.2.1 hT.1 hT.2.2)
  clear hT a1 a2 a4 hd h0 h1 h2 h3 f0 f1 f2 f3 x0 x1 x2 z0 z1 z2 t0 t1 t2
  go_wp2
  go_ret
  exact HF.out
theorem s_at9 (ps : List S85) (A0 : Option Addr) (c0 : Nat) (s : ByteArray) (w0 : World) (y : Lay) (k i : Nat) (X : Nat → Prop) (W : World) (hs : s.size ≤ 1048576) (hlen : ps.length ≤ 60) (hc0 : ps.length ≤ c0) (hR : Kd.C k85 w0 A0 ps.length ps) (hk : k < ps.length) (hi : i ≤ (mtOf ps s).n) (hS : SSt (mtOf ps s) ps.length (.slice A0 ps.length c0) s w0 y X W) (hX : ∀ q, X q → q < W.heap.size) (hd : W.cell? ⟨y.D k, i, none⟩ = some (.bool false)) (hE : AtC (mtOf ps s) ps.length (.slice A0 ps.length c0) s w0 y k) (hOk : (mtOf ps s).Ok ps.length) (hop : (rd_T85 ps k).f0 = 9) (hl : 1 ≤ (rd_T85 ps k).f2.length) (q0 : Nat) (hq0 : rd (rd_T85 ps k).f2 0 = (q0 : Int)) (hq0K : q0 < k) :
    Calls Try.prog 28 #[.pointer (some ⟨y.g, 0, none⟩), .int .i64 (k : Int), .int .i64 (i : Int)] W fun e W' =>
      ∃ A c, e = .returned (.slice A ((mtOf ps s).V k i).length c) ∧ OwnV W' y.N0 (.slice A ((mtOf ps s).V k i).length c) ((mtOf ps s).V k i) ∧ NB (.slice A ((mtOf ps s).V k i).length c) X ∧ SSt (mtOf ps s) ps.length (.slice A0 ps.length c0) s w0 y X W' ∧ Ex W W' (fun b => b < y.N0) := by
  have hn : (mtOf ps s).n = s.size := rfl
  have hn0 := hS.n0
  obtain ⟨a1, a2, _, _, a4, _⟩ := hS.at hk hi
  obtain ⟨⟨h0, h1, h2, h3⟩, f0, f1, f2, f3⟩ := bC4 hS.blk
  obtain ⟨N, hN⟩ : ∃ N, (mtOf ps s).n + 1 = N := ⟨_, rfl⟩
  have hN1 : N ≤ 1048577 := by rw [← hN, hn]; exact Nat.succ_le_succ hs
  rw [hN] at a1 a2
  have g1 : decide ((k : Int) < (ps.length : Int)) = true := decide_eq_true (by omega)
  have g2 : ((k : Int) < (ps.length : Int)) = True := eq_true (by omega)
  have p1 : (0 ≤ (k : Int)) = True := eq_true (by omega)
  have g3 : decide ((i : Int) < (N : Int)) = true := decide_eq_true (by omega)
  have g4 : ((i : Int) < (N : Int)) = True := eq_true (by omega)
  have p2 : (0 ≤ (i : Int)) = True := eq_true (by omega)
  obtain ⟨ad, A2, c2, e0, x0, x1, x2, l2, i2⟩ := at_T85 hR k (by omega) (by omega)
  replace x0 := hS.inp x0
  replace x1 := hS.inp x1
  replace x2 := hS.inp x2
  subst e0
  rw [Int.toNat_natCast] at x0 x1 x2
  rw [hop] at x0
  have hu85 := Try.underlying85
  have hu30 := Try.underlying30
  obtain ⟨W1, e1, hb1, hz1, hq1b, hq2b⟩ := box4 (op := 9) (txt := (rd_T85 ps k).f1) (kv := .slice A2 (rd_T85 ps k).f2.length c2) hS.blk
  obtain ⟨W2, e2⟩ : ∃ W2, W1.alloc (.cells #[] 4) = W2 := ⟨_, rfl⟩
  have hb2 : Below W1.heap.size W1 W2 := by rw [← e2]; exact (Below.refl _ _).alloc (Nat.le_refl _) _
  have hz2 : W2.heap.size = W1.heap.size + 1 := by rw [← e2]; exact Array.size_push ..
  have hB : Below W.heap.size W W2 := hb1.trans (hb2.mono (by omega))
  have hS2 := hS.still hB
  have hX2 : ∀ q, X q → q < W2.heap.size := fun q hq => by have := hX q hq; omega
  obtain ⟨⟨z0, z1, z2⟩, t0, t1, t2⟩ := bC3 ((hb2.block W.heap.size (by omega)).trans hq2b)
  have HV := aM (show (mtOf ps s).n = s.size ∧ s.size ≤ 1048576 ∧ k < ps.length ∧ i ≤ (mtOf ps s).n ∧ (mtOf ps s).n + 1 = N ∧ y.N0 ≤ W.heap.size from ⟨hn, hs, hk, hi, hN, hn0⟩)
  have HX := aM hX; have HB := aM hB; have HX2 := aM hX2; have HS := aM hS; have HS2 := aM hS2
  obtain ⟨ad2, rfl, hw0⟩ := int_at i2 (Below.refl _ _) 0 (by omega)
  rw [Addr.add_zero'] at hw0
  have hw0 : w0.cell? ad2 = some (.int .i64 (q0 : Int)) := by rw [← hq0]; exact hw0
  have zz0 := hS2.inp hw0
  have gk0 : (0 < (rd_T85 ps k).f2.length) = True := eq_true (by omega)
  have gk0' : decide (0 < (rd_T85 ps k).f2.length) = true := decide_eq_true (by omega)
  have gk0i : ((0 : Int) < ((rd_T85 ps k).f2.length : Int)) = True := eq_true (by omega)
  have gk0i' : decide ((0 : Int) < ((rd_T85 ps k).f2.length : Int)) = true := decide_eq_true (by omega)
  have hkd : (mtOf ps s).kd k = 9 := hop
  have hc00 : (mtOf ps s).c0 k = q0 := by show (rd (rd_T85 ps k).f2 0).toNat = q0; rw [hq0, Int.toNat_natCast]
  have hNL : ∀ v e, v ≤ (mtOf ps s).n → (mtOf ps s).N q0 v e → e ≤ (mtOf ps s).n := fun v e hv h => Mt.N_le hOk q0 (by omega) v e hv h
  have hS3 : SSt (mtOf ps s) ps.length (.slice (some ad) ps.length c0) s w0 y (fun q => X q ∨ q = W1.heap.size) W2 := hS.step (Ex.of_below hB (fun _ => False)) (fun _ h _ => h.elim) (fun q hq => hq.imp id (fun e => by omega))
  have HC := aM (hE q0 i (fun q => X q ∨ q = W1.heap.size) W2 hq0K hi hS3 (fun q hq => by rcases hq with e | e; exact hX2 q e; omega))
  have hem : OwnV W2 W.heap.size (.slice (some ⟨W1.heap.size, 0, none⟩) 0 0) [] := by rw [← e2]; exact own_empty W1 W.heap.size (by omega)
  have HEM := aM hem
  have HN := aM (show ∀ e, ((mtOf ps s).N q0 i e ∨ e = i) ↔ (mtOf ps s).N k i e from fun e => by rw [Mt.N9 hOk hk hkd, hc00]; exact Or.comm)
  have HC0 := aM (show Cm ((mtOf ps s).V q0 i) (mtOf ps s).n ((mtOf ps s).N q0 i) from fun j hj => V_get (m := mtOf ps s) (k := q0) (i := i) j hj)
  have HLV := aM (show ((mtOf ps s).V q0 i).length = N from (V_len ..).trans hN)
  have HI := aM (show i < N ∧ N ≤ 1048577 ∧ W.heap.size ≤ W1.heap.size ∧ W.heap.size ≤ W2.heap.size ∧ Ex W W2 (fun q => q < y.N0) from ⟨by omega, hN1, by omega, by omega, Ex.of_below hB _⟩)
  clear hn hn0 hN hN1 hk hi hs hlen hc0 hR hS hX hb1 hz1 hq1b hq2b hb2 hz2 hB hS2 hX2 l2 i2 hE hOk hop hl hq0 hq0K hw0 hkd hc00 hNL hS3 hem
  go_enter Try.func28, Try.ntmps28
  go_wp2_with fail
  refine HC.out.mono ?_
  rintro e W3 ⟨A3, c3, rfl, ho3, hn3, hs3, hx3⟩
  obtain ⟨A9, c9, e9, hrd⟩ := own_reads_of (d := false) ho3
  injection e9 with e91 _ e93
  subst e91 e93
  rw [HLV.out] at ho3 hn3 hrd ⊢
  have HEM3 := aM (HEM.out.kept hx3 (fun q hq e => by injection hq with hq; have hq : W1.heap.size = q := hq; have := HI.out; have := HV.out; omega))
  have HRD := aM hrd
  have HBS := aM (show W.heap.size ≤ W3.heap.size from Nat.le_trans HI.out.2.2.2.1 hx3.size)
  have HLEN := aM (show (([] : List Bool).length + N) * 1 ≤ 140737488355328 from by have := HI.out; simp only [List.length_nil]; omega)
  have HOP := aM (show ∀ v4 W4, W4.ownsRow W.heap.size 4 1 v4 ([] ++ (mtOf ps s).V q0 i).length (encs Value.bool ([] ++ (mtOf ps s).V q0 i)) → W3.grownBy W4 (some W1.heap.size) → (v4.ownBlock = some W1.heap.size ∨ ∃ b, v4.ownBlock = some b ∧ W3.heap.size ≤ b) → ∃ b c4 W6 d r2 s2, v4 = .slice (some ⟨b, 0, none⟩) N c4 ∧ W4.setCell ⟨b, i, none⟩ (.bool true) = W6 ∧ W4.cell? ⟨b, i, none⟩ = some (.bool d) ∧ W4.frozen? ⟨b, i, none⟩ = false ∧ Aside0 (TR (mtOf ps s) ps.length (.slice (some ad) ps.length c0) s w0 y k i X W b N c4 W6) ∧
    (W6.cell? ⟨y.g, 2, none⟩ = some (.slice (some ⟨y.db, 0, none⟩) ps.length y.cd) ∧ W6.cell? ⟨y.db, k, none⟩ = some (.slice (some ⟨y.D k, 0, none⟩) N N) ∧ W6.cell? ⟨y.D k, i, none⟩ = some (.bool r2) ∧ W6.frozen? ⟨y.D k, i, none⟩ = false) ∧
    ((W6.setCell ⟨y.D k, i, none⟩ (.bool true)).cell? ⟨y.g, 3, none⟩ = some (.slice (some ⟨y.eb, 0, none⟩) ps.length y.ce) ∧ (W6.setCell ⟨y.D k, i, none⟩ (.bool true)).cell? ⟨y.eb, k, none⟩ = some (.slice (some ⟨y.E k, 0, none⟩) N N) ∧ (W6.setCell ⟨y.D k, i, none⟩ (.bool true)).cell? ⟨y.E k, i, none⟩ = some s2 ∧ (W6.setCell ⟨y.D k, i, none⟩ (.bool true)).frozen? ⟨y.E k, i, none⟩ = false) from fun v4 W4 j1 j3 j4 => by
    have ho4 : OwnV W4 W.heap.size v4 ((mtOf ps s).V q0 i) := j1
    have hform : ∃ b c4, v4 = .slice (some ⟨b, 0, none⟩) N c4 := by
      rcases ho4.2 with ⟨_, h0⟩ | ⟨b, c4, cur, hv4, _⟩
      · rw [HLV.out] at h0; have := HI.out; omega
      · exact ⟨b, c4, by rw [hv4, HLV.out]⟩
    obtain ⟨b, c4, rfl⟩ := hform
    have hb4 : b = W1.heap.size ∨ W3.heap.size ≤ b := by
      rcases j4 with h | ⟨b', h, h2⟩
      · injection h with h; exact .inl h
      · injection h with h; have h : b = b' := h; exact .inr (by omega)
    have hcm := (HC0.out.set (by rw [HLV.out]; exact HV.out.2.2.2.2.1.symm) i HV.out.2.2.2.1).congr (fun e _ => HN.out e)
    obtain ⟨hT, ⟨w1, w2⟩, w3⟩ := TR.opt HX.out HV.out.2.2.2.2.2 HLV.out hs3 HI.out.2.2.1 (HI.out.2.2.2.2.trans hx3 (fun q hq _ => hq)) ho4 j3 hb4 HV.out.2.2.2.2.1 HV.out.2.2.2.1 hcm
    obtain ⟨⟨r0, r1, ⟨r2, r3⟩, r4⟩, s0, s1, ⟨s2, s3⟩, s4⟩ := hT.facts HV.out.2.2.1 HV.out.2.2.2.1 HV.out.2.2.2.2.1
    exact ⟨b, c4, _, w1, r2, s2, rfl, rfl, w2, w3, aM hT, ⟨r0, r1, r3, r4⟩, s0, s1, s3, s4⟩)
  clear ho3 hn3 hrd hs3 hx3 zz0 a1 a2 a4 hd h0 h1 h2 h3 f0 f1 f2 f3 x0 x1 x2 z0 z1 z2 t0 t1 t2
  go_wp2_with ((with_reducible refine gate_builtin (b := .append) (xs := #[.tmp 53, .tmp 60]) rfl ?_); at_builtin; refine print_append_row_of (w0 := _) Value.bool false W.heap.size rfl (.tmp 53) (.tmp 60) 58 4 (.bool false) 1 rfl Try.underlying58 info_b rfl (by decide) (fun _ => rfl) (.slice (some ⟨W1.heap.size, 0, none⟩) 0 0) [] ((mtOf ps s).V q0 i) _ _ _ rfl rfl HEM3.out HRD.out (Below.refl _ _) HBS.out HLEN.out ?_; intro v4 W4 j1 j2 j3 j4; obtain ⟨b, c4, W6, d, r2, s2, rfl, e6, w2, w3, HT, ⟨r0, r1, r3, r4⟩, s0, s1, s3, s4⟩ := HOP.out v4 W4 j1 j3 j4; clear j1 j2 j3 j4)
  have HF := s_tell HX.out HV.out.2.2.2.2.2 HT.out.2.1 HV.out.2.2.1 HV.out.2.2.2.1 HV.out.2.2.2.2.1 HT.out.1 HT.out.2.2
  go_ret
  exact HF
theorem s_atk {ps : List S85} (h : PsOk ps) (htx : ∀ k : Nat, k < ps.length → (rd_T85 ps k).f1.size ≤ 1048576) (A0 : Option Addr) (c0 : Nat) (s : ByteArray) (w0 : World) (y : Lay) (k : Nat) (hk : k < ps.length) (hs : s.size ≤ 1048576) (hc0 : ps.length ≤ c0) (hR : Kd.C k85 w0 A0 ps.length ps)
    (hE : AtC (mtOf ps s) ps.length (.slice A0 ps.length c0) s w0 y k) (i : Nat) (X : Nat → Prop) (W : World) (hi : i ≤ (mtOf ps s).n) (hS : SSt (mtOf ps s) ps.length (.slice A0 ps.length c0) s w0 y X W) (hX : ∀ q, X q → q < W.heap.size) :
    Calls Try.prog 28 #[.pointer (some ⟨y.g, 0, none⟩), .int .i64 (k : Int), .int .i64 (i : Int)] W fun e W' =>
      ∃ A c, e = .returned (.slice A ((mtOf ps s).V k i).length c) ∧ OwnV W' y.N0 (.slice A ((mtOf ps s).V k i).length c) ((mtOf ps s).V k i) ∧ NB (.slice A ((mtOf ps s).V k i).length c) X ∧ SSt (mtOf ps s) ps.length (.slice A0 ps.length c0) s w0 y X W' ∧ Ex W W' (fun b => b < y.N0) := by
  have hOk := mt_ok h s
  obtain ⟨_, _, d, hd, _⟩ := hS.at hk hi
  cases d with
  | true => exact s_at1 _ _ _ s w0 y k i X W hk hi hS h.len hd
  | false =>
    obtain ⟨h1, h2⟩ := h.op k hk
    by_cases c1 : isOne (rd_T85 ps k).f0 = true
    · exact s_atone ps A0 c0 s w0 y k i X W hs h.len hc0 hR hk hi hS hX hd c1 (htx k hk)
    rw [isOne_iff] at c1
    by_cases c5 : (rd_T85 ps k).f0 = 5
    · obtain ⟨t1, t2, t3⟩ := h.two k hk (.inl c5)
      exact s_at5 ps A0 c0 s w0 y k i X W hs h.len hc0 hR hk hi hS hX hd hE hOk c5 t1 _ (Int.toNat_of_nonneg t2.1).symm (by omega) _ (Int.toNat_of_nonneg t3.1).symm (by omega)
    by_cases c6 : (rd_T85 ps k).f0 = 6
    · obtain ⟨t1, t2, t3⟩ := h.two k hk (.inr c6)
      exact s_at6 ps A0 c0 s w0 y k i X W hs h.len hc0 hR hk hi hS hX hd hE hOk c6 t1 _ (Int.toNat_of_nonneg t2.1).symm (by omega) _ (Int.toNat_of_nonneg t3.1).symm (by omega)
    by_cases c7 : (rd_T85 ps k).f0 = 7
    · obtain ⟨t1, t2⟩ := h.one k hk (.inl c7)
      exact s_at7 ps A0 c0 s w0 y k i X W hs h.len hc0 hR hk hi hS hX hd hE hOk c7 t1 _ (Int.toNat_of_nonneg t2.1).symm (by omega)
    by_cases c8 : (rd_T85 ps k).f0 = 8
    · obtain ⟨t1, t2⟩ := h.one k hk (.inr (.inl c8))
      exact s_at8 ps A0 c0 s w0 y k i X W hs h.len hc0 hR hk hi hS hX hd hE hOk c8 t1 _ (Int.toNat_of_nonneg t2.1).symm (by omega)
    by_cases c9 : (rd_T85 ps k).f0 = 9
    · obtain ⟨t1, t2⟩ := h.one k hk (.inr (.inr c9))
      exact s_at9 ps A0 c0 s w0 y k i X W hs h.len hc0 hR hk hi hS hX hd hE hOk c9 t1 _ (Int.toNat_of_nonneg t2.1).symm (by omega)
    by_cases c10 : (rd_T85 ps k).f0 = 10
    · exact s_at10 ps A0 c0 s w0 y k i X W hs h.len hc0 hR hk hi hS hX hd c10
    by_cases c11 : (rd_T85 ps k).f0 = 11
    · exact s_at11 ps A0 c0 s w0 y k i X W hs h.len hc0 hR hk hi hS hX hd c11
    have c12 : (rd_T85 ps k).f0 = 12 := by omega
    exact s_at12 ps A0 c0 s w0 y k i X W hs h.len hc0 hR hk hi hS hX hd c12
theorem s_all {ps : List S85} (h : PsOk ps) (htx : ∀ k : Nat, k < ps.length → (rd_T85 ps k).f1.size ≤ 1048576) (A0 : Option Addr) (c0 : Nat) (s : ByteArray) (w0 : World) (y : Lay) (hs : s.size ≤ 1048576) (hc0 : ps.length ≤ c0) (hR : Kd.C k85 w0 A0 ps.length ps) : ∀ K, K ≤ ps.length → AtC (mtOf ps s) ps.length (.slice A0 ps.length c0) s w0 y K
  | 0, _ => fun k i X W hk => absurd hk (by omega)
  | K + 1, hK => fun k i X W hk hi hS hX => by
    have hE := s_all h htx A0 c0 s w0 y hs hc0 hR K (by omega)
    by_cases c : k < K
    · exact hE k i X W c hi hS hX
    · obtain rfl : k = K := by omega
      exact s_atk h htx A0 c0 s w0 y k (by omega) hs hc0 hR hE i X W hi hS hX
def rowsOf (N : Nat) (l : List Nat) : List Value := l.map fun b => Value.slice (some ⟨b, 0, none⟩) N N
theorem rowsOf_app (N : Nat) (l : List Nat) (b : Nat) : rowsOf N l ++ [Value.slice (some ⟨b, 0, none⟩) N N] = rowsOf N (l ++ [b]) := by simp [rowsOf]
/-- The memo while it is made: dl, el are the blocks of its rows. -/
structure NwS (w0 : World) (V : Value) (s : ByteArray) (g N : Nat) (vd ve : Value) (dl el : List Nat) (W : World) : Prop where
  blk : W.heap[g]? = some (.cells #[V, .string s, vd, ve] 89 (0, 0))
  hg : w0.heap.size ≤ g
  bel : Below w0.heap.size w0 W
  od : W.ownsRow w0.heap.size 58 1 vd dl.length (rowsOf N dl)
  oe : W.ownsRow w0.heap.size 86 1 ve el.length (rowsOf N el)
  md : ∀ b ∈ dl, w0.heap.size ≤ b ∧ b ≠ g ∧ vd.ownBlock ≠ some b ∧ ve.ownBlock ≠ some b ∧ b ∉ el ∧ W.heap[b]? = some (.cells (madeCells #[Value.bool false] N) 4 (0, 0))
  me : ∀ b ∈ el, w0.heap.size ≤ b ∧ b ≠ g ∧ vd.ownBlock ≠ some b ∧ ve.ownBlock ≠ some b ∧ W.heap[b]? = some (.cells (madeCells #[Value.slice none 0 0] N) 58 (0, 0))
  nd : dl.Nodup
  ne : el.Nodup
  gd : vd.ownBlock ≠ some g
  ge : ve.ownBlock ≠ some g
  de : ∀ b, vd.ownBlock = some b → ve.ownBlock ≠ some b
theorem own_lt' {W : World} {base n e size : Nat} {v : Value} {xs : List Value} (h : W.ownsRow base e size v n xs) : ∀ k, v.ownBlock = some k → base ≤ k ∧ k < W.heap.size := by
  intro k hk
  rcases h.2 with ⟨rfl, _⟩ | ⟨g, cap, cur, rfl, hb, hh, _⟩
  · simp [Value.ownBlock] at hk
  · have : g = k := by simpa [Value.ownBlock] using hk
    subst this
    exact ⟨hb, blk_lt hh⟩
/-- Two new blocks: a row made, and a row of one that holds it. -/
structure Two (W Wl : World) (o1 : Obj) : Prop where
  bel : Below W.heap.size W Wl
  size : Wl.heap.size = W.heap.size + 2
  new : Wl.heap[W.heap.size]? = some o1
theorem Two.mk' (W : World) (o1 o2 : Obj) : Two W ((W.alloc o1).alloc o2) o1 := by
  have h1 : (W.alloc o1).heap.size = W.heap.size + 1 := Array.size_push ..
  refine ⟨((Below.refl _ _).alloc (Nat.le_refl _) _).alloc (by rw [h1]; omega) _, by rw [show ((W.alloc o1).alloc o2).heap.size = (W.alloc o1).heap.size + 1 from Array.size_push .., h1], ?_⟩
  exact (Below.heap_alloc (W.alloc o1) o2 _ (by rw [h1]; omega)).trans (heap_alloc_new W o1)
section
variable {w0 : World} {V : Value} {s : ByteArray} {g N : Nat} {vd ve : Value} {dl el : List Nat} {W : World}
theorem NwS.glt (h : NwS w0 V s g N vd ve dl el W) : g < W.heap.size := blk_lt h.blk
theorem NwS.pushD (h : NwS w0 V s g N vd ve dl el W) {Wl W2 : World} {gg cap : Nat} (ht : Two W Wl (.cells (madeCells #[Value.bool false] N) 4 (0, 0))) (hgr : Wl.grownBy W2 vd.ownBlock) (hat : vd.ownBlock = some gg ∨ gg = W.heap.size + 2)
    (ho : W2.ownsRow w0.heap.size 58 1 (.slice (some ⟨gg, 0, none⟩) (dl.length + 1) cap) (dl.length + 1) (rowsOf N dl ++ [Value.slice (some ⟨W.heap.size, 0, none⟩) N N])) :
    NwS w0 V s g N (.slice (some ⟨gg, 0, none⟩) (dl.length + 1) cap) ve (dl ++ [W.heap.size]) el (W2.setCell ⟨g, 2, none⟩ (.slice (some ⟨gg, 0, none⟩) (dl.length + 1) cap)) := by
  have hg := h.glt
  have hsz := h.bel.size
  have hvd := own_lt' h.od
  have hve := own_lt' h.oe
  have hl : (dl ++ [W.heap.size]).length = dl.length + 1 := by simp
  have hW2 : ∀ b, b < W.heap.size → vd.ownBlock ≠ some b → W2.heap[b]? = W.heap[b]? := fun b hb hn => (hgr.block b (by rw [ht.size]; omega) (fun e => hn e.symm)).trans (ht.bel.block b hb)
  have hk : ∀ b, b < W.heap.size → vd.ownBlock ≠ some b → b ≠ g → (W2.setCell ⟨g, 2, none⟩ (.slice (some ⟨gg, 0, none⟩) (dl.length + 1) cap)).heap[b]? = W.heap[b]? := fun b hb hn hne => (Below.heap_setCell _ _ _ _ hne).trans (hW2 b hb hn)
  have hnew : (W2.setCell ⟨g, 2, none⟩ (.slice (some ⟨gg, 0, none⟩) (dl.length + 1) cap)).heap[W.heap.size]? = some (.cells (madeCells #[Value.bool false] N) 4 (0, 0)) :=
    (Below.heap_setCell _ _ _ _ (by show W.heap.size ≠ g; omega)).trans ((hgr.block _ (by rw [ht.size]; omega) (fun e => by have := (hvd _ e.symm).2; omega)).trans ht.new)
  have hgg : gg ≠ g ∧ gg ≠ W.heap.size ∧ (∀ b, b < W.heap.size → vd.ownBlock ≠ some b → gg ≠ b) := by
    rcases hat with e | e
    · have := hvd gg e
      exact ⟨fun e2 => h.gd (by rw [e, e2]), by omega, fun b _ hn e2 => hn (by rw [e, e2])⟩
    · exact ⟨by omega, by omega, fun b hb _ => by omega⟩
  have hob : ∀ b, (Value.slice (some ⟨gg, 0, none⟩) (dl.length + 1) cap).ownBlock = some b → gg = b := fun b hb => by injection hb
  have hb2 : Below w0.heap.size w0 W2 := (h.bel.trans (ht.bel.mono hsz)).grown hgr (by rw [ht.size]; omega) (fun k hk => (hvd k hk).1)
  refine ⟨?_, h.hg, hb2.setCell h.hg _, ?_, ?_, fun b hb => ?_, fun b hb => ?_, ?_, h.ne, fun e => hgg.1 (hob g e), h.ge, fun b hb e => ?_⟩
  · exact blk_put ((hW2 g hg h.gd).trans h.blk) 2 _ rfl
  · rw [hl, ← rowsOf_app]
    exact own_move ho (fun k hk2 => Below.heap_setCell _ _ _ _ (fun e => hgg.1 ((hob k hk2).trans e)))
  · exact own_move h.oe (fun k hk2 => hk k (hve k hk2).2 (fun e => h.de k e hk2) (fun e => h.ge (by rw [hk2, e])))
  · rcases List.mem_append.1 hb with hb | hb
    · obtain ⟨m1, m2, m3, m4, m5, m6⟩ := h.md b hb
      have hlt := blk_lt m6
      exact ⟨m1, m2, fun e => hgg.2.2 b hlt m3 (hob b e), m4, m5, (hk b hlt m3 m2).trans m6⟩
    · obtain rfl := List.mem_singleton.1 hb
      exact ⟨hsz, by omega, fun e => hgg.2.1 (hob _ e), fun e => by have := (hve _ e).2; omega, fun hm => by have := blk_lt (h.me _ hm).2.2.2.2; omega, hnew⟩
  · obtain ⟨m1, m2, m3, m4, m6⟩ := h.me b hb
    have hlt := blk_lt m6
    exact ⟨m1, m2, fun e => hgg.2.2 b hlt m3 (hob b e), m4, (hk b hlt m3 m2).trans m6⟩
  · exact List.nodup_append.2 ⟨h.nd, by simp, fun a ha b hb e => by
      rw [List.mem_singleton.1 hb] at e
      have := blk_lt (h.md a ha).2.2.2.2.2
      omega⟩
  · have e1 := hob b hb
    subst e1
    rcases hat with e2 | e2
    · exact h.de gg e2 e
    · have := (hve gg e).2; omega
theorem NwS.pushE (h : NwS w0 V s g N vd ve dl el W) {Wl W2 : World} {gg cap : Nat} (ht : Two W Wl (.cells (madeCells #[Value.slice none 0 0] N) 58 (0, 0))) (hgr : Wl.grownBy W2 ve.ownBlock) (hat : ve.ownBlock = some gg ∨ gg = W.heap.size + 2)
    (ho : W2.ownsRow w0.heap.size 86 1 (.slice (some ⟨gg, 0, none⟩) (el.length + 1) cap) (el.length + 1) (rowsOf N el ++ [Value.slice (some ⟨W.heap.size, 0, none⟩) N N])) :
    NwS w0 V s g N vd (.slice (some ⟨gg, 0, none⟩) (el.length + 1) cap) dl (el ++ [W.heap.size]) (W2.setCell ⟨g, 3, none⟩ (.slice (some ⟨gg, 0, none⟩) (el.length + 1) cap)) := by
  have hg := h.glt
  have hsz := h.bel.size
  have hvd := own_lt' h.od
  have hve := own_lt' h.oe
  have hl : (el ++ [W.heap.size]).length = el.length + 1 := by simp
  have hW2 : ∀ b, b < W.heap.size → ve.ownBlock ≠ some b → W2.heap[b]? = W.heap[b]? := fun b hb hn => (hgr.block b (by rw [ht.size]; omega) (fun e => hn e.symm)).trans (ht.bel.block b hb)
  have hk : ∀ b, b < W.heap.size → ve.ownBlock ≠ some b → b ≠ g → (W2.setCell ⟨g, 3, none⟩ (.slice (some ⟨gg, 0, none⟩) (el.length + 1) cap)).heap[b]? = W.heap[b]? := fun b hb hn hne => (Below.heap_setCell _ _ _ _ hne).trans (hW2 b hb hn)
  have hnew : (W2.setCell ⟨g, 3, none⟩ (.slice (some ⟨gg, 0, none⟩) (el.length + 1) cap)).heap[W.heap.size]? = some (.cells (madeCells #[Value.slice none 0 0] N) 58 (0, 0)) :=
    (Below.heap_setCell _ _ _ _ (by show W.heap.size ≠ g; omega)).trans ((hgr.block _ (by rw [ht.size]; omega) (fun e => by have := (hve _ e.symm).2; omega)).trans ht.new)
  have hgg : gg ≠ g ∧ gg ≠ W.heap.size ∧ (∀ b, b < W.heap.size → ve.ownBlock ≠ some b → gg ≠ b) := by
    rcases hat with e | e
    · have := hve gg e
      exact ⟨fun e2 => h.ge (by rw [e, e2]), by omega, fun b _ hn e2 => hn (by rw [e, e2])⟩
    · exact ⟨by omega, by omega, fun b hb _ => by omega⟩
  have hob : ∀ b, (Value.slice (some ⟨gg, 0, none⟩) (el.length + 1) cap).ownBlock = some b → gg = b := fun b hb => by injection hb
  have hb2 : Below w0.heap.size w0 W2 := (h.bel.trans (ht.bel.mono hsz)).grown hgr (by rw [ht.size]; omega) (fun k hk => (hve k hk).1)
  refine ⟨?_, h.hg, hb2.setCell h.hg _, ?_, ?_, fun b hb => ?_, fun b hb => ?_, h.nd, ?_, h.gd, fun e => hgg.1 (hob g e), fun b hb e => ?_⟩
  · exact blk_put ((hW2 g hg h.ge).trans h.blk) 3 _ rfl
  · exact own_move h.od (fun k hk2 => hk k (hvd k hk2).2 (fun e => h.de k hk2 e) (fun e => h.gd (by rw [hk2, e])))
  · rw [hl, ← rowsOf_app]
    exact own_move ho (fun k hk2 => Below.heap_setCell _ _ _ _ (fun e => hgg.1 ((hob k hk2).trans e)))
  · obtain ⟨m1, m2, m3, m4, m5, m6⟩ := h.md b hb
    have hlt := blk_lt m6
    exact ⟨m1, m2, m3, fun e => hgg.2.2 b hlt m4 (hob b e), fun hm => (List.mem_append.1 hm).elim m5 (fun hm => by have := List.mem_singleton.1 hm; omega), (hk b hlt m4 m2).trans m6⟩
  · rcases List.mem_append.1 hb with hb | hb
    · obtain ⟨m1, m2, m3, m4, m6⟩ := h.me b hb
      have hlt := blk_lt m6
      exact ⟨m1, m2, m3, fun e => hgg.2.2 b hlt m4 (hob b e), (hk b hlt m4 m2).trans m6⟩
    · obtain rfl := List.mem_singleton.1 hb
      exact ⟨hsz, by omega, fun e => by have := (hvd _ e).2; omega, fun e => hgg.2.1 (hob _ e), hnew⟩
  · exact List.nodup_append.2 ⟨h.ne, by simp, fun a ha b hb e => by
      rw [List.mem_singleton.1 hb] at e
      have := blk_lt (h.me a ha).2.2.2.2
      omega⟩
  · have e1 := hob b e
    subst e1
    rcases hat with e2 | e2
    · exact h.de gg hb e2
    · have := (hvd gg hb).2; omega
end
theorem push_keep {W Wl W2 : World} {o1 : Obj} {v u : Value} {g j gg bp : Nat} (ht : Two W Wl o1) (hgr : Wl.grownBy W2 v.ownBlock) (hat : v.ownBlock = some gg ∨ gg = W.heap.size + 2) (hbp : bp < W.heap.size) (hne : bp ≠ g) (hn : v.ownBlock ≠ some bp) :
    (W2.setCell ⟨g, j, none⟩ u).heap[bp]? = W.heap[bp]? ∧ gg ≠ bp :=
  ⟨(Below.heap_setCell _ _ _ _ hne).trans ((hgr.block bp (by rw [ht.size]; omega) (fun e => hn e.symm)).trans (ht.bel.block bp hbp)), fun e => by
    rcases hat with h | h
    · exact hn (by rw [h, e])
    · omega⟩
theorem info_r : (Try.prog.info? 58).map (fun i => (i.zero, i.size, i.bytes)) = some (some (.slice none 0 0), 1, 24) := by kernel_rfl
theorem info_rr : (Try.prog.info? 86).map (fun i => (i.zero, i.size, i.bytes)) = some (some (.slice none 0 0), 1, 24) := by kernel_rfl
theorem made_get {z : Value} {N i : Nat} (h : i < N) : (madeCells #[z] N)[i]? = some z := by
  simp [madeCells, Nat.mod_one, h]
theorem NwS.sst {m : Mt} {P : Nat} {w0 : World} {V : Value} {s : ByteArray} {g N : Nat} {vd ve : Value} {dl el : List Nat} {W : World} (h : NwS w0 V s g N vd ve dl el W) (hd : dl.length = P) (he : el.length = P) (hP : 0 < P) (hN : m.n + 1 = N) :
    ∃ y : Lay, y.g = g ∧ SSt m P V s w0 y (fun _ => False) W := by
  have hvd := own_lt' h.od
  have hve := own_lt' h.oe
  have hod := h.od
  have hoe := h.oe
  rcases h.od.2 with ⟨_, h0⟩ | ⟨db, cd, _, rfl, _⟩
  · omega
  rcases h.oe.2 with ⟨_, h0⟩ | ⟨eb, ce, _, rfl, _⟩
  · omega
  have hdb := hvd db rfl
  have heb := hve eb rfl
  have hgd : ∀ k, k < P → dl.getD k 0 ∈ dl := fun k hk => by rw [List.getD_eq_getElem?_getD, List.getElem?_eq_getElem (by omega), Option.getD_some]; exact List.getElem_mem _
  have hge : ∀ k, k < P → el.getD k 0 ∈ el := fun k hk => by rw [List.getD_eq_getElem?_getD, List.getElem?_eq_getElem (by omega), Option.getD_some]; exact List.getElem_mem _
  have hin : ∀ (l : List Nat) k k', l.Nodup → k < l.length → k' < l.length → l.getD k 0 = l.getD k' 0 → k = k' := fun l k k' hn h1 h2 e => by
    rw [List.getD_eq_getElem?_getD, List.getD_eq_getElem?_getD, List.getElem?_eq_getElem h1, List.getElem?_eq_getElem h2, Option.getD_some, Option.getD_some] at e
    rcases Nat.lt_trichotomy k k' with c | c | c
    · exact absurd e (List.pairwise_iff_getElem.1 hn k k' h1 h2 c)
    · exact c
    · exact absurd e.symm (List.pairwise_iff_getElem.1 hn k' k h2 h1 c)
  have hdeb : db ≠ eb := fun e => h.de db rfl (by rw [e]; rfl)
  have hgdb : db ≠ g := fun e => h.gd (by rw [e]; rfl)
  have hgeb : eb ≠ g := fun e => h.ge (by rw [e]; rfl)
  refine ⟨⟨W.heap.size, g, db, eb, cd, ce, fun k => dl.getD k 0, fun k => el.getD k 0⟩, rfl, ⟨⟨h.hg, h.glt⟩, ⟨hdb.1, hdb.2, hgdb⟩, ⟨heb.1, heb.2, hgeb, fun e => hdeb e.symm⟩, fun k hk => ?_, fun k hk => ?_, fun k k' hk hk' e => hin dl k k' h.nd (by omega) (by omega) e, fun k k' hk hk' e => hin el k k' h.ne (by omega) (by omega) e, fun k k' hk hk' e => ?_⟩, Nat.le_refl _, ?_, h.bel, fun k hk => ?_, fun k hk => ?_, fun _ _ => false, fun k i hk hi => ?_⟩
  · obtain ⟨m1, m2, m3, m4, m5, m6⟩ := h.md _ (hgd k hk)
    exact ⟨m1, blk_lt m6, m2, fun e => m3 (congrArg some e.symm), fun e => m4 (congrArg some e.symm)⟩
  · obtain ⟨m1, m2, m3, m4, m6⟩ := h.me _ (hge k hk)
    exact ⟨m1, blk_lt m6, m2, fun e => m3 (congrArg some e.symm), fun e => m4 (congrArg some e.symm)⟩
  · exact (h.md _ (hgd k hk)).2.2.2.2.1 (by have e : dl.getD k 0 = el.getD k' 0 := e; rw [e]; exact hge k' hk')
  · have := h.blk
    rw [hd, he] at this
    exact this
  · have hx : (rowsOf N dl)[k]? = some (Value.slice (some ⟨dl.getD k 0, 0, none⟩) N N) := by
      unfold rowsOf
      rw [List.getElem?_map, List.getD_eq_getElem?_getD, List.getElem?_eq_getElem (by omega)]
      rfl
    have hc := hod.cells (g := db) rfl k _ hx
    rw [add_plain] at hc
    rw [hN]
    exact hc
  · have hx : (rowsOf N el)[k]? = some (Value.slice (some ⟨el.getD k 0, 0, none⟩) N N) := by
      unfold rowsOf
      rw [List.getElem?_map, List.getD_eq_getElem?_getD, List.getElem?_eq_getElem (by omega)]
      rfl
    have hc := hoe.cells (g := eb) rfl k _ hx
    rw [add_plain] at hc
    rw [hN]
    exact hc
  · have m6 := (h.md _ (hgd k hk)).2.2.2.2.2
    have e6 := (h.me _ (hge k hk)).2.2.2.2
    exact ⟨⟨(bC m6 i).trans (made_get (by omega)), bF m6 i⟩, _, (bC e6 i).trans (made_get (by omega)), bF e6 i, fun h => by cases h⟩
theorem Two.drew {W Wl : World} {o1 : Obj} (h : Two W Wl o1) : Two W Wl.drew o1 := ⟨lD h.bel, h.size, h.new⟩
theorem s_new (ps : List S85) (A0 : Option Addr) (c0 : Nat) (s : ByteArray) (w : World) (hlen : ps.length ≤ 60) (hs : s.size ≤ 1048576) :
    Calls Try.prog 26 #[.agg #[.slice A0 ps.length c0], .string s] w fun e w' => ∃ g vd ve dl el, e = .returned (.pointer (some ⟨g, 0, none⟩)) ∧ NwS w (.slice A0 ps.length c0) s g (s.size + 1) vd ve dl el w' ∧ dl.length = ps.length ∧ el.length = ps.length := by
  obtain ⟨N, hN⟩ : ∃ N, s.size + 1 = N := ⟨_, rfl⟩
  have hN1 : N ≤ 1048577 := by omega
  have hN2 : N * 1 ≤ 281474976710656 := by rw [Nat.mul_one]; exact Nat.le_trans hN1 (by decide)
  have hN3 : N * 24 ≤ 281474976710656 := by omega
  obtain ⟨W1, e1⟩ : ∃ W1, w.alloc (.cells #[.slice A0 ps.length c0] 30) = W1 := ⟨_, rfl⟩
  have hb1 : Below w.heap.size w W1 := by rw [← e1]; exact (Below.refl _ _).alloc (Nat.le_refl _) _
  have hz1 : W1.heap.size = w.heap.size + 1 := by rw [← e1]; exact Array.size_push ..
  have hx1 : W1.heap[w.heap.size]? = some (.cells #[.slice A0 ps.length c0] 30 (0, 0)) := by rw [← e1]; exact (MapKept.heap_alloc w _).1
  obtain ⟨W2, e2⟩ : ∃ W2, W1.alloc (.cells #[.slice A0 ps.length c0, .string s, .slice none 0 0, .slice none 0 0] 89) = W2 := ⟨_, rfl⟩
  have hb2 : Below W1.heap.size W1 W2 := by rw [← e2]; exact (Below.refl _ _).alloc (Nat.le_refl _) _
  have hx2 : W2.heap[W1.heap.size]? = some (.cells #[.slice A0 ps.length c0, .string s, .slice none 0 0, .slice none 0 0] 89 (0, 0)) := by rw [← e2]; exact (MapKept.heap_alloc W1 _).1
  have hbx : W2.heap[w.heap.size]? = some (.cells #[.slice A0 ps.length c0] 30 (0, 0)) := (hb2.block _ (by omega)).trans hx1
  have hSt : NwS w (.slice A0 ps.length c0) s W1.heap.size N (.slice none 0 0) (.slice none 0 0) [] [] W2 :=
    ⟨hx2, by omega, hb1.trans (hb2.mono (by omega)), ⟨rfl, .inl ⟨rfl, rfl⟩⟩, ⟨rfl, .inl ⟨rfl, rfl⟩⟩, fun b hb => by (cases hb), fun b hb => by (cases hb), by simp, by simp, by simp [Value.ownBlock], by simp [Value.ownBlock], fun b hb => by simp [Value.ownBlock] at hb⟩
  have HS0 := aM hSt
  have HX0 := aM hbx
  have HW1 := aM (show wrap64 ((s.size : Int) + 1) = (N : Int) ∧ IntKind.i64.wrap ((s.size : Int) + 1) = (N : Int) from ⟨by rw [← hN]; exact inc64 _ (by omega), by rw [IntWalk.i64_in _ (by omega), ← hN]; push_cast; rfl⟩)
  have HV := aM (show ps.length ≤ 60 ∧ W1.heap.size = w.heap.size + 1 ∧ N ≤ 1048577 from ⟨hlen, hz1, hN1⟩)
  have hmk1 := fun W => print_make_of (P := Try.prog) 58 4 (.bool false) 1 Try.underlying58 (by kernel_rfl) rfl (by decide) N hN2 W
  have hmk2 := fun W => print_make_of (P := Try.prog) 86 58 (.slice none 0 0) 24 Try.underlying86 info_r rfl (by decide) N hN3 W
  obtain ⟨i0, hi0, hz0, hzz1, hzz2⟩ := info_parts info_r
  obtain ⟨j0, hj0, hy0, hy1, hy2⟩ := info_parts info_rr
  have y0 : W1.cell? ⟨w.heap.size, 0, none⟩ = some (.slice A0 ps.length c0) := (bC hx1 0).trans rfl
  have q0 : W2.cell? ⟨w.heap.size, 0, none⟩ = some (.slice A0 ps.length c0) := (bC hbx 0).trans rfl
  rw [hN]
  clear hb1 hx1 hb2 hx2 hbx hSt hlen hs hN hN1 hN2 hN3 hz1
  go_enter Try.func26, Try.ntmps26
  go_wp2_with fail
  clear y0 q0
  go_loopg [6] ps.length (fun gk v6 w' => ∃ (i : Nat) (vd ve : Value) (dl el : List Nat), v6 = .int .i64 (i : Int) ∧ Aside0 (i + gk = ps.length) ∧ Aside0 (NwS w (.slice A0 ps.length c0) s W1.heap.size N vd ve dl el w') ∧ Aside0 (dl.length = i ∧ el.length = i) ∧ Aside0 (w'.heap[w.heap.size]? = some (.cells #[.slice A0 ps.length c0] 30 (0, 0)) ∧ vd.ownBlock ≠ some w.heap.size ∧ ve.ownBlock ≠ some w.heap.size))
  case atStart => exact ⟨0, _, _, [], [], rfl, aM (by omega), HS0, aM ⟨rfl, rfl⟩, aM ⟨HX0.out, by simp [Value.ownBlock], by simp [Value.ownBlock]⟩⟩
  case round =>
    clear HS0 HX0
    obtain ⟨i, vd, ve, dl, el, rfl, HI, HS, HL, HX⟩ := hrel
    have q0 : wr.cell? ⟨w.heap.size, 0, none⟩ = some (.slice A0 ps.length c0) := (bC HX.out.1 0).trans rfl
    obtain ⟨⟨v0, v1, v2, v3⟩, u0, u1, u2, u3⟩ := bC4 HS.out.blk
    by_cases c9 : i < ps.length
    · cases gk with
      | zero => have := HI.out; omega
      | succ k1 =>
        have g1 : decide ((i : Int) < (ps.length : Int)) = true := decide_eq_true (by omega)
        have g2 : ((i : Int) < (ps.length : Int)) = True := eq_true (by omega)
        have hlt : W1.heap.size < wr.heap.size := HS.out.glt
        clear c9
        have HTa := aM (Two.mk' wr (.cells (madeCells #[Value.bool false] N) 4) (.cells #[.slice (some ⟨wr.heap.size, 0, none⟩) N N] 58)).drew
        have hsza : (wr.alloc (.cells (madeCells #[Value.bool false] N) 4)).heap.size = wr.heap.size + 1 := Array.size_push ..
        have HOWNa := aM (show (((wr.alloc (.cells (madeCells #[Value.bool false] N) 4)).alloc (.cells #[.slice (some ⟨wr.heap.size, 0, none⟩) N N] 58)).drew).ownsRow w.heap.size 58 1 vd dl.length (rowsOf N dl) from own_drew ((HS.out.od.alloc _).alloc _))
        have HNEWa := aM (show ∀ j u, ([Value.slice (some ⟨wr.heap.size, 0, none⟩) N N] : List Value)[j]? = some u → (((wr.alloc (.cells (madeCells #[Value.bool false] N) 4)).alloc (.cells #[.slice (some ⟨wr.heap.size, 0, none⟩) N N] 58)).drew).cell? ((⟨wr.heap.size + 1, 0, none⟩ : Addr).add j) = some u from World.news_of_block (cs := #[.slice (some ⟨wr.heap.size, 0, none⟩) N N]) (t := 58) (fr := (0, 0)) (by rw [← hsza]; exact heap_alloc_new _ _))
        have HONEa := aM (show ∀ u ∈ ([Value.slice (some ⟨wr.heap.size, 0, none⟩) N N] : List Value), u.oneCell' = true from by simp [Value.oneCell'])
        have HMXa := aM (show dl.length + 1 ≤ maxLen ∧ (dl.length + 1) * 24 ≤ 140737488355328 from by have := HL.out; have := HI.out; have := HV.out; unfold maxLen; omega)
        have HBSa := aM (show w.heap.size ≤ (((wr.alloc (.cells (madeCells #[Value.bool false] N) 4)).alloc (.cells #[.slice (some ⟨wr.heap.size, 0, none⟩) N N] 58)).drew).heap.size from by have := HTa.out.size; have := HS.out.bel.size; omega)
        have HHa := aM (show (((wr.alloc (.cells (madeCells #[Value.bool false] N) 4)).alloc (.cells #[.slice (some ⟨wr.heap.size, 0, none⟩) N N] 58)).drew).heap.size = wr.heap.size + 2 from HTa.out.size)
        obtain ⟨hw1, hw2⟩ := HW1.out
        clear hsza
        go_wp2_with fail
        go_region_law ((refine step_append_lies _ (by rfl) _ _ _ (by rfl) w.heap.size 58 i0 _ 1 24 Try.underlying86 hi0 hz0 hzz1 hzz2 rfl (by omega) vd dl.length (rowsOf N dl) (by rfl) HOWNa.out ⟨wr.heap.size + 1, 0, none⟩ 1 1 [Value.slice (some ⟨wr.heap.size, 0, none⟩) N N] (by rfl) (by rfl) HNEWa.out HONEa.out (by omega) HMXa.out.1 HMXa.out.2 HBSa.out (wr.heap.size + 2) HHa.out ?_; intro gg cap w3 hown3 hgr3 hat3 hlt3; have HOW3 := aM hown3; have HGR3 := aM hgr3; have HAT3 := aM hat3; have hbk3 := aM ((hgr3.block W1.heap.size (by rw [HHa.out]; omega) (fun e => HS.out.gd e.symm)).trans ((HTa.out.bel.block _ hlt).trans HS.out.blk)); obtain ⟨⟨z0, z1, z2, z3⟩, t0, t1, t2, t3⟩ := bC4 hbk3.out; clear hown3 hgr3 hat3 hlt3))
        all_goals
          have hS4 := HS.out.pushD HTa.out HGR3.out HAT3.out HOW3.out
          have hK4 := push_keep (j := 2) (g := W1.heap.size) (bp := w.heap.size) (u := .slice (some ⟨gg, 0, none⟩) (dl.length + 1) cap) HTa.out HGR3.out HAT3.out (by have := HV.out; omega) (by have := HV.out; omega) HX.out.2.1
          obtain ⟨W4, e4⟩ : ∃ W4, w3.setCell ⟨W1.heap.size, 2, none⟩ (.slice (some ⟨gg, 0, none⟩) (dl.length + 1) cap) = W4 := ⟨_, rfl⟩
          rw [e4] at hS4 hK4 ⊢
          have HS4 := aM hS4
          have HX4 := aM (show W4.heap[w.heap.size]? = some (.cells #[.slice A0 ps.length c0] 30 (0, 0)) ∧ gg ≠ w.heap.size ∧ ve.ownBlock ≠ some w.heap.size from ⟨hK4.1.trans HX.out.1, hK4.2, HX.out.2.2⟩)
          clear hS4 hK4 e4 z0 z1 z2 z3 t0 t1 t2 t3 q0 v0 v1 v2 v3 u0 u1 u2 u3 hw1 hw2 hlt HOWNa HNEWa HONEa HMXa HBSa HHa HOW3 HGR3 HAT3 hbk3 HTa
          have hlt : W1.heap.size < W4.heap.size := HS4.out.glt
          obtain ⟨⟨v0, v1, v2, v3⟩, u0, u1, u2, u3⟩ := bC4 HS4.out.blk
          have q0 : W4.cell? ⟨w.heap.size, 0, none⟩ = some (.slice A0 ps.length c0) := (bC HX4.out.1 0).trans rfl
          have HTb := aM (Two.mk' W4 (.cells (madeCells #[Value.slice none 0 0] N) 58) (.cells #[.slice (some ⟨W4.heap.size, 0, none⟩) N N] 86)).drew
          have hszb : (W4.alloc (.cells (madeCells #[Value.slice none 0 0] N) 58)).heap.size = W4.heap.size + 1 := Array.size_push ..
          have HOWNb := aM (show (((W4.alloc (.cells (madeCells #[Value.slice none 0 0] N) 58)).alloc (.cells #[.slice (some ⟨W4.heap.size, 0, none⟩) N N] 86)).drew).ownsRow w.heap.size 86 1 ve el.length (rowsOf N el) from own_drew ((HS4.out.oe.alloc _).alloc _))
          have HNEWb := aM (show ∀ j u, ([Value.slice (some ⟨W4.heap.size, 0, none⟩) N N] : List Value)[j]? = some u → (((W4.alloc (.cells (madeCells #[Value.slice none 0 0] N) 58)).alloc (.cells #[.slice (some ⟨W4.heap.size, 0, none⟩) N N] 86)).drew).cell? ((⟨W4.heap.size + 1, 0, none⟩ : Addr).add j) = some u from World.news_of_block (cs := #[.slice (some ⟨W4.heap.size, 0, none⟩) N N]) (t := 86) (fr := (0, 0)) (by rw [← hszb]; exact heap_alloc_new _ _))
          have HONEb := aM (show ∀ u ∈ ([Value.slice (some ⟨W4.heap.size, 0, none⟩) N N] : List Value), u.oneCell' = true from by simp [Value.oneCell'])
          have HMXb := aM (show el.length + 1 ≤ maxLen ∧ (el.length + 1) * 24 ≤ 140737488355328 from by have := HL.out; have := HI.out; have := HV.out; unfold maxLen; omega)
          have HBSb := aM (show w.heap.size ≤ (((W4.alloc (.cells (madeCells #[Value.slice none 0 0] N) 58)).alloc (.cells #[.slice (some ⟨W4.heap.size, 0, none⟩) N N] 86)).drew).heap.size from by have := HTb.out.size; have := HS4.out.bel.size; omega)
          have HHb := aM (show (((W4.alloc (.cells (madeCells #[Value.slice none 0 0] N) 58)).alloc (.cells #[.slice (some ⟨W4.heap.size, 0, none⟩) N N] 86)).drew).heap.size = W4.heap.size + 2 from HTb.out.size)
          obtain ⟨hw1, hw2⟩ := HW1.out
          clear hszb
          go_wp2_with fail
          go_region_law ((refine step_append_lies _ (by rfl) _ _ _ (by rfl) w.heap.size 86 j0 _ 1 24 Try.underlying87 hj0 hy0 hy1 hy2 rfl (by omega) ve el.length (rowsOf N el) (by rfl) HOWNb.out ⟨W4.heap.size + 1, 0, none⟩ 1 1 [Value.slice (some ⟨W4.heap.size, 0, none⟩) N N] (by rfl) (by rfl) HNEWb.out HONEb.out (by omega) HMXb.out.1 HMXb.out.2 HBSb.out (W4.heap.size + 2) HHb.out ?_; intro gh cap2 w5 hown5 hgr5 hat5 hlt5; have HOW5 := aM hown5; have HGR5 := aM hgr5; have HAT5 := aM hat5; have hbk5 := aM ((hgr5.block W1.heap.size (by rw [HHb.out]; omega) (fun e => HS4.out.ge e.symm)).trans ((HTb.out.bel.block _ hlt).trans HS4.out.blk)); obtain ⟨⟨z0, z1, z2, z3⟩, t0, t1, t2, t3⟩ := bC4 hbk5.out; clear hown5 hgr5 hat5 hlt5))
          all_goals
            have hS6 := HS4.out.pushE HTb.out HGR5.out HAT5.out HOW5.out
            have hK6 := push_keep (j := 3) (g := W1.heap.size) (bp := w.heap.size) (u := .slice (some ⟨gh, 0, none⟩) (el.length + 1) cap2) HTb.out HGR5.out HAT5.out (by have := HV.out; omega) (by have := HV.out; omega) HX4.out.2.2
            obtain ⟨W6, e6⟩ : ∃ W6, w5.setCell ⟨W1.heap.size, 3, none⟩ (.slice (some ⟨gh, 0, none⟩) (el.length + 1) cap2) = W6 := ⟨_, rfl⟩
            rw [e6] at hS6 hK6 ⊢
            have HS6 := aM hS6
            have HX6 := aM (show W6.heap[w.heap.size]? = some (.cells #[.slice A0 ps.length c0] 30 (0, 0)) ∧ (Value.slice (some ⟨gg, 0, none⟩) (dl.length + 1) cap).ownBlock ≠ some w.heap.size ∧ (Value.slice (some ⟨gh, 0, none⟩) (el.length + 1) cap2).ownBlock ≠ some w.heap.size from ⟨hK6.1.trans HX4.out.1, fun e => HX4.out.2.1 (by injection e), fun e => hK6.2 (by injection e)⟩)
            have HIL := aM (show i ≤ 1000000000000000 by have := HI.out; have := HV.out; omega)
            clear hS6 hK6 e6 z0 z1 z2 z3 t0 t1 t2 t3 q0 v0 v1 v2 v3 u0 u1 u2 u3 hw1 hw2 hlt HOWNb HNEWb HONEb HMXb HBSb HHb HOW5 HGR5 HAT5 hbk5 HTb
            go_wp2
            go_roundg k1
            case measure => omega
            case rel => exact ⟨i + 1, _, _, _, _, by rw [inc64 i HIL.out], aM (by have := HI.out; omega), HS6, aM ⟨by rw [List.length_append, List.length_singleton, HL.out.1], by rw [List.length_append, List.length_singleton, HL.out.2]⟩, HX6⟩
    · have hi := HI.out
      have HF := aM (show ∃ g vd' ve' dl' el', Ending.returned (.pointer (some ⟨W1.heap.size, 0, none⟩)) = .returned (.pointer (some ⟨g, 0, none⟩)) ∧ NwS w (.slice A0 ps.length c0) s g N vd' ve' dl' el' wr ∧ dl'.length = ps.length ∧ el'.length = ps.length from ⟨_, vd, ve, dl, el, rfl, HS.out, by have := HL.out; omega, by have := HL.out; omega⟩)
      have g1 : decide ((i : Int) < (ps.length : Int)) = false := decide_eq_false (by omega)
      have g2 : ((i : Int) < (ps.length : Int)) = False := eq_false (by omega)
      clear hi c9
      go_wp2
      go_ret
      exact HF.out
theorem list_l0 (f : Nat → Bool) (N : Nat) (hN : N ≤ 1048577) : ∀ (r j : Nat) (acc : List Int), j + r = N → acc.length ≤ j →
    spec_l04List.l0 (r + 1) ((List.range N).map f) acc (j : Int) = some (acc ++ ints (((List.range N).drop j).filter f))
  | 0, j, acc, h, _ => by
    unfold spec_l04List.l0
    rw [if_neg (by rw [List.length_map, List.length_range]; omega), List.drop_eq_nil_of_le (by rw [List.length_range]; omega)]
    simp [ints]
  | r + 1, j, acc, h, ha => by
    have hlt : j < (List.range N).length := by rw [List.length_range]; omega
    have hd : (List.range N).drop j = j :: (List.range N).drop (j + 1) := by rw [List.drop_eq_getElem_cons hlt, List.getElem_range]
    have hrd : rdOf false ((List.range N).map f) (j : Int) = f j := by
      unfold rdOf
      rw [Int.toNat_natCast, List.getD_eq_getElem?_getD, List.getElem?_map, List.getElem?_range (by omega)]
      rfl
    show spec_l04List.l0 ((r + 1) + 1) _ _ _ = _
    unfold spec_l04List.l0
    rw [if_pos (by rw [List.length_map, List.length_range]; omega), if_pos (by omega), hrd, inc64 j (by omega), hd]
    cases hf : f j with
    | true =>
      rw [if_pos rfl, if_pos (by omega), list_l0 f N hN r (j + 1) (acc ++ [(j : Int)]) (by omega) (by rw [List.length_append, List.length_singleton]; omega), List.filter_cons_of_pos (by rw [hf])]
      simp [ints]
    | false =>
      rw [if_neg (by decide), list_l0 f N hN r (j + 1) acc (by omega) (by omega), List.filter_cons_of_neg (by rw [hf]; decide)]
open Classical in
theorem list_V (m : Mt) (k i : Nat) (hn : m.n ≤ 1048576) : spec_l04List.f (m.n + 2) (m.V k i) = some (ints (m.L k i)) := by
  unfold spec_l04List.f Mt.V Mt.L
  have := list_l0 (fun e => decide (m.N k i e)) (m.n + 1) (by omega) (m.n + 1) 0 [] (by omega) (by simp)
  rw [List.drop_zero, List.nil_append] at this
  exact this
theorem ownV_C {W : World} {base c : Nat} {A : Option Addr} {l : List Bool} (h : OwnV W base (.slice A l.length c) l) : Kd.C Kd.bool W A l.length l ∧ l.length ≤ c := by
  obtain ⟨A', c', e, hle, hr⟩ := own_reads_of_le (d := false) h
  injection e with e1 _ e3
  subst e1 e3
  exact ⟨Kd.C_of_reads (d := false) (h1 := fun _ => rfl) hr, hle⟩
theorem s_in1 (a n : Int) (h0 : 0 ≤ a) (h1 : a ≤ n) : spec_l01In.f a 0 n = some true := by
  unfold spec_l01In.f; rw [if_pos (by omega), decide_eq_true (by omega)]
/-- spec.EndsAt at a right pattern, piece and place. -/
theorem s_EndsAt {ps : List S85} (h : PsOk ps) (htx : ∀ k : Nat, k < ps.length → (rd_T85 ps k).f1.size ≤ 1048576) (A0 : Option Addr) (c0 : Nat) (s : ByteArray) (k i K : Nat) (w : World) (hk : k < ps.length) (hi : i ≤ s.size) (hs : s.size ≤ 1048576) (hc0 : ps.length ≤ c0) (hR : Kd.C k85 w A0 ps.length ps) (hP : spec_PatternOk.f K ps = some true) :
    Calls Try.prog 12 #[.agg #[.slice A0 ps.length c0], .int .i64 (k : Int), .string s, .int .i64 (i : Int)] w fun e w' => ∃ v, e = .returned v ∧ OwnI w' w.heap.size v (ints ((mtOf ps s).L k i)) ∧ Below w.heap.size w w' := by
  have hw1 := s_in1 (k : Int) ((ps.length : Int) - 1) (by omega) (by omega)
  have hw2 := s_in1 (i : Int) (s.size : Int) (by omega) (by omega)
  have HW1 := aM hw1; have HW2 := aM hw2
  have HR := aM hR; have HP := aM hP; have HC := aM hc0; have HH := aM h; have HTX := aM htx
  have HV := aM (show k < ps.length ∧ i ≤ s.size ∧ s.size ≤ 1048576 from ⟨hk, hi, hs⟩)
  have wn : wrap64 ((ps.length : Int) - 1) = (ps.length : Int) - 1 := IntWalk.wrap64_in _ (by have := h.len; omega)
  obtain ⟨W1, hW1⟩ : ∃ W1, w.alloc (.cells #[.slice A0 ps.length c0] 30) = W1 := ⟨_, rfl⟩
  have hB1 : Below w.heap.size w W1 := by rw [← hW1]; exact (Below.refl _ _).alloc (Nat.le_refl _) _
  have hx1 : W1.heap[w.heap.size]? = some (.cells #[.slice A0 ps.length c0] 30 (0, 0)) := by rw [← hW1]; exact (MapKept.heap_alloc w _).1
  have HB1 := aM hB1; have HX1 := aM hx1
  have HR1 := aM (Kd.C_below hR hB1)
  have y0 : W1.cell? ⟨w.heap.size, 0, none⟩ = some (.slice A0 ps.length c0) := (bC hx1 0).trans rfl
  clear hx1 hB1 hw1 hw2 hR hP hc0 h htx hk hi hs
  go_enter Try.func12, Try.ntmps12
  go_wp2_with fail
  refine (spec_PatternOk.calls K A0 c0 ps true _ HR1.out HC.out HP.out).mono ?_
  rintro e W2 ⟨rfl, hb2⟩
  have hy : W2.heap[w.heap.size]? = some (.cells #[.slice A0 ps.length c0] 30 (0, 0)) := (hb2.block _ (blk_lt HX1.out)).trans HX1.out
  have y1 : W2.cell? ⟨w.heap.size, 0, none⟩ = some (.slice A0 ps.length c0) := (bC hy 0).trans rfl
  have HB2 := aM hb2; have HY := aM hy
  clear hb2 hy y0
  go_wp2_with fail
  refine (spec_l01In.calls (k : Int) 0 ((ps.length : Int) - 1) true _ HW1.out).mono ?_
  rintro e w' ⟨rfl, ⟨nd, rfl⟩⟩
  go_wp2_with fail
  refine (spec_l01In.calls (i : Int) 0 (s.size : Int) true _ HW2.out).mono ?_
  rintro e w' ⟨rfl, ⟨nd2, rfl⟩⟩
  obtain ⟨W3, hW3⟩ : ∃ W3, (W2.drewN nd).drewN nd2 = W3 := ⟨_, rfl⟩
  have hB3 : Below w.heap.size w W3 := by rw [← hW3]; exact lN (lN (HB1.out.trans (HB2.out.mono HB1.out.size)) _) _
  have y2 : W3.cell? ⟨w.heap.size, 0, none⟩ = some (.slice A0 ps.length c0) := by rw [← hW3]; exact y1
  have HR3 := aM (show Kd.C k85 W3 A0 ps.length ps from Kd.C_below HR1.out (HB2.out.trans (by rw [← hW3]; exact lN (lN (Below.refl _ _) _) _)))
  have HB3 := aM hB3
  have HN := aM (s_new ps A0 c0 s W3 HH.out.len HV.out.2.2)
  clear y1 hB3
  go_wp2_with fail
  refine HN.out.mono ?_
  rintro e W4 ⟨g, vd, ve, dl, el, rfl, hS4, hdl, hel⟩
  obtain ⟨y, hyg, hSS⟩ := hS4.sst (m := mtOf ps s) hdl hel (by have := HV.out; omega) rfl
  subst hyg
  have HB4 := aM (HB3.out.trans (hS4.bel.mono HB3.out.size))
  have hcall := s_all HH.out HTX.out A0 c0 s W3 y HV.out.2.2 HC.out HR3.out ps.length (Nat.le_refl _) k i (fun _ => False) W4 HV.out.1 HV.out.2.1 hSS (fun _ h => h.elim)
  have HCALL := aM hcall
  have HLV := aM (list_V (mtOf ps s) k i HV.out.2.2)
  have HYW := aM (show y.N0 ≤ W4.heap.size ∧ W3.heap.size ≤ y.g ∧ Below W3.heap.size W3 W4 from ⟨hSS.n0, hSS.lay.g0.1, hS4.bel⟩)
  clear hS4 hdl hel hSS hcall y2
  go_wp2_with fail
  refine HCALL.out.mono ?_
  rintro e W5 ⟨A5, c5, rfl, ho5, hn5, hs5, hx5⟩
  obtain ⟨hc5, hl5⟩ := ownV_C ho5
  have HC5 := aM hc5; have HL5 := aM hl5
  have HB5 := aM (show Below w.heap.size w W5 from HB3.out.trans (hs5.bel.mono HB3.out.size))
  clear ho5 hn5 hs5 hx5 hc5 hl5
  go_wp2_with fail
  refine (spec_l04List.calls _ A5 c5 _ _ W5 HC5.out HL5.out HLV.out).mono ?_
  rintro e W6 ⟨v6, rfl, hr6, hb6⟩
  have HF := aM (show ∃ v, Ending.returned v6 = .returned v ∧ OwnI W6 w.heap.size v (ints ((mtOf ps s).L k i)) ∧ Below w.heap.size w W6 from ⟨v6, rfl, (own_of_R hr6).lower HB5.out.size, HB5.out.trans (hb6.mono HB5.out.size)⟩)
  clear hr6 hb6
  go_wp2_with fail
  go_ret
  exact HF.out
/-- spec.FindIn at a right pattern. -/
theorem s_FindIn {ps : List S85} (h : PsOk ps) (htx : ∀ k : Nat, k < ps.length → (rd_T85 ps k).f1.size ≤ 1048576) (A0 : Option Addr) (c0 : Nat) (s : ByteArray) (K : Nat) (w : World) (hne : 0 < ps.length) (hs : s.size ≤ 1048576) (hc0 : ps.length ≤ c0) (hR : Kd.C k85 w A0 ps.length ps) (hP : spec_PatternOk.f K ps = some true) :
    Calls Try.prog 8 #[.agg #[.slice A0 ps.length c0], .string s] w fun e w' => ∃ r1 r2 r3, e = .returned (.tuple #[.int .i64 r1, .int .i64 r2, .bool r3]) ∧ FindR (mtOf ps s) (ps.length - 1) r1 r2 r3 ∧ Below w.heap.size w w' := by
  have HR := aM hR; have HP := aM hP; have HC := aM hc0; have HH := aM h; have HTX := aM htx
  have HV := aM (And.intro hne hs)
  have wn : wrap64 ((ps.length : Int) - 1) = ((ps.length - 1 : Nat) : Int) := by rw [IntWalk.wrap64_in _ (by have := h.len; omega)]; omega
  have HWN := aM wn
  have hl0 : ((ps.length : Int) = 0) = False := eq_false (by omega)
  have hl0d : decide ((ps.length : Int) = 0) = false := decide_eq_false (by omega)
  have hl0n : decide (ps.length = 0) = false := decide_eq_false (by omega)
  have hl0e : ((ps.length : Int) == 0) = false := by simpa using (show ¬ ps = [] from fun e => by rw [e] at hne; simp at hne)
  obtain ⟨W1, hW1⟩ : ∃ W1, w.alloc (.cells #[.slice A0 ps.length c0] 30) = W1 := ⟨_, rfl⟩
  have hB1 : Below w.heap.size w W1 := by rw [← hW1]; exact (Below.refl _ _).alloc (Nat.le_refl _) _
  have hx1 : W1.heap[w.heap.size]? = some (.cells #[.slice A0 ps.length c0] 30 (0, 0)) := by rw [← hW1]; exact (MapKept.heap_alloc w _).1
  have HB1 := aM hB1; have HX1 := aM hx1
  have HR1 := aM (Kd.C_below hR hB1)
  have y0 : W1.cell? ⟨w.heap.size, 0, none⟩ = some (.slice A0 ps.length c0) := (bC hx1 0).trans rfl
  clear hx1 hB1 wn hR hP hc0 h hne hs htx
  go_enter Try.func8, Try.ntmps8
  go_wp2_with fail
  refine (spec_PatternOk.calls K A0 c0 ps true _ HR1.out HC.out HP.out).mono ?_
  rintro e W3 ⟨rfl, hb2⟩
  have hy : W3.heap[w.heap.size]? = some (.cells #[.slice A0 ps.length c0] 30 (0, 0)) := (hb2.block _ (blk_lt HX1.out)).trans HX1.out
  have y1 : W3.cell? ⟨w.heap.size, 0, none⟩ = some (.slice A0 ps.length c0) := (bC hy 0).trans rfl
  have HB3 := aM (HB1.out.trans (hb2.mono HB1.out.size))
  have HR3 := aM (Kd.C_below HR1.out hb2)
  have HN := aM (s_new ps A0 c0 s W3 HH.out.len HV.out.2)
  have HX3 := aM hy
  clear y0 hb2 hy
  go_wp2_with fail
  refine HN.out.mono ?_
  rintro e W4 ⟨g, vd, ve, dl, el, rfl, hS4, hdl, hel⟩
  obtain ⟨y, hyg, hSS⟩ := hS4.sst (m := mtOf ps s) hdl hel HV.out.1 rfl
  subst hyg
  have HE := aM (s_all HH.out HTX.out A0 c0 s W3 y HV.out.2 HC.out HR3.out ps.length (Nat.le_refl _))
  have HS4 := aM hSS
  clear hS4 hdl hel hSS y1
  go_wp2_with fail
  go_loopg [8] (s.size + 1) (fun gk v8 w' => ∃ (a : Nat), v8 = .int .i64 (a : Int) ∧ Aside0 (a + gk = s.size + 1) ∧ Aside0 (SSt (mtOf ps s) ps.length (.slice A0 ps.length c0) s W3 y (fun _ => False) w') ∧ Aside0 (∀ j, j < a → (mtOf ps s).L (ps.length - 1) j = []))
  case atStart => exact ⟨0, rfl, aM (by omega), HS4, aM (fun j hj => absurd hj (by omega))⟩
  case round =>
    clear HS4
    obtain ⟨a, rfl, HJ, HS, HM⟩ := hrel
    have HBEL := aM (show Below w.heap.size w wr from HB3.out.trans (HS.out.bel.mono HB3.out.size))
    by_cases c9 : a ≤ s.size
    · cases gk with
      | zero => have := HJ.out; omega
      | succ k2 =>
        have hbx := (HS.out.bel.block w.heap.size (blk_lt HX3.out)).trans HX3.out
        have z0 : wr.cell? ⟨w.heap.size, 0, none⟩ = some (.slice A0 ps.length c0) := (bC hbx 0).trans rfl
        have hcall := HE.out (ps.length - 1) a (fun _ => False) wr (by have := HV.out.1; omega) c9 HS.out (fun _ h => h.elim)
        obtain ⟨kk, hkk⟩ : ∃ kk, ps.length - 1 = kk := ⟨_, rfl⟩
        have hwn := HWN.out
        rw [hkk] at hcall hwn
        have HCALL := aM hcall
        have HKK := aM hkk
        have g1 : decide ((a : Int) ≤ (s.size : Int)) = true := decide_eq_true (by clear hwn; omega)
        have g3 : ((a : Int) ≤ (s.size : Int)) = True := eq_true (by clear hwn; omega)
        have HA := aM c9
        have HLV := aM (list_V (mtOf ps s) kk a HV.out.2)
        clear hcall hkk c9 hbx
        go_wp2_with fail
        refine HCALL.out.mono ?_
        rintro e w4 ⟨A4, c4, rfl, ho4, hn4, hs4, hx4⟩
        obtain ⟨hc4, hl4⟩ := ownV_C ho4
        have HC4 := aM hc4; have HL4 := aM hl4; have HS4 := aM hs4
        clear hwn z0 ho4 hn4 hs4 hx4 hc4 hl4
        go_wp2_with fail
        refine (spec_l04List.calls _ A4 c4 _ _ w4 HC4.out HL4.out HLV.out).mono ?_
        rintro e w5 ⟨v5, rfl, hr5, hb5⟩
        have ho5 := own_of_R hr5
        have hs5 := HS4.out.still hb5
        obtain ⟨LL, hLL⟩ : ∃ LL, (mtOf ps s).L kk a = LL := ⟨_, rfl⟩
        rw [hLL] at ho5
        obtain ⟨A5, c5, rfl, _⟩ := own_form ho5
        have hll : (ints LL).length = LL.length := ints_length _
        by_cases cl : LL = []
        · have HS5 := aM hs5
          have HM5 := aM (show ∀ j, j < a + 1 → (mtOf ps s).L (ps.length - 1) j = [] from fun j hj => by
            by_cases c : j < a
            · exact HM.out j c
            · rw [show j = a by omega, HKK.out, hLL, cl])
          have HA9 := aM (show a ≤ 1000000000000000 by have := HV.out.2; have := HA.out; omega)
          subst cl
          have hz : (ints []).length = 0 := rfl
          rw [hz]
          clear hll ho5 hs5 hLL g1 g3 hz hr5 hb5
          go_wp2
          go_roundg k2
          case measure => omega
          case rel => exact ⟨a + 1, by rw [inc64 a HA9.out], aM (by have := HJ.out; omega), HS5, HM5⟩
        · have hpos : 0 < LL.length := List.length_pos_iff.2 cl
          obtain ⟨bg, rfl, _, _, hx1, _⟩ := own_cell ho5 (LL.length - 1) (by omega)
          have hlast : (LL[LL.length - 1]'(by omega)) = LL.getLast cl := (List.getLast_eq_getElem cl).symm
          rw [hlast] at hx1
          have hF : FindR (mtOf ps s) (ps.length - 1) (a : Int) ((LL.getLast cl : Nat) : Int) true := by
            subst hLL
            rw [HKK.out]
            exact .inl ⟨a, cl, HA.out, fun j hj => by have := HM.out j hj; rw [HKK.out] at this; exact this, rfl, rfl, rfl⟩
          have HF := aM hF
          have HB5 := aM (show Below w.heap.size w w5 from HB3.out.trans (hs5.bel.mono HB3.out.size))
          obtain ⟨last, hla⟩ : ∃ last, LL.getLast cl = last := ⟨_, rfl⟩
          rw [hla] at hx1
          have HLA := aM hla
          have hlle : LL.length ≤ 10000000 := by rw [← hLL]; have := (mtOf ps s).L_len kk a; have h9 : (mtOf ps s).n = s.size := rfl; have := HV.out.2; omega
          rw [hll]
          obtain ⟨M, hM⟩ : ∃ M, LL.length = M + 1 := ⟨LL.length - 1, by omega⟩
          rw [hM] at hx1 hlle ⊢
          rw [Nat.add_sub_cancel] at hx1
          have q1 : (((M + 1 : Nat) : Int) > 0) = True := eq_true (by omega)
          have q2 : ((M : Int) < ((M : Int) + 1)) = True := eq_true (by omega)
          have q3 : decide ((M : Int) < ((M : Int) + 1)) = true := decide_eq_true (by omega)
          have q4 : (0 ≤ (M : Int)) = True := eq_true (by omega)
          have q5 : decide (M < M + 1) = true := decide_eq_true (by omega)
          have q6 : (0 < (M : Int) + 1) = True := eq_true (by omega)
          have q7 : IntKind.i64.wrap ((M : Int) + 1 - 1) = (M : Int) := by rw [IntWalk.i64_in _ (by omega)]; omega
          have q8 : IntKind.i64.wrap (M : Int) = (M : Int) := IntWalk.i64_in _ (by omega)
          clear hll ho5 hs5 hLL g1 g3 hF hla hlast hlle hpos hM hr5 hb5
          go_wp2_with fail
          go_quiet (fail)
          go_wp2
          go_ret3
          exact ⟨_, _, _, rfl, HLA.out ▸ HF.out, lN HB5.out _⟩
    · have hF : FindR (mtOf ps s) (ps.length - 1) 0 0 false := .inr ⟨fun j hj => HM.out j (by have h9 : (mtOf ps s).n = s.size := rfl; omega), rfl, rfl, rfl⟩
      have HF := aM hF
      have g1 : decide ((a : Int) ≤ (s.size : Int)) = false := decide_eq_false (by omega)
      have g3 : ((a : Int) ≤ (s.size : Int)) = False := eq_false (by omega)
      clear hF c9
      go_wp2
      go_ret3
      exact ⟨_, _, _, rfl, HF.out, HBEL.out⟩
def EaR (w : World) (l : List Nat) (e : Ending) (w' : World) : Prop := ∃ v, e = .returned v ∧ OwnI w' w.heap.size v (ints l) ∧ Below w.heap.size w w'
theorem own_emptyI (W : World) (base : Nat) (hb : base ≤ W.heap.size) : OwnI (W.alloc (.cells #[] 3)) base (.slice (some ⟨W.heap.size, 0, none⟩) 0 0) (ints []) :=
  ⟨rfl, .inr ⟨W.heap.size, 0, #[], rfl, hb, (MapKept.heap_alloc W _).1, Nat.le_refl _, by simp [maxLen], rfl, rfl⟩⟩
theorem own_emptyI' {w W : World} (h : Below w.heap.size w W) : EaR w [] (.returned (.slice (some ⟨W.heap.size, 0, none⟩) 0 0)) (W.alloc (.cells #[] 3)) := ⟨_, rfl, own_emptyI W _ h.size, h.alloc h.size _⟩
theorem own_nilI' {w W : World} (h : Below w.heap.size w W) : EaR w [] (.returned (.slice none 0 0)) W := ⟨_, rfl, own_nil W _, h⟩
theorem m_EndsAt0 (ps : List S85) (A0 : Option Addr) (c0 : Nat) (s : ByteArray) (a1 a3 : Int) (K : Nat) (w : World) (hc0 : ps.length ≤ c0) (hR : Kd.C k85 w A0 ps.length ps) (hP : impl_PatternOk.f K ps = some false) :
    Calls Try.prog 13 #[.agg #[.slice A0 ps.length c0], .int .i64 a1, .string s, .int .i64 a3] w (EaR w []) := by
  have HP := aM hP; have HC := aM hc0
  obtain ⟨W1, hW1⟩ : ∃ W1, w.alloc (.cells #[.slice A0 ps.length c0] 30) = W1 := ⟨_, rfl⟩
  have hB1 : Below w.heap.size w W1 := by rw [← hW1]; exact (Below.refl _ _).alloc (Nat.le_refl _) _
  have hx1 : W1.heap[w.heap.size]? = some (.cells #[.slice A0 ps.length c0] 30 (0, 0)) := by rw [← hW1]; exact (MapKept.heap_alloc w _).1
  have HB1 := aM hB1; have HX1 := aM hx1
  have HR1 := aM (Kd.C_below hR hB1)
  have y0 : W1.cell? ⟨w.heap.size, 0, none⟩ = some (.slice A0 ps.length c0) := (bC hx1 0).trans rfl
  clear hx1 hB1 hR hP hc0
  go_enter Try.func13, Try.ntmps13
  go_wp2_with fail
  refine (impl_PatternOk.calls K A0 c0 ps false _ HR1.out HC.out HP.out).mono ?_
  rintro e W2 ⟨rfl, hb2⟩
  have HB2 := aM (HB1.out.trans (hb2.mono HB1.out.size))
  clear hb2 y0
  have HF := aM (own_nilI' HB2.out)
  go_wp2_with fail
  go_ret
  first | exact HF.out | (have h9 := HF.out; simpa using h9)
theorem m_EndsAt1 (ps : List S85) (A0 : Option Addr) (c0 : Nat) (s : ByteArray) (a1 a3 : Int) (K : Nat) (w : World) (hc0 : ps.length ≤ c0) (hR : Kd.C k85 w A0 ps.length ps) (hP : impl_PatternOk.f K ps = some true) (hl : ps.length ≤ 60) (h1 : impl_within.f a1 0 ((ps.length : Int) - 1) = some false) :
    Calls Try.prog 13 #[.agg #[.slice A0 ps.length c0], .int .i64 a1, .string s, .int .i64 a3] w (EaR w []) := by
  have wn : wrap64 ((ps.length : Int) - 1) = (ps.length : Int) - 1 := IntWalk.wrap64_in _ (by omega)
  have HW1 := aM h1
  have HP := aM hP; have HC := aM hc0
  obtain ⟨W1, hW1⟩ : ∃ W1, w.alloc (.cells #[.slice A0 ps.length c0] 30) = W1 := ⟨_, rfl⟩
  have hB1 : Below w.heap.size w W1 := by rw [← hW1]; exact (Below.refl _ _).alloc (Nat.le_refl _) _
  have hx1 : W1.heap[w.heap.size]? = some (.cells #[.slice A0 ps.length c0] 30 (0, 0)) := by rw [← hW1]; exact (MapKept.heap_alloc w _).1
  have HB1 := aM hB1; have HX1 := aM hx1
  have HR1 := aM (Kd.C_below hR hB1)
  have y0 : W1.cell? ⟨w.heap.size, 0, none⟩ = some (.slice A0 ps.length c0) := (bC hx1 0).trans rfl
  clear hx1 hB1 hR hP hc0 hl h1
  go_enter Try.func13, Try.ntmps13
  go_wp2_with fail
  refine (impl_PatternOk.calls K A0 c0 ps true _ HR1.out HC.out HP.out).mono ?_
  rintro e W2 ⟨rfl, hb2⟩
  have HB2 := aM (HB1.out.trans (hb2.mono HB1.out.size))
  have hy : W2.heap[w.heap.size]? = some (.cells #[.slice A0 ps.length c0] 30 (0, 0)) := (hb2.block _ (blk_lt HX1.out)).trans HX1.out
  have y1 : W2.cell? ⟨w.heap.size, 0, none⟩ = some (.slice A0 ps.length c0) := (bC hy 0).trans rfl
  clear hb2 hy y0
  go_wp2_with fail
  refine (impl_within.calls a1 0 ((ps.length : Int) - 1) false _ HW1.out).mono ?_
  rintro e w' ⟨rfl, ⟨nd, rfl⟩⟩
  have HF := aM (own_nilI' (lN HB2.out nd))
  go_wp2_with fail
  go_ret
  first | exact HF.out | (have h9 := HF.out; simpa using h9)
theorem m_EndsAt2 (ps : List S85) (A0 : Option Addr) (c0 : Nat) (s : ByteArray) (a1 a3 : Int) (K : Nat) (w : World) (hc0 : ps.length ≤ c0) (hR : Kd.C k85 w A0 ps.length ps) (hP : impl_PatternOk.f K ps = some true) (hl : ps.length ≤ 60) (h1 : impl_within.f a1 0 ((ps.length : Int) - 1) = some true) (h2 : impl_within.f a3 0 (s.size : Int) = some false) :
    Calls Try.prog 13 #[.agg #[.slice A0 ps.length c0], .int .i64 a1, .string s, .int .i64 a3] w (EaR w []) := by
  have wn : wrap64 ((ps.length : Int) - 1) = (ps.length : Int) - 1 := IntWalk.wrap64_in _ (by omega)
  have HW1 := aM h1
  have HW2 := aM h2
  have HP := aM hP; have HC := aM hc0
  obtain ⟨W1, hW1⟩ : ∃ W1, w.alloc (.cells #[.slice A0 ps.length c0] 30) = W1 := ⟨_, rfl⟩
  have hB1 : Below w.heap.size w W1 := by rw [← hW1]; exact (Below.refl _ _).alloc (Nat.le_refl _) _
  have hx1 : W1.heap[w.heap.size]? = some (.cells #[.slice A0 ps.length c0] 30 (0, 0)) := by rw [← hW1]; exact (MapKept.heap_alloc w _).1
  have HB1 := aM hB1; have HX1 := aM hx1
  have HR1 := aM (Kd.C_below hR hB1)
  have y0 : W1.cell? ⟨w.heap.size, 0, none⟩ = some (.slice A0 ps.length c0) := (bC hx1 0).trans rfl
  clear hx1 hB1 hR hP hc0 hl h1 h2
  go_enter Try.func13, Try.ntmps13
  go_wp2_with fail
  refine (impl_PatternOk.calls K A0 c0 ps true _ HR1.out HC.out HP.out).mono ?_
  rintro e W2 ⟨rfl, hb2⟩
  have HB2 := aM (HB1.out.trans (hb2.mono HB1.out.size))
  have hy : W2.heap[w.heap.size]? = some (.cells #[.slice A0 ps.length c0] 30 (0, 0)) := (hb2.block _ (blk_lt HX1.out)).trans HX1.out
  have y1 : W2.cell? ⟨w.heap.size, 0, none⟩ = some (.slice A0 ps.length c0) := (bC hy 0).trans rfl
  clear hb2 hy y0
  go_wp2_with fail
  refine (impl_within.calls a1 0 ((ps.length : Int) - 1) true _ HW1.out).mono ?_
  rintro e w' ⟨rfl, ⟨nd, rfl⟩⟩
  go_wp2_with fail
  refine (impl_within.calls a3 0 (s.size : Int) false _ HW2.out).mono ?_
  rintro e w' ⟨rfl, ⟨nd2, rfl⟩⟩
  have HF := aM (own_nilI' (lN (lN HB2.out nd) nd2))
  go_wp2_with fail
  go_ret
  first | exact HF.out | (have h9 := HF.out; simpa using h9)
theorem m_FindIn0 (ps : List S85) (A0 : Option Addr) (c0 : Nat) (s : ByteArray) (K : Nat) (w : World) (hc0 : ps.length ≤ c0) (hR : Kd.C k85 w A0 ps.length ps) (hP : impl_PatternOk.f K ps = some false) :
    Calls Try.prog 10 #[.agg #[.slice A0 ps.length c0], .string s] w fun e w' => e = .returned (.tuple #[.int .i64 0, .int .i64 0, .bool false]) ∧ Below w.heap.size w w' := by
  have HP := aM hP; have HC := aM hc0
  obtain ⟨W1, hW1⟩ : ∃ W1, w.alloc (.cells #[.slice A0 ps.length c0] 30) = W1 := ⟨_, rfl⟩
  have hB1 : Below w.heap.size w W1 := by rw [← hW1]; exact (Below.refl _ _).alloc (Nat.le_refl _) _
  have hx1 : W1.heap[w.heap.size]? = some (.cells #[.slice A0 ps.length c0] 30 (0, 0)) := by rw [← hW1]; exact (MapKept.heap_alloc w _).1
  have HB1 := aM hB1; have HX1 := aM hx1
  have HR1 := aM (Kd.C_below hR hB1)
  have y0 : W1.cell? ⟨w.heap.size, 0, none⟩ = some (.slice A0 ps.length c0) := (bC hx1 0).trans rfl
  clear hx1 hB1 hR hP hc0
  go_enter Try.func10, Try.ntmps10
  go_wp2_with fail
  refine (impl_PatternOk.calls K A0 c0 ps false _ HR1.out HC.out HP.out).mono ?_
  rintro e W2 ⟨rfl, hb2⟩
  have HB2 := aM (HB1.out.trans (hb2.mono HB1.out.size))
  clear hb2 y0
  go_wp2_with fail
  go_ret3
  exact ⟨rfl, HB2.out⟩
theorem s_EndsAt0 (ps : List S85) (A0 : Option Addr) (c0 : Nat) (s : ByteArray) (a1 a3 : Int) (K : Nat) (w : World) (hc0 : ps.length ≤ c0) (hR : Kd.C k85 w A0 ps.length ps) (hP : spec_PatternOk.f K ps = some false) :
    Calls Try.prog 12 #[.agg #[.slice A0 ps.length c0], .int .i64 a1, .string s, .int .i64 a3] w (EaR w []) := by
  have HP := aM hP; have HC := aM hc0
  obtain ⟨W1, hW1⟩ : ∃ W1, w.alloc (.cells #[.slice A0 ps.length c0] 30) = W1 := ⟨_, rfl⟩
  have hB1 : Below w.heap.size w W1 := by rw [← hW1]; exact (Below.refl _ _).alloc (Nat.le_refl _) _
  have hx1 : W1.heap[w.heap.size]? = some (.cells #[.slice A0 ps.length c0] 30 (0, 0)) := by rw [← hW1]; exact (MapKept.heap_alloc w _).1
  have HB1 := aM hB1; have HX1 := aM hx1
  have HR1 := aM (Kd.C_below hR hB1)
  have y0 : W1.cell? ⟨w.heap.size, 0, none⟩ = some (.slice A0 ps.length c0) := (bC hx1 0).trans rfl
  clear hx1 hB1 hR hP hc0
  go_enter Try.func12, Try.ntmps12
  go_wp2_with fail
  refine (spec_PatternOk.calls K A0 c0 ps false _ HR1.out HC.out HP.out).mono ?_
  rintro e W2 ⟨rfl, hb2⟩
  have HB2 := aM (HB1.out.trans (hb2.mono HB1.out.size))
  clear hb2 y0
  have HF := aM (own_emptyI' HB2.out)
  go_wp2_with fail
  go_ret
  first | exact HF.out | (have h9 := HF.out; simpa using h9)
theorem s_EndsAt1 (ps : List S85) (A0 : Option Addr) (c0 : Nat) (s : ByteArray) (a1 a3 : Int) (K : Nat) (w : World) (hc0 : ps.length ≤ c0) (hR : Kd.C k85 w A0 ps.length ps) (hP : spec_PatternOk.f K ps = some true) (hl : ps.length ≤ 60) (h1 : spec_l01In.f a1 0 ((ps.length : Int) - 1) = some false) :
    Calls Try.prog 12 #[.agg #[.slice A0 ps.length c0], .int .i64 a1, .string s, .int .i64 a3] w (EaR w []) := by
  have wn : wrap64 ((ps.length : Int) - 1) = (ps.length : Int) - 1 := IntWalk.wrap64_in _ (by omega)
  have HW1 := aM h1
  have HP := aM hP; have HC := aM hc0
  obtain ⟨W1, hW1⟩ : ∃ W1, w.alloc (.cells #[.slice A0 ps.length c0] 30) = W1 := ⟨_, rfl⟩
  have hB1 : Below w.heap.size w W1 := by rw [← hW1]; exact (Below.refl _ _).alloc (Nat.le_refl _) _
  have hx1 : W1.heap[w.heap.size]? = some (.cells #[.slice A0 ps.length c0] 30 (0, 0)) := by rw [← hW1]; exact (MapKept.heap_alloc w _).1
  have HB1 := aM hB1; have HX1 := aM hx1
  have HR1 := aM (Kd.C_below hR hB1)
  have y0 : W1.cell? ⟨w.heap.size, 0, none⟩ = some (.slice A0 ps.length c0) := (bC hx1 0).trans rfl
  clear hx1 hB1 hR hP hc0 hl h1
  go_enter Try.func12, Try.ntmps12
  go_wp2_with fail
  refine (spec_PatternOk.calls K A0 c0 ps true _ HR1.out HC.out HP.out).mono ?_
  rintro e W2 ⟨rfl, hb2⟩
  have HB2 := aM (HB1.out.trans (hb2.mono HB1.out.size))
  have hy : W2.heap[w.heap.size]? = some (.cells #[.slice A0 ps.length c0] 30 (0, 0)) := (hb2.block _ (blk_lt HX1.out)).trans HX1.out
  have y1 : W2.cell? ⟨w.heap.size, 0, none⟩ = some (.slice A0 ps.length c0) := (bC hy 0).trans rfl
  clear hb2 hy y0
  go_wp2_with fail
  refine (spec_l01In.calls a1 0 ((ps.length : Int) - 1) false _ HW1.out).mono ?_
  rintro e w' ⟨rfl, ⟨nd, rfl⟩⟩
  have HF := aM (own_emptyI' (lN HB2.out nd))
  go_wp2_with fail
  go_ret
  first | exact HF.out | (have h9 := HF.out; simpa using h9)
theorem s_EndsAt2 (ps : List S85) (A0 : Option Addr) (c0 : Nat) (s : ByteArray) (a1 a3 : Int) (K : Nat) (w : World) (hc0 : ps.length ≤ c0) (hR : Kd.C k85 w A0 ps.length ps) (hP : spec_PatternOk.f K ps = some true) (hl : ps.length ≤ 60) (h1 : spec_l01In.f a1 0 ((ps.length : Int) - 1) = some true) (h2 : spec_l01In.f a3 0 (s.size : Int) = some false) :
    Calls Try.prog 12 #[.agg #[.slice A0 ps.length c0], .int .i64 a1, .string s, .int .i64 a3] w (EaR w []) := by
  have wn : wrap64 ((ps.length : Int) - 1) = (ps.length : Int) - 1 := IntWalk.wrap64_in _ (by omega)
  have HW1 := aM h1
  have HW2 := aM h2
  have HP := aM hP; have HC := aM hc0
  obtain ⟨W1, hW1⟩ : ∃ W1, w.alloc (.cells #[.slice A0 ps.length c0] 30) = W1 := ⟨_, rfl⟩
  have hB1 : Below w.heap.size w W1 := by rw [← hW1]; exact (Below.refl _ _).alloc (Nat.le_refl _) _
  have hx1 : W1.heap[w.heap.size]? = some (.cells #[.slice A0 ps.length c0] 30 (0, 0)) := by rw [← hW1]; exact (MapKept.heap_alloc w _).1
  have HB1 := aM hB1; have HX1 := aM hx1
  have HR1 := aM (Kd.C_below hR hB1)
  have y0 : W1.cell? ⟨w.heap.size, 0, none⟩ = some (.slice A0 ps.length c0) := (bC hx1 0).trans rfl
  clear hx1 hB1 hR hP hc0 hl h1 h2
  go_enter Try.func12, Try.ntmps12
  go_wp2_with fail
  refine (spec_PatternOk.calls K A0 c0 ps true _ HR1.out HC.out HP.out).mono ?_
  rintro e W2 ⟨rfl, hb2⟩
  have HB2 := aM (HB1.out.trans (hb2.mono HB1.out.size))
  have hy : W2.heap[w.heap.size]? = some (.cells #[.slice A0 ps.length c0] 30 (0, 0)) := (hb2.block _ (blk_lt HX1.out)).trans HX1.out
  have y1 : W2.cell? ⟨w.heap.size, 0, none⟩ = some (.slice A0 ps.length c0) := (bC hy 0).trans rfl
  clear hb2 hy y0
  go_wp2_with fail
  refine (spec_l01In.calls a1 0 ((ps.length : Int) - 1) true _ HW1.out).mono ?_
  rintro e w' ⟨rfl, ⟨nd, rfl⟩⟩
  go_wp2_with fail
  refine (spec_l01In.calls a3 0 (s.size : Int) false _ HW2.out).mono ?_
  rintro e w' ⟨rfl, ⟨nd2, rfl⟩⟩
  have HF := aM (own_emptyI' (lN (lN HB2.out nd) nd2))
  go_wp2_with fail
  go_ret
  first | exact HF.out | (have h9 := HF.out; simpa using h9)
theorem s_FindIn0 (ps : List S85) (A0 : Option Addr) (c0 : Nat) (s : ByteArray) (K : Nat) (w : World) (hc0 : ps.length ≤ c0) (hR : Kd.C k85 w A0 ps.length ps) (hP : spec_PatternOk.f K ps = some false) :
    Calls Try.prog 8 #[.agg #[.slice A0 ps.length c0], .string s] w fun e w' => e = .returned (.tuple #[.int .i64 0, .int .i64 0, .bool false]) ∧ Below w.heap.size w w' := by
  have HP := aM hP; have HC := aM hc0
  obtain ⟨W1, hW1⟩ : ∃ W1, w.alloc (.cells #[.slice A0 ps.length c0] 30) = W1 := ⟨_, rfl⟩
  have hB1 : Below w.heap.size w W1 := by rw [← hW1]; exact (Below.refl _ _).alloc (Nat.le_refl _) _
  have hx1 : W1.heap[w.heap.size]? = some (.cells #[.slice A0 ps.length c0] 30 (0, 0)) := by rw [← hW1]; exact (MapKept.heap_alloc w _).1
  have HB1 := aM hB1; have HX1 := aM hx1
  have HR1 := aM (Kd.C_below hR hB1)
  have y0 : W1.cell? ⟨w.heap.size, 0, none⟩ = some (.slice A0 ps.length c0) := (bC hx1 0).trans rfl
  clear hx1 hB1 hR hP hc0
  go_enter Try.func8, Try.ntmps8
  go_wp2_with fail
  refine (spec_PatternOk.calls K A0 c0 ps false _ HR1.out HC.out HP.out).mono ?_
  rintro e W2 ⟨rfl, hb2⟩
  have HB2 := aM (HB1.out.trans (hb2.mono HB1.out.size))
  clear hb2 y0
  go_wp2_with fail
  go_ret3
  exact ⟨rfl, HB2.out⟩
/-- What is known of a pattern: both sides' tests tell b, and what it means where it is true. -/
def PatF (k : Nat) (ps : List S85) (b : Bool) : Prop := impl_PatternOk.f k ps = some b ∧ spec_PatternOk.f k ps = some b ∧ (b = true → PsOk ps ∧ 0 < ps.length ∧ ∀ k : Nat, k < ps.length → (rd_T85 ps k).f1.size ≤ 1048576)
def FnR (ps : List S85) (s : ByteArray) (b : Bool) (r1 r2 : Int) (r3 : Bool) : Prop := if b = true then FindR (mtOf ps s) (ps.length - 1) r1 r2 r3 else r1 = 0 ∧ r2 = 0 ∧ r3 = false
theorem FnR.det {ps : List S85} {s : ByteArray} {b : Bool} {r1 r2 q1 q2 : Int} {r3 q3 : Bool} (h : FnR ps s b r1 r2 r3) (h2 : FnR ps s b q1 q2 q3) : r1 = q1 ∧ r2 = q2 ∧ r3 = q3 := by
  cases b with
  | true => exact FindR.det (h : FindR _ _ _ _ _) (h2 : FindR _ _ _ _ _)
  | false =>
    obtain ⟨rfl, rfl, rfl⟩ : r1 = 0 ∧ r2 = 0 ∧ r3 = false := h
    obtain ⟨rfl, rfl, rfl⟩ : q1 = 0 ∧ q2 = 0 ∧ q3 = false := h2
    exact ⟨rfl, rfl, rfl⟩
theorem i_find {k : Nat} {ps : List S85} {b : Bool} (h : PatF k ps b) (s : ByteArray) (hs : s.size ≤ 1048576) (A0 : Option Addr) (c0 : Nat) (w : World) (hc0 : ps.length ≤ c0) (hR : Kd.C k85 w A0 ps.length ps) :
    Calls Try.prog 10 #[.agg #[.slice A0 ps.length c0], .string s] w fun e w' => ∃ r1 r2 r3, e = .returned (.tuple #[.int .i64 r1, .int .i64 r2, .bool r3]) ∧ FnR ps s b r1 r2 r3 ∧ Below w.heap.size w w' := by
  cases b with
  | true =>
    obtain ⟨h1, h2, h3⟩ := h.2.2 rfl
    exact m_FindIn ps h1 A0 c0 s k w h2 hs hc0 hR h.1
  | false =>
    refine (m_FindIn0 ps A0 c0 s k w hc0 hR h.1).mono ?_
    rintro e w' ⟨rfl, hb⟩
    exact ⟨0, 0, false, rfl, ⟨rfl, rfl, rfl⟩, hb⟩
theorem s_find {k : Nat} {ps : List S85} {b : Bool} (h : PatF k ps b) (s : ByteArray) (hs : s.size ≤ 1048576) (A0 : Option Addr) (c0 : Nat) (w : World) (hc0 : ps.length ≤ c0) (hR : Kd.C k85 w A0 ps.length ps) :
    Calls Try.prog 8 #[.agg #[.slice A0 ps.length c0], .string s] w fun e w' => ∃ r1 r2 r3, e = .returned (.tuple #[.int .i64 r1, .int .i64 r2, .bool r3]) ∧ FnR ps s b r1 r2 r3 ∧ Below w.heap.size w w' := by
  cases b with
  | true =>
    obtain ⟨h1, h2, h3⟩ := h.2.2 rfl
    exact s_FindIn h1 h3 A0 c0 s k w h2 hs hc0 hR h.2.1
  | false =>
    refine (s_FindIn0 ps A0 c0 s k w hc0 hR h.2.1).mono ?_
    rintro e w' ⟨rfl, hb⟩
    exact ⟨0, 0, false, rfl, ⟨rfl, rfl, rfl⟩, hb⟩
theorem find_walk (k : Nat) (A0 : Option Addr) (c0 : Nat) (l0 : List S84) (s : ByteArray) (ps : List S85) (b : Bool) (r : Int) (w : World) (hr0 : Kd.C k84 w A0 l0.length l0) (hc0 : l0.length ≤ c0) (hs : s.size ≤ 1048576) (hz : laws_szPattern.f k l0 1048576 = some r) (hr : 0 ≤ r) (ht : laws_toPattern.f k l0 = some ps) (hP : PatF k ps b) (he : laws_eqPattern.f k ps ps = some true) :
    Calls Try.prog 3 #[.agg #[.slice A0 l0.length c0], .string s] w fun e w' => e = .returned (.bool true) ∧ Below w.heap.size w w' := by
  obtain ⟨W1, hW1⟩ : ∃ W1, w.alloc (.cells #[.slice A0 l0.length c0] 24) = W1 := ⟨_, rfl⟩
  have hB1 : Below w.heap.size w W1 := by rw [← hW1]; exact (Below.refl _ _).alloc (Nat.le_refl _) _
  have hx1 : W1.heap[w.heap.size]? = some (.cells #[.slice A0 l0.length c0] 24 (0, 0)) := by rw [← hW1]; exact (MapKept.heap_alloc w _).1
  have HS := aM hs; have HZ := aM hz; have HT := aM ht; have HP := aM hP; have HE := aM he; have HC := aM hc0
  have B1 := aM hB1; have X1 := aM hx1; have R1 := aM (Kd.C_below hr0 hB1)
  have y0 : W1.cell? ⟨w.heap.size, 0, none⟩ = some (.slice A0 l0.length c0) := (bC hx1 0).trans rfl
  have h20 : decide ((1048576 : Int) < (s.size : Int)) = false := decide_eq_false (by omega)
  have h21 : ¬ ((1048576 : Int) < (s.size : Int)) := by omega
  have h22 : decide (1048576 < s.size) = false := decide_eq_false (by omega)
  have h30 : ¬ (r < 0) := by omega
  clear hB1 hx1 hr0 hc0 hs hz ht hP he hr
  go_enter Try.func3, Try.ntmps3
  go_wp2_with fail
  refine (laws_szPattern.calls k A0 c0 l0 1048576 r _ R1.out HC.out HZ.out).mono ?_
  rintro e W2 ⟨rfl, hb⟩
  have B2 := aM (B1.out.trans (hb.mono B1.out.size)); have X2 := aM (bB X1.out hb); have R2 := aM (Kd.C_below R1.out hb)
  have y2 : W2.cell? ⟨w.heap.size, 0, none⟩ = some (.slice A0 l0.length c0) := (bC X2.out 0).trans rfl
  clear hb y0 B1 X1 R1
  go_wp2_with fail
  refine (laws_toPattern.calls k A0 c0 l0 ps _ R2.out HC.out HT.out).mono ?_
  rintro e W3 ⟨v3, rfl, hS3, hb⟩
  obtain ⟨A3, c3, rfl⟩ := Kd.S_slice hS3
  obtain ⟨_, l3, C3⟩ := Kd.S_reads' hS3
  have B3 := aM (B2.out.trans (hb.mono B2.out.size)); have X3 := aM (bB X2.out hb); have R3 := aM (Kd.C_below R2.out hb)
  have L3 := aM l3; have C3 := aM C3
  clear hb hS3 l3 y2 B2 X2 R2
  go_wp2_with fail
  refine (s_find HP.out s HS.out A3 c3 W3 L3.out C3.out).mono ?_
  rintro e W4 ⟨r1, r2, r3, rfl, hF4, hb⟩
  have B4 := aM (B3.out.trans (hb.mono B3.out.size)); have X4 := aM (bB X3.out hb); have R4 := aM (Kd.C_below R3.out hb)
  have F4 := aM hF4
  have y4 : W4.cell? ⟨w.heap.size, 0, none⟩ = some (.slice A0 l0.length c0) := (bC X4.out 0).trans rfl
  clear hb hF4 B3 X3 R3 L3 C3
  go_wp2_with fail
  refine (laws_toPattern.calls k A0 c0 l0 ps _ R4.out HC.out HT.out).mono ?_
  rintro e W5 ⟨v5, rfl, hS5, hb⟩
  obtain ⟨A5, c5, rfl⟩ := Kd.S_slice hS5
  obtain ⟨_, l5, C5⟩ := Kd.S_reads' hS5
  obtain ⟨W6, hW6⟩ : ∃ W6, W5.alloc (.cells #[.slice A5 ps.length c5] 30) = W6 := ⟨_, rfl⟩
  have hB6 : Below W5.heap.size W5 W6 := by rw [← hW6]; exact (Below.refl _ _).alloc (Nat.le_refl _) _
  have B5 := aM (B4.out.trans (hb.mono B4.out.size))
  have B6 := aM (B5.out.trans (hB6.mono B5.out.size)); have X6 := aM (bB (bB X4.out hb) hB6); have R6 := aM (Kd.C_below (Kd.C_below R4.out hb) hB6)
  have L6 := aM l5; have C6 := aM (Kd.C_below C5 hB6)
  have G6 := aM (show W6.heap[W5.heap.size]? = some (.cells #[.slice A5 ps.length c5] 30 (0, 0)) from by rw [← hW6]; exact (MapKept.heap_alloc W5 _).1)
  have y6 : W6.cell? ⟨W5.heap.size, 0, none⟩ = some (.slice A5 ps.length c5) := (bC G6.out 0).trans rfl
  clear hb hS5 l5 C5 y4 hB6 B4 X4 R4 B5
  go_wp2_with fail
  refine (i_find HP.out s HS.out A5 c5 W6 L6.out C6.out).mono ?_
  rintro e W7 ⟨q1, q2, q3, rfl, hF7, hb⟩
  obtain ⟨rfl, rfl, rfl⟩ := F4.out.det hF7
  have B7 := aM (B6.out.trans (hb.mono B6.out.size)); have X7 := aM (bB X6.out hb); have R7 := aM (Kd.C_below R6.out hb)
  have C7 := aM (Kd.C_below C6.out hb); have G7 := aM (bB G6.out hb)
  have y7 : W7.cell? ⟨W5.heap.size, 0, none⟩ = some (.slice A5 ps.length c5) := (bC G7.out 0).trans rfl
  have z7 : W7.cell? ⟨w.heap.size, 0, none⟩ = some (.slice A0 l0.length c0) := (bC X7.out 0).trans rfl
  clear hb hF7 y6 B6 X6 R6 C6 G6 F4
  go_wp2_with fail
  go_region_held3 (fun w' => w'.cell? ⟨W5.heap.size, 0, none⟩ = some (.slice A5 ps.length c5) ∧ w'.cell? ⟨w.heap.size, 0, none⟩ = some (.slice A0 l0.length c0))
    (first | exact ⟨y7, z7⟩ | exact ⟨(hb8.cell (World.block_lt_of_cell? W7 _ y7)).trans y7, (hb8.cell (World.block_lt_of_cell? W7 _ z7)).trans z7⟩ | exact ⟨(hb9.cell (Nat.lt_of_lt_of_le (World.block_lt_of_cell? W7 _ y7) hb8.size)).trans ((hb8.cell (World.block_lt_of_cell? W7 _ y7)).trans y7), (hb9.cell (Nat.lt_of_lt_of_le (World.block_lt_of_cell? W7 _ z7) hb8.size)).trans ((hb8.cell (World.block_lt_of_cell? W7 _ z7)).trans z7)⟩)
    (first | (go_at_call 9; refine (laws_toPattern.calls k A0 c0 l0 ps _ (cD R7.out) HC.out HT.out).mono ?_; rintro e W8 ⟨v8, rfl, hS8, hb8⟩; obtain ⟨A8, c8, rfl⟩ := Kd.S_slice hS8; obtain ⟨_, l8, C8⟩ := Kd.S_reads' hS8) | (go_at_call 11; refine (laws_eqPattern.calls k A5 c5 ps A8 c8 ps true W8 (Kd.C_below (cD C7.out) hb8) L6.out C8 l8 HE.out).mono ?_; rintro e W9 ⟨rfl, hb9⟩))
  have B9 := aM (show Below w.heap.size w W9 from (lD B7.out).trans ((hb8.trans (hb9.mono hb8.size)).mono (show w.heap.size ≤ W7.drew.heap.size from B7.out.size)))
  clear hS8 l8 C8 hb8 hb9
  go_wp2
  go_ret
  exact ⟨rfl, B9.out⟩
end Go.Proofs.Ytnjomkadjcjcnaa.QFnExactFindIn
