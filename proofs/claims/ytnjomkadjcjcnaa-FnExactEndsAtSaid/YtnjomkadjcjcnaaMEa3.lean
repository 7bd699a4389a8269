/- EndsAt and FindIn of the program at a right pattern; the reference's state, one, both. Conditions: none beyond those that each theorem names. -/
import Derived.Test.YtnjomkadjcjcnaaQFnExactEndsAtx0
import Derived.Test.YtnjomkadjcjcnaaQFnExactEndsAtx1
import Derived.Test.YtnjomkadjcjcnaaQFnExactEndsAtx2
import Derived.Test.YtnjomkadjcjcnaaQFnExactEndsAtx3
import Derived.Test.YtnjomkadjcjcnaaQFnExactEndsAtx4
import Derived.Test.YtnjomkadjcjcnaaQFnExactEndsAtx5
import Derived.Test.YtnjomkadjcjcnaaQFnExactEndsAtx6
import Derived.Test.YtnjomkadjcjcnaaShelfIdx
import Derived.Test.YtnjomkadjcjcnaaShelfSort
import Derived.Lib.Hide
import Derived.Sort.OwnSortedInts
import Derived.Lib.RowBridge
import Derived.Maps.OwnSet
import Derived.Maps.Views
import Derived.Deep.QuietTactic
import Derived.BigQuiet
import Derived.StillTailTactics
import Derived.IntWalk
import Derived.Lib.IndexAny
import Derived.Deep.RegionHeld3
import Derived.Deep.RegionLaw
import Derived.Deep.AppendLies
import Derived.RegionTactic
import Derived.Shelf.Spec.SlicesGrow
import Derived.Lib.AppendZerosOnto
import Derived.Test.YtnjomkadjcjcnaaMEa1
import Derived.Test.YtnjomkadjcjcnaaMEa2
set_option linter.unusedVariables false
set_option linter.unusedSimpArgs false
set_option maxHeartbeats 4000000
set_option maxRecDepth 100000
namespace Go.Proofs.Ytnjomkadjcjcnaa.QFnExactEndsAt
open Go.RowKit Go.Proofs.YtnjomkadjcjcnaaW.PrintWords Go.Proofs.YtnjomkadjcjcnaaW.PrintLast Go.Proofs.YtnjomkadjcjcnaaW.PrintMore
attribute [local go_sem] max2_int min2_int max_two min_two max_three min_three max_four min_four   -- for this text's walks alone
open Bool renaming true → bT, false → bf
open Go.Proofs.YtnjomkadjcjcnaaW.PrintWords.Kd renaming R_alloc → rA, R_drewN → rN, R_drew → rD, C_alloc → cA, C_drewN → cN, C_drew → cD, R_far → rF, R_below → rB, R_lower → rL, R_lt → rT, R_base → rS, C_below → cB, R_types → rY, R_elder' → rE, R_reads' → rR, R_new' → rW
open Go.Proofs.YtnjomkadjcjcnaaW.PrintWords renaming blk_drewN → bN, blk_drew → bD, blk_alloc → bA, below_set → lS, pw_below_drewN → lN, below_drew1 → lD, below_alloc → lA, blk_cell → bC, blk_below → bB, below_size → lZ, below_step → lP, blk_lt → bL, blk_frozen → bF
open Go.Proofs.YtnjomkadjcjcnaaW.PrintWords.Aside0 renaming mk → aM
theorem s_both6 (ps : List S85) (P : Nat) (V : Value) (s : ByteArray) (w0 : World) (y : Lay) (K k i : Nat) (X : Nat → Prop) (W : World) (txt : ByteArray) (A2 : Option Addr) (c2 : Nat) (hE : AtC (mtOf ps s) P V s w0 y K) (hOk : (mtOf ps s).Ok P) (hkP : k < P) (hKP : K ≤ P) (hop : (rd_T85 ps k).f0 = 6) (hs : s.size ≤ 1048576) (hi : i ≤ s.size) (hS : SSt (mtOf ps s) P V s w0 y X W) (hX : ∀ b, X b → b < W.heap.size) (kids : List Int) (hkids : (rd_T85 ps k).f2 = kids) (hl2 : 2 ≤ kids.length) (hl3 : kids.length ≤ c2) (hC : (Kd.int .i64).C w0 A2 kids.length kids) (q0 : Nat) (hq0 : rd kids 0 = (q0 : Int)) (hq0K : q0 < K) (q1 : Nat) (hq1 : rd kids 1 = (q1 : Int)) (hq1K : q1 < K) :
    Calls Try.prog 45 #[.pointer (some ⟨y.g, 0, none⟩), .agg #[.int .i64 6, .string txt, .slice A2 kids.length c2], .int .i64 (i : Int)] W (BoR (mtOf ps s) P V s w0 y k i X W) := by
  have hn : (mtOf ps s).n = s.size := rfl
  have hkd : (mtOf ps s).kd k = 6 := hop
  have hc0 : (mtOf ps s).c0 k = q0 := by show (rd (rd_T85 ps k).f2 0).toNat = q0; rw [hkids, hq0, Int.toNat_natCast]
  have hc1 : (mtOf ps s).c1 k = q1 := by show (rd (rd_T85 ps k).f2 1).toNat = q1; rw [hkids, hq1, Int.toNat_natCast]
  obtain ⟨ad, rfl, hz0⟩ := int_at hC (Below.refl _ _) 0 (by omega)
  rw [Addr.add_zero'] at hz0
  have hz0 : w0.cell? ad = some (.int .i64 (q0 : Int)) := by rw [← hq0]; exact hz0
  obtain ⟨ad', e', hz1⟩ := int_at hC (Below.refl _ _) 1 (by omega)
  injection e' with e'
  subst e'
  rw [add_one'] at hz1
  have hz1 : w0.cell? ⟨ad.block, ad.off + 1, none⟩ = some (.int .i64 (q1 : Int)) := by rw [← hq1]; exact hz1
  obtain ⟨N2, hN2⟩ : ∃ N2, kids.length = N2 := ⟨_, rfl⟩
  rw [hN2] at hl2 hl3 hC ⊢
  have gk0 : (0 < N2) = True := eq_true (by omega)
  have gk0' : decide (0 < N2) = true := decide_eq_true (by omega)
  have gk0i : ((0 : Int) < (N2 : Int)) = True := eq_true (by omega)
  have gk0i' : decide ((0 : Int) < (N2 : Int)) = true := decide_eq_true (by omega)
  have gk1 : (1 < N2) = True := eq_true (by omega)
  have gk1' : decide (1 < N2) = true := decide_eq_true (by omega)
  have gk1i : ((1 : Int) < (N2 : Int)) = True := eq_true (by omega)
  have gk1i' : decide ((1 : Int) < (N2 : Int)) = true := decide_eq_true (by omega)
  obtain ⟨N, hN⟩ : ∃ N, (mtOf ps s).n + 1 = N := ⟨_, rfl⟩
  have hN1 : N ≤ 1048577 := by rw [← hN, hn]; exact Nat.succ_le_succ hs
  have hN2' : N * 1 ≤ 281474976710656 := by rw [Nat.mul_one]; exact Nat.le_trans hN1 (by decide)
  obtain ⟨W1, e1, hbel, hsz, hb1, hb2⟩ := box4 (op := 6) (txt := txt) (kv := .slice (some ad) N2 c2) hS.blk
  obtain ⟨⟨h0, h1, h2, h3⟩, f0, f1, f2, f3⟩ := bC4 hb1
  obtain ⟨⟨x0, x1, x2⟩, y0, y1, y2⟩ := bC3 hb2
  obtain ⟨W2, e2, hB2, hz2, hO2⟩ := made4 W1 N hN1
  have hmk := print_make_of (P := Try.prog) 58 4 (.bool false) 1 Try.underlying58 (by kernel_rfl) rfl (by decide) N hN2' W1
  rw [e2] at hmk
  have hX1 : ∀ q, X q → q < W1.heap.size := fun q hq => by have := hX q hq; omega
  have hBo : BoS (mtOf ps s) P V s w0 y X W1 W1.heap.size N (List.replicate N false) W2 := BoS.start (hS.still hbel) hX1 hB2 hO2
  have HBX := aM (show ∀ (b : Nat) (come : List Bool) (w' : World), BoS (mtOf ps s) P V s w0 y X W1 b N come w' → w'.heap[W.heap.size]? = some (.cells #[.int .i64 6, .string txt, .slice (some ad) N2 c2] 85 (0, 0)) from fun b come w' h => (h.block W.heap.size (by omega) (by have := hS.n0; omega)).trans hb2)
  have HW1 := aM (show wrap64 ((s.size : Int) + 1) = (N : Int) from by rw [← hN, hn]; exact inc64 _ (by omega))
  have HZ0 := aM hz0
  have HV := aM (show i ≤ (mtOf ps s).n ∧ N ≤ 1048577 ∧ (mtOf ps s).n + 1 = N from ⟨hi, hN1, hN⟩)
  have HE := aM hE
  have HQ0 := aM hq0K
  have HBEL := aM hbel
  have HV0 := aM (fun j (hj : j ≤ (mtOf ps s).n) => V_get (m := mtOf ps s) (k := q0) (i := i) j hj)
  have HZ1 := aM hz1
  have HQ1 := aM hq1K
  have HN := aM (show ∀ e, (mtOf ps s).N k i e ↔ (mtOf ps s).N q0 i e ∨ (mtOf ps s).N q1 i e from fun e => by rw [Mt.N6 hOk hkP hkd, hc0, hc1])
  have HV1 := aM (fun j (hj : j ≤ (mtOf ps s).n) => V_get (m := mtOf ps s) (k := q1) (i := i) j hj)
  have hcall := HE.out q0 i _ W2 HQ0.out hi hBo.st hBo.lt
  have HCALL := aM hcall
  have HBO := aM hBo
  obtain ⟨⟨v0, v1, v2, v3⟩, u0, u1, u2, u3⟩ := bC4 hBo.st.blk
  obtain ⟨⟨z0, z1, z2⟩, t0, t1, t2⟩ := bC3 (HBX.out _ _ _ hBo)
  have zz0 := hBo.st.inp HZ0.out
  have hlv : ((mtOf ps s).V q0 i).length = N := (V_len ..).trans hN
  have HLV := aM hlv
  have HLV1 := aM (show ((mtOf ps s).V q1 i).length = N from (V_len ..).trans hN)
  have hw1 := HW1.out
  clear hE hOk hkP hKP hop hs hi hS hX hl2 hl3 hC hq0 hq0K hkids hn hkd hc0 hz0 hN2 hbel hsz hb1 hb2 hN hN1 hN2' hB2 hz2 hO2 hX1 hz1 hq1 hq1K hc1 hcall hBo hlv
  go_enter Try.func45, Try.ntmps45
  go_wp2_with fail
  refine HCALL.out.mono ?_
  rintro e W3 ⟨A3, c3, rfl, ho3, hn3, hs3, hx3⟩
  rw [HLV.out] at ho3 hn3 ⊢
  have HBO3 := aM (HBO.out.call hs3 hx3)
  have HO3 := aM ho3
  have HN3 := aM (show NB (.slice A3 N c3) (fun q => q = W1.heap.size) from fun b hb e => hn3 b hb (.inr e))
  clear ho3 hn3 hs3 hx3 HCALL HBO v0 v1 v2 v3 u0 u1 u2 u3 z0 z1 z2 t0 t1 t2 zz0 h0 h1 h2 h3 f0 f1 f2 f3 x0 x1 x2 y0 y1 y2 hmk hw1
  go_wp2_with fail
  go_loopg [9] N (fun gk v9 w' => ∃ (ja : Nat) (come : List Bool), v9 = .int .i64 (ja : Int) ∧ Aside0 (ja + gk = N) ∧ Aside0 (BoS (mtOf ps s) P V s w0 y X W1 W1.heap.size N come w') ∧ Aside0 (Cm come (mtOf ps s).n (fun e => e < ja ∧ (mtOf ps s).N q0 i e)) ∧ Aside0 (OwnV w' y.N0 (.slice A3 N c3) ((mtOf ps s).V q0 i)) ∧ Aside0 (NB (.slice A3 N c3) (fun q => q = W1.heap.size)))
  case atStart => exact ⟨0, _, rfl, aM (by omega), HBO3, aM ((Cm.none _ N HV.out.2.2).congr (fun e he => by simp)), HO3, HN3⟩
  case round =>
    clear HBO3 HO3 HN3
    obtain ⟨ja, come, rfl, HJa, HBa, HCa, HOa, HNNa⟩ := hrel
    obtain ⟨⟨v0, v1, v2, v3⟩, u0, u1, u2, u3⟩ := bC4 HBa.out.st.blk
    obtain ⟨⟨z0, z1, z2⟩, t0, t1, t2⟩ := bC3 (HBX.out _ _ _ HBa.out)
    by_cases c9 : ja < N
    · cases gk with
      | zero => have := HJa.out; omega
      | succ ka =>
        obtain ⟨bg, rfl, hb1, hb2, hx1, hx2⟩ := ownV_cell HOa.out HLV.out ja c9
        have hjle : ja ≤ (mtOf ps s).n := by have := HV.out; omega
        obtain ⟨hr1, hr2⟩ := HBa.out.row.cell ja c9
        obtain ⟨cb, hcb⟩ : ∃ cb, come.getD ja false = cb := ⟨_, rfl⟩
        obtain ⟨vb, hvb⟩ : ∃ vb, ((mtOf ps s).V q0 i).getD ja false = vb := ⟨_, rfl⟩
        rw [hcb] at hr1
        rw [hvb] at hx1
        have hm := HBa.out.mark ja (cb || vb)
        have hC2 : Cm (come.set ja (cb || vb)) (mtOf ps s).n (fun e => e < ja + 1 ∧ (mtOf ps s).N q0 i e) := by
          have h5 := HCa.out.or (v := vb) (R := (mtOf ps s).N q0 i ja) (by rw [HBa.out.row.len]; exact HV.out.2.2.symm) hjle (by rw [← hvb]; exact HV0.out ja hjle)
          rw [hcb] at h5
          exact h5.congr (fun e he => by
            show ((e < ja ∧ (mtOf ps s).N q0 i e) ∨ (e = ja ∧ (mtOf ps s).N q0 i ja)) ↔ (e < ja + 1 ∧ (mtOf ps s).N q0 i e)
            constructor
            · rintro (⟨h1, h2⟩ | ⟨rfl, h2⟩)
              · exact ⟨by omega, h2⟩
              · exact ⟨by omega, h2⟩
            · rintro ⟨h1, h2⟩
              by_cases c : e = ja
              · exact .inr ⟨c, c ▸ h2⟩
              · exact .inl ⟨by omega, h2⟩)
        have g1 : decide ((ja : Int) < (N : Int)) = true := decide_eq_true (by omega)
        have g2 : ((ja : Int) < (N : Int)) = True := eq_true (by omega)
        have p1 : (0 ≤ (ja : Int)) = True := eq_true (by omega)
        have HJL := aM (show ja ≤ 1000000000000000 by have := HV.out; omega)
        cases cb with
        | true =>
          rw [Bool.true_or] at hm hC2
          have hO2 := HOa.out.kept hm.2 (fun b hb e => HNNa.out b hb e)
          have HB2 := aM hm.1
          have HC2 := aM hC2
          have HO2 := aM hO2
          clear hm hC2 hO2 hvb hcb c9 hb1 hb2 hjle
          go_wp2
          go_roundg ka
          case measure => omega
          case rel => exact ⟨ja + 1, _, by rw [inc64 ja HJL.out], aM (by have := HJa.out; omega), HB2, HC2, HO2, HNNa⟩
        | false =>
          rw [Bool.false_or] at hm hC2
          have hO2 := HOa.out.kept hm.2 (fun b hb e => HNNa.out b hb e)
          have HB2 := aM hm.1
          have HC2 := aM hC2
          have HO2 := aM hO2
          clear hm hC2 hO2 hvb hcb c9 hb1 hb2 hjle
          go_wp2
          go_roundg ka
          case measure => omega
          case rel => exact ⟨ja + 1, _, by rw [inc64 ja HJL.out], aM (by have := HJa.out; omega), HB2, HC2, HO2, HNNa⟩
    · have hjN : ja = N := by have := HJa.out; omega
      have g1 : decide ((ja : Int) < (N : Int)) = false := decide_eq_false (by omega)
      have g2 : ((ja : Int) < (N : Int)) = False := eq_false (by omega)
      have hcall := HE.out q1 i _ wr HQ1.out HV.out.1 HBa.out.st HBa.out.lt
      have HCALL := aM hcall
      have hCa : Cm come (mtOf ps s).n (fun e => (mtOf ps s).N q0 i e ∨ (e < 0 ∧ (mtOf ps s).N q1 i e)) := HCa.out.congr (fun e he => by
        show (e < ja ∧ (mtOf ps s).N q0 i e) ↔ _
        have := HV.out
        rw [hjN]
        exact ⟨fun h => .inl h.2, fun h => h.elim (fun h => ⟨by omega, h⟩) (fun h => absurd h.1 (by omega))⟩)
      have HCa2 := aM hCa
      have zz1 := HBa.out.st.inp HZ1.out
      clear hcall hCa hjN c9 HCa HJa
      go_wp2_with fail
      refine HCALL.out.mono ?_
      rintro e W4 ⟨A4, c4, rfl, ho4, hn4, hs4, hx4⟩
      rw [HLV1.out] at ho4 hn4 ⊢
      have HBO4 := aM (HBa.out.call hs4 hx4)
      have HO4 := aM ho4
      have HN4 := aM (show NB (.slice A4 N c4) (fun q => q = W1.heap.size) from fun b hb e => hn4 b hb (.inr e))
      clear ho4 hn4 hs4 hx4 HCALL HBa HOa HNNa v0 v1 v2 v3 u0 u1 u2 u3 z0 z1 z2 t0 t1 t2 zz1 g1 g2
      go_wp2_with fail
      go_loopg [13] N (fun gk v9 w' => ∃ (jb : Nat) (come : List Bool), v9 = .int .i64 (jb : Int) ∧ Aside0 (jb + gk = N) ∧ Aside0 (BoS (mtOf ps s) P V s w0 y X W1 W1.heap.size N come w') ∧ Aside0 (Cm come (mtOf ps s).n (fun e => ((mtOf ps s).N q0 i e) ∨ (e < jb ∧ (mtOf ps s).N q1 i e))) ∧ Aside0 (OwnV w' y.N0 (.slice A4 N c4) ((mtOf ps s).V q1 i)) ∧ Aside0 (NB (.slice A4 N c4) (fun q => q = W1.heap.size)))
      case atStart => exact ⟨0, come, rfl, aM (by omega), HBO4, HCa2, HO4, HN4⟩
      case round =>
        clear HBO4 HCa2 HO4 HN4
        obtain ⟨jb, come, rfl, HJb, HBb, HCb, HOb, HNNb⟩ := hrel
        obtain ⟨⟨v0, v1, v2, v3⟩, u0, u1, u2, u3⟩ := bC4 HBb.out.st.blk
        obtain ⟨⟨z0, z1, z2⟩, t0, t1, t2⟩ := bC3 (HBX.out _ _ _ HBb.out)
        by_cases c9 : jb < N
        · cases gk with
          | zero => have := HJb.out; omega
          | succ kb =>
            obtain ⟨bg, rfl, hb1, hb2, hx1, hx2⟩ := ownV_cell HOb.out HLV1.out jb c9
            have hjle : jb ≤ (mtOf ps s).n := by have := HV.out; omega
            obtain ⟨hr1, hr2⟩ := HBb.out.row.cell jb c9
            obtain ⟨cb, hcb⟩ : ∃ cb, come.getD jb false = cb := ⟨_, rfl⟩
            obtain ⟨vb, hvb⟩ : ∃ vb, ((mtOf ps s).V q1 i).getD jb false = vb := ⟨_, rfl⟩
            rw [hcb] at hr1
            rw [hvb] at hx1
            have hm := HBb.out.mark jb (cb || vb)
            have hC2 : Cm (come.set jb (cb || vb)) (mtOf ps s).n (fun e => ((mtOf ps s).N q0 i e) ∨ (e < jb + 1 ∧ (mtOf ps s).N q1 i e)) := by
              have h5 := HCb.out.or (v := vb) (R := (mtOf ps s).N q1 i jb) (by rw [HBb.out.row.len]; exact HV.out.2.2.symm) hjle (by rw [← hvb]; exact HV1.out jb hjle)
              rw [hcb] at h5
              exact h5.congr (fun e he => by
                show ((((mtOf ps s).N q0 i e) ∨ (e < jb ∧ (mtOf ps s).N q1 i e)) ∨ (e = jb ∧ (mtOf ps s).N q1 i jb)) ↔ (((mtOf ps s).N q0 i e) ∨ (e < jb + 1 ∧ (mtOf ps s).N q1 i e))
                constructor
                · rintro ((h1 | ⟨h1, h2⟩) | ⟨rfl, h2⟩)
                  · exact .inl h1
                  · exact .inr ⟨by omega, h2⟩
                  · exact .inr ⟨by omega, h2⟩
                · rintro (h1 | ⟨h1, h2⟩)
                  · exact .inl (.inl h1)
                  · by_cases c : e = jb
                    · exact .inr ⟨c, c ▸ h2⟩
                    · exact .inl (.inr ⟨by omega, h2⟩))
            have g1 : decide ((jb : Int) < (N : Int)) = true := decide_eq_true (by omega)
            have g2 : ((jb : Int) < (N : Int)) = True := eq_true (by omega)
            have p1 : (0 ≤ (jb : Int)) = True := eq_true (by omega)
            have HJL := aM (show jb ≤ 1000000000000000 by have := HV.out; omega)
            cases cb with
            | true =>
              rw [Bool.true_or] at hm hC2
              have hO2 := HOb.out.kept hm.2 (fun b hb e => HNNb.out b hb e)
              have HB2 := aM hm.1
              have HC2 := aM hC2
              have HO2 := aM hO2
              clear hm hC2 hO2 hvb hcb c9 hb1 hb2 hjle
              go_wp2
              go_roundg kb
              case measure => omega
              case rel => exact ⟨jb + 1, _, by rw [inc64 jb HJL.out], aM (by have := HJb.out; omega), HB2, HC2, HO2, HNNb⟩
            | false =>
              rw [Bool.false_or] at hm hC2
              have hO2 := HOb.out.kept hm.2 (fun b hb e => HNNb.out b hb e)
              have HB2 := aM hm.1
              have HC2 := aM hC2
              have HO2 := aM hO2
              clear hm hC2 hO2 hvb hcb c9 hb1 hb2 hjle
              go_wp2
              go_roundg kb
              case measure => omega
              case rel => exact ⟨jb + 1, _, by rw [inc64 jb HJL.out], aM (by have := HJb.out; omega), HB2, HC2, HO2, HNNb⟩
        · have hjN : jb = N := by have := HJb.out; omega
          have g1 : decide ((jb : Int) < (N : Int)) = false := decide_eq_false (by omega)
          have g2 : ((jb : Int) < (N : Int)) = False := eq_false (by omega)
          have hF := HBb.out.fin HBEL.out HV.out.2.2 (HCb.out.congr (fun e he => by
            show (((mtOf ps s).N q0 i e) ∨ (e < jb ∧ (mtOf ps s).N q1 i e)) ↔ (mtOf ps s).N k i e
            rw [HN.out e, hjN]
            have := HV.out
            exact ⟨fun h => h.imp id (fun h => h.2), fun h => h.imp id (fun h => ⟨by omega, h⟩)⟩))
          have HF := aM hF
          clear hF hjN c9
          go_wp2
          go_ret
          exact HF.out
theorem s_both5 (ps : List S85) (P : Nat) (V : Value) (s : ByteArray) (w0 : World) (y : Lay) (K k i : Nat) (X : Nat → Prop) (W : World) (txt : ByteArray) (A2 : Option Addr) (c2 : Nat) (hE : AtC (mtOf ps s) P V s w0 y K) (hOk : (mtOf ps s).Ok P) (hkP : k < P) (hKP : K ≤ P) (hop : (rd_T85 ps k).f0 = 5) (hs : s.size ≤ 1048576) (hi : i ≤ s.size) (hS : SSt (mtOf ps s) P V s w0 y X W) (hX : ∀ b, X b → b < W.heap.size) (kids : List Int) (hkids : (rd_T85 ps k).f2 = kids) (hl2 : 2 ≤ kids.length) (hl3 : kids.length ≤ c2) (hC : (Kd.int .i64).C w0 A2 kids.length kids) (q0 : Nat) (hq0 : rd kids 0 = (q0 : Int)) (hq0K : q0 < K) (q1 : Nat) (hq1 : rd kids 1 = (q1 : Int)) (hq1K : q1 < K) :
    Calls Try.prog 45 #[.pointer (some ⟨y.g, 0, none⟩), .agg #[.int .i64 5, .string txt, .slice A2 kids.length c2], .int .i64 (i : Int)] W (BoR (mtOf ps s) P V s w0 y k i X W) := by
  have hn : (mtOf ps s).n = s.size := rfl
  have hkd : (mtOf ps s).kd k = 5 := hop
  have hc0 : (mtOf ps s).c0 k = q0 := by show (rd (rd_T85 ps k).f2 0).toNat = q0; rw [hkids, hq0, Int.toNat_natCast]
  have hc1 : (mtOf ps s).c1 k = q1 := by show (rd (rd_T85 ps k).f2 1).toNat = q1; rw [hkids, hq1, Int.toNat_natCast]
  obtain ⟨ad, rfl, hz0⟩ := int_at hC (Below.refl _ _) 0 (by omega)
  rw [Addr.add_zero'] at hz0
  have hz0 : w0.cell? ad = some (.int .i64 (q0 : Int)) := by rw [← hq0]; exact hz0
  obtain ⟨ad', e', hz1⟩ := int_at hC (Below.refl _ _) 1 (by omega)
  injection e' with e'
  subst e'
  rw [add_one'] at hz1
  have hz1 : w0.cell? ⟨ad.block, ad.off + 1, none⟩ = some (.int .i64 (q1 : Int)) := by rw [← hq1]; exact hz1
  obtain ⟨N2, hN2⟩ : ∃ N2, kids.length = N2 := ⟨_, rfl⟩
  rw [hN2] at hl2 hl3 hC ⊢
  have gk0 : (0 < N2) = True := eq_true (by omega)
  have gk0' : decide (0 < N2) = true := decide_eq_true (by omega)
  have gk0i : ((0 : Int) < (N2 : Int)) = True := eq_true (by omega)
  have gk0i' : decide ((0 : Int) < (N2 : Int)) = true := decide_eq_true (by omega)
  have gk1 : (1 < N2) = True := eq_true (by omega)
  have gk1' : decide (1 < N2) = true := decide_eq_true (by omega)
  have gk1i : ((1 : Int) < (N2 : Int)) = True := eq_true (by omega)
  have gk1i' : decide ((1 : Int) < (N2 : Int)) = true := decide_eq_true (by omega)
  obtain ⟨N, hN⟩ : ∃ N, (mtOf ps s).n + 1 = N := ⟨_, rfl⟩
  have hN1 : N ≤ 1048577 := by rw [← hN, hn]; exact Nat.succ_le_succ hs
  have hN2' : N * 1 ≤ 281474976710656 := by rw [Nat.mul_one]; exact Nat.le_trans hN1 (by decide)
  obtain ⟨W1, e1, hbel, hsz, hb1, hb2⟩ := box4 (op := 5) (txt := txt) (kv := .slice (some ad) N2 c2) hS.blk
  obtain ⟨⟨h0, h1, h2, h3⟩, f0, f1, f2, f3⟩ := bC4 hb1
  obtain ⟨⟨x0, x1, x2⟩, y0, y1, y2⟩ := bC3 hb2
  obtain ⟨W2, e2, hB2, hz2, hO2⟩ := made4 W1 N hN1
  have hmk := print_make_of (P := Try.prog) 58 4 (.bool false) 1 Try.underlying58 (by kernel_rfl) rfl (by decide) N hN2' W1
  rw [e2] at hmk
  have hX1 : ∀ q, X q → q < W1.heap.size := fun q hq => by have := hX q hq; omega
  have hBo : BoS (mtOf ps s) P V s w0 y X W1 W1.heap.size N (List.replicate N false) W2 := BoS.start (hS.still hbel) hX1 hB2 hO2
  have HBX := aM (show ∀ (b : Nat) (come : List Bool) (w' : World), BoS (mtOf ps s) P V s w0 y X W1 b N come w' → w'.heap[W.heap.size]? = some (.cells #[.int .i64 5, .string txt, .slice (some ad) N2 c2] 85 (0, 0)) from fun b come w' h => (h.block W.heap.size (by omega) (by have := hS.n0; omega)).trans hb2)
  have HW1 := aM (show wrap64 ((s.size : Int) + 1) = (N : Int) from by rw [← hN, hn]; exact inc64 _ (by omega))
  have HZ0 := aM hz0
  have HV := aM (show i ≤ (mtOf ps s).n ∧ N ≤ 1048577 ∧ (mtOf ps s).n + 1 = N from ⟨hi, hN1, hN⟩)
  have HE := aM hE
  have HQ0 := aM hq0K
  have HBEL := aM hbel
  have HV0 := aM (fun j (hj : j ≤ (mtOf ps s).n) => V_get (m := mtOf ps s) (k := q0) (i := i) j hj)
  have HZ1 := aM hz1
  have HQ1 := aM hq1K
  have HN := aM (show ∀ e, (mtOf ps s).N k i e ↔ ∃ j, (mtOf ps s).N q0 i j ∧ (mtOf ps s).N q1 j e from fun e => by rw [Mt.N5 hOk hkP hkd, hc0, hc1])
  have HNL := aM (show ∀ e, (mtOf ps s).N q0 i e → e ≤ (mtOf ps s).n from fun e h => Mt.N_le hOk q0 (by omega) i e hi h)
  have HV1 := aM (fun a j (hj : j ≤ (mtOf ps s).n) => V_get (m := mtOf ps s) (k := q1) (i := a) j hj)
  have hcall := HE.out q0 i _ W2 HQ0.out hi hBo.st hBo.lt
  have HCALL := aM hcall
  have HBO := aM hBo
  obtain ⟨⟨v0, v1, v2, v3⟩, u0, u1, u2, u3⟩ := bC4 hBo.st.blk
  obtain ⟨⟨z0, z1, z2⟩, t0, t1, t2⟩ := bC3 (HBX.out _ _ _ hBo)
  have zz0 := hBo.st.inp HZ0.out
  have HLV := aM (show ((mtOf ps s).V q0 i).length = N from (V_len ..).trans hN)
  have HLV1 := aM (show ∀ a, ((mtOf ps s).V q1 a).length = N from fun a => (V_len ..).trans hN)
  have hw1 := HW1.out
  clear hE hOk hkP hKP hop hs hi hS hX hl2 hl3 hC hq0 hq0K hkids hn hkd hc0 hz0 hN2 hbel hsz hb1 hb2 hN hN1 hN2' hB2 hz2 hO2 hX1 hz1 hq1 hq1K hc1 hcall hBo
  go_enter Try.func45, Try.ntmps45
  go_wp2_with fail
  refine HCALL.out.mono ?_
  rintro e W3 ⟨A3, c3, rfl, ho3, hn3, hs3, hx3⟩
  rw [HLV.out] at ho3 hn3 ⊢
  have HBO3 := aM (HBO.out.call hs3 hx3)
  have HO3 := aM ho3
  have HN3 := aM (show NB (.slice A3 N c3) (fun q => q = W1.heap.size) from fun b hb e => hn3 b hb (.inr e))
  clear ho3 hn3 hs3 hx3 HCALL HBO v0 v1 v2 v3 u0 u1 u2 u3 z0 z1 z2 t0 t1 t2 zz0 h0 h1 h2 h3 f0 f1 f2 f3 x0 x1 x2 y0 y1 y2 hmk hw1
  go_wp2_with fail
  go_loopg [9] N (fun gk v9 w' => ∃ (ja : Nat) (come : List Bool), v9 = .int .i64 (ja : Int) ∧ Aside0 (ja + gk = N) ∧ Aside0 (BoS (mtOf ps s) P V s w0 y X W1 W1.heap.size N come w') ∧ Aside0 (Cm come (mtOf ps s).n (fun e => ∃ q, q < ja ∧ (mtOf ps s).N q0 i q ∧ (mtOf ps s).N q1 q e)) ∧ Aside0 (OwnV w' y.N0 (.slice A3 N c3) ((mtOf ps s).V q0 i)) ∧ Aside0 (NB (.slice A3 N c3) (fun q => q = W1.heap.size)))
  case atStart => exact ⟨0, _, rfl, aM (by omega), HBO3, aM ((Cm.none _ N HV.out.2.2).congr (fun e he => by simp)), HO3, HN3⟩
  case round =>
    clear HBO3 HO3 HN3
    obtain ⟨ja, come, rfl, HJa, HBa, HCa, HOa, HNNa⟩ := hrel
    obtain ⟨⟨v0, v1, v2, v3⟩, u0, u1, u2, u3⟩ := bC4 HBa.out.st.blk
    obtain ⟨⟨z0, z1, z2⟩, t0, t1, t2⟩ := bC3 (HBX.out _ _ _ HBa.out)
    by_cases c9 : ja < N
    · cases gk with
      | zero => have := HJa.out; omega
      | succ ka =>
        obtain ⟨bg, rfl, hb1, hb2, hx1, hx2⟩ := ownV_cell HOa.out HLV.out ja c9
        have hjle : ja ≤ (mtOf ps s).n := by have := HV.out; omega
        obtain ⟨vb, hvb⟩ : ∃ vb, ((mtOf ps s).V q0 i).getD ja false = vb := ⟨_, rfl⟩
        have hvN : vb = true ↔ (mtOf ps s).N q0 i ja := by rw [← hvb]; exact HV0.out ja hjle
        rw [hvb] at hx1
        have g1 : decide ((ja : Int) < (N : Int)) = true := decide_eq_true (by omega)
        have g2 : ((ja : Int) < (N : Int)) = True := eq_true (by omega)
        have p1 : (0 ≤ (ja : Int)) = True := eq_true (by omega)
        have HJL := aM (show ja ≤ 1000000000000000 by have := HV.out; omega)
        cases vb with
        | false =>
          have hC2 : Cm come (mtOf ps s).n (fun e => ∃ q, q < ja + 1 ∧ (mtOf ps s).N q0 i q ∧ (mtOf ps s).N q1 q e) := HCa.out.congr (fun e he => by
            constructor
            · rintro ⟨q, h1, h2, h3⟩
              exact ⟨q, by omega, h2, h3⟩
            · rintro ⟨q, h1, h2, h3⟩
              by_cases c : q = ja
              · subst c; exact absurd (hvN.2 h2) (by decide)
              · exact ⟨q, by omega, h2, h3⟩)
          have HC2 := aM hC2
          clear hC2 hvb hvN c9 hb1 hb2 hjle
          go_wp2
          go_roundg ka
          case measure => omega
          case rel => exact ⟨ja + 1, _, by rw [inc64 ja HJL.out], aM (by have := HJa.out; omega), HBa, HC2, HOa, HNNa⟩
        | true =>
          have HNJ := aM (hvN.1 rfl)
          have HCALL := aM (HE.out q1 ja _ wr HQ1.out hjle HBa.out.st HBa.out.lt)
          have HC2 := aM (show Cm come (mtOf ps s).n (fun e => (∃ q, q < ja ∧ (mtOf ps s).N q0 i q ∧ (mtOf ps s).N q1 q e) ∨ (e < 0 ∧ (mtOf ps s).N q1 ja e)) from HCa.out.congr (fun e he => ⟨.inl, fun h => h.elim id (fun h => absurd h.1 (by omega))⟩))
          have zz1 := HBa.out.st.inp HZ1.out
          clear hvb hvN c9 hb1 hb2 hjle
          go_wp2_with fail
          refine HCALL.out.mono ?_
          rintro e W4 ⟨A4, c4, rfl, ho4, hn4, hs4, hx4⟩
          rw [HLV1.out] at ho4 hn4 ⊢
          have HBO4 := aM (HBa.out.call hs4 hx4)
          have HO4 := aM ho4
          have HN4 := aM (show NB (.slice A4 N c4) (fun q => q = W1.heap.size) from fun b hb e => hn4 b hb (.inr e))
          have HA4 := aM (HOa.out.kept hx4 (fun b hb e => by have := ownV_ge HOa.out b hb; omega))
          clear ho4 hn4 hs4 hx4 HCALL HBa HOa HCa v0 v1 v2 v3 u0 u1 u2 u3 z0 z1 z2 t0 t1 t2 zz1 g1 g2 p1 hx1 hx2
          go_wp2_with fail
          go_loopg [11] N (fun gk v9 w' => ∃ (jb : Nat) (come : List Bool), v9 = .int .i64 (jb : Int) ∧ Aside0 (jb + gk = N) ∧ Aside0 (BoS (mtOf ps s) P V s w0 y X W1 W1.heap.size N come w') ∧ Aside0 (Cm come (mtOf ps s).n (fun e => (∃ q, q < ja ∧ (mtOf ps s).N q0 i q ∧ (mtOf ps s).N q1 q e) ∨ (e < jb ∧ (mtOf ps s).N q1 ja e))) ∧ Aside0 (OwnV w' y.N0 (.slice A4 N c4) ((mtOf ps s).V q1 ja)) ∧ Aside0 (NB (.slice A4 N c4) (fun q => q = W1.heap.size)) ∧ Aside0 (OwnV w' y.N0 (.slice (some ⟨bg, 0, none⟩) N c3) ((mtOf ps s).V q0 i)))
          case atStart => exact ⟨0, come, rfl, aM (by omega), HBO4, HC2, HO4, HN4, HA4⟩
          case round =>
            clear HBO4 HC2 HO4 HN4 HA4
            obtain ⟨jb, come, rfl, HJb, HBb, HCb, HOb, HNNb, HA5⟩ := hrel
            obtain ⟨⟨v0, v1, v2, v3⟩, u0, u1, u2, u3⟩ := bC4 HBb.out.st.blk
            obtain ⟨⟨z0, z1, z2⟩, t0, t1, t2⟩ := bC3 (HBX.out _ _ _ HBb.out)
            by_cases c9 : jb < N
            · cases gk with
              | zero => have := HJb.out; omega
              | succ kb =>
                obtain ⟨bg4, rfl, hb1, hb2, hx1, hx2⟩ := ownV_cell HOb.out (HLV1.out ja) jb c9
                have hjle : jb ≤ (mtOf ps s).n := by have := HV.out; omega
                obtain ⟨hr1, hr2⟩ := HBb.out.row.cell jb c9
                obtain ⟨cb, hcb⟩ : ∃ cb, come.getD jb false = cb := ⟨_, rfl⟩
                obtain ⟨vb, hvb⟩ : ∃ vb, ((mtOf ps s).V q1 ja).getD jb false = vb := ⟨_, rfl⟩
                rw [hcb] at hr1
                rw [hvb] at hx1
                have hm := HBb.out.mark jb (cb || vb)
                have hC2 : Cm (come.set jb (cb || vb)) (mtOf ps s).n (fun e => (∃ q, q < ja ∧ (mtOf ps s).N q0 i q ∧ (mtOf ps s).N q1 q e) ∨ (e < jb + 1 ∧ (mtOf ps s).N q1 ja e)) := by
                  have h5 := HCb.out.or (v := vb) (R := (mtOf ps s).N q1 ja jb) (by rw [HBb.out.row.len]; exact HV.out.2.2.symm) hjle (by rw [← hvb]; exact (HV1.out ja) jb hjle)
                  rw [hcb] at h5
                  exact h5.congr (fun e he => by
                    show (((∃ q, q < ja ∧ (mtOf ps s).N q0 i q ∧ (mtOf ps s).N q1 q e) ∨ (e < jb ∧ (mtOf ps s).N q1 ja e)) ∨ (e = jb ∧ (mtOf ps s).N q1 ja jb)) ↔ ((∃ q, q < ja ∧ (mtOf ps s).N q0 i q ∧ (mtOf ps s).N q1 q e) ∨ (e < jb + 1 ∧ (mtOf ps s).N q1 ja e))
                    constructor
                    · rintro ((h1 | ⟨h1, h2⟩) | ⟨rfl, h2⟩)
                      · exact .inl h1
                      · exact .inr ⟨by omega, h2⟩
                      · exact .inr ⟨by omega, h2⟩
                    · rintro (h1 | ⟨h1, h2⟩)
                      · exact .inl (.inl h1)
                      · by_cases c : e = jb
                        · exact .inr ⟨c, c ▸ h2⟩
                        · exact .inl (.inr ⟨by omega, h2⟩))
                have g1 : decide ((jb : Int) < (N : Int)) = true := decide_eq_true (by omega)
                have g2 : ((jb : Int) < (N : Int)) = True := eq_true (by omega)
                have p1 : (0 ≤ (jb : Int)) = True := eq_true (by omega)
                have HJLb := aM (show jb ≤ 1000000000000000 by have := HV.out; omega)
                cases cb with
                | true =>
                  rw [Bool.true_or] at hm hC2
                  have hO2 := HOb.out.kept hm.2 (fun b hb e => HNNb.out b hb e)
                  have HB2 := aM hm.1
                  have HC2 := aM hC2
                  have HO2 := aM hO2
                  have HA6 := aM (HA5.out.kept hm.2 (fun b hb e => HNNa.out b hb e))
                  clear hm hC2 hO2 hvb hcb c9 hb1 hb2 hjle
                  go_wp2
                  go_roundg kb
                  case measure => omega
                  case rel => exact ⟨jb + 1, _, by rw [inc64 jb HJLb.out], aM (by have := HJb.out; omega), HB2, HC2, HO2, HNNb, HA6⟩
                | false =>
                  rw [Bool.false_or] at hm hC2
                  have hO2 := HOb.out.kept hm.2 (fun b hb e => HNNb.out b hb e)
                  have HB2 := aM hm.1
                  have HC2 := aM hC2
                  have HO2 := aM hO2
                  have HA6 := aM (HA5.out.kept hm.2 (fun b hb e => HNNa.out b hb e))
                  clear hm hC2 hO2 hvb hcb c9 hb1 hb2 hjle
                  go_wp2
                  go_roundg kb
                  case measure => omega
                  case rel => exact ⟨jb + 1, _, by rw [inc64 jb HJLb.out], aM (by have := HJb.out; omega), HB2, HC2, HO2, HNNb, HA6⟩
            · have hjN : jb = N := by have := HJb.out; omega
              have g1 : decide ((jb : Int) < (N : Int)) = false := decide_eq_false (by omega)
              have g2 : ((jb : Int) < (N : Int)) = False := eq_false (by omega)
              have hC2 : Cm come (mtOf ps s).n (fun e => ∃ q, q < ja + 1 ∧ (mtOf ps s).N q0 i q ∧ (mtOf ps s).N q1 q e) := HCb.out.congr (fun e he => by
                show ((∃ q, q < ja ∧ (mtOf ps s).N q0 i q ∧ (mtOf ps s).N q1 q e) ∨ (e < jb ∧ (mtOf ps s).N q1 ja e)) ↔ _
                have := HV.out
                constructor
                · rintro (⟨q, h1, h2, h3⟩ | ⟨h1, h2⟩)
                  · exact ⟨q, by omega, h2, h3⟩
                  · exact ⟨ja, by omega, HNJ.out, h2⟩
                · rintro ⟨q, h1, h2, h3⟩
                  by_cases c : q = ja
                  · subst c; exact .inr ⟨by omega, h3⟩
                  · exact .inl ⟨q, by omega, h2, h3⟩)
              have HC2 := aM hC2
              clear hC2 hjN c9
              go_wp2
              go_roundg ka
              case measure => omega
              case rel => exact ⟨ja + 1, _, by rw [inc64 ja HJL.out], aM (by have := HJa.out; omega), HBb, HC2, HA5, HNNa⟩
    · have hjN : ja = N := by have := HJa.out; omega
      have g1 : decide ((ja : Int) < (N : Int)) = false := decide_eq_false (by omega)
      have g2 : ((ja : Int) < (N : Int)) = False := eq_false (by omega)
      have hF := HBa.out.fin HBEL.out HV.out.2.2 (HCa.out.congr (fun e he => by
        show (∃ q, q < ja ∧ (mtOf ps s).N q0 i q ∧ (mtOf ps s).N q1 q e) ↔ (mtOf ps s).N k i e
        rw [HN.out e, hjN]
        have := HV.out
        exact ⟨fun ⟨q, _, h2, h3⟩ => ⟨q, h2, h3⟩, fun ⟨q, h2, h3⟩ => ⟨q, by have := HNL.out q h2; omega, h2, h3⟩⟩))
      have HF := aM hF
      clear hF hjN c9
      go_wp2
      go_ret
      exact HF.out
/-- Inside spec's again: the rows out and seen, the stack way, the memo. -/
structure SgS (m : Mt) (P : Nat) (V : Value) (s : ByteArray) (w0 : World) (y : Lay) (X : Nat → Prop) (W0 : World) (ob sb N : Nat) (out seen : List Bool) (v : Value) (l : List Nat) (W : World) : Prop where
  out : OwnB W W0.heap.size ob N out
  seen : OwnB W W0.heap.size sb N seen
  way : OwnI W W0.heap.size v (ints l)
  st : SSt m P V s w0 y (fun q => X q ∨ q = ob ∨ q = sb ∨ v.ownBlock = some q) W
  ex : Ex W0 W (fun q => q < y.N0)
  hX : ∀ q, X q → q < W0.heap.size
  n0 : y.N0 ≤ W0.heap.size
  ne : ob ≠ sb
  nv : v.ownBlock ≠ some ob ∧ v.ownBlock ≠ some sb
section
variable {m : Mt} {P : Nat} {V : Value} {s : ByteArray} {w0 : World} {y : Lay} {X : Nat → Prop} {W0 : World} {ob sb N : Nat} {out seen : List Bool} {v : Value} {l : List Nat} {W : World}
theorem SgS.lt (h : SgS m P V s w0 y X W0 ob sb N out seen v l W) : ∀ q, (X q ∨ q = ob ∨ q = sb ∨ v.ownBlock = some q) → q < W.heap.size := fun q hq => by
  rcases hq with e | e | e | e
  · have := h.hX q e; have := h.ex.size; omega
  · have := h.out.lt; omega
  · have := h.seen.lt; omega
  · exact own_lt h.way q e
theorem SgS.call (h : SgS m P V s w0 y X W0 ob sb N out seen v l W) {W1 : World} (h1 : SSt m P V s w0 y (fun q => X q ∨ q = ob ∨ q = sb ∨ v.ownBlock = some q) W1) (h2 : Ex W W1 (fun q => q < y.N0)) : SgS m P V s w0 y X W0 ob sb N out seen v l W1 := by
  have hn := h.n0
  exact ⟨h.out.kept h2 (fun e => by have := h.out.lt; omega), h.seen.kept h2 (fun e => by have := h.seen.lt; omega), h.way.kept h2.kept (fun b hb e => by have := own_ge h.way b hb; omega), h1, h.ex.trans h2 (fun q hq _ => hq), h.hX, h.n0, h.ne, h.nv⟩
theorem SgS.still (h : SgS m P V s w0 y X W0 ob sb N out seen v l W) {W1 : World} (hk : Below W.heap.size W W1) : SgS m P V s w0 y X W0 ob sb N out seen v l W1 := by
  have hx : Ex W W1 (fun _ => False) := Ex.of_below hk _
  exact ⟨h.out.kept hx (fun h => h), h.seen.kept hx (fun h => h), h.way.kept hx.kept (fun _ _ h => h), h.st.still hk, h.ex.trans hx (fun _ h _ => h.elim), h.hX, h.n0, h.ne, h.nv⟩
theorem SgS.markO (h : SgS m P V s w0 y X W0 ob sb N out seen v l W) (j : Nat) : SgS m P V s w0 y X W0 ob sb N (out.set j true) seen v l (W.setCell ⟨ob, j, none⟩ (.bool true)) ∧ Ex W (W.setCell ⟨ob, j, none⟩ (.bool true)) (· = ob) := by
  obtain ⟨r1, r2⟩ := h.out.store j true
  have hx : Ex W (W.setCell ⟨ob, j, none⟩ (.bool true)) (· = ob) := (Ex.of_grown r2).mono (fun q hq _ => by injection hq with hq; exact hq.symm)
  have hb := h.out.lt
  have hn := h.n0
  exact ⟨⟨r1, h.seen.kept hx (fun e => h.ne e.symm), h.way.kept hx.kept (fun b hb e => h.nv.1 (by rw [hb, e])), h.st.step hx (fun q hq _ => by subst hq; exact ⟨.inr (.inl rfl), by omega⟩) (fun q hq => .inl hq), h.ex.trans hx (fun q hq hl => by omega), h.hX, h.n0, h.ne, h.nv⟩, hx⟩
theorem SgS.markS (h : SgS m P V s w0 y X W0 ob sb N out seen v l W) (j : Nat) : SgS m P V s w0 y X W0 ob sb N out (seen.set j true) v l (W.setCell ⟨sb, j, none⟩ (.bool true)) ∧ Ex W (W.setCell ⟨sb, j, none⟩ (.bool true)) (· = sb) := by
  obtain ⟨r1, r2⟩ := h.seen.store j true
  have hx : Ex W (W.setCell ⟨sb, j, none⟩ (.bool true)) (· = sb) := (Ex.of_grown r2).mono (fun q hq _ => by injection hq with hq; exact hq.symm)
  have hb := h.seen.lt
  have hn := h.n0
  exact ⟨⟨h.out.kept hx (fun e => h.ne e), r1, h.way.kept hx.kept (fun b hb e => h.nv.2 (by rw [hb, e])), h.st.step hx (fun q hq _ => by subst hq; exact ⟨.inr (.inr (.inl rfl)), by omega⟩) (fun q hq => .inl hq), h.ex.trans hx (fun q hq hl => by omega), h.hX, h.n0, h.ne, h.nv⟩, hx⟩
theorem SgS.app (h : SgS m P V s w0 y X W0 ob sb N out seen v l W) {v1 : Value} {W1 : World} {l1 : List Nat} (h1 : OwnI W1 W0.heap.size v1 (ints l1)) (h2 : W.grownBy W1 v.ownBlock) (h3 : v1.ownBlock = v.ownBlock ∨ ∃ b, v1.ownBlock = some b ∧ W.heap.size ≤ b) : SgS m P V s w0 y X W0 ob sb N out seen v1 l1 W1 := by
  have hx := Ex.of_grown h2
  have ho := h.out.lt
  have hs := h.seen.lt
  have hn := h.n0
  refine ⟨h.out.kept hx (fun e => h.nv.1 e), h.seen.kept hx (fun e => h.nv.2 e), h1, h.st.step hx (fun q hq _ => ?_) (fun q hq => ?_), h.ex.trans hx (fun q hq hl => ?_), h.hX, h.n0, h.ne, ?_⟩
  · have := own_ge h.way q hq
    exact ⟨.inr (.inr (.inr hq)), by omega⟩
  · rcases hq with e | e | e | e
    · exact .inl (.inl e)
    · exact .inl (.inr (.inl e))
    · exact .inl (.inr (.inr (.inl e)))
    · rcases h3 with h3 | ⟨b', h3, h4⟩
      · exact .inl (.inr (.inr (.inr (h3 ▸ e))))
      · rw [h3] at e; injection e with e; subst e; exact .inr h4
  · have := own_ge h.way q hq
    omega
  · rcases h3 with h3 | ⟨b', h3, h4⟩
    · rw [h3]; exact h.nv
    · rw [h3]
      refine ⟨fun e => ?_, fun e => ?_⟩
      · injection e with e; omega
      · injection e with e; omega
theorem SgS.pop {A : Option Addr} {n c : Nat} {x : Nat} (h : SgS m P V s w0 y X W0 ob sb N out seen (.slice A n c) (l ++ [x]) W) (hn : n = l.length + 1) : SgS m P V s w0 y X W0 ob sb N out seen (.slice A l.length c) l W := by
  subst hn
  have hw := h.way
  have hl : (ints (l ++ [x])).length = l.length + 1 := by rw [ints_length]; simp
  unfold OwnI at hw
  rw [hl] at hw
  have h2 := own_take hw (m := l.length) (by omega)
  have h3 : (nums .i64 (ints (l ++ [x]))).take (l.length * 1) = nums .i64 (ints l) := by
    rw [ints_app, Nat.mul_one]
    unfold nums
    rw [List.map_append, List.take_left' (by rw [List.length_map, ints_length])]
  rw [h3] at h2
  have hb : (Value.slice A l.length c).ownBlock = (Value.slice A (l.length + 1) c).ownBlock := by cases A <;> rfl
  refine ⟨h.out, h.seen, ?_, ?_, h.ex, h.hX, h.n0, h.ne, ?_⟩
  · unfold OwnI
    rw [ints_length]
    exact h2
  · rw [hb]; exact h.st
  · rw [hb]; exact h.nv
end
/-- What is so of the search: c tells what need not be expanded yet. -/
structure DI (R : Nat → Nat → Prop) (n i : Nat) (O S : Nat → Prop) (l : List Nat) (c : Nat → Nat → Prop) : Prop where
  si : S i
  sR : ∀ x, S x → x ≤ n ∧ Rtc R i x
  oR : ∀ x, O x → ∃ v, Rtc R i v ∧ R v x
  wS : ∀ x ∈ l, S x
  nd : l.Nodup
  ex : ∀ v e, S v → v ∉ l → R v e → c v e → O e ∧ S e
theorem DI.start {R : Nat → Nat → Prop} {n i : Nat} (hi : i ≤ n) : DI R n i (fun _ => False) (fun x => x = i) [i] (fun _ _ => True) :=
  ⟨rfl, fun x hx => by subst hx; exact ⟨hi, .refl⟩, fun _ h => h.elim, fun x hx => List.mem_singleton.1 hx, by simp, fun v e hv hn => absurd (List.mem_singleton.2 hv) hn⟩
theorem DI.pop {R : Nat → Nat → Prop} {n i x : Nat} {O S : Nat → Prop} {l : List Nat} (h : DI R n i O S (l ++ [x]) (fun _ _ => True)) : DI R n i O S l (fun v e => v = x → e < 0) ∧ S x ∧ x ∉ l := by
  have hnd := List.nodup_append.1 h.nd
  have hx : x ∉ l := fun hx => hnd.2.2 x hx x (List.mem_singleton.2 rfl) rfl
  refine ⟨⟨h.si, h.sR, h.oR, fun z hz => h.wS z (List.mem_append_left _ hz), hnd.1, fun v e hv hn hr hc => ?_⟩, h.wS x (by simp), hx⟩
  by_cases c : v = x
  · exact absurd (hc c) (by omega)
  · exact h.ex v e hv (fun hm => (List.mem_append.1 hm).elim hn (fun hm => c (List.mem_singleton.1 hm))) hr trivial
/-- Place j is no end from x. -/
theorem DI.skip {R : Nat → Nat → Prop} {n i x j : Nat} {O S : Nat → Prop} {l : List Nat} (h : DI R n i O S l (fun v e => v = x → e < j)) (hr : ¬ R x j) : DI R n i O S l (fun v e => v = x → e < j + 1) :=
  ⟨h.si, h.sR, h.oR, h.wS, h.nd, fun v e hv hn hr2 hc => h.ex v e hv hn hr2 (fun hvx => by
    have := hc hvx
    by_cases c : e = j
    · subst c; subst hvx; exact absurd hr2 hr
    · omega)⟩
/-- Place j is an end from x that was seen. -/
theorem DI.known {R : Nat → Nat → Prop} {n i x j : Nat} {O S : Nat → Prop} {l : List Nat} (h : DI R n i O S l (fun v e => v = x → e < j)) (hx : S x) (hr : R x j) (hj : S j) : DI R n i (fun e => O e ∨ e = j) S l (fun v e => v = x → e < j + 1) :=
  ⟨h.si, h.sR, fun e he => he.elim (h.oR e) (fun he => by subst he; exact ⟨x, (h.sR x hx).2, hr⟩), h.wS, h.nd, fun v e hv hn hr2 hc => by
    by_cases c : e = j
    · subst c; exact ⟨.inr rfl, hj⟩
    · obtain ⟨h1, h2⟩ := h.ex v e hv hn hr2 (fun hvx => by have := hc hvx; omega)
      exact ⟨.inl h1, h2⟩⟩
/-- Place j is an end from x that is new. -/
theorem DI.new {R : Nat → Nat → Prop} {n i x j : Nat} {O S : Nat → Prop} {l : List Nat} (h : DI R n i O S l (fun v e => v = x → e < j)) (hx : S x) (hr : R x j) (hj : ¬ S j) (hjn : j ≤ n) : DI R n i (fun e => O e ∨ e = j) (fun e => S e ∨ e = j) (l ++ [j]) (fun v e => v = x → e < j + 1) :=
  ⟨.inl h.si, fun e he => he.elim (h.sR e) (fun he => by subst he; exact ⟨hjn, (h.sR x hx).2.tail hr⟩), fun e he => he.elim (h.oR e) (fun he => by subst he; exact ⟨x, (h.sR x hx).2, hr⟩),
    fun z hz => (List.mem_append.1 hz).elim (fun hz => .inl (h.wS z hz)) (fun hz => .inr (List.mem_singleton.1 hz)),
    List.nodup_append.2 ⟨h.nd, by simp, fun a ha b hb => by rw [List.mem_singleton.1 hb]; exact fun e2 => hj (e2 ▸ h.wS a ha)⟩, fun v e hv hn hr2 hc => by
    have hn1 : v ∉ l := fun hm => hn (List.mem_append_left _ hm)
    have hvj : v ≠ j := fun hm => hn (List.mem_append_right _ (List.mem_singleton.2 hm))
    have hv2 : S v := hv.resolve_right hvj
    by_cases c : e = j
    · subst c; exact ⟨.inr rfl, .inr rfl⟩
    · obtain ⟨h1, h2⟩ := h.ex v e hv2 hn1 hr2 (fun hvx => by have := hc hvx; omega)
      exact ⟨.inl h1, .inl h2⟩⟩
theorem DI.done {R : Nat → Nat → Prop} {n i x N : Nat} {O S : Nat → Prop} {l : List Nat} (h : DI R n i O S l (fun v e => v = x → e < N)) (hR : ∀ v e, v ≤ n → R v e → e < N) : DI R n i O S l (fun _ _ => True) :=
  ⟨h.si, h.sR, h.oR, h.wS, h.nd, fun v e hv hn hr2 _ => h.ex v e hv hn hr2 (fun _ => hR v e (h.sR v hv).1 hr2)⟩
theorem DI.fin {R : Nat → Nat → Prop} {n i : Nat} {O S : Nat → Prop} (h : DI R n i O S [] (fun _ _ => True)) (e : Nat) : O e ↔ ∃ v, Rtc R i v ∧ R v e := by
  have hS : ∀ v, Rtc R i v → S v := fun v hv => by
    induction hv with
    | refl => exact h.si
    | tail h1 h2 ih => exact (h.ex _ _ ih (by simp) h2 trivial).2
  exact ⟨h.oR e, fun ⟨v, h1, h2⟩ => (h.ex v e (hS v h1) (by simp) h2 trivial).1⟩
theorem cnt_set : ∀ (l : List Bool) (j : Nat), j < l.length → l.getD j false = false → (l.set j true).count false + 1 = l.count false
  | [], j, h, _ => absurd h (by simp)
  | b :: l, 0, _, h => by
    have : b = false := by simpa using h
    subst this
    simp
  | b :: l, j + 1, h, h2 => by
    have h3 := cnt_set l j (by simpa using h) (by simpa using h2)
    rw [List.set_cons_succ, List.count_cons, List.count_cons]
    omega
theorem cnt_start (N i : Nat) (hi : i < N) : ((List.replicate N false).set i true).count false + 1 = N := by
  have := cnt_set (List.replicate N false) i (by simpa using hi) (by simp [List.getD_eq_getElem?_getD, List.getElem?_replicate, hi])
  rw [this]; simp
theorem Rtc.head {R : Nat → Nat → Prop} {i j e : Nat} (h : R i j) (h2 : Rtc R j e) : ∃ v, Rtc R i v ∧ R v e := by
  induction h2 with
  | refl => exact ⟨i, .refl, h⟩
  | tail h3 h4 ih =>
    obtain ⟨v, h5, h6⟩ := ih
    exact ⟨_, h5.tail h6, h4⟩
theorem Rtc.cases {R : Nat → Nat → Prop} {i e : Nat} (h : Rtc R i e) : e = i ∨ ∃ v, Rtc R i v ∧ R v e := by
  cases h with
  | refl => exact .inl rfl
  | tail h1 h2 => exact .inr ⟨_, h1, h2⟩
/-- Once or more: forward is backward. -/
theorem plus_iff {R : Nat → Nat → Prop} {i e : Nat} : (∃ j, R i j ∧ Rtc R j e) ↔ ∃ v, Rtc R i v ∧ R v e := by
  constructor
  · rintro ⟨j, h1, h2⟩; exact Rtc.head h1 h2
  · rintro ⟨v, h1, h2⟩
    induction h1 generalizing e with
    | refl => exact ⟨e, h2, .refl⟩
    | tail h3 h4 ih =>
      obtain ⟨j, h5, h6⟩ := ih h4
      exact ⟨j, h5, h6.tail h2⟩
theorem way_cut (A : Option Addr) (M c : Nat) (hc : M + 1 ≤ c) : ∀ W, (Instr.slice 34 (.slice A (M + 1) c) none (some (.int .i64 (M : Int))) none).run Try.prog W = .ok (.slice A M c) W := by
  obtain ⟨i0, hi0, _⟩ := Option.map_eq_some_iff.1 info3
  intro W
  have := cut_to (P := Try.prog) 34 3 .i64 Try.underlying34 hi0 A (M + 1) c (M : Int) (by omega) (by omega) hc W
  rwa [Int.toNat_natCast] at this
theorem sgs_start {m : Mt} {P : Nat} {V : Value} {s : ByteArray} {w0 W : World} {y : Lay} {X : Nat → Prop} {i N : Nat} (hS : SSt m P V s w0 y X W) (hX : ∀ q, X q → q < W.heap.size) (hN1 : N ≤ 1048577) :
    ∃ W1 W2 W3, W.alloc (.cells (madeCells #[Value.bool false] N) 4) = W1 ∧ W1.alloc (.cells (madeCells #[Value.bool false] N) 4) = W2 ∧ W2.alloc (.cells #[.int .i64 (i : Int)] 3) = W3 ∧ Below W.heap.size W W1 ∧
      SgS m P V s w0 y X W W.heap.size W1.heap.size N (List.replicate N false) (List.replicate N false) (.slice (some ⟨W2.heap.size, 0, none⟩) 1 1) [i] W3 := by
  obtain ⟨W1, e1, b1, z1, o1⟩ := made4 W N hN1
  obtain ⟨W2, e2, b2, z2, o2⟩ := made4 W1 N hN1
  obtain ⟨W3, e3⟩ : ∃ W3, W2.alloc (.cells #[.int .i64 (i : Int)] 3) = W3 := ⟨_, rfl⟩
  have b3 : Below W2.heap.size W2 W3 := by rw [← e3]; exact (Below.refl _ _).alloc (Nat.le_refl _) _
  have hb : Below W.heap.size W W3 := b1.trans ((b2.trans (b3.mono (by omega))).mono (by omega))
  have hb1 : Below W1.heap.size W1 W3 := b2.trans (b3.mono (by omega))
  refine ⟨W1, W2, W3, e1, e2, e3, b1, ?_⟩
  refine ⟨o1.kept (Ex.of_below hb1 (fun _ => False)) (fun h => h), (o2.lower (by omega)).kept (Ex.of_below b3 (fun _ => False)) (fun h => h), ?_, hS.step (Ex.of_below hb (fun _ => False)) (fun _ h _ => h.elim) (fun q hq => ?_), Ex.of_below hb _, hX, hS.n0, by omega, ?_⟩
  · rw [← e3]; exact own_one W2 W.heap.size i (by omega)
  · rcases hq with e | e | e | e
    · exact .inl e
    · exact .inr (by omega)
    · exact .inr (by omega)
    · injection e with e; have e : W2.heap.size = q := e; exact .inr (by omega)
  · refine ⟨fun e => ?_, fun e => ?_⟩
    · injection e with e; have : W2.heap.size = W.heap.size := e; omega
    · injection e with e; have : W2.heap.size = W1.heap.size := e; omega
def SgR (m : Mt) (P : Nat) (V : Value) (s : ByteArray) (w0 : World) (y : Lay) (kk i : Nat) (X : Nat → Prop) (W : World) (e : Ending) (W' : World) : Prop :=
  ∃ b out, e = .returned (.slice (some ⟨b, 0, none⟩) (m.n + 1) (m.n + 1)) ∧ OwnB W' W.heap.size b (m.n + 1) out ∧ Cm out m.n (fun e => ∃ v, Rtc (m.N kk) i v ∧ m.N kk v e) ∧ SSt m P V s w0 y (fun q => X q ∨ q = b) W' ∧ Ex W W' (fun q => q < y.N0)
theorem s_again (m : Mt) (P : Nat) (V : Value) (s : ByteArray) (w0 : World) (y : Lay) (K kk : Nat) (hE : AtC m P V s w0 y K) (hkk : kk < K) (hn : m.n = s.size) (hs : s.size ≤ 1048576) (hNL : ∀ v e, v ≤ m.n → m.N kk v e → e ≤ m.n)
    (i : Nat) (X : Nat → Prop) (W : World) (hi : i ≤ m.n) (hS : SSt m P V s w0 y X W) (hX : ∀ b, X b → b < W.heap.size) :
    Calls Try.prog 46 #[.pointer (some ⟨y.g, 0, none⟩), .int .i64 (kk : Int), .int .i64 (i : Int)] W (SgR m P V s w0 y kk i X W) := by
  obtain ⟨N, hN⟩ : ∃ N, m.n + 1 = N := ⟨_, rfl⟩
  have hN1 : N ≤ 1048577 := by rw [← hN, hn]; exact Nat.succ_le_succ hs
  have hN2 : N * 1 ≤ 281474976710656 := by rw [Nat.mul_one]; exact Nat.le_trans hN1 (by decide)
  obtain ⟨W1, W2, W3, e1, e2, e3, b1, hA⟩ := sgs_start (i := i) hS hX hN1
  obtain ⟨⟨h0, h1, h2, h3⟩, f0, f1, f2, f3⟩ := bC4 hS.blk
  have hmk := print_make_of (P := Try.prog) 58 4 (.bool false) 1 Try.underlying58 (by kernel_rfl) rfl (by decide) N hN2 W
  have hmk2 := print_make_of (P := Try.prog) 58 4 (.bool false) 1 Try.underlying58 (by kernel_rfl) rfl (by decide) N hN2 W1
  rw [e1] at hmk
  rw [e2] at hmk2
  obtain ⟨r1, r2⟩ := hA.seen.cell i (by omega)
  obtain ⟨hA4, _⟩ := hA.markS i
  have HA4 := aM hA4
  have HC4 := aM (show Cm (List.replicate N false) m.n (fun _ => False) ∧ Cm ((List.replicate N false).set i true) m.n (fun x => x = i) from ⟨Cm.none m.n N hN, one_set hN hi (fun j hj => by simp)⟩)
  have HD4 := aM (DI.start (R := m.N kk) hi)
  have HM4 := aM (show ((List.replicate N false).set i true).count false + [i].length ≤ N from by have := cnt_start N i (by omega); simp only [List.length_singleton]; omega)
  have HV := aM (show m.n = s.size ∧ s.size ≤ 1048576 ∧ m.n + 1 = N ∧ kk < K from ⟨hn, hs, hN, hkk⟩)
  have HE := aM hE
  have HNL := aM hNL
  have HNN := aM (fun v j (hj : j ≤ m.n) => V_get (m := m) (k := kk) (i := v) j hj)
  have HLV := aM (show ∀ a, (m.V kk a).length = N from fun a => (V_len ..).trans hN)
  have g1 : decide ((i : Int) < (N : Int)) = true := decide_eq_true (by omega)
  have g2 : ((i : Int) < (N : Int)) = True := eq_true (by omega)
  have p1 : (0 ≤ (i : Int)) = True := eq_true (by omega)
  have hw1 : wrap64 ((s.size : Int) + 1) = (N : Int) := by rw [← hN, hn]; exact inc64 _ (by omega)
  clear hE hkk hn hs hNL hi hS hX hN hN1 hN2 hA hA4 b1
  go_enter Try.func46, Try.ntmps46
  go_wp2_with fail
  rw [hw1]
  clear hw1 hmk hmk2 r1 r2 g1 g2 p1 h0 h1 h2 h3 f0 f1 f2 f3
  go_loopg [10] N (fun gk v10 w' => ∃ (l : List Nat) (A : Option Addr) (c : Nat) (out seen : List Bool) (O S : Nat → Prop), v10 = .slice A l.length c ∧ Aside0 (SgS m P V s w0 y X W W.heap.size W1.heap.size N out seen (.slice A l.length c) l w') ∧ Aside0 (Cm out m.n O ∧ Cm seen m.n S) ∧ Aside0 (DI (m.N kk) m.n i O S l (fun _ _ => True)) ∧ Aside0 (seen.count false + l.length ≤ gk))
  case atStart => exact ⟨[i], _, 1, _, _, _, _, rfl, HA4, HC4, HD4, HM4⟩
  case round =>
    clear HA4 HC4 HD4 HM4
    obtain ⟨l, A, c, out, seen, O, S, rfl, HA, HC, HD, HM⟩ := hrel
    obtain ⟨⟨h0, h1, h2, h3⟩, f0, f1, f2, f3⟩ := bC4 HA.out.st.blk
    by_cases cl : l = []
    · subst cl
      have hF : SgR m P V s w0 y kk i X W (.returned (.slice (some ⟨W.heap.size, 0, none⟩) N N)) wr := by
        have h9 := HV.out.2.2.1
        have hA := HA.out
        subst h9
        exact ⟨_, out, rfl, hA.out, HC.out.1.congr (fun e _ => HD.out.fin e), hA.st.less (fun q hq => hq.elim .inl (fun h => .inr (.inl h))), hA.ex⟩
      have HF := aM hF
      clear hF
      rw [show ([] : List Nat).length = 0 from rfl]
      go_wp2
      go_ret
      exact HF.out
    · cases gk with
      | zero => have := HM.out; have := List.length_pos_iff.2 cl; omega
      | succ k1 =>
        obtain ⟨l, x, rfl⟩ : ∃ l' x, l = l' ++ [x] := ⟨l.dropLast, l.getLast cl, (List.dropLast_concat_getLast cl).symm⟩
        obtain ⟨M, hM⟩ : ∃ M, l.length = M := ⟨_, rfl⟩
        have hMM : (l ++ [x]).length = M + 1 := by rw [List.length_append, List.length_singleton, hM]
        have hway := HA.out.way
        rw [hMM] at hway ⊢
        have hwl : (ints (l ++ [x])).length = M + 1 := by rw [ints_length, hMM]
        obtain ⟨bg, hbA, _, _, hx1, hx2⟩ := own_cell (l := l ++ [x]) (c := c) (A := A) (by rw [hwl]; exact hway) M (by omega)
        subst hbA
        obtain ⟨A9, c9, e5, hcap⟩ := own_form hway
        injection e5 with ea el ec
        rw [hwl, ← ec] at hcap
        clear ea el ec
        have hxl : (l ++ [x])[M]'(by omega) = x := by simp [← hM]
        rw [hxl] at hx1
        have hct := way_cut (some ⟨bg, 0, none⟩) M c hcap
        have HM9 := aM (show M ≤ 10000000 by have h5 := php (m.n + 1) (l ++ [x]) HD.out.nd (fun z hz => by have := (HD.out.sR z (HD.out.wS z hz)).1; omega); have := HV.out; omega)
        have q1 : (((M + 1 : Nat) : Int) > 0) = True := eq_true (by omega)
        have q2 : ((M : Int) < ((M : Int) + 1)) = True := eq_true (by omega)
        have q3 : decide ((M : Int) < ((M : Int) + 1)) = true := decide_eq_true (by omega)
        have q4 : (0 ≤ (M : Int)) = True := eq_true (by omega)
        have q5 : decide (M < M + 1) = true := decide_eq_true (by omega)
        have q6 : (0 < (M : Int) + 1) = True := eq_true (by omega)
        have hp := HA.out.pop (by rw [List.length_append, List.length_singleton])
        rw [hM] at hp
        obtain ⟨hd1, hd2, hd3⟩ := HD.out.pop
        have hxle := (hd1.sR x hd2).1
        have HCALL := aM (HE.out kk x _ wr HV.out.2.2.2 hxle hp.st hp.lt)
        have HP := aM hp; have HD1 := aM hd1; have HSX := aM hd2; have HXL := aM hxle
        have HM1 := aM (show seen.count false + l.length ≤ k1 from by have := HM.out; rw [hMM] at this; omega)
        have q8 : wrap64 (M : Int) = (M : Int) := IntWalk.wrap64_in _ (by have := HM9.out; omega)
        clear hway hwl hcap hxl cl hMM hp hd1 hd2 hd3 hxle HA HD HM
        go_wp2_with fail
        refine HCALL.out.mono ?_
        rintro e W5 ⟨A5, c5, rfl, ho5, hn5, hs5, hx5⟩
        rw [HLV.out] at ho5 hn5 ⊢
        have HA5 := aM (HP.out.call hs5 hx5)
        have HO5 := aM ho5
        have HN5 := aM (show NB (.slice A5 N c5) (fun q => q = W.heap.size ∨ q = W1.heap.size ∨ (Value.slice (some ⟨bg, 0, none⟩) M c).ownBlock = some q) from fun b hb e => hn5 b hb (.inr e))
        subst hM
        clear ho5 hn5 hs5 hx5 HCALL HP h0 h1 h2 h3 f0 f1 f2 f3 q1 q2 q3 q4 q5 q6 q8 hx1 hx2 hct
        go_wp2_with fail
        go_loopg [13, 10] N (fun gk v13 v10 w' => ∃ (j : Nat) (l : List Nat) (A : Option Addr) (c : Nat) (out seen : List Bool) (O S : Nat → Prop), v13 = .int .i64 (j : Int) ∧ v10 = .slice A l.length c ∧ Aside0 (j + gk = N) ∧ Aside0 (SgS m P V s w0 y X W W.heap.size W1.heap.size N out seen (.slice A l.length c) l w') ∧ Aside0 (Cm out m.n O ∧ Cm seen m.n S) ∧ Aside0 (DI (m.N kk) m.n i O S l (fun v e => v = x → e < j)) ∧ Aside0 (S x) ∧ Aside0 (seen.count false + l.length ≤ k1) ∧ Aside0 (OwnV w' y.N0 (.slice A5 N c5) (m.V kk x)) ∧ Aside0 (NB (.slice A5 N c5) (fun q => q = W.heap.size ∨ q = W1.heap.size ∨ (Value.slice A l.length c).ownBlock = some q)))
        case atStart => exact ⟨0, l, _, c, out, seen, O, S, rfl, rfl, aM (by omega), HA5, HC, HD1, HSX, HM1, HO5, HN5⟩
        case round =>
          clear HA5 HC HD1 HSX HM1 HO5 HN5 HM9
          obtain ⟨j, l, A, c, out, seen, O, S, rfl, rfl, HJ, HA, HC, HD, HSX, HM, HO, HN⟩ := hrel
          by_cases c9 : j < N
          · cases gk with
            | zero => have := HJ.out; omega
            | succ k2 =>
              obtain ⟨b5, rfl, hb1, hb2, hx1, hx2⟩ := ownV_cell HO.out (HLV.out x) j c9
              have hjle : j ≤ m.n := by have := HV.out; omega
              obtain ⟨vb, hvb⟩ : ∃ vb, (m.V kk x).getD j false = vb := ⟨_, rfl⟩
              have hvN : vb = true ↔ m.N kk x j := by rw [← hvb]; exact HNN.out x j hjle
              rw [hvb] at hx1
              have g1 : decide ((j : Int) < (N : Int)) = true := decide_eq_true (by omega)
              have g2 : ((j : Int) < (N : Int)) = True := eq_true (by omega)
              have p1 : (0 ≤ (j : Int)) = True := eq_true (by omega)
              have HJL := aM (show j ≤ 1000000000000000 by have := HV.out; omega)
              cases vb with
              | false =>
                have HD2 := aM (HD.out.skip (fun h => absurd (hvN.2 h) (by decide)))
                clear hvb hvN c9 hb1 hb2 hjle
                go_wp2
                go_roundg k2
                case measure => omega
                case rel => exact ⟨j + 1, l, A, c, out, seen, O, S, by rw [inc64 j HJL.out], rfl, aM (by have := HJ.out; omega), HA, HC, HD2, HSX, HM, HO, HN⟩
              | true =>
                have hR := hvN.1 rfl
                obtain ⟨hA1, hX1⟩ := HA.out.markO j
                have hO1 := HO.out.kept hX1 (fun b hb e => HN.out b hb (.inl e))
                have hC1 : Cm (out.set j true) m.n (fun e => O e ∨ e = j) := HC.out.1.set (by rw [HA.out.out.len]; exact HV.out.2.2.1.symm) j hjle
                obtain ⟨ha1, ha2⟩ := HA.out.out.cell j c9
                obtain ⟨hr1, hr2⟩ := hA1.seen.cell j c9
                obtain ⟨sb, hsb⟩ : ∃ sb, seen.getD j false = sb := ⟨_, rfl⟩
                have hSj : sb = true ↔ S j := by rw [← hsb]; exact HC.out.2 j hjle
                rw [hsb] at hr1
                cases sb with
                | true =>
                  have HD2 := aM (HD.out.known HSX.out hR (hSj.1 rfl))
                  have HA1 := aM hA1; have HO1 := aM hO1
                  have HC1 := aM (And.intro hC1 HC.out.2)
                  clear hvb hvN c9 hb1 hb2 hjle hA1 hX1 hO1 hC1 hsb hSj hR
                  go_wp2
                  go_roundg k2
                  case measure => omega
                  case rel => exact ⟨j + 1, l, A, c, _, seen, _, S, by rw [inc64 j HJL.out], rfl, aM (by have := HJ.out; omega), HA1, HC1, HD2, HSX, HM, HO1, HN⟩
                | false =>
                  have hSn : ¬ S j := fun h => absurd (hSj.2 h) (by decide)
                  have hD2 := HD.out.new HSX.out hR hSn hjle
                  obtain ⟨hA2, hX2⟩ := hA1.markS j
                  have hA3 := hA2.still ((Below.refl _ _).alloc (Nat.le_refl _) (.cells #[.int .i64 (j : Int)] 3))
                  have hO2 := hO1.kept hX2 (fun b hb e => HN.out b hb (.inr (.inl e)))
                  have hO3 := hO2.kept (Ex.of_below ((Below.refl _ _).alloc (Nat.le_refl _) (.cells #[.int .i64 (j : Int)] 3)) (fun _ => False)) (fun _ _ h => h)
                  have hC2 : Cm (seen.set j true) m.n (fun e => S e ∨ e = j) := HC.out.2.set (by rw [HA.out.seen.len]; exact HV.out.2.2.1.symm) j hjle
                  have hM2 : (seen.set j true).count false + (l ++ [j]).length ≤ k1 := by
                    have h5 := cnt_set seen j (by rw [HA.out.seen.len]; exact c9) hsb
                    have := HM.out
                    rw [List.length_append, List.length_singleton]
                    omega
                  obtain ⟨A9, c9', e9, hrd⟩ := own_reads (own_lit ((wr.setCell ⟨W.heap.size, j, none⟩ (.bool true)).setCell ⟨W1.heap.size, j, none⟩ (.bool true)) 0 3 .i64 [(j : Int)] (Nat.zero_le _) (by rw [List.length_singleton]; decide))
                  injection e9 with e91 _ e93
                  subst e91 e93
                  have hrd2 : ReadsInt (((wr.setCell ⟨W.heap.size, j, none⟩ (.bool true)).setCell ⟨W1.heap.size, j, none⟩ (.bool true)).alloc (.cells #[.int .i64 (j : Int)] 3)) .i64 (some ⟨wr.heap.size, 0, none⟩) 1 [(j : Int)] := by
                    have e : ((wr.setCell ⟨W.heap.size, j, none⟩ (.bool true)).setCell ⟨W1.heap.size, j, none⟩ (.bool true)).heap.size = wr.heap.size := by simp [World.setCell]
                    rw [e] at hrd
                    exact hrd
                  have hlen : ((ints l).length + 1) * 8 ≤ 140737488355328 := by
                    have h5 := php (m.n + 1) l HD.out.nd (fun z hz => by have := (HD.out.sR z (HD.out.wS z hz)).1; omega)
                    have := HV.out
                    rw [ints_length]; omega
                  have hbs := hA3.ex.size
                  have HA3 := aM hA3; have HO3 := aM hO3; have HC3 := aM (And.intro hC1 hC2); have HD2 := aM hD2; have HM2 := aM hM2; have HRD := aM hrd2; have HLEN := aM hlen; have HBS := aM hbs; have HSX2 := aM (show S x ∨ x = j from .inl HSX.out)
                  clear hvb hvN c9 hb1 hb2 hjle hA1 hX1 hO1 hC1 hsb hSj hR hSn hD2 hA2 hX2 hA3 hO2 hO3 hC2 hM2 hrd hrd2 hlen hbs
                  go_wp2_with ((with_reducible refine gate_builtin (b := .append) (xs := #[.tmp 68, .tmp 70]) rfl ?_); at_builtin; refine print_append_row (w0 := _) W.heap.size rfl (.tmp 68) (.tmp 70) 34 3 .i64 8 rfl Try.underlying34 info3 (by decide) (.slice A l.length c) (ints l) [(j : Int)] _ _ _ rfl rfl HA3.out.way HRD.out (Below.refl _ _) HBS.out HLEN.out ?_; intro v1 w2 j1 j2 j3 j4; have hv1 := own_form j1; have HV1 := aM hv1; have HO4 := aM j1; have HG4 := aM j3; have HB4 := aM j4; clear j1 j2 j3 j4 hv1)
                  obtain ⟨A2, c2, rfl, _⟩ := HV1.out
                  have hll : (ints l ++ [(j : Int)]) = ints (l ++ [j]) := by rw [ints_app]; rfl
                  have hlz : (ints l ++ [(j : Int)]).length = (l ++ [j]).length := by rw [hll, ints_length]
                  have hO4 : OwnI w2 W.heap.size (.slice A2 (ints l ++ [(j : Int)]).length c2) (ints l ++ [(j : Int)]) := HO4.out
                  have hB4 := HB4.out
                  rw [hlz] at hB4 ⊢
                  rw [hll, ints_length] at hO4
                  have hA4 := HA3.out.app (l1 := l ++ [j]) (v1 := .slice A2 (l ++ [j]).length c2) hO4 HG4.out hB4
                  have hO5 := HO3.out.kept (Ex.of_grown HG4.out) (fun b hb e => HN.out b hb (.inr (.inr e)))
                  have hN5 : NB (.slice (some ⟨b5, 0, none⟩) N c5) (fun q => q = W.heap.size ∨ q = W1.heap.size ∨ (Value.slice A2 (l ++ [j]).length c2).ownBlock = some q) := fun b hb e => by
                    rcases e with e | e | e
                    · exact HN.out b hb (.inl e)
                    · exact HN.out b hb (.inr (.inl e))
                    · rcases hB4 with h5 | ⟨b', h5, h6⟩
                      · rw [h5] at e; exact HN.out b hb (.inr (.inr e))
                      · rw [h5] at e; injection e with e; subst e
                        have := own_lt HO3.out b' hb
                        omega
                  have HA4 := aM hA4; have HO5 := aM hO5; have HN5 := aM hN5
                  clear hA4 hO5 hN5 hll hlz hO4 hB4
                  go_roundg k2
                  case measure => omega
                  case rel => exact ⟨j + 1, l ++ [j], A2, c2, _, _, _, _, by rw [inc64 j HJL.out], rfl, aM (by have := HJ.out; omega), HA4, HC3, HD2, HSX2, HM2, HO5, HN5⟩
          · have hjN : j = N := by have := HJ.out; omega
            have HD2 := aM (HD.out.done (fun v e hv hr => by have := HNL.out v e hv hr; have := HV.out; omega))
            have g1 : decide ((j : Int) < (N : Int)) = false := decide_eq_false (by omega)
            have g2 : ((j : Int) < (N : Int)) = False := eq_false (by omega)
            clear hjN c9
            go_wp2
            go_roundg k1
            case measure => omega
            case rel => exact ⟨l, A, c, out, seen, O, S, rfl, HA, HC, HD2, HM⟩
/-- The end of at: what it leaves where the row is told. -/
theorem s_tell {m : Mt} {P : Nat} {V : Value} {s : ByteArray} {w0 W W5 : World} {y : Lay} {X : Nat → Prop} {b c k i N : Nat} (hX : ∀ q, X q → q < W.heap.size) (hn0 : y.N0 ≤ W.heap.size) (h : SSt m P V s w0 y (fun q => X q ∨ q = b) W5) (hk : k < P) (hi : i ≤ m.n) (hN : m.n + 1 = N)
    (ho : OwnV W5 W.heap.size (.slice (some ⟨b, 0, none⟩) N c) (m.V k i)) (hx : Ex W W5 (fun q => q < y.N0)) :
    ∃ A c', Ending.returned (.slice (some ⟨b, 0, none⟩) N c) = .returned (.slice A (m.V k i).length c') ∧ OwnV ((W5.setCell ⟨y.D k, i, none⟩ (.bool true)).setCell ⟨y.E k, i, none⟩ (.slice (some ⟨b, 0, none⟩) N c)) y.N0 (.slice A (m.V k i).length c') (m.V k i) ∧ NB (.slice A (m.V k i).length c') X ∧ SSt m P V s w0 y X ((W5.setCell ⟨y.D k, i, none⟩ (.bool true)).setCell ⟨y.E k, i, none⟩ (.slice (some ⟨b, 0, none⟩) N c)) ∧ Ex W ((W5.setCell ⟨y.D k, i, none⟩ (.bool true)).setCell ⟨y.E k, i, none⟩ (.slice (some ⟨b, 0, none⟩) N c)) (fun q => q < y.N0) := by
  have hlv : (m.V k i).length = N := (V_len ..).trans hN
  subst hlv
  have hb : W.heap.size ≤ b := ownV_ge ho b rfl
  have hnb : NB (.slice (some ⟨b, 0, none⟩) (m.V k i).length c) X := fun q hq hx => by
    injection hq with hq
    have := hX q hx
    have hq : b = q := hq
    omega
  have ho2 : OwnV W5 y.N0 (.slice (some ⟨b, 0, none⟩) (m.V k i).length c) (m.V k i) := ho.lower hn0
  obtain ⟨h1, h2⟩ := (h.less (X' := X) (fun q hq => .inl hq)).put hk hi ho2 hnb
  exact ⟨_, c, rfl, ho2.kept h2 (fun q hq hl => by injection hq with hq; have hq : b = q := hq; omega), hnb, h1, hx.trans h2 (fun q hq _ => hq)⟩
/-- What the memo's cells are at k, i. -/
theorem SSt.at {m : Mt} {P : Nat} {V : Value} {s : ByteArray} {w0 W : World} {y : Lay} {X : Nat → Prop} (h : SSt m P V s w0 y X W) {k i : Nat} (hk : k < P) (hi : i ≤ m.n) :
    W.cell? ⟨y.db, k, none⟩ = some (.slice (some ⟨y.D k, 0, none⟩) (m.n + 1) (m.n + 1)) ∧ W.cell? ⟨y.eb, k, none⟩ = some (.slice (some ⟨y.E k, 0, none⟩) (m.n + 1) (m.n + 1)) ∧ (∃ d, W.cell? ⟨y.D k, i, none⟩ = some (.bool d) ∧ W.frozen? ⟨y.D k, i, none⟩ = false ∧ ∃ v, W.cell? ⟨y.E k, i, none⟩ = some v ∧ W.frozen? ⟨y.E k, i, none⟩ = false ∧ (d = true → Tv m y X k i v W)) := by
  obtain ⟨dn, ht⟩ := h.told
  obtain ⟨⟨t1, t2⟩, v, t3, t4, t5⟩ := ht k i hk hi
  exact ⟨h.dcell k hk, h.ecell k hk, dn k i, t1, t2, v, t3, t4, t5⟩
theorem s_at1 (m : Mt) (P : Nat) (V : Value) (s : ByteArray) (w0 : World) (y : Lay) (k i : Nat) (X : Nat → Prop) (W : World) (hk : k < P) (hi : i ≤ m.n) (hS : SSt m P V s w0 y X W) (hP : P ≤ 60) (hd : W.cell? ⟨y.D k, i, none⟩ = some (.bool true)) :
    Calls Try.prog 28 #[.pointer (some ⟨y.g, 0, none⟩), .int .i64 (k : Int), .int .i64 (i : Int)] W fun e W' =>
      ∃ A c, e = .returned (.slice A (m.V k i).length c) ∧ OwnV W' y.N0 (.slice A (m.V k i).length c) (m.V k i) ∧ NB (.slice A (m.V k i).length c) X ∧ SSt m P V s w0 y X W' ∧ Ex W W' (fun b => b < y.N0) := by
  obtain ⟨a1, a2, d, a3, a4, v, a5, a6, a7⟩ := hS.at hk hi
  rw [hd] at a3
  injection a3 with a3
  injection a3 with a3
  subst a3
  obtain ⟨A, c, rfl, hn, ho⟩ := a7 rfl
  obtain ⟨⟨h0, h1, h2, h3⟩, f0, f1, f2, f3⟩ := bC4 hS.blk
  obtain ⟨N, hN⟩ : ∃ N, m.n + 1 = N := ⟨_, rfl⟩
  rw [hN] at a1 a2
  have HF := aM (show ∃ A' c', Ending.returned (.slice A (m.V k i).length c) = .returned (.slice A' (m.V k i).length c') ∧ OwnV W y.N0 (.slice A' (m.V k i).length c') (m.V k i) ∧ NB (.slice A' (m.V k i).length c') X ∧ SSt m P V s w0 y X W ∧ Ex W W (fun b => b < y.N0) from ⟨A, c, rfl, ho, hn, hS, Ex.refl _ _⟩)
  have g1 : decide ((k : Int) < (P : Int)) = true := decide_eq_true (by omega)
  have g2 : ((k : Int) < (P : Int)) = True := eq_true (by omega)
  have p1 : (0 ≤ (k : Int)) = True := eq_true (by omega)
  have g3 : decide ((i : Int) < (N : Int)) = true := decide_eq_true (by omega)
  have g4 : ((i : Int) < (N : Int)) = True := eq_true (by omega)
  have p2 : (0 ≤ (i : Int)) = True := eq_true (by omega)
  clear hS ho hn hk hi a7
  go_enter Try.func28, Try.ntmps28
  go_wp2_with fail
  go_ret
  exact HF.out
/-- The row that at has in hand at its end. -/
def TR (m : Mt) (P : Nat) (V : Value) (s : ByteArray) (w0 : World) (y : Lay) (k i : Nat) (X : Nat → Prop) (W : World) (b N c : Nat) (W6 : World) : Prop :=
  OwnV W6 W.heap.size (.slice (some ⟨b, 0, none⟩) N c) (m.V k i) ∧ SSt m P V s w0 y (fun q => X q ∨ q = b) W6 ∧ Ex W W6 (fun q => q < y.N0)
section
variable {m : Mt} {P : Nat} {V : Value} {s : ByteArray} {w0 : World} {y : Lay} {k i : Nat} {X : Nat → Prop} {W W2 W6 : World} {N : Nat} {e : Ending}
theorem ownV_of_B {W : World} {base b N : Nat} {l : List Bool} (h : OwnB W base b N l) : OwnV W base (.slice (some ⟨b, 0, none⟩) N N) l := by
  have := h.len
  subst this
  exact h
theorem TR.of_bo (h : BoR m P V s w0 y k i X W2 e W6) (hB : Below W.heap.size W W2) (hN : m.n + 1 = N) : ∃ b, e = .returned (.slice (some ⟨b, 0, none⟩) N N) ∧ TR m P V s w0 y k i X W b N N W6 := by
  obtain ⟨b, he, h1, h2, h3⟩ := h
  subst hN
  exact ⟨b, he, (ownV_of_B h1).lower hB.size, h2, (Ex.of_below hB _).trans h3 (fun q hq _ => hq)⟩
theorem TR.of_one (h : OneR m k i W2 e W6) (hS : SSt m P V s w0 y X W) (hB : Below W.heap.size W W2) (hN : m.n + 1 = N) : ∃ b, e = .returned (.slice (some ⟨b, 0, none⟩) N N) ∧ TR m P V s w0 y k i X W b N N W6 := by
  obtain ⟨b, he, h1, h2⟩ := h
  subst hN
  have hb := h1.lt
  have hB6 : Below W.heap.size W W6 := hB.trans (h2.mono hB.size)
  exact ⟨b, he, (ownV_of_B h1).lower hB.size, hS.step (Ex.of_below hB6 (fun _ => False)) (fun _ h _ => h.elim) (fun q hq => hq.imp id (fun e => by have := hB.size; omega)), Ex.of_below hB6 _⟩
theorem BoS.of_sg (h : SgR m P V s w0 y k i X W2 e W6) (hX : ∀ q, X q → q < W2.heap.size) (hn0 : y.N0 ≤ W2.heap.size) (hN : m.n + 1 = N) :
    ∃ b out, e = .returned (.slice (some ⟨b, 0, none⟩) N N) ∧ BoS m P V s w0 y X W2 b N out W6 ∧ Cm out m.n (fun e => ∃ v, Rtc (m.N k) i v ∧ m.N k v e) := by
  obtain ⟨b, out, he, h1, h2, h3, h4⟩ := h
  subst hN
  exact ⟨b, out, he, ⟨h1, h3, h4, hX, hn0⟩, h2⟩
/-- What the end of at reads. -/
theorem TR.facts {b c : Nat} (h : TR m P V s w0 y k i X W b N c W6) (hk : k < P) (hi : i ≤ m.n) (hN : m.n + 1 = N) :
    (W6.cell? ⟨y.g, 2, none⟩ = some (.slice (some ⟨y.db, 0, none⟩) P y.cd) ∧ W6.cell? ⟨y.db, k, none⟩ = some (.slice (some ⟨y.D k, 0, none⟩) N N) ∧ (∃ d, W6.cell? ⟨y.D k, i, none⟩ = some (.bool d)) ∧ W6.frozen? ⟨y.D k, i, none⟩ = false) ∧
    ((W6.setCell ⟨y.D k, i, none⟩ (.bool true)).cell? ⟨y.g, 3, none⟩ = some (.slice (some ⟨y.eb, 0, none⟩) P y.ce) ∧ (W6.setCell ⟨y.D k, i, none⟩ (.bool true)).cell? ⟨y.eb, k, none⟩ = some (.slice (some ⟨y.E k, 0, none⟩) N N) ∧ (∃ v, (W6.setCell ⟨y.D k, i, none⟩ (.bool true)).cell? ⟨y.E k, i, none⟩ = some v) ∧ (W6.setCell ⟨y.D k, i, none⟩ (.bool true)).frozen? ⟨y.E k, i, none⟩ = false) := by
  obtain ⟨⟨v0, v1, v2, v3⟩, _⟩ := bC4 h.2.1.blk
  obtain ⟨a1, a2, d5, a3, a4, v5, a5, a6, _⟩ := h.2.1.at hk hi
  rw [hN] at a1 a2
  have hd := h.2.1.lay.d0 k hk
  have hde := h.2.1.lay.de k k hk hk
  refine ⟨⟨v2, a1, ⟨d5, a3⟩, a4⟩, (World.cell?_setCell_far _ _ _ _ hd.2.2.1).trans v3, (World.cell?_setCell_far _ _ _ _ hd.2.2.2.2).trans a2, ⟨v5, (World.cell?_setCell_far _ _ _ _ hde).trans a5⟩, by rw [World.frozen?_setCell]; exact a6⟩
end
section
variable {m : Mt} {P : Nat} {V : Value} {s : ByteArray} {w0 : World} {y : Lay} {k i : Nat} {X : Nat → Prop} {W W2 W6 : World} {N : Nat} {e : Ending}
theorem TR.of_bos {b : Nat} {come : List Bool} (h : BoS m P V s w0 y X W2 b N come W6) (hB : Below W.heap.size W W2) (hN : m.n + 1 = N) (hc : Cm come m.n (m.N k i)) : TR m P V s w0 y k i X W b N N W6 := by
  obtain ⟨b', he, hT⟩ := TR.of_bo (h.fin hB hN hc) (Below.refl W.heap.size W) hN
  injection he with he
  injection he with he
  injection he with he
  injection he with he
  subst he
  exact hT
theorem own_empty (W : World) (base : Nat) (hb : base ≤ W.heap.size) : OwnV (W.alloc (.cells #[] 4)) base (.slice (some ⟨W.heap.size, 0, none⟩) 0 0) [] :=
  ⟨rfl, .inr ⟨W.heap.size, 0, #[], rfl, hb, (MapKept.heap_alloc W _).1, Nat.le_refl _, by simp [maxLen], rfl, rfl⟩⟩
theorem TR.opt {g2 b c : Nat} {w1 W3 : World} {l : List Bool} (hX : ∀ q, X q → q < W.heap.size) (hn0 : y.N0 ≤ W.heap.size) (hl : l.length = N) (h3 : SSt m P V s w0 y (fun q => X q ∨ q = g2) W3) (hg2 : W.heap.size ≤ g2) (hx3 : Ex W W3 (fun q => q < y.N0)) (ho : OwnV w1 W.heap.size (.slice (some ⟨b, 0, none⟩) N c) l) (hgr : W3.grownBy w1 (some g2)) (hb : b = g2 ∨ W3.heap.size ≤ b) (hN : m.n + 1 = N) (hi : i ≤ m.n) (hc : Cm (l.set i true) m.n (m.N k i)) :
    TR m P V s w0 y k i X W b N c (w1.setCell ⟨b, i, none⟩ (.bool true)) ∧ (∃ d, w1.cell? ⟨b, i, none⟩ = some (.bool d)) ∧ w1.frozen? ⟨b, i, none⟩ = false := by
  have hx1 : Ex W3 w1 (· = g2) := (Ex.of_grown hgr).mono (fun q hq _ => by injection hq with hq; exact hq.symm)
  have hbW : W.heap.size ≤ b := ownV_ge ho b rfl
  have h1 : SSt m P V s w0 y (fun q => X q ∨ q = b) w1 := h3.step hx1 (fun q hq _ => by subst hq; exact ⟨.inr rfl, by omega⟩) (fun q hq => by
    rcases hq with e | e
    · exact .inl (.inl e)
    · rcases hb with h | h
      · exact .inl (.inr (by omega))
      · exact .inr (by omega))
  have hV : l.set i true = m.V k i := V_of_Cm (by rw [List.length_set, hl, hN]) hc
  have hst := own_store_of (enc := Value.bool) (W := w1) (base := W.heap.size) (g := b) (n := N) (cap := c) (e := 4) (xs := l) (by subst hl; exact ho) (i : Int) true
  rw [Int.toNat_natCast, hV] at hst
  have hx2 : Ex w1 (w1.setCell ⟨b, i, none⟩ (.bool true)) (· = b) := (Ex.of_grown hst.2).mono (fun q hq _ => by injection hq with hq; exact hq.symm)
  have hlv : (m.V k i).length = N := (V_len ..).trans hN
  obtain ⟨_, he, _, _, hc1, hc2⟩ := ownV_cell ho hl i (by omega)
  injection he with he
  injection he with he
  subst he
  refine ⟨⟨?_, h1.step hx2 (fun q hq _ => by subst hq; exact ⟨.inr rfl, by omega⟩) (fun q hq => .inl hq), (hx3.trans hx1 (fun q hq hl => by omega)).trans hx2 (fun q hq hl => by omega)⟩, ⟨_, hc1⟩, hc2⟩
  unfold OwnV
  rw [hlv]
  exact hst.1
end
theorem s_at5 (ps : List S85) (A0 : Option Addr) (c0 : Nat) (s : ByteArray) (w0 : World) (y : Lay) (k i : Nat) (X : Nat → Prop) (W : World) (hs : s.size ≤ 1048576) (hlen : ps.length ≤ 60) (hc0 : ps.length ≤ c0) (hR : Kd.C k85 w0 A0 ps.length ps) (hk : k < ps.length) (hi : i ≤ (mtOf ps s).n) (hS : SSt (mtOf ps s) ps.length (.slice A0 ps.length c0) s w0 y X W) (hX : ∀ q, X q → q < W.heap.size) (hd : W.cell? ⟨y.D k, i, none⟩ = some (.bool false)) (hE : AtC (mtOf ps s) ps.length (.slice A0 ps.length c0) s w0 y k) (hOk : (mtOf ps s).Ok ps.length) (hop : (rd_T85 ps k).f0 = 5) (hl : 2 ≤ (rd_T85 ps k).f2.length) (q0 : Nat) (hq0 : rd (rd_T85 ps k).f2 0 = (q0 : Int)) (hq0K : q0 < k) (q1 : Nat) (hq1 : rd (rd_T85 ps k).f2 1 = (q1 : Int)) (hq1K : q1 < k) :
    Calls Try.prog 28 #[.pointer (some ⟨y.g, 0, none⟩), .int .i64 (k : Int), .int .i64 (i : Int)] W fun e W' =>
      ∃ A c, e = .returned (.slice A ((mtOf ps s).V k i).length c) ∧ OwnV W' y.N0 (.slice A ((mtOf ps s).V k i).length c) ((mtOf ps s).V k i) ∧ NB (.slice A ((mtOf ps s).V k i).length c) X ∧ SSt (mtOf ps s) ps.length (.slice A0 ps.length c0) s w0 y X W' ∧ Ex W W' (fun b => b < y.N0) := by
  have hn : (mtOf ps s).n = s.size := rfl
  have hn0 := hS.n0
  obtain ⟨a1, a2, _, _, a4, _⟩ := hS.at hk hi
  obtain ⟨⟨h0, h1, h2, h3⟩, f0, f1, f2, f3⟩ := bC4 hS.blk
  obtain ⟨N, hN⟩ : ∃ N, (mtOf ps s).n + 1 = N := ⟨_, rfl⟩
  have hN1 : N ≤ 1048577 := by rw [← hN, hn]; exact Nat.succ_le_succ hs
  rw [hN] at a1 a2
  have g1 : decide ((k : Int) < (ps.length : Int)) = true := decide_eq_true (by omega)
  have g2 : ((k : Int) < (ps.length : Int)) = True := eq_true (by omega)
  have p1 : (0 ≤ (k : Int)) = True := eq_true (by omega)
  have g3 : decide ((i : Int) < (N : Int)) = true := decide_eq_true (by omega)
  have g4 : ((i : Int) < (N : Int)) = True := eq_true (by omega)
  have p2 : (0 ≤ (i : Int)) = True := eq_true (by omega)
  obtain ⟨ad, A2, c2, e0, x0, x1, x2, l2, i2⟩ := at_T85 hR k (by omega) (by omega)
  replace x0 := hS.inp x0
  replace x1 := hS.inp x1
  replace x2 := hS.inp x2
  subst e0
  rw [Int.toNat_natCast] at x0 x1 x2
  rw [hop] at x0
  have hu85 := Try.underlying85
  have hu30 := Try.underlying30
  obtain ⟨W1, e1, hb1, hz1, hq1b, hq2b⟩ := box4 (op := 5) (txt := (rd_T85 ps k).f1) (kv := .slice A2 (rd_T85 ps k).f2.length c2) hS.blk
  obtain ⟨W2, e2⟩ : ∃ W2, W1.alloc (.cells #[] 4) = W2 := ⟨_, rfl⟩
  have hb2 : Below W1.heap.size W1 W2 := by rw [← e2]; exact (Below.refl _ _).alloc (Nat.le_refl _) _
  have hz2 : W2.heap.size = W1.heap.size + 1 := by rw [← e2]; exact Array.size_push ..
  have hB : Below W.heap.size W W2 := hb1.trans (hb2.mono (by omega))
  have hS2 := hS.still hB
  have hX2 : ∀ q, X q → q < W2.heap.size := fun q hq => by have := hX q hq; omega
  obtain ⟨⟨z0, z1, z2⟩, t0, t1, t2⟩ := bC3 ((hb2.block W.heap.size (by omega)).trans hq2b)
  have HV := aM (show (mtOf ps s).n = s.size ∧ s.size ≤ 1048576 ∧ k < ps.length ∧ i ≤ (mtOf ps s).n ∧ (mtOf ps s).n + 1 = N ∧ y.N0 ≤ W.heap.size from ⟨hn, hs, hk, hi, hN, hn0⟩)
  have HX := aM hX; have HB := aM hB; have HX2 := aM hX2; have HS := aM hS; have HS2 := aM hS2
  have HC := aM (s_both5 ps ps.length _ s w0 y k k i X W2 (rd_T85 ps k).f1 A2 c2 hE hOk hk (by omega) hop hs hi hS2 hX2 (rd_T85 ps k).f2 rfl hl l2 i2 q0 hq0 hq0K q1 hq1 hq1K)
  clear hn hn0 hN hN1 hk hi hs hlen hc0 hR hS hX hb1 hz1 hq1b hq2b hb2 hz2 hB hS2 hX2 l2 i2 hE hOk hop hl hq0 hq0K hq1 hq1K
  go_enter Try.func28, Try.ntmps28
  go_wp2_with fail
  refine HC.out.mono ?_
  intro e W6 hBo
  obtain ⟨b, rfl, hT⟩ := TR.of_bo hBo HB.out HV.out.2.2.2.2.1
  clear hBo
  obtain ⟨⟨r0, r1, ⟨r2, r3⟩, r4⟩, s0, s1, ⟨s2, s3⟩, s4⟩ := hT.facts HV.out.2.2.1 HV.out.2.2.2.1 HV.out.2.2.2.2.1
  have HF := aM (s_tell HX.out HV.out.2.2.2.2.2 hT.2.1 HV.out.2.2.1 HV.out.2.2.2.1 HV.out.2.2.2.2.1 hT.1 hT.2.2)
  clear hT a1 a2 a4 hd h0 h1 h2 h3 f0 f1 f2 f3 x0 x1 x2 z0 z1 z2 t0 t1 t2
  go_wp2
  go_ret
  exact HF.out
theorem s_at6 (ps : List S85) (A0 : Option Addr) (c0 : Nat) (s : ByteArray) (w0 : World) (y : Lay) (k i : Nat) (X : Nat → Prop) (W : World) (hs : s.size ≤ 1048576) (hlen : ps.length ≤ 60) (hc0 : ps.length ≤ c0) (hR : Kd.C k85 w0 A0 ps.length ps) (hk : k < ps.length) (hi : i ≤ (mtOf ps s).n) (hS : SSt (mtOf ps s) ps.length (.slice A0 ps.length c0) s w0 y X W) (hX : ∀ q, X q → q < W.heap.size) (hd : W.cell? ⟨y.D k, i, none⟩ = some (.bool false)) (hE : AtC (mtOf ps s) ps.length (.slice A0 ps.length c0) s w0 y k) (hOk : (mtOf ps s).Ok ps.length) (hop : (rd_T85 ps k).f0 = 6) (hl : 2 ≤ (rd_T85 ps k).f2.length) (q0 : Nat) (hq0 : rd (rd_T85 ps k).f2 0 = (q0 : Int)) (hq0K : q0 < k) (q1 : Nat) (hq1 : rd (rd_T85 ps k).f2 1 = (q1 : Int)) (hq1K : q1 < k) :
    Calls Try.prog 28 #[.pointer (some ⟨y.g, 0, none⟩), .int .i64 (k : Int), .int .i64 (i : Int)] W fun e W' =>
      ∃ A c, e = .returned (.slice A ((mtOf ps s).V k i).length c) ∧ OwnV W' y.N0 (.slice A ((mtOf ps s).V k i).length c) ((mtOf ps s).V k i) ∧ NB (.slice A ((mtOf ps s).V k i).length c) X ∧ SSt (mtOf ps s) ps.length (.slice A0 ps.length c0) s w0 y X W' ∧ Ex W W' (fun b => b < y.N0) := by
  have hn : (mtOf ps s).n = s.size := rfl
  have hn0 := hS.n0
  obtain ⟨a1, a2, _, _, a4, _⟩ := hS.at hk hi
  obtain ⟨⟨h0, h1, h2, h3⟩, f0, f1, f2, f3⟩ := bC4 hS.blk
  obtain ⟨N, hN⟩ : ∃ N, (mtOf ps s).n + 1 = N := ⟨_, rfl⟩
  have hN1 : N ≤ 1048577 := by rw [← hN, hn]; exact Nat.succ_le_succ hs
  rw [hN] at a1 a2
  have g1 : decide ((k : Int) < (ps.length : Int)) = true := decide_eq_true (by omega)
  have g2 : ((k : Int) < (ps.length : Int)) = True := eq_true (by omega)
  have p1 : (0 ≤ (k : Int)) = True := eq_true (by omega)
  have g3 : decide ((i : Int) < (N : Int)) = true := decide_eq_true (by omega)
  have g4 : ((i : Int) < (N : Int)) = True := eq_true (by omega)
  have p2 : (0 ≤ (i : Int)) = True := eq_true (by omega)
  obtain ⟨ad, A2, c2, e0, x0, x1, x2, l2, i2⟩ := at_T85 hR k (by omega) (by omega)
  replace x0 := hS.inp x0
  replace x1 := hS.inp x1
  replace x2 := hS.inp x2
  subst e0
  rw [Int.toNat_natCast] at x0 x1 x2
  rw [hop] at x0
  have hu85 := Try.underlying85
  have hu30 := Try.underlying30
  obtain ⟨W1, e1, hb1, hz1, hq1b, hq2b⟩ := box4 (op := 6) (txt := (rd_T85 ps k).f1) (kv := .slice A2 (rd_T85 ps k).f2.length c2) hS.blk
  obtain ⟨W2, e2⟩ : ∃ W2, W1.alloc (.cells #[] 4) = W2 := ⟨_, rfl⟩
  have hb2 : Below W1.heap.size W1 W2 := by rw [← e2]; exact (Below.refl _ _).alloc (Nat.le_refl _) _
  have hz2 : W2.heap.size = W1.heap.size + 1 := by rw [← e2]; exact Array.size_push ..
  have hB : Below W.heap.size W W2 := hb1.trans (hb2.mono (by omega))
  have hS2 := hS.still hB
  have hX2 : ∀ q, X q → q < W2.heap.size := fun q hq => by have := hX q hq; omega
  obtain ⟨⟨z0, z1, z2⟩, t0, t1, t2⟩ := bC3 ((hb2.block W.heap.size (by omega)).trans hq2b)
  have HV := aM (show (mtOf ps s).n = s.size ∧ s.size ≤ 1048576 ∧ k < ps.length ∧ i ≤ (mtOf ps s).n ∧ (mtOf ps s).n + 1 = N ∧ y.N0 ≤ W.heap.size from ⟨hn, hs, hk, hi, hN, hn0⟩)
  have HX := aM hX; have HB := aM hB; have HX2 := aM hX2; have HS := aM hS; have HS2 := aM hS2
  have HC := aM (s_both6 ps ps.length _ s w0 y k k i X W2 (rd_T85 ps k).f1 A2 c2 hE hOk hk (by omega) hop hs hi hS2 hX2 (rd_T85 ps k).f2 rfl hl l2 i2 q0 hq0 hq0K q1 hq1 hq1K)
  clear hn hn0 hN hN1 hk hi hs hlen hc0 hR hS hX hb1 hz1 hq1b hq2b hb2 hz2 hB hS2 hX2 l2 i2 hE hOk hop hl hq0 hq0K hq1 hq1K
  go_enter Try.func28, Try.ntmps28
  go_wp2_with fail
  refine HC.out.mono ?_
  intro e W6 hBo
  obtain ⟨b, rfl, hT⟩ := TR.of_bo hBo HB.out HV.out.2.2.2.2.1
  clear hBo
  obtain ⟨⟨r0, r1, ⟨r2, r3⟩, r4⟩, s0, s1, ⟨s2, s3⟩, s4⟩ := hT.facts HV.out.2.2.1 HV.out.2.2.2.1 HV.out.2.2.2.2.1
  have HF := aM (s_tell HX.out HV.out.2.2.2.2.2 hT.2.1 HV.out.2.2.1 HV.out.2.2.2.1 HV.out.2.2.2.2.1 hT.1 hT.2.2)
  clear hT a1 a2 a4 hd h0 h1 h2 h3 f0 f1 f2 f3 x0 x1 x2 z0 z1 z2 t0 t1 t2
  go_wp2
  go_ret
  exact HF.out
theorem s_at12 (ps : List S85) (A0 : Option Addr) (c0 : Nat) (s : ByteArray) (w0 : World) (y : Lay) (k i : Nat) (X : Nat → Prop) (W : World) (hs : s.size ≤ 1048576) (hlen : ps.length ≤ 60) (hc0 : ps.length ≤ c0) (hR : Kd.C k85 w0 A0 ps.length ps) (hk : k < ps.length) (hi : i ≤ (mtOf ps s).n) (hS : SSt (mtOf ps s) ps.length (.slice A0 ps.length c0) s w0 y X W) (hX : ∀ q, X q → q < W.heap.size) (hd : W.cell? ⟨y.D k, i, none⟩ = some (.bool false)) (hop : (rd_T85 ps k).f0 = 12) :
    Calls Try.prog 28 #[.pointer (some ⟨y.g, 0, none⟩), .int .i64 (k : Int), .int .i64 (i : Int)] W fun e W' =>
      ∃ A c, e = .returned (.slice A ((mtOf ps s).V k i).length c) ∧ OwnV W' y.N0 (.slice A ((mtOf ps s).V k i).length c) ((mtOf ps s).V k i) ∧ NB (.slice A ((mtOf ps s).V k i).length c) X ∧ SSt (mtOf ps s) ps.length (.slice A0 ps.length c0) s w0 y X W' ∧ Ex W W' (fun b => b < y.N0) := by
  have hn : (mtOf ps s).n = s.size := rfl
  have hn0 := hS.n0
  obtain ⟨a1, a2, _, _, a4, _⟩ := hS.at hk hi
  obtain ⟨⟨h0, h1, h2, h3⟩, f0, f1, f2, f3⟩ := bC4 hS.blk
  obtain ⟨N, hN⟩ : ∃ N, (mtOf ps s).n + 1 = N := ⟨_, rfl⟩
  have hN1 : N ≤ 1048577 := by rw [← hN, hn]; exact Nat.succ_le_succ hs
  rw [hN] at a1 a2
  have g1 : decide ((k : Int) < (ps.length : Int)) = true := decide_eq_true (by omega)
  have g2 : ((k : Int) < (ps.length : Int)) = True := eq_true (by omega)
  have p1 : (0 ≤ (k : Int)) = True := eq_true (by omega)
  have g3 : decide ((i : Int) < (N : Int)) = true := decide_eq_true (by omega)
  have g4 : ((i : Int) < (N : Int)) = True := eq_true (by omega)
  have p2 : (0 ≤ (i : Int)) = True := eq_true (by omega)
  obtain ⟨ad, A2, c2, e0, x0, x1, x2, l2, i2⟩ := at_T85 hR k (by omega) (by omega)
  replace x0 := hS.inp x0
  replace x1 := hS.inp x1
  replace x2 := hS.inp x2
  subst e0
  rw [Int.toNat_natCast] at x0 x1 x2
  rw [hop] at x0
  have hu85 := Try.underlying85
  have hu30 := Try.underlying30
  obtain ⟨W1, e1, hb1, hz1, hq1b, hq2b⟩ := box4 (op := 12) (txt := (rd_T85 ps k).f1) (kv := .slice A2 (rd_T85 ps k).f2.length c2) hS.blk
  obtain ⟨W2, e2⟩ : ∃ W2, W1.alloc (.cells #[] 4) = W2 := ⟨_, rfl⟩
  have hb2 : Below W1.heap.size W1 W2 := by rw [← e2]; exact (Below.refl _ _).alloc (Nat.le_refl _) _
  have hz2 : W2.heap.size = W1.heap.size + 1 := by rw [← e2]; exact Array.size_push ..
  have hB : Below W.heap.size W W2 := hb1.trans (hb2.mono (by omega))
  have hS2 := hS.still hB
  have hX2 : ∀ q, X q → q < W2.heap.size := fun q hq => by have := hX q hq; omega
  obtain ⟨⟨z0, z1, z2⟩, t0, t1, t2⟩ := bC3 ((hb2.block W.heap.size (by omega)).trans hq2b)
  have HV := aM (show (mtOf ps s).n = s.size ∧ s.size ≤ 1048576 ∧ k < ps.length ∧ i ≤ (mtOf ps s).n ∧ (mtOf ps s).n + 1 = N ∧ y.N0 ≤ W.heap.size from ⟨hn, hs, hk, hi, hN, hn0⟩)
  have HX := aM hX; have HB := aM hB; have HX2 := aM hX2; have HS := aM hS; have HS2 := aM hS2
  have hmt : ∀ e, (mtOf ps s).N k i e ↔ e = i := fun e => by
    have hk : (mtOf ps s).kd k = 12 := hop
    rw [Mt.N1 (by rw [hk]; decide) (by rw [hk]; decide) (by rw [hk]; decide) (by rw [hk]; decide) (by rw [hk]; decide)]
    show (if _ then _ else if _ then _ else if _ then _ else _) ↔ _
    rw [hop]
    simp <;> omega
  have HC := aM (s_one12 (mtOf ps s) _ _ _ (.slice A2 (rd_T85 ps k).f2.length c2) s (rd_T85 ps k).f1 y.g k i W2 hn hs hi hS2.blk hmt)
  clear hn hn0 hN hN1 hk hi hs hlen hc0 hR hS hX hb1 hz1 hq1b hq2b hb2 hz2 hB hS2 hX2 l2 i2 hop hmt
  go_enter Try.func28, Try.ntmps28
  go_wp2_with fail
  refine HC.out.mono ?_
  intro e W6 hOne
  obtain ⟨b, rfl, hT⟩ := TR.of_one hOne HS.out HB.out HV.out.2.2.2.2.1
  clear hOne
  obtain ⟨⟨r0, r1, ⟨r2, r3⟩, r4⟩, s0, s1, ⟨s2, s3⟩, s4⟩ := hT.facts HV.out.2.2.1 HV.out.2.2.2.1 HV.out.2.2.2.2.1
  have HF := aM (s_tell HX.out HV.out.2.2.2.2.2 hT.2.1 HV.out.2.2.1 HV.out.2.2.2.1 HV.out.2.2.2.2.1 hT.1 hT.2.2)
  clear hT a1 a2 a4 hd h0 h1 h2 h3 f0 f1 f2 f3 x0 x1 x2 z0 z1 z2 t0 t1 t2
  go_wp2
  go_ret
  exact HF.out
theorem s_at10 (ps : List S85) (A0 : Option Addr) (c0 : Nat) (s : ByteArray) (w0 : World) (y : Lay) (k i : Nat) (X : Nat → Prop) (W : World) (hs : s.size ≤ 1048576) (hlen : ps.length ≤ 60) (hc0 : ps.length ≤ c0) (hR : Kd.C k85 w0 A0 ps.length ps) (hk : k < ps.length) (hi : i ≤ (mtOf ps s).n) (hS : SSt (mtOf ps s) ps.length (.slice A0 ps.length c0) s w0 y X W) (hX : ∀ q, X q → q < W.heap.size) (hd : W.cell? ⟨y.D k, i, none⟩ = some (.bool false)) (hop : (rd_T85 ps k).f0 = 10) :
    Calls Try.prog 28 #[.pointer (some ⟨y.g, 0, none⟩), .int .i64 (k : Int), .int .i64 (i : Int)] W fun e W' =>
      ∃ A c, e = .returned (.slice A ((mtOf ps s).V k i).length c) ∧ OwnV W' y.N0 (.slice A ((mtOf ps s).V k i).length c) ((mtOf ps s).V k i) ∧ NB (.slice A ((mtOf ps s).V k i).length c) X ∧ SSt (mtOf ps s) ps.length (.slice A0 ps.length c0) s w0 y X W' ∧ Ex W W' (fun b => b < y.N0) := by
  have hn : (mtOf ps s).n = s.size := rfl
  have hn0 := hS.n0
  obtain ⟨a1, a2, _, _, a4, _⟩ := hS.at hk hi
  obtain ⟨⟨h0, h1, h2, h3⟩, f0, f1, f2, f3⟩ := bC4 hS.blk
  obtain ⟨N, hN⟩ : ∃ N, (mtOf ps s).n + 1 = N := ⟨_, rfl⟩
  have hN1 : N ≤ 1048577 := by rw [← hN, hn]; exact Nat.succ_le_succ hs
  rw [hN] at a1 a2
  have g1 : decide ((k : Int) < (ps.length : Int)) = true := decide_eq_true (by omega)
  have g2 : ((k : Int) < (ps.length : Int)) = True := eq_true (by omega)
  have p1 : (0 ≤ (k : Int)) = True := eq_true (by omega)
  have g3 : decide ((i : Int) < (N : Int)) = true := decide_eq_true (by omega)
  have g4 : ((i : Int) < (N : Int)) = True := eq_true (by omega)
  have p2 : (0 ≤ (i : Int)) = True := eq_true (by omega)
  obtain ⟨ad, A2, c2, e0, x0, x1, x2, l2, i2⟩ := at_T85 hR k (by omega) (by omega)
  replace x0 := hS.inp x0
  replace x1 := hS.inp x1
  replace x2 := hS.inp x2
  subst e0
  rw [Int.toNat_natCast] at x0 x1 x2
  rw [hop] at x0
  have hu85 := Try.underlying85
  have hu30 := Try.underlying30
  obtain ⟨W1, e1, hb1, hz1, hq1b, hq2b⟩ := box4 (op := 10) (txt := (rd_T85 ps k).f1) (kv := .slice A2 (rd_T85 ps k).f2.length c2) hS.blk
  obtain ⟨W2, e2⟩ : ∃ W2, W1.alloc (.cells #[] 4) = W2 := ⟨_, rfl⟩
  have hb2 : Below W1.heap.size W1 W2 := by rw [← e2]; exact (Below.refl _ _).alloc (Nat.le_refl _) _
  have hz2 : W2.heap.size = W1.heap.size + 1 := by rw [← e2]; exact Array.size_push ..
  have hB : Below W.heap.size W W2 := hb1.trans (hb2.mono (by omega))
  have hS2 := hS.still hB
  have hX2 : ∀ q, X q → q < W2.heap.size := fun q hq => by have := hX q hq; omega
  obtain ⟨⟨z0, z1, z2⟩, t0, t1, t2⟩ := bC3 ((hb2.block W.heap.size (by omega)).trans hq2b)
  have HV := aM (show (mtOf ps s).n = s.size ∧ s.size ≤ 1048576 ∧ k < ps.length ∧ i ≤ (mtOf ps s).n ∧ (mtOf ps s).n + 1 = N ∧ y.N0 ≤ W.heap.size from ⟨hn, hs, hk, hi, hN, hn0⟩)
  have HX := aM hX; have HB := aM hB; have HX2 := aM hX2; have HS := aM hS; have HS2 := aM hS2
  have hmt : ∀ e, (mtOf ps s).N k i e ↔ (e = i ∧ i = 0) := fun e => by
    have hk : (mtOf ps s).kd k = 10 := hop
    rw [Mt.N1 (by rw [hk]; decide) (by rw [hk]; decide) (by rw [hk]; decide) (by rw [hk]; decide) (by rw [hk]; decide)]
    show (if _ then _ else if _ then _ else if _ then _ else _) ↔ _
    rw [hop]
    simp <;> omega
  have HC := aM (s_one10 (mtOf ps s) _ _ _ (.slice A2 (rd_T85 ps k).f2.length c2) s (rd_T85 ps k).f1 y.g k i W2 hn hs hi hS2.blk hmt)
  clear hn hn0 hN hN1 hk hi hs hlen hc0 hR hS hX hb1 hz1 hq1b hq2b hb2 hz2 hB hS2 hX2 l2 i2 hop hmt
  go_enter Try.func28, Try.ntmps28
  go_wp2_with fail
  refine HC.out.mono ?_
  intro e W6 hOne
  obtain ⟨b, rfl, hT⟩ := TR.of_one hOne HS.out HB.out HV.out.2.2.2.2.1
  clear hOne
  obtain ⟨⟨r0, r1, ⟨r2, r3⟩, r4⟩, s0, s1, ⟨s2, s3⟩, s4⟩ := hT.facts HV.out.2.2.1 HV.out.2.2.2.1 HV.out.2.2.2.2.1
  have HF := aM (s_tell HX.out HV.out.2.2.2.2.2 hT.2.1 HV.out.2.2.1 HV.out.2.2.2.1 HV.out.2.2.2.2.1 hT.1 hT.2.2)
  clear hT a1 a2 a4 hd h0 h1 h2 h3 f0 f1 f2 f3 x0 x1 x2 z0 z1 z2 t0 t1 t2
  go_wp2
  go_ret
  exact HF.out
theorem s_at11 (ps : List S85) (A0 : Option Addr) (c0 : Nat) (s : ByteArray) (w0 : World) (y : Lay) (k i : Nat) (X : Nat → Prop) (W : World) (hs : s.size ≤ 1048576) (hlen : ps.length ≤ 60) (hc0 : ps.length ≤ c0) (hR : Kd.C k85 w0 A0 ps.length ps) (hk : k < ps.length) (hi : i ≤ (mtOf ps s).n) (hS : SSt (mtOf ps s) ps.length (.slice A0 ps.length c0) s w0 y X W) (hX : ∀ q, X q → q < W.heap.size) (hd : W.cell? ⟨y.D k, i, none⟩ = some (.bool false)) (hop : (rd_T85 ps k).f0 = 11) :
    Calls Try.prog 28 #[.pointer (some ⟨y.g, 0, none⟩), .int .i64 (k : Int), .int .i64 (i : Int)] W fun e W' =>
      ∃ A c, e = .returned (.slice A ((mtOf ps s).V k i).length c) ∧ OwnV W' y.N0 (.slice A ((mtOf ps s).V k i).length c) ((mtOf ps s).V k i) ∧ NB (.slice A ((mtOf ps s).V k i).length c) X ∧ SSt (mtOf ps s) ps.length (.slice A0 ps.length c0) s w0 y X W' ∧ Ex W W' (fun b => b < y.N0) := by
  have hn : (mtOf ps s).n = s.size := rfl
  have hn0 := hS.n0
  obtain ⟨a1, a2, _, _, a4, _⟩ := hS.at hk hi
  obtain ⟨⟨h0, h1, h2, h3⟩, f0, f1, f2, f3⟩ := bC4 hS.blk
  obtain ⟨N, hN⟩ : ∃ N, (mtOf ps s).n + 1 = N := ⟨_, rfl⟩
  have hN1 : N ≤ 1048577 := by rw [← hN, hn]; exact Nat.succ_le_succ hs
  rw [hN] at a1 a2
  have g1 : decide ((k : Int) < (ps.length : Int)) = true := decide_eq_true (by omega)
  have g2 : ((k : Int) < (ps.length : Int)) = True := eq_true (by omega)
  have p1 : (0 ≤ (k : Int)) = True := eq_true (by omega)
  have g3 : decide ((i : Int) < (N : Int)) = true := decide_eq_true (by omega)
  have g4 : ((i : Int) < (N : Int)) = True := eq_true (by omega)
  have p2 : (0 ≤ (i : Int)) = True := eq_true (by omega)
  obtain ⟨ad, A2, c2, e0, x0, x1, x2, l2, i2⟩ := at_T85 hR k (by omega) (by omega)
  replace x0 := hS.inp x0
  replace x1 := hS.inp x1
  replace x2 := hS.inp x2
  subst e0
  rw [Int.toNat_natCast] at x0 x1 x2
  rw [hop] at x0
  have hu85 := Try.underlying85
  have hu30 := Try.underlying30
  obtain ⟨W1, e1, hb1, hz1, hq1b, hq2b⟩ := box4 (op := 11) (txt := (rd_T85 ps k).f1) (kv := .slice A2 (rd_T85 ps k).f2.length c2) hS.blk
  obtain ⟨W2, e2⟩ : ∃ W2, W1.alloc (.cells #[] 4) = W2 := ⟨_, rfl⟩
  have hb2 : Below W1.heap.size W1 W2 := by rw [← e2]; exact (Below.refl _ _).alloc (Nat.le_refl _) _
  have hz2 : W2.heap.size = W1.heap.size + 1 := by rw [← e2]; exact Array.size_push ..
  have hB : Below W.heap.size W W2 := hb1.trans (hb2.mono (by omega))
  have hS2 := hS.still hB
  have hX2 : ∀ q, X q → q < W2.heap.size := fun q hq => by have := hX q hq; omega
  obtain ⟨⟨z0, z1, z2⟩, t0, t1, t2⟩ := bC3 ((hb2.block W.heap.size (by omega)).trans hq2b)
  have HV := aM (show (mtOf ps s).n = s.size ∧ s.size ≤ 1048576 ∧ k < ps.length ∧ i ≤ (mtOf ps s).n ∧ (mtOf ps s).n + 1 = N ∧ y.N0 ≤ W.heap.size from ⟨hn, hs, hk, hi, hN, hn0⟩)
  have HX := aM hX; have HB := aM hB; have HX2 := aM hX2; have HS := aM hS; have HS2 := aM hS2
  have hmt : ∀ e, (mtOf ps s).N k i e ↔ (e = i ∧ i = s.size) := fun e => by
    have hk : (mtOf ps s).kd k = 11 := hop
    rw [Mt.N1 (by rw [hk]; decide) (by rw [hk]; decide) (by rw [hk]; decide) (by rw [hk]; decide) (by rw [hk]; decide)]
    show (if _ then _ else if _ then _ else if _ then _ else _) ↔ _
    rw [hop]
    simp <;> omega
  have HC := aM (s_one11 (mtOf ps s) _ _ _ (.slice A2 (rd_T85 ps k).f2.length c2) s (rd_T85 ps k).f1 y.g k i W2 hn hs hi hS2.blk hmt)
  clear hn hn0 hN hN1 hk hi hs hlen hc0 hR hS hX hb1 hz1 hq1b hq2b hb2 hz2 hB hS2 hX2 l2 i2 hop hmt
  go_enter Try.func28, Try.ntmps28
  go_wp2_with fail
  refine HC.out.mono ?_
  intro e W6 hOne
  obtain ⟨b, rfl, hT⟩ := TR.of_one hOne HS.out HB.out HV.out.2.2.2.2.1
  clear hOne
  obtain ⟨⟨r0, r1, ⟨r2, r3⟩, r4⟩, s0, s1, ⟨s2, s3⟩, s4⟩ := hT.facts HV.out.2.2.1 HV.out.2.2.2.1 HV.out.2.2.2.2.1
  have HF := aM (s_tell HX.out HV.out.2.2.2.2.2 hT.2.1 HV.out.2.2.1 HV.out.2.2.2.1 HV.out.2.2.2.2.1 hT.1 hT.2.2)
  clear hT a1 a2 a4 hd h0 h1 h2 h3 f0 f1 f2 f3 x0 x1 x2 z0 z1 z2 t0 t1 t2
  go_wp2
  go_ret
  exact HF.out
theorem info_b : (Try.prog.info? 4).map (fun i => (i.zero, i.size, i.bytes)) = some (some (.bool false), 1, 1) := by kernel_rfl
theorem s_atone (ps : List S85) (A0 : Option Addr) (c0 : Nat) (s : ByteArray) (w0 : World) (y : Lay) (k i : Nat) (X : Nat → Prop) (W : World) (hs : s.size ≤ 1048576) (hlen : ps.length ≤ 60) (hc0 : ps.length ≤ c0) (hR : Kd.C k85 w0 A0 ps.length ps) (hk : k < ps.length) (hi : i ≤ (mtOf ps s).n) (hS : SSt (mtOf ps s) ps.length (.slice A0 ps.length c0) s w0 y X W) (hX : ∀ q, X q → q < W.heap.size) (hd : W.cell? ⟨y.D k, i, none⟩ = some (.bool false)) (ho : isOne (rd_T85 ps k).f0 = true) (htx : (rd_T85 ps k).f1.size ≤ 1048576) :
    Calls Try.prog 28 #[.pointer (some ⟨y.g, 0, none⟩), .int .i64 (k : Int), .int .i64 (i : Int)] W fun e W' =>
      ∃ A c, e = .returned (.slice A ((mtOf ps s).V k i).length c) ∧ OwnV W' y.N0 (.slice A ((mtOf ps s).V k i).length c) ((mtOf ps s).V k i) ∧ NB (.slice A ((mtOf ps s).V k i).length c) X ∧ SSt (mtOf ps s) ps.length (.slice A0 ps.length c0) s w0 y X W' ∧ Ex W W' (fun b => b < y.N0) := by
  have hn : (mtOf ps s).n = s.size := rfl
  have hn0 := hS.n0
  obtain ⟨a1, a2, _, _, a4, _⟩ := hS.at hk hi
  obtain ⟨⟨h0, h1, h2, h3⟩, f0, f1, f2, f3⟩ := bC4 hS.blk
  obtain ⟨N, hN⟩ : ∃ N, (mtOf ps s).n + 1 = N := ⟨_, rfl⟩
  have hN1 : N ≤ 1048577 := by rw [← hN, hn]; exact Nat.succ_le_succ hs
  rw [hN] at a1 a2
  have g1 : decide ((k : Int) < (ps.length : Int)) = true := decide_eq_true (by omega)
  have g2 : ((k : Int) < (ps.length : Int)) = True := eq_true (by omega)
  have p1 : (0 ≤ (k : Int)) = True := eq_true (by omega)
  have g3 : decide ((i : Int) < (N : Int)) = true := decide_eq_true (by omega)
  have g4 : ((i : Int) < (N : Int)) = True := eq_true (by omega)
  have p2 : (0 ≤ (i : Int)) = True := eq_true (by omega)
  obtain ⟨ad, A2, c2, e0, x0, x1, x2, l2, i2⟩ := at_T85 hR k (by omega) (by omega)
  replace x0 := hS.inp x0
  replace x1 := hS.inp x1
  replace x2 := hS.inp x2
  subst e0
  rw [Int.toNat_natCast] at x0 x1 x2
  have hu85 := Try.underlying85
  have hu30 := Try.underlying30
  obtain ⟨W1, e1, hb1, hz1, hq1b, hq2b⟩ := box4 (op := (rd_T85 ps k).f0) (txt := (rd_T85 ps k).f1) (kv := .slice A2 (rd_T85 ps k).f2.length c2) hS.blk
  obtain ⟨W2, e2⟩ : ∃ W2, W1.alloc (.cells #[] 4) = W2 := ⟨_, rfl⟩
  have hb2 : Below W1.heap.size W1 W2 := by rw [← e2]; exact (Below.refl _ _).alloc (Nat.le_refl _) _
  have hz2 : W2.heap.size = W1.heap.size + 1 := by rw [← e2]; exact Array.size_push ..
  have hB : Below W.heap.size W W2 := hb1.trans (hb2.mono (by omega))
  have hS2 := hS.still hB
  have hX2 : ∀ q, X q → q < W2.heap.size := fun q hq => by have := hX q hq; omega
  obtain ⟨⟨z0, z1, z2⟩, t0, t1, t2⟩ := bC3 ((hb2.block W.heap.size (by omega)).trans hq2b)
  have HV := aM (show (mtOf ps s).n = s.size ∧ s.size ≤ 1048576 ∧ k < ps.length ∧ i ≤ (mtOf ps s).n ∧ (mtOf ps s).n + 1 = N ∧ y.N0 ≤ W.heap.size from ⟨hn, hs, hk, hi, hN, hn0⟩)
  have HX := aM hX; have HB := aM hB; have HX2 := aM hX2; have HS := aM hS; have HS2 := aM hS2
  have hmt := fun e => mt_one (ps := ps) (k := k) (s := s) (i := i) (e := e) ho
  have hi' : i ≤ s.size := hi
  have hb4 : W2.heap[y.g]? = _ := hS2.blk
  have HC := aM (show Calls Try.prog 47 #[.pointer (some ⟨y.g, 0, none⟩), .agg #[.int .i64 (rd_T85 ps k).f0, .string (rd_T85 ps k).f1, .slice A2 (rd_T85 ps k).f2.length c2], .int .i64 (i : Int)] W2 (OneR (mtOf ps s) k i W2) from by
    have i3 := Kd.C_below i2 hS2.bel
    rcases Nat.lt_or_ge i s.size with q | q
    · cases ht : tkB (rd_T85 ps k).f0 (rd_T85 ps k).f1 (bt s (i : Int)) with
      | true => exact s_onet (mtOf ps s) _ _ _ s (rd_T85 ps k).f1 y.g k i W2 hn hs hi hb4 A2 c2 (rd_T85 ps k).f2 i3 l2 (rd_T85 ps k).f0 ho htx q ht hmt
      | false => exact s_onef (mtOf ps s) _ _ _ s (rd_T85 ps k).f1 y.g k i W2 hn hs hi hb4 A2 c2 (rd_T85 ps k).f2 i3 l2 (rd_T85 ps k).f0 ho htx q ht hmt
    · exact s_onen (mtOf ps s) _ _ _ s (rd_T85 ps k).f1 y.g k i W2 hn hs hi hb4 A2 c2 (rd_T85 ps k).f2 i3 l2 (rd_T85 ps k).f0 ho htx (by omega) hmt)
  have o5 : ((rd_T85 ps k).f0 == 5) = false := by simpa using (show ¬ (rd_T85 ps k).f0 = 5 by have := (isOne_iff _).1 ho; omega)
  have o5d : ((rd_T85 ps k).f0 = 5) = False := eq_false (by have := (isOne_iff _).1 ho; omega)
  have o6 : ((rd_T85 ps k).f0 == 6) = false := by simpa using (show ¬ (rd_T85 ps k).f0 = 6 by have := (isOne_iff _).1 ho; omega)
  have o6d : ((rd_T85 ps k).f0 = 6) = False := eq_false (by have := (isOne_iff _).1 ho; omega)
  have o7 : ((rd_T85 ps k).f0 == 7) = false := by simpa using (show ¬ (rd_T85 ps k).f0 = 7 by have := (isOne_iff _).1 ho; omega)
  have o7d : ((rd_T85 ps k).f0 = 7) = False := eq_false (by have := (isOne_iff _).1 ho; omega)
  have o8 : ((rd_T85 ps k).f0 == 8) = false := by simpa using (show ¬ (rd_T85 ps k).f0 = 8 by have := (isOne_iff _).1 ho; omega)
  have o8d : ((rd_T85 ps k).f0 = 8) = False := eq_false (by have := (isOne_iff _).1 ho; omega)
  have o9 : ((rd_T85 ps k).f0 == 9) = false := by simpa using (show ¬ (rd_T85 ps k).f0 = 9 by have := (isOne_iff _).1 ho; omega)
  have o9d : ((rd_T85 ps k).f0 = 9) = False := eq_false (by have := (isOne_iff _).1 ho; omega)
  clear hn hn0 hN hN1 hk hi hs hlen hc0 hR hS hX hb1 hz1 hq1b hq2b hb2 hz2 hB hS2 hX2 l2 i2 ho htx hmt hi' hb4
  go_enter Try.func28, Try.ntmps28
  go_wp2_with fail
  refine HC.out.mono ?_
  intro e W6 hOne
  obtain ⟨b, rfl, hT⟩ := TR.of_one hOne HS.out HB.out HV.out.2.2.2.2.1
  clear hOne
  obtain ⟨⟨r0, r1, ⟨r2, r3⟩, r4⟩, s0, s1, ⟨s2, s3⟩, s4⟩ := hT.facts HV.out.2.2.1 HV.out.2.2.2.1 HV.out.2.2.2.2.1
  have HF := aM (s_tell HX.out HV.out.2.2.2.2.2 hT.2.1 HV.out.2.2.1 HV.out.2.2.2.1 HV.out.2.2.2.2.1 hT.1 hT.2.2)
  clear hT a1 a2 a4 hd h0 h1 h2 h3 f0 f1 f2 f3 x0 x1 x2 z0 z1 z2 t0 t1 t2
  go_wp2
  go_ret
  exact HF.out
theorem s_at8 (ps : List S85) (A0 : Option Addr) (c0 : Nat) (s : ByteArray) (w0 : World) (y : Lay) (k i : Nat) (X : Nat → Prop) (W : World) (hs : s.size ≤ 1048576) (hlen : ps.length ≤ 60) (hc0 : ps.length ≤ c0) (hR : Kd.C k85 w0 A0 ps.length ps) (hk : k < ps.length) (hi : i ≤ (mtOf ps s).n) (hS : SSt (mtOf ps s) ps.length (.slice A0 ps.length c0) s w0 y X W) (hX : ∀ q, X q → q < W.heap.size) (hd : W.cell? ⟨y.D k, i, none⟩ = some (.bool false)) (hE : AtC (mtOf ps s) ps.length (.slice A0 ps.length c0) s w0 y k) (hOk : (mtOf ps s).Ok ps.length) (hop : (rd_T85 ps k).f0 = 8) (hl : 1 ≤ (rd_T85 ps k).f2.length) (q0 : Nat) (hq0 : rd (rd_T85 ps k).f2 0 = (q0 : Int)) (hq0K : q0 < k) :
    Calls Try.prog 28 #[.pointer (some ⟨y.g, 0, none⟩), .int .i64 (k : Int), .int .i64 (i : Int)] W fun e W' =>
      ∃ A c, e = .returned (.slice A ((mtOf ps s).V k i).length c) ∧ OwnV W' y.N0 (.slice A ((mtOf ps s).V k i).length c) ((mtOf ps s).V k i) ∧ NB (.slice A ((mtOf ps s).V k i).length c) X ∧ SSt (mtOf ps s) ps.length (.slice A0 ps.length c0) s w0 y X W' ∧ Ex W W' (fun b => b < y.N0) := by
  have hn : (mtOf ps s).n = s.size := rfl
  have hn0 := hS.n0
  obtain ⟨a1, a2, _, _, a4, _⟩ := hS.at hk hi
  obtain ⟨⟨h0, h1, h2, h3⟩, f0, f1, f2, f3⟩ := bC4 hS.blk
  obtain ⟨N, hN⟩ : ∃ N, (mtOf ps s).n + 1 = N := ⟨_, rfl⟩
  have hN1 : N ≤ 1048577 := by rw [← hN, hn]; exact Nat.succ_le_succ hs
  rw [hN] at a1 a2
  have g1 : decide ((k : Int) < (ps.length : Int)) = true := decide_eq_true (by omega)
  have g2 : ((k : Int) < (ps.length : Int)) = True := eq_true (by omega)
  have p1 : (0 ≤ (k : Int)) = True := eq_true (by omega)
  have g3 : decide ((i : Int) < (N : Int)) = true := decide_eq_true (by omega)
  have g4 : ((i : Int) < (N : Int)) = True := eq_true (by omega)
  have p2 : (0 ≤ (i : Int)) = True := eq_true (by omega)
  obtain ⟨ad, A2, c2, e0, x0, x1, x2, l2, i2⟩ := at_T85 hR k (by omega) (by omega)
  replace x0 := hS.inp x0
  replace x1 := hS.inp x1
  replace x2 := hS.inp x2
  subst e0
  rw [Int.toNat_natCast] at x0 x1 x2
  rw [hop] at x0
  have hu85 := Try.underlying85
  have hu30 := Try.underlying30
  obtain ⟨W1, e1, hb1, hz1, hq1b, hq2b⟩ := box4 (op := 8) (txt := (rd_T85 ps k).f1) (kv := .slice A2 (rd_T85 ps k).f2.length c2) hS.blk
  obtain ⟨W2, e2⟩ : ∃ W2, W1.alloc (.cells #[] 4) = W2 := ⟨_, rfl⟩
  have hb2 : Below W1.heap.size W1 W2 := by rw [← e2]; exact (Below.refl _ _).alloc (Nat.le_refl _) _
  have hz2 : W2.heap.size = W1.heap.size + 1 := by rw [← e2]; exact Array.size_push ..
  have hB : Below W.heap.size W W2 := hb1.trans (hb2.mono (by omega))
  have hS2 := hS.still hB
  have hX2 : ∀ q, X q → q < W2.heap.size := fun q hq => by have := hX q hq; omega
  obtain ⟨⟨z0, z1, z2⟩, t0, t1, t2⟩ := bC3 ((hb2.block W.heap.size (by omega)).trans hq2b)
  have HV := aM (show (mtOf ps s).n = s.size ∧ s.size ≤ 1048576 ∧ k < ps.length ∧ i ≤ (mtOf ps s).n ∧ (mtOf ps s).n + 1 = N ∧ y.N0 ≤ W.heap.size from ⟨hn, hs, hk, hi, hN, hn0⟩)
  have HX := aM hX; have HB := aM hB; have HX2 := aM hX2; have HS := aM hS; have HS2 := aM hS2
  obtain ⟨ad2, rfl, hw0⟩ := int_at i2 (Below.refl _ _) 0 (by omega)
  rw [Addr.add_zero'] at hw0
  have hw0 : w0.cell? ad2 = some (.int .i64 (q0 : Int)) := by rw [← hq0]; exact hw0
  have zz0 := hS2.inp hw0
  have gk0 : (0 < (rd_T85 ps k).f2.length) = True := eq_true (by omega)
  have gk0' : decide (0 < (rd_T85 ps k).f2.length) = true := decide_eq_true (by omega)
  have gk0i : ((0 : Int) < ((rd_T85 ps k).f2.length : Int)) = True := eq_true (by omega)
  have gk0i' : decide ((0 : Int) < ((rd_T85 ps k).f2.length : Int)) = true := decide_eq_true (by omega)
  have hkd : (mtOf ps s).kd k = 8 := hop
  have hc00 : (mtOf ps s).c0 k = q0 := by show (rd (rd_T85 ps k).f2 0).toNat = q0; rw [hq0, Int.toNat_natCast]
  have hNL : ∀ v e, v ≤ (mtOf ps s).n → (mtOf ps s).N q0 v e → e ≤ (mtOf ps s).n := fun v e hv h => Mt.N_le hOk q0 (by omega) v e hv h
  have HC := aM (s_again (mtOf ps s) ps.length _ s w0 y k q0 hE hq0K hn hs hNL i X W2 hi hS2 hX2)
  have HN := aM (show ∀ e, (∃ v, Rtc ((mtOf ps s).N q0) i v ∧ (mtOf ps s).N q0 v e) ↔ (mtOf ps s).N k i e from fun e => by rw [Mt.N8 hOk hk hkd, hc00, plus_iff])
  have HN2 := aM (show y.N0 ≤ W2.heap.size by omega)
  clear hn hn0 hN hN1 hk hi hs hlen hc0 hR hS hX hb1 hz1 hq1b hq2b hb2 hz2 hB hS2 hX2 l2 i2 hE hOk hop hl hq0 hq0K hw0 hkd hc00 hNL
  go_enter Try.func28, Try.ntmps28
  go_wp2_with fail
  refine HC.out.mono ?_
  intro e W6 hSg
  obtain ⟨b, out, rfl, hBo, hCm⟩ := BoS.of_sg hSg HX2.out HN2.out HV.out.2.2.2.2.1
  have hT := TR.of_bos hBo HB.out HV.out.2.2.2.2.1 (hCm.congr (fun e _ => HN.out e))
  clear hSg hBo hCm zz0
  obtain ⟨⟨r0, r1, ⟨r2, r3⟩, r4⟩, s0, s1, ⟨s2, s3⟩, s4⟩ := hT.facts HV.out.2.2.1 HV.out.2.2.2.1 HV.out.2.2.2.2.1
  have HF := aM (s_tell HX.out HV.out.2.2.2.2.2 hT.2.1 HV.out.2.2.1 HV.out.2.2.2.1 HV.out.2.2.2.2.1 hT.1 hT.2.2)
  clear hT a1 a2 a4 hd h0 h1 h2 h3 f0 f1 f2 f3 x0 x1 x2 z0 z1 z2 t0 t1 t2
  go_wp2
  go_ret
  exact HF.out
theorem s_at7 (ps : List S85) (A0 : Option Addr) (c0 : Nat) (s : ByteArray) (w0 : World) (y : Lay) (k i : Nat) (X : Nat → Prop) (W : World) (hs : s.size ≤ 1048576) (hlen : ps.length ≤ 60) (hc0 : ps.length ≤ c0) (hR : Kd.C k85 w0 A0 ps.length ps) (hk : k < ps.length) (hi : i ≤ (mtOf ps s).n) (hS : SSt (mtOf ps s) ps.length (.slice A0 ps.length c0) s w0 y X W) (hX : ∀ q, X q → q < W.heap.size) (hd : W.cell? ⟨y.D k, i, none⟩ = some (.bool false)) (hE : AtC (mtOf ps s) ps.length (.slice A0 ps.length c0) s w0 y k) (hOk : (mtOf ps s).Ok ps.length) (hop : (rd_T85 ps k).f0 = 7) (hl : 1 ≤ (rd_T85 ps k).f2.length) (q0 : Nat) (hq0 : rd (rd_T85 ps k).f2 0 = (q0 : Int)) (hq0K : q0 < k) :
    Calls Try.prog 28 #[.pointer (some ⟨y.g, 0, none⟩), .int .i64 (k : Int), .int .i64 (i : Int)] W fun e W' =>
      ∃ A c, e = .returned (.slice A ((mtOf ps s).V k i).length c) ∧ OwnV W' y.N0 (.slice A ((mtOf ps s).V k i).length c) ((mtOf ps s).V k i) ∧ NB (.slice A ((mtOf ps s).V k i).length c) X ∧ SSt (mtOf ps s) ps.length (.slice A0 ps.length c0) s w0 y X W' ∧ Ex W W' (fun b => b < y.N0) := by
  have hn : (mtOf ps s).n = s.size := rfl
  have hn0 := hS.n0
  obtain ⟨a1, a2, _, _, a4, _⟩ := hS.at hk hi
  obtain ⟨⟨h0, h1, h2, h3⟩, f0, f1, f2, f3⟩ := bC4 hS.blk
  obtain ⟨N, hN⟩ : ∃ N, (mtOf ps s).n + 1 = N := ⟨_, rfl⟩
  have hN1 : N ≤ 1048577 := by rw [← hN, hn]; exact Nat.succ_le_succ hs
  rw [hN] at a1 a2
  have g1 : decide ((k : Int) < (ps.length : Int)) = true := decide_eq_true (by omega)
  have g2 : ((k : Int) < (ps.length : Int)) = True := eq_true (by omega)
  have p1 : (0 ≤ (k : Int)) = True := eq_true (by omega)
  have g3 : decide ((i : Int) < (N : Int)) = true := decide_eq_true (by omega)
  have g4 : ((i : Int) < (N : Int)) = True := eq_true (by omega)
  have p2 : (0 ≤ (i : Int)) = True := eq_true (by omega)
  obtain ⟨ad, A2, c2, e0, x0, x1, x2, l2, i2⟩ := at_T85 hR k (by omega) (by omega)
  replace x0 := hS.inp x0
  replace x1 := hS.inp x1
  replace x2 := hS.inp x2
  subst e0
  rw [Int.toNat_natCast] at x0 x1 x2
  rw [hop] at x0
  have hu85 := Try.underlying85
  have hu30 := Try.underlying30
  obtain ⟨W1, e1, hb1, hz1, hq1b, hq2b⟩ := box4 (op := 7) (txt := (rd_T85 ps k).f1) (kv := .slice A2 (rd_T85 ps k).f2.length c2) hS.blk
  obtain ⟨W2, e2⟩ : ∃ W2, W1.alloc (.cells #[] 4) = W2 := ⟨_, rfl⟩
  have hb2 : Below W1.heap.size W1 W2 := by rw [← e2]; exact (Below.refl _ _).alloc (Nat.le_refl _) _
  have hz2 : W2.heap.size = W1.heap.size + 1 := by rw [← e2]; exact Array.size_push ..
  have hB : Below W.heap.size W W2 := hb1.trans (hb2.mono (by omega))
  have hS2 := hS.still hB
  have hX2 : ∀ q, X q → q < W2.heap.size := fun q hq => by have := hX q hq; omega
  obtain ⟨⟨z0, z1, z2⟩, t0, t1, t2⟩ := bC3 ((hb2.block W.heap.size (by omega)).trans hq2b)
  have HV := aM (show (mtOf ps s).n = s.size ∧ s.size ≤ 1048576 ∧ k < ps.length ∧ i ≤ (mtOf ps s).n ∧ (mtOf ps s).n + 1 = N ∧ y.N0 ≤ W.heap.size from ⟨hn, hs, hk, hi, hN, hn0⟩)
  have HX := aM hX; have HB := aM hB; have HX2 := aM hX2; have HS := aM hS; have HS2 := aM hS2
  obtain ⟨ad2, rfl, hw0⟩ := int_at i2 (Below.refl _ _) 0 (by omega)
  rw [Addr.add_zero'] at hw0
  have hw0 : w0.cell? ad2 = some (.int .i64 (q0 : Int)) := by rw [← hq0]; exact hw0
  have zz0 := hS2.inp hw0
  have gk0 : (0 < (rd_T85 ps k).f2.length) = True := eq_true (by omega)
  have gk0' : decide (0 < (rd_T85 ps k).f2.length) = true := decide_eq_true (by omega)
  have gk0i : ((0 : Int) < ((rd_T85 ps k).f2.length : Int)) = True := eq_true (by omega)
  have gk0i' : decide ((0 : Int) < ((rd_T85 ps k).f2.length : Int)) = true := decide_eq_true (by omega)
  have hkd : (mtOf ps s).kd k = 7 := hop
  have hc00 : (mtOf ps s).c0 k = q0 := by show (rd (rd_T85 ps k).f2 0).toNat = q0; rw [hq0, Int.toNat_natCast]
  have hNL : ∀ v e, v ≤ (mtOf ps s).n → (mtOf ps s).N q0 v e → e ≤ (mtOf ps s).n := fun v e hv h => Mt.N_le hOk q0 (by omega) v e hv h
  have HC := aM (s_again (mtOf ps s) ps.length _ s w0 y k q0 hE hq0K hn hs hNL i X W2 hi hS2 hX2)
  have HN := aM (show ∀ e, ((∃ v, Rtc ((mtOf ps s).N q0) i v ∧ (mtOf ps s).N q0 v e) ∨ e = i) ↔ (mtOf ps s).N k i e from fun e => by
    rw [Mt.N7 hOk hk hkd, hc00]
    constructor
    · rintro (⟨v, h1, h2⟩ | rfl)
      · exact h1.tail h2
      · exact .refl
    · intro h
      exact h.cases.symm)
  have HN2 := aM (show y.N0 ≤ W2.heap.size by omega)
  have HI := aM (show i < N by omega)
  clear hn hn0 hN hN1 hk hi hs hlen hc0 hR hS hX hb1 hz1 hq1b hq2b hb2 hz2 hB hS2 hX2 l2 i2 hE hOk hop hl hq0 hq0K hw0 hkd hc00 hNL
  go_enter Try.func28, Try.ntmps28
  go_wp2_with fail
  refine HC.out.mono ?_
  intro e W5 hSg
  obtain ⟨b, out, rfl, hBo, hCm⟩ := BoS.of_sg hSg HX2.out HN2.out HV.out.2.2.2.2.1
  obtain ⟨w1, w2⟩ := hBo.row.cell i HI.out
  have hCm2 := hCm.set (by rw [hBo.row.len]; exact HV.out.2.2.2.2.1.symm) i HV.out.2.2.2.1
  obtain ⟨W6, e6⟩ : ∃ W6, W5.setCell ⟨b, i, none⟩ (.bool true) = W6 := ⟨_, rfl⟩
  have hBo2 := (hBo.mark i true).1
  rw [e6] at hBo2
  have hT := TR.of_bos hBo2 HB.out HV.out.2.2.2.2.1 (hCm2.congr (fun e _ => HN.out e))
  clear hSg hBo hCm hCm2 hBo2 zz0
  obtain ⟨⟨r0, r1, ⟨r2, r3⟩, r4⟩, s0, s1, ⟨s2, s3⟩, s4⟩ := hT.facts HV.out.2.2.1 HV.out.2.2.2.1 HV.out.2.2.2.2.1
  have HF := aM (s_tell HX.out HV.out.2.2.2.2.2 hT.2.1 HV.out.2.2.1 HV.out.2.2.2.1 HV.out.2.2.2.2.1 hT.1 hT.2.2)
  clear hT a1 a2 a4 hd h0 h1 h2 h3 f0 f1 f2 f3 x0 x1 x2 z0 z1 z2 t0 t1 t2
  go_wp2
  go_ret
  exact HF.out
theorem s_at9 (ps : List S85) (A0 : Option Addr) (c0 : Nat) (s : ByteArray) (w0 : World) (y : Lay) (k i : Nat) (X : Nat → Prop) (W : World) (hs : s.size ≤ 1048576) (hlen : ps.length ≤ 60) (hc0 : ps.length ≤ c0) (hR : Kd.C k85 w0 A0 ps.length ps) (hk : k < ps.length) (hi : i ≤ (mtOf ps s).n) (hS : SSt (mtOf ps s) ps.length (.slice A0 ps.length c0) s w0 y X W) (hX : ∀ q, X q → q < W.heap.size) (hd : W.cell? ⟨y.D k, i, none⟩ = some (.bool false)) (hE : AtC (mtOf ps s) ps.length (.slice A0 ps.length c0) s w0 y k) (hOk : (mtOf ps s).Ok ps.length) (hop : (rd_T85 ps k).f0 = 9) (hl : 1 ≤ (rd_T85 ps k).f2.length) (q0 : Nat) (hq0 : rd (rd_T85 ps k).f2 0 = (q0 : Int)) (hq0K : q0 < k) :
    Calls Try.prog 28 #[.pointer (some ⟨y.g, 0, none⟩), .int .i64 (k : Int), .int .i64 (i : Int)] W fun e W' =>
      ∃ A c, e = .returned (.slice A ((mtOf ps s).V k i).length c) ∧ OwnV W' y.N0 (.slice A ((mtOf ps s).V k i).length c) ((mtOf ps s).V k i) ∧ NB (.slice A ((mtOf ps s).V k i).length c) X ∧ SSt (mtOf ps s) ps.length (.slice A0 ps.length c0) s w0 y X W' ∧ Ex W W' (fun b => b < y.N0) := by
  have hn : (mtOf ps s).n = s.size := rfl
  have hn0 := hS.n0
  obtain ⟨a1, a2, _, _, a4, _⟩ := hS.at hk hi
  obtain ⟨⟨h0, h1, h2, h3⟩, f0, f1, f2, f3⟩ := bC4 hS.blk
  obtain ⟨N, hN⟩ : ∃ N, (mtOf ps s).n + 1 = N := ⟨_, rfl⟩
  have hN1 : N ≤ 1048577 := by rw [← hN, hn]; exact Nat.succ_le_succ hs
  rw [hN] at a1 a2
  have g1 : decide ((k : Int) < (ps.length : Int)) = true := decide_eq_true (by omega)
  have g2 : ((k : Int) < (ps.length : Int)) = True := eq_true (by omega)
  have p1 : (0 ≤ (k : Int)) = True := eq_true (by omega)
  have g3 : decide ((i : Int) < (N : Int)) = true := decide_eq_true (by omega)
  have g4 : ((i : Int) < (N : Int)) = True := eq_true (by omega)
  have p2 : (0 ≤ (i : Int)) = True := eq_true (by omega)
  obtain ⟨ad, A2, c2, e0, x0, x1, x2, l2, i2⟩ := at_T85 hR k (by omega) (by omega)
  replace x0 := hS.inp x0
  replace x1 := hS.inp x1
  replace x2 := hS.inp x2
  subst e0
  rw [Int.toNat_natCast] at x0 x1 x2
  rw [hop] at x0
  have hu85 := Try.underlying85
  have hu30 := Try.underlying30
  obtain ⟨W1, e1, hb1, hz1, hq1b, hq2b⟩ := box4 (op := 9) (txt := (rd_T85 ps k).f1) (kv := .slice A2 (rd_T85 ps k).f2.length c2) hS.blk
  obtain ⟨W2, e2⟩ : ∃ W2, W1.alloc (.cells #[] 4) = W2 := ⟨_, rfl⟩
  have hb2 : Below W1.heap.size W1 W2 := by rw [← e2]; exact (Below.refl _ _).alloc (Nat.le_refl _) _
  have hz2 : W2.heap.size = W1.heap.size + 1 := by rw [← e2]; exact Array.size_push ..
  have hB : Below W.heap.size W W2 := hb1.trans (hb2.mono (by omega))
  have hS2 := hS.still hB
  have hX2 : ∀ q, X q → q < W2.heap.size := fun q hq => by have := hX q hq; omega
  obtain ⟨⟨z0, z1, z2⟩, t0, t1, t2⟩ := bC3 ((hb2.block W.heap.size (by omega)).trans hq2b)
  have HV := aM (show (mtOf ps s).n = s.size ∧ s.size ≤ 1048576 ∧ k < ps.length ∧ i ≤ (mtOf ps s).n ∧ (mtOf ps s).n + 1 = N ∧ y.N0 ≤ W.heap.size from ⟨hn, hs, hk, hi, hN, hn0⟩)
  have HX := aM hX; have HB := aM hB; have HX2 := aM hX2; have HS := aM hS; have HS2 := aM hS2
  obtain ⟨ad2, rfl, hw0⟩ := int_at i2 (Below.refl _ _) 0 (by omega)
  rw [Addr.add_zero'] at hw0
  have hw0 : w0.cell? ad2 = some (.int .i64 (q0 : Int)) := by rw [← hq0]; exact hw0
  have zz0 := hS2.inp hw0
  have gk0 : (0 < (rd_T85 ps k).f2.length) = True := eq_true (by omega)
  have gk0' : decide (0 < (rd_T85 ps k).f2.length) = true := decide_eq_true (by omega)
  have gk0i : ((0 : Int) < ((rd_T85 ps k).f2.length : Int)) = True := eq_true (by omega)
  have gk0i' : decide ((0 : Int) < ((rd_T85 ps k).f2.length : Int)) = true := decide_eq_true (by omega)
  have hkd : (mtOf ps s).kd k = 9 := hop
  have hc00 : (mtOf ps s).c0 k = q0 := by show (rd (rd_T85 ps k).f2 0).toNat = q0; rw [hq0, Int.toNat_natCast]
  have hNL : ∀ v e, v ≤ (mtOf ps s).n → (mtOf ps s).N q0 v e → e ≤ (mtOf ps s).n := fun v e hv h => Mt.N_le hOk q0 (by omega) v e hv h
  have hS3 : SSt (mtOf ps s) ps.length (.slice (some ad) ps.length c0) s w0 y (fun q => X q ∨ q = W1.heap.size) W2 := hS.step (Ex.of_below hB (fun _ => False)) (fun _ h _ => h.elim) (fun q hq => hq.imp id (fun e => by omega))
  have HC := aM (hE q0 i (fun q => X q ∨ q = W1.heap.size) W2 hq0K hi hS3 (fun q hq => by rcases hq with e | e; exact hX2 q e; omega))
  have hem : OwnV W2 W.heap.size (.slice (some ⟨W1.heap.size, 0, none⟩) 0 0) [] := by rw [← e2]; exact own_empty W1 W.heap.size (by omega)
  have HEM := aM hem
  have HN := aM (show ∀ e, ((mtOf ps s).N q0 i e ∨ e = i) ↔ (mtOf ps s).N k i e from fun e => by rw [Mt.N9 hOk hk hkd, hc00]; exact Or.comm)
  have HC0 := aM (show Cm ((mtOf ps s).V q0 i) (mtOf ps s).n ((mtOf ps s).N q0 i) from fun j hj => V_get (m := mtOf ps s) (k := q0) (i := i) j hj)
  have HLV := aM (show ((mtOf ps s).V q0 i).length = N from (V_len ..).trans hN)
  have HI := aM (show i < N ∧ N ≤ 1048577 ∧ W.heap.size ≤ W1.heap.size ∧ W.heap.size ≤ W2.heap.size ∧ Ex W W2 (fun q => q < y.N0) from ⟨by omega, hN1, by omega, by omega, Ex.of_below hB _⟩)
  clear hn hn0 hN hN1 hk hi hs hlen hc0 hR hS hX hb1 hz1 hq1b hq2b hb2 hz2 hB hS2 hX2 l2 i2 hE hOk hop hl hq0 hq0K hw0 hkd hc00 hNL hS3 hem
  go_enter Try.func28, Try.ntmps28
  go_wp2_with fail
  refine HC.out.mono ?_
  rintro e W3 ⟨A3, c3, rfl, ho3, hn3, hs3, hx3⟩
  obtain ⟨A9, c9, e9, hrd⟩ := own_reads_of (d := false) ho3
  injection e9 with e91 _ e93
  subst e91 e93
  rw [HLV.out] at ho3 hn3 hrd ⊢
  have HEM3 := aM (HEM.out.kept hx3 (fun q hq e => by injection hq with hq; have hq : W1.heap.size = q := hq; have := HI.out; have := HV.out; omega))
  have HRD := aM hrd
  have HBS := aM (show W.heap.size ≤ W3.heap.size from Nat.le_trans HI.out.2.2.2.1 hx3.size)
  have HLEN := aM (show (([] : List Bool).length + N) * 1 ≤ 140737488355328 from by have := HI.out; simp only [List.length_nil]; omega)
  have HOP := aM (show ∀ v4 W4, W4.ownsRow W.heap.size 4 1 v4 ([] ++ (mtOf ps s).V q0 i).length (encs Value.bool ([] ++ (mtOf ps s).V q0 i)) → W3.grownBy W4 (some W1.heap.size) → (v4.ownBlock = some W1.heap.size ∨ ∃ b, v4.ownBlock = some b ∧ W3.heap.size ≤ b) → ∃ b c4 W6 d r2 s2, v4 = .slice (some ⟨b, 0, none⟩) N c4 ∧ W4.setCell ⟨b, i, none⟩ (.bool true) = W6 ∧ W4.cell? ⟨b, i, none⟩ = some (.bool d) ∧ W4.frozen? ⟨b, i, none⟩ = false ∧ Aside0 (TR (mtOf ps s) ps.length (.slice (some ad) ps.length c0) s w0 y k i X W b N c4 W6) ∧
    (W6.cell? ⟨y.g, 2, none⟩ = some (.slice (some ⟨y.db, 0, none⟩) ps.length y.cd) ∧ W6.cell? ⟨y.db, k, none⟩ = some (.slice (some ⟨y.D k, 0, none⟩) N N) ∧ W6.cell? ⟨y.D k, i, none⟩ = some (.bool r2) ∧ W6.frozen? ⟨y.D k, i, none⟩ = false) ∧
    ((W6.setCell ⟨y.D k, i, none⟩ (.bool true)).cell? ⟨y.g, 3, none⟩ = some (.slice (some ⟨y.eb, 0, none⟩) ps.length y.ce) ∧ (W6.setCell ⟨y.D k, i, none⟩ (.bool true)).cell? ⟨y.eb, k, none⟩ = some (.slice (some ⟨y.E k, 0, none⟩) N N) ∧ (W6.setCell ⟨y.D k, i, none⟩ (.bool true)).cell? ⟨y.E k, i, none⟩ = some s2 ∧ (W6.setCell ⟨y.D k, i, none⟩ (.bool true)).frozen? ⟨y.E k, i, none⟩ = false) from fun v4 W4 j1 j3 j4 => by
    have ho4 : OwnV W4 W.heap.size v4 ((mtOf ps s).V q0 i) := j1
    have hform : ∃ b c4, v4 = .slice (some ⟨b, 0, none⟩) N c4 := by
      rcases ho4.2 with ⟨_, h0⟩ | ⟨b, c4, cur, hv4, _⟩
      · rw [HLV.out] at h0; have := HI.out; omega
      · exact ⟨b, c4, by rw [hv4, HLV.out]⟩
    obtain ⟨b, c4, rfl⟩ := hform
    have hb4 : b = W1.heap.size ∨ W3.heap.size ≤ b := by
      rcases j4 with h | ⟨b', h, h2⟩
      · injection h with h; exact .inl h
      · injection h with h; have h : b = b' := h; exact .inr (by omega)
    have hcm := (HC0.out.set (by rw [HLV.out]; exact HV.out.2.2.2.2.1.symm) i HV.out.2.2.2.1).congr (fun e _ => HN.out e)
    obtain ⟨hT, ⟨w1, w2⟩, w3⟩ := TR.opt HX.out HV.out.2.2.2.2.2 HLV.out hs3 HI.out.2.2.1 (HI.out.2.2.2.2.trans hx3 (fun q hq _ => hq)) ho4 j3 hb4 HV.out.2.2.2.2.1 HV.out.2.2.2.1 hcm
    obtain ⟨⟨r0, r1, ⟨r2, r3⟩, r4⟩, s0, s1, ⟨s2, s3⟩, s4⟩ := hT.facts HV.out.2.2.1 HV.out.2.2.2.1 HV.out.2.2.2.2.1
    exact ⟨b, c4, _, w1, r2, s2, rfl, rfl, w2, w3, aM hT, ⟨r0, r1, r3, r4⟩, s0, s1, s3, s4⟩)
  clear ho3 hn3 hrd hs3 hx3 zz0 a1 a2 a4 hd h0 h1 h2 h3 f0 f1 f2 f3 x0 x1 x2 z0 z1 z2 t0 t1 t2
  go_wp2_with ((with_reducible refine gate_builtin (b := .append) (xs := #[.tmp 53, .tmp 60]) rfl ?_); at_builtin; refine print_append_row_of (w0 := _) Value.bool false W.heap.size rfl (.tmp 53) (.tmp 60) 58 4 (.bool false) 1 rfl Try.underlying58 info_b rfl (by decide) (fun _ => rfl) (.slice (some ⟨W1.heap.size, 0, none⟩) 0 0) [] ((mtOf ps s).V q0 i) _ _ _ rfl rfl HEM3.out HRD.out (Below.refl _ _) HBS.out HLEN.out ?_; intro v4 W4 j1 j2 j3 j4; obtain ⟨b, c4, W6, d, r2, s2, rfl, e6, w2, w3, HT, ⟨r0, r1, r3, r4⟩, s0, s1, s3, s4⟩ := HOP.out v4 W4 j1 j3 j4; clear j1 j2 j3 j4)
  have HF := s_tell HX.out HV.out.2.2.2.2.2 HT.out.2.1 HV.out.2.2.1 HV.out.2.2.2.1 HV.out.2.2.2.2.1 HT.out.1 HT.out.2.2
  go_ret
  exact HF
theorem s_atk {ps : List S85} (h : PsOk ps) (htx : ∀ k : Nat, k < ps.length → (rd_T85 ps k).f1.size ≤ 1048576) (A0 : Option Addr) (c0 : Nat) (s : ByteArray) (w0 : World) (y : Lay) (k : Nat) (hk : k < ps.length) (hs : s.size ≤ 1048576) (hc0 : ps.length ≤ c0) (hR : Kd.C k85 w0 A0 ps.length ps)
    (hE : AtC (mtOf ps s) ps.length (.slice A0 ps.length c0) s w0 y k) (i : Nat) (X : Nat → Prop) (W : World) (hi : i ≤ (mtOf ps s).n) (hS : SSt (mtOf ps s) ps.length (.slice A0 ps.length c0) s w0 y X W) (hX : ∀ q, X q → q < W.heap.size) :
    Calls Try.prog 28 #[.pointer (some ⟨y.g, 0, none⟩), .int .i64 (k : Int), .int .i64 (i : Int)] W fun e W' =>
      ∃ A c, e = .returned (.slice A ((mtOf ps s).V k i).length c) ∧ OwnV W' y.N0 (.slice A ((mtOf ps s).V k i).length c) ((mtOf ps s).V k i) ∧ NB (.slice A ((mtOf ps s).V k i).length c) X ∧ SSt (mtOf ps s) ps.length (.slice A0 ps.length c0) s w0 y X W' ∧ Ex W W' (fun b => b < y.N0) := by
  have hOk := mt_ok h s
  obtain ⟨_, _, d, hd, _⟩ := hS.at hk hi
  cases d with
  | true => exact s_at1 _ _ _ s w0 y k i X W hk hi hS h.len hd
  | false =>
    obtain ⟨h1, h2⟩ := h.op k hk
    by_cases c1 : isOne (rd_T85 ps k).f0 = true
    · exact s_atone ps A0 c0 s w0 y k i X W hs h.len hc0 hR hk hi hS hX hd c1 (htx k hk)
    rw [isOne_iff] at c1
    by_cases c5 : (rd_T85 ps k).f0 = 5
    · obtain ⟨t1, t2, t3⟩ := h.two k hk (.inl c5)
      exact s_at5 ps A0 c0 s w0 y k i X W hs h.len hc0 hR hk hi hS hX hd hE hOk c5 t1 _ (Int.toNat_of_nonneg t2.1).symm (by omega) _ (Int.toNat_of_nonneg t3.1).symm (by omega)
    by_cases c6 : (rd_T85 ps k).f0 = 6
    · obtain ⟨t1, t2, t3⟩ := h.two k hk (.inr c6)
      exact s_at6 ps A0 c0 s w0 y k i X W hs h.len hc0 hR hk hi hS hX hd hE hOk c6 t1 _ (Int.toNat_of_nonneg t2.1).symm (by omega) _ (Int.toNat_of_nonneg t3.1).symm (by omega)
    by_cases c7 : (rd_T85 ps k).f0 = 7
    · obtain ⟨t1, t2⟩ := h.one k hk (.inl c7)
      exact s_at7 ps A0 c0 s w0 y k i X W hs h.len hc0 hR hk hi hS hX hd hE hOk c7 t1 _ (Int.toNat_of_nonneg t2.1).symm (by omega)
    by_cases c8 : (rd_T85 ps k).f0 = 8
    · obtain ⟨t1, t2⟩ := h.one k hk (.inr (.inl c8))
      exact s_at8 ps A0 c0 s w0 y k i X W hs h.len hc0 hR hk hi hS hX hd hE hOk c8 t1 _ (Int.toNat_of_nonneg t2.1).symm (by omega)
    by_cases c9 : (rd_T85 ps k).f0 = 9
    · obtain ⟨t1, t2⟩ := h.one k hk (.inr (.inr c9))
      exact s_at9 ps A0 c0 s w0 y k i X W hs h.len hc0 hR hk hi hS hX hd hE hOk c9 t1 _ (Int.toNat_of_nonneg t2.1).symm (by omega)
    by_cases c10 : (rd_T85 ps k).f0 = 10
    · exact s_at10 ps A0 c0 s w0 y k i X W hs h.len hc0 hR hk hi hS hX hd c10
    by_cases c11 : (rd_T85 ps k).f0 = 11
    · exact s_at11 ps A0 c0 s w0 y k i X W hs h.len hc0 hR hk hi hS hX hd c11
    have c12 : (rd_T85 ps k).f0 = 12 := by omega
    exact s_at12 ps A0 c0 s w0 y k i X W hs h.len hc0 hR hk hi hS hX hd c12
theorem s_all {ps : List S85} (h : PsOk ps) (htx : ∀ k : Nat, k < ps.length → (rd_T85 ps k).f1.size ≤ 1048576) (A0 : Option Addr) (c0 : Nat) (s : ByteArray) (w0 : World) (y : Lay) (hs : s.size ≤ 1048576) (hc0 : ps.length ≤ c0) (hR : Kd.C k85 w0 A0 ps.length ps) : ∀ K, K ≤ ps.length → AtC (mtOf ps s) ps.length (.slice A0 ps.length c0) s w0 y K
  | 0, _ => fun k i X W hk => absurd hk (by omega)
  | K + 1, hK => fun k i X W hk hi hS hX => by
    have hE := s_all h htx A0 c0 s w0 y hs hc0 hR K (by omega)
    by_cases c : k < K
    · exact hE k i X W c hi hS hX
    · obtain rfl : k = K := by omega
      exact s_atk h htx A0 c0 s w0 y k (by omega) hs hc0 hR hE i X W hi hS hX
end Go.Proofs.Ytnjomkadjcjcnaa.QFnExactEndsAt
