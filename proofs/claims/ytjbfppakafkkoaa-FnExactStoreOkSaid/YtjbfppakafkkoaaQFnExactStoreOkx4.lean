-- A text of this session, made by wip/own_print.py (the kit's print with additions of ours).
import Derived.Test.YtjbfppakafkkoaaQFnExactStoreOkx0
import Derived.Test.YtjbfppakafkkoaaQFnExactStoreOkx3
namespace Go.Proofs.Ytjbfppakafkkoaa.QFnExactStoreOk
open Go.RowKit Go.Proofs.YtjbfppakafkkoaaW.PrintWords Go.Proofs.YtjbfppakafkkoaaW.PrintLast Go.Proofs.YtjbfppakafkkoaaW.PrintMore
attribute [local go_sem] max2_int min2_int max_two min_two max_three min_three max_four min_four   -- for this text's walks alone
set_option linter.unusedVariables false
set_option linter.unusedSimpArgs false
open Bool renaming true → bT, false → bf
open Go.Proofs.YtjbfppakafkkoaaW.PrintWords.Kd renaming R_alloc → rA, R_drewN → rN, R_drew → rD, C_alloc → cA, C_drewN → cN, C_drew → cD, R_far → rF, R_below → rB, R_lower → rL, R_lt → rT, R_base → rS, C_below → cB, R_types → rY, R_elder' → rE, R_reads' → rR, R_new' → rW
open Go.Proofs.YtjbfppakafkkoaaW.PrintWords renaming blk_drewN → bN, blk_drew → bD, blk_alloc → bA, below_set → lS, pw_below_drewN → lN, below_drew1 → lD, below_alloc → lA, blk_cell → bC, blk_below → bB, below_size → lZ, below_step → lP, blk_lt → bL, blk_frozen → bF
open Go.Proofs.YtjbfppakafkkoaaW.PrintWords.Aside0 renaming mk → aM
theorem q_ia4 {α : Type} (l : List α) (i : Nat) (a : α) : l.toArray.setIfInBounds i a = (l.set i a).toArray := List.setIfInBounds_toArray ..
theorem q_cz4 {α : Type} (a b : α) (l : List α) : (a :: l).set 0 b = b :: l := rfl
theorem q_cs4 {α : Type} (a b : α) (l : List α) (n : Nat) : (a :: l).set (n + 1) b = a :: l.set n b := rfl

/-! ### spec_StoreOk: function 56 -/
mutual
def spec_StoreOk.l0 : Nat → Int → List (S105) → List (S61) → ByteArray → Option (Bool)
 | 0, _, _, _, _ => none
 | k + 1, x3, x159000, x159001, x159002 => if x3 < (x159000.length : Int) then (if 0 ≤ x3 then ((spec_l07Name.f k ((rd_T105 x159000 x3).f0)).bind fun t161 => (if t161 = true then (if (((rd_T105 x159000 x3).f1).size : Int) > 40 then (some false) else (if x3 > 0 then (if 0 ≤ (wrap64 (x3 - 1)) then (if (wrap64 (x3 - 1)) < (x159000.length : Int) then (if ((Op.bytesLess (((rd_T105 x159000 (wrap64 (x3 - 1))).f0).toList) (((rd_T105 x159000 x3).f0).toList)) = true) then (spec_StoreOk.l0 k (wrap64 (x3 + 1)) x159000 x159001 x159002) else (some false)) else (none)) else (none)) else (spec_StoreOk.l0 k (wrap64 (x3 + 1)) x159000 x159001 x159002))) else (some false))) else (none)) else (spec_StoreOk.l1 k 0 x159000 x159001 x159002)
def spec_StoreOk.l1 : Nat → Int → List (S105) → List (S61) → ByteArray → Option (Bool)
 | 0, _, _, _, _ => none
 | k + 1, x5, x159000, x159001, x159002 => if x5 < (x159001.length : Int) then (if 0 ≤ x5 then ((spec_l07Name.f k ((rd_T61 x159001 x5).f0)).bind fun t165 => (if t165 = true then (if (((rd_T61 x159001 x5).f1).size : Int) > 40 then (some false) else (if (((rd_T61 x159001 x5).f2).size : Int) > 40 then (some false) else (if x5 > 0 then (if 0 ≤ (wrap64 (x5 - 1)) then (if (wrap64 (x5 - 1)) < (x159001.length : Int) then ((spec_l08Ahead.f ((rd_T61 x159001 (wrap64 (x5 - 1))).f0) ((rd_T61 x159001 (wrap64 (x5 - 1))).f1) ((rd_T61 x159001 (wrap64 (x5 - 1))).f2) ((rd_T61 x159001 x5).f0) ((rd_T61 x159001 x5).f1) ((rd_T61 x159001 x5).f2)).bind fun t167 => (if t167 = true then (spec_StoreOk.l1 k (wrap64 (x5 + 1)) x159000 x159001 x159002) else (some false))) else (none)) else (none)) else (spec_StoreOk.l1 k (wrap64 (x5 + 1)) x159000 x159001 x159002)))) else (some false))) else (none)) else (if (x159000.length : Int) ≤ 60 then (if (x159001.length : Int) ≤ 2000 then (some (decide ((x159002.size : Int) ≤ 3000))) else (some false)) else (some false))
end
def spec_StoreOk.f (k : Nat) (l0_0 : List (S105)) (l0_1 : List (S61)) (a0_2 : ByteArray) : Option (Bool) := spec_StoreOk.l0 k 0 l0_0 l0_1 a0_2
theorem spec_StoreOk.mono_l : ∀ k, (∀ y0 y1 y2 y3, LeO (spec_StoreOk.l0 k y0 y1 y2 y3) (spec_StoreOk.l0 (k + 1) y0 y1 y2 y3)) ∧ (∀ y0 y1 y2 y3, LeO (spec_StoreOk.l1 k y0 y1 y2 y3) (spec_StoreOk.l1 (k + 1) y0 y1 y2 y3))
 | 0 => ⟨fun _ _ _ _ r h => by simp [spec_StoreOk.l0] at h, fun _ _ _ _ r h => by simp [spec_StoreOk.l1] at h⟩
 | k + 1 => by
  obtain ⟨ih0, ih1⟩ := spec_StoreOk.mono_l k
  refine ⟨?_, ?_⟩
  ·intro y0 y1 y2 y3
   unfold spec_StoreOk.l0
   repeat' first
   | (with_reducible exact ih0 _ _ _ _)
   | (with_reducible exact ih1 _ _ _ _)
   | (with_reducible exact spec_l07Name.mono _ _)
   | (with_reducible exact LeO.refl _)
   | (with_reducible exact LeO.none _)
   | (with_reducible refine LeO.ite ?_ ?_)
   | (with_reducible refine LeO.bind ?_ (fun _ => ?_))
   | exact ih0 _ _ _ _
   | exact ih1 _ _ _ _
   | exact spec_l07Name.mono _ _
   | exact LeO.none _
   | refine LeO.ite ?_ ?_
   | refine LeO.bind ?_ (fun _ => ?_)
  ·intro y0 y1 y2 y3
   unfold spec_StoreOk.l1
   repeat' first
   | (with_reducible exact ih0 _ _ _ _)
   | (with_reducible exact ih1 _ _ _ _)
   | (with_reducible exact spec_l07Name.mono _ _)
   | (with_reducible exact LeO.refl _)
   | (with_reducible exact LeO.none _)
   | (with_reducible refine LeO.ite ?_ ?_)
   | (with_reducible refine LeO.bind ?_ (fun _ => ?_))
   | exact ih0 _ _ _ _
   | exact ih1 _ _ _ _
   | exact spec_l07Name.mono _ _
   | exact LeO.none _
   | refine LeO.ite ?_ ?_
   | refine LeO.bind ?_ (fun _ => ?_)
theorem spec_StoreOk.mono : ∀ a0 a1 a2 k, LeO (spec_StoreOk.f k a0 a1 a2) (spec_StoreOk.f (k + 1) a0 a1 a2) := by
 intro a0 a1 a2 k
 obtain ⟨ih0, ih1⟩ := spec_StoreOk.mono_l k
 unfold spec_StoreOk.f
 repeat' first
   | (with_reducible exact ih0 _ _ _ _)
   | (with_reducible exact ih1 _ _ _ _)
   | (with_reducible exact spec_l07Name.mono _ _)
   | (with_reducible exact LeO.refl _)
   | (with_reducible exact LeO.none _)
   | (with_reducible refine LeO.ite ?_ ?_)
   | (with_reducible refine LeO.bind ?_ (fun _ => ?_))
   | exact ih0 _ _ _ _
   | exact ih1 _ _ _ _
   | exact spec_l07Name.mono _ _
   | exact LeO.none _
   | refine LeO.ite ?_ ?_
   | refine LeO.bind ?_ (fun _ => ?_)
def spec_StoreOk.T5 : Bool × List (List Nat × List Nat) := (true, [([], []), ([0], [0]), ([1], [1]), ([2], [2]), ([3, 2], [3]), ([4], [4]), ([5, 4], [4, 5]), ([6, 4], [4, 6]), ([7, 4], [4, 7]), ([4, 8], [4, 8]), ([9, 4], [9]), ([10], [10]), ([11, 10], [10, 11]), ([12, 10, 10], [10, 12]), ([13], [13]), ([14, 13], [13, 14]), ([13], [13]), ([16, 13], [13, 16]), ([15, 17, 13], [13, 15, 17]), ([18, 13], [13, 18]), ([19, 13], [13, 19]), ([13], [13]), ([21, 13], [13, 21]), ([20, 22, 13], [13, 20, 22]), ([13, 23, 10], [10, 13, 23]), ([10, 24], [10, 24])])
def spec_StoreOk.B5 : List Nat := [0, 1, 3, 7, 15, 31, 63, 127, 255, 511, 1023, 2047, 4095, 8191, 16383, 32767, 16383, 81919, 262143, 524287, 1048575, 16383, 2113535, 8388607, 16777215, 33554431]
theorem spec_StoreOk.tab5 : rtab .any (opsOf Try.f56 5) = spec_StoreOk.T5 := by kernel_rfl
theorem spec_StoreOk.bits5 : waitsOk spec_StoreOk.T5.2 spec_StoreOk.B5 = true := by kernel_rfl
def spec_StoreOk.T11 : Bool × List (List Nat × List Nat) := (true, [([], []), ([0], [0]), ([1], [1]), ([2], [2]), ([3, 2], [3]), ([4], [4]), ([5, 4], [4, 5]), ([6, 4], [4, 6]), ([7, 4], [4, 7]), ([4, 8], [4, 8]), ([9, 4], [9]), ([10], [10]), ([11, 10], [10, 11]), ([12, 10], [10, 12]), ([13, 10], [10, 13]), ([10, 14], [10, 14]), ([15, 10], [15]), ([16], [16]), ([17, 16], [16, 17]), ([18, 16, 16], [16, 18]), ([19], [19]), ([20, 19], [19, 20]), ([19], [19]), ([22, 19], [19, 22]), ([21, 23, 19], [19, 21, 23]), ([24, 19], [19, 24]), ([19], [19]), ([25, 26, 19, 19], [19, 25, 26]), ([27, 19], [19, 27]), ([19, 28, 16], [16, 19, 28]), ([16, 29], [16, 29])])
def spec_StoreOk.B11 : List Nat := [0, 1, 3, 7, 15, 31, 63, 127, 255, 511, 1023, 2047, 4095, 8191, 16383, 32767, 65535, 131071, 262143, 524287, 1048575, 2097151, 1048575, 5242879, 16777215, 33554431, 1048575, 134217727, 268435455, 536870911, 1073741823]
theorem spec_StoreOk.tab11 : rtab .any (opsOf Try.f56 11) = spec_StoreOk.T11 := by kernel_rfl
theorem spec_StoreOk.bits11 : waitsOk spec_StoreOk.T11.2 spec_StoreOk.B11 = true := by kernel_rfl
set_option maxHeartbeats 8000000 in
set_option maxRecDepth 100000 in
theorem spec_StoreOk.calls (k : Nat) (A0_0 : Option Addr) (c0_0 : Nat) (l0_0 : List (S105)) (A0_1 : Option Addr) (c0_1 : Nat) (l0_1 : List (S61)) (a0_2 : ByteArray) (r : Bool) (w : World) (hr0_0 : Kd.C k105 w A0_0 l0_0.length l0_0) (hc0_0 : l0_0.length ≤ c0_0) (hr0_1 : Kd.C k61 w A0_1 l0_1.length l0_1) (hc0_1 : l0_1.length ≤ c0_1) (h : spec_StoreOk.f k l0_0 l0_1 a0_2 = some r) :
  Calls Try.prog 56 #[.agg #[.slice A0_0 l0_0.length c0_0,.slice A0_1 l0_1.length c0_1,.string a0_2]] w fun e w' => e = .returned (.bool r) ∧ Below w.heap.size w w':=by
 have hu54:=Try.underlying54
 have hu105:=Try.underlying105
 have hu61:=Try.underlying61
 have HR0_0:=aM hr0_0
 have HC0_0:=aM hc0_0
 clear hr0_0 hc0_0
 have HR0_1:=aM hr0_1
 have HC0_1:=aM hc0_1
 clear hr0_1 hc0_1
 have HB:=aM (Below.refl w.heap.size w)
 have H : (spec_StoreOk.l0 k 0 l0_0 l0_1 a0_2) = some r:=h
 clear h
 have H':=aM H
 clear H
 go_enter Try.func56,Try.ntmps56
 go_wp2_with (first|((with_reducible refine gate_dst (N:=1) rfl ?_);(try (refine gate_guard (by rfl) ?_;dsimp only));refine box_event ?hg (N:=1) ?hd (cs:=#[.slice A0_0 l0_0.length c0_0,.slice A0_1 l0_1.length c0_1,.string a0_2]) (t:=54) ?hr ?_;(case hd => rfl);(case hg => rfl);(case hr => first|(go_simp;done)|(go_simp;rfl));intro gb158 hg w2 hbox hb;have n0_:=aM (lP (by repeat (first|(with_reducible first|exact HB.out|apply lA|apply lN|apply lD)|exact HB.out)) hb);have n1_:=aM (hbox);have n2_:=aM ((by rw [hg];exact (lZ (by repeat (first|(with_reducible first|exact HB.out|apply lA|apply lN|apply lD)|exact HB.out))) : w.heap.size ≤ gb158));have n3_:=aM ((by rw [hg];exact (lZ (by repeat (first|(with_reducible first|exact HB.out|apply lA|apply lN|apply lD)|exact HB.out))) : w.heap.size ≤ gb158));clear HB;have HB:=n0_;have BK158:=n1_;have GW158:=n2_;have GE158:=n3_;clear n0_ n1_ n2_ n3_ hb hbox hg))
 go_loopg [3] k (fun kq v3 w' => ∃ (x3_1 : Int),v3 = .int .i64 x3_1 ∧ Aside0 (spec_StoreOk.l0 kq x3_1 l0_0 l0_1 a0_2 = some r) ∧ Aside0 (kq ≤ k) ∧ Aside0 (w'.heap[gb158]? = some (.cells #[(.slice A0_0 l0_0.length c0_0),(.slice A0_1 l0_1.length c0_1),.string a0_2] 54 (0,0))) ∧ Aside0 (Below w.heap.size w w'))
 case atStart => exact ⟨(0),(by first|rfl|(simp;done)|(simp [*];done)),H',⟨Nat.le_refl _⟩,⟨by (with_reducible repeat (first|refine bN ?_ _|refine bD ?_|refine bA ?_ _));exact BK158.out⟩,⟨by repeat (first|(with_reducible first|exact HB.out|apply lA|apply lN|apply lD|refine lS ?_ GE158.out)|exact HB.out)⟩⟩
 case round =>
  clear H'
  try clear p2
  obtain ⟨x3_1,rfl,HA,HK1,BK158,HB⟩:=hrel
  cases gk with
  |zero => exact absurd HA.out (by simp [spec_StoreOk.l0])
  |succ k1 =>
   have H:=HA.out
   clear HA
   simp only [spec_StoreOk.l0] at H
   by_cases c3 : x3_1 < (l0_0.length : Int)
   ·rw [if_pos c3] at H
    have c3b0 : decide (x3_1 < (l0_0.length : Int)) = true:=decide_eq_true c3
    clear c3
    by_cases c4 : 0 ≤ x3_1
    ·rw [if_pos c4] at H
     have c4b0 : decide (0 ≤ x3_1) = true:=decide_eq_true c4
     clear c4
     replace H:=Option.bind_eq_some_iff.mp H
     obtain ⟨t161,A50,H⟩:=H
     replace H : (if t161 = true then (if (((rd_T105 l0_0 x3_1).f1).size : Int) > 40 then (some false) else (if x3_1 > 0 then (if 0 ≤ (wrap64 (x3_1 - 1)) then (if (wrap64 (x3_1 - 1)) < (l0_0.length : Int) then (if ((Op.bytesLess (((rd_T105 l0_0 (wrap64 (x3_1 - 1))).f0).toList) (((rd_T105 l0_0 x3_1).f0).toList)) = true) then (spec_StoreOk.l0 k1 (wrap64 (x3_1 + 1)) l0_0 l0_1 a0_2) else (some false)) else (none)) else (none)) else (spec_StoreOk.l0 k1 (wrap64 (x3_1 + 1)) l0_0 l0_1 a0_2))) else (some false)) = some r:=H
     have A5:=aM A50
     clear A50
     by_cases c6 : t161 = true
     ·subst c6
      have H1 : (if (((rd_T105 l0_0 x3_1).f1).size : Int) > 40 then (some false) else (if x3_1 > 0 then (if 0 ≤ (wrap64 (x3_1 - 1)) then (if (wrap64 (x3_1 - 1)) < (l0_0.length : Int) then (if ((Op.bytesLess (((rd_T105 l0_0 (wrap64 (x3_1 - 1))).f0).toList) (((rd_T105 l0_0 x3_1).f0).toList)) = true) then (spec_StoreOk.l0 k1 (wrap64 (x3_1 + 1)) l0_0 l0_1 a0_2) else (some false)) else (none)) else (none)) else (spec_StoreOk.l0 k1 (wrap64 (x3_1 + 1)) l0_0 l0_1 a0_2))) = some r:=by rw [if_pos rfl] at H;exact H
      clear H
      have H:=H1
      clear H1
      by_cases c7 : (((rd_T105 l0_0 x3_1).f1).size : Int) > 40
      ·rw [if_pos c7] at H
       have c7b0 : decide (40 < (((rd_T105 l0_0 x3_1).f1).size : Int)) = true:=decide_eq_true c7
       have c7b1 : decide (40 < ((rd_T105 l0_0 x3_1).f1).size) = true:=decide_eq_true (by omega)
       clear c7
       obtain rfl:=Option.some.inj H
       have hcz8_0 : wr.cell? ⟨gb158,0,none⟩ = some (.slice A0_0 l0_0.length c0_0):=(bC BK158.out 0).trans rfl
       have hcz8_1 : wr.cell? ⟨gb158,1,none⟩ = some (.slice A0_1 l0_1.length c0_1):=(bC BK158.out 1).trans rfl
       have hcz8_2 : wr.cell? ⟨gb158,2,none⟩ = some (.string a0_2):=(bC BK158.out 2).trans rfl
       have hfz8_0:=bF BK158.out 0
       have hfz8_1:=bF BK158.out 1
       have hfz8_2:=bF BK158.out 2
       have p159 : 0 ≤ (x3_1 : Int):=of_decide_eq_true (by first|(with_reducible assumption)|assumption)
       have q159 : x3_1 < (l0_0.length : Int):=of_decide_eq_true (by first|(with_reducible assumption)|assumption)
       obtain ⟨ad159,e159,hx159_0,hx159_1⟩:=at_T105 HR0_0.out x3_1 p159 q159
       cases e159
       replace hx159_0:=(HB.out.cell (World.block_lt_of_cell? w _ hx159_0)).trans hx159_0
       replace hx159_1:=(HB.out.cell (World.block_lt_of_cell? w _ hx159_1)).trans hx159_1
       replace p159:=eq_true p159
       replace q159:=eq_true q159
       try go_wp2_with (first|((with_reducible refine gate_dst (N:=4) rfl ?_);(try (refine gate_guard (by rfl) ?_;dsimp only));refine box_event ?hg (N:=4) ?hd (cs:=#[.string (⟨#[]⟩ : ByteArray),.string (⟨#[]⟩ : ByteArray)]) (t:=105) ?hr ?_;(case hd => rfl);(case hg => rfl);(case hr => first|(go_simp;done)|(go_simp;rfl));intro gb160 hg w9 hbox hb;have n0_:=aM (bB (g:=gb158) (o:=.cells #[.slice (some ad159) l0_0.length c0_0,.slice A0_1 l0_1.length c0_1,.string a0_2] 54 (0,0)) (by (with_reducible repeat (first|refine bN ?_ _|refine bD ?_|refine bA ?_ _));exact BK158.out) hb);have n1_:=aM (lP (by repeat (first|(with_reducible first|exact HB.out|apply lA|apply lN|apply lD|refine lS ?_ GE158.out)|exact HB.out)) hb);have n2_:=aM (hbox);have n3_:=aM ((by rw [hg];exact (lZ (by repeat (first|(with_reducible first|exact HB.out|apply lA|apply lN|apply lD|refine lS ?_ GE158.out)|exact HB.out))) : w.heap.size ≤ gb160));have n4_:=aM ((by rw [hg];exact (lZ (by repeat (first|(with_reducible first|exact HB.out|apply lA|apply lN|apply lD|refine lS ?_ GE158.out)|exact HB.out))) : w.heap.size ≤ gb160));have n5_:=aM ((by rw [hg];exact Nat.ne_of_lt (bL (g:=gb158) (o:=.cells #[.slice (some ad159) l0_0.length c0_0,.slice A0_1 l0_1.length c0_1,.string a0_2] 54 (0,0)) (by (with_reducible repeat (first|refine bN ?_ _|refine bD ?_|refine bA ?_ _));exact BK158.out)) : gb158 ≠ gb160));have n6_:=aM ((by rw [hg];exact Nat.ne_of_gt (bL (g:=gb158) (o:=.cells #[.slice (some ad159) l0_0.length c0_0,.slice A0_1 l0_1.length c0_1,.string a0_2] 54 (0,0)) (by (with_reducible repeat (first|refine bN ?_ _|refine bD ?_|refine bA ?_ _));exact BK158.out)) : gb160 ≠ gb158));clear BK158 HB;have BK158:=n0_;have HB:=n1_;have BK160:=n2_;have GW160:=n3_;have GE160:=n4_;have NB158_160:=n5_;have NB160_158:=n6_;clear n0_ n1_ n2_ n3_ n4_ n5_ n6_ hb hbox hg;have hnb10:=NB160_158.out;have hnc10:=NB158_160.out;have hcz11_0 : w9.cell? ⟨gb160,0,none⟩ = some (.string (⟨#[]⟩ : ByteArray)):=(bC BK160.out 0).trans rfl;have hcz11_1 : w9.cell? ⟨gb160,1,none⟩ = some (.string (⟨#[]⟩ : ByteArray)):=(bC BK160.out 1).trans rfl;have hfz11_0:=bF BK160.out 0;have hfz11_1:=bF BK160.out 1))
       have n0_ : Aside0 (((w9.setCell ⟨gb160,0,none⟩ (.string ((rd_T105 l0_0 x3_1).f0))).setCell ⟨gb160,1,none⟩ (.string ((rd_T105 l0_0 x3_1).f1))).heap[gb158]? = some (.cells #[.slice (some ad159) l0_0.length c0_0,.slice A0_1 l0_1.length c0_1,.string a0_2] 54 (0,0))):=⟨by (with_reducible repeat (first|refine bN ?_ _|refine bD ?_|refine bA ?_ _));refine blk_far ?_ NB158_160.out _;(with_reducible repeat (first|refine bN ?_ _|refine bD ?_|refine bA ?_ _));refine blk_far ?_ NB158_160.out _;(with_reducible repeat (first|refine bN ?_ _|refine bD ?_|refine bA ?_ _));exact BK158.out⟩
       have n1_ : Aside0 (((w9.setCell ⟨gb160,0,none⟩ (.string ((rd_T105 l0_0 x3_1).f0))).setCell ⟨gb160,1,none⟩ (.string ((rd_T105 l0_0 x3_1).f1))).heap[gb160]? = some (.cells #[.string ((rd_T105 l0_0 x3_1).f0),.string ((rd_T105 l0_0 x3_1).f1)] 105 (0,0))):=⟨by (with_reducible repeat (first|refine bN ?_ _|refine bD ?_|refine bA ?_ _));refine blk_put (cs:=#[.string ((rd_T105 l0_0 x3_1).f0),.string (⟨#[]⟩ : ByteArray)]) ?_ 1 _ rfl;(with_reducible repeat (first|refine bN ?_ _|refine bD ?_|refine bA ?_ _));refine blk_put (cs:=#[.string (⟨#[]⟩ : ByteArray),.string (⟨#[]⟩ : ByteArray)]) ?_ 0 _ rfl;(with_reducible repeat (first|refine bN ?_ _|refine bD ?_|refine bA ?_ _));exact BK160.out⟩
       have n2_ : Aside0 (Below w.heap.size w ((w9.setCell ⟨gb160,0,none⟩ (.string ((rd_T105 l0_0 x3_1).f0))).setCell ⟨gb160,1,none⟩ (.string ((rd_T105 l0_0 x3_1).f1)))):=⟨by repeat (first|(with_reducible first|exact HB.out|apply lA|apply lN|apply lD|refine lS ?_ GE158.out|refine lS ?_ GE160.out)|exact HB.out)⟩
       (try clear BK158)
       (try clear BK160)
       (try clear HB)
       generalize ((w9.setCell ⟨gb160,0,none⟩ (.string ((rd_T105 l0_0 x3_1).f0))).setCell ⟨gb160,1,none⟩ (.string ((rd_T105 l0_0 x3_1).f1))) = w12 at n0_ n1_ n2_ ⊢
       have BK158:=n0_
       have BK160:=n1_
       have HB:=n2_
       clear n0_ n1_ n2_
       have n0_:=aM (bD BK158.out)
       have n1_:=aM (bD BK160.out)
       have n2_:=aM (lD HB.out)
       clear BK158
       clear BK160
       clear HB
       have BK158:=n0_
       have BK160:=n1_
       have HB:=n2_
       clear n0_ n1_ n2_
       refine start_ (n:=26) (S:=fun w' => w'.cell? ⟨gb160,0,none⟩ = some (.string ((rd_T105 l0_0 x3_1).f0)) ∧ w'.cell? ⟨gb160,1,none⟩ = some (.string ((rd_T105 l0_0 x3_1).f1))) (ds:=[]) #[bf,bf,bf,bf,bf,bf,bf,bf,bf,bf,bf,bf,bf,bf,bf,bf,bf,bf,bf,bf,bf,bf,bf,bf,bf,bf] (by kernel_rfl) rfl rfl ⟨(bC BK160.out 0).trans rfl,(bC BK160.out 1).trans rfl⟩ (fun hHeld => ?_);refine with_tabW spec_StoreOk.tab5 spec_StoreOk.bits5 (fun HT_ HW_ => ?_)
       generalize w12.drew = w13 at BK158 BK160 HB hHeld ⊢
       refine pure_ (i:=0) (N:=some 19) (v:=?_) (a':=?_) #[bT,bf,bf,bf,bf,bf,bf,bf,bf,bf,bf,bf,bf,bf,bf,bf,bf,bf,bf,bf,bf,bf,bf,bf,bf,bf] rfl rfl (any_of HT_.out (by kernel_rfl)) (fun _ _ _ h => h) (Or.inl ⟨by rfl,?_⟩) ?_ ?_
       rotate_left
       ·intro w';go_simp;with_reducible rfl
       rotate_left
       ·simp only [Act.put,q_ia4,q_cz4,q_cs4,i64_w,i32_w];rfl
       refine take_ (i:=1) (N:=some 20) (v:=?_) (a':=?_) #[bT,bT,bf,bf,bf,bf,bf,bf,bf,bf,bf,bf,bf,bf,bf,bf,bf,bf,bf,bf,bf,bf,bf,bf,bf,bf] rfl rfl (take_ofW HT_.out HW_.out (by kernel_rfl)) (fun _ _ _ h => h) (Or.inl ⟨by rfl,?_⟩) hHeld ?_ ?_
       rotate_left
       ·rintro w' ⟨s0,s1⟩
        go_simp
        with_reducible rfl
       rotate_left
       ·simp only [Act.put,q_ia4,q_cz4,q_cs4,i64_w,i32_w];rfl
       refine one_ (i:=2) (N:=some 21) #[bT,bT,bT,bf,bf,bf,bf,bf,bf,bf,bf,bf,bf,bf,bf,bf,bf,bf,bf,bf,bf,bf,bf,bf,bf,bf] rfl rfl (one_of HT_.out (by kernel_rfl)) (by decide) (fun K hK => ?_)
       refine goes_ Try.func105 (by kernel_rfl) rfl #[.string ((rd_T105 l0_0 x3_1).f0)] (by rfl) rfl rfl (by (try simp only [List.map_toArray,List.map_cons,List.map_nil]);first|done|rfl|(simp only [List.length_drop,List.length_take];rfl)) ?_
       with_reducible refine (spec_l07Name.calls k1 ((rd_T105 l0_0 x3_1).f0) true _ A5.out).mono ?_
       rintro e w' ⟨rfl,⟨nd,rfl⟩⟩
       refine ⟨_,rfl,?_⟩
       refine hK.out _ _ ⟨(bC BK160.out 0).trans rfl,(bC BK160.out 1).trans rfl⟩ (fun hHeld => ?_)
       clear hK K
       refine norm_ (a':=?_) ?_ ?_
       rotate_left
       ·show Act.put _ (some 21) _ = _
        simp only [Act.put,q_ia4,q_cz4,q_cs4,i64_w,i32_w]
        rfl
       refine pure_ (i:=3) (N:=some 22) (v:=?_) (a':=?_) #[bT,bT,bT,bT,bf,bf,bf,bf,bf,bf,bf,bf,bf,bf,bf,bf,bf,bf,bf,bf,bf,bf,bf,bf,bf,bf] rfl rfl (any_of HT_.out (by kernel_rfl)) (fun _ _ _ h => h) (Or.inl ⟨by rfl,?_⟩) ?_ ?_
       rotate_left
       ·intro w';go_simp;with_reducible rfl
       rotate_left
       ·simp only [Act.put,q_ia4,q_cz4,q_cs4,i64_w,i32_w];rfl
       refine pure_ (i:=4) (N:=some 23) (v:=?_) (a':=?_) #[bT,bT,bT,bT,bT,bf,bf,bf,bf,bf,bf,bf,bf,bf,bf,bf,bf,bf,bf,bf,bf,bf,bf,bf,bf,bf] rfl rfl (any_of HT_.out (by kernel_rfl)) (fun _ _ _ h => h) (Or.inl ⟨by rfl,?_⟩) ?_ ?_
       rotate_left
       ·intro w';go_simp;with_reducible rfl
       rotate_left
       ·simp only [Act.put,q_ia4,q_cz4,q_cs4,i64_w,i32_w];rfl
       refine pure_ (i:=5) (N:=some 24) (v:=?_) (a':=?_) #[bT,bT,bT,bT,bT,bT,bf,bf,bf,bf,bf,bf,bf,bf,bf,bf,bf,bf,bf,bf,bf,bf,bf,bf,bf,bf] rfl rfl (any_of HT_.out (by kernel_rfl)) (fun _ _ _ h => h) (Or.inl ⟨by rfl,?_⟩) ?_ ?_
       rotate_left
       ·intro w';go_simp;with_reducible rfl
       rotate_left
       ·simp only [Act.put,q_ia4,q_cz4,q_cs4,i64_w,i32_w];rfl
       refine take_ (i:=6) (N:=some 25) (v:=?_) (a':=?_) #[bT,bT,bT,bT,bT,bT,bT,bf,bf,bf,bf,bf,bf,bf,bf,bf,bf,bf,bf,bf,bf,bf,bf,bf,bf,bf] rfl rfl (take_ofW HT_.out HW_.out (by kernel_rfl)) (fun _ _ _ h => h) (Or.inl ⟨by rfl,?_⟩) hHeld ?_ ?_
       rotate_left
       ·rintro w' ⟨s0,s1⟩
        go_simp
        with_reducible rfl
       rotate_left
       ·simp only [Act.put,q_ia4,q_cz4,q_cs4,i64_w,i32_w];rfl
       refine pure_ (i:=7) (N:=some 26) (v:=?_) (a':=?_) #[bT,bT,bT,bT,bT,bT,bT,bT,bf,bf,bf,bf,bf,bf,bf,bf,bf,bf,bf,bf,bf,bf,bf,bf,bf,bf] rfl rfl (any_of HT_.out (by kernel_rfl)) (fun _ _ _ h => h) (Or.inl ⟨by rfl,?_⟩) ?_ ?_
       rotate_left
       ·intro w';go_simp;with_reducible rfl
       rotate_left
       ·simp only [Act.put,q_ia4,q_cz4,q_cs4,i64_w,i32_w];rfl
       refine pure_ (i:=8) (N:=some 27) (v:=?_) (a':=?_) #[bT,bT,bT,bT,bT,bT,bT,bT,bT,bf,bf,bf,bf,bf,bf,bf,bf,bf,bf,bf,bf,bf,bf,bf,bf,bf] rfl rfl (any_of HT_.out (by kernel_rfl)) (fun _ _ _ h => h) (Or.inl ⟨by rfl,?_⟩) ?_ ?_
       rotate_left
       ·intro w';go_simp;with_reducible rfl
       rotate_left
       ·simp only [Act.put,q_ia4,q_cz4,q_cs4,i64_w,i32_w];rfl
       refine pure_ (i:=9) (N:=some 28) (v:=?_) (a':=?_) #[bT,bT,bT,bT,bT,bT,bT,bT,bT,bT,bf,bf,bf,bf,bf,bf,bf,bf,bf,bf,bf,bf,bf,bf,bf,bf] rfl rfl (any_of HT_.out (by kernel_rfl)) (fun _ _ _ h => h) (Or.inl ⟨by rfl,?_⟩) ?_ ?_
       rotate_left
       ·intro w';go_simp;with_reducible rfl
       rotate_left
       ·simp only [Act.put,q_ia4,q_cz4,q_cs4,i64_w,i32_w];rfl
       refine pure_ (i:=10) (N:=some 29) (v:=?_) (a':=?_) #[bT,bT,bT,bT,bT,bT,bT,bT,bT,bT,bT,bf,bf,bf,bf,bf,bf,bf,bf,bf,bf,bf,bf,bf,bf,bf] rfl rfl (any_of HT_.out (by kernel_rfl)) (fun _ _ _ h => h) (Or.inl ⟨by rfl,?_⟩) ?_ ?_
       rotate_left
       ·intro w';go_simp;with_reducible rfl
       rotate_left
       ·simp only [Act.put,q_ia4,q_cz4,q_cs4,i64_w,i32_w];rfl
       refine pure_ (i:=11) (N:=some 30) (v:=undef) (a':=?_) #[bT,bT,bT,bT,bT,bT,bT,bT,bT,bT,bT,bT,bf,bf,bf,bf,bf,bf,bf,bf,bf,bf,bf,bf,bf,bf] rfl rfl (any_of HT_.out (by kernel_rfl)) (fun _ _ _ h => h) (Or.inr ⟨by rfl,rfl⟩) ?_ ?_
       rotate_left
       ·simp only [Act.put,q_ia4,q_cz4,q_cs4,i64_w,i32_w];rfl
       refine pure_ (i:=12) (N:=some 31) (v:=undef) (a':=?_) #[bT,bT,bT,bT,bT,bT,bT,bT,bT,bT,bT,bT,bT,bf,bf,bf,bf,bf,bf,bf,bf,bf,bf,bf,bf,bf] rfl rfl (any_of HT_.out (by kernel_rfl)) (fun _ _ _ h => h) (Or.inr ⟨by rfl,rfl⟩) ?_ ?_
       rotate_left
       ·simp only [Act.put,q_ia4,q_cz4,q_cs4,i64_w,i32_w];rfl
       refine pure_ (i:=13) (N:=some 32) (v:=undef) (a':=?_) #[bT,bT,bT,bT,bT,bT,bT,bT,bT,bT,bT,bT,bT,bT,bf,bf,bf,bf,bf,bf,bf,bf,bf,bf,bf,bf] rfl rfl (any_of HT_.out (by kernel_rfl)) (fun _ _ _ h => h) (Or.inr ⟨by rfl,rfl⟩) ?_ ?_
       rotate_left
       ·simp only [Act.put,q_ia4,q_cz4,q_cs4,i64_w,i32_w];rfl
       refine pure_ (i:=14) (N:=some 33) (v:=undef) (a':=?_) #[bT,bT,bT,bT,bT,bT,bT,bT,bT,bT,bT,bT,bT,bT,bT,bf,bf,bf,bf,bf,bf,bf,bf,bf,bf,bf] rfl rfl (any_of HT_.out (by kernel_rfl)) (fun _ _ _ h => h) (Or.inr ⟨by rfl,rfl⟩) ?_ ?_
       rotate_left
       ·simp only [Act.put,q_ia4,q_cz4,q_cs4,i64_w,i32_w];rfl
       refine pure_ (i:=15) (N:=some 34) (v:=undef) (a':=?_) #[bT,bT,bT,bT,bT,bT,bT,bT,bT,bT,bT,bT,bT,bT,bT,bT,bf,bf,bf,bf,bf,bf,bf,bf,bf,bf] rfl rfl (any_of HT_.out (by kernel_rfl)) (fun _ _ _ h => h) (Or.inr ⟨by rfl,rfl⟩) ?_ ?_
       rotate_left
       ·simp only [Act.put,q_ia4,q_cz4,q_cs4,i64_w,i32_w];rfl
       refine pure_ (i:=16) (N:=some 35) (v:=undef) (a':=?_) #[bT,bT,bT,bT,bT,bT,bT,bT,bT,bT,bT,bT,bT,bT,bT,bT,bT,bf,bf,bf,bf,bf,bf,bf,bf,bf] rfl rfl (any_of HT_.out (by kernel_rfl)) (fun _ _ _ h => h) (Or.inr ⟨by rfl,rfl⟩) ?_ ?_
       rotate_left
       ·simp only [Act.put,q_ia4,q_cz4,q_cs4,i64_w,i32_w];rfl
       refine pure_ (i:=17) (N:=some 36) (v:=undef) (a':=?_) #[bT,bT,bT,bT,bT,bT,bT,bT,bT,bT,bT,bT,bT,bT,bT,bT,bT,bT,bf,bf,bf,bf,bf,bf,bf,bf] rfl rfl (any_of HT_.out (by kernel_rfl)) (fun _ _ _ h => h) (Or.inr ⟨by rfl,rfl⟩) ?_ ?_
       rotate_left
       ·simp only [Act.put,q_ia4,q_cz4,q_cs4,i64_w,i32_w];rfl
       refine pure_ (i:=18) (N:=some 37) (v:=undef) (a':=?_) #[bT,bT,bT,bT,bT,bT,bT,bT,bT,bT,bT,bT,bT,bT,bT,bT,bT,bT,bT,bf,bf,bf,bf,bf,bf,bf] rfl rfl (any_of HT_.out (by kernel_rfl)) (fun _ _ _ h => h) (Or.inr ⟨by rfl,rfl⟩) ?_ ?_
       rotate_left
       ·simp only [Act.put,q_ia4,q_cz4,q_cs4,i64_w,i32_w];rfl
       refine pure_ (i:=19) (N:=some 38) (v:=undef) (a':=?_) #[bT,bT,bT,bT,bT,bT,bT,bT,bT,bT,bT,bT,bT,bT,bT,bT,bT,bT,bT,bT,bf,bf,bf,bf,bf,bf] rfl rfl (any_of HT_.out (by kernel_rfl)) (fun _ _ _ h => h) (Or.inr ⟨by rfl,rfl⟩) ?_ ?_
       rotate_left
       ·simp only [Act.put,q_ia4,q_cz4,q_cs4,i64_w,i32_w];rfl
       refine pure_ (i:=20) (N:=some 39) (v:=undef) (a':=?_) #[bT,bT,bT,bT,bT,bT,bT,bT,bT,bT,bT,bT,bT,bT,bT,bT,bT,bT,bT,bT,bT,bf,bf,bf,bf,bf] rfl rfl (any_of HT_.out (by kernel_rfl)) (fun _ _ _ h => h) (Or.inr ⟨by rfl,rfl⟩) ?_ ?_
       rotate_left
       ·simp only [Act.put,q_ia4,q_cz4,q_cs4,i64_w,i32_w];rfl
       refine pure_ (i:=21) (N:=some 40) (v:=undef) (a':=?_) #[bT,bT,bT,bT,bT,bT,bT,bT,bT,bT,bT,bT,bT,bT,bT,bT,bT,bT,bT,bT,bT,bT,bf,bf,bf,bf] rfl rfl (any_of HT_.out (by kernel_rfl)) (fun _ _ _ h => h) (Or.inr ⟨by rfl,rfl⟩) ?_ ?_
       rotate_left
       ·simp only [Act.put,q_ia4,q_cz4,q_cs4,i64_w,i32_w];rfl
       refine pure_ (i:=22) (N:=some 41) (v:=undef) (a':=?_) #[bT,bT,bT,bT,bT,bT,bT,bT,bT,bT,bT,bT,bT,bT,bT,bT,bT,bT,bT,bT,bT,bT,bT,bf,bf,bf] rfl rfl (any_of HT_.out (by kernel_rfl)) (fun _ _ _ h => h) (Or.inr ⟨by rfl,rfl⟩) ?_ ?_
       rotate_left
       ·simp only [Act.put,q_ia4,q_cz4,q_cs4,i64_w,i32_w];rfl
       refine pure_ (i:=23) (N:=some 42) (v:=undef) (a':=?_) #[bT,bT,bT,bT,bT,bT,bT,bT,bT,bT,bT,bT,bT,bT,bT,bT,bT,bT,bT,bT,bT,bT,bT,bT,bf,bf] rfl rfl (any_of HT_.out (by kernel_rfl)) (fun _ _ _ h => h) (Or.inr ⟨by rfl,rfl⟩) ?_ ?_
       rotate_left
       ·simp only [Act.put,q_ia4,q_cz4,q_cs4,i64_w,i32_w];rfl
       refine pure_ (i:=24) (N:=some 43) (v:=undef) (a':=?_) #[bT,bT,bT,bT,bT,bT,bT,bT,bT,bT,bT,bT,bT,bT,bT,bT,bT,bT,bT,bT,bT,bT,bT,bT,bT,bf] rfl rfl (any_of HT_.out (by kernel_rfl)) (fun _ _ _ h => h) (Or.inr ⟨by rfl,rfl⟩) ?_ ?_
       rotate_left
       ·simp only [Act.put,q_ia4,q_cz4,q_cs4,i64_w,i32_w];rfl
       refine pure_ (i:=25) (N:=some 44) (v:=?_) (a':=?_) #[bT,bT,bT,bT,bT,bT,bT,bT,bT,bT,bT,bT,bT,bT,bT,bT,bT,bT,bT,bT,bT,bT,bT,bT,bT,bT] rfl rfl (any_of HT_.out (by kernel_rfl)) (fun _ _ _ h => h) (Or.inl ⟨by rfl,?_⟩) ?_ ?_
       rotate_left
       ·intro w';go_simp;with_reducible rfl
       rotate_left
       ·simp only [Act.put,q_ia4,q_cz4,q_cs4,i64_w,i32_w];rfl
       refine done_ (done_of HT_.out (by kernel_rfl)) ?_
       try go_wp2
       go_ret
       exact ⟨by first|rfl|(simp [errW_none,errW_some] <;> rfl)|(simp [*,errW_none,errW_some] <;> rfl),by repeat (first|(with_reducible first|exact HB.out|apply lA|apply lN|apply lD|refine lS ?_ GE158.out|refine lS ?_ GE160.out)|exact HB.out)⟩
      ·rw [if_neg c7] at H
       have c7b0 : decide (40 < (((rd_T105 l0_0 x3_1).f1).size : Int)) = false:=decide_eq_false c7
       have c7b1 : decide (40 < ((rd_T105 l0_0 x3_1).f1).size) = false:=decide_eq_false (by omega)
       clear c7
       by_cases c14 : x3_1 > 0
       ·rw [if_pos c14] at H
        have c14b0 : decide (0 < x3_1) = true:=decide_eq_true c14
        clear c14
        obtain ⟨ji15,hji15⟩ : ∃ j_ : Int,(wrap64 (x3_1 - 1)) = j_:=⟨_,rfl⟩
        replace H : (if 0 ≤ (ji15) then (if (ji15) < (l0_0.length : Int) then (if ((Op.bytesLess (((rd_T105 l0_0 (ji15)).f0).toList) (((rd_T105 l0_0 x3_1).f0).toList)) = true) then (spec_StoreOk.l0 k1 (wrap64 (x3_1 + 1)) l0_0 l0_1 a0_2) else (some false)) else (none)) else (none)) = some r:=by first|(rw [hji15] at H;exact H)|(simp only [hji15] at H ⊢;exact H)
        (try rw [hji15] at A5)
        have hji15w : (IntKind.i64.wrap (x3_1 - 1)) = ji15:=(i64_w _).trans hji15
        by_cases c16 : 0 ≤ (ji15)
        ·rw [if_pos c16] at H
         have c16b0 : decide (0 ≤ (ji15)) = true:=decide_eq_true c16
         clear c16
         by_cases c17 : (ji15) < (l0_0.length : Int)
         ·rw [if_pos c17] at H
          have c17b0 : decide ((ji15) < (l0_0.length : Int)) = true:=decide_eq_true c17
          clear c17
          by_cases c18 : ((Op.bytesLess (((rd_T105 l0_0 (ji15)).f0).toList) (((rd_T105 l0_0 x3_1).f0).toList)) = true)
          ·rw [if_pos c18] at H
           have c18b0 : (Op.bytesLess (((rd_T105 l0_0 (ji15)).f0).toList) (((rd_T105 l0_0 x3_1).f0).toList)) = true:=c18
           clear c18
           have H':=aM H
           clear H
           have hcz19_0 : wr.cell? ⟨gb158,0,none⟩ = some (.slice A0_0 l0_0.length c0_0):=(bC BK158.out 0).trans rfl
           have hcz19_1 : wr.cell? ⟨gb158,1,none⟩ = some (.slice A0_1 l0_1.length c0_1):=(bC BK158.out 1).trans rfl
           have hcz19_2 : wr.cell? ⟨gb158,2,none⟩ = some (.string a0_2):=(bC BK158.out 2).trans rfl
           have hfz19_0:=bF BK158.out 0
           have hfz19_1:=bF BK158.out 1
           have hfz19_2:=bF BK158.out 2
           have p159 : 0 ≤ (x3_1 : Int):=of_decide_eq_true (by first|(with_reducible assumption)|assumption)
           have q159 : x3_1 < (l0_0.length : Int):=of_decide_eq_true (by first|(with_reducible assumption)|assumption)
           obtain ⟨ad159,e159,hx159_0,hx159_1⟩:=at_T105 HR0_0.out x3_1 p159 q159
           cases e159
           replace hx159_0:=(HB.out.cell (World.block_lt_of_cell? w _ hx159_0)).trans hx159_0
           replace hx159_1:=(HB.out.cell (World.block_lt_of_cell? w _ hx159_1)).trans hx159_1
           replace p159:=eq_true p159
           replace q159:=eq_true q159
           try go_wp2_with (first|((with_reducible refine gate_dst (N:=4) rfl ?_);(try (refine gate_guard (by rfl) ?_;dsimp only));refine box_event ?hg (N:=4) ?hd (cs:=#[.string (⟨#[]⟩ : ByteArray),.string (⟨#[]⟩ : ByteArray)]) (t:=105) ?hr ?_;(case hd => rfl);(case hg => rfl);(case hr => first|(go_simp;done)|(go_simp;rfl));intro gb160 hg w20 hbox hb;have n0_:=aM (bB (g:=gb158) (o:=.cells #[.slice (some ad159) l0_0.length c0_0,.slice A0_1 l0_1.length c0_1,.string a0_2] 54 (0,0)) (by (with_reducible repeat (first|refine bN ?_ _|refine bD ?_|refine bA ?_ _));exact BK158.out) hb);have n1_:=aM (lP (by repeat (first|(with_reducible first|exact HB.out|apply lA|apply lN|apply lD|refine lS ?_ GE158.out)|exact HB.out)) hb);have n2_:=aM (hbox);have n3_:=aM ((by rw [hg];exact (lZ (by repeat (first|(with_reducible first|exact HB.out|apply lA|apply lN|apply lD|refine lS ?_ GE158.out)|exact HB.out))) : w.heap.size ≤ gb160));have n4_:=aM ((by rw [hg];exact (lZ (by repeat (first|(with_reducible first|exact HB.out|apply lA|apply lN|apply lD|refine lS ?_ GE158.out)|exact HB.out))) : w.heap.size ≤ gb160));have n5_:=aM ((by rw [hg];exact Nat.ne_of_lt (bL (g:=gb158) (o:=.cells #[.slice (some ad159) l0_0.length c0_0,.slice A0_1 l0_1.length c0_1,.string a0_2] 54 (0,0)) (by (with_reducible repeat (first|refine bN ?_ _|refine bD ?_|refine bA ?_ _));exact BK158.out)) : gb158 ≠ gb160));have n6_:=aM ((by rw [hg];exact Nat.ne_of_gt (bL (g:=gb158) (o:=.cells #[.slice (some ad159) l0_0.length c0_0,.slice A0_1 l0_1.length c0_1,.string a0_2] 54 (0,0)) (by (with_reducible repeat (first|refine bN ?_ _|refine bD ?_|refine bA ?_ _));exact BK158.out)) : gb160 ≠ gb158));clear BK158 HB;have BK158:=n0_;have HB:=n1_;have BK160:=n2_;have GW160:=n3_;have GE160:=n4_;have NB158_160:=n5_;have NB160_158:=n6_;clear n0_ n1_ n2_ n3_ n4_ n5_ n6_ hb hbox hg;have hnb21:=NB160_158.out;have hnc21:=NB158_160.out;have hcz22_0 : w20.cell? ⟨gb160,0,none⟩ = some (.string (⟨#[]⟩ : ByteArray)):=(bC BK160.out 0).trans rfl;have hcz22_1 : w20.cell? ⟨gb160,1,none⟩ = some (.string (⟨#[]⟩ : ByteArray)):=(bC BK160.out 1).trans rfl;have hfz22_0:=bF BK160.out 0;have hfz22_1:=bF BK160.out 1))
           have n0_ : Aside0 (((w20.setCell ⟨gb160,0,none⟩ (.string ((rd_T105 l0_0 x3_1).f0))).setCell ⟨gb160,1,none⟩ (.string ((rd_T105 l0_0 x3_1).f1))).heap[gb158]? = some (.cells #[.slice (some ad159) l0_0.length c0_0,.slice A0_1 l0_1.length c0_1,.string a0_2] 54 (0,0))):=⟨by (with_reducible repeat (first|refine bN ?_ _|refine bD ?_|refine bA ?_ _));refine blk_far ?_ NB158_160.out _;(with_reducible repeat (first|refine bN ?_ _|refine bD ?_|refine bA ?_ _));refine blk_far ?_ NB158_160.out _;(with_reducible repeat (first|refine bN ?_ _|refine bD ?_|refine bA ?_ _));exact BK158.out⟩
           have n1_ : Aside0 (((w20.setCell ⟨gb160,0,none⟩ (.string ((rd_T105 l0_0 x3_1).f0))).setCell ⟨gb160,1,none⟩ (.string ((rd_T105 l0_0 x3_1).f1))).heap[gb160]? = some (.cells #[.string ((rd_T105 l0_0 x3_1).f0),.string ((rd_T105 l0_0 x3_1).f1)] 105 (0,0))):=⟨by (with_reducible repeat (first|refine bN ?_ _|refine bD ?_|refine bA ?_ _));refine blk_put (cs:=#[.string ((rd_T105 l0_0 x3_1).f0),.string (⟨#[]⟩ : ByteArray)]) ?_ 1 _ rfl;(with_reducible repeat (first|refine bN ?_ _|refine bD ?_|refine bA ?_ _));refine blk_put (cs:=#[.string (⟨#[]⟩ : ByteArray),.string (⟨#[]⟩ : ByteArray)]) ?_ 0 _ rfl;(with_reducible repeat (first|refine bN ?_ _|refine bD ?_|refine bA ?_ _));exact BK160.out⟩
           have n2_ : Aside0 (Below w.heap.size w ((w20.setCell ⟨gb160,0,none⟩ (.string ((rd_T105 l0_0 x3_1).f0))).setCell ⟨gb160,1,none⟩ (.string ((rd_T105 l0_0 x3_1).f1)))):=⟨by repeat (first|(with_reducible first|exact HB.out|apply lA|apply lN|apply lD|refine lS ?_ GE158.out|refine lS ?_ GE160.out)|exact HB.out)⟩
           (try clear BK158)
           (try clear BK160)
           (try clear HB)
           generalize ((w20.setCell ⟨gb160,0,none⟩ (.string ((rd_T105 l0_0 x3_1).f0))).setCell ⟨gb160,1,none⟩ (.string ((rd_T105 l0_0 x3_1).f1))) = w23 at n0_ n1_ n2_ ⊢
           have BK158:=n0_
           have BK160:=n1_
           have HB:=n2_
           clear n0_ n1_ n2_
           have n0_:=aM (bD BK158.out)
           have n1_:=aM (bD BK160.out)
           have n2_:=aM (lD HB.out)
           clear BK158
           clear BK160
           clear HB
           have BK158:=n0_
           have BK160:=n1_
           have HB:=n2_
           clear n0_ n1_ n2_
           have p162 : 0 ≤ ((ji15) : Int):=of_decide_eq_true (by first|(with_reducible assumption)|assumption)
           have q162 : (ji15) < (l0_0.length : Int):=of_decide_eq_true (by first|(with_reducible assumption)|assumption)
           obtain ⟨ad162,e162,hx162_0,hx162_1⟩:=at_T105 HR0_0.out (ji15) p162 q162
           have hw162_1:=hx162_1
           have hw162_0:=hx162_0
           obtain rfl : ad159 = ad162:=(by injection e162)
           replace hx162_0:=(HB.out.cell (World.block_lt_of_cell? w _ hx162_0)).trans hx162_0
           replace hx162_1:=(HB.out.cell (World.block_lt_of_cell? w _ hx162_1)).trans hx162_1
           replace p162:=eq_true p162
           replace q162:=eq_true q162
           refine start_ (n:=26) (S:=fun w' => w'.cell? ⟨gb160,0,none⟩ = some (.string ((rd_T105 l0_0 x3_1).f0)) ∧ w'.cell? ⟨gb160,1,none⟩ = some (.string ((rd_T105 l0_0 x3_1).f1)) ∧ w'.cell? ⟨gb158,0,none⟩ = some (.slice (some ad159) l0_0.length c0_0) ∧ w'.cell? ⟨gb158,1,none⟩ = some (.slice A0_1 l0_1.length c0_1) ∧ w'.cell? ⟨gb158,2,none⟩ = some (.string a0_2) ∧ w'.cell? (ad159.add (((ji15)).toNat * 2)) = some (.string ((rd_T105 l0_0 (ji15)).f0)) ∧ w'.cell? ⟨(ad159.add (((ji15)).toNat * 2)).block,(ad159.add (((ji15)).toNat * 2)).off + 1,none⟩ = some (.string ((rd_T105 l0_0 (ji15)).f1))) (ds:=[]) #[bf,bf,bf,bf,bf,bf,bf,bf,bf,bf,bf,bf,bf,bf,bf,bf,bf,bf,bf,bf,bf,bf,bf,bf,bf,bf] (by kernel_rfl) rfl rfl ⟨(bC BK160.out 0).trans rfl,(bC BK160.out 1).trans rfl,(bC BK158.out 0).trans rfl,(bC BK158.out 1).trans rfl,(bC BK158.out 2).trans rfl,((HB.out.cell (World.block_lt_of_cell? w _ hw162_0)).trans hw162_0),((HB.out.cell (World.block_lt_of_cell? w _ hw162_1)).trans hw162_1)⟩ (fun hHeld => ?_);refine with_tabW spec_StoreOk.tab5 spec_StoreOk.bits5 (fun HT_ HW_ => ?_)
           generalize w23.drew = w24 at BK158 BK160 HB hx162_0 hx162_1 hHeld ⊢
           refine pure_ (i:=0) (N:=some 19) (v:=?_) (a':=?_) #[bT,bf,bf,bf,bf,bf,bf,bf,bf,bf,bf,bf,bf,bf,bf,bf,bf,bf,bf,bf,bf,bf,bf,bf,bf,bf] rfl rfl (any_of HT_.out (by kernel_rfl)) (fun _ _ _ h => h) (Or.inl ⟨by rfl,?_⟩) ?_ ?_
           rotate_left
           ·intro w';go_simp;with_reducible rfl
           rotate_left
           ·simp only [Act.put,q_ia4,q_cz4,q_cs4,i64_w,i32_w];rfl
           refine take_ (i:=1) (N:=some 20) (v:=?_) (a':=?_) #[bT,bT,bf,bf,bf,bf,bf,bf,bf,bf,bf,bf,bf,bf,bf,bf,bf,bf,bf,bf,bf,bf,bf,bf,bf,bf] rfl rfl (take_ofW HT_.out HW_.out (by kernel_rfl)) (fun _ _ _ h => h) (Or.inl ⟨by rfl,?_⟩) hHeld ?_ ?_
           rotate_left
           ·rintro w' ⟨s0,s1,s2,s3,s4,s5,s6⟩
            go_simp
            with_reducible rfl
           rotate_left
           ·simp only [Act.put,q_ia4,q_cz4,q_cs4,i64_w,i32_w];rfl
           refine one_ (i:=2) (N:=some 21) #[bT,bT,bT,bf,bf,bf,bf,bf,bf,bf,bf,bf,bf,bf,bf,bf,bf,bf,bf,bf,bf,bf,bf,bf,bf,bf] rfl rfl (one_of HT_.out (by kernel_rfl)) (by decide) (fun K hK => ?_)
           refine goes_ Try.func105 (by kernel_rfl) rfl #[.string ((rd_T105 l0_0 x3_1).f0)] (by rfl) rfl rfl (by (try simp only [List.map_toArray,List.map_cons,List.map_nil]);first|done|rfl|(simp only [List.length_drop,List.length_take];rfl)) ?_
           with_reducible refine (spec_l07Name.calls k1 ((rd_T105 l0_0 x3_1).f0) true _ A5.out).mono ?_
           rintro e w' ⟨rfl,⟨nd,rfl⟩⟩
           refine ⟨_,rfl,?_⟩
           refine hK.out _ _ ⟨(bC BK160.out 0).trans rfl,(bC BK160.out 1).trans rfl,(bC BK158.out 0).trans rfl,(bC BK158.out 1).trans rfl,(bC BK158.out 2).trans rfl,((HB.out.cell (World.block_lt_of_cell? w _ hw162_0)).trans hw162_0),((HB.out.cell (World.block_lt_of_cell? w _ hw162_1)).trans hw162_1)⟩ (fun hHeld => ?_)
           clear hK K
           refine norm_ (a':=?_) ?_ ?_
           rotate_left
           ·show Act.put _ (some 21) _ = _
            simp only [Act.put,q_ia4,q_cz4,q_cs4,i64_w,i32_w]
            rfl
           refine pure_ (i:=3) (N:=some 22) (v:=?_) (a':=?_) #[bT,bT,bT,bT,bf,bf,bf,bf,bf,bf,bf,bf,bf,bf,bf,bf,bf,bf,bf,bf,bf,bf,bf,bf,bf,bf] rfl rfl (any_of HT_.out (by kernel_rfl)) (fun _ _ _ h => h) (Or.inl ⟨by rfl,?_⟩) ?_ ?_
           rotate_left
           ·intro w';go_simp;with_reducible rfl
           rotate_left
           ·simp only [Act.put,q_ia4,q_cz4,q_cs4,i64_w,i32_w];rfl
           refine pure_ (i:=4) (N:=some 23) (v:=?_) (a':=?_) #[bT,bT,bT,bT,bT,bf,bf,bf,bf,bf,bf,bf,bf,bf,bf,bf,bf,bf,bf,bf,bf,bf,bf,bf,bf,bf] rfl rfl (any_of HT_.out (by kernel_rfl)) (fun _ _ _ h => h) (Or.inl ⟨by rfl,?_⟩) ?_ ?_
           rotate_left
           ·intro w';go_simp;with_reducible rfl
           rotate_left
           ·simp only [Act.put,q_ia4,q_cz4,q_cs4,i64_w,i32_w];rfl
           refine pure_ (i:=5) (N:=some 24) (v:=?_) (a':=?_) #[bT,bT,bT,bT,bT,bT,bf,bf,bf,bf,bf,bf,bf,bf,bf,bf,bf,bf,bf,bf,bf,bf,bf,bf,bf,bf] rfl rfl (any_of HT_.out (by kernel_rfl)) (fun _ _ _ h => h) (Or.inl ⟨by rfl,?_⟩) ?_ ?_
           rotate_left
           ·intro w';go_simp;with_reducible rfl
           rotate_left
           ·simp only [Act.put,q_ia4,q_cz4,q_cs4,i64_w,i32_w];rfl
           refine take_ (i:=6) (N:=some 25) (v:=?_) (a':=?_) #[bT,bT,bT,bT,bT,bT,bT,bf,bf,bf,bf,bf,bf,bf,bf,bf,bf,bf,bf,bf,bf,bf,bf,bf,bf,bf] rfl rfl (take_ofW HT_.out HW_.out (by kernel_rfl)) (fun _ _ _ h => h) (Or.inl ⟨by rfl,?_⟩) hHeld ?_ ?_
           rotate_left
           ·rintro w' ⟨s0,s1,s2,s3,s4,s5,s6⟩
            go_simp
            with_reducible rfl
           rotate_left
           ·simp only [Act.put,q_ia4,q_cz4,q_cs4,i64_w,i32_w];rfl
           refine pure_ (i:=7) (N:=some 26) (v:=?_) (a':=?_) #[bT,bT,bT,bT,bT,bT,bT,bT,bf,bf,bf,bf,bf,bf,bf,bf,bf,bf,bf,bf,bf,bf,bf,bf,bf,bf] rfl rfl (any_of HT_.out (by kernel_rfl)) (fun _ _ _ h => h) (Or.inl ⟨by rfl,?_⟩) ?_ ?_
           rotate_left
           ·intro w';go_simp;with_reducible rfl
           rotate_left
           ·simp only [Act.put,q_ia4,q_cz4,q_cs4,i64_w,i32_w];rfl
           refine pure_ (i:=8) (N:=some 27) (v:=?_) (a':=?_) #[bT,bT,bT,bT,bT,bT,bT,bT,bT,bf,bf,bf,bf,bf,bf,bf,bf,bf,bf,bf,bf,bf,bf,bf,bf,bf] rfl rfl (any_of HT_.out (by kernel_rfl)) (fun _ _ _ h => h) (Or.inl ⟨by rfl,?_⟩) ?_ ?_
           rotate_left
           ·intro w';go_simp;with_reducible rfl
           rotate_left
           ·simp only [Act.put,q_ia4,q_cz4,q_cs4,i64_w,i32_w];rfl
           refine pure_ (i:=9) (N:=some 28) (v:=?_) (a':=?_) #[bT,bT,bT,bT,bT,bT,bT,bT,bT,bT,bf,bf,bf,bf,bf,bf,bf,bf,bf,bf,bf,bf,bf,bf,bf,bf] rfl rfl (any_of HT_.out (by kernel_rfl)) (fun _ _ _ h => h) (Or.inl ⟨by rfl,?_⟩) ?_ ?_
           rotate_left
           ·intro w';go_simp;with_reducible rfl
           rotate_left
           ·simp only [Act.put,q_ia4,q_cz4,q_cs4,i64_w,i32_w];rfl
           refine pure_ (i:=10) (N:=some 29) (v:=?_) (a':=?_) #[bT,bT,bT,bT,bT,bT,bT,bT,bT,bT,bT,bf,bf,bf,bf,bf,bf,bf,bf,bf,bf,bf,bf,bf,bf,bf] rfl rfl (any_of HT_.out (by kernel_rfl)) (fun _ _ _ h => h) (Or.inl ⟨by rfl,?_⟩) ?_ ?_
           rotate_left
           ·intro w';go_simp;with_reducible rfl
           rotate_left
           ·simp only [Act.put,q_ia4,q_cz4,q_cs4,i64_w,i32_w];rfl
           refine pure_ (i:=11) (N:=some 30) (v:=?_) (a':=?_) #[bT,bT,bT,bT,bT,bT,bT,bT,bT,bT,bT,bT,bf,bf,bf,bf,bf,bf,bf,bf,bf,bf,bf,bf,bf,bf] rfl rfl (any_of HT_.out (by kernel_rfl)) (fun _ _ _ h => h) (Or.inl ⟨by rfl,?_⟩) ?_ ?_
           rotate_left
           ·intro w';go_simp;with_reducible rfl
           rotate_left
           ·simp only [Act.put,q_ia4,q_cz4,q_cs4,i64_w,i32_w];rfl
           refine pure_ (i:=12) (N:=some 31) (v:=?_) (a':=?_) #[bT,bT,bT,bT,bT,bT,bT,bT,bT,bT,bT,bT,bT,bf,bf,bf,bf,bf,bf,bf,bf,bf,bf,bf,bf,bf] rfl rfl (any_of HT_.out (by kernel_rfl)) (fun _ _ _ h => h) (Or.inl ⟨by rfl,?_⟩) ?_ ?_
           rotate_left
           ·intro w';go_simp;with_reducible rfl
           rotate_left
           ·simp only [Act.put,q_ia4,q_cz4,q_cs4,i64_w,i32_w];rfl
           refine pure_ (i:=13) (N:=some 32) (v:=?_) (a':=?_) #[bT,bT,bT,bT,bT,bT,bT,bT,bT,bT,bT,bT,bT,bT,bf,bf,bf,bf,bf,bf,bf,bf,bf,bf,bf,bf] rfl rfl (any_of HT_.out (by kernel_rfl)) (fun _ _ _ h => h) (Or.inl ⟨by rfl,?_⟩) ?_ ?_
           rotate_left
           ·intro w';go_simp;with_reducible rfl
           rotate_left
           ·simp only [Act.put,q_ia4,q_cz4,q_cs4,i64_w,i32_w];rfl
           refine pure_ (i:=14) (N:=some 33) (v:=?_) (a':=?_) #[bT,bT,bT,bT,bT,bT,bT,bT,bT,bT,bT,bT,bT,bT,bT,bf,bf,bf,bf,bf,bf,bf,bf,bf,bf,bf] rfl rfl (any_of HT_.out (by kernel_rfl)) (fun _ _ _ h => h) (Or.inl ⟨by rfl,?_⟩) ?_ ?_
           rotate_left
           ·intro w';go_simp;with_reducible rfl
           rotate_left
           ·simp only [Act.put,q_ia4,q_cz4,q_cs4,i64_w,i32_w];rfl
           refine pure_ (i:=16) (N:=some 35) (v:=?_) (a':=?_) #[bT,bT,bT,bT,bT,bT,bT,bT,bT,bT,bT,bT,bT,bT,bT,bf,bT,bf,bf,bf,bf,bf,bf,bf,bf,bf] rfl rfl (any_of HT_.out (by kernel_rfl)) (fun _ _ _ h => h) (Or.inl ⟨by rfl,?_⟩) ?_ ?_
           rotate_left
           ·intro w';go_simp;with_reducible rfl
           rotate_left
           ·simp only [Act.put,q_ia4,q_cz4,q_cs4,i64_w,i32_w];rfl
           refine pure_ (i:=17) (N:=some 36) (v:=?_) (a':=?_) #[bT,bT,bT,bT,bT,bT,bT,bT,bT,bT,bT,bT,bT,bT,bT,bf,bT,bT,bf,bf,bf,bf,bf,bf,bf,bf] rfl rfl (any_of HT_.out (by kernel_rfl)) (fun _ _ _ h => h) (Or.inl ⟨by rfl,?_⟩) ?_ ?_
           rotate_left
           ·intro w';go_simp;with_reducible rfl
           rotate_left
           ·simp only [Act.put,q_ia4,q_cz4,q_cs4,i64_w,i32_w];rfl
           refine pure_ (i:=21) (N:=some 40) (v:=?_) (a':=?_) #[bT,bT,bT,bT,bT,bT,bT,bT,bT,bT,bT,bT,bT,bT,bT,bf,bT,bT,bf,bf,bf,bT,bf,bf,bf,bf] rfl rfl (any_of HT_.out (by kernel_rfl)) (fun _ _ _ h => h) (Or.inl ⟨by rfl,?_⟩) ?_ ?_
           rotate_left
           ·intro w';go_simp;with_reducible rfl
           rotate_left
           ·simp only [Act.put,q_ia4,q_cz4,q_cs4,i64_w,i32_w];rfl
           refine take_ (i:=15) (N:=some 34) (v:=?_) (a':=?_) #[bT,bT,bT,bT,bT,bT,bT,bT,bT,bT,bT,bT,bT,bT,bT,bT,bT,bT,bf,bf,bf,bT,bf,bf,bf,bf] rfl rfl (take_ofW HT_.out HW_.out (by kernel_rfl)) (fun _ _ _ h => h) (Or.inl ⟨by rfl,?_⟩) hHeld ?_ ?_
           rotate_left
           ·rintro w' ⟨s0,s1,s2,s3,s4,s5,s6⟩
            go_simp
            with_reducible rfl
           rotate_left
           ·simp only [Act.put,q_ia4,q_cz4,q_cs4,i64_w,i32_w];rfl
           refine pure_ (i:=18) (N:=some 37) (v:=?_) (a':=?_) #[bT,bT,bT,bT,bT,bT,bT,bT,bT,bT,bT,bT,bT,bT,bT,bT,bT,bT,bT,bf,bf,bT,bf,bf,bf,bf] rfl rfl (any_of HT_.out (by kernel_rfl)) (fun _ _ _ h => h) (Or.inl ⟨by rfl,?_⟩) ?_ ?_
           rotate_left
           ·intro w';go_simp;with_reducible rfl
           rotate_left
           ·simp only [Act.put,q_ia4,q_cz4,q_cs4,i64_w,i32_w];rfl
           refine pure_ (i:=19) (N:=some 38) (v:=?_) (a':=?_) #[bT,bT,bT,bT,bT,bT,bT,bT,bT,bT,bT,bT,bT,bT,bT,bT,bT,bT,bT,bT,bf,bT,bf,bf,bf,bf] rfl rfl (any_of HT_.out (by kernel_rfl)) (fun _ _ _ h => h) (Or.inl ⟨by rfl,?_⟩) ?_ ?_
           rotate_left
           ·intro w';go_simp;with_reducible rfl
           rotate_left
           ·simp only [Act.put,q_ia4,q_cz4,q_cs4,i64_w,i32_w];rfl
           refine take_ (i:=20) (N:=some 39) (v:=?_) (a':=?_) #[bT,bT,bT,bT,bT,bT,bT,bT,bT,bT,bT,bT,bT,bT,bT,bT,bT,bT,bT,bT,bT,bT,bf,bf,bf,bf] rfl rfl (take_ofW HT_.out HW_.out (by kernel_rfl)) (fun _ _ _ h => h) (Or.inl ⟨by rfl,?_⟩) hHeld ?_ ?_
           rotate_left
           ·rintro w' ⟨s0,s1,s2,s3,s4,s5,s6⟩
            go_simp
            with_reducible rfl
           rotate_left
           ·simp only [Act.put,q_ia4,q_cz4,q_cs4,i64_w,i32_w];rfl
           refine take_ (i:=22) (N:=some 41) (v:=?_) (a':=?_) #[bT,bT,bT,bT,bT,bT,bT,bT,bT,bT,bT,bT,bT,bT,bT,bT,bT,bT,bT,bT,bT,bT,bT,bf,bf,bf] rfl rfl (take_ofW HT_.out HW_.out (by kernel_rfl)) (fun _ _ _ h => h) (Or.inl ⟨by rfl,?_⟩) hHeld ?_ ?_
           rotate_left
           ·rintro w' ⟨s0,s1,s2,s3,s4,s5,s6⟩
            go_simp
            with_reducible rfl
           rotate_left
           ·simp only [Act.put,q_ia4,q_cz4,q_cs4,i64_w,i32_w];rfl
           refine pure_ (i:=23) (N:=some 42) (v:=?_) (a':=?_) #[bT,bT,bT,bT,bT,bT,bT,bT,bT,bT,bT,bT,bT,bT,bT,bT,bT,bT,bT,bT,bT,bT,bT,bT,bf,bf] rfl rfl (any_of HT_.out (by kernel_rfl)) (fun _ _ _ h => h) (Or.inl ⟨by rfl,?_⟩) ?_ ?_
           rotate_left
           ·intro w';go_simp;with_reducible rfl
           rotate_left
           ·simp only [Act.put,q_ia4,q_cz4,q_cs4,i64_w,i32_w];rfl
           refine pure_ (i:=24) (N:=some 43) (v:=?_) (a':=?_) #[bT,bT,bT,bT,bT,bT,bT,bT,bT,bT,bT,bT,bT,bT,bT,bT,bT,bT,bT,bT,bT,bT,bT,bT,bT,bf] rfl rfl (any_of HT_.out (by kernel_rfl)) (fun _ _ _ h => h) (Or.inl ⟨by rfl,?_⟩) ?_ ?_
           rotate_left
           ·intro w';go_simp;with_reducible rfl
           rotate_left
           ·simp only [Act.put,q_ia4,q_cz4,q_cs4,i64_w,i32_w];rfl
           refine pure_ (i:=25) (N:=some 44) (v:=?_) (a':=?_) #[bT,bT,bT,bT,bT,bT,bT,bT,bT,bT,bT,bT,bT,bT,bT,bT,bT,bT,bT,bT,bT,bT,bT,bT,bT,bT] rfl rfl (any_of HT_.out (by kernel_rfl)) (fun _ _ _ h => h) (Or.inl ⟨by rfl,?_⟩) ?_ ?_
           rotate_left
           ·intro w';go_simp;with_reducible rfl
           rotate_left
           ·simp only [Act.put,q_ia4,q_cz4,q_cs4,i64_w,i32_w];rfl
           refine done_ (done_of HT_.out (by kernel_rfl)) ?_
           try go_wp2
           go_roundg k1
           case measure => have:=HK1.out;omega
           case rel => exact ⟨(wrap64 (x3_1 + 1)),(by first|rfl|(simp;done)|(simp [*];done)),H',⟨by have:=HK1.out;omega⟩,⟨by (with_reducible repeat (first|refine bN ?_ _|refine bD ?_|refine bA ?_ _));exact BK158.out⟩,⟨by repeat (first|(with_reducible first|exact HB.out|apply lA|apply lN|apply lD|refine lS ?_ GE158.out|refine lS ?_ GE160.out)|exact HB.out)⟩⟩
          ·rw [if_neg c18] at H
           have c18b0 : (Op.bytesLess (((rd_T105 l0_0 (ji15)).f0).toList) (((rd_T105 l0_0 x3_1).f0).toList)) = false:=by simpa using c18
           clear c18
           obtain rfl:=Option.some.inj H
           have hcz25_0 : wr.cell? ⟨gb158,0,none⟩ = some (.slice A0_0 l0_0.length c0_0):=(bC BK158.out 0).trans rfl
           have hcz25_1 : wr.cell? ⟨gb158,1,none⟩ = some (.slice A0_1 l0_1.length c0_1):=(bC BK158.out 1).trans rfl
           have hcz25_2 : wr.cell? ⟨gb158,2,none⟩ = some (.string a0_2):=(bC BK158.out 2).trans rfl
           have hfz25_0:=bF BK158.out 0
           have hfz25_1:=bF BK158.out 1
           have hfz25_2:=bF BK158.out 2
           have p159 : 0 ≤ (x3_1 : Int):=of_decide_eq_true (by first|(with_reducible assumption)|assumption)
           have q159 : x3_1 < (l0_0.length : Int):=of_decide_eq_true (by first|(with_reducible assumption)|assumption)
           obtain ⟨ad159,e159,hx159_0,hx159_1⟩:=at_T105 HR0_0.out x3_1 p159 q159
           cases e159
           replace hx159_0:=(HB.out.cell (World.block_lt_of_cell? w _ hx159_0)).trans hx159_0
           replace hx159_1:=(HB.out.cell (World.block_lt_of_cell? w _ hx159_1)).trans hx159_1
           replace p159:=eq_true p159
           replace q159:=eq_true q159
           try go_wp2_with (first|((with_reducible refine gate_dst (N:=4) rfl ?_);(try (refine gate_guard (by rfl) ?_;dsimp only));refine box_event ?hg (N:=4) ?hd (cs:=#[.string (⟨#[]⟩ : ByteArray),.string (⟨#[]⟩ : ByteArray)]) (t:=105) ?hr ?_;(case hd => rfl);(case hg => rfl);(case hr => first|(go_simp;done)|(go_simp;rfl));intro gb160 hg w26 hbox hb;have n0_:=aM (bB (g:=gb158) (o:=.cells #[.slice (some ad159) l0_0.length c0_0,.slice A0_1 l0_1.length c0_1,.string a0_2] 54 (0,0)) (by (with_reducible repeat (first|refine bN ?_ _|refine bD ?_|refine bA ?_ _));exact BK158.out) hb);have n1_:=aM (lP (by repeat (first|(with_reducible first|exact HB.out|apply lA|apply lN|apply lD|refine lS ?_ GE158.out)|exact HB.out)) hb);have n2_:=aM (hbox);have n3_:=aM ((by rw [hg];exact (lZ (by repeat (first|(with_reducible first|exact HB.out|apply lA|apply lN|apply lD|refine lS ?_ GE158.out)|exact HB.out))) : w.heap.size ≤ gb160));have n4_:=aM ((by rw [hg];exact (lZ (by repeat (first|(with_reducible first|exact HB.out|apply lA|apply lN|apply lD|refine lS ?_ GE158.out)|exact HB.out))) : w.heap.size ≤ gb160));have n5_:=aM ((by rw [hg];exact Nat.ne_of_lt (bL (g:=gb158) (o:=.cells #[.slice (some ad159) l0_0.length c0_0,.slice A0_1 l0_1.length c0_1,.string a0_2] 54 (0,0)) (by (with_reducible repeat (first|refine bN ?_ _|refine bD ?_|refine bA ?_ _));exact BK158.out)) : gb158 ≠ gb160));have n6_:=aM ((by rw [hg];exact Nat.ne_of_gt (bL (g:=gb158) (o:=.cells #[.slice (some ad159) l0_0.length c0_0,.slice A0_1 l0_1.length c0_1,.string a0_2] 54 (0,0)) (by (with_reducible repeat (first|refine bN ?_ _|refine bD ?_|refine bA ?_ _));exact BK158.out)) : gb160 ≠ gb158));clear BK158 HB;have BK158:=n0_;have HB:=n1_;have BK160:=n2_;have GW160:=n3_;have GE160:=n4_;have NB158_160:=n5_;have NB160_158:=n6_;clear n0_ n1_ n2_ n3_ n4_ n5_ n6_ hb hbox hg;have hnb27:=NB160_158.out;have hnc27:=NB158_160.out;have hcz28_0 : w26.cell? ⟨gb160,0,none⟩ = some (.string (⟨#[]⟩ : ByteArray)):=(bC BK160.out 0).trans rfl;have hcz28_1 : w26.cell? ⟨gb160,1,none⟩ = some (.string (⟨#[]⟩ : ByteArray)):=(bC BK160.out 1).trans rfl;have hfz28_0:=bF BK160.out 0;have hfz28_1:=bF BK160.out 1))
           have n0_ : Aside0 (((w26.setCell ⟨gb160,0,none⟩ (.string ((rd_T105 l0_0 x3_1).f0))).setCell ⟨gb160,1,none⟩ (.string ((rd_T105 l0_0 x3_1).f1))).heap[gb158]? = some (.cells #[.slice (some ad159) l0_0.length c0_0,.slice A0_1 l0_1.length c0_1,.string a0_2] 54 (0,0))):=⟨by (with_reducible repeat (first|refine bN ?_ _|refine bD ?_|refine bA ?_ _));refine blk_far ?_ NB158_160.out _;(with_reducible repeat (first|refine bN ?_ _|refine bD ?_|refine bA ?_ _));refine blk_far ?_ NB158_160.out _;(with_reducible repeat (first|refine bN ?_ _|refine bD ?_|refine bA ?_ _));exact BK158.out⟩
           have n1_ : Aside0 (((w26.setCell ⟨gb160,0,none⟩ (.string ((rd_T105 l0_0 x3_1).f0))).setCell ⟨gb160,1,none⟩ (.string ((rd_T105 l0_0 x3_1).f1))).heap[gb160]? = some (.cells #[.string ((rd_T105 l0_0 x3_1).f0),.string ((rd_T105 l0_0 x3_1).f1)] 105 (0,0))):=⟨by (with_reducible repeat (first|refine bN ?_ _|refine bD ?_|refine bA ?_ _));refine blk_put (cs:=#[.string ((rd_T105 l0_0 x3_1).f0),.string (⟨#[]⟩ : ByteArray)]) ?_ 1 _ rfl;(with_reducible repeat (first|refine bN ?_ _|refine bD ?_|refine bA ?_ _));refine blk_put (cs:=#[.string (⟨#[]⟩ : ByteArray),.string (⟨#[]⟩ : ByteArray)]) ?_ 0 _ rfl;(with_reducible repeat (first|refine bN ?_ _|refine bD ?_|refine bA ?_ _));exact BK160.out⟩
           have n2_ : Aside0 (Below w.heap.size w ((w26.setCell ⟨gb160,0,none⟩ (.string ((rd_T105 l0_0 x3_1).f0))).setCell ⟨gb160,1,none⟩ (.string ((rd_T105 l0_0 x3_1).f1)))):=⟨by repeat (first|(with_reducible first|exact HB.out|apply lA|apply lN|apply lD|refine lS ?_ GE158.out|refine lS ?_ GE160.out)|exact HB.out)⟩
           (try clear BK158)
           (try clear BK160)
           (try clear HB)
           generalize ((w26.setCell ⟨gb160,0,none⟩ (.string ((rd_T105 l0_0 x3_1).f0))).setCell ⟨gb160,1,none⟩ (.string ((rd_T105 l0_0 x3_1).f1))) = w29 at n0_ n1_ n2_ ⊢
           have BK158:=n0_
           have BK160:=n1_
           have HB:=n2_
           clear n0_ n1_ n2_
           have n0_:=aM (bD BK158.out)
           have n1_:=aM (bD BK160.out)
           have n2_:=aM (lD HB.out)
           clear BK158
           clear BK160
           clear HB
           have BK158:=n0_
           have BK160:=n1_
           have HB:=n2_
           clear n0_ n1_ n2_
           have p162 : 0 ≤ ((ji15) : Int):=of_decide_eq_true (by first|(with_reducible assumption)|assumption)
           have q162 : (ji15) < (l0_0.length : Int):=of_decide_eq_true (by first|(with_reducible assumption)|assumption)
           obtain ⟨ad162,e162,hx162_0,hx162_1⟩:=at_T105 HR0_0.out (ji15) p162 q162
           have hw162_1:=hx162_1
           have hw162_0:=hx162_0
           obtain rfl : ad159 = ad162:=(by injection e162)
           replace hx162_0:=(HB.out.cell (World.block_lt_of_cell? w _ hx162_0)).trans hx162_0
           replace hx162_1:=(HB.out.cell (World.block_lt_of_cell? w _ hx162_1)).trans hx162_1
           replace p162:=eq_true p162
           replace q162:=eq_true q162
           refine start_ (n:=26) (S:=fun w' => w'.cell? ⟨gb160,0,none⟩ = some (.string ((rd_T105 l0_0 x3_1).f0)) ∧ w'.cell? ⟨gb160,1,none⟩ = some (.string ((rd_T105 l0_0 x3_1).f1)) ∧ w'.cell? ⟨gb158,0,none⟩ = some (.slice (some ad159) l0_0.length c0_0) ∧ w'.cell? ⟨gb158,1,none⟩ = some (.slice A0_1 l0_1.length c0_1) ∧ w'.cell? ⟨gb158,2,none⟩ = some (.string a0_2) ∧ w'.cell? (ad159.add (((ji15)).toNat * 2)) = some (.string ((rd_T105 l0_0 (ji15)).f0)) ∧ w'.cell? ⟨(ad159.add (((ji15)).toNat * 2)).block,(ad159.add (((ji15)).toNat * 2)).off + 1,none⟩ = some (.string ((rd_T105 l0_0 (ji15)).f1))) (ds:=[]) #[bf,bf,bf,bf,bf,bf,bf,bf,bf,bf,bf,bf,bf,bf,bf,bf,bf,bf,bf,bf,bf,bf,bf,bf,bf,bf] (by kernel_rfl) rfl rfl ⟨(bC BK160.out 0).trans rfl,(bC BK160.out 1).trans rfl,(bC BK158.out 0).trans rfl,(bC BK158.out 1).trans rfl,(bC BK158.out 2).trans rfl,((HB.out.cell (World.block_lt_of_cell? w _ hw162_0)).trans hw162_0),((HB.out.cell (World.block_lt_of_cell? w _ hw162_1)).trans hw162_1)⟩ (fun hHeld => ?_);refine with_tabW spec_StoreOk.tab5 spec_StoreOk.bits5 (fun HT_ HW_ => ?_)
           generalize w29.drew = w30 at BK158 BK160 HB hx162_0 hx162_1 hHeld ⊢
           refine pure_ (i:=0) (N:=some 19) (v:=?_) (a':=?_) #[bT,bf,bf,bf,bf,bf,bf,bf,bf,bf,bf,bf,bf,bf,bf,bf,bf,bf,bf,bf,bf,bf,bf,bf,bf,bf] rfl rfl (any_of HT_.out (by kernel_rfl)) (fun _ _ _ h => h) (Or.inl ⟨by rfl,?_⟩) ?_ ?_
           rotate_left
           ·intro w';go_simp;with_reducible rfl
           rotate_left
           ·simp only [Act.put,q_ia4,q_cz4,q_cs4,i64_w,i32_w];rfl
           refine take_ (i:=1) (N:=some 20) (v:=?_) (a':=?_) #[bT,bT,bf,bf,bf,bf,bf,bf,bf,bf,bf,bf,bf,bf,bf,bf,bf,bf,bf,bf,bf,bf,bf,bf,bf,bf] rfl rfl (take_ofW HT_.out HW_.out (by kernel_rfl)) (fun _ _ _ h => h) (Or.inl ⟨by rfl,?_⟩) hHeld ?_ ?_
           rotate_left
           ·rintro w' ⟨s0,s1,s2,s3,s4,s5,s6⟩
            go_simp
            with_reducible rfl
           rotate_left
           ·simp only [Act.put,q_ia4,q_cz4,q_cs4,i64_w,i32_w];rfl
           refine one_ (i:=2) (N:=some 21) #[bT,bT,bT,bf,bf,bf,bf,bf,bf,bf,bf,bf,bf,bf,bf,bf,bf,bf,bf,bf,bf,bf,bf,bf,bf,bf] rfl rfl (one_of HT_.out (by kernel_rfl)) (by decide) (fun K hK => ?_)
           refine goes_ Try.func105 (by kernel_rfl) rfl #[.string ((rd_T105 l0_0 x3_1).f0)] (by rfl) rfl rfl (by (try simp only [List.map_toArray,List.map_cons,List.map_nil]);first|done|rfl|(simp only [List.length_drop,List.length_take];rfl)) ?_
           with_reducible refine (spec_l07Name.calls k1 ((rd_T105 l0_0 x3_1).f0) true _ A5.out).mono ?_
           rintro e w' ⟨rfl,⟨nd,rfl⟩⟩
           refine ⟨_,rfl,?_⟩
           refine hK.out _ _ ⟨(bC BK160.out 0).trans rfl,(bC BK160.out 1).trans rfl,(bC BK158.out 0).trans rfl,(bC BK158.out 1).trans rfl,(bC BK158.out 2).trans rfl,((HB.out.cell (World.block_lt_of_cell? w _ hw162_0)).trans hw162_0),((HB.out.cell (World.block_lt_of_cell? w _ hw162_1)).trans hw162_1)⟩ (fun hHeld => ?_)
           clear hK K
           refine norm_ (a':=?_) ?_ ?_
           rotate_left
           ·show Act.put _ (some 21) _ = _
            simp only [Act.put,q_ia4,q_cz4,q_cs4,i64_w,i32_w]
            rfl
           refine pure_ (i:=3) (N:=some 22) (v:=?_) (a':=?_) #[bT,bT,bT,bT,bf,bf,bf,bf,bf,bf,bf,bf,bf,bf,bf,bf,bf,bf,bf,bf,bf,bf,bf,bf,bf,bf] rfl rfl (any_of HT_.out (by kernel_rfl)) (fun _ _ _ h => h) (Or.inl ⟨by rfl,?_⟩) ?_ ?_
           rotate_left
           ·intro w';go_simp;with_reducible rfl
           rotate_left
           ·simp only [Act.put,q_ia4,q_cz4,q_cs4,i64_w,i32_w];rfl
           refine pure_ (i:=4) (N:=some 23) (v:=?_) (a':=?_) #[bT,bT,bT,bT,bT,bf,bf,bf,bf,bf,bf,bf,bf,bf,bf,bf,bf,bf,bf,bf,bf,bf,bf,bf,bf,bf] rfl rfl (any_of HT_.out (by kernel_rfl)) (fun _ _ _ h => h) (Or.inl ⟨by rfl,?_⟩) ?_ ?_
           rotate_left
           ·intro w';go_simp;with_reducible rfl
           rotate_left
           ·simp only [Act.put,q_ia4,q_cz4,q_cs4,i64_w,i32_w];rfl
           refine pure_ (i:=5) (N:=some 24) (v:=?_) (a':=?_) #[bT,bT,bT,bT,bT,bT,bf,bf,bf,bf,bf,bf,bf,bf,bf,bf,bf,bf,bf,bf,bf,bf,bf,bf,bf,bf] rfl rfl (any_of HT_.out (by kernel_rfl)) (fun _ _ _ h => h) (Or.inl ⟨by rfl,?_⟩) ?_ ?_
           rotate_left
           ·intro w';go_simp;with_reducible rfl
           rotate_left
           ·simp only [Act.put,q_ia4,q_cz4,q_cs4,i64_w,i32_w];rfl
           refine take_ (i:=6) (N:=some 25) (v:=?_) (a':=?_) #[bT,bT,bT,bT,bT,bT,bT,bf,bf,bf,bf,bf,bf,bf,bf,bf,bf,bf,bf,bf,bf,bf,bf,bf,bf,bf] rfl rfl (take_ofW HT_.out HW_.out (by kernel_rfl)) (fun _ _ _ h => h) (Or.inl ⟨by rfl,?_⟩) hHeld ?_ ?_
           rotate_left
           ·rintro w' ⟨s0,s1,s2,s3,s4,s5,s6⟩
            go_simp
            with_reducible rfl
           rotate_left
           ·simp only [Act.put,q_ia4,q_cz4,q_cs4,i64_w,i32_w];rfl
           refine pure_ (i:=7) (N:=some 26) (v:=?_) (a':=?_) #[bT,bT,bT,bT,bT,bT,bT,bT,bf,bf,bf,bf,bf,bf,bf,bf,bf,bf,bf,bf,bf,bf,bf,bf,bf,bf] rfl rfl (any_of HT_.out (by kernel_rfl)) (fun _ _ _ h => h) (Or.inl ⟨by rfl,?_⟩) ?_ ?_
           rotate_left
           ·intro w';go_simp;with_reducible rfl
           rotate_left
           ·simp only [Act.put,q_ia4,q_cz4,q_cs4,i64_w,i32_w];rfl
           refine pure_ (i:=8) (N:=some 27) (v:=?_) (a':=?_) #[bT,bT,bT,bT,bT,bT,bT,bT,bT,bf,bf,bf,bf,bf,bf,bf,bf,bf,bf,bf,bf,bf,bf,bf,bf,bf] rfl rfl (any_of HT_.out (by kernel_rfl)) (fun _ _ _ h => h) (Or.inl ⟨by rfl,?_⟩) ?_ ?_
           rotate_left
           ·intro w';go_simp;with_reducible rfl
           rotate_left
           ·simp only [Act.put,q_ia4,q_cz4,q_cs4,i64_w,i32_w];rfl
           refine pure_ (i:=9) (N:=some 28) (v:=?_) (a':=?_) #[bT,bT,bT,bT,bT,bT,bT,bT,bT,bT,bf,bf,bf,bf,bf,bf,bf,bf,bf,bf,bf,bf,bf,bf,bf,bf] rfl rfl (any_of HT_.out (by kernel_rfl)) (fun _ _ _ h => h) (Or.inl ⟨by rfl,?_⟩) ?_ ?_
           rotate_left
           ·intro w';go_simp;with_reducible rfl
           rotate_left
           ·simp only [Act.put,q_ia4,q_cz4,q_cs4,i64_w,i32_w];rfl
           refine pure_ (i:=10) (N:=some 29) (v:=?_) (a':=?_) #[bT,bT,bT,bT,bT,bT,bT,bT,bT,bT,bT,bf,bf,bf,bf,bf,bf,bf,bf,bf,bf,bf,bf,bf,bf,bf] rfl rfl (any_of HT_.out (by kernel_rfl)) (fun _ _ _ h => h) (Or.inl ⟨by rfl,?_⟩) ?_ ?_
           rotate_left
           ·intro w';go_simp;with_reducible rfl
           rotate_left
           ·simp only [Act.put,q_ia4,q_cz4,q_cs4,i64_w,i32_w];rfl
           refine pure_ (i:=11) (N:=some 30) (v:=?_) (a':=?_) #[bT,bT,bT,bT,bT,bT,bT,bT,bT,bT,bT,bT,bf,bf,bf,bf,bf,bf,bf,bf,bf,bf,bf,bf,bf,bf] rfl rfl (any_of HT_.out (by kernel_rfl)) (fun _ _ _ h => h) (Or.inl ⟨by rfl,?_⟩) ?_ ?_
           rotate_left
           ·intro w';go_simp;with_reducible rfl
           rotate_left
           ·simp only [Act.put,q_ia4,q_cz4,q_cs4,i64_w,i32_w];rfl
           refine pure_ (i:=12) (N:=some 31) (v:=?_) (a':=?_) #[bT,bT,bT,bT,bT,bT,bT,bT,bT,bT,bT,bT,bT,bf,bf,bf,bf,bf,bf,bf,bf,bf,bf,bf,bf,bf] rfl rfl (any_of HT_.out (by kernel_rfl)) (fun _ _ _ h => h) (Or.inl ⟨by rfl,?_⟩) ?_ ?_
           rotate_left
           ·intro w';go_simp;with_reducible rfl
           rotate_left
           ·simp only [Act.put,q_ia4,q_cz4,q_cs4,i64_w,i32_w];rfl
           refine pure_ (i:=13) (N:=some 32) (v:=?_) (a':=?_) #[bT,bT,bT,bT,bT,bT,bT,bT,bT,bT,bT,bT,bT,bT,bf,bf,bf,bf,bf,bf,bf,bf,bf,bf,bf,bf] rfl rfl (any_of HT_.out (by kernel_rfl)) (fun _ _ _ h => h) (Or.inl ⟨by rfl,?_⟩) ?_ ?_
           rotate_left
           ·intro w';go_simp;with_reducible rfl
           rotate_left
           ·simp only [Act.put,q_ia4,q_cz4,q_cs4,i64_w,i32_w];rfl
           refine pure_ (i:=14) (N:=some 33) (v:=?_) (a':=?_) #[bT,bT,bT,bT,bT,bT,bT,bT,bT,bT,bT,bT,bT,bT,bT,bf,bf,bf,bf,bf,bf,bf,bf,bf,bf,bf] rfl rfl (any_of HT_.out (by kernel_rfl)) (fun _ _ _ h => h) (Or.inl ⟨by rfl,?_⟩) ?_ ?_
           rotate_left
           ·intro w';go_simp;with_reducible rfl
           rotate_left
           ·simp only [Act.put,q_ia4,q_cz4,q_cs4,i64_w,i32_w];rfl
           refine pure_ (i:=16) (N:=some 35) (v:=?_) (a':=?_) #[bT,bT,bT,bT,bT,bT,bT,bT,bT,bT,bT,bT,bT,bT,bT,bf,bT,bf,bf,bf,bf,bf,bf,bf,bf,bf] rfl rfl (any_of HT_.out (by kernel_rfl)) (fun _ _ _ h => h) (Or.inl ⟨by rfl,?_⟩) ?_ ?_
           rotate_left
           ·intro w';go_simp;with_reducible rfl
           rotate_left
           ·simp only [Act.put,q_ia4,q_cz4,q_cs4,i64_w,i32_w];rfl
           refine pure_ (i:=17) (N:=some 36) (v:=?_) (a':=?_) #[bT,bT,bT,bT,bT,bT,bT,bT,bT,bT,bT,bT,bT,bT,bT,bf,bT,bT,bf,bf,bf,bf,bf,bf,bf,bf] rfl rfl (any_of HT_.out (by kernel_rfl)) (fun _ _ _ h => h) (Or.inl ⟨by rfl,?_⟩) ?_ ?_
           rotate_left
           ·intro w';go_simp;with_reducible rfl
           rotate_left
           ·simp only [Act.put,q_ia4,q_cz4,q_cs4,i64_w,i32_w];rfl
           refine pure_ (i:=21) (N:=some 40) (v:=?_) (a':=?_) #[bT,bT,bT,bT,bT,bT,bT,bT,bT,bT,bT,bT,bT,bT,bT,bf,bT,bT,bf,bf,bf,bT,bf,bf,bf,bf] rfl rfl (any_of HT_.out (by kernel_rfl)) (fun _ _ _ h => h) (Or.inl ⟨by rfl,?_⟩) ?_ ?_
           rotate_left
           ·intro w';go_simp;with_reducible rfl
           rotate_left
           ·simp only [Act.put,q_ia4,q_cz4,q_cs4,i64_w,i32_w];rfl
           refine take_ (i:=15) (N:=some 34) (v:=?_) (a':=?_) #[bT,bT,bT,bT,bT,bT,bT,bT,bT,bT,bT,bT,bT,bT,bT,bT,bT,bT,bf,bf,bf,bT,bf,bf,bf,bf] rfl rfl (take_ofW HT_.out HW_.out (by kernel_rfl)) (fun _ _ _ h => h) (Or.inl ⟨by rfl,?_⟩) hHeld ?_ ?_
           rotate_left
           ·rintro w' ⟨s0,s1,s2,s3,s4,s5,s6⟩
            go_simp
            with_reducible rfl
           rotate_left
           ·simp only [Act.put,q_ia4,q_cz4,q_cs4,i64_w,i32_w];rfl
           refine pure_ (i:=18) (N:=some 37) (v:=?_) (a':=?_) #[bT,bT,bT,bT,bT,bT,bT,bT,bT,bT,bT,bT,bT,bT,bT,bT,bT,bT,bT,bf,bf,bT,bf,bf,bf,bf] rfl rfl (any_of HT_.out (by kernel_rfl)) (fun _ _ _ h => h) (Or.inl ⟨by rfl,?_⟩) ?_ ?_
           rotate_left
           ·intro w';go_simp;with_reducible rfl
           rotate_left
           ·simp only [Act.put,q_ia4,q_cz4,q_cs4,i64_w,i32_w];rfl
           refine pure_ (i:=19) (N:=some 38) (v:=?_) (a':=?_) #[bT,bT,bT,bT,bT,bT,bT,bT,bT,bT,bT,bT,bT,bT,bT,bT,bT,bT,bT,bT,bf,bT,bf,bf,bf,bf] rfl rfl (any_of HT_.out (by kernel_rfl)) (fun _ _ _ h => h) (Or.inl ⟨by rfl,?_⟩) ?_ ?_
           rotate_left
           ·intro w';go_simp;with_reducible rfl
           rotate_left
           ·simp only [Act.put,q_ia4,q_cz4,q_cs4,i64_w,i32_w];rfl
           refine take_ (i:=20) (N:=some 39) (v:=?_) (a':=?_) #[bT,bT,bT,bT,bT,bT,bT,bT,bT,bT,bT,bT,bT,bT,bT,bT,bT,bT,bT,bT,bT,bT,bf,bf,bf,bf] rfl rfl (take_ofW HT_.out HW_.out (by kernel_rfl)) (fun _ _ _ h => h) (Or.inl ⟨by rfl,?_⟩) hHeld ?_ ?_
           rotate_left
           ·rintro w' ⟨s0,s1,s2,s3,s4,s5,s6⟩
            go_simp
            with_reducible rfl
           rotate_left
           ·simp only [Act.put,q_ia4,q_cz4,q_cs4,i64_w,i32_w];rfl
           refine take_ (i:=22) (N:=some 41) (v:=?_) (a':=?_) #[bT,bT,bT,bT,bT,bT,bT,bT,bT,bT,bT,bT,bT,bT,bT,bT,bT,bT,bT,bT,bT,bT,bT,bf,bf,bf] rfl rfl (take_ofW HT_.out HW_.out (by kernel_rfl)) (fun _ _ _ h => h) (Or.inl ⟨by rfl,?_⟩) hHeld ?_ ?_
           rotate_left
           ·rintro w' ⟨s0,s1,s2,s3,s4,s5,s6⟩
            go_simp
            with_reducible rfl
           rotate_left
           ·simp only [Act.put,q_ia4,q_cz4,q_cs4,i64_w,i32_w];rfl
           refine pure_ (i:=23) (N:=some 42) (v:=?_) (a':=?_) #[bT,bT,bT,bT,bT,bT,bT,bT,bT,bT,bT,bT,bT,bT,bT,bT,bT,bT,bT,bT,bT,bT,bT,bT,bf,bf] rfl rfl (any_of HT_.out (by kernel_rfl)) (fun _ _ _ h => h) (Or.inl ⟨by rfl,?_⟩) ?_ ?_
           rotate_left
           ·intro w';go_simp;with_reducible rfl
           rotate_left
           ·simp only [Act.put,q_ia4,q_cz4,q_cs4,i64_w,i32_w];rfl
           refine pure_ (i:=24) (N:=some 43) (v:=?_) (a':=?_) #[bT,bT,bT,bT,bT,bT,bT,bT,bT,bT,bT,bT,bT,bT,bT,bT,bT,bT,bT,bT,bT,bT,bT,bT,bT,bf] rfl rfl (any_of HT_.out (by kernel_rfl)) (fun _ _ _ h => h) (Or.inl ⟨by rfl,?_⟩) ?_ ?_
           rotate_left
           ·intro w';go_simp;with_reducible rfl
           rotate_left
           ·simp only [Act.put,q_ia4,q_cz4,q_cs4,i64_w,i32_w];rfl
           refine pure_ (i:=25) (N:=some 44) (v:=?_) (a':=?_) #[bT,bT,bT,bT,bT,bT,bT,bT,bT,bT,bT,bT,bT,bT,bT,bT,bT,bT,bT,bT,bT,bT,bT,bT,bT,bT] rfl rfl (any_of HT_.out (by kernel_rfl)) (fun _ _ _ h => h) (Or.inl ⟨by rfl,?_⟩) ?_ ?_
           rotate_left
           ·intro w';go_simp;with_reducible rfl
           rotate_left
           ·simp only [Act.put,q_ia4,q_cz4,q_cs4,i64_w,i32_w];rfl
           refine done_ (done_of HT_.out (by kernel_rfl)) ?_
           try go_wp2
           go_ret
           exact ⟨by first|rfl|(simp [errW_none,errW_some] <;> rfl)|(simp only [← hji15];first|rfl|(simp [errW_none,errW_some] <;> rfl))|(simp [*,errW_none,errW_some] <;> rfl),by repeat (first|(with_reducible first|exact HB.out|apply lA|apply lN|apply lD|refine lS ?_ GE158.out|refine lS ?_ GE160.out)|exact HB.out)⟩
         ·rw [if_neg c17] at H
          exact absurd H (by simp)
        ·rw [if_neg c16] at H
         exact absurd H (by simp)
       ·rw [if_neg c14] at H
        have c14b0 : decide (0 < x3_1) = false:=decide_eq_false c14
        clear c14
        have H':=aM H
        clear H
        have hcz31_0 : wr.cell? ⟨gb158,0,none⟩ = some (.slice A0_0 l0_0.length c0_0):=(bC BK158.out 0).trans rfl
        have hcz31_1 : wr.cell? ⟨gb158,1,none⟩ = some (.slice A0_1 l0_1.length c0_1):=(bC BK158.out 1).trans rfl
        have hcz31_2 : wr.cell? ⟨gb158,2,none⟩ = some (.string a0_2):=(bC BK158.out 2).trans rfl
        have hfz31_0:=bF BK158.out 0
        have hfz31_1:=bF BK158.out 1
        have hfz31_2:=bF BK158.out 2
        have p159 : 0 ≤ (x3_1 : Int):=of_decide_eq_true (by first|(with_reducible assumption)|assumption)
        have q159 : x3_1 < (l0_0.length : Int):=of_decide_eq_true (by first|(with_reducible assumption)|assumption)
        obtain ⟨ad159,e159,hx159_0,hx159_1⟩:=at_T105 HR0_0.out x3_1 p159 q159
        cases e159
        replace hx159_0:=(HB.out.cell (World.block_lt_of_cell? w _ hx159_0)).trans hx159_0
        replace hx159_1:=(HB.out.cell (World.block_lt_of_cell? w _ hx159_1)).trans hx159_1
        replace p159:=eq_true p159
        replace q159:=eq_true q159
        try go_wp2_with (first|((with_reducible refine gate_dst (N:=4) rfl ?_);(try (refine gate_guard (by rfl) ?_;dsimp only));refine box_event ?hg (N:=4) ?hd (cs:=#[.string (⟨#[]⟩ : ByteArray),.string (⟨#[]⟩ : ByteArray)]) (t:=105) ?hr ?_;(case hd => rfl);(case hg => rfl);(case hr => first|(go_simp;done)|(go_simp;rfl));intro gb160 hg w32 hbox hb;have n0_:=aM (bB (g:=gb158) (o:=.cells #[.slice (some ad159) l0_0.length c0_0,.slice A0_1 l0_1.length c0_1,.string a0_2] 54 (0,0)) (by (with_reducible repeat (first|refine bN ?_ _|refine bD ?_|refine bA ?_ _));exact BK158.out) hb);have n1_:=aM (lP (by repeat (first|(with_reducible first|exact HB.out|apply lA|apply lN|apply lD|refine lS ?_ GE158.out)|exact HB.out)) hb);have n2_:=aM (hbox);have n3_:=aM ((by rw [hg];exact (lZ (by repeat (first|(with_reducible first|exact HB.out|apply lA|apply lN|apply lD|refine lS ?_ GE158.out)|exact HB.out))) : w.heap.size ≤ gb160));have n4_:=aM ((by rw [hg];exact (lZ (by repeat (first|(with_reducible first|exact HB.out|apply lA|apply lN|apply lD|refine lS ?_ GE158.out)|exact HB.out))) : w.heap.size ≤ gb160));have n5_:=aM ((by rw [hg];exact Nat.ne_of_lt (bL (g:=gb158) (o:=.cells #[.slice (some ad159) l0_0.length c0_0,.slice A0_1 l0_1.length c0_1,.string a0_2] 54 (0,0)) (by (with_reducible repeat (first|refine bN ?_ _|refine bD ?_|refine bA ?_ _));exact BK158.out)) : gb158 ≠ gb160));have n6_:=aM ((by rw [hg];exact Nat.ne_of_gt (bL (g:=gb158) (o:=.cells #[.slice (some ad159) l0_0.length c0_0,.slice A0_1 l0_1.length c0_1,.string a0_2] 54 (0,0)) (by (with_reducible repeat (first|refine bN ?_ _|refine bD ?_|refine bA ?_ _));exact BK158.out)) : gb160 ≠ gb158));clear BK158 HB;have BK158:=n0_;have HB:=n1_;have BK160:=n2_;have GW160:=n3_;have GE160:=n4_;have NB158_160:=n5_;have NB160_158:=n6_;clear n0_ n1_ n2_ n3_ n4_ n5_ n6_ hb hbox hg;have hnb33:=NB160_158.out;have hnc33:=NB158_160.out;have hcz34_0 : w32.cell? ⟨gb160,0,none⟩ = some (.string (⟨#[]⟩ : ByteArray)):=(bC BK160.out 0).trans rfl;have hcz34_1 : w32.cell? ⟨gb160,1,none⟩ = some (.string (⟨#[]⟩ : ByteArray)):=(bC BK160.out 1).trans rfl;have hfz34_0:=bF BK160.out 0;have hfz34_1:=bF BK160.out 1))
        have n0_ : Aside0 (((w32.setCell ⟨gb160,0,none⟩ (.string ((rd_T105 l0_0 x3_1).f0))).setCell ⟨gb160,1,none⟩ (.string ((rd_T105 l0_0 x3_1).f1))).heap[gb158]? = some (.cells #[.slice (some ad159) l0_0.length c0_0,.slice A0_1 l0_1.length c0_1,.string a0_2] 54 (0,0))):=⟨by (with_reducible repeat (first|refine bN ?_ _|refine bD ?_|refine bA ?_ _));refine blk_far ?_ NB158_160.out _;(with_reducible repeat (first|refine bN ?_ _|refine bD ?_|refine bA ?_ _));refine blk_far ?_ NB158_160.out _;(with_reducible repeat (first|refine bN ?_ _|refine bD ?_|refine bA ?_ _));exact BK158.out⟩
        have n1_ : Aside0 (((w32.setCell ⟨gb160,0,none⟩ (.string ((rd_T105 l0_0 x3_1).f0))).setCell ⟨gb160,1,none⟩ (.string ((rd_T105 l0_0 x3_1).f1))).heap[gb160]? = some (.cells #[.string ((rd_T105 l0_0 x3_1).f0),.string ((rd_T105 l0_0 x3_1).f1)] 105 (0,0))):=⟨by (with_reducible repeat (first|refine bN ?_ _|refine bD ?_|refine bA ?_ _));refine blk_put (cs:=#[.string ((rd_T105 l0_0 x3_1).f0),.string (⟨#[]⟩ : ByteArray)]) ?_ 1 _ rfl;(with_reducible repeat (first|refine bN ?_ _|refine bD ?_|refine bA ?_ _));refine blk_put (cs:=#[.string (⟨#[]⟩ : ByteArray),.string (⟨#[]⟩ : ByteArray)]) ?_ 0 _ rfl;(with_reducible repeat (first|refine bN ?_ _|refine bD ?_|refine bA ?_ _));exact BK160.out⟩
        have n2_ : Aside0 (Below w.heap.size w ((w32.setCell ⟨gb160,0,none⟩ (.string ((rd_T105 l0_0 x3_1).f0))).setCell ⟨gb160,1,none⟩ (.string ((rd_T105 l0_0 x3_1).f1)))):=⟨by repeat (first|(with_reducible first|exact HB.out|apply lA|apply lN|apply lD|refine lS ?_ GE158.out|refine lS ?_ GE160.out)|exact HB.out)⟩
        (try clear BK158)
        (try clear BK160)
        (try clear HB)
        generalize ((w32.setCell ⟨gb160,0,none⟩ (.string ((rd_T105 l0_0 x3_1).f0))).setCell ⟨gb160,1,none⟩ (.string ((rd_T105 l0_0 x3_1).f1))) = w35 at n0_ n1_ n2_ ⊢
        have BK158:=n0_
        have BK160:=n1_
        have HB:=n2_
        clear n0_ n1_ n2_
        have n0_:=aM (bD BK158.out)
        have n1_:=aM (bD BK160.out)
        have n2_:=aM (lD HB.out)
        clear BK158
        clear BK160
        clear HB
        have BK158:=n0_
        have BK160:=n1_
        have HB:=n2_
        clear n0_ n1_ n2_
        refine start_ (n:=26) (S:=fun w' => w'.cell? ⟨gb160,0,none⟩ = some (.string ((rd_T105 l0_0 x3_1).f0)) ∧ w'.cell? ⟨gb160,1,none⟩ = some (.string ((rd_T105 l0_0 x3_1).f1))) (ds:=[]) #[bf,bf,bf,bf,bf,bf,bf,bf,bf,bf,bf,bf,bf,bf,bf,bf,bf,bf,bf,bf,bf,bf,bf,bf,bf,bf] (by kernel_rfl) rfl rfl ⟨(bC BK160.out 0).trans rfl,(bC BK160.out 1).trans rfl⟩ (fun hHeld => ?_);refine with_tabW spec_StoreOk.tab5 spec_StoreOk.bits5 (fun HT_ HW_ => ?_)
        generalize w35.drew = w36 at BK158 BK160 HB hHeld ⊢
        refine pure_ (i:=0) (N:=some 19) (v:=?_) (a':=?_) #[bT,bf,bf,bf,bf,bf,bf,bf,bf,bf,bf,bf,bf,bf,bf,bf,bf,bf,bf,bf,bf,bf,bf,bf,bf,bf] rfl rfl (any_of HT_.out (by kernel_rfl)) (fun _ _ _ h => h) (Or.inl ⟨by rfl,?_⟩) ?_ ?_
        rotate_left
        ·intro w';go_simp;with_reducible rfl
        rotate_left
        ·simp only [Act.put,q_ia4,q_cz4,q_cs4,i64_w,i32_w];rfl
        refine take_ (i:=1) (N:=some 20) (v:=?_) (a':=?_) #[bT,bT,bf,bf,bf,bf,bf,bf,bf,bf,bf,bf,bf,bf,bf,bf,bf,bf,bf,bf,bf,bf,bf,bf,bf,bf] rfl rfl (take_ofW HT_.out HW_.out (by kernel_rfl)) (fun _ _ _ h => h) (Or.inl ⟨by rfl,?_⟩) hHeld ?_ ?_
        rotate_left
        ·rintro w' ⟨s0,s1⟩
         go_simp
         with_reducible rfl
        rotate_left
        ·simp only [Act.put,q_ia4,q_cz4,q_cs4,i64_w,i32_w];rfl
        refine one_ (i:=2) (N:=some 21) #[bT,bT,bT,bf,bf,bf,bf,bf,bf,bf,bf,bf,bf,bf,bf,bf,bf,bf,bf,bf,bf,bf,bf,bf,bf,bf] rfl rfl (one_of HT_.out (by kernel_rfl)) (by decide) (fun K hK => ?_)
        refine goes_ Try.func105 (by kernel_rfl) rfl #[.string ((rd_T105 l0_0 x3_1).f0)] (by rfl) rfl rfl (by (try simp only [List.map_toArray,List.map_cons,List.map_nil]);first|done|rfl|(simp only [List.length_drop,List.length_take];rfl)) ?_
        with_reducible refine (spec_l07Name.calls k1 ((rd_T105 l0_0 x3_1).f0) true _ A5.out).mono ?_
        rintro e w' ⟨rfl,⟨nd,rfl⟩⟩
        refine ⟨_,rfl,?_⟩
        refine hK.out _ _ ⟨(bC BK160.out 0).trans rfl,(bC BK160.out 1).trans rfl⟩ (fun hHeld => ?_)
        clear hK K
        refine norm_ (a':=?_) ?_ ?_
        rotate_left
        ·show Act.put _ (some 21) _ = _
         simp only [Act.put,q_ia4,q_cz4,q_cs4,i64_w,i32_w]
         rfl
        refine pure_ (i:=3) (N:=some 22) (v:=?_) (a':=?_) #[bT,bT,bT,bT,bf,bf,bf,bf,bf,bf,bf,bf,bf,bf,bf,bf,bf,bf,bf,bf,bf,bf,bf,bf,bf,bf] rfl rfl (any_of HT_.out (by kernel_rfl)) (fun _ _ _ h => h) (Or.inl ⟨by rfl,?_⟩) ?_ ?_
        rotate_left
        ·intro w';go_simp;with_reducible rfl
        rotate_left
        ·simp only [Act.put,q_ia4,q_cz4,q_cs4,i64_w,i32_w];rfl
        refine pure_ (i:=4) (N:=some 23) (v:=?_) (a':=?_) #[bT,bT,bT,bT,bT,bf,bf,bf,bf,bf,bf,bf,bf,bf,bf,bf,bf,bf,bf,bf,bf,bf,bf,bf,bf,bf] rfl rfl (any_of HT_.out (by kernel_rfl)) (fun _ _ _ h => h) (Or.inl ⟨by rfl,?_⟩) ?_ ?_
        rotate_left
        ·intro w';go_simp;with_reducible rfl
        rotate_left
        ·simp only [Act.put,q_ia4,q_cz4,q_cs4,i64_w,i32_w];rfl
        refine pure_ (i:=5) (N:=some 24) (v:=?_) (a':=?_) #[bT,bT,bT,bT,bT,bT,bf,bf,bf,bf,bf,bf,bf,bf,bf,bf,bf,bf,bf,bf,bf,bf,bf,bf,bf,bf] rfl rfl (any_of HT_.out (by kernel_rfl)) (fun _ _ _ h => h) (Or.inl ⟨by rfl,?_⟩) ?_ ?_
        rotate_left
        ·intro w';go_simp;with_reducible rfl
        rotate_left
        ·simp only [Act.put,q_ia4,q_cz4,q_cs4,i64_w,i32_w];rfl
        refine take_ (i:=6) (N:=some 25) (v:=?_) (a':=?_) #[bT,bT,bT,bT,bT,bT,bT,bf,bf,bf,bf,bf,bf,bf,bf,bf,bf,bf,bf,bf,bf,bf,bf,bf,bf,bf] rfl rfl (take_ofW HT_.out HW_.out (by kernel_rfl)) (fun _ _ _ h => h) (Or.inl ⟨by rfl,?_⟩) hHeld ?_ ?_
        rotate_left
        ·rintro w' ⟨s0,s1⟩
         go_simp
         with_reducible rfl
        rotate_left
        ·simp only [Act.put,q_ia4,q_cz4,q_cs4,i64_w,i32_w];rfl
        refine pure_ (i:=7) (N:=some 26) (v:=?_) (a':=?_) #[bT,bT,bT,bT,bT,bT,bT,bT,bf,bf,bf,bf,bf,bf,bf,bf,bf,bf,bf,bf,bf,bf,bf,bf,bf,bf] rfl rfl (any_of HT_.out (by kernel_rfl)) (fun _ _ _ h => h) (Or.inl ⟨by rfl,?_⟩) ?_ ?_
        rotate_left
        ·intro w';go_simp;with_reducible rfl
        rotate_left
        ·simp only [Act.put,q_ia4,q_cz4,q_cs4,i64_w,i32_w];rfl
        refine pure_ (i:=8) (N:=some 27) (v:=?_) (a':=?_) #[bT,bT,bT,bT,bT,bT,bT,bT,bT,bf,bf,bf,bf,bf,bf,bf,bf,bf,bf,bf,bf,bf,bf,bf,bf,bf] rfl rfl (any_of HT_.out (by kernel_rfl)) (fun _ _ _ h => h) (Or.inl ⟨by rfl,?_⟩) ?_ ?_
        rotate_left
        ·intro w';go_simp;with_reducible rfl
        rotate_left
        ·simp only [Act.put,q_ia4,q_cz4,q_cs4,i64_w,i32_w];rfl
        refine pure_ (i:=9) (N:=some 28) (v:=?_) (a':=?_) #[bT,bT,bT,bT,bT,bT,bT,bT,bT,bT,bf,bf,bf,bf,bf,bf,bf,bf,bf,bf,bf,bf,bf,bf,bf,bf] rfl rfl (any_of HT_.out (by kernel_rfl)) (fun _ _ _ h => h) (Or.inl ⟨by rfl,?_⟩) ?_ ?_
        rotate_left
        ·intro w';go_simp;with_reducible rfl
        rotate_left
        ·simp only [Act.put,q_ia4,q_cz4,q_cs4,i64_w,i32_w];rfl
        refine pure_ (i:=10) (N:=some 29) (v:=?_) (a':=?_) #[bT,bT,bT,bT,bT,bT,bT,bT,bT,bT,bT,bf,bf,bf,bf,bf,bf,bf,bf,bf,bf,bf,bf,bf,bf,bf] rfl rfl (any_of HT_.out (by kernel_rfl)) (fun _ _ _ h => h) (Or.inl ⟨by rfl,?_⟩) ?_ ?_
        rotate_left
        ·intro w';go_simp;with_reducible rfl
        rotate_left
        ·simp only [Act.put,q_ia4,q_cz4,q_cs4,i64_w,i32_w];rfl
        refine pure_ (i:=11) (N:=some 30) (v:=?_) (a':=?_) #[bT,bT,bT,bT,bT,bT,bT,bT,bT,bT,bT,bT,bf,bf,bf,bf,bf,bf,bf,bf,bf,bf,bf,bf,bf,bf] rfl rfl (any_of HT_.out (by kernel_rfl)) (fun _ _ _ h => h) (Or.inl ⟨by rfl,?_⟩) ?_ ?_
        rotate_left
        ·intro w';go_simp;with_reducible rfl
        rotate_left
        ·simp only [Act.put,q_ia4,q_cz4,q_cs4,i64_w,i32_w];rfl
        refine pure_ (i:=12) (N:=some 31) (v:=?_) (a':=?_) #[bT,bT,bT,bT,bT,bT,bT,bT,bT,bT,bT,bT,bT,bf,bf,bf,bf,bf,bf,bf,bf,bf,bf,bf,bf,bf] rfl rfl (any_of HT_.out (by kernel_rfl)) (fun _ _ _ h => h) (Or.inl ⟨by rfl,?_⟩) ?_ ?_
        rotate_left
        ·intro w';go_simp;with_reducible rfl
        rotate_left
        ·simp only [Act.put,q_ia4,q_cz4,q_cs4,i64_w,i32_w];rfl
        refine pure_ (i:=13) (N:=some 32) (v:=?_) (a':=?_) #[bT,bT,bT,bT,bT,bT,bT,bT,bT,bT,bT,bT,bT,bT,bf,bf,bf,bf,bf,bf,bf,bf,bf,bf,bf,bf] rfl rfl (any_of HT_.out (by kernel_rfl)) (fun _ _ _ h => h) (Or.inl ⟨by rfl,?_⟩) ?_ ?_
        rotate_left
        ·intro w';go_simp;with_reducible rfl
        rotate_left
        ·simp only [Act.put,q_ia4,q_cz4,q_cs4,i64_w,i32_w];rfl
        refine pure_ (i:=14) (N:=some 33) (v:=undef) (a':=?_) #[bT,bT,bT,bT,bT,bT,bT,bT,bT,bT,bT,bT,bT,bT,bT,bf,bf,bf,bf,bf,bf,bf,bf,bf,bf,bf] rfl rfl (any_of HT_.out (by kernel_rfl)) (fun _ _ _ h => h) (Or.inr ⟨by rfl,rfl⟩) ?_ ?_
        rotate_left
        ·simp only [Act.put,q_ia4,q_cz4,q_cs4,i64_w,i32_w];rfl
        refine pure_ (i:=15) (N:=some 34) (v:=undef) (a':=?_) #[bT,bT,bT,bT,bT,bT,bT,bT,bT,bT,bT,bT,bT,bT,bT,bT,bf,bf,bf,bf,bf,bf,bf,bf,bf,bf] rfl rfl (any_of HT_.out (by kernel_rfl)) (fun _ _ _ h => h) (Or.inr ⟨by rfl,rfl⟩) ?_ ?_
        rotate_left
        ·simp only [Act.put,q_ia4,q_cz4,q_cs4,i64_w,i32_w];rfl
        refine pure_ (i:=16) (N:=some 35) (v:=undef) (a':=?_) #[bT,bT,bT,bT,bT,bT,bT,bT,bT,bT,bT,bT,bT,bT,bT,bT,bT,bf,bf,bf,bf,bf,bf,bf,bf,bf] rfl rfl (any_of HT_.out (by kernel_rfl)) (fun _ _ _ h => h) (Or.inr ⟨by rfl,rfl⟩) ?_ ?_
        rotate_left
        ·simp only [Act.put,q_ia4,q_cz4,q_cs4,i64_w,i32_w];rfl
        refine pure_ (i:=17) (N:=some 36) (v:=undef) (a':=?_) #[bT,bT,bT,bT,bT,bT,bT,bT,bT,bT,bT,bT,bT,bT,bT,bT,bT,bT,bf,bf,bf,bf,bf,bf,bf,bf] rfl rfl (any_of HT_.out (by kernel_rfl)) (fun _ _ _ h => h) (Or.inr ⟨by rfl,rfl⟩) ?_ ?_
        rotate_left
        ·simp only [Act.put,q_ia4,q_cz4,q_cs4,i64_w,i32_w];rfl
        refine pure_ (i:=18) (N:=some 37) (v:=undef) (a':=?_) #[bT,bT,bT,bT,bT,bT,bT,bT,bT,bT,bT,bT,bT,bT,bT,bT,bT,bT,bT,bf,bf,bf,bf,bf,bf,bf] rfl rfl (any_of HT_.out (by kernel_rfl)) (fun _ _ _ h => h) (Or.inr ⟨by rfl,rfl⟩) ?_ ?_
        rotate_left
        ·simp only [Act.put,q_ia4,q_cz4,q_cs4,i64_w,i32_w];rfl
        refine pure_ (i:=19) (N:=some 38) (v:=undef) (a':=?_) #[bT,bT,bT,bT,bT,bT,bT,bT,bT,bT,bT,bT,bT,bT,bT,bT,bT,bT,bT,bT,bf,bf,bf,bf,bf,bf] rfl rfl (any_of HT_.out (by kernel_rfl)) (fun _ _ _ h => h) (Or.inr ⟨by rfl,rfl⟩) ?_ ?_
        rotate_left
        ·simp only [Act.put,q_ia4,q_cz4,q_cs4,i64_w,i32_w];rfl
        refine pure_ (i:=20) (N:=some 39) (v:=undef) (a':=?_) #[bT,bT,bT,bT,bT,bT,bT,bT,bT,bT,bT,bT,bT,bT,bT,bT,bT,bT,bT,bT,bT,bf,bf,bf,bf,bf] rfl rfl (any_of HT_.out (by kernel_rfl)) (fun _ _ _ h => h) (Or.inr ⟨by rfl,rfl⟩) ?_ ?_
        rotate_left
        ·simp only [Act.put,q_ia4,q_cz4,q_cs4,i64_w,i32_w];rfl
        refine pure_ (i:=21) (N:=some 40) (v:=undef) (a':=?_) #[bT,bT,bT,bT,bT,bT,bT,bT,bT,bT,bT,bT,bT,bT,bT,bT,bT,bT,bT,bT,bT,bT,bf,bf,bf,bf] rfl rfl (any_of HT_.out (by kernel_rfl)) (fun _ _ _ h => h) (Or.inr ⟨by rfl,rfl⟩) ?_ ?_
        rotate_left
        ·simp only [Act.put,q_ia4,q_cz4,q_cs4,i64_w,i32_w];rfl
        refine pure_ (i:=22) (N:=some 41) (v:=undef) (a':=?_) #[bT,bT,bT,bT,bT,bT,bT,bT,bT,bT,bT,bT,bT,bT,bT,bT,bT,bT,bT,bT,bT,bT,bT,bf,bf,bf] rfl rfl (any_of HT_.out (by kernel_rfl)) (fun _ _ _ h => h) (Or.inr ⟨by rfl,rfl⟩) ?_ ?_
        rotate_left
        ·simp only [Act.put,q_ia4,q_cz4,q_cs4,i64_w,i32_w];rfl
        refine pure_ (i:=23) (N:=some 42) (v:=undef) (a':=?_) #[bT,bT,bT,bT,bT,bT,bT,bT,bT,bT,bT,bT,bT,bT,bT,bT,bT,bT,bT,bT,bT,bT,bT,bT,bf,bf] rfl rfl (any_of HT_.out (by kernel_rfl)) (fun _ _ _ h => h) (Or.inr ⟨by rfl,rfl⟩) ?_ ?_
        rotate_left
        ·simp only [Act.put,q_ia4,q_cz4,q_cs4,i64_w,i32_w];rfl
        refine pure_ (i:=24) (N:=some 43) (v:=?_) (a':=?_) #[bT,bT,bT,bT,bT,bT,bT,bT,bT,bT,bT,bT,bT,bT,bT,bT,bT,bT,bT,bT,bT,bT,bT,bT,bT,bf] rfl rfl (any_of HT_.out (by kernel_rfl)) (fun _ _ _ h => h) (Or.inl ⟨by rfl,?_⟩) ?_ ?_
        rotate_left
        ·intro w';go_simp;with_reducible rfl
        rotate_left
        ·simp only [Act.put,q_ia4,q_cz4,q_cs4,i64_w,i32_w];rfl
        refine pure_ (i:=25) (N:=some 44) (v:=?_) (a':=?_) #[bT,bT,bT,bT,bT,bT,bT,bT,bT,bT,bT,bT,bT,bT,bT,bT,bT,bT,bT,bT,bT,bT,bT,bT,bT,bT] rfl rfl (any_of HT_.out (by kernel_rfl)) (fun _ _ _ h => h) (Or.inl ⟨by rfl,?_⟩) ?_ ?_
        rotate_left
        ·intro w';go_simp;with_reducible rfl
        rotate_left
        ·simp only [Act.put,q_ia4,q_cz4,q_cs4,i64_w,i32_w];rfl
        refine done_ (done_of HT_.out (by kernel_rfl)) ?_
        try go_wp2
        go_roundg k1
        case measure => have:=HK1.out;omega
        case rel => exact ⟨(wrap64 (x3_1 + 1)),(by first|rfl|(simp;done)|(simp [*];done)),H',⟨by have:=HK1.out;omega⟩,⟨by (with_reducible repeat (first|refine bN ?_ _|refine bD ?_|refine bA ?_ _));exact BK158.out⟩,⟨by repeat (first|(with_reducible first|exact HB.out|apply lA|apply lN|apply lD|refine lS ?_ GE158.out|refine lS ?_ GE160.out)|exact HB.out)⟩⟩
     ·replace c6:=Bool.eq_false_iff.mpr c6
      subst c6
      have H1 : (some false) = some r:=by rw [if_neg (show ¬ (false = true) by decide)] at H;exact H
      clear H
      have H:=H1
      clear H1
      obtain rfl:=Option.some.inj H
      have hcz37_0 : wr.cell? ⟨gb158,0,none⟩ = some (.slice A0_0 l0_0.length c0_0):=(bC BK158.out 0).trans rfl
      have hcz37_1 : wr.cell? ⟨gb158,1,none⟩ = some (.slice A0_1 l0_1.length c0_1):=(bC BK158.out 1).trans rfl
      have hcz37_2 : wr.cell? ⟨gb158,2,none⟩ = some (.string a0_2):=(bC BK158.out 2).trans rfl
      have hfz37_0:=bF BK158.out 0
      have hfz37_1:=bF BK158.out 1
      have hfz37_2:=bF BK158.out 2
      have p159 : 0 ≤ (x3_1 : Int):=of_decide_eq_true (by first|(with_reducible assumption)|assumption)
      have q159 : x3_1 < (l0_0.length : Int):=of_decide_eq_true (by first|(with_reducible assumption)|assumption)
      obtain ⟨ad159,e159,hx159_0,hx159_1⟩:=at_T105 HR0_0.out x3_1 p159 q159
      cases e159
      replace hx159_0:=(HB.out.cell (World.block_lt_of_cell? w _ hx159_0)).trans hx159_0
      replace hx159_1:=(HB.out.cell (World.block_lt_of_cell? w _ hx159_1)).trans hx159_1
      replace p159:=eq_true p159
      replace q159:=eq_true q159
      try go_wp2_with (first|((with_reducible refine gate_dst (N:=4) rfl ?_);(try (refine gate_guard (by rfl) ?_;dsimp only));refine box_event ?hg (N:=4) ?hd (cs:=#[.string (⟨#[]⟩ : ByteArray),.string (⟨#[]⟩ : ByteArray)]) (t:=105) ?hr ?_;(case hd => rfl);(case hg => rfl);(case hr => first|(go_simp;done)|(go_simp;rfl));intro gb160 hg w38 hbox hb;have n0_:=aM (bB (g:=gb158) (o:=.cells #[.slice (some ad159) l0_0.length c0_0,.slice A0_1 l0_1.length c0_1,.string a0_2] 54 (0,0)) (by (with_reducible repeat (first|refine bN ?_ _|refine bD ?_|refine bA ?_ _));exact BK158.out) hb);have n1_:=aM (lP (by repeat (first|(with_reducible first|exact HB.out|apply lA|apply lN|apply lD|refine lS ?_ GE158.out)|exact HB.out)) hb);have n2_:=aM (hbox);have n3_:=aM ((by rw [hg];exact (lZ (by repeat (first|(with_reducible first|exact HB.out|apply lA|apply lN|apply lD|refine lS ?_ GE158.out)|exact HB.out))) : w.heap.size ≤ gb160));have n4_:=aM ((by rw [hg];exact (lZ (by repeat (first|(with_reducible first|exact HB.out|apply lA|apply lN|apply lD|refine lS ?_ GE158.out)|exact HB.out))) : w.heap.size ≤ gb160));have n5_:=aM ((by rw [hg];exact Nat.ne_of_lt (bL (g:=gb158) (o:=.cells #[.slice (some ad159) l0_0.length c0_0,.slice A0_1 l0_1.length c0_1,.string a0_2] 54 (0,0)) (by (with_reducible repeat (first|refine bN ?_ _|refine bD ?_|refine bA ?_ _));exact BK158.out)) : gb158 ≠ gb160));have n6_:=aM ((by rw [hg];exact Nat.ne_of_gt (bL (g:=gb158) (o:=.cells #[.slice (some ad159) l0_0.length c0_0,.slice A0_1 l0_1.length c0_1,.string a0_2] 54 (0,0)) (by (with_reducible repeat (first|refine bN ?_ _|refine bD ?_|refine bA ?_ _));exact BK158.out)) : gb160 ≠ gb158));clear BK158 HB;have BK158:=n0_;have HB:=n1_;have BK160:=n2_;have GW160:=n3_;have GE160:=n4_;have NB158_160:=n5_;have NB160_158:=n6_;clear n0_ n1_ n2_ n3_ n4_ n5_ n6_ hb hbox hg;have hnb39:=NB160_158.out;have hnc39:=NB158_160.out;have hcz40_0 : w38.cell? ⟨gb160,0,none⟩ = some (.string (⟨#[]⟩ : ByteArray)):=(bC BK160.out 0).trans rfl;have hcz40_1 : w38.cell? ⟨gb160,1,none⟩ = some (.string (⟨#[]⟩ : ByteArray)):=(bC BK160.out 1).trans rfl;have hfz40_0:=bF BK160.out 0;have hfz40_1:=bF BK160.out 1))
      have n0_ : Aside0 (((w38.setCell ⟨gb160,0,none⟩ (.string ((rd_T105 l0_0 x3_1).f0))).setCell ⟨gb160,1,none⟩ (.string ((rd_T105 l0_0 x3_1).f1))).heap[gb158]? = some (.cells #[.slice (some ad159) l0_0.length c0_0,.slice A0_1 l0_1.length c0_1,.string a0_2] 54 (0,0))):=⟨by (with_reducible repeat (first|refine bN ?_ _|refine bD ?_|refine bA ?_ _));refine blk_far ?_ NB158_160.out _;(with_reducible repeat (first|refine bN ?_ _|refine bD ?_|refine bA ?_ _));refine blk_far ?_ NB158_160.out _;(with_reducible repeat (first|refine bN ?_ _|refine bD ?_|refine bA ?_ _));exact BK158.out⟩
      have n1_ : Aside0 (((w38.setCell ⟨gb160,0,none⟩ (.string ((rd_T105 l0_0 x3_1).f0))).setCell ⟨gb160,1,none⟩ (.string ((rd_T105 l0_0 x3_1).f1))).heap[gb160]? = some (.cells #[.string ((rd_T105 l0_0 x3_1).f0),.string ((rd_T105 l0_0 x3_1).f1)] 105 (0,0))):=⟨by (with_reducible repeat (first|refine bN ?_ _|refine bD ?_|refine bA ?_ _));refine blk_put (cs:=#[.string ((rd_T105 l0_0 x3_1).f0),.string (⟨#[]⟩ : ByteArray)]) ?_ 1 _ rfl;(with_reducible repeat (first|refine bN ?_ _|refine bD ?_|refine bA ?_ _));refine blk_put (cs:=#[.string (⟨#[]⟩ : ByteArray),.string (⟨#[]⟩ : ByteArray)]) ?_ 0 _ rfl;(with_reducible repeat (first|refine bN ?_ _|refine bD ?_|refine bA ?_ _));exact BK160.out⟩
      have n2_ : Aside0 (Below w.heap.size w ((w38.setCell ⟨gb160,0,none⟩ (.string ((rd_T105 l0_0 x3_1).f0))).setCell ⟨gb160,1,none⟩ (.string ((rd_T105 l0_0 x3_1).f1)))):=⟨by repeat (first|(with_reducible first|exact HB.out|apply lA|apply lN|apply lD|refine lS ?_ GE158.out|refine lS ?_ GE160.out)|exact HB.out)⟩
      (try clear BK158)
      (try clear BK160)
      (try clear HB)
      generalize ((w38.setCell ⟨gb160,0,none⟩ (.string ((rd_T105 l0_0 x3_1).f0))).setCell ⟨gb160,1,none⟩ (.string ((rd_T105 l0_0 x3_1).f1))) = w41 at n0_ n1_ n2_ ⊢
      have BK158:=n0_
      have BK160:=n1_
      have HB:=n2_
      clear n0_ n1_ n2_
      have n0_:=aM (bD BK158.out)
      have n1_:=aM (bD BK160.out)
      have n2_:=aM (lD HB.out)
      clear BK158
      clear BK160
      clear HB
      have BK158:=n0_
      have BK160:=n1_
      have HB:=n2_
      clear n0_ n1_ n2_
      refine start_ (n:=26) (S:=fun w' => w'.cell? ⟨gb160,0,none⟩ = some (.string ((rd_T105 l0_0 x3_1).f0)) ∧ w'.cell? ⟨gb160,1,none⟩ = some (.string ((rd_T105 l0_0 x3_1).f1))) (ds:=[]) #[bf,bf,bf,bf,bf,bf,bf,bf,bf,bf,bf,bf,bf,bf,bf,bf,bf,bf,bf,bf,bf,bf,bf,bf,bf,bf] (by kernel_rfl) rfl rfl ⟨(bC BK160.out 0).trans rfl,(bC BK160.out 1).trans rfl⟩ (fun hHeld => ?_);refine with_tabW spec_StoreOk.tab5 spec_StoreOk.bits5 (fun HT_ HW_ => ?_)
      generalize w41.drew = w42 at BK158 BK160 HB hHeld ⊢
      refine pure_ (i:=0) (N:=some 19) (v:=?_) (a':=?_) #[bT,bf,bf,bf,bf,bf,bf,bf,bf,bf,bf,bf,bf,bf,bf,bf,bf,bf,bf,bf,bf,bf,bf,bf,bf,bf] rfl rfl (any_of HT_.out (by kernel_rfl)) (fun _ _ _ h => h) (Or.inl ⟨by rfl,?_⟩) ?_ ?_
      rotate_left
      ·intro w';go_simp;with_reducible rfl
      rotate_left
      ·simp only [Act.put,q_ia4,q_cz4,q_cs4,i64_w,i32_w];rfl
      refine take_ (i:=1) (N:=some 20) (v:=?_) (a':=?_) #[bT,bT,bf,bf,bf,bf,bf,bf,bf,bf,bf,bf,bf,bf,bf,bf,bf,bf,bf,bf,bf,bf,bf,bf,bf,bf] rfl rfl (take_ofW HT_.out HW_.out (by kernel_rfl)) (fun _ _ _ h => h) (Or.inl ⟨by rfl,?_⟩) hHeld ?_ ?_
      rotate_left
      ·rintro w' ⟨s0,s1⟩
       go_simp
       with_reducible rfl
      rotate_left
      ·simp only [Act.put,q_ia4,q_cz4,q_cs4,i64_w,i32_w];rfl
      refine one_ (i:=2) (N:=some 21) #[bT,bT,bT,bf,bf,bf,bf,bf,bf,bf,bf,bf,bf,bf,bf,bf,bf,bf,bf,bf,bf,bf,bf,bf,bf,bf] rfl rfl (one_of HT_.out (by kernel_rfl)) (by decide) (fun K hK => ?_)
      refine goes_ Try.func105 (by kernel_rfl) rfl #[.string ((rd_T105 l0_0 x3_1).f0)] (by rfl) rfl rfl (by (try simp only [List.map_toArray,List.map_cons,List.map_nil]);first|done|rfl|(simp only [List.length_drop,List.length_take];rfl)) ?_
      with_reducible refine (spec_l07Name.calls k1 ((rd_T105 l0_0 x3_1).f0) false _ A5.out).mono ?_
      rintro e w' ⟨rfl,⟨nd,rfl⟩⟩
      refine ⟨_,rfl,?_⟩
      refine hK.out _ _ ⟨(bC BK160.out 0).trans rfl,(bC BK160.out 1).trans rfl⟩ (fun hHeld => ?_)
      clear hK K
      refine norm_ (a':=?_) ?_ ?_
      rotate_left
      ·show Act.put _ (some 21) _ = _
       simp only [Act.put,q_ia4,q_cz4,q_cs4,i64_w,i32_w]
       rfl
      refine pure_ (i:=3) (N:=some 22) (v:=?_) (a':=?_) #[bT,bT,bT,bT,bf,bf,bf,bf,bf,bf,bf,bf,bf,bf,bf,bf,bf,bf,bf,bf,bf,bf,bf,bf,bf,bf] rfl rfl (any_of HT_.out (by kernel_rfl)) (fun _ _ _ h => h) (Or.inl ⟨by rfl,?_⟩) ?_ ?_
      rotate_left
      ·intro w';go_simp;with_reducible rfl
      rotate_left
      ·simp only [Act.put,q_ia4,q_cz4,q_cs4,i64_w,i32_w];rfl
      refine pure_ (i:=4) (N:=some 23) (v:=?_) (a':=?_) #[bT,bT,bT,bT,bT,bf,bf,bf,bf,bf,bf,bf,bf,bf,bf,bf,bf,bf,bf,bf,bf,bf,bf,bf,bf,bf] rfl rfl (any_of HT_.out (by kernel_rfl)) (fun _ _ _ h => h) (Or.inl ⟨by rfl,?_⟩) ?_ ?_
      rotate_left
      ·intro w';go_simp;with_reducible rfl
      rotate_left
      ·simp only [Act.put,q_ia4,q_cz4,q_cs4,i64_w,i32_w];rfl
      refine pure_ (i:=5) (N:=some 24) (v:=undef) (a':=?_) #[bT,bT,bT,bT,bT,bT,bf,bf,bf,bf,bf,bf,bf,bf,bf,bf,bf,bf,bf,bf,bf,bf,bf,bf,bf,bf] rfl rfl (any_of HT_.out (by kernel_rfl)) (fun _ _ _ h => h) (Or.inr ⟨by rfl,rfl⟩) ?_ ?_
      rotate_left
      ·simp only [Act.put,q_ia4,q_cz4,q_cs4,i64_w,i32_w];rfl
      refine pure_ (i:=6) (N:=some 25) (v:=undef) (a':=?_) #[bT,bT,bT,bT,bT,bT,bT,bf,bf,bf,bf,bf,bf,bf,bf,bf,bf,bf,bf,bf,bf,bf,bf,bf,bf,bf] rfl rfl (any_of HT_.out (by kernel_rfl)) (fun _ _ _ h => h) (Or.inr ⟨by rfl,rfl⟩) ?_ ?_
      rotate_left
      ·simp only [Act.put,q_ia4,q_cz4,q_cs4,i64_w,i32_w];rfl
      refine pure_ (i:=7) (N:=some 26) (v:=undef) (a':=?_) #[bT,bT,bT,bT,bT,bT,bT,bT,bf,bf,bf,bf,bf,bf,bf,bf,bf,bf,bf,bf,bf,bf,bf,bf,bf,bf] rfl rfl (any_of HT_.out (by kernel_rfl)) (fun _ _ _ h => h) (Or.inr ⟨by rfl,rfl⟩) ?_ ?_
      rotate_left
      ·simp only [Act.put,q_ia4,q_cz4,q_cs4,i64_w,i32_w];rfl
      refine pure_ (i:=8) (N:=some 27) (v:=undef) (a':=?_) #[bT,bT,bT,bT,bT,bT,bT,bT,bT,bf,bf,bf,bf,bf,bf,bf,bf,bf,bf,bf,bf,bf,bf,bf,bf,bf] rfl rfl (any_of HT_.out (by kernel_rfl)) (fun _ _ _ h => h) (Or.inr ⟨by rfl,rfl⟩) ?_ ?_
      rotate_left
      ·simp only [Act.put,q_ia4,q_cz4,q_cs4,i64_w,i32_w];rfl
      refine pure_ (i:=9) (N:=some 28) (v:=?_) (a':=?_) #[bT,bT,bT,bT,bT,bT,bT,bT,bT,bT,bf,bf,bf,bf,bf,bf,bf,bf,bf,bf,bf,bf,bf,bf,bf,bf] rfl rfl (any_of HT_.out (by kernel_rfl)) (fun _ _ _ h => h) (Or.inl ⟨by rfl,?_⟩) ?_ ?_
      rotate_left
      ·intro w';go_simp;with_reducible rfl
      rotate_left
      ·simp only [Act.put,q_ia4,q_cz4,q_cs4,i64_w,i32_w];rfl
      refine pure_ (i:=10) (N:=some 29) (v:=?_) (a':=?_) #[bT,bT,bT,bT,bT,bT,bT,bT,bT,bT,bT,bf,bf,bf,bf,bf,bf,bf,bf,bf,bf,bf,bf,bf,bf,bf] rfl rfl (any_of HT_.out (by kernel_rfl)) (fun _ _ _ h => h) (Or.inl ⟨by rfl,?_⟩) ?_ ?_
      rotate_left
      ·intro w';go_simp;with_reducible rfl
      rotate_left
      ·simp only [Act.put,q_ia4,q_cz4,q_cs4,i64_w,i32_w];rfl
      refine pure_ (i:=11) (N:=some 30) (v:=undef) (a':=?_) #[bT,bT,bT,bT,bT,bT,bT,bT,bT,bT,bT,bT,bf,bf,bf,bf,bf,bf,bf,bf,bf,bf,bf,bf,bf,bf] rfl rfl (any_of HT_.out (by kernel_rfl)) (fun _ _ _ h => h) (Or.inr ⟨by rfl,rfl⟩) ?_ ?_
      rotate_left
      ·simp only [Act.put,q_ia4,q_cz4,q_cs4,i64_w,i32_w];rfl
      refine pure_ (i:=12) (N:=some 31) (v:=undef) (a':=?_) #[bT,bT,bT,bT,bT,bT,bT,bT,bT,bT,bT,bT,bT,bf,bf,bf,bf,bf,bf,bf,bf,bf,bf,bf,bf,bf] rfl rfl (any_of HT_.out (by kernel_rfl)) (fun _ _ _ h => h) (Or.inr ⟨by rfl,rfl⟩) ?_ ?_
      rotate_left
      ·simp only [Act.put,q_ia4,q_cz4,q_cs4,i64_w,i32_w];rfl
      refine pure_ (i:=13) (N:=some 32) (v:=undef) (a':=?_) #[bT,bT,bT,bT,bT,bT,bT,bT,bT,bT,bT,bT,bT,bT,bf,bf,bf,bf,bf,bf,bf,bf,bf,bf,bf,bf] rfl rfl (any_of HT_.out (by kernel_rfl)) (fun _ _ _ h => h) (Or.inr ⟨by rfl,rfl⟩) ?_ ?_
      rotate_left
      ·simp only [Act.put,q_ia4,q_cz4,q_cs4,i64_w,i32_w];rfl
      refine pure_ (i:=14) (N:=some 33) (v:=undef) (a':=?_) #[bT,bT,bT,bT,bT,bT,bT,bT,bT,bT,bT,bT,bT,bT,bT,bf,bf,bf,bf,bf,bf,bf,bf,bf,bf,bf] rfl rfl (any_of HT_.out (by kernel_rfl)) (fun _ _ _ h => h) (Or.inr ⟨by rfl,rfl⟩) ?_ ?_
      rotate_left
      ·simp only [Act.put,q_ia4,q_cz4,q_cs4,i64_w,i32_w];rfl
      refine pure_ (i:=15) (N:=some 34) (v:=undef) (a':=?_) #[bT,bT,bT,bT,bT,bT,bT,bT,bT,bT,bT,bT,bT,bT,bT,bT,bf,bf,bf,bf,bf,bf,bf,bf,bf,bf] rfl rfl (any_of HT_.out (by kernel_rfl)) (fun _ _ _ h => h) (Or.inr ⟨by rfl,rfl⟩) ?_ ?_
      rotate_left
      ·simp only [Act.put,q_ia4,q_cz4,q_cs4,i64_w,i32_w];rfl
      refine pure_ (i:=16) (N:=some 35) (v:=undef) (a':=?_) #[bT,bT,bT,bT,bT,bT,bT,bT,bT,bT,bT,bT,bT,bT,bT,bT,bT,bf,bf,bf,bf,bf,bf,bf,bf,bf] rfl rfl (any_of HT_.out (by kernel_rfl)) (fun _ _ _ h => h) (Or.inr ⟨by rfl,rfl⟩) ?_ ?_
      rotate_left
      ·simp only [Act.put,q_ia4,q_cz4,q_cs4,i64_w,i32_w];rfl
      refine pure_ (i:=17) (N:=some 36) (v:=undef) (a':=?_) #[bT,bT,bT,bT,bT,bT,bT,bT,bT,bT,bT,bT,bT,bT,bT,bT,bT,bT,bf,bf,bf,bf,bf,bf,bf,bf] rfl rfl (any_of HT_.out (by kernel_rfl)) (fun _ _ _ h => h) (Or.inr ⟨by rfl,rfl⟩) ?_ ?_
      rotate_left
      ·simp only [Act.put,q_ia4,q_cz4,q_cs4,i64_w,i32_w];rfl
      refine pure_ (i:=18) (N:=some 37) (v:=undef) (a':=?_) #[bT,bT,bT,bT,bT,bT,bT,bT,bT,bT,bT,bT,bT,bT,bT,bT,bT,bT,bT,bf,bf,bf,bf,bf,bf,bf] rfl rfl (any_of HT_.out (by kernel_rfl)) (fun _ _ _ h => h) (Or.inr ⟨by rfl,rfl⟩) ?_ ?_
      rotate_left
      ·simp only [Act.put,q_ia4,q_cz4,q_cs4,i64_w,i32_w];rfl
      refine pure_ (i:=19) (N:=some 38) (v:=undef) (a':=?_) #[bT,bT,bT,bT,bT,bT,bT,bT,bT,bT,bT,bT,bT,bT,bT,bT,bT,bT,bT,bT,bf,bf,bf,bf,bf,bf] rfl rfl (any_of HT_.out (by kernel_rfl)) (fun _ _ _ h => h) (Or.inr ⟨by rfl,rfl⟩) ?_ ?_
      rotate_left
      ·simp only [Act.put,q_ia4,q_cz4,q_cs4,i64_w,i32_w];rfl
      refine pure_ (i:=20) (N:=some 39) (v:=undef) (a':=?_) #[bT,bT,bT,bT,bT,bT,bT,bT,bT,bT,bT,bT,bT,bT,bT,bT,bT,bT,bT,bT,bT,bf,bf,bf,bf,bf] rfl rfl (any_of HT_.out (by kernel_rfl)) (fun _ _ _ h => h) (Or.inr ⟨by rfl,rfl⟩) ?_ ?_
      rotate_left
      ·simp only [Act.put,q_ia4,q_cz4,q_cs4,i64_w,i32_w];rfl
      refine pure_ (i:=21) (N:=some 40) (v:=undef) (a':=?_) #[bT,bT,bT,bT,bT,bT,bT,bT,bT,bT,bT,bT,bT,bT,bT,bT,bT,bT,bT,bT,bT,bT,bf,bf,bf,bf] rfl rfl (any_of HT_.out (by kernel_rfl)) (fun _ _ _ h => h) (Or.inr ⟨by rfl,rfl⟩) ?_ ?_
      rotate_left
      ·simp only [Act.put,q_ia4,q_cz4,q_cs4,i64_w,i32_w];rfl
      refine pure_ (i:=22) (N:=some 41) (v:=undef) (a':=?_) #[bT,bT,bT,bT,bT,bT,bT,bT,bT,bT,bT,bT,bT,bT,bT,bT,bT,bT,bT,bT,bT,bT,bT,bf,bf,bf] rfl rfl (any_of HT_.out (by kernel_rfl)) (fun _ _ _ h => h) (Or.inr ⟨by rfl,rfl⟩) ?_ ?_
      rotate_left
      ·simp only [Act.put,q_ia4,q_cz4,q_cs4,i64_w,i32_w];rfl
      refine pure_ (i:=23) (N:=some 42) (v:=undef) (a':=?_) #[bT,bT,bT,bT,bT,bT,bT,bT,bT,bT,bT,bT,bT,bT,bT,bT,bT,bT,bT,bT,bT,bT,bT,bT,bf,bf] rfl rfl (any_of HT_.out (by kernel_rfl)) (fun _ _ _ h => h) (Or.inr ⟨by rfl,rfl⟩) ?_ ?_
      rotate_left
      ·simp only [Act.put,q_ia4,q_cz4,q_cs4,i64_w,i32_w];rfl
      refine pure_ (i:=24) (N:=some 43) (v:=undef) (a':=?_) #[bT,bT,bT,bT,bT,bT,bT,bT,bT,bT,bT,bT,bT,bT,bT,bT,bT,bT,bT,bT,bT,bT,bT,bT,bT,bf] rfl rfl (any_of HT_.out (by kernel_rfl)) (fun _ _ _ h => h) (Or.inr ⟨by rfl,rfl⟩) ?_ ?_
      rotate_left
      ·simp only [Act.put,q_ia4,q_cz4,q_cs4,i64_w,i32_w];rfl
      refine pure_ (i:=25) (N:=some 44) (v:=?_) (a':=?_) #[bT,bT,bT,bT,bT,bT,bT,bT,bT,bT,bT,bT,bT,bT,bT,bT,bT,bT,bT,bT,bT,bT,bT,bT,bT,bT] rfl rfl (any_of HT_.out (by kernel_rfl)) (fun _ _ _ h => h) (Or.inl ⟨by rfl,?_⟩) ?_ ?_
      rotate_left
      ·intro w';go_simp;with_reducible rfl
      rotate_left
      ·simp only [Act.put,q_ia4,q_cz4,q_cs4,i64_w,i32_w];rfl
      refine done_ (done_of HT_.out (by kernel_rfl)) ?_
      try go_wp2
      go_ret
      exact ⟨by first|rfl|(simp [errW_none,errW_some] <;> rfl)|(simp [*,errW_none,errW_some] <;> rfl),by repeat (first|(with_reducible first|exact HB.out|apply lA|apply lN|apply lD|refine lS ?_ GE158.out|refine lS ?_ GE160.out)|exact HB.out)⟩
    ·rw [if_neg c4] at H
     exact absurd H (by simp)
   ·rw [if_neg c3] at H
    have c3b0 : decide (x3_1 < (l0_0.length : Int)) = false:=decide_eq_false c3
    clear c3
    have H':=aM H
    clear H
    have hcz43_0 : wr.cell? ⟨gb158,0,none⟩ = some (.slice A0_0 l0_0.length c0_0):=(bC BK158.out 0).trans rfl
    have hcz43_1 : wr.cell? ⟨gb158,1,none⟩ = some (.slice A0_1 l0_1.length c0_1):=(bC BK158.out 1).trans rfl
    have hcz43_2 : wr.cell? ⟨gb158,2,none⟩ = some (.string a0_2):=(bC BK158.out 2).trans rfl
    have hfz43_0:=bF BK158.out 0
    have hfz43_1:=bF BK158.out 1
    have hfz43_2:=bF BK158.out 2
    go_wp2
    go_loopg [5] k1 (fun kq v5 w' => ∃ (x5_2 : Int),v5 = .int .i64 x5_2 ∧ Aside0 (spec_StoreOk.l1 kq x5_2 l0_0 l0_1 a0_2 = some r) ∧ Aside0 (kq ≤ k1) ∧ Aside0 (w'.heap[gb158]? = some (.cells #[(.slice A0_0 l0_0.length c0_0),(.slice A0_1 l0_1.length c0_1),.string a0_2] 54 (0,0))) ∧ Aside0 (Below w.heap.size w w'))
    case atStart => exact ⟨(0),(by first|rfl|(simp;done)|(simp [*];done)),H',⟨Nat.le_refl _⟩,⟨by (with_reducible repeat (first|refine bN ?_ _|refine bD ?_|refine bA ?_ _));exact BK158.out⟩,⟨by repeat (first|(with_reducible first|exact HB.out|apply lA|apply lN|apply lD|refine lS ?_ GE158.out)|exact HB.out)⟩⟩
    case round =>
     clear H'
     try clear c1
     try clear p1
     try clear q1
     try clear hx1
     try clear p2
     try clear c3
     try clear c3b0
     try clear c4
     try clear c6
     try clear p6
     try clear c10
     try clear c14
     try clear c14b0
     try clear p15
     try clear q15
     try clear hx15
     try clear c16
     try clear c17
     try clear c33
     try clear c39
     try clear hcz31_0
     try clear hcz31_1
     try clear hcz31_2
     try clear hcz34_0
     try clear hcz34_1
     try clear hcz37_0
     try clear hcz37_1
     try clear hcz37_2
     try clear hcz40_0
     try clear hcz40_1
     try clear hcz43_0
     try clear hcz43_1
     try clear hcz43_2
     try clear hfz31_0
     try clear hfz31_1
     try clear hfz31_2
     try clear hfz34_0
     try clear hfz34_1
     try clear hfz37_0
     try clear hfz37_1
     try clear hfz37_2
     try clear hfz40_0
     try clear hfz40_1
     try clear hfz43_0
     try clear hfz43_1
     try clear hfz43_2
     try clear hx159_0
     try clear hx159_1
     try clear p159
     try clear q159
     obtain ⟨x5_2,rfl,HA,HK2,BK158,HB⟩:=hrel
     cases gk with
     |zero => exact absurd HA.out (by simp [spec_StoreOk.l1])
     |succ k2 =>
      have H:=HA.out
      clear HA
      simp only [spec_StoreOk.l1] at H
      by_cases c44 : x5_2 < (l0_1.length : Int)
      ·rw [if_pos c44] at H
       have c44b0 : decide (x5_2 < (l0_1.length : Int)) = true:=decide_eq_true c44
       clear c44
       by_cases c45 : 0 ≤ x5_2
       ·rw [if_pos c45] at H
        have c45b0 : decide (0 ≤ x5_2) = true:=decide_eq_true c45
        clear c45
        replace H:=Option.bind_eq_some_iff.mp H
        obtain ⟨t165,A460,H⟩:=H
        replace H : (if t165 = true then (if (((rd_T61 l0_1 x5_2).f1).size : Int) > 40 then (some false) else (if (((rd_T61 l0_1 x5_2).f2).size : Int) > 40 then (some false) else (if x5_2 > 0 then (if 0 ≤ (wrap64 (x5_2 - 1)) then (if (wrap64 (x5_2 - 1)) < (l0_1.length : Int) then ((spec_l08Ahead.f ((rd_T61 l0_1 (wrap64 (x5_2 - 1))).f0) ((rd_T61 l0_1 (wrap64 (x5_2 - 1))).f1) ((rd_T61 l0_1 (wrap64 (x5_2 - 1))).f2) ((rd_T61 l0_1 x5_2).f0) ((rd_T61 l0_1 x5_2).f1) ((rd_T61 l0_1 x5_2).f2)).bind fun t167 => (if t167 = true then (spec_StoreOk.l1 k2 (wrap64 (x5_2 + 1)) l0_0 l0_1 a0_2) else (some false))) else (none)) else (none)) else (spec_StoreOk.l1 k2 (wrap64 (x5_2 + 1)) l0_0 l0_1 a0_2)))) else (some false)) = some r:=H
        have A46:=aM A460
        clear A460
        by_cases c47 : t165 = true
        ·subst c47
         have H1 : (if (((rd_T61 l0_1 x5_2).f1).size : Int) > 40 then (some false) else (if (((rd_T61 l0_1 x5_2).f2).size : Int) > 40 then (some false) else (if x5_2 > 0 then (if 0 ≤ (wrap64 (x5_2 - 1)) then (if (wrap64 (x5_2 - 1)) < (l0_1.length : Int) then ((spec_l08Ahead.f ((rd_T61 l0_1 (wrap64 (x5_2 - 1))).f0) ((rd_T61 l0_1 (wrap64 (x5_2 - 1))).f1) ((rd_T61 l0_1 (wrap64 (x5_2 - 1))).f2) ((rd_T61 l0_1 x5_2).f0) ((rd_T61 l0_1 x5_2).f1) ((rd_T61 l0_1 x5_2).f2)).bind fun t167 => (if t167 = true then (spec_StoreOk.l1 k2 (wrap64 (x5_2 + 1)) l0_0 l0_1 a0_2) else (some false))) else (none)) else (none)) else (spec_StoreOk.l1 k2 (wrap64 (x5_2 + 1)) l0_0 l0_1 a0_2)))) = some r:=by rw [if_pos rfl] at H;exact H
         clear H
         have H:=H1
         clear H1
         by_cases c48 : (((rd_T61 l0_1 x5_2).f1).size : Int) > 40
         ·rw [if_pos c48] at H
          have c48b0 : decide (40 < (((rd_T61 l0_1 x5_2).f1).size : Int)) = true:=decide_eq_true c48
          have c48b1 : decide (40 < ((rd_T61 l0_1 x5_2).f1).size) = true:=decide_eq_true (by omega)
          clear c48
          obtain rfl:=Option.some.inj H
          have hcz49_0 : wr.cell? ⟨gb158,0,none⟩ = some (.slice A0_0 l0_0.length c0_0):=(bC BK158.out 0).trans rfl
          have hcz49_1 : wr.cell? ⟨gb158,1,none⟩ = some (.slice A0_1 l0_1.length c0_1):=(bC BK158.out 1).trans rfl
          have hcz49_2 : wr.cell? ⟨gb158,2,none⟩ = some (.string a0_2):=(bC BK158.out 2).trans rfl
          have hfz49_0:=bF BK158.out 0
          have hfz49_1:=bF BK158.out 1
          have hfz49_2:=bF BK158.out 2
          have p163 : 0 ≤ (x5_2 : Int):=of_decide_eq_true (by first|(with_reducible assumption)|assumption)
          have q163 : x5_2 < (l0_1.length : Int):=of_decide_eq_true (by first|(with_reducible assumption)|assumption)
          obtain ⟨ad163,e163,hx163_0,hx163_1,hx163_2⟩:=at_T61 HR0_1.out x5_2 p163 q163
          cases e163
          replace hx163_0:=(HB.out.cell (World.block_lt_of_cell? w _ hx163_0)).trans hx163_0
          replace hx163_1:=(HB.out.cell (World.block_lt_of_cell? w _ hx163_1)).trans hx163_1
          replace hx163_2:=(HB.out.cell (World.block_lt_of_cell? w _ hx163_2)).trans hx163_2
          replace p163:=eq_true p163
          replace q163:=eq_true q163
          try go_wp2_with (first|((with_reducible refine gate_dst (N:=6) rfl ?_);(try (refine gate_guard (by rfl) ?_;dsimp only));refine box_event ?hg (N:=6) ?hd (cs:=#[.string (⟨#[]⟩ : ByteArray),.string (⟨#[]⟩ : ByteArray),.string (⟨#[]⟩ : ByteArray)]) (t:=61) ?hr ?_;(case hd => rfl);(case hg => rfl);(case hr => first|(go_simp;done)|(go_simp;rfl));intro gb164 hg w50 hbox hb;have n0_:=aM (bB (g:=gb158) (o:=.cells #[.slice A0_0 l0_0.length c0_0,.slice (some ad163) l0_1.length c0_1,.string a0_2] 54 (0,0)) (by (with_reducible repeat (first|refine bN ?_ _|refine bD ?_|refine bA ?_ _));exact BK158.out) hb);have n1_:=aM (lP (by repeat (first|(with_reducible first|exact HB.out|apply lA|apply lN|apply lD|refine lS ?_ GE158.out)|exact HB.out)) hb);have n2_:=aM (hbox);have n3_:=aM ((by rw [hg];exact (lZ (by repeat (first|(with_reducible first|exact HB.out|apply lA|apply lN|apply lD|refine lS ?_ GE158.out)|exact HB.out))) : w.heap.size ≤ gb164));have n4_:=aM ((by rw [hg];exact (lZ (by repeat (first|(with_reducible first|exact HB.out|apply lA|apply lN|apply lD|refine lS ?_ GE158.out)|exact HB.out))) : w.heap.size ≤ gb164));have n5_:=aM ((by rw [hg];exact Nat.ne_of_lt (bL (g:=gb158) (o:=.cells #[.slice A0_0 l0_0.length c0_0,.slice (some ad163) l0_1.length c0_1,.string a0_2] 54 (0,0)) (by (with_reducible repeat (first|refine bN ?_ _|refine bD ?_|refine bA ?_ _));exact BK158.out)) : gb158 ≠ gb164));have n6_:=aM ((by rw [hg];exact Nat.ne_of_gt (bL (g:=gb158) (o:=.cells #[.slice A0_0 l0_0.length c0_0,.slice (some ad163) l0_1.length c0_1,.string a0_2] 54 (0,0)) (by (with_reducible repeat (first|refine bN ?_ _|refine bD ?_|refine bA ?_ _));exact BK158.out)) : gb164 ≠ gb158));clear BK158 HB;have BK158:=n0_;have HB:=n1_;have BK164:=n2_;have GW164:=n3_;have GE164:=n4_;have NB158_164:=n5_;have NB164_158:=n6_;clear n0_ n1_ n2_ n3_ n4_ n5_ n6_ hb hbox hg;have hnb51:=NB164_158.out;have hnc51:=NB158_164.out;have hcz52_0 : w50.cell? ⟨gb164,0,none⟩ = some (.string (⟨#[]⟩ : ByteArray)):=(bC BK164.out 0).trans rfl;have hcz52_1 : w50.cell? ⟨gb164,1,none⟩ = some (.string (⟨#[]⟩ : ByteArray)):=(bC BK164.out 1).trans rfl;have hcz52_2 : w50.cell? ⟨gb164,2,none⟩ = some (.string (⟨#[]⟩ : ByteArray)):=(bC BK164.out 2).trans rfl;have hfz52_0:=bF BK164.out 0;have hfz52_1:=bF BK164.out 1;have hfz52_2:=bF BK164.out 2))
          have n0_ : Aside0 ((((w50.setCell ⟨gb164,0,none⟩ (.string ((rd_T61 l0_1 x5_2).f0))).setCell ⟨gb164,1,none⟩ (.string ((rd_T61 l0_1 x5_2).f1))).setCell ⟨gb164,2,none⟩ (.string ((rd_T61 l0_1 x5_2).f2))).heap[gb158]? = some (.cells #[.slice A0_0 l0_0.length c0_0,.slice (some ad163) l0_1.length c0_1,.string a0_2] 54 (0,0))):=⟨by (with_reducible repeat (first|refine bN ?_ _|refine bD ?_|refine bA ?_ _));refine blk_far ?_ NB158_164.out _;(with_reducible repeat (first|refine bN ?_ _|refine bD ?_|refine bA ?_ _));refine blk_far ?_ NB158_164.out _;(with_reducible repeat (first|refine bN ?_ _|refine bD ?_|refine bA ?_ _));refine blk_far ?_ NB158_164.out _;(with_reducible repeat (first|refine bN ?_ _|refine bD ?_|refine bA ?_ _));exact BK158.out⟩
          have n1_ : Aside0 ((((w50.setCell ⟨gb164,0,none⟩ (.string ((rd_T61 l0_1 x5_2).f0))).setCell ⟨gb164,1,none⟩ (.string ((rd_T61 l0_1 x5_2).f1))).setCell ⟨gb164,2,none⟩ (.string ((rd_T61 l0_1 x5_2).f2))).heap[gb164]? = some (.cells #[.string ((rd_T61 l0_1 x5_2).f0),.string ((rd_T61 l0_1 x5_2).f1),.string ((rd_T61 l0_1 x5_2).f2)] 61 (0,0))):=⟨by (with_reducible repeat (first|refine bN ?_ _|refine bD ?_|refine bA ?_ _));refine blk_put (cs:=#[.string ((rd_T61 l0_1 x5_2).f0),.string ((rd_T61 l0_1 x5_2).f1),.string (⟨#[]⟩ : ByteArray)]) ?_ 2 _ rfl;(with_reducible repeat (first|refine bN ?_ _|refine bD ?_|refine bA ?_ _));refine blk_put (cs:=#[.string ((rd_T61 l0_1 x5_2).f0),.string (⟨#[]⟩ : ByteArray),.string (⟨#[]⟩ : ByteArray)]) ?_ 1 _ rfl;(with_reducible repeat (first|refine bN ?_ _|refine bD ?_|refine bA ?_ _));refine blk_put (cs:=#[.string (⟨#[]⟩ : ByteArray),.string (⟨#[]⟩ : ByteArray),.string (⟨#[]⟩ : ByteArray)]) ?_ 0 _ rfl;(with_reducible repeat (first|refine bN ?_ _|refine bD ?_|refine bA ?_ _));exact BK164.out⟩
          have n2_ : Aside0 (Below w.heap.size w (((w50.setCell ⟨gb164,0,none⟩ (.string ((rd_T61 l0_1 x5_2).f0))).setCell ⟨gb164,1,none⟩ (.string ((rd_T61 l0_1 x5_2).f1))).setCell ⟨gb164,2,none⟩ (.string ((rd_T61 l0_1 x5_2).f2)))):=⟨by repeat (first|(with_reducible first|exact HB.out|apply lA|apply lN|apply lD|refine lS ?_ GE158.out|refine lS ?_ GE164.out)|exact HB.out)⟩
          (try clear BK158)
          (try clear BK164)
          (try clear HB)
          generalize (((w50.setCell ⟨gb164,0,none⟩ (.string ((rd_T61 l0_1 x5_2).f0))).setCell ⟨gb164,1,none⟩ (.string ((rd_T61 l0_1 x5_2).f1))).setCell ⟨gb164,2,none⟩ (.string ((rd_T61 l0_1 x5_2).f2))) = w53 at n0_ n1_ n2_ ⊢
          have BK158:=n0_
          have BK164:=n1_
          have HB:=n2_
          clear n0_ n1_ n2_
          have n0_:=aM (bD BK158.out)
          have n1_:=aM (bD BK164.out)
          have n2_:=aM (lD HB.out)
          clear BK158
          clear BK164
          clear HB
          have BK158:=n0_
          have BK164:=n1_
          have HB:=n2_
          clear n0_ n1_ n2_
          refine start_ (n:=31) (S:=fun w' => w'.cell? ⟨gb164,0,none⟩ = some (.string ((rd_T61 l0_1 x5_2).f0)) ∧ w'.cell? ⟨gb164,1,none⟩ = some (.string ((rd_T61 l0_1 x5_2).f1)) ∧ w'.cell? ⟨gb164,2,none⟩ = some (.string ((rd_T61 l0_1 x5_2).f2))) (ds:=[]) #[bf,bf,bf,bf,bf,bf,bf,bf,bf,bf,bf,bf,bf,bf,bf,bf,bf,bf,bf,bf,bf,bf,bf,bf,bf,bf,bf,bf,bf,bf,bf] (by kernel_rfl) rfl rfl ⟨(bC BK164.out 0).trans rfl,(bC BK164.out 1).trans rfl,(bC BK164.out 2).trans rfl⟩ (fun hHeld => ?_);refine with_tabW spec_StoreOk.tab11 spec_StoreOk.bits11 (fun HT_ HW_ => ?_)
          generalize w53.drew = w54 at BK158 BK164 HB hHeld ⊢
          refine pure_ (i:=0) (N:=some 57) (v:=?_) (a':=?_) #[bT,bf,bf,bf,bf,bf,bf,bf,bf,bf,bf,bf,bf,bf,bf,bf,bf,bf,bf,bf,bf,bf,bf,bf,bf,bf,bf,bf,bf,bf,bf] rfl rfl (any_of HT_.out (by kernel_rfl)) (fun _ _ _ h => h) (Or.inl ⟨by rfl,?_⟩) ?_ ?_
          rotate_left
          ·intro w';go_simp;with_reducible rfl
          rotate_left
          ·simp only [Act.put,q_ia4,q_cz4,q_cs4,i64_w,i32_w];rfl
          refine take_ (i:=1) (N:=some 58) (v:=?_) (a':=?_) #[bT,bT,bf,bf,bf,bf,bf,bf,bf,bf,bf,bf,bf,bf,bf,bf,bf,bf,bf,bf,bf,bf,bf,bf,bf,bf,bf,bf,bf,bf,bf] rfl rfl (take_ofW HT_.out HW_.out (by kernel_rfl)) (fun _ _ _ h => h) (Or.inl ⟨by rfl,?_⟩) hHeld ?_ ?_
          rotate_left
          ·rintro w' ⟨s0,s1,s2⟩
           go_simp
           with_reducible rfl
          rotate_left
          ·simp only [Act.put,q_ia4,q_cz4,q_cs4,i64_w,i32_w];rfl
          refine one_ (i:=2) (N:=some 59) #[bT,bT,bT,bf,bf,bf,bf,bf,bf,bf,bf,bf,bf,bf,bf,bf,bf,bf,bf,bf,bf,bf,bf,bf,bf,bf,bf,bf,bf,bf,bf] rfl rfl (one_of HT_.out (by kernel_rfl)) (by decide) (fun K hK => ?_)
          refine goes_ Try.func105 (by kernel_rfl) rfl #[.string ((rd_T61 l0_1 x5_2).f0)] (by rfl) rfl rfl (by (try simp only [List.map_toArray,List.map_cons,List.map_nil]);first|done|rfl|(simp only [List.length_drop,List.length_take];rfl)) ?_
          with_reducible refine (spec_l07Name.calls k2 ((rd_T61 l0_1 x5_2).f0) true _ A46.out).mono ?_
          rintro e w' ⟨rfl,⟨nd,rfl⟩⟩
          refine ⟨_,rfl,?_⟩
          refine hK.out _ _ ⟨(bC BK164.out 0).trans rfl,(bC BK164.out 1).trans rfl,(bC BK164.out 2).trans rfl⟩ (fun hHeld => ?_)
          clear hK K
          refine norm_ (a':=?_) ?_ ?_
          rotate_left
          ·show Act.put _ (some 59) _ = _
           simp only [Act.put,q_ia4,q_cz4,q_cs4,i64_w,i32_w]
           rfl
          refine pure_ (i:=3) (N:=some 60) (v:=?_) (a':=?_) #[bT,bT,bT,bT,bf,bf,bf,bf,bf,bf,bf,bf,bf,bf,bf,bf,bf,bf,bf,bf,bf,bf,bf,bf,bf,bf,bf,bf,bf,bf,bf] rfl rfl (any_of HT_.out (by kernel_rfl)) (fun _ _ _ h => h) (Or.inl ⟨by rfl,?_⟩) ?_ ?_
          rotate_left
          ·intro w';go_simp;with_reducible rfl
          rotate_left
          ·simp only [Act.put,q_ia4,q_cz4,q_cs4,i64_w,i32_w];rfl
          refine pure_ (i:=4) (N:=some 61) (v:=?_) (a':=?_) #[bT,bT,bT,bT,bT,bf,bf,bf,bf,bf,bf,bf,bf,bf,bf,bf,bf,bf,bf,bf,bf,bf,bf,bf,bf,bf,bf,bf,bf,bf,bf] rfl rfl (any_of HT_.out (by kernel_rfl)) (fun _ _ _ h => h) (Or.inl ⟨by rfl,?_⟩) ?_ ?_
          rotate_left
          ·intro w';go_simp;with_reducible rfl
          rotate_left
          ·simp only [Act.put,q_ia4,q_cz4,q_cs4,i64_w,i32_w];rfl
          refine pure_ (i:=5) (N:=some 62) (v:=?_) (a':=?_) #[bT,bT,bT,bT,bT,bT,bf,bf,bf,bf,bf,bf,bf,bf,bf,bf,bf,bf,bf,bf,bf,bf,bf,bf,bf,bf,bf,bf,bf,bf,bf] rfl rfl (any_of HT_.out (by kernel_rfl)) (fun _ _ _ h => h) (Or.inl ⟨by rfl,?_⟩) ?_ ?_
          rotate_left
          ·intro w';go_simp;with_reducible rfl
          rotate_left
          ·simp only [Act.put,q_ia4,q_cz4,q_cs4,i64_w,i32_w];rfl
          refine take_ (i:=6) (N:=some 63) (v:=?_) (a':=?_) #[bT,bT,bT,bT,bT,bT,bT,bf,bf,bf,bf,bf,bf,bf,bf,bf,bf,bf,bf,bf,bf,bf,bf,bf,bf,bf,bf,bf,bf,bf,bf] rfl rfl (take_ofW HT_.out HW_.out (by kernel_rfl)) (fun _ _ _ h => h) (Or.inl ⟨by rfl,?_⟩) hHeld ?_ ?_
          rotate_left
          ·rintro w' ⟨s0,s1,s2⟩
           go_simp
           with_reducible rfl
          rotate_left
          ·simp only [Act.put,q_ia4,q_cz4,q_cs4,i64_w,i32_w];rfl
          refine pure_ (i:=7) (N:=some 64) (v:=?_) (a':=?_) #[bT,bT,bT,bT,bT,bT,bT,bT,bf,bf,bf,bf,bf,bf,bf,bf,bf,bf,bf,bf,bf,bf,bf,bf,bf,bf,bf,bf,bf,bf,bf] rfl rfl (any_of HT_.out (by kernel_rfl)) (fun _ _ _ h => h) (Or.inl ⟨by rfl,?_⟩) ?_ ?_
          rotate_left
          ·intro w';go_simp;with_reducible rfl
          rotate_left
          ·simp only [Act.put,q_ia4,q_cz4,q_cs4,i64_w,i32_w];rfl
          refine pure_ (i:=8) (N:=some 65) (v:=?_) (a':=?_) #[bT,bT,bT,bT,bT,bT,bT,bT,bT,bf,bf,bf,bf,bf,bf,bf,bf,bf,bf,bf,bf,bf,bf,bf,bf,bf,bf,bf,bf,bf,bf] rfl rfl (any_of HT_.out (by kernel_rfl)) (fun _ _ _ h => h) (Or.inl ⟨by rfl,?_⟩) ?_ ?_
          rotate_left
          ·intro w';go_simp;with_reducible rfl
          rotate_left
          ·simp only [Act.put,q_ia4,q_cz4,q_cs4,i64_w,i32_w];rfl
          refine pure_ (i:=9) (N:=some 66) (v:=?_) (a':=?_) #[bT,bT,bT,bT,bT,bT,bT,bT,bT,bT,bf,bf,bf,bf,bf,bf,bf,bf,bf,bf,bf,bf,bf,bf,bf,bf,bf,bf,bf,bf,bf] rfl rfl (any_of HT_.out (by kernel_rfl)) (fun _ _ _ h => h) (Or.inl ⟨by rfl,?_⟩) ?_ ?_
          rotate_left
          ·intro w';go_simp;with_reducible rfl
          rotate_left
          ·simp only [Act.put,q_ia4,q_cz4,q_cs4,i64_w,i32_w];rfl
          refine pure_ (i:=10) (N:=some 67) (v:=?_) (a':=?_) #[bT,bT,bT,bT,bT,bT,bT,bT,bT,bT,bT,bf,bf,bf,bf,bf,bf,bf,bf,bf,bf,bf,bf,bf,bf,bf,bf,bf,bf,bf,bf] rfl rfl (any_of HT_.out (by kernel_rfl)) (fun _ _ _ h => h) (Or.inl ⟨by rfl,?_⟩) ?_ ?_
          rotate_left
          ·intro w';go_simp;with_reducible rfl
          rotate_left
          ·simp only [Act.put,q_ia4,q_cz4,q_cs4,i64_w,i32_w];rfl
          refine pure_ (i:=11) (N:=some 68) (v:=undef) (a':=?_) #[bT,bT,bT,bT,bT,bT,bT,bT,bT,bT,bT,bT,bf,bf,bf,bf,bf,bf,bf,bf,bf,bf,bf,bf,bf,bf,bf,bf,bf,bf,bf] rfl rfl (any_of HT_.out (by kernel_rfl)) (fun _ _ _ h => h) (Or.inr ⟨by rfl,rfl⟩) ?_ ?_
          rotate_left
          ·simp only [Act.put,q_ia4,q_cz4,q_cs4,i64_w,i32_w];rfl
          refine pure_ (i:=12) (N:=some 69) (v:=undef) (a':=?_) #[bT,bT,bT,bT,bT,bT,bT,bT,bT,bT,bT,bT,bT,bf,bf,bf,bf,bf,bf,bf,bf,bf,bf,bf,bf,bf,bf,bf,bf,bf,bf] rfl rfl (any_of HT_.out (by kernel_rfl)) (fun _ _ _ h => h) (Or.inr ⟨by rfl,rfl⟩) ?_ ?_
          rotate_left
          ·simp only [Act.put,q_ia4,q_cz4,q_cs4,i64_w,i32_w];rfl
          refine pure_ (i:=13) (N:=some 70) (v:=undef) (a':=?_) #[bT,bT,bT,bT,bT,bT,bT,bT,bT,bT,bT,bT,bT,bT,bf,bf,bf,bf,bf,bf,bf,bf,bf,bf,bf,bf,bf,bf,bf,bf,bf] rfl rfl (any_of HT_.out (by kernel_rfl)) (fun _ _ _ h => h) (Or.inr ⟨by rfl,rfl⟩) ?_ ?_
          rotate_left
          ·simp only [Act.put,q_ia4,q_cz4,q_cs4,i64_w,i32_w];rfl
          refine pure_ (i:=14) (N:=some 71) (v:=undef) (a':=?_) #[bT,bT,bT,bT,bT,bT,bT,bT,bT,bT,bT,bT,bT,bT,bT,bf,bf,bf,bf,bf,bf,bf,bf,bf,bf,bf,bf,bf,bf,bf,bf] rfl rfl (any_of HT_.out (by kernel_rfl)) (fun _ _ _ h => h) (Or.inr ⟨by rfl,rfl⟩) ?_ ?_
          rotate_left
          ·simp only [Act.put,q_ia4,q_cz4,q_cs4,i64_w,i32_w];rfl
          refine pure_ (i:=15) (N:=some 72) (v:=?_) (a':=?_) #[bT,bT,bT,bT,bT,bT,bT,bT,bT,bT,bT,bT,bT,bT,bT,bT,bf,bf,bf,bf,bf,bf,bf,bf,bf,bf,bf,bf,bf,bf,bf] rfl rfl (any_of HT_.out (by kernel_rfl)) (fun _ _ _ h => h) (Or.inl ⟨by rfl,?_⟩) ?_ ?_
          rotate_left
          ·intro w';go_simp;with_reducible rfl
          rotate_left
          ·simp only [Act.put,q_ia4,q_cz4,q_cs4,i64_w,i32_w];rfl
          refine pure_ (i:=16) (N:=some 73) (v:=?_) (a':=?_) #[bT,bT,bT,bT,bT,bT,bT,bT,bT,bT,bT,bT,bT,bT,bT,bT,bT,bf,bf,bf,bf,bf,bf,bf,bf,bf,bf,bf,bf,bf,bf] rfl rfl (any_of HT_.out (by kernel_rfl)) (fun _ _ _ h => h) (Or.inl ⟨by rfl,?_⟩) ?_ ?_
          rotate_left
          ·intro w';go_simp;with_reducible rfl
          rotate_left
          ·simp only [Act.put,q_ia4,q_cz4,q_cs4,i64_w,i32_w];rfl
          refine pure_ (i:=17) (N:=some 74) (v:=undef) (a':=?_) #[bT,bT,bT,bT,bT,bT,bT,bT,bT,bT,bT,bT,bT,bT,bT,bT,bT,bT,bf,bf,bf,bf,bf,bf,bf,bf,bf,bf,bf,bf,bf] rfl rfl (any_of HT_.out (by kernel_rfl)) (fun _ _ _ h => h) (Or.inr ⟨by rfl,rfl⟩) ?_ ?_
          rotate_left
          ·simp only [Act.put,q_ia4,q_cz4,q_cs4,i64_w,i32_w];rfl
          refine pure_ (i:=18) (N:=some 75) (v:=undef) (a':=?_) #[bT,bT,bT,bT,bT,bT,bT,bT,bT,bT,bT,bT,bT,bT,bT,bT,bT,bT,bT,bf,bf,bf,bf,bf,bf,bf,bf,bf,bf,bf,bf] rfl rfl (any_of HT_.out (by kernel_rfl)) (fun _ _ _ h => h) (Or.inr ⟨by rfl,rfl⟩) ?_ ?_
          rotate_left
          ·simp only [Act.put,q_ia4,q_cz4,q_cs4,i64_w,i32_w];rfl
          refine pure_ (i:=19) (N:=some 76) (v:=undef) (a':=?_) #[bT,bT,bT,bT,bT,bT,bT,bT,bT,bT,bT,bT,bT,bT,bT,bT,bT,bT,bT,bT,bf,bf,bf,bf,bf,bf,bf,bf,bf,bf,bf] rfl rfl (any_of HT_.out (by kernel_rfl)) (fun _ _ _ h => h) (Or.inr ⟨by rfl,rfl⟩) ?_ ?_
          rotate_left
          ·simp only [Act.put,q_ia4,q_cz4,q_cs4,i64_w,i32_w];rfl
          refine pure_ (i:=20) (N:=some 77) (v:=undef) (a':=?_) #[bT,bT,bT,bT,bT,bT,bT,bT,bT,bT,bT,bT,bT,bT,bT,bT,bT,bT,bT,bT,bT,bf,bf,bf,bf,bf,bf,bf,bf,bf,bf] rfl rfl (any_of HT_.out (by kernel_rfl)) (fun _ _ _ h => h) (Or.inr ⟨by rfl,rfl⟩) ?_ ?_
          rotate_left
          ·simp only [Act.put,q_ia4,q_cz4,q_cs4,i64_w,i32_w];rfl
          refine pure_ (i:=21) (N:=some 78) (v:=undef) (a':=?_) #[bT,bT,bT,bT,bT,bT,bT,bT,bT,bT,bT,bT,bT,bT,bT,bT,bT,bT,bT,bT,bT,bT,bf,bf,bf,bf,bf,bf,bf,bf,bf] rfl rfl (any_of HT_.out (by kernel_rfl)) (fun _ _ _ h => h) (Or.inr ⟨by rfl,rfl⟩) ?_ ?_
          rotate_left
          ·simp only [Act.put,q_ia4,q_cz4,q_cs4,i64_w,i32_w];rfl
          refine pure_ (i:=22) (N:=some 79) (v:=undef) (a':=?_) #[bT,bT,bT,bT,bT,bT,bT,bT,bT,bT,bT,bT,bT,bT,bT,bT,bT,bT,bT,bT,bT,bT,bT,bf,bf,bf,bf,bf,bf,bf,bf] rfl rfl (any_of HT_.out (by kernel_rfl)) (fun _ _ _ h => h) (Or.inr ⟨by rfl,rfl⟩) ?_ ?_
          rotate_left
          ·simp only [Act.put,q_ia4,q_cz4,q_cs4,i64_w,i32_w];rfl
          refine pure_ (i:=23) (N:=some 80) (v:=undef) (a':=?_) #[bT,bT,bT,bT,bT,bT,bT,bT,bT,bT,bT,bT,bT,bT,bT,bT,bT,bT,bT,bT,bT,bT,bT,bT,bf,bf,bf,bf,bf,bf,bf] rfl rfl (any_of HT_.out (by kernel_rfl)) (fun _ _ _ h => h) (Or.inr ⟨by rfl,rfl⟩) ?_ ?_
          rotate_left
          ·simp only [Act.put,q_ia4,q_cz4,q_cs4,i64_w,i32_w];rfl
          refine pure_ (i:=24) (N:=some 81) (v:=undef) (a':=?_) #[bT,bT,bT,bT,bT,bT,bT,bT,bT,bT,bT,bT,bT,bT,bT,bT,bT,bT,bT,bT,bT,bT,bT,bT,bT,bf,bf,bf,bf,bf,bf] rfl rfl (any_of HT_.out (by kernel_rfl)) (fun _ _ _ h => h) (Or.inr ⟨by rfl,rfl⟩) ?_ ?_
          rotate_left
          ·simp only [Act.put,q_ia4,q_cz4,q_cs4,i64_w,i32_w];rfl
          refine pure_ (i:=25) (N:=some 82) (v:=undef) (a':=?_) #[bT,bT,bT,bT,bT,bT,bT,bT,bT,bT,bT,bT,bT,bT,bT,bT,bT,bT,bT,bT,bT,bT,bT,bT,bT,bT,bf,bf,bf,bf,bf] rfl rfl (any_of HT_.out (by kernel_rfl)) (fun _ _ _ h => h) (Or.inr ⟨by rfl,rfl⟩) ?_ ?_
          rotate_left
          ·simp only [Act.put,q_ia4,q_cz4,q_cs4,i64_w,i32_w];rfl
          refine pure_ (i:=26) (N:=some 83) (v:=undef) (a':=?_) #[bT,bT,bT,bT,bT,bT,bT,bT,bT,bT,bT,bT,bT,bT,bT,bT,bT,bT,bT,bT,bT,bT,bT,bT,bT,bT,bT,bf,bf,bf,bf] rfl rfl (any_of HT_.out (by kernel_rfl)) (fun _ _ _ h => h) (Or.inr ⟨by rfl,rfl⟩) ?_ ?_
          rotate_left
          ·simp only [Act.put,q_ia4,q_cz4,q_cs4,i64_w,i32_w];rfl
          refine pure_ (i:=27) (N:=some 84) (v:=undef) (a':=?_) #[bT,bT,bT,bT,bT,bT,bT,bT,bT,bT,bT,bT,bT,bT,bT,bT,bT,bT,bT,bT,bT,bT,bT,bT,bT,bT,bT,bT,bf,bf,bf] rfl rfl (any_of HT_.out (by kernel_rfl)) (fun _ _ _ h => h) (Or.inr ⟨by rfl,rfl⟩) ?_ ?_
          rotate_left
          ·simp only [Act.put,q_ia4,q_cz4,q_cs4,i64_w,i32_w];rfl
          refine pure_ (i:=28) (N:=some 85) (v:=undef) (a':=?_) #[bT,bT,bT,bT,bT,bT,bT,bT,bT,bT,bT,bT,bT,bT,bT,bT,bT,bT,bT,bT,bT,bT,bT,bT,bT,bT,bT,bT,bT,bf,bf] rfl rfl (any_of HT_.out (by kernel_rfl)) (fun _ _ _ h => h) (Or.inr ⟨by rfl,rfl⟩) ?_ ?_
          rotate_left
          ·simp only [Act.put,q_ia4,q_cz4,q_cs4,i64_w,i32_w];rfl
          refine pure_ (i:=29) (N:=some 86) (v:=undef) (a':=?_) #[bT,bT,bT,bT,bT,bT,bT,bT,bT,bT,bT,bT,bT,bT,bT,bT,bT,bT,bT,bT,bT,bT,bT,bT,bT,bT,bT,bT,bT,bT,bf] rfl rfl (any_of HT_.out (by kernel_rfl)) (fun _ _ _ h => h) (Or.inr ⟨by rfl,rfl⟩) ?_ ?_
          rotate_left
          ·simp only [Act.put,q_ia4,q_cz4,q_cs4,i64_w,i32_w];rfl
          refine pure_ (i:=30) (N:=some 87) (v:=?_) (a':=?_) #[bT,bT,bT,bT,bT,bT,bT,bT,bT,bT,bT,bT,bT,bT,bT,bT,bT,bT,bT,bT,bT,bT,bT,bT,bT,bT,bT,bT,bT,bT,bT] rfl rfl (any_of HT_.out (by kernel_rfl)) (fun _ _ _ h => h) (Or.inl ⟨by rfl,?_⟩) ?_ ?_
          rotate_left
          ·intro w';go_simp;with_reducible rfl
          rotate_left
          ·simp only [Act.put,q_ia4,q_cz4,q_cs4,i64_w,i32_w];rfl
          refine done_ (done_of HT_.out (by kernel_rfl)) ?_
          try go_wp2
          go_ret
          exact ⟨by first|rfl|(simp [errW_none,errW_some] <;> rfl)|(simp [*,errW_none,errW_some] <;> rfl),by repeat (first|(with_reducible first|exact HB.out|apply lA|apply lN|apply lD|refine lS ?_ GE158.out|refine lS ?_ GE164.out)|exact HB.out)⟩
         ·rw [if_neg c48] at H
          have c48b0 : decide (40 < (((rd_T61 l0_1 x5_2).f1).size : Int)) = false:=decide_eq_false c48
          have c48b1 : decide (40 < ((rd_T61 l0_1 x5_2).f1).size) = false:=decide_eq_false (by omega)
          clear c48
          by_cases c55 : (((rd_T61 l0_1 x5_2).f2).size : Int) > 40
          ·rw [if_pos c55] at H
           have c55b0 : decide (40 < (((rd_T61 l0_1 x5_2).f2).size : Int)) = true:=decide_eq_true c55
           have c55b1 : decide (40 < ((rd_T61 l0_1 x5_2).f2).size) = true:=decide_eq_true (by omega)
           clear c55
           obtain rfl:=Option.some.inj H
           have hcz56_0 : wr.cell? ⟨gb158,0,none⟩ = some (.slice A0_0 l0_0.length c0_0):=(bC BK158.out 0).trans rfl
           have hcz56_1 : wr.cell? ⟨gb158,1,none⟩ = some (.slice A0_1 l0_1.length c0_1):=(bC BK158.out 1).trans rfl
           have hcz56_2 : wr.cell? ⟨gb158,2,none⟩ = some (.string a0_2):=(bC BK158.out 2).trans rfl
           have hfz56_0:=bF BK158.out 0
           have hfz56_1:=bF BK158.out 1
           have hfz56_2:=bF BK158.out 2
           have p163 : 0 ≤ (x5_2 : Int):=of_decide_eq_true (by first|(with_reducible assumption)|assumption)
           have q163 : x5_2 < (l0_1.length : Int):=of_decide_eq_true (by first|(with_reducible assumption)|assumption)
           obtain ⟨ad163,e163,hx163_0,hx163_1,hx163_2⟩:=at_T61 HR0_1.out x5_2 p163 q163
           cases e163
           replace hx163_0:=(HB.out.cell (World.block_lt_of_cell? w _ hx163_0)).trans hx163_0
           replace hx163_1:=(HB.out.cell (World.block_lt_of_cell? w _ hx163_1)).trans hx163_1
           replace hx163_2:=(HB.out.cell (World.block_lt_of_cell? w _ hx163_2)).trans hx163_2
           replace p163:=eq_true p163
           replace q163:=eq_true q163
           try go_wp2_with (first|((with_reducible refine gate_dst (N:=6) rfl ?_);(try (refine gate_guard (by rfl) ?_;dsimp only));refine box_event ?hg (N:=6) ?hd (cs:=#[.string (⟨#[]⟩ : ByteArray),.string (⟨#[]⟩ : ByteArray),.string (⟨#[]⟩ : ByteArray)]) (t:=61) ?hr ?_;(case hd => rfl);(case hg => rfl);(case hr => first|(go_simp;done)|(go_simp;rfl));intro gb164 hg w57 hbox hb;have n0_:=aM (bB (g:=gb158) (o:=.cells #[.slice A0_0 l0_0.length c0_0,.slice (some ad163) l0_1.length c0_1,.string a0_2] 54 (0,0)) (by (with_reducible repeat (first|refine bN ?_ _|refine bD ?_|refine bA ?_ _));exact BK158.out) hb);have n1_:=aM (lP (by repeat (first|(with_reducible first|exact HB.out|apply lA|apply lN|apply lD|refine lS ?_ GE158.out)|exact HB.out)) hb);have n2_:=aM (hbox);have n3_:=aM ((by rw [hg];exact (lZ (by repeat (first|(with_reducible first|exact HB.out|apply lA|apply lN|apply lD|refine lS ?_ GE158.out)|exact HB.out))) : w.heap.size ≤ gb164));have n4_:=aM ((by rw [hg];exact (lZ (by repeat (first|(with_reducible first|exact HB.out|apply lA|apply lN|apply lD|refine lS ?_ GE158.out)|exact HB.out))) : w.heap.size ≤ gb164));have n5_:=aM ((by rw [hg];exact Nat.ne_of_lt (bL (g:=gb158) (o:=.cells #[.slice A0_0 l0_0.length c0_0,.slice (some ad163) l0_1.length c0_1,.string a0_2] 54 (0,0)) (by (with_reducible repeat (first|refine bN ?_ _|refine bD ?_|refine bA ?_ _));exact BK158.out)) : gb158 ≠ gb164));have n6_:=aM ((by rw [hg];exact Nat.ne_of_gt (bL (g:=gb158) (o:=.cells #[.slice A0_0 l0_0.length c0_0,.slice (some ad163) l0_1.length c0_1,.string a0_2] 54 (0,0)) (by (with_reducible repeat (first|refine bN ?_ _|refine bD ?_|refine bA ?_ _));exact BK158.out)) : gb164 ≠ gb158));clear BK158 HB;have BK158:=n0_;have HB:=n1_;have BK164:=n2_;have GW164:=n3_;have GE164:=n4_;have NB158_164:=n5_;have NB164_158:=n6_;clear n0_ n1_ n2_ n3_ n4_ n5_ n6_ hb hbox hg;have hnb58:=NB164_158.out;have hnc58:=NB158_164.out;have hcz59_0 : w57.cell? ⟨gb164,0,none⟩ = some (.string (⟨#[]⟩ : ByteArray)):=(bC BK164.out 0).trans rfl;have hcz59_1 : w57.cell? ⟨gb164,1,none⟩ = some (.string (⟨#[]⟩ : ByteArray)):=(bC BK164.out 1).trans rfl;have hcz59_2 : w57.cell? ⟨gb164,2,none⟩ = some (.string (⟨#[]⟩ : ByteArray)):=(bC BK164.out 2).trans rfl;have hfz59_0:=bF BK164.out 0;have hfz59_1:=bF BK164.out 1;have hfz59_2:=bF BK164.out 2))
           have n0_ : Aside0 ((((w57.setCell ⟨gb164,0,none⟩ (.string ((rd_T61 l0_1 x5_2).f0))).setCell ⟨gb164,1,none⟩ (.string ((rd_T61 l0_1 x5_2).f1))).setCell ⟨gb164,2,none⟩ (.string ((rd_T61 l0_1 x5_2).f2))).heap[gb158]? = some (.cells #[.slice A0_0 l0_0.length c0_0,.slice (some ad163) l0_1.length c0_1,.string a0_2] 54 (0,0))):=⟨by (with_reducible repeat (first|refine bN ?_ _|refine bD ?_|refine bA ?_ _));refine blk_far ?_ NB158_164.out _;(with_reducible repeat (first|refine bN ?_ _|refine bD ?_|refine bA ?_ _));refine blk_far ?_ NB158_164.out _;(with_reducible repeat (first|refine bN ?_ _|refine bD ?_|refine bA ?_ _));refine blk_far ?_ NB158_164.out _;(with_reducible repeat (first|refine bN ?_ _|refine bD ?_|refine bA ?_ _));exact BK158.out⟩
           have n1_ : Aside0 ((((w57.setCell ⟨gb164,0,none⟩ (.string ((rd_T61 l0_1 x5_2).f0))).setCell ⟨gb164,1,none⟩ (.string ((rd_T61 l0_1 x5_2).f1))).setCell ⟨gb164,2,none⟩ (.string ((rd_T61 l0_1 x5_2).f2))).heap[gb164]? = some (.cells #[.string ((rd_T61 l0_1 x5_2).f0),.string ((rd_T61 l0_1 x5_2).f1),.string ((rd_T61 l0_1 x5_2).f2)] 61 (0,0))):=⟨by (with_reducible repeat (first|refine bN ?_ _|refine bD ?_|refine bA ?_ _));refine blk_put (cs:=#[.string ((rd_T61 l0_1 x5_2).f0),.string ((rd_T61 l0_1 x5_2).f1),.string (⟨#[]⟩ : ByteArray)]) ?_ 2 _ rfl;(with_reducible repeat (first|refine bN ?_ _|refine bD ?_|refine bA ?_ _));refine blk_put (cs:=#[.string ((rd_T61 l0_1 x5_2).f0),.string (⟨#[]⟩ : ByteArray),.string (⟨#[]⟩ : ByteArray)]) ?_ 1 _ rfl;(with_reducible repeat (first|refine bN ?_ _|refine bD ?_|refine bA ?_ _));refine blk_put (cs:=#[.string (⟨#[]⟩ : ByteArray),.string (⟨#[]⟩ : ByteArray),.string (⟨#[]⟩ : ByteArray)]) ?_ 0 _ rfl;(with_reducible repeat (first|refine bN ?_ _|refine bD ?_|refine bA ?_ _));exact BK164.out⟩
           have n2_ : Aside0 (Below w.heap.size w (((w57.setCell ⟨gb164,0,none⟩ (.string ((rd_T61 l0_1 x5_2).f0))).setCell ⟨gb164,1,none⟩ (.string ((rd_T61 l0_1 x5_2).f1))).setCell ⟨gb164,2,none⟩ (.string ((rd_T61 l0_1 x5_2).f2)))):=⟨by repeat (first|(with_reducible first|exact HB.out|apply lA|apply lN|apply lD|refine lS ?_ GE158.out|refine lS ?_ GE164.out)|exact HB.out)⟩
           (try clear BK158)
           (try clear BK164)
           (try clear HB)
           generalize (((w57.setCell ⟨gb164,0,none⟩ (.string ((rd_T61 l0_1 x5_2).f0))).setCell ⟨gb164,1,none⟩ (.string ((rd_T61 l0_1 x5_2).f1))).setCell ⟨gb164,2,none⟩ (.string ((rd_T61 l0_1 x5_2).f2))) = w60 at n0_ n1_ n2_ ⊢
           have BK158:=n0_
           have BK164:=n1_
           have HB:=n2_
           clear n0_ n1_ n2_
           have n0_:=aM (bD BK158.out)
           have n1_:=aM (bD BK164.out)
           have n2_:=aM (lD HB.out)
           clear BK158
           clear BK164
           clear HB
           have BK158:=n0_
           have BK164:=n1_
           have HB:=n2_
           clear n0_ n1_ n2_
           refine start_ (n:=31) (S:=fun w' => w'.cell? ⟨gb164,0,none⟩ = some (.string ((rd_T61 l0_1 x5_2).f0)) ∧ w'.cell? ⟨gb164,1,none⟩ = some (.string ((rd_T61 l0_1 x5_2).f1)) ∧ w'.cell? ⟨gb164,2,none⟩ = some (.string ((rd_T61 l0_1 x5_2).f2))) (ds:=[]) #[bf,bf,bf,bf,bf,bf,bf,bf,bf,bf,bf,bf,bf,bf,bf,bf,bf,bf,bf,bf,bf,bf,bf,bf,bf,bf,bf,bf,bf,bf,bf] (by kernel_rfl) rfl rfl ⟨(bC BK164.out 0).trans rfl,(bC BK164.out 1).trans rfl,(bC BK164.out 2).trans rfl⟩ (fun hHeld => ?_);refine with_tabW spec_StoreOk.tab11 spec_StoreOk.bits11 (fun HT_ HW_ => ?_)
           generalize w60.drew = w61 at BK158 BK164 HB hHeld ⊢
           refine pure_ (i:=0) (N:=some 57) (v:=?_) (a':=?_) #[bT,bf,bf,bf,bf,bf,bf,bf,bf,bf,bf,bf,bf,bf,bf,bf,bf,bf,bf,bf,bf,bf,bf,bf,bf,bf,bf,bf,bf,bf,bf] rfl rfl (any_of HT_.out (by kernel_rfl)) (fun _ _ _ h => h) (Or.inl ⟨by rfl,?_⟩) ?_ ?_
           rotate_left
           ·intro w';go_simp;with_reducible rfl
           rotate_left
           ·simp only [Act.put,q_ia4,q_cz4,q_cs4,i64_w,i32_w];rfl
           refine take_ (i:=1) (N:=some 58) (v:=?_) (a':=?_) #[bT,bT,bf,bf,bf,bf,bf,bf,bf,bf,bf,bf,bf,bf,bf,bf,bf,bf,bf,bf,bf,bf,bf,bf,bf,bf,bf,bf,bf,bf,bf] rfl rfl (take_ofW HT_.out HW_.out (by kernel_rfl)) (fun _ _ _ h => h) (Or.inl ⟨by rfl,?_⟩) hHeld ?_ ?_
           rotate_left
           ·rintro w' ⟨s0,s1,s2⟩
            go_simp
            with_reducible rfl
           rotate_left
           ·simp only [Act.put,q_ia4,q_cz4,q_cs4,i64_w,i32_w];rfl
           refine one_ (i:=2) (N:=some 59) #[bT,bT,bT,bf,bf,bf,bf,bf,bf,bf,bf,bf,bf,bf,bf,bf,bf,bf,bf,bf,bf,bf,bf,bf,bf,bf,bf,bf,bf,bf,bf] rfl rfl (one_of HT_.out (by kernel_rfl)) (by decide) (fun K hK => ?_)
           refine goes_ Try.func105 (by kernel_rfl) rfl #[.string ((rd_T61 l0_1 x5_2).f0)] (by rfl) rfl rfl (by (try simp only [List.map_toArray,List.map_cons,List.map_nil]);first|done|rfl|(simp only [List.length_drop,List.length_take];rfl)) ?_
           with_reducible refine (spec_l07Name.calls k2 ((rd_T61 l0_1 x5_2).f0) true _ A46.out).mono ?_
           rintro e w' ⟨rfl,⟨nd,rfl⟩⟩
           refine ⟨_,rfl,?_⟩
           refine hK.out _ _ ⟨(bC BK164.out 0).trans rfl,(bC BK164.out 1).trans rfl,(bC BK164.out 2).trans rfl⟩ (fun hHeld => ?_)
           clear hK K
           refine norm_ (a':=?_) ?_ ?_
           rotate_left
           ·show Act.put _ (some 59) _ = _
            simp only [Act.put,q_ia4,q_cz4,q_cs4,i64_w,i32_w]
            rfl
           refine pure_ (i:=3) (N:=some 60) (v:=?_) (a':=?_) #[bT,bT,bT,bT,bf,bf,bf,bf,bf,bf,bf,bf,bf,bf,bf,bf,bf,bf,bf,bf,bf,bf,bf,bf,bf,bf,bf,bf,bf,bf,bf] rfl rfl (any_of HT_.out (by kernel_rfl)) (fun _ _ _ h => h) (Or.inl ⟨by rfl,?_⟩) ?_ ?_
           rotate_left
           ·intro w';go_simp;with_reducible rfl
           rotate_left
           ·simp only [Act.put,q_ia4,q_cz4,q_cs4,i64_w,i32_w];rfl
           refine pure_ (i:=4) (N:=some 61) (v:=?_) (a':=?_) #[bT,bT,bT,bT,bT,bf,bf,bf,bf,bf,bf,bf,bf,bf,bf,bf,bf,bf,bf,bf,bf,bf,bf,bf,bf,bf,bf,bf,bf,bf,bf] rfl rfl (any_of HT_.out (by kernel_rfl)) (fun _ _ _ h => h) (Or.inl ⟨by rfl,?_⟩) ?_ ?_
           rotate_left
           ·intro w';go_simp;with_reducible rfl
           rotate_left
           ·simp only [Act.put,q_ia4,q_cz4,q_cs4,i64_w,i32_w];rfl
           refine pure_ (i:=5) (N:=some 62) (v:=?_) (a':=?_) #[bT,bT,bT,bT,bT,bT,bf,bf,bf,bf,bf,bf,bf,bf,bf,bf,bf,bf,bf,bf,bf,bf,bf,bf,bf,bf,bf,bf,bf,bf,bf] rfl rfl (any_of HT_.out (by kernel_rfl)) (fun _ _ _ h => h) (Or.inl ⟨by rfl,?_⟩) ?_ ?_
           rotate_left
           ·intro w';go_simp;with_reducible rfl
           rotate_left
           ·simp only [Act.put,q_ia4,q_cz4,q_cs4,i64_w,i32_w];rfl
           refine take_ (i:=6) (N:=some 63) (v:=?_) (a':=?_) #[bT,bT,bT,bT,bT,bT,bT,bf,bf,bf,bf,bf,bf,bf,bf,bf,bf,bf,bf,bf,bf,bf,bf,bf,bf,bf,bf,bf,bf,bf,bf] rfl rfl (take_ofW HT_.out HW_.out (by kernel_rfl)) (fun _ _ _ h => h) (Or.inl ⟨by rfl,?_⟩) hHeld ?_ ?_
           rotate_left
           ·rintro w' ⟨s0,s1,s2⟩
            go_simp
            with_reducible rfl
           rotate_left
           ·simp only [Act.put,q_ia4,q_cz4,q_cs4,i64_w,i32_w];rfl
           refine pure_ (i:=7) (N:=some 64) (v:=?_) (a':=?_) #[bT,bT,bT,bT,bT,bT,bT,bT,bf,bf,bf,bf,bf,bf,bf,bf,bf,bf,bf,bf,bf,bf,bf,bf,bf,bf,bf,bf,bf,bf,bf] rfl rfl (any_of HT_.out (by kernel_rfl)) (fun _ _ _ h => h) (Or.inl ⟨by rfl,?_⟩) ?_ ?_
           rotate_left
           ·intro w';go_simp;with_reducible rfl
           rotate_left
           ·simp only [Act.put,q_ia4,q_cz4,q_cs4,i64_w,i32_w];rfl
           refine pure_ (i:=8) (N:=some 65) (v:=?_) (a':=?_) #[bT,bT,bT,bT,bT,bT,bT,bT,bT,bf,bf,bf,bf,bf,bf,bf,bf,bf,bf,bf,bf,bf,bf,bf,bf,bf,bf,bf,bf,bf,bf] rfl rfl (any_of HT_.out (by kernel_rfl)) (fun _ _ _ h => h) (Or.inl ⟨by rfl,?_⟩) ?_ ?_
           rotate_left
           ·intro w';go_simp;with_reducible rfl
           rotate_left
           ·simp only [Act.put,q_ia4,q_cz4,q_cs4,i64_w,i32_w];rfl
           refine pure_ (i:=9) (N:=some 66) (v:=?_) (a':=?_) #[bT,bT,bT,bT,bT,bT,bT,bT,bT,bT,bf,bf,bf,bf,bf,bf,bf,bf,bf,bf,bf,bf,bf,bf,bf,bf,bf,bf,bf,bf,bf] rfl rfl (any_of HT_.out (by kernel_rfl)) (fun _ _ _ h => h) (Or.inl ⟨by rfl,?_⟩) ?_ ?_
           rotate_left
           ·intro w';go_simp;with_reducible rfl
           rotate_left
           ·simp only [Act.put,q_ia4,q_cz4,q_cs4,i64_w,i32_w];rfl
           refine pure_ (i:=10) (N:=some 67) (v:=?_) (a':=?_) #[bT,bT,bT,bT,bT,bT,bT,bT,bT,bT,bT,bf,bf,bf,bf,bf,bf,bf,bf,bf,bf,bf,bf,bf,bf,bf,bf,bf,bf,bf,bf] rfl rfl (any_of HT_.out (by kernel_rfl)) (fun _ _ _ h => h) (Or.inl ⟨by rfl,?_⟩) ?_ ?_
           rotate_left
           ·intro w';go_simp;with_reducible rfl
           rotate_left
           ·simp only [Act.put,q_ia4,q_cz4,q_cs4,i64_w,i32_w];rfl
           refine pure_ (i:=11) (N:=some 68) (v:=?_) (a':=?_) #[bT,bT,bT,bT,bT,bT,bT,bT,bT,bT,bT,bT,bf,bf,bf,bf,bf,bf,bf,bf,bf,bf,bf,bf,bf,bf,bf,bf,bf,bf,bf] rfl rfl (any_of HT_.out (by kernel_rfl)) (fun _ _ _ h => h) (Or.inl ⟨by rfl,?_⟩) ?_ ?_
           rotate_left
           ·intro w';go_simp;with_reducible rfl
           rotate_left
           ·simp only [Act.put,q_ia4,q_cz4,q_cs4,i64_w,i32_w];rfl
           refine take_ (i:=12) (N:=some 69) (v:=?_) (a':=?_) #[bT,bT,bT,bT,bT,bT,bT,bT,bT,bT,bT,bT,bT,bf,bf,bf,bf,bf,bf,bf,bf,bf,bf,bf,bf,bf,bf,bf,bf,bf,bf] rfl rfl (take_ofW HT_.out HW_.out (by kernel_rfl)) (fun _ _ _ h => h) (Or.inl ⟨by rfl,?_⟩) hHeld ?_ ?_
           rotate_left
           ·rintro w' ⟨s0,s1,s2⟩
            go_simp
            with_reducible rfl
           rotate_left
           ·simp only [Act.put,q_ia4,q_cz4,q_cs4,i64_w,i32_w];rfl
           refine pure_ (i:=13) (N:=some 70) (v:=?_) (a':=?_) #[bT,bT,bT,bT,bT,bT,bT,bT,bT,bT,bT,bT,bT,bT,bf,bf,bf,bf,bf,bf,bf,bf,bf,bf,bf,bf,bf,bf,bf,bf,bf] rfl rfl (any_of HT_.out (by kernel_rfl)) (fun _ _ _ h => h) (Or.inl ⟨by rfl,?_⟩) ?_ ?_
           rotate_left
           ·intro w';go_simp;with_reducible rfl
           rotate_left
           ·simp only [Act.put,q_ia4,q_cz4,q_cs4,i64_w,i32_w];rfl
           refine pure_ (i:=14) (N:=some 71) (v:=?_) (a':=?_) #[bT,bT,bT,bT,bT,bT,bT,bT,bT,bT,bT,bT,bT,bT,bT,bf,bf,bf,bf,bf,bf,bf,bf,bf,bf,bf,bf,bf,bf,bf,bf] rfl rfl (any_of HT_.out (by kernel_rfl)) (fun _ _ _ h => h) (Or.inl ⟨by rfl,?_⟩) ?_ ?_
           rotate_left
           ·intro w';go_simp;with_reducible rfl
           rotate_left
           ·simp only [Act.put,q_ia4,q_cz4,q_cs4,i64_w,i32_w];rfl
           refine pure_ (i:=15) (N:=some 72) (v:=?_) (a':=?_) #[bT,bT,bT,bT,bT,bT,bT,bT,bT,bT,bT,bT,bT,bT,bT,bT,bf,bf,bf,bf,bf,bf,bf,bf,bf,bf,bf,bf,bf,bf,bf] rfl rfl (any_of HT_.out (by kernel_rfl)) (fun _ _ _ h => h) (Or.inl ⟨by rfl,?_⟩) ?_ ?_
           rotate_left
           ·intro w';go_simp;with_reducible rfl
           rotate_left
           ·simp only [Act.put,q_ia4,q_cz4,q_cs4,i64_w,i32_w];rfl
           refine pure_ (i:=16) (N:=some 73) (v:=?_) (a':=?_) #[bT,bT,bT,bT,bT,bT,bT,bT,bT,bT,bT,bT,bT,bT,bT,bT,bT,bf,bf,bf,bf,bf,bf,bf,bf,bf,bf,bf,bf,bf,bf] rfl rfl (any_of HT_.out (by kernel_rfl)) (fun _ _ _ h => h) (Or.inl ⟨by rfl,?_⟩) ?_ ?_
           rotate_left
           ·intro w';go_simp;with_reducible rfl
           rotate_left
           ·simp only [Act.put,q_ia4,q_cz4,q_cs4,i64_w,i32_w];rfl
           refine pure_ (i:=17) (N:=some 74) (v:=undef) (a':=?_) #[bT,bT,bT,bT,bT,bT,bT,bT,bT,bT,bT,bT,bT,bT,bT,bT,bT,bT,bf,bf,bf,bf,bf,bf,bf,bf,bf,bf,bf,bf,bf] rfl rfl (any_of HT_.out (by kernel_rfl)) (fun _ _ _ h => h) (Or.inr ⟨by rfl,rfl⟩) ?_ ?_
           rotate_left
           ·simp only [Act.put,q_ia4,q_cz4,q_cs4,i64_w,i32_w];rfl
           refine pure_ (i:=18) (N:=some 75) (v:=undef) (a':=?_) #[bT,bT,bT,bT,bT,bT,bT,bT,bT,bT,bT,bT,bT,bT,bT,bT,bT,bT,bT,bf,bf,bf,bf,bf,bf,bf,bf,bf,bf,bf,bf] rfl rfl (any_of HT_.out (by kernel_rfl)) (fun _ _ _ h => h) (Or.inr ⟨by rfl,rfl⟩) ?_ ?_
           rotate_left
           ·simp only [Act.put,q_ia4,q_cz4,q_cs4,i64_w,i32_w];rfl
           refine pure_ (i:=19) (N:=some 76) (v:=undef) (a':=?_) #[bT,bT,bT,bT,bT,bT,bT,bT,bT,bT,bT,bT,bT,bT,bT,bT,bT,bT,bT,bT,bf,bf,bf,bf,bf,bf,bf,bf,bf,bf,bf] rfl rfl (any_of HT_.out (by kernel_rfl)) (fun _ _ _ h => h) (Or.inr ⟨by rfl,rfl⟩) ?_ ?_
           rotate_left
           ·simp only [Act.put,q_ia4,q_cz4,q_cs4,i64_w,i32_w];rfl
           refine pure_ (i:=20) (N:=some 77) (v:=undef) (a':=?_) #[bT,bT,bT,bT,bT,bT,bT,bT,bT,bT,bT,bT,bT,bT,bT,bT,bT,bT,bT,bT,bT,bf,bf,bf,bf,bf,bf,bf,bf,bf,bf] rfl rfl (any_of HT_.out (by kernel_rfl)) (fun _ _ _ h => h) (Or.inr ⟨by rfl,rfl⟩) ?_ ?_
           rotate_left
           ·simp only [Act.put,q_ia4,q_cz4,q_cs4,i64_w,i32_w];rfl
           refine pure_ (i:=21) (N:=some 78) (v:=undef) (a':=?_) #[bT,bT,bT,bT,bT,bT,bT,bT,bT,bT,bT,bT,bT,bT,bT,bT,bT,bT,bT,bT,bT,bT,bf,bf,bf,bf,bf,bf,bf,bf,bf] rfl rfl (any_of HT_.out (by kernel_rfl)) (fun _ _ _ h => h) (Or.inr ⟨by rfl,rfl⟩) ?_ ?_
           rotate_left
           ·simp only [Act.put,q_ia4,q_cz4,q_cs4,i64_w,i32_w];rfl
           refine pure_ (i:=22) (N:=some 79) (v:=undef) (a':=?_) #[bT,bT,bT,bT,bT,bT,bT,bT,bT,bT,bT,bT,bT,bT,bT,bT,bT,bT,bT,bT,bT,bT,bT,bf,bf,bf,bf,bf,bf,bf,bf] rfl rfl (any_of HT_.out (by kernel_rfl)) (fun _ _ _ h => h) (Or.inr ⟨by rfl,rfl⟩) ?_ ?_
           rotate_left
           ·simp only [Act.put,q_ia4,q_cz4,q_cs4,i64_w,i32_w];rfl
           refine pure_ (i:=23) (N:=some 80) (v:=undef) (a':=?_) #[bT,bT,bT,bT,bT,bT,bT,bT,bT,bT,bT,bT,bT,bT,bT,bT,bT,bT,bT,bT,bT,bT,bT,bT,bf,bf,bf,bf,bf,bf,bf] rfl rfl (any_of HT_.out (by kernel_rfl)) (fun _ _ _ h => h) (Or.inr ⟨by rfl,rfl⟩) ?_ ?_
           rotate_left
           ·simp only [Act.put,q_ia4,q_cz4,q_cs4,i64_w,i32_w];rfl
           refine pure_ (i:=24) (N:=some 81) (v:=undef) (a':=?_) #[bT,bT,bT,bT,bT,bT,bT,bT,bT,bT,bT,bT,bT,bT,bT,bT,bT,bT,bT,bT,bT,bT,bT,bT,bT,bf,bf,bf,bf,bf,bf] rfl rfl (any_of HT_.out (by kernel_rfl)) (fun _ _ _ h => h) (Or.inr ⟨by rfl,rfl⟩) ?_ ?_
           rotate_left
           ·simp only [Act.put,q_ia4,q_cz4,q_cs4,i64_w,i32_w];rfl
           refine pure_ (i:=25) (N:=some 82) (v:=undef) (a':=?_) #[bT,bT,bT,bT,bT,bT,bT,bT,bT,bT,bT,bT,bT,bT,bT,bT,bT,bT,bT,bT,bT,bT,bT,bT,bT,bT,bf,bf,bf,bf,bf] rfl rfl (any_of HT_.out (by kernel_rfl)) (fun _ _ _ h => h) (Or.inr ⟨by rfl,rfl⟩) ?_ ?_
           rotate_left
           ·simp only [Act.put,q_ia4,q_cz4,q_cs4,i64_w,i32_w];rfl
           refine pure_ (i:=26) (N:=some 83) (v:=undef) (a':=?_) #[bT,bT,bT,bT,bT,bT,bT,bT,bT,bT,bT,bT,bT,bT,bT,bT,bT,bT,bT,bT,bT,bT,bT,bT,bT,bT,bT,bf,bf,bf,bf] rfl rfl (any_of HT_.out (by kernel_rfl)) (fun _ _ _ h => h) (Or.inr ⟨by rfl,rfl⟩) ?_ ?_
           rotate_left
           ·simp only [Act.put,q_ia4,q_cz4,q_cs4,i64_w,i32_w];rfl
           refine pure_ (i:=27) (N:=some 84) (v:=undef) (a':=?_) #[bT,bT,bT,bT,bT,bT,bT,bT,bT,bT,bT,bT,bT,bT,bT,bT,bT,bT,bT,bT,bT,bT,bT,bT,bT,bT,bT,bT,bf,bf,bf] rfl rfl (any_of HT_.out (by kernel_rfl)) (fun _ _ _ h => h) (Or.inr ⟨by rfl,rfl⟩) ?_ ?_
           rotate_left
           ·simp only [Act.put,q_ia4,q_cz4,q_cs4,i64_w,i32_w];rfl
           refine pure_ (i:=28) (N:=some 85) (v:=undef) (a':=?_) #[bT,bT,bT,bT,bT,bT,bT,bT,bT,bT,bT,bT,bT,bT,bT,bT,bT,bT,bT,bT,bT,bT,bT,bT,bT,bT,bT,bT,bT,bf,bf] rfl rfl (any_of HT_.out (by kernel_rfl)) (fun _ _ _ h => h) (Or.inr ⟨by rfl,rfl⟩) ?_ ?_
           rotate_left
           ·simp only [Act.put,q_ia4,q_cz4,q_cs4,i64_w,i32_w];rfl
           refine pure_ (i:=29) (N:=some 86) (v:=undef) (a':=?_) #[bT,bT,bT,bT,bT,bT,bT,bT,bT,bT,bT,bT,bT,bT,bT,bT,bT,bT,bT,bT,bT,bT,bT,bT,bT,bT,bT,bT,bT,bT,bf] rfl rfl (any_of HT_.out (by kernel_rfl)) (fun _ _ _ h => h) (Or.inr ⟨by rfl,rfl⟩) ?_ ?_
           rotate_left
           ·simp only [Act.put,q_ia4,q_cz4,q_cs4,i64_w,i32_w];rfl
           refine pure_ (i:=30) (N:=some 87) (v:=?_) (a':=?_) #[bT,bT,bT,bT,bT,bT,bT,bT,bT,bT,bT,bT,bT,bT,bT,bT,bT,bT,bT,bT,bT,bT,bT,bT,bT,bT,bT,bT,bT,bT,bT] rfl rfl (any_of HT_.out (by kernel_rfl)) (fun _ _ _ h => h) (Or.inl ⟨by rfl,?_⟩) ?_ ?_
           rotate_left
           ·intro w';go_simp;with_reducible rfl
           rotate_left
           ·simp only [Act.put,q_ia4,q_cz4,q_cs4,i64_w,i32_w];rfl
           refine done_ (done_of HT_.out (by kernel_rfl)) ?_
           try go_wp2
           go_ret
           exact ⟨by first|rfl|(simp [errW_none,errW_some] <;> rfl)|(simp [*,errW_none,errW_some] <;> rfl),by repeat (first|(with_reducible first|exact HB.out|apply lA|apply lN|apply lD|refine lS ?_ GE158.out|refine lS ?_ GE164.out)|exact HB.out)⟩
          ·rw [if_neg c55] at H
           have c55b0 : decide (40 < (((rd_T61 l0_1 x5_2).f2).size : Int)) = false:=decide_eq_false c55
           have c55b1 : decide (40 < ((rd_T61 l0_1 x5_2).f2).size) = false:=decide_eq_false (by omega)
           clear c55
           by_cases c62 : x5_2 > 0
           ·rw [if_pos c62] at H
            have c62b0 : decide (0 < x5_2) = true:=decide_eq_true c62
            clear c62
            obtain ⟨ji63,hji63⟩ : ∃ j_ : Int,(wrap64 (x5_2 - 1)) = j_:=⟨_,rfl⟩
            replace H : (if 0 ≤ (ji63) then (if (ji63) < (l0_1.length : Int) then ((spec_l08Ahead.f ((rd_T61 l0_1 (ji63)).f0) ((rd_T61 l0_1 (ji63)).f1) ((rd_T61 l0_1 (ji63)).f2) ((rd_T61 l0_1 x5_2).f0) ((rd_T61 l0_1 x5_2).f1) ((rd_T61 l0_1 x5_2).f2)).bind fun t167 => (if t167 = true then (spec_StoreOk.l1 k2 (wrap64 (x5_2 + 1)) l0_0 l0_1 a0_2) else (some false))) else (none)) else (none)) = some r:=by first|(rw [hji63] at H;exact H)|(simp only [hji63] at H ⊢;exact H)
            (try rw [hji63] at A46)
            have hji63w : (IntKind.i64.wrap (x5_2 - 1)) = ji63:=(i64_w _).trans hji63
            by_cases c64 : 0 ≤ (ji63)
            ·rw [if_pos c64] at H
             have c64b0 : decide (0 ≤ (ji63)) = true:=decide_eq_true c64
             clear c64
             by_cases c65 : (ji63) < (l0_1.length : Int)
             ·rw [if_pos c65] at H
              have c65b0 : decide ((ji63) < (l0_1.length : Int)) = true:=decide_eq_true c65
              clear c65
              replace H:=Option.bind_eq_some_iff.mp H
              obtain ⟨t167,A660,H⟩:=H
              replace H : (if t167 = true then (spec_StoreOk.l1 k2 (wrap64 (x5_2 + 1)) l0_0 l0_1 a0_2) else (some false)) = some r:=H
              have A66:=aM A660
              clear A660
              by_cases c67 : t167 = true
              ·subst c67
               have H1 : (spec_StoreOk.l1 k2 (wrap64 (x5_2 + 1)) l0_0 l0_1 a0_2) = some r:=by rw [if_pos rfl] at H;exact H
               clear H
               have H:=H1
               clear H1
               have H':=aM H
               clear H
               have hcz68_0 : wr.cell? ⟨gb158,0,none⟩ = some (.slice A0_0 l0_0.length c0_0):=(bC BK158.out 0).trans rfl
               have hcz68_1 : wr.cell? ⟨gb158,1,none⟩ = some (.slice A0_1 l0_1.length c0_1):=(bC BK158.out 1).trans rfl
               have hcz68_2 : wr.cell? ⟨gb158,2,none⟩ = some (.string a0_2):=(bC BK158.out 2).trans rfl
               have hfz68_0:=bF BK158.out 0
               have hfz68_1:=bF BK158.out 1
               have hfz68_2:=bF BK158.out 2
               have p163 : 0 ≤ (x5_2 : Int):=of_decide_eq_true (by first|(with_reducible assumption)|assumption)
               have q163 : x5_2 < (l0_1.length : Int):=of_decide_eq_true (by first|(with_reducible assumption)|assumption)
               obtain ⟨ad163,e163,hx163_0,hx163_1,hx163_2⟩:=at_T61 HR0_1.out x5_2 p163 q163
               cases e163
               replace hx163_0:=(HB.out.cell (World.block_lt_of_cell? w _ hx163_0)).trans hx163_0
               replace hx163_1:=(HB.out.cell (World.block_lt_of_cell? w _ hx163_1)).trans hx163_1
               replace hx163_2:=(HB.out.cell (World.block_lt_of_cell? w _ hx163_2)).trans hx163_2
               replace p163:=eq_true p163
               replace q163:=eq_true q163
               try go_wp2_with (first|((with_reducible refine gate_dst (N:=6) rfl ?_);(try (refine gate_guard (by rfl) ?_;dsimp only));refine box_event ?hg (N:=6) ?hd (cs:=#[.string (⟨#[]⟩ : ByteArray),.string (⟨#[]⟩ : ByteArray),.string (⟨#[]⟩ : ByteArray)]) (t:=61) ?hr ?_;(case hd => rfl);(case hg => rfl);(case hr => first|(go_simp;done)|(go_simp;rfl));intro gb164 hg w69 hbox hb;have n0_:=aM (bB (g:=gb158) (o:=.cells #[.slice A0_0 l0_0.length c0_0,.slice (some ad163) l0_1.length c0_1,.string a0_2] 54 (0,0)) (by (with_reducible repeat (first|refine bN ?_ _|refine bD ?_|refine bA ?_ _));exact BK158.out) hb);have n1_:=aM (lP (by repeat (first|(with_reducible first|exact HB.out|apply lA|apply lN|apply lD|refine lS ?_ GE158.out)|exact HB.out)) hb);have n2_:=aM (hbox);have n3_:=aM ((by rw [hg];exact (lZ (by repeat (first|(with_reducible first|exact HB.out|apply lA|apply lN|apply lD|refine lS ?_ GE158.out)|exact HB.out))) : w.heap.size ≤ gb164));have n4_:=aM ((by rw [hg];exact (lZ (by repeat (first|(with_reducible first|exact HB.out|apply lA|apply lN|apply lD|refine lS ?_ GE158.out)|exact HB.out))) : w.heap.size ≤ gb164));have n5_:=aM ((by rw [hg];exact Nat.ne_of_lt (bL (g:=gb158) (o:=.cells #[.slice A0_0 l0_0.length c0_0,.slice (some ad163) l0_1.length c0_1,.string a0_2] 54 (0,0)) (by (with_reducible repeat (first|refine bN ?_ _|refine bD ?_|refine bA ?_ _));exact BK158.out)) : gb158 ≠ gb164));have n6_:=aM ((by rw [hg];exact Nat.ne_of_gt (bL (g:=gb158) (o:=.cells #[.slice A0_0 l0_0.length c0_0,.slice (some ad163) l0_1.length c0_1,.string a0_2] 54 (0,0)) (by (with_reducible repeat (first|refine bN ?_ _|refine bD ?_|refine bA ?_ _));exact BK158.out)) : gb164 ≠ gb158));clear BK158 HB;have BK158:=n0_;have HB:=n1_;have BK164:=n2_;have GW164:=n3_;have GE164:=n4_;have NB158_164:=n5_;have NB164_158:=n6_;clear n0_ n1_ n2_ n3_ n4_ n5_ n6_ hb hbox hg;have hnb70:=NB164_158.out;have hnc70:=NB158_164.out;have hcz71_0 : w69.cell? ⟨gb164,0,none⟩ = some (.string (⟨#[]⟩ : ByteArray)):=(bC BK164.out 0).trans rfl;have hcz71_1 : w69.cell? ⟨gb164,1,none⟩ = some (.string (⟨#[]⟩ : ByteArray)):=(bC BK164.out 1).trans rfl;have hcz71_2 : w69.cell? ⟨gb164,2,none⟩ = some (.string (⟨#[]⟩ : ByteArray)):=(bC BK164.out 2).trans rfl;have hfz71_0:=bF BK164.out 0;have hfz71_1:=bF BK164.out 1;have hfz71_2:=bF BK164.out 2))
               have n0_ : Aside0 ((((w69.setCell ⟨gb164,0,none⟩ (.string ((rd_T61 l0_1 x5_2).f0))).setCell ⟨gb164,1,none⟩ (.string ((rd_T61 l0_1 x5_2).f1))).setCell ⟨gb164,2,none⟩ (.string ((rd_T61 l0_1 x5_2).f2))).heap[gb158]? = some (.cells #[.slice A0_0 l0_0.length c0_0,.slice (some ad163) l0_1.length c0_1,.string a0_2] 54 (0,0))):=⟨by (with_reducible repeat (first|refine bN ?_ _|refine bD ?_|refine bA ?_ _));refine blk_far ?_ NB158_164.out _;(with_reducible repeat (first|refine bN ?_ _|refine bD ?_|refine bA ?_ _));refine blk_far ?_ NB158_164.out _;(with_reducible repeat (first|refine bN ?_ _|refine bD ?_|refine bA ?_ _));refine blk_far ?_ NB158_164.out _;(with_reducible repeat (first|refine bN ?_ _|refine bD ?_|refine bA ?_ _));exact BK158.out⟩
               have n1_ : Aside0 ((((w69.setCell ⟨gb164,0,none⟩ (.string ((rd_T61 l0_1 x5_2).f0))).setCell ⟨gb164,1,none⟩ (.string ((rd_T61 l0_1 x5_2).f1))).setCell ⟨gb164,2,none⟩ (.string ((rd_T61 l0_1 x5_2).f2))).heap[gb164]? = some (.cells #[.string ((rd_T61 l0_1 x5_2).f0),.string ((rd_T61 l0_1 x5_2).f1),.string ((rd_T61 l0_1 x5_2).f2)] 61 (0,0))):=⟨by (with_reducible repeat (first|refine bN ?_ _|refine bD ?_|refine bA ?_ _));refine blk_put (cs:=#[.string ((rd_T61 l0_1 x5_2).f0),.string ((rd_T61 l0_1 x5_2).f1),.string (⟨#[]⟩ : ByteArray)]) ?_ 2 _ rfl;(with_reducible repeat (first|refine bN ?_ _|refine bD ?_|refine bA ?_ _));refine blk_put (cs:=#[.string ((rd_T61 l0_1 x5_2).f0),.string (⟨#[]⟩ : ByteArray),.string (⟨#[]⟩ : ByteArray)]) ?_ 1 _ rfl;(with_reducible repeat (first|refine bN ?_ _|refine bD ?_|refine bA ?_ _));refine blk_put (cs:=#[.string (⟨#[]⟩ : ByteArray),.string (⟨#[]⟩ : ByteArray),.string (⟨#[]⟩ : ByteArray)]) ?_ 0 _ rfl;(with_reducible repeat (first|refine bN ?_ _|refine bD ?_|refine bA ?_ _));exact BK164.out⟩
               have n2_ : Aside0 (Below w.heap.size w (((w69.setCell ⟨gb164,0,none⟩ (.string ((rd_T61 l0_1 x5_2).f0))).setCell ⟨gb164,1,none⟩ (.string ((rd_T61 l0_1 x5_2).f1))).setCell ⟨gb164,2,none⟩ (.string ((rd_T61 l0_1 x5_2).f2)))):=⟨by repeat (first|(with_reducible first|exact HB.out|apply lA|apply lN|apply lD|refine lS ?_ GE158.out|refine lS ?_ GE164.out)|exact HB.out)⟩
               (try clear BK158)
               (try clear BK164)
               (try clear HB)
               generalize (((w69.setCell ⟨gb164,0,none⟩ (.string ((rd_T61 l0_1 x5_2).f0))).setCell ⟨gb164,1,none⟩ (.string ((rd_T61 l0_1 x5_2).f1))).setCell ⟨gb164,2,none⟩ (.string ((rd_T61 l0_1 x5_2).f2))) = w72 at n0_ n1_ n2_ ⊢
               have BK158:=n0_
               have BK164:=n1_
               have HB:=n2_
               clear n0_ n1_ n2_
               have n0_:=aM (bD BK158.out)
               have n1_:=aM (bD BK164.out)
               have n2_:=aM (lD HB.out)
               clear BK158
               clear BK164
               clear HB
               have BK158:=n0_
               have BK164:=n1_
               have HB:=n2_
               clear n0_ n1_ n2_
               have p166 : 0 ≤ ((ji63) : Int):=of_decide_eq_true (by first|(with_reducible assumption)|assumption)
               have q166 : (ji63) < (l0_1.length : Int):=of_decide_eq_true (by first|(with_reducible assumption)|assumption)
               obtain ⟨ad166,e166,hx166_0,hx166_1,hx166_2⟩:=at_T61 HR0_1.out (ji63) p166 q166
               have hw166_2:=hx166_2
               have hw166_1:=hx166_1
               have hw166_0:=hx166_0
               obtain rfl : ad163 = ad166:=(by injection e166)
               replace hx166_0:=(HB.out.cell (World.block_lt_of_cell? w _ hx166_0)).trans hx166_0
               replace hx166_1:=(HB.out.cell (World.block_lt_of_cell? w _ hx166_1)).trans hx166_1
               replace hx166_2:=(HB.out.cell (World.block_lt_of_cell? w _ hx166_2)).trans hx166_2
               replace p166:=eq_true p166
               replace q166:=eq_true q166
               refine start_ (n:=31) (S:=fun w' => w'.cell? ⟨gb164,0,none⟩ = some (.string ((rd_T61 l0_1 x5_2).f0)) ∧ w'.cell? ⟨gb164,1,none⟩ = some (.string ((rd_T61 l0_1 x5_2).f1)) ∧ w'.cell? ⟨gb164,2,none⟩ = some (.string ((rd_T61 l0_1 x5_2).f2)) ∧ w'.cell? ⟨gb158,0,none⟩ = some (.slice A0_0 l0_0.length c0_0) ∧ w'.cell? ⟨gb158,1,none⟩ = some (.slice (some ad163) l0_1.length c0_1) ∧ w'.cell? ⟨gb158,2,none⟩ = some (.string a0_2) ∧ w'.cell? (ad163.add (((ji63)).toNat * 3)) = some (.string ((rd_T61 l0_1 (ji63)).f0)) ∧ w'.cell? ⟨(ad163.add (((ji63)).toNat * 3)).block,(ad163.add (((ji63)).toNat * 3)).off + 1,none⟩ = some (.string ((rd_T61 l0_1 (ji63)).f1)) ∧ w'.cell? ⟨(ad163.add (((ji63)).toNat * 3)).block,(ad163.add (((ji63)).toNat * 3)).off + 2,none⟩ = some (.string ((rd_T61 l0_1 (ji63)).f2))) (ds:=[]) #[bf,bf,bf,bf,bf,bf,bf,bf,bf,bf,bf,bf,bf,bf,bf,bf,bf,bf,bf,bf,bf,bf,bf,bf,bf,bf,bf,bf,bf,bf,bf] (by kernel_rfl) rfl rfl ⟨(bC BK164.out 0).trans rfl,(bC BK164.out 1).trans rfl,(bC BK164.out 2).trans rfl,(bC BK158.out 0).trans rfl,(bC BK158.out 1).trans rfl,(bC BK158.out 2).trans rfl,((HB.out.cell (World.block_lt_of_cell? w _ hw166_0)).trans hw166_0),((HB.out.cell (World.block_lt_of_cell? w _ hw166_1)).trans hw166_1),((HB.out.cell (World.block_lt_of_cell? w _ hw166_2)).trans hw166_2)⟩ (fun hHeld => ?_);refine with_tabW spec_StoreOk.tab11 spec_StoreOk.bits11 (fun HT_ HW_ => ?_)
               generalize w72.drew = w73 at BK158 BK164 HB hx166_0 hx166_1 hx166_2 hHeld ⊢
               refine pure_ (i:=0) (N:=some 57) (v:=?_) (a':=?_) #[bT,bf,bf,bf,bf,bf,bf,bf,bf,bf,bf,bf,bf,bf,bf,bf,bf,bf,bf,bf,bf,bf,bf,bf,bf,bf,bf,bf,bf,bf,bf] rfl rfl (any_of HT_.out (by kernel_rfl)) (fun _ _ _ h => h) (Or.inl ⟨by rfl,?_⟩) ?_ ?_
               rotate_left
               ·intro w';go_simp;with_reducible rfl
               rotate_left
               ·simp only [Act.put,q_ia4,q_cz4,q_cs4,i64_w,i32_w];rfl
               refine take_ (i:=1) (N:=some 58) (v:=?_) (a':=?_) #[bT,bT,bf,bf,bf,bf,bf,bf,bf,bf,bf,bf,bf,bf,bf,bf,bf,bf,bf,bf,bf,bf,bf,bf,bf,bf,bf,bf,bf,bf,bf] rfl rfl (take_ofW HT_.out HW_.out (by kernel_rfl)) (fun _ _ _ h => h) (Or.inl ⟨by rfl,?_⟩) hHeld ?_ ?_
               rotate_left
               ·rintro w' ⟨s0,s1,s2,s3,s4,s5,s6,s7,s8⟩
                go_simp
                with_reducible rfl
               rotate_left
               ·simp only [Act.put,q_ia4,q_cz4,q_cs4,i64_w,i32_w];rfl
               refine one_ (i:=2) (N:=some 59) #[bT,bT,bT,bf,bf,bf,bf,bf,bf,bf,bf,bf,bf,bf,bf,bf,bf,bf,bf,bf,bf,bf,bf,bf,bf,bf,bf,bf,bf,bf,bf] rfl rfl (one_of HT_.out (by kernel_rfl)) (by decide) (fun K hK => ?_)
               refine goes_ Try.func105 (by kernel_rfl) rfl #[.string ((rd_T61 l0_1 x5_2).f0)] (by rfl) rfl rfl (by (try simp only [List.map_toArray,List.map_cons,List.map_nil]);first|done|rfl|(simp only [List.length_drop,List.length_take];rfl)) ?_
               with_reducible refine (spec_l07Name.calls k2 ((rd_T61 l0_1 x5_2).f0) true _ A46.out).mono ?_
               rintro e w' ⟨rfl,⟨nd,rfl⟩⟩
               refine ⟨_,rfl,?_⟩
               refine hK.out _ _ ⟨(bC BK164.out 0).trans rfl,(bC BK164.out 1).trans rfl,(bC BK164.out 2).trans rfl,(bC BK158.out 0).trans rfl,(bC BK158.out 1).trans rfl,(bC BK158.out 2).trans rfl,((HB.out.cell (World.block_lt_of_cell? w _ hw166_0)).trans hw166_0),((HB.out.cell (World.block_lt_of_cell? w _ hw166_1)).trans hw166_1),((HB.out.cell (World.block_lt_of_cell? w _ hw166_2)).trans hw166_2)⟩ (fun hHeld => ?_)
               clear hK K
               refine norm_ (a':=?_) ?_ ?_
               rotate_left
               ·show Act.put _ (some 59) _ = _
                simp only [Act.put,q_ia4,q_cz4,q_cs4,i64_w,i32_w]
                rfl
               refine pure_ (i:=3) (N:=some 60) (v:=?_) (a':=?_) #[bT,bT,bT,bT,bf,bf,bf,bf,bf,bf,bf,bf,bf,bf,bf,bf,bf,bf,bf,bf,bf,bf,bf,bf,bf,bf,bf,bf,bf,bf,bf] rfl rfl (any_of HT_.out (by kernel_rfl)) (fun _ _ _ h => h) (Or.inl ⟨by rfl,?_⟩) ?_ ?_
               rotate_left
               ·intro w';go_simp;with_reducible rfl
               rotate_left
               ·simp only [Act.put,q_ia4,q_cz4,q_cs4,i64_w,i32_w];rfl
               refine pure_ (i:=4) (N:=some 61) (v:=?_) (a':=?_) #[bT,bT,bT,bT,bT,bf,bf,bf,bf,bf,bf,bf,bf,bf,bf,bf,bf,bf,bf,bf,bf,bf,bf,bf,bf,bf,bf,bf,bf,bf,bf] rfl rfl (any_of HT_.out (by kernel_rfl)) (fun _ _ _ h => h) (Or.inl ⟨by rfl,?_⟩) ?_ ?_
               rotate_left
               ·intro w';go_simp;with_reducible rfl
               rotate_left
               ·simp only [Act.put,q_ia4,q_cz4,q_cs4,i64_w,i32_w];rfl
               refine pure_ (i:=5) (N:=some 62) (v:=?_) (a':=?_) #[bT,bT,bT,bT,bT,bT,bf,bf,bf,bf,bf,bf,bf,bf,bf,bf,bf,bf,bf,bf,bf,bf,bf,bf,bf,bf,bf,bf,bf,bf,bf] rfl rfl (any_of HT_.out (by kernel_rfl)) (fun _ _ _ h => h) (Or.inl ⟨by rfl,?_⟩) ?_ ?_
               rotate_left
               ·intro w';go_simp;with_reducible rfl
               rotate_left
               ·simp only [Act.put,q_ia4,q_cz4,q_cs4,i64_w,i32_w];rfl
               refine take_ (i:=6) (N:=some 63) (v:=?_) (a':=?_) #[bT,bT,bT,bT,bT,bT,bT,bf,bf,bf,bf,bf,bf,bf,bf,bf,bf,bf,bf,bf,bf,bf,bf,bf,bf,bf,bf,bf,bf,bf,bf] rfl rfl (take_ofW HT_.out HW_.out (by kernel_rfl)) (fun _ _ _ h => h) (Or.inl ⟨by rfl,?_⟩) hHeld ?_ ?_
               rotate_left
               ·rintro w' ⟨s0,s1,s2,s3,s4,s5,s6,s7,s8⟩
                go_simp
                with_reducible rfl
               rotate_left
               ·simp only [Act.put,q_ia4,q_cz4,q_cs4,i64_w,i32_w];rfl
               refine pure_ (i:=7) (N:=some 64) (v:=?_) (a':=?_) #[bT,bT,bT,bT,bT,bT,bT,bT,bf,bf,bf,bf,bf,bf,bf,bf,bf,bf,bf,bf,bf,bf,bf,bf,bf,bf,bf,bf,bf,bf,bf] rfl rfl (any_of HT_.out (by kernel_rfl)) (fun _ _ _ h => h) (Or.inl ⟨by rfl,?_⟩) ?_ ?_
               rotate_left
               ·intro w';go_simp;with_reducible rfl
               rotate_left
               ·simp only [Act.put,q_ia4,q_cz4,q_cs4,i64_w,i32_w];rfl
               refine pure_ (i:=8) (N:=some 65) (v:=?_) (a':=?_) #[bT,bT,bT,bT,bT,bT,bT,bT,bT,bf,bf,bf,bf,bf,bf,bf,bf,bf,bf,bf,bf,bf,bf,bf,bf,bf,bf,bf,bf,bf,bf] rfl rfl (any_of HT_.out (by kernel_rfl)) (fun _ _ _ h => h) (Or.inl ⟨by rfl,?_⟩) ?_ ?_
               rotate_left
               ·intro w';go_simp;with_reducible rfl
               rotate_left
               ·simp only [Act.put,q_ia4,q_cz4,q_cs4,i64_w,i32_w];rfl
               refine pure_ (i:=9) (N:=some 66) (v:=?_) (a':=?_) #[bT,bT,bT,bT,bT,bT,bT,bT,bT,bT,bf,bf,bf,bf,bf,bf,bf,bf,bf,bf,bf,bf,bf,bf,bf,bf,bf,bf,bf,bf,bf] rfl rfl (any_of HT_.out (by kernel_rfl)) (fun _ _ _ h => h) (Or.inl ⟨by rfl,?_⟩) ?_ ?_
               rotate_left
               ·intro w';go_simp;with_reducible rfl
               rotate_left
               ·simp only [Act.put,q_ia4,q_cz4,q_cs4,i64_w,i32_w];rfl
               refine pure_ (i:=10) (N:=some 67) (v:=?_) (a':=?_) #[bT,bT,bT,bT,bT,bT,bT,bT,bT,bT,bT,bf,bf,bf,bf,bf,bf,bf,bf,bf,bf,bf,bf,bf,bf,bf,bf,bf,bf,bf,bf] rfl rfl (any_of HT_.out (by kernel_rfl)) (fun _ _ _ h => h) (Or.inl ⟨by rfl,?_⟩) ?_ ?_
               rotate_left
               ·intro w';go_simp;with_reducible rfl
               rotate_left
               ·simp only [Act.put,q_ia4,q_cz4,q_cs4,i64_w,i32_w];rfl
               refine pure_ (i:=11) (N:=some 68) (v:=?_) (a':=?_) #[bT,bT,bT,bT,bT,bT,bT,bT,bT,bT,bT,bT,bf,bf,bf,bf,bf,bf,bf,bf,bf,bf,bf,bf,bf,bf,bf,bf,bf,bf,bf] rfl rfl (any_of HT_.out (by kernel_rfl)) (fun _ _ _ h => h) (Or.inl ⟨by rfl,?_⟩) ?_ ?_
               rotate_left
               ·intro w';go_simp;with_reducible rfl
               rotate_left
               ·simp only [Act.put,q_ia4,q_cz4,q_cs4,i64_w,i32_w];rfl
               refine take_ (i:=12) (N:=some 69) (v:=?_) (a':=?_) #[bT,bT,bT,bT,bT,bT,bT,bT,bT,bT,bT,bT,bT,bf,bf,bf,bf,bf,bf,bf,bf,bf,bf,bf,bf,bf,bf,bf,bf,bf,bf] rfl rfl (take_ofW HT_.out HW_.out (by kernel_rfl)) (fun _ _ _ h => h) (Or.inl ⟨by rfl,?_⟩) hHeld ?_ ?_
               rotate_left
               ·rintro w' ⟨s0,s1,s2,s3,s4,s5,s6,s7,s8⟩
                go_simp
                with_reducible rfl
               rotate_left
               ·simp only [Act.put,q_ia4,q_cz4,q_cs4,i64_w,i32_w];rfl
               refine pure_ (i:=13) (N:=some 70) (v:=?_) (a':=?_) #[bT,bT,bT,bT,bT,bT,bT,bT,bT,bT,bT,bT,bT,bT,bf,bf,bf,bf,bf,bf,bf,bf,bf,bf,bf,bf,bf,bf,bf,bf,bf] rfl rfl (any_of HT_.out (by kernel_rfl)) (fun _ _ _ h => h) (Or.inl ⟨by rfl,?_⟩) ?_ ?_
               rotate_left
               ·intro w';go_simp;with_reducible rfl
               rotate_left
               ·simp only [Act.put,q_ia4,q_cz4,q_cs4,i64_w,i32_w];rfl
               refine pure_ (i:=14) (N:=some 71) (v:=?_) (a':=?_) #[bT,bT,bT,bT,bT,bT,bT,bT,bT,bT,bT,bT,bT,bT,bT,bf,bf,bf,bf,bf,bf,bf,bf,bf,bf,bf,bf,bf,bf,bf,bf] rfl rfl (any_of HT_.out (by kernel_rfl)) (fun _ _ _ h => h) (Or.inl ⟨by rfl,?_⟩) ?_ ?_
               rotate_left
               ·intro w';go_simp;with_reducible rfl
               rotate_left
               ·simp only [Act.put,q_ia4,q_cz4,q_cs4,i64_w,i32_w];rfl
               refine pure_ (i:=15) (N:=some 72) (v:=?_) (a':=?_) #[bT,bT,bT,bT,bT,bT,bT,bT,bT,bT,bT,bT,bT,bT,bT,bT,bf,bf,bf,bf,bf,bf,bf,bf,bf,bf,bf,bf,bf,bf,bf] rfl rfl (any_of HT_.out (by kernel_rfl)) (fun _ _ _ h => h) (Or.inl ⟨by rfl,?_⟩) ?_ ?_
               rotate_left
               ·intro w';go_simp;with_reducible rfl
               rotate_left
               ·simp only [Act.put,q_ia4,q_cz4,q_cs4,i64_w,i32_w];rfl
               refine pure_ (i:=16) (N:=some 73) (v:=?_) (a':=?_) #[bT,bT,bT,bT,bT,bT,bT,bT,bT,bT,bT,bT,bT,bT,bT,bT,bT,bf,bf,bf,bf,bf,bf,bf,bf,bf,bf,bf,bf,bf,bf] rfl rfl (any_of HT_.out (by kernel_rfl)) (fun _ _ _ h => h) (Or.inl ⟨by rfl,?_⟩) ?_ ?_
               rotate_left
               ·intro w';go_simp;with_reducible rfl
               rotate_left
               ·simp only [Act.put,q_ia4,q_cz4,q_cs4,i64_w,i32_w];rfl
               refine pure_ (i:=17) (N:=some 74) (v:=?_) (a':=?_) #[bT,bT,bT,bT,bT,bT,bT,bT,bT,bT,bT,bT,bT,bT,bT,bT,bT,bT,bf,bf,bf,bf,bf,bf,bf,bf,bf,bf,bf,bf,bf] rfl rfl (any_of HT_.out (by kernel_rfl)) (fun _ _ _ h => h) (Or.inl ⟨by rfl,?_⟩) ?_ ?_
               rotate_left
               ·intro w';go_simp;with_reducible rfl
               rotate_left
               ·simp only [Act.put,q_ia4,q_cz4,q_cs4,i64_w,i32_w];rfl
               refine pure_ (i:=18) (N:=some 75) (v:=?_) (a':=?_) #[bT,bT,bT,bT,bT,bT,bT,bT,bT,bT,bT,bT,bT,bT,bT,bT,bT,bT,bT,bf,bf,bf,bf,bf,bf,bf,bf,bf,bf,bf,bf] rfl rfl (any_of HT_.out (by kernel_rfl)) (fun _ _ _ h => h) (Or.inl ⟨by rfl,?_⟩) ?_ ?_
               rotate_left
               ·intro w';go_simp;with_reducible rfl
               rotate_left
               ·simp only [Act.put,q_ia4,q_cz4,q_cs4,i64_w,i32_w];rfl
               refine pure_ (i:=19) (N:=some 76) (v:=?_) (a':=?_) #[bT,bT,bT,bT,bT,bT,bT,bT,bT,bT,bT,bT,bT,bT,bT,bT,bT,bT,bT,bT,bf,bf,bf,bf,bf,bf,bf,bf,bf,bf,bf] rfl rfl (any_of HT_.out (by kernel_rfl)) (fun _ _ _ h => h) (Or.inl ⟨by rfl,?_⟩) ?_ ?_
               rotate_left
               ·intro w';go_simp;with_reducible rfl
               rotate_left
               ·simp only [Act.put,q_ia4,q_cz4,q_cs4,i64_w,i32_w];rfl
               refine pure_ (i:=20) (N:=some 77) (v:=?_) (a':=?_) #[bT,bT,bT,bT,bT,bT,bT,bT,bT,bT,bT,bT,bT,bT,bT,bT,bT,bT,bT,bT,bT,bf,bf,bf,bf,bf,bf,bf,bf,bf,bf] rfl rfl (any_of HT_.out (by kernel_rfl)) (fun _ _ _ h => h) (Or.inl ⟨by rfl,?_⟩) ?_ ?_
               rotate_left
               ·intro w';go_simp;with_reducible rfl
               rotate_left
               ·simp only [Act.put,q_ia4,q_cz4,q_cs4,i64_w,i32_w];rfl
               refine pure_ (i:=22) (N:=some 79) (v:=?_) (a':=?_) #[bT,bT,bT,bT,bT,bT,bT,bT,bT,bT,bT,bT,bT,bT,bT,bT,bT,bT,bT,bT,bT,bf,bT,bf,bf,bf,bf,bf,bf,bf,bf] rfl rfl (any_of HT_.out (by kernel_rfl)) (fun _ _ _ h => h) (Or.inl ⟨by rfl,?_⟩) ?_ ?_
               rotate_left
               ·intro w';go_simp;with_reducible rfl
               rotate_left
               ·simp only [Act.put,q_ia4,q_cz4,q_cs4,i64_w,i32_w];rfl
               refine pure_ (i:=23) (N:=some 80) (v:=?_) (a':=?_) #[bT,bT,bT,bT,bT,bT,bT,bT,bT,bT,bT,bT,bT,bT,bT,bT,bT,bT,bT,bT,bT,bf,bT,bT,bf,bf,bf,bf,bf,bf,bf] rfl rfl (any_of HT_.out (by kernel_rfl)) (fun _ _ _ h => h) (Or.inl ⟨by rfl,?_⟩) ?_ ?_
               rotate_left
               ·intro w';go_simp;with_reducible rfl
               rotate_left
               ·simp only [Act.put,q_ia4,q_cz4,q_cs4,i64_w,i32_w];rfl
               refine take_ (i:=21) (N:=some 78) (v:=?_) (a':=?_) #[bT,bT,bT,bT,bT,bT,bT,bT,bT,bT,bT,bT,bT,bT,bT,bT,bT,bT,bT,bT,bT,bT,bT,bT,bf,bf,bf,bf,bf,bf,bf] rfl rfl (take_ofW HT_.out HW_.out (by kernel_rfl)) (fun _ _ _ h => h) (Or.inl ⟨by rfl,?_⟩) hHeld ?_ ?_
               rotate_left
               ·rintro w' ⟨s0,s1,s2,s3,s4,s5,s6,s7,s8⟩
                go_simp
                with_reducible rfl
               rotate_left
               ·simp only [Act.put,q_ia4,q_cz4,q_cs4,i64_w,i32_w];rfl
               refine pure_ (i:=24) (N:=some 81) (v:=?_) (a':=?_) #[bT,bT,bT,bT,bT,bT,bT,bT,bT,bT,bT,bT,bT,bT,bT,bT,bT,bT,bT,bT,bT,bT,bT,bT,bT,bf,bf,bf,bf,bf,bf] rfl rfl (any_of HT_.out (by kernel_rfl)) (fun _ _ _ h => h) (Or.inl ⟨by rfl,?_⟩) ?_ ?_
               rotate_left
               ·intro w';go_simp;with_reducible rfl
               rotate_left
               ·simp only [Act.put,q_ia4,q_cz4,q_cs4,i64_w,i32_w];rfl
               refine take_ (i:=25) (N:=some 82) (v:=?_) (a':=?_) #[bT,bT,bT,bT,bT,bT,bT,bT,bT,bT,bT,bT,bT,bT,bT,bT,bT,bT,bT,bT,bT,bT,bT,bT,bT,bT,bf,bf,bf,bf,bf] rfl rfl (take_ofW HT_.out HW_.out (by kernel_rfl)) (fun _ _ _ h => h) (Or.inl ⟨by rfl,?_⟩) hHeld ?_ ?_
               rotate_left
               ·rintro w' ⟨s0,s1,s2,s3,s4,s5,s6,s7,s8⟩
                go_simp
                with_reducible rfl
               rotate_left
               ·simp only [Act.put,q_ia4,q_cz4,q_cs4,i64_w,i32_w];rfl
               refine take_ (i:=26) (N:=some 83) (v:=?_) (a':=?_) #[bT,bT,bT,bT,bT,bT,bT,bT,bT,bT,bT,bT,bT,bT,bT,bT,bT,bT,bT,bT,bT,bT,bT,bT,bT,bT,bT,bf,bf,bf,bf] rfl rfl (take_ofW HT_.out HW_.out (by kernel_rfl)) (fun _ _ _ h => h) (Or.inl ⟨by rfl,?_⟩) hHeld ?_ ?_
               rotate_left
               ·rintro w' ⟨s0,s1,s2,s3,s4,s5,s6,s7,s8⟩
                go_simp
                with_reducible rfl
               rotate_left
               ·simp only [Act.put,q_ia4,q_cz4,q_cs4,i64_w,i32_w];rfl
               refine one_ (i:=27) (N:=some 84) #[bT,bT,bT,bT,bT,bT,bT,bT,bT,bT,bT,bT,bT,bT,bT,bT,bT,bT,bT,bT,bT,bT,bT,bT,bT,bT,bT,bT,bf,bf,bf] rfl rfl (one_of HT_.out (by kernel_rfl)) (by decide) (fun K hK => ?_)
               refine goes_ Try.func106 (by kernel_rfl) rfl #[.agg #[.string ((rd_T61 l0_1 (ji63)).f0),.string ((rd_T61 l0_1 (ji63)).f1),.string ((rd_T61 l0_1 (ji63)).f2)],.agg #[.string ((rd_T61 l0_1 x5_2).f0),.string ((rd_T61 l0_1 x5_2).f1),.string ((rd_T61 l0_1 x5_2).f2)]] (by rfl) rfl rfl (by (try simp only [List.map_toArray,List.map_cons,List.map_nil]);first|done|(simp only [hji63];rfl)|rfl|(simp only [List.length_drop,List.length_take];rfl)) ?_
               with_reducible refine (spec_l08Ahead.calls ((rd_T61 l0_1 (ji63)).f0) ((rd_T61 l0_1 (ji63)).f1) ((rd_T61 l0_1 (ji63)).f2) ((rd_T61 l0_1 x5_2).f0) ((rd_T61 l0_1 x5_2).f1) ((rd_T61 l0_1 x5_2).f2) true _ A66.out).mono ?_
               rintro e w74 ⟨rfl,hb⟩
               refine ⟨_,rfl,?_⟩
               have n0_:=aM (bB (g:=gb158) (o:=.cells #[.slice A0_0 l0_0.length c0_0,.slice (some ad163) l0_1.length c0_1,.string a0_2] 54 (0,0)) (by (with_reducible repeat (first|refine bN ?_ _|refine bD ?_|refine bA ?_ _));exact BK158.out) hb)
               have n1_:=aM (bB (g:=gb164) (o:=.cells #[.string ((rd_T61 l0_1 x5_2).f0),.string ((rd_T61 l0_1 x5_2).f1),.string ((rd_T61 l0_1 x5_2).f2)] 61 (0,0)) (by (with_reducible repeat (first|refine bN ?_ _|refine bD ?_|refine bA ?_ _));exact BK164.out) hb)
               have n2_:=aM (lP (by repeat (first|(with_reducible first|exact HB.out|apply lA|apply lN|apply lD|refine lS ?_ GE158.out|refine lS ?_ GE164.out)|exact HB.out)) hb)
               clear BK158
               clear BK164
               clear HB
               have BK158:=n0_
               have BK164:=n1_
               have HB:=n2_
               clear n0_ n1_ n2_
               (try clear hb)
               (try clear hb2)
               (try clear hk)
               (try clear hi)
               refine hK.out _ _ ⟨(bC BK164.out 0).trans rfl,(bC BK164.out 1).trans rfl,(bC BK164.out 2).trans rfl,(bC BK158.out 0).trans rfl,(bC BK158.out 1).trans rfl,(bC BK158.out 2).trans rfl,((HB.out.cell (World.block_lt_of_cell? w _ hw166_0)).trans hw166_0),((HB.out.cell (World.block_lt_of_cell? w _ hw166_1)).trans hw166_1),((HB.out.cell (World.block_lt_of_cell? w _ hw166_2)).trans hw166_2)⟩ (fun hHeld => ?_)
               clear hK K
               refine norm_ (a':=?_) ?_ ?_
               rotate_left
               ·show Act.put _ (some 84) _ = _
                simp only [Act.put,q_ia4,q_cz4,q_cs4,i64_w,i32_w]
                rfl
               refine pure_ (i:=28) (N:=some 85) (v:=?_) (a':=?_) #[bT,bT,bT,bT,bT,bT,bT,bT,bT,bT,bT,bT,bT,bT,bT,bT,bT,bT,bT,bT,bT,bT,bT,bT,bT,bT,bT,bT,bT,bf,bf] rfl rfl (any_of HT_.out (by kernel_rfl)) (fun _ _ _ h => h) (Or.inl ⟨by rfl,?_⟩) ?_ ?_
               rotate_left
               ·intro w';go_simp;with_reducible rfl
               rotate_left
               ·simp only [Act.put,q_ia4,q_cz4,q_cs4,i64_w,i32_w];rfl
               refine pure_ (i:=29) (N:=some 86) (v:=?_) (a':=?_) #[bT,bT,bT,bT,bT,bT,bT,bT,bT,bT,bT,bT,bT,bT,bT,bT,bT,bT,bT,bT,bT,bT,bT,bT,bT,bT,bT,bT,bT,bT,bf] rfl rfl (any_of HT_.out (by kernel_rfl)) (fun _ _ _ h => h) (Or.inl ⟨by rfl,?_⟩) ?_ ?_
               rotate_left
               ·intro w';go_simp;with_reducible rfl
               rotate_left
               ·simp only [Act.put,q_ia4,q_cz4,q_cs4,i64_w,i32_w];rfl
               refine pure_ (i:=30) (N:=some 87) (v:=?_) (a':=?_) #[bT,bT,bT,bT,bT,bT,bT,bT,bT,bT,bT,bT,bT,bT,bT,bT,bT,bT,bT,bT,bT,bT,bT,bT,bT,bT,bT,bT,bT,bT,bT] rfl rfl (any_of HT_.out (by kernel_rfl)) (fun _ _ _ h => h) (Or.inl ⟨by rfl,?_⟩) ?_ ?_
               rotate_left
               ·intro w';go_simp;with_reducible rfl
               rotate_left
               ·simp only [Act.put,q_ia4,q_cz4,q_cs4,i64_w,i32_w];rfl
               refine done_ (done_of HT_.out (by kernel_rfl)) ?_
               try go_wp2
               go_roundg k2
               case measure => have:=HK1.out;have:=HK2.out;omega
               case rel => exact ⟨(wrap64 (x5_2 + 1)),(by first|rfl|(simp;done)|(simp [*];done)),H',⟨by have:=HK1.out;have:=HK2.out;omega⟩,⟨by (with_reducible repeat (first|refine bN ?_ _|refine bD ?_|refine bA ?_ _));exact BK158.out⟩,⟨by repeat (first|(with_reducible first|exact HB.out|apply lA|apply lN|apply lD|refine lS ?_ GE158.out|refine lS ?_ GE164.out)|exact HB.out)⟩⟩
              ·replace c67:=Bool.eq_false_iff.mpr c67
               subst c67
               have H1 : (some false) = some r:=by rw [if_neg (show ¬ (false = true) by decide)] at H;exact H
               clear H
               have H:=H1
               clear H1
               obtain rfl:=Option.some.inj H
               have hcz75_0 : wr.cell? ⟨gb158,0,none⟩ = some (.slice A0_0 l0_0.length c0_0):=(bC BK158.out 0).trans rfl
               have hcz75_1 : wr.cell? ⟨gb158,1,none⟩ = some (.slice A0_1 l0_1.length c0_1):=(bC BK158.out 1).trans rfl
               have hcz75_2 : wr.cell? ⟨gb158,2,none⟩ = some (.string a0_2):=(bC BK158.out 2).trans rfl
               have hfz75_0:=bF BK158.out 0
               have hfz75_1:=bF BK158.out 1
               have hfz75_2:=bF BK158.out 2
               have p163 : 0 ≤ (x5_2 : Int):=of_decide_eq_true (by first|(with_reducible assumption)|assumption)
               have q163 : x5_2 < (l0_1.length : Int):=of_decide_eq_true (by first|(with_reducible assumption)|assumption)
               obtain ⟨ad163,e163,hx163_0,hx163_1,hx163_2⟩:=at_T61 HR0_1.out x5_2 p163 q163
               cases e163
               replace hx163_0:=(HB.out.cell (World.block_lt_of_cell? w _ hx163_0)).trans hx163_0
               replace hx163_1:=(HB.out.cell (World.block_lt_of_cell? w _ hx163_1)).trans hx163_1
               replace hx163_2:=(HB.out.cell (World.block_lt_of_cell? w _ hx163_2)).trans hx163_2
               replace p163:=eq_true p163
               replace q163:=eq_true q163
               try go_wp2_with (first|((with_reducible refine gate_dst (N:=6) rfl ?_);(try (refine gate_guard (by rfl) ?_;dsimp only));refine box_event ?hg (N:=6) ?hd (cs:=#[.string (⟨#[]⟩ : ByteArray),.string (⟨#[]⟩ : ByteArray),.string (⟨#[]⟩ : ByteArray)]) (t:=61) ?hr ?_;(case hd => rfl);(case hg => rfl);(case hr => first|(go_simp;done)|(go_simp;rfl));intro gb164 hg w76 hbox hb;have n0_:=aM (bB (g:=gb158) (o:=.cells #[.slice A0_0 l0_0.length c0_0,.slice (some ad163) l0_1.length c0_1,.string a0_2] 54 (0,0)) (by (with_reducible repeat (first|refine bN ?_ _|refine bD ?_|refine bA ?_ _));exact BK158.out) hb);have n1_:=aM (lP (by repeat (first|(with_reducible first|exact HB.out|apply lA|apply lN|apply lD|refine lS ?_ GE158.out)|exact HB.out)) hb);have n2_:=aM (hbox);have n3_:=aM ((by rw [hg];exact (lZ (by repeat (first|(with_reducible first|exact HB.out|apply lA|apply lN|apply lD|refine lS ?_ GE158.out)|exact HB.out))) : w.heap.size ≤ gb164));have n4_:=aM ((by rw [hg];exact (lZ (by repeat (first|(with_reducible first|exact HB.out|apply lA|apply lN|apply lD|refine lS ?_ GE158.out)|exact HB.out))) : w.heap.size ≤ gb164));have n5_:=aM ((by rw [hg];exact Nat.ne_of_lt (bL (g:=gb158) (o:=.cells #[.slice A0_0 l0_0.length c0_0,.slice (some ad163) l0_1.length c0_1,.string a0_2] 54 (0,0)) (by (with_reducible repeat (first|refine bN ?_ _|refine bD ?_|refine bA ?_ _));exact BK158.out)) : gb158 ≠ gb164));have n6_:=aM ((by rw [hg];exact Nat.ne_of_gt (bL (g:=gb158) (o:=.cells #[.slice A0_0 l0_0.length c0_0,.slice (some ad163) l0_1.length c0_1,.string a0_2] 54 (0,0)) (by (with_reducible repeat (first|refine bN ?_ _|refine bD ?_|refine bA ?_ _));exact BK158.out)) : gb164 ≠ gb158));clear BK158 HB;have BK158:=n0_;have HB:=n1_;have BK164:=n2_;have GW164:=n3_;have GE164:=n4_;have NB158_164:=n5_;have NB164_158:=n6_;clear n0_ n1_ n2_ n3_ n4_ n5_ n6_ hb hbox hg;have hnb77:=NB164_158.out;have hnc77:=NB158_164.out;have hcz78_0 : w76.cell? ⟨gb164,0,none⟩ = some (.string (⟨#[]⟩ : ByteArray)):=(bC BK164.out 0).trans rfl;have hcz78_1 : w76.cell? ⟨gb164,1,none⟩ = some (.string (⟨#[]⟩ : ByteArray)):=(bC BK164.out 1).trans rfl;have hcz78_2 : w76.cell? ⟨gb164,2,none⟩ = some (.string (⟨#[]⟩ : ByteArray)):=(bC BK164.out 2).trans rfl;have hfz78_0:=bF BK164.out 0;have hfz78_1:=bF BK164.out 1;have hfz78_2:=bF BK164.out 2))
               have n0_ : Aside0 ((((w76.setCell ⟨gb164,0,none⟩ (.string ((rd_T61 l0_1 x5_2).f0))).setCell ⟨gb164,1,none⟩ (.string ((rd_T61 l0_1 x5_2).f1))).setCell ⟨gb164,2,none⟩ (.string ((rd_T61 l0_1 x5_2).f2))).heap[gb158]? = some (.cells #[.slice A0_0 l0_0.length c0_0,.slice (some ad163) l0_1.length c0_1,.string a0_2] 54 (0,0))):=⟨by (with_reducible repeat (first|refine bN ?_ _|refine bD ?_|refine bA ?_ _));refine blk_far ?_ NB158_164.out _;(with_reducible repeat (first|refine bN ?_ _|refine bD ?_|refine bA ?_ _));refine blk_far ?_ NB158_164.out _;(with_reducible repeat (first|refine bN ?_ _|refine bD ?_|refine bA ?_ _));refine blk_far ?_ NB158_164.out _;(with_reducible repeat (first|refine bN ?_ _|refine bD ?_|refine bA ?_ _));exact BK158.out⟩
               have n1_ : Aside0 ((((w76.setCell ⟨gb164,0,none⟩ (.string ((rd_T61 l0_1 x5_2).f0))).setCell ⟨gb164,1,none⟩ (.string ((rd_T61 l0_1 x5_2).f1))).setCell ⟨gb164,2,none⟩ (.string ((rd_T61 l0_1 x5_2).f2))).heap[gb164]? = some (.cells #[.string ((rd_T61 l0_1 x5_2).f0),.string ((rd_T61 l0_1 x5_2).f1),.string ((rd_T61 l0_1 x5_2).f2)] 61 (0,0))):=⟨by (with_reducible repeat (first|refine bN ?_ _|refine bD ?_|refine bA ?_ _));refine blk_put (cs:=#[.string ((rd_T61 l0_1 x5_2).f0),.string ((rd_T61 l0_1 x5_2).f1),.string (⟨#[]⟩ : ByteArray)]) ?_ 2 _ rfl;(with_reducible repeat (first|refine bN ?_ _|refine bD ?_|refine bA ?_ _));refine blk_put (cs:=#[.string ((rd_T61 l0_1 x5_2).f0),.string (⟨#[]⟩ : ByteArray),.string (⟨#[]⟩ : ByteArray)]) ?_ 1 _ rfl;(with_reducible repeat (first|refine bN ?_ _|refine bD ?_|refine bA ?_ _));refine blk_put (cs:=#[.string (⟨#[]⟩ : ByteArray),.string (⟨#[]⟩ : ByteArray),.string (⟨#[]⟩ : ByteArray)]) ?_ 0 _ rfl;(with_reducible repeat (first|refine bN ?_ _|refine bD ?_|refine bA ?_ _));exact BK164.out⟩
               have n2_ : Aside0 (Below w.heap.size w (((w76.setCell ⟨gb164,0,none⟩ (.string ((rd_T61 l0_1 x5_2).f0))).setCell ⟨gb164,1,none⟩ (.string ((rd_T61 l0_1 x5_2).f1))).setCell ⟨gb164,2,none⟩ (.string ((rd_T61 l0_1 x5_2).f2)))):=⟨by repeat (first|(with_reducible first|exact HB.out|apply lA|apply lN|apply lD|refine lS ?_ GE158.out|refine lS ?_ GE164.out)|exact HB.out)⟩
               (try clear BK158)
               (try clear BK164)
               (try clear HB)
               generalize (((w76.setCell ⟨gb164,0,none⟩ (.string ((rd_T61 l0_1 x5_2).f0))).setCell ⟨gb164,1,none⟩ (.string ((rd_T61 l0_1 x5_2).f1))).setCell ⟨gb164,2,none⟩ (.string ((rd_T61 l0_1 x5_2).f2))) = w79 at n0_ n1_ n2_ ⊢
               have BK158:=n0_
               have BK164:=n1_
               have HB:=n2_
               clear n0_ n1_ n2_
               have n0_:=aM (bD BK158.out)
               have n1_:=aM (bD BK164.out)
               have n2_:=aM (lD HB.out)
               clear BK158
               clear BK164
               clear HB
               have BK158:=n0_
               have BK164:=n1_
               have HB:=n2_
               clear n0_ n1_ n2_
               have p166 : 0 ≤ ((ji63) : Int):=of_decide_eq_true (by first|(with_reducible assumption)|assumption)
               have q166 : (ji63) < (l0_1.length : Int):=of_decide_eq_true (by first|(with_reducible assumption)|assumption)
               obtain ⟨ad166,e166,hx166_0,hx166_1,hx166_2⟩:=at_T61 HR0_1.out (ji63) p166 q166
               have hw166_2:=hx166_2
               have hw166_1:=hx166_1
               have hw166_0:=hx166_0
               obtain rfl : ad163 = ad166:=(by injection e166)
               replace hx166_0:=(HB.out.cell (World.block_lt_of_cell? w _ hx166_0)).trans hx166_0
               replace hx166_1:=(HB.out.cell (World.block_lt_of_cell? w _ hx166_1)).trans hx166_1
               replace hx166_2:=(HB.out.cell (World.block_lt_of_cell? w _ hx166_2)).trans hx166_2
               replace p166:=eq_true p166
               replace q166:=eq_true q166
               refine start_ (n:=31) (S:=fun w' => w'.cell? ⟨gb164,0,none⟩ = some (.string ((rd_T61 l0_1 x5_2).f0)) ∧ w'.cell? ⟨gb164,1,none⟩ = some (.string ((rd_T61 l0_1 x5_2).f1)) ∧ w'.cell? ⟨gb164,2,none⟩ = some (.string ((rd_T61 l0_1 x5_2).f2)) ∧ w'.cell? ⟨gb158,0,none⟩ = some (.slice A0_0 l0_0.length c0_0) ∧ w'.cell? ⟨gb158,1,none⟩ = some (.slice (some ad163) l0_1.length c0_1) ∧ w'.cell? ⟨gb158,2,none⟩ = some (.string a0_2) ∧ w'.cell? (ad163.add (((ji63)).toNat * 3)) = some (.string ((rd_T61 l0_1 (ji63)).f0)) ∧ w'.cell? ⟨(ad163.add (((ji63)).toNat * 3)).block,(ad163.add (((ji63)).toNat * 3)).off + 1,none⟩ = some (.string ((rd_T61 l0_1 (ji63)).f1)) ∧ w'.cell? ⟨(ad163.add (((ji63)).toNat * 3)).block,(ad163.add (((ji63)).toNat * 3)).off + 2,none⟩ = some (.string ((rd_T61 l0_1 (ji63)).f2))) (ds:=[]) #[bf,bf,bf,bf,bf,bf,bf,bf,bf,bf,bf,bf,bf,bf,bf,bf,bf,bf,bf,bf,bf,bf,bf,bf,bf,bf,bf,bf,bf,bf,bf] (by kernel_rfl) rfl rfl ⟨(bC BK164.out 0).trans rfl,(bC BK164.out 1).trans rfl,(bC BK164.out 2).trans rfl,(bC BK158.out 0).trans rfl,(bC BK158.out 1).trans rfl,(bC BK158.out 2).trans rfl,((HB.out.cell (World.block_lt_of_cell? w _ hw166_0)).trans hw166_0),((HB.out.cell (World.block_lt_of_cell? w _ hw166_1)).trans hw166_1),((HB.out.cell (World.block_lt_of_cell? w _ hw166_2)).trans hw166_2)⟩ (fun hHeld => ?_);refine with_tabW spec_StoreOk.tab11 spec_StoreOk.bits11 (fun HT_ HW_ => ?_)
               generalize w79.drew = w80 at BK158 BK164 HB hx166_0 hx166_1 hx166_2 hHeld ⊢
               refine pure_ (i:=0) (N:=some 57) (v:=?_) (a':=?_) #[bT,bf,bf,bf,bf,bf,bf,bf,bf,bf,bf,bf,bf,bf,bf,bf,bf,bf,bf,bf,bf,bf,bf,bf,bf,bf,bf,bf,bf,bf,bf] rfl rfl (any_of HT_.out (by kernel_rfl)) (fun _ _ _ h => h) (Or.inl ⟨by rfl,?_⟩) ?_ ?_
               rotate_left
               ·intro w';go_simp;with_reducible rfl
               rotate_left
               ·simp only [Act.put,q_ia4,q_cz4,q_cs4,i64_w,i32_w];rfl
               refine take_ (i:=1) (N:=some 58) (v:=?_) (a':=?_) #[bT,bT,bf,bf,bf,bf,bf,bf,bf,bf,bf,bf,bf,bf,bf,bf,bf,bf,bf,bf,bf,bf,bf,bf,bf,bf,bf,bf,bf,bf,bf] rfl rfl (take_ofW HT_.out HW_.out (by kernel_rfl)) (fun _ _ _ h => h) (Or.inl ⟨by rfl,?_⟩) hHeld ?_ ?_
               rotate_left
               ·rintro w' ⟨s0,s1,s2,s3,s4,s5,s6,s7,s8⟩
                go_simp
                with_reducible rfl
               rotate_left
               ·simp only [Act.put,q_ia4,q_cz4,q_cs4,i64_w,i32_w];rfl
               refine one_ (i:=2) (N:=some 59) #[bT,bT,bT,bf,bf,bf,bf,bf,bf,bf,bf,bf,bf,bf,bf,bf,bf,bf,bf,bf,bf,bf,bf,bf,bf,bf,bf,bf,bf,bf,bf] rfl rfl (one_of HT_.out (by kernel_rfl)) (by decide) (fun K hK => ?_)
               refine goes_ Try.func105 (by kernel_rfl) rfl #[.string ((rd_T61 l0_1 x5_2).f0)] (by rfl) rfl rfl (by (try simp only [List.map_toArray,List.map_cons,List.map_nil]);first|done|rfl|(simp only [List.length_drop,List.length_take];rfl)) ?_
               with_reducible refine (spec_l07Name.calls k2 ((rd_T61 l0_1 x5_2).f0) true _ A46.out).mono ?_
               rintro e w' ⟨rfl,⟨nd,rfl⟩⟩
               refine ⟨_,rfl,?_⟩
               refine hK.out _ _ ⟨(bC BK164.out 0).trans rfl,(bC BK164.out 1).trans rfl,(bC BK164.out 2).trans rfl,(bC BK158.out 0).trans rfl,(bC BK158.out 1).trans rfl,(bC BK158.out 2).trans rfl,((HB.out.cell (World.block_lt_of_cell? w _ hw166_0)).trans hw166_0),((HB.out.cell (World.block_lt_of_cell? w _ hw166_1)).trans hw166_1),((HB.out.cell (World.block_lt_of_cell? w _ hw166_2)).trans hw166_2)⟩ (fun hHeld => ?_)
               clear hK K
               refine norm_ (a':=?_) ?_ ?_
               rotate_left
               ·show Act.put _ (some 59) _ = _
                simp only [Act.put,q_ia4,q_cz4,q_cs4,i64_w,i32_w]
                rfl
               refine pure_ (i:=3) (N:=some 60) (v:=?_) (a':=?_) #[bT,bT,bT,bT,bf,bf,bf,bf,bf,bf,bf,bf,bf,bf,bf,bf,bf,bf,bf,bf,bf,bf,bf,bf,bf,bf,bf,bf,bf,bf,bf] rfl rfl (any_of HT_.out (by kernel_rfl)) (fun _ _ _ h => h) (Or.inl ⟨by rfl,?_⟩) ?_ ?_
               rotate_left
               ·intro w';go_simp;with_reducible rfl
               rotate_left
               ·simp only [Act.put,q_ia4,q_cz4,q_cs4,i64_w,i32_w];rfl
               refine pure_ (i:=4) (N:=some 61) (v:=?_) (a':=?_) #[bT,bT,bT,bT,bT,bf,bf,bf,bf,bf,bf,bf,bf,bf,bf,bf,bf,bf,bf,bf,bf,bf,bf,bf,bf,bf,bf,bf,bf,bf,bf] rfl rfl (any_of HT_.out (by kernel_rfl)) (fun _ _ _ h => h) (Or.inl ⟨by rfl,?_⟩) ?_ ?_
               rotate_left
               ·intro w';go_simp;with_reducible rfl
               rotate_left
               ·simp only [Act.put,q_ia4,q_cz4,q_cs4,i64_w,i32_w];rfl
               refine pure_ (i:=5) (N:=some 62) (v:=?_) (a':=?_) #[bT,bT,bT,bT,bT,bT,bf,bf,bf,bf,bf,bf,bf,bf,bf,bf,bf,bf,bf,bf,bf,bf,bf,bf,bf,bf,bf,bf,bf,bf,bf] rfl rfl (any_of HT_.out (by kernel_rfl)) (fun _ _ _ h => h) (Or.inl ⟨by rfl,?_⟩) ?_ ?_
               rotate_left
               ·intro w';go_simp;with_reducible rfl
               rotate_left
               ·simp only [Act.put,q_ia4,q_cz4,q_cs4,i64_w,i32_w];rfl
               refine take_ (i:=6) (N:=some 63) (v:=?_) (a':=?_) #[bT,bT,bT,bT,bT,bT,bT,bf,bf,bf,bf,bf,bf,bf,bf,bf,bf,bf,bf,bf,bf,bf,bf,bf,bf,bf,bf,bf,bf,bf,bf] rfl rfl (take_ofW HT_.out HW_.out (by kernel_rfl)) (fun _ _ _ h => h) (Or.inl ⟨by rfl,?_⟩) hHeld ?_ ?_
               rotate_left
               ·rintro w' ⟨s0,s1,s2,s3,s4,s5,s6,s7,s8⟩
                go_simp
                with_reducible rfl
               rotate_left
               ·simp only [Act.put,q_ia4,q_cz4,q_cs4,i64_w,i32_w];rfl
               refine pure_ (i:=7) (N:=some 64) (v:=?_) (a':=?_) #[bT,bT,bT,bT,bT,bT,bT,bT,bf,bf,bf,bf,bf,bf,bf,bf,bf,bf,bf,bf,bf,bf,bf,bf,bf,bf,bf,bf,bf,bf,bf] rfl rfl (any_of HT_.out (by kernel_rfl)) (fun _ _ _ h => h) (Or.inl ⟨by rfl,?_⟩) ?_ ?_
               rotate_left
               ·intro w';go_simp;with_reducible rfl
               rotate_left
               ·simp only [Act.put,q_ia4,q_cz4,q_cs4,i64_w,i32_w];rfl
               refine pure_ (i:=8) (N:=some 65) (v:=?_) (a':=?_) #[bT,bT,bT,bT,bT,bT,bT,bT,bT,bf,bf,bf,bf,bf,bf,bf,bf,bf,bf,bf,bf,bf,bf,bf,bf,bf,bf,bf,bf,bf,bf] rfl rfl (any_of HT_.out (by kernel_rfl)) (fun _ _ _ h => h) (Or.inl ⟨by rfl,?_⟩) ?_ ?_
               rotate_left
               ·intro w';go_simp;with_reducible rfl
               rotate_left
               ·simp only [Act.put,q_ia4,q_cz4,q_cs4,i64_w,i32_w];rfl
               refine pure_ (i:=9) (N:=some 66) (v:=?_) (a':=?_) #[bT,bT,bT,bT,bT,bT,bT,bT,bT,bT,bf,bf,bf,bf,bf,bf,bf,bf,bf,bf,bf,bf,bf,bf,bf,bf,bf,bf,bf,bf,bf] rfl rfl (any_of HT_.out (by kernel_rfl)) (fun _ _ _ h => h) (Or.inl ⟨by rfl,?_⟩) ?_ ?_
               rotate_left
               ·intro w';go_simp;with_reducible rfl
               rotate_left
               ·simp only [Act.put,q_ia4,q_cz4,q_cs4,i64_w,i32_w];rfl
               refine pure_ (i:=10) (N:=some 67) (v:=?_) (a':=?_) #[bT,bT,bT,bT,bT,bT,bT,bT,bT,bT,bT,bf,bf,bf,bf,bf,bf,bf,bf,bf,bf,bf,bf,bf,bf,bf,bf,bf,bf,bf,bf] rfl rfl (any_of HT_.out (by kernel_rfl)) (fun _ _ _ h => h) (Or.inl ⟨by rfl,?_⟩) ?_ ?_
               rotate_left
               ·intro w';go_simp;with_reducible rfl
               rotate_left
               ·simp only [Act.put,q_ia4,q_cz4,q_cs4,i64_w,i32_w];rfl
               refine pure_ (i:=11) (N:=some 68) (v:=?_) (a':=?_) #[bT,bT,bT,bT,bT,bT,bT,bT,bT,bT,bT,bT,bf,bf,bf,bf,bf,bf,bf,bf,bf,bf,bf,bf,bf,bf,bf,bf,bf,bf,bf] rfl rfl (any_of HT_.out (by kernel_rfl)) (fun _ _ _ h => h) (Or.inl ⟨by rfl,?_⟩) ?_ ?_
               rotate_left
               ·intro w';go_simp;with_reducible rfl
               rotate_left
               ·simp only [Act.put,q_ia4,q_cz4,q_cs4,i64_w,i32_w];rfl
               refine take_ (i:=12) (N:=some 69) (v:=?_) (a':=?_) #[bT,bT,bT,bT,bT,bT,bT,bT,bT,bT,bT,bT,bT,bf,bf,bf,bf,bf,bf,bf,bf,bf,bf,bf,bf,bf,bf,bf,bf,bf,bf] rfl rfl (take_ofW HT_.out HW_.out (by kernel_rfl)) (fun _ _ _ h => h) (Or.inl ⟨by rfl,?_⟩) hHeld ?_ ?_
               rotate_left
               ·rintro w' ⟨s0,s1,s2,s3,s4,s5,s6,s7,s8⟩
                go_simp
                with_reducible rfl
               rotate_left
               ·simp only [Act.put,q_ia4,q_cz4,q_cs4,i64_w,i32_w];rfl
               refine pure_ (i:=13) (N:=some 70) (v:=?_) (a':=?_) #[bT,bT,bT,bT,bT,bT,bT,bT,bT,bT,bT,bT,bT,bT,bf,bf,bf,bf,bf,bf,bf,bf,bf,bf,bf,bf,bf,bf,bf,bf,bf] rfl rfl (any_of HT_.out (by kernel_rfl)) (fun _ _ _ h => h) (Or.inl ⟨by rfl,?_⟩) ?_ ?_
               rotate_left
               ·intro w';go_simp;with_reducible rfl
               rotate_left
               ·simp only [Act.put,q_ia4,q_cz4,q_cs4,i64_w,i32_w];rfl
               refine pure_ (i:=14) (N:=some 71) (v:=?_) (a':=?_) #[bT,bT,bT,bT,bT,bT,bT,bT,bT,bT,bT,bT,bT,bT,bT,bf,bf,bf,bf,bf,bf,bf,bf,bf,bf,bf,bf,bf,bf,bf,bf] rfl rfl (any_of HT_.out (by kernel_rfl)) (fun _ _ _ h => h) (Or.inl ⟨by rfl,?_⟩) ?_ ?_
               rotate_left
               ·intro w';go_simp;with_reducible rfl
               rotate_left
               ·simp only [Act.put,q_ia4,q_cz4,q_cs4,i64_w,i32_w];rfl
               refine pure_ (i:=15) (N:=some 72) (v:=?_) (a':=?_) #[bT,bT,bT,bT,bT,bT,bT,bT,bT,bT,bT,bT,bT,bT,bT,bT,bf,bf,bf,bf,bf,bf,bf,bf,bf,bf,bf,bf,bf,bf,bf] rfl rfl (any_of HT_.out (by kernel_rfl)) (fun _ _ _ h => h) (Or.inl ⟨by rfl,?_⟩) ?_ ?_
               rotate_left
               ·intro w';go_simp;with_reducible rfl
               rotate_left
               ·simp only [Act.put,q_ia4,q_cz4,q_cs4,i64_w,i32_w];rfl
               refine pure_ (i:=16) (N:=some 73) (v:=?_) (a':=?_) #[bT,bT,bT,bT,bT,bT,bT,bT,bT,bT,bT,bT,bT,bT,bT,bT,bT,bf,bf,bf,bf,bf,bf,bf,bf,bf,bf,bf,bf,bf,bf] rfl rfl (any_of HT_.out (by kernel_rfl)) (fun _ _ _ h => h) (Or.inl ⟨by rfl,?_⟩) ?_ ?_
               rotate_left
               ·intro w';go_simp;with_reducible rfl
               rotate_left
               ·simp only [Act.put,q_ia4,q_cz4,q_cs4,i64_w,i32_w];rfl
               refine pure_ (i:=17) (N:=some 74) (v:=?_) (a':=?_) #[bT,bT,bT,bT,bT,bT,bT,bT,bT,bT,bT,bT,bT,bT,bT,bT,bT,bT,bf,bf,bf,bf,bf,bf,bf,bf,bf,bf,bf,bf,bf] rfl rfl (any_of HT_.out (by kernel_rfl)) (fun _ _ _ h => h) (Or.inl ⟨by rfl,?_⟩) ?_ ?_
               rotate_left
               ·intro w';go_simp;with_reducible rfl
               rotate_left
               ·simp only [Act.put,q_ia4,q_cz4,q_cs4,i64_w,i32_w];rfl
               refine pure_ (i:=18) (N:=some 75) (v:=?_) (a':=?_) #[bT,bT,bT,bT,bT,bT,bT,bT,bT,bT,bT,bT,bT,bT,bT,bT,bT,bT,bT,bf,bf,bf,bf,bf,bf,bf,bf,bf,bf,bf,bf] rfl rfl (any_of HT_.out (by kernel_rfl)) (fun _ _ _ h => h) (Or.inl ⟨by rfl,?_⟩) ?_ ?_
               rotate_left
               ·intro w';go_simp;with_reducible rfl
               rotate_left
               ·simp only [Act.put,q_ia4,q_cz4,q_cs4,i64_w,i32_w];rfl
               refine pure_ (i:=19) (N:=some 76) (v:=?_) (a':=?_) #[bT,bT,bT,bT,bT,bT,bT,bT,bT,bT,bT,bT,bT,bT,bT,bT,bT,bT,bT,bT,bf,bf,bf,bf,bf,bf,bf,bf,bf,bf,bf] rfl rfl (any_of HT_.out (by kernel_rfl)) (fun _ _ _ h => h) (Or.inl ⟨by rfl,?_⟩) ?_ ?_
               rotate_left
               ·intro w';go_simp;with_reducible rfl
               rotate_left
               ·simp only [Act.put,q_ia4,q_cz4,q_cs4,i64_w,i32_w];rfl
               refine pure_ (i:=20) (N:=some 77) (v:=?_) (a':=?_) #[bT,bT,bT,bT,bT,bT,bT,bT,bT,bT,bT,bT,bT,bT,bT,bT,bT,bT,bT,bT,bT,bf,bf,bf,bf,bf,bf,bf,bf,bf,bf] rfl rfl (any_of HT_.out (by kernel_rfl)) (fun _ _ _ h => h) (Or.inl ⟨by rfl,?_⟩) ?_ ?_
               rotate_left
               ·intro w';go_simp;with_reducible rfl
               rotate_left
               ·simp only [Act.put,q_ia4,q_cz4,q_cs4,i64_w,i32_w];rfl
               refine pure_ (i:=22) (N:=some 79) (v:=?_) (a':=?_) #[bT,bT,bT,bT,bT,bT,bT,bT,bT,bT,bT,bT,bT,bT,bT,bT,bT,bT,bT,bT,bT,bf,bT,bf,bf,bf,bf,bf,bf,bf,bf] rfl rfl (any_of HT_.out (by kernel_rfl)) (fun _ _ _ h => h) (Or.inl ⟨by rfl,?_⟩) ?_ ?_
               rotate_left
               ·intro w';go_simp;with_reducible rfl
               rotate_left
               ·simp only [Act.put,q_ia4,q_cz4,q_cs4,i64_w,i32_w];rfl
               refine pure_ (i:=23) (N:=some 80) (v:=?_) (a':=?_) #[bT,bT,bT,bT,bT,bT,bT,bT,bT,bT,bT,bT,bT,bT,bT,bT,bT,bT,bT,bT,bT,bf,bT,bT,bf,bf,bf,bf,bf,bf,bf] rfl rfl (any_of HT_.out (by kernel_rfl)) (fun _ _ _ h => h) (Or.inl ⟨by rfl,?_⟩) ?_ ?_
               rotate_left
               ·intro w';go_simp;with_reducible rfl
               rotate_left
               ·simp only [Act.put,q_ia4,q_cz4,q_cs4,i64_w,i32_w];rfl
               refine take_ (i:=21) (N:=some 78) (v:=?_) (a':=?_) #[bT,bT,bT,bT,bT,bT,bT,bT,bT,bT,bT,bT,bT,bT,bT,bT,bT,bT,bT,bT,bT,bT,bT,bT,bf,bf,bf,bf,bf,bf,bf] rfl rfl (take_ofW HT_.out HW_.out (by kernel_rfl)) (fun _ _ _ h => h) (Or.inl ⟨by rfl,?_⟩) hHeld ?_ ?_
               rotate_left
               ·rintro w' ⟨s0,s1,s2,s3,s4,s5,s6,s7,s8⟩
                go_simp
                with_reducible rfl
               rotate_left
               ·simp only [Act.put,q_ia4,q_cz4,q_cs4,i64_w,i32_w];rfl
               refine pure_ (i:=24) (N:=some 81) (v:=?_) (a':=?_) #[bT,bT,bT,bT,bT,bT,bT,bT,bT,bT,bT,bT,bT,bT,bT,bT,bT,bT,bT,bT,bT,bT,bT,bT,bT,bf,bf,bf,bf,bf,bf] rfl rfl (any_of HT_.out (by kernel_rfl)) (fun _ _ _ h => h) (Or.inl ⟨by rfl,?_⟩) ?_ ?_
               rotate_left
               ·intro w';go_simp;with_reducible rfl
               rotate_left
               ·simp only [Act.put,q_ia4,q_cz4,q_cs4,i64_w,i32_w];rfl
               refine take_ (i:=25) (N:=some 82) (v:=?_) (a':=?_) #[bT,bT,bT,bT,bT,bT,bT,bT,bT,bT,bT,bT,bT,bT,bT,bT,bT,bT,bT,bT,bT,bT,bT,bT,bT,bT,bf,bf,bf,bf,bf] rfl rfl (take_ofW HT_.out HW_.out (by kernel_rfl)) (fun _ _ _ h => h) (Or.inl ⟨by rfl,?_⟩) hHeld ?_ ?_
               rotate_left
               ·rintro w' ⟨s0,s1,s2,s3,s4,s5,s6,s7,s8⟩
                go_simp
                with_reducible rfl
               rotate_left
               ·simp only [Act.put,q_ia4,q_cz4,q_cs4,i64_w,i32_w];rfl
               refine take_ (i:=26) (N:=some 83) (v:=?_) (a':=?_) #[bT,bT,bT,bT,bT,bT,bT,bT,bT,bT,bT,bT,bT,bT,bT,bT,bT,bT,bT,bT,bT,bT,bT,bT,bT,bT,bT,bf,bf,bf,bf] rfl rfl (take_ofW HT_.out HW_.out (by kernel_rfl)) (fun _ _ _ h => h) (Or.inl ⟨by rfl,?_⟩) hHeld ?_ ?_
               rotate_left
               ·rintro w' ⟨s0,s1,s2,s3,s4,s5,s6,s7,s8⟩
                go_simp
                with_reducible rfl
               rotate_left
               ·simp only [Act.put,q_ia4,q_cz4,q_cs4,i64_w,i32_w];rfl
               refine one_ (i:=27) (N:=some 84) #[bT,bT,bT,bT,bT,bT,bT,bT,bT,bT,bT,bT,bT,bT,bT,bT,bT,bT,bT,bT,bT,bT,bT,bT,bT,bT,bT,bT,bf,bf,bf] rfl rfl (one_of HT_.out (by kernel_rfl)) (by decide) (fun K hK => ?_)
               refine goes_ Try.func106 (by kernel_rfl) rfl #[.agg #[.string ((rd_T61 l0_1 (ji63)).f0),.string ((rd_T61 l0_1 (ji63)).f1),.string ((rd_T61 l0_1 (ji63)).f2)],.agg #[.string ((rd_T61 l0_1 x5_2).f0),.string ((rd_T61 l0_1 x5_2).f1),.string ((rd_T61 l0_1 x5_2).f2)]] (by rfl) rfl rfl (by (try simp only [List.map_toArray,List.map_cons,List.map_nil]);first|done|(simp only [hji63];rfl)|rfl|(simp only [List.length_drop,List.length_take];rfl)) ?_
               with_reducible refine (spec_l08Ahead.calls ((rd_T61 l0_1 (ji63)).f0) ((rd_T61 l0_1 (ji63)).f1) ((rd_T61 l0_1 (ji63)).f2) ((rd_T61 l0_1 x5_2).f0) ((rd_T61 l0_1 x5_2).f1) ((rd_T61 l0_1 x5_2).f2) false _ A66.out).mono ?_
               rintro e w81 ⟨rfl,hb⟩
               refine ⟨_,rfl,?_⟩
               have n0_:=aM (bB (g:=gb158) (o:=.cells #[.slice A0_0 l0_0.length c0_0,.slice (some ad163) l0_1.length c0_1,.string a0_2] 54 (0,0)) (by (with_reducible repeat (first|refine bN ?_ _|refine bD ?_|refine bA ?_ _));exact BK158.out) hb)
               have n1_:=aM (bB (g:=gb164) (o:=.cells #[.string ((rd_T61 l0_1 x5_2).f0),.string ((rd_T61 l0_1 x5_2).f1),.string ((rd_T61 l0_1 x5_2).f2)] 61 (0,0)) (by (with_reducible repeat (first|refine bN ?_ _|refine bD ?_|refine bA ?_ _));exact BK164.out) hb)
               have n2_:=aM (lP (by repeat (first|(with_reducible first|exact HB.out|apply lA|apply lN|apply lD|refine lS ?_ GE158.out|refine lS ?_ GE164.out)|exact HB.out)) hb)
               clear BK158
               clear BK164
               clear HB
               have BK158:=n0_
               have BK164:=n1_
               have HB:=n2_
               clear n0_ n1_ n2_
               (try clear hb)
               (try clear hb2)
               (try clear hk)
               (try clear hi)
               refine hK.out _ _ ⟨(bC BK164.out 0).trans rfl,(bC BK164.out 1).trans rfl,(bC BK164.out 2).trans rfl,(bC BK158.out 0).trans rfl,(bC BK158.out 1).trans rfl,(bC BK158.out 2).trans rfl,((HB.out.cell (World.block_lt_of_cell? w _ hw166_0)).trans hw166_0),((HB.out.cell (World.block_lt_of_cell? w _ hw166_1)).trans hw166_1),((HB.out.cell (World.block_lt_of_cell? w _ hw166_2)).trans hw166_2)⟩ (fun hHeld => ?_)
               clear hK K
               refine norm_ (a':=?_) ?_ ?_
               rotate_left
               ·show Act.put _ (some 84) _ = _
                simp only [Act.put,q_ia4,q_cz4,q_cs4,i64_w,i32_w]
                rfl
               refine pure_ (i:=28) (N:=some 85) (v:=?_) (a':=?_) #[bT,bT,bT,bT,bT,bT,bT,bT,bT,bT,bT,bT,bT,bT,bT,bT,bT,bT,bT,bT,bT,bT,bT,bT,bT,bT,bT,bT,bT,bf,bf] rfl rfl (any_of HT_.out (by kernel_rfl)) (fun _ _ _ h => h) (Or.inl ⟨by rfl,?_⟩) ?_ ?_
               rotate_left
               ·intro w';go_simp;with_reducible rfl
               rotate_left
               ·simp only [Act.put,q_ia4,q_cz4,q_cs4,i64_w,i32_w];rfl
               refine pure_ (i:=29) (N:=some 86) (v:=?_) (a':=?_) #[bT,bT,bT,bT,bT,bT,bT,bT,bT,bT,bT,bT,bT,bT,bT,bT,bT,bT,bT,bT,bT,bT,bT,bT,bT,bT,bT,bT,bT,bT,bf] rfl rfl (any_of HT_.out (by kernel_rfl)) (fun _ _ _ h => h) (Or.inl ⟨by rfl,?_⟩) ?_ ?_
               rotate_left
               ·intro w';go_simp;with_reducible rfl
               rotate_left
               ·simp only [Act.put,q_ia4,q_cz4,q_cs4,i64_w,i32_w];rfl
               refine pure_ (i:=30) (N:=some 87) (v:=?_) (a':=?_) #[bT,bT,bT,bT,bT,bT,bT,bT,bT,bT,bT,bT,bT,bT,bT,bT,bT,bT,bT,bT,bT,bT,bT,bT,bT,bT,bT,bT,bT,bT,bT] rfl rfl (any_of HT_.out (by kernel_rfl)) (fun _ _ _ h => h) (Or.inl ⟨by rfl,?_⟩) ?_ ?_
               rotate_left
               ·intro w';go_simp;with_reducible rfl
               rotate_left
               ·simp only [Act.put,q_ia4,q_cz4,q_cs4,i64_w,i32_w];rfl
               refine done_ (done_of HT_.out (by kernel_rfl)) ?_
               try go_wp2
               go_ret
               exact ⟨by first|rfl|(simp [errW_none,errW_some] <;> rfl)|(simp only [← hji63];first|rfl|(simp [errW_none,errW_some] <;> rfl))|(simp [*,errW_none,errW_some] <;> rfl),by repeat (first|(with_reducible first|exact HB.out|apply lA|apply lN|apply lD|refine lS ?_ GE158.out|refine lS ?_ GE164.out)|exact HB.out)⟩
             ·rw [if_neg c65] at H
              exact absurd H (by simp)
            ·rw [if_neg c64] at H
             exact absurd H (by simp)
           ·rw [if_neg c62] at H
            have c62b0 : decide (0 < x5_2) = false:=decide_eq_false c62
            clear c62
            have H':=aM H
            clear H
            have hcz82_0 : wr.cell? ⟨gb158,0,none⟩ = some (.slice A0_0 l0_0.length c0_0):=(bC BK158.out 0).trans rfl
            have hcz82_1 : wr.cell? ⟨gb158,1,none⟩ = some (.slice A0_1 l0_1.length c0_1):=(bC BK158.out 1).trans rfl
            have hcz82_2 : wr.cell? ⟨gb158,2,none⟩ = some (.string a0_2):=(bC BK158.out 2).trans rfl
            have hfz82_0:=bF BK158.out 0
            have hfz82_1:=bF BK158.out 1
            have hfz82_2:=bF BK158.out 2
            have p163 : 0 ≤ (x5_2 : Int):=of_decide_eq_true (by first|(with_reducible assumption)|assumption)
            have q163 : x5_2 < (l0_1.length : Int):=of_decide_eq_true (by first|(with_reducible assumption)|assumption)
            obtain ⟨ad163,e163,hx163_0,hx163_1,hx163_2⟩:=at_T61 HR0_1.out x5_2 p163 q163
            cases e163
            replace hx163_0:=(HB.out.cell (World.block_lt_of_cell? w _ hx163_0)).trans hx163_0
            replace hx163_1:=(HB.out.cell (World.block_lt_of_cell? w _ hx163_1)).trans hx163_1
            replace hx163_2:=(HB.out.cell (World.block_lt_of_cell? w _ hx163_2)).trans hx163_2
            replace p163:=eq_true p163
            replace q163:=eq_true q163
            try go_wp2_with (first|((with_reducible refine gate_dst (N:=6) rfl ?_);(try (refine gate_guard (by rfl) ?_;dsimp only));refine box_event ?hg (N:=6) ?hd (cs:=#[.string (⟨#[]⟩ : ByteArray),.string (⟨#[]⟩ : ByteArray),.string (⟨#[]⟩ : ByteArray)]) (t:=61) ?hr ?_;(case hd => rfl);(case hg => rfl);(case hr => first|(go_simp;done)|(go_simp;rfl));intro gb164 hg w83 hbox hb;have n0_:=aM (bB (g:=gb158) (o:=.cells #[.slice A0_0 l0_0.length c0_0,.slice (some ad163) l0_1.length c0_1,.string a0_2] 54 (0,0)) (by (with_reducible repeat (first|refine bN ?_ _|refine bD ?_|refine bA ?_ _));exact BK158.out) hb);have n1_:=aM (lP (by repeat (first|(with_reducible first|exact HB.out|apply lA|apply lN|apply lD|refine lS ?_ GE158.out)|exact HB.out)) hb);have n2_:=aM (hbox);have n3_:=aM ((by rw [hg];exact (lZ (by repeat (first|(with_reducible first|exact HB.out|apply lA|apply lN|apply lD|refine lS ?_ GE158.out)|exact HB.out))) : w.heap.size ≤ gb164));have n4_:=aM ((by rw [hg];exact (lZ (by repeat (first|(with_reducible first|exact HB.out|apply lA|apply lN|apply lD|refine lS ?_ GE158.out)|exact HB.out))) : w.heap.size ≤ gb164));have n5_:=aM ((by rw [hg];exact Nat.ne_of_lt (bL (g:=gb158) (o:=.cells #[.slice A0_0 l0_0.length c0_0,.slice (some ad163) l0_1.length c0_1,.string a0_2] 54 (0,0)) (by (with_reducible repeat (first|refine bN ?_ _|refine bD ?_|refine bA ?_ _));exact BK158.out)) : gb158 ≠ gb164));have n6_:=aM ((by rw [hg];exact Nat.ne_of_gt (bL (g:=gb158) (o:=.cells #[.slice A0_0 l0_0.length c0_0,.slice (some ad163) l0_1.length c0_1,.string a0_2] 54 (0,0)) (by (with_reducible repeat (first|refine bN ?_ _|refine bD ?_|refine bA ?_ _));exact BK158.out)) : gb164 ≠ gb158));clear BK158 HB;have BK158:=n0_;have HB:=n1_;have BK164:=n2_;have GW164:=n3_;have GE164:=n4_;have NB158_164:=n5_;have NB164_158:=n6_;clear n0_ n1_ n2_ n3_ n4_ n5_ n6_ hb hbox hg;have hnb84:=NB164_158.out;have hnc84:=NB158_164.out;have hcz85_0 : w83.cell? ⟨gb164,0,none⟩ = some (.string (⟨#[]⟩ : ByteArray)):=(bC BK164.out 0).trans rfl;have hcz85_1 : w83.cell? ⟨gb164,1,none⟩ = some (.string (⟨#[]⟩ : ByteArray)):=(bC BK164.out 1).trans rfl;have hcz85_2 : w83.cell? ⟨gb164,2,none⟩ = some (.string (⟨#[]⟩ : ByteArray)):=(bC BK164.out 2).trans rfl;have hfz85_0:=bF BK164.out 0;have hfz85_1:=bF BK164.out 1;have hfz85_2:=bF BK164.out 2))
            have n0_ : Aside0 ((((w83.setCell ⟨gb164,0,none⟩ (.string ((rd_T61 l0_1 x5_2).f0))).setCell ⟨gb164,1,none⟩ (.string ((rd_T61 l0_1 x5_2).f1))).setCell ⟨gb164,2,none⟩ (.string ((rd_T61 l0_1 x5_2).f2))).heap[gb158]? = some (.cells #[.slice A0_0 l0_0.length c0_0,.slice (some ad163) l0_1.length c0_1,.string a0_2] 54 (0,0))):=⟨by (with_reducible repeat (first|refine bN ?_ _|refine bD ?_|refine bA ?_ _));refine blk_far ?_ NB158_164.out _;(with_reducible repeat (first|refine bN ?_ _|refine bD ?_|refine bA ?_ _));refine blk_far ?_ NB158_164.out _;(with_reducible repeat (first|refine bN ?_ _|refine bD ?_|refine bA ?_ _));refine blk_far ?_ NB158_164.out _;(with_reducible repeat (first|refine bN ?_ _|refine bD ?_|refine bA ?_ _));exact BK158.out⟩
            have n1_ : Aside0 ((((w83.setCell ⟨gb164,0,none⟩ (.string ((rd_T61 l0_1 x5_2).f0))).setCell ⟨gb164,1,none⟩ (.string ((rd_T61 l0_1 x5_2).f1))).setCell ⟨gb164,2,none⟩ (.string ((rd_T61 l0_1 x5_2).f2))).heap[gb164]? = some (.cells #[.string ((rd_T61 l0_1 x5_2).f0),.string ((rd_T61 l0_1 x5_2).f1),.string ((rd_T61 l0_1 x5_2).f2)] 61 (0,0))):=⟨by (with_reducible repeat (first|refine bN ?_ _|refine bD ?_|refine bA ?_ _));refine blk_put (cs:=#[.string ((rd_T61 l0_1 x5_2).f0),.string ((rd_T61 l0_1 x5_2).f1),.string (⟨#[]⟩ : ByteArray)]) ?_ 2 _ rfl;(with_reducible repeat (first|refine bN ?_ _|refine bD ?_|refine bA ?_ _));refine blk_put (cs:=#[.string ((rd_T61 l0_1 x5_2).f0),.string (⟨#[]⟩ : ByteArray),.string (⟨#[]⟩ : ByteArray)]) ?_ 1 _ rfl;(with_reducible repeat (first|refine bN ?_ _|refine bD ?_|refine bA ?_ _));refine blk_put (cs:=#[.string (⟨#[]⟩ : ByteArray),.string (⟨#[]⟩ : ByteArray),.string (⟨#[]⟩ : ByteArray)]) ?_ 0 _ rfl;(with_reducible repeat (first|refine bN ?_ _|refine bD ?_|refine bA ?_ _));exact BK164.out⟩
            have n2_ : Aside0 (Below w.heap.size w (((w83.setCell ⟨gb164,0,none⟩ (.string ((rd_T61 l0_1 x5_2).f0))).setCell ⟨gb164,1,none⟩ (.string ((rd_T61 l0_1 x5_2).f1))).setCell ⟨gb164,2,none⟩ (.string ((rd_T61 l0_1 x5_2).f2)))):=⟨by repeat (first|(with_reducible first|exact HB.out|apply lA|apply lN|apply lD|refine lS ?_ GE158.out|refine lS ?_ GE164.out)|exact HB.out)⟩
            (try clear BK158)
            (try clear BK164)
            (try clear HB)
            generalize (((w83.setCell ⟨gb164,0,none⟩ (.string ((rd_T61 l0_1 x5_2).f0))).setCell ⟨gb164,1,none⟩ (.string ((rd_T61 l0_1 x5_2).f1))).setCell ⟨gb164,2,none⟩ (.string ((rd_T61 l0_1 x5_2).f2))) = w86 at n0_ n1_ n2_ ⊢
            have BK158:=n0_
            have BK164:=n1_
            have HB:=n2_
            clear n0_ n1_ n2_
            have n0_:=aM (bD BK158.out)
            have n1_:=aM (bD BK164.out)
            have n2_:=aM (lD HB.out)
            clear BK158
            clear BK164
            clear HB
            have BK158:=n0_
            have BK164:=n1_
            have HB:=n2_
            clear n0_ n1_ n2_
            refine start_ (n:=31) (S:=fun w' => w'.cell? ⟨gb164,0,none⟩ = some (.string ((rd_T61 l0_1 x5_2).f0)) ∧ w'.cell? ⟨gb164,1,none⟩ = some (.string ((rd_T61 l0_1 x5_2).f1)) ∧ w'.cell? ⟨gb164,2,none⟩ = some (.string ((rd_T61 l0_1 x5_2).f2))) (ds:=[]) #[bf,bf,bf,bf,bf,bf,bf,bf,bf,bf,bf,bf,bf,bf,bf,bf,bf,bf,bf,bf,bf,bf,bf,bf,bf,bf,bf,bf,bf,bf,bf] (by kernel_rfl) rfl rfl ⟨(bC BK164.out 0).trans rfl,(bC BK164.out 1).trans rfl,(bC BK164.out 2).trans rfl⟩ (fun hHeld => ?_);refine with_tabW spec_StoreOk.tab11 spec_StoreOk.bits11 (fun HT_ HW_ => ?_)
            generalize w86.drew = w87 at BK158 BK164 HB hHeld ⊢
            refine pure_ (i:=0) (N:=some 57) (v:=?_) (a':=?_) #[bT,bf,bf,bf,bf,bf,bf,bf,bf,bf,bf,bf,bf,bf,bf,bf,bf,bf,bf,bf,bf,bf,bf,bf,bf,bf,bf,bf,bf,bf,bf] rfl rfl (any_of HT_.out (by kernel_rfl)) (fun _ _ _ h => h) (Or.inl ⟨by rfl,?_⟩) ?_ ?_
            rotate_left
            ·intro w';go_simp;with_reducible rfl
            rotate_left
            ·simp only [Act.put,q_ia4,q_cz4,q_cs4,i64_w,i32_w];rfl
            refine take_ (i:=1) (N:=some 58) (v:=?_) (a':=?_) #[bT,bT,bf,bf,bf,bf,bf,bf,bf,bf,bf,bf,bf,bf,bf,bf,bf,bf,bf,bf,bf,bf,bf,bf,bf,bf,bf,bf,bf,bf,bf] rfl rfl (take_ofW HT_.out HW_.out (by kernel_rfl)) (fun _ _ _ h => h) (Or.inl ⟨by rfl,?_⟩) hHeld ?_ ?_
            rotate_left
            ·rintro w' ⟨s0,s1,s2⟩
             go_simp
             with_reducible rfl
            rotate_left
            ·simp only [Act.put,q_ia4,q_cz4,q_cs4,i64_w,i32_w];rfl
            refine one_ (i:=2) (N:=some 59) #[bT,bT,bT,bf,bf,bf,bf,bf,bf,bf,bf,bf,bf,bf,bf,bf,bf,bf,bf,bf,bf,bf,bf,bf,bf,bf,bf,bf,bf,bf,bf] rfl rfl (one_of HT_.out (by kernel_rfl)) (by decide) (fun K hK => ?_)
            refine goes_ Try.func105 (by kernel_rfl) rfl #[.string ((rd_T61 l0_1 x5_2).f0)] (by rfl) rfl rfl (by (try simp only [List.map_toArray,List.map_cons,List.map_nil]);first|done|rfl|(simp only [List.length_drop,List.length_take];rfl)) ?_
            with_reducible refine (spec_l07Name.calls k2 ((rd_T61 l0_1 x5_2).f0) true _ A46.out).mono ?_
            rintro e w' ⟨rfl,⟨nd,rfl⟩⟩
            refine ⟨_,rfl,?_⟩
            refine hK.out _ _ ⟨(bC BK164.out 0).trans rfl,(bC BK164.out 1).trans rfl,(bC BK164.out 2).trans rfl⟩ (fun hHeld => ?_)
            clear hK K
            refine norm_ (a':=?_) ?_ ?_
            rotate_left
            ·show Act.put _ (some 59) _ = _
             simp only [Act.put,q_ia4,q_cz4,q_cs4,i64_w,i32_w]
             rfl
            refine pure_ (i:=3) (N:=some 60) (v:=?_) (a':=?_) #[bT,bT,bT,bT,bf,bf,bf,bf,bf,bf,bf,bf,bf,bf,bf,bf,bf,bf,bf,bf,bf,bf,bf,bf,bf,bf,bf,bf,bf,bf,bf] rfl rfl (any_of HT_.out (by kernel_rfl)) (fun _ _ _ h => h) (Or.inl ⟨by rfl,?_⟩) ?_ ?_
            rotate_left
            ·intro w';go_simp;with_reducible rfl
            rotate_left
            ·simp only [Act.put,q_ia4,q_cz4,q_cs4,i64_w,i32_w];rfl
            refine pure_ (i:=4) (N:=some 61) (v:=?_) (a':=?_) #[bT,bT,bT,bT,bT,bf,bf,bf,bf,bf,bf,bf,bf,bf,bf,bf,bf,bf,bf,bf,bf,bf,bf,bf,bf,bf,bf,bf,bf,bf,bf] rfl rfl (any_of HT_.out (by kernel_rfl)) (fun _ _ _ h => h) (Or.inl ⟨by rfl,?_⟩) ?_ ?_
            rotate_left
            ·intro w';go_simp;with_reducible rfl
            rotate_left
            ·simp only [Act.put,q_ia4,q_cz4,q_cs4,i64_w,i32_w];rfl
            refine pure_ (i:=5) (N:=some 62) (v:=?_) (a':=?_) #[bT,bT,bT,bT,bT,bT,bf,bf,bf,bf,bf,bf,bf,bf,bf,bf,bf,bf,bf,bf,bf,bf,bf,bf,bf,bf,bf,bf,bf,bf,bf] rfl rfl (any_of HT_.out (by kernel_rfl)) (fun _ _ _ h => h) (Or.inl ⟨by rfl,?_⟩) ?_ ?_
            rotate_left
            ·intro w';go_simp;with_reducible rfl
            rotate_left
            ·simp only [Act.put,q_ia4,q_cz4,q_cs4,i64_w,i32_w];rfl
            refine take_ (i:=6) (N:=some 63) (v:=?_) (a':=?_) #[bT,bT,bT,bT,bT,bT,bT,bf,bf,bf,bf,bf,bf,bf,bf,bf,bf,bf,bf,bf,bf,bf,bf,bf,bf,bf,bf,bf,bf,bf,bf] rfl rfl (take_ofW HT_.out HW_.out (by kernel_rfl)) (fun _ _ _ h => h) (Or.inl ⟨by rfl,?_⟩) hHeld ?_ ?_
            rotate_left
            ·rintro w' ⟨s0,s1,s2⟩
             go_simp
             with_reducible rfl
            rotate_left
            ·simp only [Act.put,q_ia4,q_cz4,q_cs4,i64_w,i32_w];rfl
            refine pure_ (i:=7) (N:=some 64) (v:=?_) (a':=?_) #[bT,bT,bT,bT,bT,bT,bT,bT,bf,bf,bf,bf,bf,bf,bf,bf,bf,bf,bf,bf,bf,bf,bf,bf,bf,bf,bf,bf,bf,bf,bf] rfl rfl (any_of HT_.out (by kernel_rfl)) (fun _ _ _ h => h) (Or.inl ⟨by rfl,?_⟩) ?_ ?_
            rotate_left
            ·intro w';go_simp;with_reducible rfl
            rotate_left
            ·simp only [Act.put,q_ia4,q_cz4,q_cs4,i64_w,i32_w];rfl
            refine pure_ (i:=8) (N:=some 65) (v:=?_) (a':=?_) #[bT,bT,bT,bT,bT,bT,bT,bT,bT,bf,bf,bf,bf,bf,bf,bf,bf,bf,bf,bf,bf,bf,bf,bf,bf,bf,bf,bf,bf,bf,bf] rfl rfl (any_of HT_.out (by kernel_rfl)) (fun _ _ _ h => h) (Or.inl ⟨by rfl,?_⟩) ?_ ?_
            rotate_left
            ·intro w';go_simp;with_reducible rfl
            rotate_left
            ·simp only [Act.put,q_ia4,q_cz4,q_cs4,i64_w,i32_w];rfl
            refine pure_ (i:=9) (N:=some 66) (v:=?_) (a':=?_) #[bT,bT,bT,bT,bT,bT,bT,bT,bT,bT,bf,bf,bf,bf,bf,bf,bf,bf,bf,bf,bf,bf,bf,bf,bf,bf,bf,bf,bf,bf,bf] rfl rfl (any_of HT_.out (by kernel_rfl)) (fun _ _ _ h => h) (Or.inl ⟨by rfl,?_⟩) ?_ ?_
            rotate_left
            ·intro w';go_simp;with_reducible rfl
            rotate_left
            ·simp only [Act.put,q_ia4,q_cz4,q_cs4,i64_w,i32_w];rfl
            refine pure_ (i:=10) (N:=some 67) (v:=?_) (a':=?_) #[bT,bT,bT,bT,bT,bT,bT,bT,bT,bT,bT,bf,bf,bf,bf,bf,bf,bf,bf,bf,bf,bf,bf,bf,bf,bf,bf,bf,bf,bf,bf] rfl rfl (any_of HT_.out (by kernel_rfl)) (fun _ _ _ h => h) (Or.inl ⟨by rfl,?_⟩) ?_ ?_
            rotate_left
            ·intro w';go_simp;with_reducible rfl
            rotate_left
            ·simp only [Act.put,q_ia4,q_cz4,q_cs4,i64_w,i32_w];rfl
            refine pure_ (i:=11) (N:=some 68) (v:=?_) (a':=?_) #[bT,bT,bT,bT,bT,bT,bT,bT,bT,bT,bT,bT,bf,bf,bf,bf,bf,bf,bf,bf,bf,bf,bf,bf,bf,bf,bf,bf,bf,bf,bf] rfl rfl (any_of HT_.out (by kernel_rfl)) (fun _ _ _ h => h) (Or.inl ⟨by rfl,?_⟩) ?_ ?_
            rotate_left
            ·intro w';go_simp;with_reducible rfl
            rotate_left
            ·simp only [Act.put,q_ia4,q_cz4,q_cs4,i64_w,i32_w];rfl
            refine take_ (i:=12) (N:=some 69) (v:=?_) (a':=?_) #[bT,bT,bT,bT,bT,bT,bT,bT,bT,bT,bT,bT,bT,bf,bf,bf,bf,bf,bf,bf,bf,bf,bf,bf,bf,bf,bf,bf,bf,bf,bf] rfl rfl (take_ofW HT_.out HW_.out (by kernel_rfl)) (fun _ _ _ h => h) (Or.inl ⟨by rfl,?_⟩) hHeld ?_ ?_
            rotate_left
            ·rintro w' ⟨s0,s1,s2⟩
             go_simp
             with_reducible rfl
            rotate_left
            ·simp only [Act.put,q_ia4,q_cz4,q_cs4,i64_w,i32_w];rfl
            refine pure_ (i:=13) (N:=some 70) (v:=?_) (a':=?_) #[bT,bT,bT,bT,bT,bT,bT,bT,bT,bT,bT,bT,bT,bT,bf,bf,bf,bf,bf,bf,bf,bf,bf,bf,bf,bf,bf,bf,bf,bf,bf] rfl rfl (any_of HT_.out (by kernel_rfl)) (fun _ _ _ h => h) (Or.inl ⟨by rfl,?_⟩) ?_ ?_
            rotate_left
            ·intro w';go_simp;with_reducible rfl
            rotate_left
            ·simp only [Act.put,q_ia4,q_cz4,q_cs4,i64_w,i32_w];rfl
            refine pure_ (i:=14) (N:=some 71) (v:=?_) (a':=?_) #[bT,bT,bT,bT,bT,bT,bT,bT,bT,bT,bT,bT,bT,bT,bT,bf,bf,bf,bf,bf,bf,bf,bf,bf,bf,bf,bf,bf,bf,bf,bf] rfl rfl (any_of HT_.out (by kernel_rfl)) (fun _ _ _ h => h) (Or.inl ⟨by rfl,?_⟩) ?_ ?_
            rotate_left
            ·intro w';go_simp;with_reducible rfl
            rotate_left
            ·simp only [Act.put,q_ia4,q_cz4,q_cs4,i64_w,i32_w];rfl
            refine pure_ (i:=15) (N:=some 72) (v:=?_) (a':=?_) #[bT,bT,bT,bT,bT,bT,bT,bT,bT,bT,bT,bT,bT,bT,bT,bT,bf,bf,bf,bf,bf,bf,bf,bf,bf,bf,bf,bf,bf,bf,bf] rfl rfl (any_of HT_.out (by kernel_rfl)) (fun _ _ _ h => h) (Or.inl ⟨by rfl,?_⟩) ?_ ?_
            rotate_left
            ·intro w';go_simp;with_reducible rfl
            rotate_left
            ·simp only [Act.put,q_ia4,q_cz4,q_cs4,i64_w,i32_w];rfl
            refine pure_ (i:=16) (N:=some 73) (v:=?_) (a':=?_) #[bT,bT,bT,bT,bT,bT,bT,bT,bT,bT,bT,bT,bT,bT,bT,bT,bT,bf,bf,bf,bf,bf,bf,bf,bf,bf,bf,bf,bf,bf,bf] rfl rfl (any_of HT_.out (by kernel_rfl)) (fun _ _ _ h => h) (Or.inl ⟨by rfl,?_⟩) ?_ ?_
            rotate_left
            ·intro w';go_simp;with_reducible rfl
            rotate_left
            ·simp only [Act.put,q_ia4,q_cz4,q_cs4,i64_w,i32_w];rfl
            refine pure_ (i:=17) (N:=some 74) (v:=?_) (a':=?_) #[bT,bT,bT,bT,bT,bT,bT,bT,bT,bT,bT,bT,bT,bT,bT,bT,bT,bT,bf,bf,bf,bf,bf,bf,bf,bf,bf,bf,bf,bf,bf] rfl rfl (any_of HT_.out (by kernel_rfl)) (fun _ _ _ h => h) (Or.inl ⟨by rfl,?_⟩) ?_ ?_
            rotate_left
            ·intro w';go_simp;with_reducible rfl
            rotate_left
            ·simp only [Act.put,q_ia4,q_cz4,q_cs4,i64_w,i32_w];rfl
            refine pure_ (i:=18) (N:=some 75) (v:=?_) (a':=?_) #[bT,bT,bT,bT,bT,bT,bT,bT,bT,bT,bT,bT,bT,bT,bT,bT,bT,bT,bT,bf,bf,bf,bf,bf,bf,bf,bf,bf,bf,bf,bf] rfl rfl (any_of HT_.out (by kernel_rfl)) (fun _ _ _ h => h) (Or.inl ⟨by rfl,?_⟩) ?_ ?_
            rotate_left
            ·intro w';go_simp;with_reducible rfl
            rotate_left
            ·simp only [Act.put,q_ia4,q_cz4,q_cs4,i64_w,i32_w];rfl
            refine pure_ (i:=19) (N:=some 76) (v:=?_) (a':=?_) #[bT,bT,bT,bT,bT,bT,bT,bT,bT,bT,bT,bT,bT,bT,bT,bT,bT,bT,bT,bT,bf,bf,bf,bf,bf,bf,bf,bf,bf,bf,bf] rfl rfl (any_of HT_.out (by kernel_rfl)) (fun _ _ _ h => h) (Or.inl ⟨by rfl,?_⟩) ?_ ?_
            rotate_left
            ·intro w';go_simp;with_reducible rfl
            rotate_left
            ·simp only [Act.put,q_ia4,q_cz4,q_cs4,i64_w,i32_w];rfl
            refine pure_ (i:=20) (N:=some 77) (v:=undef) (a':=?_) #[bT,bT,bT,bT,bT,bT,bT,bT,bT,bT,bT,bT,bT,bT,bT,bT,bT,bT,bT,bT,bT,bf,bf,bf,bf,bf,bf,bf,bf,bf,bf] rfl rfl (any_of HT_.out (by kernel_rfl)) (fun _ _ _ h => h) (Or.inr ⟨by rfl,rfl⟩) ?_ ?_
            rotate_left
            ·simp only [Act.put,q_ia4,q_cz4,q_cs4,i64_w,i32_w];rfl
            refine pure_ (i:=21) (N:=some 78) (v:=undef) (a':=?_) #[bT,bT,bT,bT,bT,bT,bT,bT,bT,bT,bT,bT,bT,bT,bT,bT,bT,bT,bT,bT,bT,bT,bf,bf,bf,bf,bf,bf,bf,bf,bf] rfl rfl (any_of HT_.out (by kernel_rfl)) (fun _ _ _ h => h) (Or.inr ⟨by rfl,rfl⟩) ?_ ?_
            rotate_left
            ·simp only [Act.put,q_ia4,q_cz4,q_cs4,i64_w,i32_w];rfl
            refine pure_ (i:=22) (N:=some 79) (v:=undef) (a':=?_) #[bT,bT,bT,bT,bT,bT,bT,bT,bT,bT,bT,bT,bT,bT,bT,bT,bT,bT,bT,bT,bT,bT,bT,bf,bf,bf,bf,bf,bf,bf,bf] rfl rfl (any_of HT_.out (by kernel_rfl)) (fun _ _ _ h => h) (Or.inr ⟨by rfl,rfl⟩) ?_ ?_
            rotate_left
            ·simp only [Act.put,q_ia4,q_cz4,q_cs4,i64_w,i32_w];rfl
            refine pure_ (i:=23) (N:=some 80) (v:=undef) (a':=?_) #[bT,bT,bT,bT,bT,bT,bT,bT,bT,bT,bT,bT,bT,bT,bT,bT,bT,bT,bT,bT,bT,bT,bT,bT,bf,bf,bf,bf,bf,bf,bf] rfl rfl (any_of HT_.out (by kernel_rfl)) (fun _ _ _ h => h) (Or.inr ⟨by rfl,rfl⟩) ?_ ?_
            rotate_left
            ·simp only [Act.put,q_ia4,q_cz4,q_cs4,i64_w,i32_w];rfl
            refine pure_ (i:=24) (N:=some 81) (v:=undef) (a':=?_) #[bT,bT,bT,bT,bT,bT,bT,bT,bT,bT,bT,bT,bT,bT,bT,bT,bT,bT,bT,bT,bT,bT,bT,bT,bT,bf,bf,bf,bf,bf,bf] rfl rfl (any_of HT_.out (by kernel_rfl)) (fun _ _ _ h => h) (Or.inr ⟨by rfl,rfl⟩) ?_ ?_
            rotate_left
            ·simp only [Act.put,q_ia4,q_cz4,q_cs4,i64_w,i32_w];rfl
            refine pure_ (i:=25) (N:=some 82) (v:=undef) (a':=?_) #[bT,bT,bT,bT,bT,bT,bT,bT,bT,bT,bT,bT,bT,bT,bT,bT,bT,bT,bT,bT,bT,bT,bT,bT,bT,bT,bf,bf,bf,bf,bf] rfl rfl (any_of HT_.out (by kernel_rfl)) (fun _ _ _ h => h) (Or.inr ⟨by rfl,rfl⟩) ?_ ?_
            rotate_left
            ·simp only [Act.put,q_ia4,q_cz4,q_cs4,i64_w,i32_w];rfl
            refine pure_ (i:=26) (N:=some 83) (v:=undef) (a':=?_) #[bT,bT,bT,bT,bT,bT,bT,bT,bT,bT,bT,bT,bT,bT,bT,bT,bT,bT,bT,bT,bT,bT,bT,bT,bT,bT,bT,bf,bf,bf,bf] rfl rfl (any_of HT_.out (by kernel_rfl)) (fun _ _ _ h => h) (Or.inr ⟨by rfl,rfl⟩) ?_ ?_
            rotate_left
            ·simp only [Act.put,q_ia4,q_cz4,q_cs4,i64_w,i32_w];rfl
            refine pure_ (i:=27) (N:=some 84) (v:=undef) (a':=?_) #[bT,bT,bT,bT,bT,bT,bT,bT,bT,bT,bT,bT,bT,bT,bT,bT,bT,bT,bT,bT,bT,bT,bT,bT,bT,bT,bT,bT,bf,bf,bf] rfl rfl (any_of HT_.out (by kernel_rfl)) (fun _ _ _ h => h) (Or.inr ⟨by rfl,rfl⟩) ?_ ?_
            rotate_left
            ·simp only [Act.put,q_ia4,q_cz4,q_cs4,i64_w,i32_w];rfl
            refine pure_ (i:=28) (N:=some 85) (v:=undef) (a':=?_) #[bT,bT,bT,bT,bT,bT,bT,bT,bT,bT,bT,bT,bT,bT,bT,bT,bT,bT,bT,bT,bT,bT,bT,bT,bT,bT,bT,bT,bT,bf,bf] rfl rfl (any_of HT_.out (by kernel_rfl)) (fun _ _ _ h => h) (Or.inr ⟨by rfl,rfl⟩) ?_ ?_
            rotate_left
            ·simp only [Act.put,q_ia4,q_cz4,q_cs4,i64_w,i32_w];rfl
            refine pure_ (i:=29) (N:=some 86) (v:=?_) (a':=?_) #[bT,bT,bT,bT,bT,bT,bT,bT,bT,bT,bT,bT,bT,bT,bT,bT,bT,bT,bT,bT,bT,bT,bT,bT,bT,bT,bT,bT,bT,bT,bf] rfl rfl (any_of HT_.out (by kernel_rfl)) (fun _ _ _ h => h) (Or.inl ⟨by rfl,?_⟩) ?_ ?_
            rotate_left
            ·intro w';go_simp;with_reducible rfl
            rotate_left
            ·simp only [Act.put,q_ia4,q_cz4,q_cs4,i64_w,i32_w];rfl
            refine pure_ (i:=30) (N:=some 87) (v:=?_) (a':=?_) #[bT,bT,bT,bT,bT,bT,bT,bT,bT,bT,bT,bT,bT,bT,bT,bT,bT,bT,bT,bT,bT,bT,bT,bT,bT,bT,bT,bT,bT,bT,bT] rfl rfl (any_of HT_.out (by kernel_rfl)) (fun _ _ _ h => h) (Or.inl ⟨by rfl,?_⟩) ?_ ?_
            rotate_left
            ·intro w';go_simp;with_reducible rfl
            rotate_left
            ·simp only [Act.put,q_ia4,q_cz4,q_cs4,i64_w,i32_w];rfl
            refine done_ (done_of HT_.out (by kernel_rfl)) ?_
            try go_wp2
            go_roundg k2
            case measure => have:=HK1.out;have:=HK2.out;omega
            case rel => exact ⟨(wrap64 (x5_2 + 1)),(by first|rfl|(simp;done)|(simp [*];done)),H',⟨by have:=HK1.out;have:=HK2.out;omega⟩,⟨by (with_reducible repeat (first|refine bN ?_ _|refine bD ?_|refine bA ?_ _));exact BK158.out⟩,⟨by repeat (first|(with_reducible first|exact HB.out|apply lA|apply lN|apply lD|refine lS ?_ GE158.out|refine lS ?_ GE164.out)|exact HB.out)⟩⟩
        ·replace c47:=Bool.eq_false_iff.mpr c47
         subst c47
         have H1 : (some false) = some r:=by rw [if_neg (show ¬ (false = true) by decide)] at H;exact H
         clear H
         have H:=H1
         clear H1
         obtain rfl:=Option.some.inj H
         have hcz88_0 : wr.cell? ⟨gb158,0,none⟩ = some (.slice A0_0 l0_0.length c0_0):=(bC BK158.out 0).trans rfl
         have hcz88_1 : wr.cell? ⟨gb158,1,none⟩ = some (.slice A0_1 l0_1.length c0_1):=(bC BK158.out 1).trans rfl
         have hcz88_2 : wr.cell? ⟨gb158,2,none⟩ = some (.string a0_2):=(bC BK158.out 2).trans rfl
         have hfz88_0:=bF BK158.out 0
         have hfz88_1:=bF BK158.out 1
         have hfz88_2:=bF BK158.out 2
         have p163 : 0 ≤ (x5_2 : Int):=of_decide_eq_true (by first|(with_reducible assumption)|assumption)
         have q163 : x5_2 < (l0_1.length : Int):=of_decide_eq_true (by first|(with_reducible assumption)|assumption)
         obtain ⟨ad163,e163,hx163_0,hx163_1,hx163_2⟩:=at_T61 HR0_1.out x5_2 p163 q163
         cases e163
         replace hx163_0:=(HB.out.cell (World.block_lt_of_cell? w _ hx163_0)).trans hx163_0
         replace hx163_1:=(HB.out.cell (World.block_lt_of_cell? w _ hx163_1)).trans hx163_1
         replace hx163_2:=(HB.out.cell (World.block_lt_of_cell? w _ hx163_2)).trans hx163_2
         replace p163:=eq_true p163
         replace q163:=eq_true q163
         try go_wp2_with (first|((with_reducible refine gate_dst (N:=6) rfl ?_);(try (refine gate_guard (by rfl) ?_;dsimp only));refine box_event ?hg (N:=6) ?hd (cs:=#[.string (⟨#[]⟩ : ByteArray),.string (⟨#[]⟩ : ByteArray),.string (⟨#[]⟩ : ByteArray)]) (t:=61) ?hr ?_;(case hd => rfl);(case hg => rfl);(case hr => first|(go_simp;done)|(go_simp;rfl));intro gb164 hg w89 hbox hb;have n0_:=aM (bB (g:=gb158) (o:=.cells #[.slice A0_0 l0_0.length c0_0,.slice (some ad163) l0_1.length c0_1,.string a0_2] 54 (0,0)) (by (with_reducible repeat (first|refine bN ?_ _|refine bD ?_|refine bA ?_ _));exact BK158.out) hb);have n1_:=aM (lP (by repeat (first|(with_reducible first|exact HB.out|apply lA|apply lN|apply lD|refine lS ?_ GE158.out)|exact HB.out)) hb);have n2_:=aM (hbox);have n3_:=aM ((by rw [hg];exact (lZ (by repeat (first|(with_reducible first|exact HB.out|apply lA|apply lN|apply lD|refine lS ?_ GE158.out)|exact HB.out))) : w.heap.size ≤ gb164));have n4_:=aM ((by rw [hg];exact (lZ (by repeat (first|(with_reducible first|exact HB.out|apply lA|apply lN|apply lD|refine lS ?_ GE158.out)|exact HB.out))) : w.heap.size ≤ gb164));have n5_:=aM ((by rw [hg];exact Nat.ne_of_lt (bL (g:=gb158) (o:=.cells #[.slice A0_0 l0_0.length c0_0,.slice (some ad163) l0_1.length c0_1,.string a0_2] 54 (0,0)) (by (with_reducible repeat (first|refine bN ?_ _|refine bD ?_|refine bA ?_ _));exact BK158.out)) : gb158 ≠ gb164));have n6_:=aM ((by rw [hg];exact Nat.ne_of_gt (bL (g:=gb158) (o:=.cells #[.slice A0_0 l0_0.length c0_0,.slice (some ad163) l0_1.length c0_1,.string a0_2] 54 (0,0)) (by (with_reducible repeat (first|refine bN ?_ _|refine bD ?_|refine bA ?_ _));exact BK158.out)) : gb164 ≠ gb158));clear BK158 HB;have BK158:=n0_;have HB:=n1_;have BK164:=n2_;have GW164:=n3_;have GE164:=n4_;have NB158_164:=n5_;have NB164_158:=n6_;clear n0_ n1_ n2_ n3_ n4_ n5_ n6_ hb hbox hg;have hnb90:=NB164_158.out;have hnc90:=NB158_164.out;have hcz91_0 : w89.cell? ⟨gb164,0,none⟩ = some (.string (⟨#[]⟩ : ByteArray)):=(bC BK164.out 0).trans rfl;have hcz91_1 : w89.cell? ⟨gb164,1,none⟩ = some (.string (⟨#[]⟩ : ByteArray)):=(bC BK164.out 1).trans rfl;have hcz91_2 : w89.cell? ⟨gb164,2,none⟩ = some (.string (⟨#[]⟩ : ByteArray)):=(bC BK164.out 2).trans rfl;have hfz91_0:=bF BK164.out 0;have hfz91_1:=bF BK164.out 1;have hfz91_2:=bF BK164.out 2))
         have n0_ : Aside0 ((((w89.setCell ⟨gb164,0,none⟩ (.string ((rd_T61 l0_1 x5_2).f0))).setCell ⟨gb164,1,none⟩ (.string ((rd_T61 l0_1 x5_2).f1))).setCell ⟨gb164,2,none⟩ (.string ((rd_T61 l0_1 x5_2).f2))).heap[gb158]? = some (.cells #[.slice A0_0 l0_0.length c0_0,.slice (some ad163) l0_1.length c0_1,.string a0_2] 54 (0,0))):=⟨by (with_reducible repeat (first|refine bN ?_ _|refine bD ?_|refine bA ?_ _));refine blk_far ?_ NB158_164.out _;(with_reducible repeat (first|refine bN ?_ _|refine bD ?_|refine bA ?_ _));refine blk_far ?_ NB158_164.out _;(with_reducible repeat (first|refine bN ?_ _|refine bD ?_|refine bA ?_ _));refine blk_far ?_ NB158_164.out _;(with_reducible repeat (first|refine bN ?_ _|refine bD ?_|refine bA ?_ _));exact BK158.out⟩
         have n1_ : Aside0 ((((w89.setCell ⟨gb164,0,none⟩ (.string ((rd_T61 l0_1 x5_2).f0))).setCell ⟨gb164,1,none⟩ (.string ((rd_T61 l0_1 x5_2).f1))).setCell ⟨gb164,2,none⟩ (.string ((rd_T61 l0_1 x5_2).f2))).heap[gb164]? = some (.cells #[.string ((rd_T61 l0_1 x5_2).f0),.string ((rd_T61 l0_1 x5_2).f1),.string ((rd_T61 l0_1 x5_2).f2)] 61 (0,0))):=⟨by (with_reducible repeat (first|refine bN ?_ _|refine bD ?_|refine bA ?_ _));refine blk_put (cs:=#[.string ((rd_T61 l0_1 x5_2).f0),.string ((rd_T61 l0_1 x5_2).f1),.string (⟨#[]⟩ : ByteArray)]) ?_ 2 _ rfl;(with_reducible repeat (first|refine bN ?_ _|refine bD ?_|refine bA ?_ _));refine blk_put (cs:=#[.string ((rd_T61 l0_1 x5_2).f0),.string (⟨#[]⟩ : ByteArray),.string (⟨#[]⟩ : ByteArray)]) ?_ 1 _ rfl;(with_reducible repeat (first|refine bN ?_ _|refine bD ?_|refine bA ?_ _));refine blk_put (cs:=#[.string (⟨#[]⟩ : ByteArray),.string (⟨#[]⟩ : ByteArray),.string (⟨#[]⟩ : ByteArray)]) ?_ 0 _ rfl;(with_reducible repeat (first|refine bN ?_ _|refine bD ?_|refine bA ?_ _));exact BK164.out⟩
         have n2_ : Aside0 (Below w.heap.size w (((w89.setCell ⟨gb164,0,none⟩ (.string ((rd_T61 l0_1 x5_2).f0))).setCell ⟨gb164,1,none⟩ (.string ((rd_T61 l0_1 x5_2).f1))).setCell ⟨gb164,2,none⟩ (.string ((rd_T61 l0_1 x5_2).f2)))):=⟨by repeat (first|(with_reducible first|exact HB.out|apply lA|apply lN|apply lD|refine lS ?_ GE158.out|refine lS ?_ GE164.out)|exact HB.out)⟩
         (try clear BK158)
         (try clear BK164)
         (try clear HB)
         generalize (((w89.setCell ⟨gb164,0,none⟩ (.string ((rd_T61 l0_1 x5_2).f0))).setCell ⟨gb164,1,none⟩ (.string ((rd_T61 l0_1 x5_2).f1))).setCell ⟨gb164,2,none⟩ (.string ((rd_T61 l0_1 x5_2).f2))) = w92 at n0_ n1_ n2_ ⊢
         have BK158:=n0_
         have BK164:=n1_
         have HB:=n2_
         clear n0_ n1_ n2_
         have n0_:=aM (bD BK158.out)
         have n1_:=aM (bD BK164.out)
         have n2_:=aM (lD HB.out)
         clear BK158
         clear BK164
         clear HB
         have BK158:=n0_
         have BK164:=n1_
         have HB:=n2_
         clear n0_ n1_ n2_
         refine start_ (n:=31) (S:=fun w' => w'.cell? ⟨gb164,0,none⟩ = some (.string ((rd_T61 l0_1 x5_2).f0)) ∧ w'.cell? ⟨gb164,1,none⟩ = some (.string ((rd_T61 l0_1 x5_2).f1)) ∧ w'.cell? ⟨gb164,2,none⟩ = some (.string ((rd_T61 l0_1 x5_2).f2))) (ds:=[]) #[bf,bf,bf,bf,bf,bf,bf,bf,bf,bf,bf,bf,bf,bf,bf,bf,bf,bf,bf,bf,bf,bf,bf,bf,bf,bf,bf,bf,bf,bf,bf] (by kernel_rfl) rfl rfl ⟨(bC BK164.out 0).trans rfl,(bC BK164.out 1).trans rfl,(bC BK164.out 2).trans rfl⟩ (fun hHeld => ?_);refine with_tabW spec_StoreOk.tab11 spec_StoreOk.bits11 (fun HT_ HW_ => ?_)
         generalize w92.drew = w93 at BK158 BK164 HB hHeld ⊢
         refine pure_ (i:=0) (N:=some 57) (v:=?_) (a':=?_) #[bT,bf,bf,bf,bf,bf,bf,bf,bf,bf,bf,bf,bf,bf,bf,bf,bf,bf,bf,bf,bf,bf,bf,bf,bf,bf,bf,bf,bf,bf,bf] rfl rfl (any_of HT_.out (by kernel_rfl)) (fun _ _ _ h => h) (Or.inl ⟨by rfl,?_⟩) ?_ ?_
         rotate_left
         ·intro w';go_simp;with_reducible rfl
         rotate_left
         ·simp only [Act.put,q_ia4,q_cz4,q_cs4,i64_w,i32_w];rfl
         refine take_ (i:=1) (N:=some 58) (v:=?_) (a':=?_) #[bT,bT,bf,bf,bf,bf,bf,bf,bf,bf,bf,bf,bf,bf,bf,bf,bf,bf,bf,bf,bf,bf,bf,bf,bf,bf,bf,bf,bf,bf,bf] rfl rfl (take_ofW HT_.out HW_.out (by kernel_rfl)) (fun _ _ _ h => h) (Or.inl ⟨by rfl,?_⟩) hHeld ?_ ?_
         rotate_left
         ·rintro w' ⟨s0,s1,s2⟩
          go_simp
          with_reducible rfl
         rotate_left
         ·simp only [Act.put,q_ia4,q_cz4,q_cs4,i64_w,i32_w];rfl
         refine one_ (i:=2) (N:=some 59) #[bT,bT,bT,bf,bf,bf,bf,bf,bf,bf,bf,bf,bf,bf,bf,bf,bf,bf,bf,bf,bf,bf,bf,bf,bf,bf,bf,bf,bf,bf,bf] rfl rfl (one_of HT_.out (by kernel_rfl)) (by decide) (fun K hK => ?_)
         refine goes_ Try.func105 (by kernel_rfl) rfl #[.string ((rd_T61 l0_1 x5_2).f0)] (by rfl) rfl rfl (by (try simp only [List.map_toArray,List.map_cons,List.map_nil]);first|done|rfl|(simp only [List.length_drop,List.length_take];rfl)) ?_
         with_reducible refine (spec_l07Name.calls k2 ((rd_T61 l0_1 x5_2).f0) false _ A46.out).mono ?_
         rintro e w' ⟨rfl,⟨nd,rfl⟩⟩
         refine ⟨_,rfl,?_⟩
         refine hK.out _ _ ⟨(bC BK164.out 0).trans rfl,(bC BK164.out 1).trans rfl,(bC BK164.out 2).trans rfl⟩ (fun hHeld => ?_)
         clear hK K
         refine norm_ (a':=?_) ?_ ?_
         rotate_left
         ·show Act.put _ (some 59) _ = _
          simp only [Act.put,q_ia4,q_cz4,q_cs4,i64_w,i32_w]
          rfl
         refine pure_ (i:=3) (N:=some 60) (v:=?_) (a':=?_) #[bT,bT,bT,bT,bf,bf,bf,bf,bf,bf,bf,bf,bf,bf,bf,bf,bf,bf,bf,bf,bf,bf,bf,bf,bf,bf,bf,bf,bf,bf,bf] rfl rfl (any_of HT_.out (by kernel_rfl)) (fun _ _ _ h => h) (Or.inl ⟨by rfl,?_⟩) ?_ ?_
         rotate_left
         ·intro w';go_simp;with_reducible rfl
         rotate_left
         ·simp only [Act.put,q_ia4,q_cz4,q_cs4,i64_w,i32_w];rfl
         refine pure_ (i:=4) (N:=some 61) (v:=?_) (a':=?_) #[bT,bT,bT,bT,bT,bf,bf,bf,bf,bf,bf,bf,bf,bf,bf,bf,bf,bf,bf,bf,bf,bf,bf,bf,bf,bf,bf,bf,bf,bf,bf] rfl rfl (any_of HT_.out (by kernel_rfl)) (fun _ _ _ h => h) (Or.inl ⟨by rfl,?_⟩) ?_ ?_
         rotate_left
         ·intro w';go_simp;with_reducible rfl
         rotate_left
         ·simp only [Act.put,q_ia4,q_cz4,q_cs4,i64_w,i32_w];rfl
         refine pure_ (i:=5) (N:=some 62) (v:=undef) (a':=?_) #[bT,bT,bT,bT,bT,bT,bf,bf,bf,bf,bf,bf,bf,bf,bf,bf,bf,bf,bf,bf,bf,bf,bf,bf,bf,bf,bf,bf,bf,bf,bf] rfl rfl (any_of HT_.out (by kernel_rfl)) (fun _ _ _ h => h) (Or.inr ⟨by rfl,rfl⟩) ?_ ?_
         rotate_left
         ·simp only [Act.put,q_ia4,q_cz4,q_cs4,i64_w,i32_w];rfl
         refine pure_ (i:=6) (N:=some 63) (v:=undef) (a':=?_) #[bT,bT,bT,bT,bT,bT,bT,bf,bf,bf,bf,bf,bf,bf,bf,bf,bf,bf,bf,bf,bf,bf,bf,bf,bf,bf,bf,bf,bf,bf,bf] rfl rfl (any_of HT_.out (by kernel_rfl)) (fun _ _ _ h => h) (Or.inr ⟨by rfl,rfl⟩) ?_ ?_
         rotate_left
         ·simp only [Act.put,q_ia4,q_cz4,q_cs4,i64_w,i32_w];rfl
         refine pure_ (i:=7) (N:=some 64) (v:=undef) (a':=?_) #[bT,bT,bT,bT,bT,bT,bT,bT,bf,bf,bf,bf,bf,bf,bf,bf,bf,bf,bf,bf,bf,bf,bf,bf,bf,bf,bf,bf,bf,bf,bf] rfl rfl (any_of HT_.out (by kernel_rfl)) (fun _ _ _ h => h) (Or.inr ⟨by rfl,rfl⟩) ?_ ?_
         rotate_left
         ·simp only [Act.put,q_ia4,q_cz4,q_cs4,i64_w,i32_w];rfl
         refine pure_ (i:=8) (N:=some 65) (v:=undef) (a':=?_) #[bT,bT,bT,bT,bT,bT,bT,bT,bT,bf,bf,bf,bf,bf,bf,bf,bf,bf,bf,bf,bf,bf,bf,bf,bf,bf,bf,bf,bf,bf,bf] rfl rfl (any_of HT_.out (by kernel_rfl)) (fun _ _ _ h => h) (Or.inr ⟨by rfl,rfl⟩) ?_ ?_
         rotate_left
         ·simp only [Act.put,q_ia4,q_cz4,q_cs4,i64_w,i32_w];rfl
         refine pure_ (i:=9) (N:=some 66) (v:=?_) (a':=?_) #[bT,bT,bT,bT,bT,bT,bT,bT,bT,bT,bf,bf,bf,bf,bf,bf,bf,bf,bf,bf,bf,bf,bf,bf,bf,bf,bf,bf,bf,bf,bf] rfl rfl (any_of HT_.out (by kernel_rfl)) (fun _ _ _ h => h) (Or.inl ⟨by rfl,?_⟩) ?_ ?_
         rotate_left
         ·intro w';go_simp;with_reducible rfl
         rotate_left
         ·simp only [Act.put,q_ia4,q_cz4,q_cs4,i64_w,i32_w];rfl
         refine pure_ (i:=10) (N:=some 67) (v:=?_) (a':=?_) #[bT,bT,bT,bT,bT,bT,bT,bT,bT,bT,bT,bf,bf,bf,bf,bf,bf,bf,bf,bf,bf,bf,bf,bf,bf,bf,bf,bf,bf,bf,bf] rfl rfl (any_of HT_.out (by kernel_rfl)) (fun _ _ _ h => h) (Or.inl ⟨by rfl,?_⟩) ?_ ?_
         rotate_left
         ·intro w';go_simp;with_reducible rfl
         rotate_left
         ·simp only [Act.put,q_ia4,q_cz4,q_cs4,i64_w,i32_w];rfl
         refine pure_ (i:=11) (N:=some 68) (v:=undef) (a':=?_) #[bT,bT,bT,bT,bT,bT,bT,bT,bT,bT,bT,bT,bf,bf,bf,bf,bf,bf,bf,bf,bf,bf,bf,bf,bf,bf,bf,bf,bf,bf,bf] rfl rfl (any_of HT_.out (by kernel_rfl)) (fun _ _ _ h => h) (Or.inr ⟨by rfl,rfl⟩) ?_ ?_
         rotate_left
         ·simp only [Act.put,q_ia4,q_cz4,q_cs4,i64_w,i32_w];rfl
         refine pure_ (i:=12) (N:=some 69) (v:=undef) (a':=?_) #[bT,bT,bT,bT,bT,bT,bT,bT,bT,bT,bT,bT,bT,bf,bf,bf,bf,bf,bf,bf,bf,bf,bf,bf,bf,bf,bf,bf,bf,bf,bf] rfl rfl (any_of HT_.out (by kernel_rfl)) (fun _ _ _ h => h) (Or.inr ⟨by rfl,rfl⟩) ?_ ?_
         rotate_left
         ·simp only [Act.put,q_ia4,q_cz4,q_cs4,i64_w,i32_w];rfl
         refine pure_ (i:=13) (N:=some 70) (v:=undef) (a':=?_) #[bT,bT,bT,bT,bT,bT,bT,bT,bT,bT,bT,bT,bT,bT,bf,bf,bf,bf,bf,bf,bf,bf,bf,bf,bf,bf,bf,bf,bf,bf,bf] rfl rfl (any_of HT_.out (by kernel_rfl)) (fun _ _ _ h => h) (Or.inr ⟨by rfl,rfl⟩) ?_ ?_
         rotate_left
         ·simp only [Act.put,q_ia4,q_cz4,q_cs4,i64_w,i32_w];rfl
         refine pure_ (i:=14) (N:=some 71) (v:=undef) (a':=?_) #[bT,bT,bT,bT,bT,bT,bT,bT,bT,bT,bT,bT,bT,bT,bT,bf,bf,bf,bf,bf,bf,bf,bf,bf,bf,bf,bf,bf,bf,bf,bf] rfl rfl (any_of HT_.out (by kernel_rfl)) (fun _ _ _ h => h) (Or.inr ⟨by rfl,rfl⟩) ?_ ?_
         rotate_left
         ·simp only [Act.put,q_ia4,q_cz4,q_cs4,i64_w,i32_w];rfl
         refine pure_ (i:=15) (N:=some 72) (v:=?_) (a':=?_) #[bT,bT,bT,bT,bT,bT,bT,bT,bT,bT,bT,bT,bT,bT,bT,bT,bf,bf,bf,bf,bf,bf,bf,bf,bf,bf,bf,bf,bf,bf,bf] rfl rfl (any_of HT_.out (by kernel_rfl)) (fun _ _ _ h => h) (Or.inl ⟨by rfl,?_⟩) ?_ ?_
         rotate_left
         ·intro w';go_simp;with_reducible rfl
         rotate_left
         ·simp only [Act.put,q_ia4,q_cz4,q_cs4,i64_w,i32_w];rfl
         refine pure_ (i:=16) (N:=some 73) (v:=?_) (a':=?_) #[bT,bT,bT,bT,bT,bT,bT,bT,bT,bT,bT,bT,bT,bT,bT,bT,bT,bf,bf,bf,bf,bf,bf,bf,bf,bf,bf,bf,bf,bf,bf] rfl rfl (any_of HT_.out (by kernel_rfl)) (fun _ _ _ h => h) (Or.inl ⟨by rfl,?_⟩) ?_ ?_
         rotate_left
         ·intro w';go_simp;with_reducible rfl
         rotate_left
         ·simp only [Act.put,q_ia4,q_cz4,q_cs4,i64_w,i32_w];rfl
         refine pure_ (i:=17) (N:=some 74) (v:=undef) (a':=?_) #[bT,bT,bT,bT,bT,bT,bT,bT,bT,bT,bT,bT,bT,bT,bT,bT,bT,bT,bf,bf,bf,bf,bf,bf,bf,bf,bf,bf,bf,bf,bf] rfl rfl (any_of HT_.out (by kernel_rfl)) (fun _ _ _ h => h) (Or.inr ⟨by rfl,rfl⟩) ?_ ?_
         rotate_left
         ·simp only [Act.put,q_ia4,q_cz4,q_cs4,i64_w,i32_w];rfl
         refine pure_ (i:=18) (N:=some 75) (v:=undef) (a':=?_) #[bT,bT,bT,bT,bT,bT,bT,bT,bT,bT,bT,bT,bT,bT,bT,bT,bT,bT,bT,bf,bf,bf,bf,bf,bf,bf,bf,bf,bf,bf,bf] rfl rfl (any_of HT_.out (by kernel_rfl)) (fun _ _ _ h => h) (Or.inr ⟨by rfl,rfl⟩) ?_ ?_
         rotate_left
         ·simp only [Act.put,q_ia4,q_cz4,q_cs4,i64_w,i32_w];rfl
         refine pure_ (i:=19) (N:=some 76) (v:=undef) (a':=?_) #[bT,bT,bT,bT,bT,bT,bT,bT,bT,bT,bT,bT,bT,bT,bT,bT,bT,bT,bT,bT,bf,bf,bf,bf,bf,bf,bf,bf,bf,bf,bf] rfl rfl (any_of HT_.out (by kernel_rfl)) (fun _ _ _ h => h) (Or.inr ⟨by rfl,rfl⟩) ?_ ?_
         rotate_left
         ·simp only [Act.put,q_ia4,q_cz4,q_cs4,i64_w,i32_w];rfl
         refine pure_ (i:=20) (N:=some 77) (v:=undef) (a':=?_) #[bT,bT,bT,bT,bT,bT,bT,bT,bT,bT,bT,bT,bT,bT,bT,bT,bT,bT,bT,bT,bT,bf,bf,bf,bf,bf,bf,bf,bf,bf,bf] rfl rfl (any_of HT_.out (by kernel_rfl)) (fun _ _ _ h => h) (Or.inr ⟨by rfl,rfl⟩) ?_ ?_
         rotate_left
         ·simp only [Act.put,q_ia4,q_cz4,q_cs4,i64_w,i32_w];rfl
         refine pure_ (i:=21) (N:=some 78) (v:=undef) (a':=?_) #[bT,bT,bT,bT,bT,bT,bT,bT,bT,bT,bT,bT,bT,bT,bT,bT,bT,bT,bT,bT,bT,bT,bf,bf,bf,bf,bf,bf,bf,bf,bf] rfl rfl (any_of HT_.out (by kernel_rfl)) (fun _ _ _ h => h) (Or.inr ⟨by rfl,rfl⟩) ?_ ?_
         rotate_left
         ·simp only [Act.put,q_ia4,q_cz4,q_cs4,i64_w,i32_w];rfl
         refine pure_ (i:=22) (N:=some 79) (v:=undef) (a':=?_) #[bT,bT,bT,bT,bT,bT,bT,bT,bT,bT,bT,bT,bT,bT,bT,bT,bT,bT,bT,bT,bT,bT,bT,bf,bf,bf,bf,bf,bf,bf,bf] rfl rfl (any_of HT_.out (by kernel_rfl)) (fun _ _ _ h => h) (Or.inr ⟨by rfl,rfl⟩) ?_ ?_
         rotate_left
         ·simp only [Act.put,q_ia4,q_cz4,q_cs4,i64_w,i32_w];rfl
         refine pure_ (i:=23) (N:=some 80) (v:=undef) (a':=?_) #[bT,bT,bT,bT,bT,bT,bT,bT,bT,bT,bT,bT,bT,bT,bT,bT,bT,bT,bT,bT,bT,bT,bT,bT,bf,bf,bf,bf,bf,bf,bf] rfl rfl (any_of HT_.out (by kernel_rfl)) (fun _ _ _ h => h) (Or.inr ⟨by rfl,rfl⟩) ?_ ?_
         rotate_left
         ·simp only [Act.put,q_ia4,q_cz4,q_cs4,i64_w,i32_w];rfl
         refine pure_ (i:=24) (N:=some 81) (v:=undef) (a':=?_) #[bT,bT,bT,bT,bT,bT,bT,bT,bT,bT,bT,bT,bT,bT,bT,bT,bT,bT,bT,bT,bT,bT,bT,bT,bT,bf,bf,bf,bf,bf,bf] rfl rfl (any_of HT_.out (by kernel_rfl)) (fun _ _ _ h => h) (Or.inr ⟨by rfl,rfl⟩) ?_ ?_
         rotate_left
         ·simp only [Act.put,q_ia4,q_cz4,q_cs4,i64_w,i32_w];rfl
         refine pure_ (i:=25) (N:=some 82) (v:=undef) (a':=?_) #[bT,bT,bT,bT,bT,bT,bT,bT,bT,bT,bT,bT,bT,bT,bT,bT,bT,bT,bT,bT,bT,bT,bT,bT,bT,bT,bf,bf,bf,bf,bf] rfl rfl (any_of HT_.out (by kernel_rfl)) (fun _ _ _ h => h) (Or.inr ⟨by rfl,rfl⟩) ?_ ?_
         rotate_left
         ·simp only [Act.put,q_ia4,q_cz4,q_cs4,i64_w,i32_w];rfl
         refine pure_ (i:=26) (N:=some 83) (v:=undef) (a':=?_) #[bT,bT,bT,bT,bT,bT,bT,bT,bT,bT,bT,bT,bT,bT,bT,bT,bT,bT,bT,bT,bT,bT,bT,bT,bT,bT,bT,bf,bf,bf,bf] rfl rfl (any_of HT_.out (by kernel_rfl)) (fun _ _ _ h => h) (Or.inr ⟨by rfl,rfl⟩) ?_ ?_
         rotate_left
         ·simp only [Act.put,q_ia4,q_cz4,q_cs4,i64_w,i32_w];rfl
         refine pure_ (i:=27) (N:=some 84) (v:=undef) (a':=?_) #[bT,bT,bT,bT,bT,bT,bT,bT,bT,bT,bT,bT,bT,bT,bT,bT,bT,bT,bT,bT,bT,bT,bT,bT,bT,bT,bT,bT,bf,bf,bf] rfl rfl (any_of HT_.out (by kernel_rfl)) (fun _ _ _ h => h) (Or.inr ⟨by rfl,rfl⟩) ?_ ?_
         rotate_left
         ·simp only [Act.put,q_ia4,q_cz4,q_cs4,i64_w,i32_w];rfl
         refine pure_ (i:=28) (N:=some 85) (v:=undef) (a':=?_) #[bT,bT,bT,bT,bT,bT,bT,bT,bT,bT,bT,bT,bT,bT,bT,bT,bT,bT,bT,bT,bT,bT,bT,bT,bT,bT,bT,bT,bT,bf,bf] rfl rfl (any_of HT_.out (by kernel_rfl)) (fun _ _ _ h => h) (Or.inr ⟨by rfl,rfl⟩) ?_ ?_
         rotate_left
         ·simp only [Act.put,q_ia4,q_cz4,q_cs4,i64_w,i32_w];rfl
         refine pure_ (i:=29) (N:=some 86) (v:=undef) (a':=?_) #[bT,bT,bT,bT,bT,bT,bT,bT,bT,bT,bT,bT,bT,bT,bT,bT,bT,bT,bT,bT,bT,bT,bT,bT,bT,bT,bT,bT,bT,bT,bf] rfl rfl (any_of HT_.out (by kernel_rfl)) (fun _ _ _ h => h) (Or.inr ⟨by rfl,rfl⟩) ?_ ?_
         rotate_left
         ·simp only [Act.put,q_ia4,q_cz4,q_cs4,i64_w,i32_w];rfl
         refine pure_ (i:=30) (N:=some 87) (v:=?_) (a':=?_) #[bT,bT,bT,bT,bT,bT,bT,bT,bT,bT,bT,bT,bT,bT,bT,bT,bT,bT,bT,bT,bT,bT,bT,bT,bT,bT,bT,bT,bT,bT,bT] rfl rfl (any_of HT_.out (by kernel_rfl)) (fun _ _ _ h => h) (Or.inl ⟨by rfl,?_⟩) ?_ ?_
         rotate_left
         ·intro w';go_simp;with_reducible rfl
         rotate_left
         ·simp only [Act.put,q_ia4,q_cz4,q_cs4,i64_w,i32_w];rfl
         refine done_ (done_of HT_.out (by kernel_rfl)) ?_
         try go_wp2
         go_ret
         exact ⟨by first|rfl|(simp [errW_none,errW_some] <;> rfl)|(simp [*,errW_none,errW_some] <;> rfl),by repeat (first|(with_reducible first|exact HB.out|apply lA|apply lN|apply lD|refine lS ?_ GE158.out|refine lS ?_ GE164.out)|exact HB.out)⟩
       ·rw [if_neg c45] at H
        exact absurd H (by simp)
      ·rw [if_neg c44] at H
       have c44b0 : decide (x5_2 < (l0_1.length : Int)) = false:=decide_eq_false c44
       clear c44
       by_cases c94 : (l0_0.length : Int) ≤ 60
       ·rw [if_pos c94] at H
        have c94b0 : decide ((l0_0.length : Int) ≤ 60) = true:=decide_eq_true c94
        have c94b1 : decide (l0_0.length ≤ 60) = true:=decide_eq_true (by omega)
        clear c94
        by_cases c95 : (l0_1.length : Int) ≤ 2000
        ·rw [if_pos c95] at H
         have c95b0 : decide ((l0_1.length : Int) ≤ 2000) = true:=decide_eq_true c95
         have c95b1 : decide (l0_1.length ≤ 2000) = true:=decide_eq_true (by omega)
         clear c95
         obtain rfl:=Option.some.inj H
         have hcz96_0 : wr.cell? ⟨gb158,0,none⟩ = some (.slice A0_0 l0_0.length c0_0):=(bC BK158.out 0).trans rfl
         have hcz96_1 : wr.cell? ⟨gb158,1,none⟩ = some (.slice A0_1 l0_1.length c0_1):=(bC BK158.out 1).trans rfl
         have hcz96_2 : wr.cell? ⟨gb158,2,none⟩ = some (.string a0_2):=(bC BK158.out 2).trans rfl
         have hfz96_0:=bF BK158.out 0
         have hfz96_1:=bF BK158.out 1
         have hfz96_2:=bF BK158.out 2
         go_wp2
         go_ret
         exact ⟨by first|rfl|(simp [errW_none,errW_some] <;> rfl)|(simp [*,errW_none,errW_some] <;> rfl),by repeat (first|(with_reducible first|exact HB.out|apply lA|apply lN|apply lD|refine lS ?_ GE158.out)|exact HB.out)⟩
        ·rw [if_neg c95] at H
         have c95b0 : decide ((l0_1.length : Int) ≤ 2000) = false:=decide_eq_false c95
         have c95b1 : decide (l0_1.length ≤ 2000) = false:=decide_eq_false (by omega)
         clear c95
         obtain rfl:=Option.some.inj H
         have hcz97_0 : wr.cell? ⟨gb158,0,none⟩ = some (.slice A0_0 l0_0.length c0_0):=(bC BK158.out 0).trans rfl
         have hcz97_1 : wr.cell? ⟨gb158,1,none⟩ = some (.slice A0_1 l0_1.length c0_1):=(bC BK158.out 1).trans rfl
         have hcz97_2 : wr.cell? ⟨gb158,2,none⟩ = some (.string a0_2):=(bC BK158.out 2).trans rfl
         have hfz97_0:=bF BK158.out 0
         have hfz97_1:=bF BK158.out 1
         have hfz97_2:=bF BK158.out 2
         go_wp2
         go_ret
         exact ⟨by first|rfl|(simp [errW_none,errW_some] <;> rfl)|(simp [*,errW_none,errW_some] <;> rfl),by repeat (first|(with_reducible first|exact HB.out|apply lA|apply lN|apply lD|refine lS ?_ GE158.out)|exact HB.out)⟩
       ·rw [if_neg c94] at H
        have c94b0 : decide ((l0_0.length : Int) ≤ 60) = false:=decide_eq_false c94
        have c94b1 : decide (l0_0.length ≤ 60) = false:=decide_eq_false (by omega)
        clear c94
        obtain rfl:=Option.some.inj H
        have hcz98_0 : wr.cell? ⟨gb158,0,none⟩ = some (.slice A0_0 l0_0.length c0_0):=(bC BK158.out 0).trans rfl
        have hcz98_1 : wr.cell? ⟨gb158,1,none⟩ = some (.slice A0_1 l0_1.length c0_1):=(bC BK158.out 1).trans rfl
        have hcz98_2 : wr.cell? ⟨gb158,2,none⟩ = some (.string a0_2):=(bC BK158.out 2).trans rfl
        have hfz98_0:=bF BK158.out 0
        have hfz98_1:=bF BK158.out 1
        have hfz98_2:=bF BK158.out 2
        go_wp2
        go_ret
        exact ⟨by first|rfl|(simp [errW_none,errW_some] <;> rfl)|(simp [*,errW_none,errW_some] <;> rfl),by repeat (first|(with_reducible first|exact HB.out|apply lA|apply lN|apply lD|refine lS ?_ GE158.out)|exact HB.out)⟩

end Go.Proofs.Ytjbfppakafkkoaa.QFnExactStoreOk
