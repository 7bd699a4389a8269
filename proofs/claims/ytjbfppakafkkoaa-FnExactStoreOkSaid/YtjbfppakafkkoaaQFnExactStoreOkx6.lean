-- A text of this session, made by wip/own_print.py (the kit's print with additions of ours).
import Derived.Test.YtjbfppakafkkoaaQFnExactStoreOkx0
import Derived.Test.YtjbfppakafkkoaaQFnExactStoreOkx5
namespace Go.Proofs.Ytjbfppakafkkoaa.QFnExactStoreOk
open Go.RowKit Go.Proofs.YtjbfppakafkkoaaW.PrintWords Go.Proofs.YtjbfppakafkkoaaW.PrintLast Go.Proofs.YtjbfppakafkkoaaW.PrintMore
attribute [local go_sem] max2_int min2_int max_two min_two max_three min_three max_four min_four   -- for this text's walks alone
set_option linter.unusedVariables false
set_option linter.unusedSimpArgs false
open Bool renaming true → bT, false → bf
open Go.Proofs.YtjbfppakafkkoaaW.PrintWords.Kd renaming R_alloc → rA, R_drewN → rN, R_drew → rD, C_alloc → cA, C_drewN → cN, C_drew → cD, R_far → rF, R_below → rB, R_lower → rL, R_lt → rT, R_base → rS, C_below → cB, R_types → rY, R_elder' → rE, R_reads' → rR, R_new' → rW
open Go.Proofs.YtjbfppakafkkoaaW.PrintWords renaming blk_drewN → bN, blk_drew → bD, blk_alloc → bA, below_set → lS, pw_below_drewN → lN, below_drew1 → lD, below_alloc → lA, blk_cell → bC, blk_below → bB, below_size → lZ, below_step → lP, blk_lt → bL, blk_frozen → bF
open Go.Proofs.YtjbfppakafkkoaaW.PrintWords.Aside0 renaming mk → aM
theorem q_ia5 {α : Type} (l : List α) (i : Nat) (a : α) : l.toArray.setIfInBounds i a = (l.set i a).toArray := List.setIfInBounds_toArray ..
theorem q_cz5 {α : Type} (a b : α) (l : List α) : (a :: l).set 0 b = b :: l := rfl
theorem q_cs5 {α : Type} (a b : α) (l : List α) (n : Nat) : (a :: l).set (n + 1) b = a :: l.set n b := rfl

/-! ### impl_StoreOk: function 57 -/
mutual
def impl_StoreOk.l0 : Nat → List (S105) → Int → Int → List (S105) → List (S61) → ByteArray → Option (Bool)
 | 0, _, _, _, _, _, _ => none
 | k + 1, x8, x9, x10, x177000, x177001, x177002 => if x10 < x9 then (if 0 ≤ x10 then (if x10 < (x8.length : Int) then ((impl_isLetters.f k ((rd_T105 x8 x10).f0)).bind fun t179 => (if t179 = true then (if (((rd_T105 x8 x10).f1).size : Int) > 40 then (some false) else (if x10 > 0 then (if 0 ≤ (wrap64 (x10 - 1)) then (if (wrap64 (x10 - 1)) < (x177000.length : Int) then (if ((Op.bytesLess (((rd_T105 x177000 (wrap64 (x10 - 1))).f0).toList) (((rd_T105 x8 x10).f0).toList)) = true) then (impl_StoreOk.l0 k x8 x9 (wrap64 (x10 + 1)) x177000 x177001 x177002) else (some false)) else (none)) else (none)) else (impl_StoreOk.l0 k x8 x9 (wrap64 (x10 + 1)) x177000 x177001 x177002))) else (some false))) else (none)) else (none)) else (impl_StoreOk.l1 k x177001 (x177001.length : Int) 0 x177000 x177001 x177002)
def impl_StoreOk.l1 : Nat → List (S61) → Int → Int → List (S105) → List (S61) → ByteArray → Option (Bool)
 | 0, _, _, _, _, _, _ => none
 | k + 1, x43, x44, x45, x177000, x177001, x177002 => if x45 < x44 then (if 0 ≤ x45 then (if x45 < (x43.length : Int) then ((impl_isLetters.f k ((rd_T61 x43 x45).f0)).bind fun t183 => (if t183 = true then (if (((rd_T61 x43 x45).f1).size : Int) > 40 then (some false) else (if (((rd_T61 x43 x45).f2).size : Int) > 40 then (some false) else (if x45 > 0 then (if 0 ≤ (wrap64 (x45 - 1)) then (if (wrap64 (x45 - 1)) < (x177001.length : Int) then ((impl_byKey.f ((rd_T61 x177001 (wrap64 (x45 - 1))).f0) ((rd_T61 x177001 (wrap64 (x45 - 1))).f1) ((rd_T61 x177001 (wrap64 (x45 - 1))).f2) ((rd_T61 x43 x45).f0) ((rd_T61 x43 x45).f1) ((rd_T61 x43 x45).f2)).bind fun t185 => (if t185 ≥ 0 then (some false) else (impl_StoreOk.l1 k x43 x44 (wrap64 (x45 + 1)) x177000 x177001 x177002))) else (none)) else (none)) else (impl_StoreOk.l1 k x43 x44 (wrap64 (x45 + 1)) x177000 x177001 x177002)))) else (some false))) else (none)) else (none)) else (if (x177000.length : Int) ≤ 60 then (if (x177001.length : Int) ≤ 2000 then (some (decide ((x177002.size : Int) ≤ 3000))) else (some false)) else (some false))
end
def impl_StoreOk.f (k : Nat) (l0_0 : List (S105)) (l0_1 : List (S61)) (a0_2 : ByteArray) : Option (Bool) := impl_StoreOk.l0 k l0_0 (l0_0.length : Int) 0 l0_0 l0_1 a0_2
theorem impl_StoreOk.mono_l : ∀ k, (∀ y0 y1 y2 y3 y4 y5, LeO (impl_StoreOk.l0 k y0 y1 y2 y3 y4 y5) (impl_StoreOk.l0 (k + 1) y0 y1 y2 y3 y4 y5)) ∧ (∀ y0 y1 y2 y3 y4 y5, LeO (impl_StoreOk.l1 k y0 y1 y2 y3 y4 y5) (impl_StoreOk.l1 (k + 1) y0 y1 y2 y3 y4 y5))
 | 0 => ⟨fun _ _ _ _ _ _ r h => by simp [impl_StoreOk.l0] at h, fun _ _ _ _ _ _ r h => by simp [impl_StoreOk.l1] at h⟩
 | k + 1 => by
  obtain ⟨ih0, ih1⟩ := impl_StoreOk.mono_l k
  refine ⟨?_, ?_⟩
  ·intro y0 y1 y2 y3 y4 y5
   unfold impl_StoreOk.l0
   repeat' first
   | (with_reducible exact ih0 _ _ _ _ _ _)
   | (with_reducible exact ih1 _ _ _ _ _ _)
   | (with_reducible exact impl_isLetters.mono _ _)
   | (with_reducible exact LeO.refl _)
   | (with_reducible exact LeO.none _)
   | (with_reducible refine LeO.ite ?_ ?_)
   | (with_reducible refine LeO.bind ?_ (fun _ => ?_))
   | exact ih0 _ _ _ _ _ _
   | exact ih1 _ _ _ _ _ _
   | exact impl_isLetters.mono _ _
   | exact LeO.none _
   | refine LeO.ite ?_ ?_
   | refine LeO.bind ?_ (fun _ => ?_)
  ·intro y0 y1 y2 y3 y4 y5
   unfold impl_StoreOk.l1
   repeat' first
   | (with_reducible exact ih0 _ _ _ _ _ _)
   | (with_reducible exact ih1 _ _ _ _ _ _)
   | (with_reducible exact impl_isLetters.mono _ _)
   | (with_reducible exact LeO.refl _)
   | (with_reducible exact LeO.none _)
   | (with_reducible refine LeO.ite ?_ ?_)
   | (with_reducible refine LeO.bind ?_ (fun _ => ?_))
   | exact ih0 _ _ _ _ _ _
   | exact ih1 _ _ _ _ _ _
   | exact impl_isLetters.mono _ _
   | exact LeO.none _
   | refine LeO.ite ?_ ?_
   | refine LeO.bind ?_ (fun _ => ?_)
theorem impl_StoreOk.mono : ∀ a0 a1 a2 k, LeO (impl_StoreOk.f k a0 a1 a2) (impl_StoreOk.f (k + 1) a0 a1 a2) := by
 intro a0 a1 a2 k
 obtain ⟨ih0, ih1⟩ := impl_StoreOk.mono_l k
 unfold impl_StoreOk.f
 repeat' first
   | (with_reducible exact ih0 _ _ _ _ _ _)
   | (with_reducible exact ih1 _ _ _ _ _ _)
   | (with_reducible exact impl_isLetters.mono _ _)
   | (with_reducible exact LeO.refl _)
   | (with_reducible exact LeO.none _)
   | (with_reducible refine LeO.ite ?_ ?_)
   | (with_reducible refine LeO.bind ?_ (fun _ => ?_))
   | exact ih0 _ _ _ _ _ _
   | exact ih1 _ _ _ _ _ _
   | exact impl_isLetters.mono _ _
   | exact LeO.none _
   | refine LeO.ite ?_ ?_
   | refine LeO.bind ?_ (fun _ => ?_)
def impl_StoreOk.T4 : Bool × List (List Nat × List Nat) := (true, [([], []), ([0], [0]), ([1], [1]), ([2], [2]), ([3, 2], [3]), ([4], [4]), ([5, 4], [4, 5]), ([6, 4], [4, 6]), ([7, 4], [4, 7]), ([4, 8], [4, 8]), ([9, 4], [9]), ([10], [10]), ([11, 10], [10, 11]), ([12, 10, 10], [10, 12]), ([13], [13]), ([14, 13], [13, 14]), ([13], [13]), ([16, 13], [13, 16]), ([15, 17, 13], [13, 15, 17]), ([18, 13], [13, 18]), ([19, 13], [13, 19]), ([13], [13]), ([21, 13], [13, 21]), ([20, 22, 13], [13, 20, 22]), ([13, 23, 10], [10, 13, 23]), ([10, 24], [10, 24])])
def impl_StoreOk.B4 : List Nat := [0, 1, 3, 7, 15, 31, 63, 127, 255, 511, 1023, 2047, 4095, 8191, 16383, 32767, 16383, 81919, 262143, 524287, 1048575, 16383, 2113535, 8388607, 16777215, 33554431]
theorem impl_StoreOk.tab4 : rtab .any (opsOf Try.f57 4) = impl_StoreOk.T4 := by kernel_rfl
theorem impl_StoreOk.bits4 : waitsOk impl_StoreOk.T4.2 impl_StoreOk.B4 = true := by kernel_rfl
def impl_StoreOk.T10 : Bool × List (List Nat × List Nat) := (true, [([], []), ([0], [0]), ([1], [1]), ([2], [2]), ([3, 2], [3]), ([4], [4]), ([5, 4], [4, 5]), ([6, 4], [4, 6]), ([7, 4], [4, 7]), ([4, 8], [4, 8]), ([9, 4], [9]), ([10], [10]), ([11, 10], [10, 11]), ([12, 10], [10, 12]), ([13, 10], [10, 13]), ([10, 14], [10, 14]), ([15, 10], [15]), ([16], [16]), ([17, 16], [16, 17]), ([18, 16, 16], [16, 18]), ([19], [19]), ([20, 19], [19, 20]), ([19], [19]), ([22, 19], [19, 22]), ([21, 23, 19], [19, 21, 23]), ([24, 19], [19, 24]), ([19], [19]), ([25, 26, 19, 19], [19, 25, 26]), ([27, 19], [19, 27]), ([19, 28, 16], [16, 19, 28]), ([16, 29], [16, 29])])
def impl_StoreOk.B10 : List Nat := [0, 1, 3, 7, 15, 31, 63, 127, 255, 511, 1023, 2047, 4095, 8191, 16383, 32767, 65535, 131071, 262143, 524287, 1048575, 2097151, 1048575, 5242879, 16777215, 33554431, 1048575, 134217727, 268435455, 536870911, 1073741823]
theorem impl_StoreOk.tab10 : rtab .any (opsOf Try.f57 10) = impl_StoreOk.T10 := by kernel_rfl
theorem impl_StoreOk.bits10 : waitsOk impl_StoreOk.T10.2 impl_StoreOk.B10 = true := by kernel_rfl
set_option maxHeartbeats 8000000 in
set_option maxRecDepth 100000 in
theorem impl_StoreOk.calls (k : Nat) (A0_0 : Option Addr) (c0_0 : Nat) (l0_0 : List (S105)) (A0_1 : Option Addr) (c0_1 : Nat) (l0_1 : List (S61)) (a0_2 : ByteArray) (r : Bool) (w : World) (hr0_0 : Kd.C k105 w A0_0 l0_0.length l0_0) (hc0_0 : l0_0.length ≤ c0_0) (hr0_1 : Kd.C k61 w A0_1 l0_1.length l0_1) (hc0_1 : l0_1.length ≤ c0_1) (h : impl_StoreOk.f k l0_0 l0_1 a0_2 = some r) :
  Calls Try.prog 57 #[.agg #[.slice A0_0 l0_0.length c0_0,.slice A0_1 l0_1.length c0_1,.string a0_2]] w fun e w' => e = .returned (.bool r) ∧ Below w.heap.size w w':=by
 have hu54:=Try.underlying54
 have hu105:=Try.underlying105
 have hu61:=Try.underlying61
 have HR0_0:=aM hr0_0
 have HC0_0:=aM hc0_0
 clear hr0_0 hc0_0
 have HR0_1:=aM hr0_1
 have HC0_1:=aM hc0_1
 clear hr0_1 hc0_1
 have HB:=aM (Below.refl w.heap.size w)
 have H : (impl_StoreOk.l0 k l0_0 (l0_0.length : Int) 0 l0_0 l0_1 a0_2) = some r:=h
 clear h
 have H':=aM H
 clear H
 go_enter Try.func57,Try.ntmps57
 go_wp2_with (first|((with_reducible refine gate_dst (N:=1) rfl ?_);(try (refine gate_guard (by rfl) ?_;dsimp only));refine box_event ?hg (N:=1) ?hd (cs:=#[.slice A0_0 l0_0.length c0_0,.slice A0_1 l0_1.length c0_1,.string a0_2]) (t:=54) ?hr ?_;(case hd => rfl);(case hg => rfl);(case hr => first|(go_simp;done)|(go_simp;rfl));intro gb176 hg w2 hbox hb;have n0_:=aM (lP (by repeat (first|(with_reducible first|exact HB.out|apply lA|apply lN|apply lD)|exact HB.out)) hb);have n1_:=aM (hbox);have n2_:=aM ((by rw [hg];exact (lZ (by repeat (first|(with_reducible first|exact HB.out|apply lA|apply lN|apply lD)|exact HB.out))) : w.heap.size ≤ gb176));have n3_:=aM ((by rw [hg];exact (lZ (by repeat (first|(with_reducible first|exact HB.out|apply lA|apply lN|apply lD)|exact HB.out))) : w.heap.size ≤ gb176));clear HB;have HB:=n0_;have BK176:=n1_;have GW176:=n2_;have GE176:=n3_;clear n0_ n1_ n2_ n3_ hb hbox hg;have hcz3_0 : w2.cell? ⟨gb176,0,none⟩ = some (.slice A0_0 l0_0.length c0_0):=(bC BK176.out 0).trans rfl;have hcz3_1 : w2.cell? ⟨gb176,1,none⟩ = some (.slice A0_1 l0_1.length c0_1):=(bC BK176.out 1).trans rfl;have hcz3_2 : w2.cell? ⟨gb176,2,none⟩ = some (.string a0_2):=(bC BK176.out 2).trans rfl;have hfz3_0:=bF BK176.out 0;have hfz3_1:=bF BK176.out 1;have hfz3_2:=bF BK176.out 2))
 go_loopg [10] k (fun kq v10 w' => ∃ (x10_1 : Int),v10 = .int .i64 x10_1 ∧ Aside0 (impl_StoreOk.l0 kq l0_0 (l0_0.length : Int) x10_1 l0_0 l0_1 a0_2 = some r) ∧ Aside0 (kq ≤ k) ∧ Aside0 (w'.heap[gb176]? = some (.cells #[(.slice A0_0 l0_0.length c0_0),(.slice A0_1 l0_1.length c0_1),.string a0_2] 54 (0,0))) ∧ Aside0 (Below w.heap.size w w'))
 case atStart => exact ⟨(0),(by first|rfl|(simp;done)|(simp [*];done)),H',⟨Nat.le_refl _⟩,⟨by (with_reducible repeat (first|refine bN ?_ _|refine bD ?_|refine bA ?_ _));exact BK176.out⟩,⟨by repeat (first|(with_reducible first|exact HB.out|apply lA|apply lN|apply lD|refine lS ?_ GE176.out)|exact HB.out)⟩⟩
 case round =>
  clear H'
  try clear p2
  try clear hcz3_0
  try clear hcz3_1
  try clear hcz3_2
  try clear hfz3_0
  try clear hfz3_1
  try clear hfz3_2
  obtain ⟨x10_1,rfl,HA,HK1,BK176,HB⟩:=hrel
  cases gk with
  |zero => exact absurd HA.out (by simp [impl_StoreOk.l0])
  |succ k1 =>
   have H:=HA.out
   clear HA
   simp only [impl_StoreOk.l0] at H
   by_cases c4 : x10_1 < (l0_0.length : Int)
   ·rw [if_pos c4] at H
    have c4b0 : decide (x10_1 < (l0_0.length : Int)) = true:=decide_eq_true c4
    clear c4
    by_cases c5 : 0 ≤ x10_1
    ·rw [if_pos c5] at H
     have c5b0 : decide (0 ≤ x10_1) = true:=decide_eq_true c5
     clear c5
     by_cases c6 : x10_1 < (l0_0.length : Int)
     ·rw [if_pos c6] at H
      have c6b0 : decide (x10_1 < (l0_0.length : Int)) = true:=decide_eq_true c6
      clear c6
      replace H:=Option.bind_eq_some_iff.mp H
      obtain ⟨t179,A70,H⟩:=H
      replace H : (if t179 = true then (if (((rd_T105 l0_0 x10_1).f1).size : Int) > 40 then (some false) else (if x10_1 > 0 then (if 0 ≤ (wrap64 (x10_1 - 1)) then (if (wrap64 (x10_1 - 1)) < (l0_0.length : Int) then (if ((Op.bytesLess (((rd_T105 l0_0 (wrap64 (x10_1 - 1))).f0).toList) (((rd_T105 l0_0 x10_1).f0).toList)) = true) then (impl_StoreOk.l0 k1 l0_0 (l0_0.length : Int) (wrap64 (x10_1 + 1)) l0_0 l0_1 a0_2) else (some false)) else (none)) else (none)) else (impl_StoreOk.l0 k1 l0_0 (l0_0.length : Int) (wrap64 (x10_1 + 1)) l0_0 l0_1 a0_2))) else (some false)) = some r:=H
      have A7:=aM A70
      clear A70
      by_cases c8 : t179 = true
      ·subst c8
       have H1 : (if (((rd_T105 l0_0 x10_1).f1).size : Int) > 40 then (some false) else (if x10_1 > 0 then (if 0 ≤ (wrap64 (x10_1 - 1)) then (if (wrap64 (x10_1 - 1)) < (l0_0.length : Int) then (if ((Op.bytesLess (((rd_T105 l0_0 (wrap64 (x10_1 - 1))).f0).toList) (((rd_T105 l0_0 x10_1).f0).toList)) = true) then (impl_StoreOk.l0 k1 l0_0 (l0_0.length : Int) (wrap64 (x10_1 + 1)) l0_0 l0_1 a0_2) else (some false)) else (none)) else (none)) else (impl_StoreOk.l0 k1 l0_0 (l0_0.length : Int) (wrap64 (x10_1 + 1)) l0_0 l0_1 a0_2))) = some r:=by rw [if_pos rfl] at H;exact H
       clear H
       have H:=H1
       clear H1
       by_cases c9 : (((rd_T105 l0_0 x10_1).f1).size : Int) > 40
       ·rw [if_pos c9] at H
        have c9b0 : decide (40 < (((rd_T105 l0_0 x10_1).f1).size : Int)) = true:=decide_eq_true c9
        have c9b1 : decide (40 < ((rd_T105 l0_0 x10_1).f1).size) = true:=decide_eq_true (by omega)
        clear c9
        obtain rfl:=Option.some.inj H
        have p177 : 0 ≤ (x10_1 : Int):=of_decide_eq_true (by first|(with_reducible assumption)|assumption)
        have q177 : x10_1 < (l0_0.length : Int):=of_decide_eq_true (by first|(with_reducible assumption)|assumption)
        obtain ⟨ad177,e177,hx177_0,hx177_1⟩:=at_T105 HR0_0.out x10_1 p177 q177
        cases e177
        replace hx177_0:=(HB.out.cell (World.block_lt_of_cell? w _ hx177_0)).trans hx177_0
        replace hx177_1:=(HB.out.cell (World.block_lt_of_cell? w _ hx177_1)).trans hx177_1
        replace p177:=eq_true p177
        replace q177:=eq_true q177
        try go_wp2_with (first|((with_reducible refine gate_dst (N:=4) rfl ?_);(try (refine gate_guard (by rfl) ?_;dsimp only));refine box_event ?hg (N:=4) ?hd (cs:=#[.string (⟨#[]⟩ : ByteArray),.string (⟨#[]⟩ : ByteArray)]) (t:=105) ?hr ?_;(case hd => rfl);(case hg => rfl);(case hr => first|(go_simp;done)|(go_simp;rfl));intro gb178 hg w10 hbox hb;have n0_:=aM (bB (g:=gb176) (o:=.cells #[.slice (some ad177) l0_0.length c0_0,.slice A0_1 l0_1.length c0_1,.string a0_2] 54 (0,0)) (by (with_reducible repeat (first|refine bN ?_ _|refine bD ?_|refine bA ?_ _));exact BK176.out) hb);have n1_:=aM (lP (by repeat (first|(with_reducible first|exact HB.out|apply lA|apply lN|apply lD|refine lS ?_ GE176.out)|exact HB.out)) hb);have n2_:=aM (hbox);have n3_:=aM ((by rw [hg];exact (lZ (by repeat (first|(with_reducible first|exact HB.out|apply lA|apply lN|apply lD|refine lS ?_ GE176.out)|exact HB.out))) : w.heap.size ≤ gb178));have n4_:=aM ((by rw [hg];exact (lZ (by repeat (first|(with_reducible first|exact HB.out|apply lA|apply lN|apply lD|refine lS ?_ GE176.out)|exact HB.out))) : w.heap.size ≤ gb178));have n5_:=aM ((by rw [hg];exact Nat.ne_of_lt (bL (g:=gb176) (o:=.cells #[.slice (some ad177) l0_0.length c0_0,.slice A0_1 l0_1.length c0_1,.string a0_2] 54 (0,0)) (by (with_reducible repeat (first|refine bN ?_ _|refine bD ?_|refine bA ?_ _));exact BK176.out)) : gb176 ≠ gb178));have n6_:=aM ((by rw [hg];exact Nat.ne_of_gt (bL (g:=gb176) (o:=.cells #[.slice (some ad177) l0_0.length c0_0,.slice A0_1 l0_1.length c0_1,.string a0_2] 54 (0,0)) (by (with_reducible repeat (first|refine bN ?_ _|refine bD ?_|refine bA ?_ _));exact BK176.out)) : gb178 ≠ gb176));clear BK176 HB;have BK176:=n0_;have HB:=n1_;have BK178:=n2_;have GW178:=n3_;have GE178:=n4_;have NB176_178:=n5_;have NB178_176:=n6_;clear n0_ n1_ n2_ n3_ n4_ n5_ n6_ hb hbox hg;have hnb11:=NB178_176.out;have hnc11:=NB176_178.out;have hcz12_0 : w10.cell? ⟨gb178,0,none⟩ = some (.string (⟨#[]⟩ : ByteArray)):=(bC BK178.out 0).trans rfl;have hcz12_1 : w10.cell? ⟨gb178,1,none⟩ = some (.string (⟨#[]⟩ : ByteArray)):=(bC BK178.out 1).trans rfl;have hfz12_0:=bF BK178.out 0;have hfz12_1:=bF BK178.out 1))
        have n0_ : Aside0 (((w10.setCell ⟨gb178,0,none⟩ (.string ((rd_T105 l0_0 x10_1).f0))).setCell ⟨gb178,1,none⟩ (.string ((rd_T105 l0_0 x10_1).f1))).heap[gb176]? = some (.cells #[.slice (some ad177) l0_0.length c0_0,.slice A0_1 l0_1.length c0_1,.string a0_2] 54 (0,0))):=⟨by (with_reducible repeat (first|refine bN ?_ _|refine bD ?_|refine bA ?_ _));refine blk_far ?_ NB176_178.out _;(with_reducible repeat (first|refine bN ?_ _|refine bD ?_|refine bA ?_ _));refine blk_far ?_ NB176_178.out _;(with_reducible repeat (first|refine bN ?_ _|refine bD ?_|refine bA ?_ _));exact BK176.out⟩
        have n1_ : Aside0 (((w10.setCell ⟨gb178,0,none⟩ (.string ((rd_T105 l0_0 x10_1).f0))).setCell ⟨gb178,1,none⟩ (.string ((rd_T105 l0_0 x10_1).f1))).heap[gb178]? = some (.cells #[.string ((rd_T105 l0_0 x10_1).f0),.string ((rd_T105 l0_0 x10_1).f1)] 105 (0,0))):=⟨by (with_reducible repeat (first|refine bN ?_ _|refine bD ?_|refine bA ?_ _));refine blk_put (cs:=#[.string ((rd_T105 l0_0 x10_1).f0),.string (⟨#[]⟩ : ByteArray)]) ?_ 1 _ rfl;(with_reducible repeat (first|refine bN ?_ _|refine bD ?_|refine bA ?_ _));refine blk_put (cs:=#[.string (⟨#[]⟩ : ByteArray),.string (⟨#[]⟩ : ByteArray)]) ?_ 0 _ rfl;(with_reducible repeat (first|refine bN ?_ _|refine bD ?_|refine bA ?_ _));exact BK178.out⟩
        have n2_ : Aside0 (Below w.heap.size w ((w10.setCell ⟨gb178,0,none⟩ (.string ((rd_T105 l0_0 x10_1).f0))).setCell ⟨gb178,1,none⟩ (.string ((rd_T105 l0_0 x10_1).f1)))):=⟨by repeat (first|(with_reducible first|exact HB.out|apply lA|apply lN|apply lD|refine lS ?_ GE176.out|refine lS ?_ GE178.out)|exact HB.out)⟩
        (try clear BK176)
        (try clear BK178)
        (try clear HB)
        generalize ((w10.setCell ⟨gb178,0,none⟩ (.string ((rd_T105 l0_0 x10_1).f0))).setCell ⟨gb178,1,none⟩ (.string ((rd_T105 l0_0 x10_1).f1))) = w13 at n0_ n1_ n2_ ⊢
        have BK176:=n0_
        have BK178:=n1_
        have HB:=n2_
        clear n0_ n1_ n2_
        have n0_:=aM (bD BK176.out)
        have n1_:=aM (bD BK178.out)
        have n2_:=aM (lD HB.out)
        clear BK176
        clear BK178
        clear HB
        have BK176:=n0_
        have BK178:=n1_
        have HB:=n2_
        clear n0_ n1_ n2_
        refine start_ (n:=26) (S:=fun w' => w'.cell? ⟨gb178,0,none⟩ = some (.string ((rd_T105 l0_0 x10_1).f0)) ∧ w'.cell? ⟨gb178,1,none⟩ = some (.string ((rd_T105 l0_0 x10_1).f1))) (ds:=[]) #[bf,bf,bf,bf,bf,bf,bf,bf,bf,bf,bf,bf,bf,bf,bf,bf,bf,bf,bf,bf,bf,bf,bf,bf,bf,bf] (by kernel_rfl) rfl rfl ⟨(bC BK178.out 0).trans rfl,(bC BK178.out 1).trans rfl⟩ (fun hHeld => ?_);refine with_tabW impl_StoreOk.tab4 impl_StoreOk.bits4 (fun HT_ HW_ => ?_)
        generalize w13.drew = w14 at BK176 BK178 HB hHeld ⊢
        refine pure_ (i:=0) (N:=some 15) (v:=?_) (a':=?_) #[bT,bf,bf,bf,bf,bf,bf,bf,bf,bf,bf,bf,bf,bf,bf,bf,bf,bf,bf,bf,bf,bf,bf,bf,bf,bf] rfl rfl (any_of HT_.out (by kernel_rfl)) (fun _ _ _ h => h) (Or.inl ⟨by rfl,?_⟩) ?_ ?_
        rotate_left
        ·intro w';go_simp;with_reducible rfl
        rotate_left
        ·simp only [Act.put,q_ia5,q_cz5,q_cs5,i64_w,i32_w];rfl
        refine take_ (i:=1) (N:=some 16) (v:=?_) (a':=?_) #[bT,bT,bf,bf,bf,bf,bf,bf,bf,bf,bf,bf,bf,bf,bf,bf,bf,bf,bf,bf,bf,bf,bf,bf,bf,bf] rfl rfl (take_ofW HT_.out HW_.out (by kernel_rfl)) (fun _ _ _ h => h) (Or.inl ⟨by rfl,?_⟩) hHeld ?_ ?_
        rotate_left
        ·rintro w' ⟨s0,s1⟩
         go_simp
         with_reducible rfl
        rotate_left
        ·simp only [Act.put,q_ia5,q_cz5,q_cs5,i64_w,i32_w];rfl
        refine one_ (i:=2) (N:=some 17) #[bT,bT,bT,bf,bf,bf,bf,bf,bf,bf,bf,bf,bf,bf,bf,bf,bf,bf,bf,bf,bf,bf,bf,bf,bf,bf] rfl rfl (one_of HT_.out (by kernel_rfl)) (by decide) (fun K hK => ?_)
        refine goes_ Try.func107 (by kernel_rfl) rfl #[.string ((rd_T105 l0_0 x10_1).f0)] (by rfl) rfl rfl (by (try simp only [List.map_toArray,List.map_cons,List.map_nil]);first|done|rfl|(simp only [List.length_drop,List.length_take];rfl)) ?_
        with_reducible refine (impl_isLetters.calls k1 ((rd_T105 l0_0 x10_1).f0) true _ A7.out).mono ?_
        rintro e w' ⟨rfl,⟨nd,rfl⟩⟩
        refine ⟨_,rfl,?_⟩
        refine hK.out _ _ ⟨(bC BK178.out 0).trans rfl,(bC BK178.out 1).trans rfl⟩ (fun hHeld => ?_)
        clear hK K
        refine norm_ (a':=?_) ?_ ?_
        rotate_left
        ·show Act.put _ (some 17) _ = _
         simp only [Act.put,q_ia5,q_cz5,q_cs5,i64_w,i32_w]
         rfl
        refine pure_ (i:=3) (N:=some 18) (v:=?_) (a':=?_) #[bT,bT,bT,bT,bf,bf,bf,bf,bf,bf,bf,bf,bf,bf,bf,bf,bf,bf,bf,bf,bf,bf,bf,bf,bf,bf] rfl rfl (any_of HT_.out (by kernel_rfl)) (fun _ _ _ h => h) (Or.inl ⟨by rfl,?_⟩) ?_ ?_
        rotate_left
        ·intro w';go_simp;with_reducible rfl
        rotate_left
        ·simp only [Act.put,q_ia5,q_cz5,q_cs5,i64_w,i32_w];rfl
        refine pure_ (i:=4) (N:=some 19) (v:=?_) (a':=?_) #[bT,bT,bT,bT,bT,bf,bf,bf,bf,bf,bf,bf,bf,bf,bf,bf,bf,bf,bf,bf,bf,bf,bf,bf,bf,bf] rfl rfl (any_of HT_.out (by kernel_rfl)) (fun _ _ _ h => h) (Or.inl ⟨by rfl,?_⟩) ?_ ?_
        rotate_left
        ·intro w';go_simp;with_reducible rfl
        rotate_left
        ·simp only [Act.put,q_ia5,q_cz5,q_cs5,i64_w,i32_w];rfl
        refine pure_ (i:=5) (N:=some 20) (v:=?_) (a':=?_) #[bT,bT,bT,bT,bT,bT,bf,bf,bf,bf,bf,bf,bf,bf,bf,bf,bf,bf,bf,bf,bf,bf,bf,bf,bf,bf] rfl rfl (any_of HT_.out (by kernel_rfl)) (fun _ _ _ h => h) (Or.inl ⟨by rfl,?_⟩) ?_ ?_
        rotate_left
        ·intro w';go_simp;with_reducible rfl
        rotate_left
        ·simp only [Act.put,q_ia5,q_cz5,q_cs5,i64_w,i32_w];rfl
        refine take_ (i:=6) (N:=some 21) (v:=?_) (a':=?_) #[bT,bT,bT,bT,bT,bT,bT,bf,bf,bf,bf,bf,bf,bf,bf,bf,bf,bf,bf,bf,bf,bf,bf,bf,bf,bf] rfl rfl (take_ofW HT_.out HW_.out (by kernel_rfl)) (fun _ _ _ h => h) (Or.inl ⟨by rfl,?_⟩) hHeld ?_ ?_
        rotate_left
        ·rintro w' ⟨s0,s1⟩
         go_simp
         with_reducible rfl
        rotate_left
        ·simp only [Act.put,q_ia5,q_cz5,q_cs5,i64_w,i32_w];rfl
        refine pure_ (i:=7) (N:=some 22) (v:=?_) (a':=?_) #[bT,bT,bT,bT,bT,bT,bT,bT,bf,bf,bf,bf,bf,bf,bf,bf,bf,bf,bf,bf,bf,bf,bf,bf,bf,bf] rfl rfl (any_of HT_.out (by kernel_rfl)) (fun _ _ _ h => h) (Or.inl ⟨by rfl,?_⟩) ?_ ?_
        rotate_left
        ·intro w';go_simp;with_reducible rfl
        rotate_left
        ·simp only [Act.put,q_ia5,q_cz5,q_cs5,i64_w,i32_w];rfl
        refine pure_ (i:=8) (N:=some 23) (v:=?_) (a':=?_) #[bT,bT,bT,bT,bT,bT,bT,bT,bT,bf,bf,bf,bf,bf,bf,bf,bf,bf,bf,bf,bf,bf,bf,bf,bf,bf] rfl rfl (any_of HT_.out (by kernel_rfl)) (fun _ _ _ h => h) (Or.inl ⟨by rfl,?_⟩) ?_ ?_
        rotate_left
        ·intro w';go_simp;with_reducible rfl
        rotate_left
        ·simp only [Act.put,q_ia5,q_cz5,q_cs5,i64_w,i32_w];rfl
        refine pure_ (i:=9) (N:=some 24) (v:=?_) (a':=?_) #[bT,bT,bT,bT,bT,bT,bT,bT,bT,bT,bf,bf,bf,bf,bf,bf,bf,bf,bf,bf,bf,bf,bf,bf,bf,bf] rfl rfl (any_of HT_.out (by kernel_rfl)) (fun _ _ _ h => h) (Or.inl ⟨by rfl,?_⟩) ?_ ?_
        rotate_left
        ·intro w';go_simp;with_reducible rfl
        rotate_left
        ·simp only [Act.put,q_ia5,q_cz5,q_cs5,i64_w,i32_w];rfl
        refine pure_ (i:=10) (N:=some 25) (v:=?_) (a':=?_) #[bT,bT,bT,bT,bT,bT,bT,bT,bT,bT,bT,bf,bf,bf,bf,bf,bf,bf,bf,bf,bf,bf,bf,bf,bf,bf] rfl rfl (any_of HT_.out (by kernel_rfl)) (fun _ _ _ h => h) (Or.inl ⟨by rfl,?_⟩) ?_ ?_
        rotate_left
        ·intro w';go_simp;with_reducible rfl
        rotate_left
        ·simp only [Act.put,q_ia5,q_cz5,q_cs5,i64_w,i32_w];rfl
        refine pure_ (i:=11) (N:=some 26) (v:=undef) (a':=?_) #[bT,bT,bT,bT,bT,bT,bT,bT,bT,bT,bT,bT,bf,bf,bf,bf,bf,bf,bf,bf,bf,bf,bf,bf,bf,bf] rfl rfl (any_of HT_.out (by kernel_rfl)) (fun _ _ _ h => h) (Or.inr ⟨by rfl,rfl⟩) ?_ ?_
        rotate_left
        ·simp only [Act.put,q_ia5,q_cz5,q_cs5,i64_w,i32_w];rfl
        refine pure_ (i:=12) (N:=some 27) (v:=undef) (a':=?_) #[bT,bT,bT,bT,bT,bT,bT,bT,bT,bT,bT,bT,bT,bf,bf,bf,bf,bf,bf,bf,bf,bf,bf,bf,bf,bf] rfl rfl (any_of HT_.out (by kernel_rfl)) (fun _ _ _ h => h) (Or.inr ⟨by rfl,rfl⟩) ?_ ?_
        rotate_left
        ·simp only [Act.put,q_ia5,q_cz5,q_cs5,i64_w,i32_w];rfl
        refine pure_ (i:=13) (N:=some 28) (v:=undef) (a':=?_) #[bT,bT,bT,bT,bT,bT,bT,bT,bT,bT,bT,bT,bT,bT,bf,bf,bf,bf,bf,bf,bf,bf,bf,bf,bf,bf] rfl rfl (any_of HT_.out (by kernel_rfl)) (fun _ _ _ h => h) (Or.inr ⟨by rfl,rfl⟩) ?_ ?_
        rotate_left
        ·simp only [Act.put,q_ia5,q_cz5,q_cs5,i64_w,i32_w];rfl
        refine pure_ (i:=14) (N:=some 29) (v:=undef) (a':=?_) #[bT,bT,bT,bT,bT,bT,bT,bT,bT,bT,bT,bT,bT,bT,bT,bf,bf,bf,bf,bf,bf,bf,bf,bf,bf,bf] rfl rfl (any_of HT_.out (by kernel_rfl)) (fun _ _ _ h => h) (Or.inr ⟨by rfl,rfl⟩) ?_ ?_
        rotate_left
        ·simp only [Act.put,q_ia5,q_cz5,q_cs5,i64_w,i32_w];rfl
        refine pure_ (i:=15) (N:=some 30) (v:=undef) (a':=?_) #[bT,bT,bT,bT,bT,bT,bT,bT,bT,bT,bT,bT,bT,bT,bT,bT,bf,bf,bf,bf,bf,bf,bf,bf,bf,bf] rfl rfl (any_of HT_.out (by kernel_rfl)) (fun _ _ _ h => h) (Or.inr ⟨by rfl,rfl⟩) ?_ ?_
        rotate_left
        ·simp only [Act.put,q_ia5,q_cz5,q_cs5,i64_w,i32_w];rfl
        refine pure_ (i:=16) (N:=some 31) (v:=undef) (a':=?_) #[bT,bT,bT,bT,bT,bT,bT,bT,bT,bT,bT,bT,bT,bT,bT,bT,bT,bf,bf,bf,bf,bf,bf,bf,bf,bf] rfl rfl (any_of HT_.out (by kernel_rfl)) (fun _ _ _ h => h) (Or.inr ⟨by rfl,rfl⟩) ?_ ?_
        rotate_left
        ·simp only [Act.put,q_ia5,q_cz5,q_cs5,i64_w,i32_w];rfl
        refine pure_ (i:=17) (N:=some 32) (v:=undef) (a':=?_) #[bT,bT,bT,bT,bT,bT,bT,bT,bT,bT,bT,bT,bT,bT,bT,bT,bT,bT,bf,bf,bf,bf,bf,bf,bf,bf] rfl rfl (any_of HT_.out (by kernel_rfl)) (fun _ _ _ h => h) (Or.inr ⟨by rfl,rfl⟩) ?_ ?_
        rotate_left
        ·simp only [Act.put,q_ia5,q_cz5,q_cs5,i64_w,i32_w];rfl
        refine pure_ (i:=18) (N:=some 33) (v:=undef) (a':=?_) #[bT,bT,bT,bT,bT,bT,bT,bT,bT,bT,bT,bT,bT,bT,bT,bT,bT,bT,bT,bf,bf,bf,bf,bf,bf,bf] rfl rfl (any_of HT_.out (by kernel_rfl)) (fun _ _ _ h => h) (Or.inr ⟨by rfl,rfl⟩) ?_ ?_
        rotate_left
        ·simp only [Act.put,q_ia5,q_cz5,q_cs5,i64_w,i32_w];rfl
        refine pure_ (i:=19) (N:=some 34) (v:=undef) (a':=?_) #[bT,bT,bT,bT,bT,bT,bT,bT,bT,bT,bT,bT,bT,bT,bT,bT,bT,bT,bT,bT,bf,bf,bf,bf,bf,bf] rfl rfl (any_of HT_.out (by kernel_rfl)) (fun _ _ _ h => h) (Or.inr ⟨by rfl,rfl⟩) ?_ ?_
        rotate_left
        ·simp only [Act.put,q_ia5,q_cz5,q_cs5,i64_w,i32_w];rfl
        refine pure_ (i:=20) (N:=some 35) (v:=undef) (a':=?_) #[bT,bT,bT,bT,bT,bT,bT,bT,bT,bT,bT,bT,bT,bT,bT,bT,bT,bT,bT,bT,bT,bf,bf,bf,bf,bf] rfl rfl (any_of HT_.out (by kernel_rfl)) (fun _ _ _ h => h) (Or.inr ⟨by rfl,rfl⟩) ?_ ?_
        rotate_left
        ·simp only [Act.put,q_ia5,q_cz5,q_cs5,i64_w,i32_w];rfl
        refine pure_ (i:=21) (N:=some 36) (v:=undef) (a':=?_) #[bT,bT,bT,bT,bT,bT,bT,bT,bT,bT,bT,bT,bT,bT,bT,bT,bT,bT,bT,bT,bT,bT,bf,bf,bf,bf] rfl rfl (any_of HT_.out (by kernel_rfl)) (fun _ _ _ h => h) (Or.inr ⟨by rfl,rfl⟩) ?_ ?_
        rotate_left
        ·simp only [Act.put,q_ia5,q_cz5,q_cs5,i64_w,i32_w];rfl
        refine pure_ (i:=22) (N:=some 37) (v:=undef) (a':=?_) #[bT,bT,bT,bT,bT,bT,bT,bT,bT,bT,bT,bT,bT,bT,bT,bT,bT,bT,bT,bT,bT,bT,bT,bf,bf,bf] rfl rfl (any_of HT_.out (by kernel_rfl)) (fun _ _ _ h => h) (Or.inr ⟨by rfl,rfl⟩) ?_ ?_
        rotate_left
        ·simp only [Act.put,q_ia5,q_cz5,q_cs5,i64_w,i32_w];rfl
        refine pure_ (i:=23) (N:=some 38) (v:=undef) (a':=?_) #[bT,bT,bT,bT,bT,bT,bT,bT,bT,bT,bT,bT,bT,bT,bT,bT,bT,bT,bT,bT,bT,bT,bT,bT,bf,bf] rfl rfl (any_of HT_.out (by kernel_rfl)) (fun _ _ _ h => h) (Or.inr ⟨by rfl,rfl⟩) ?_ ?_
        rotate_left
        ·simp only [Act.put,q_ia5,q_cz5,q_cs5,i64_w,i32_w];rfl
        refine pure_ (i:=24) (N:=some 39) (v:=undef) (a':=?_) #[bT,bT,bT,bT,bT,bT,bT,bT,bT,bT,bT,bT,bT,bT,bT,bT,bT,bT,bT,bT,bT,bT,bT,bT,bT,bf] rfl rfl (any_of HT_.out (by kernel_rfl)) (fun _ _ _ h => h) (Or.inr ⟨by rfl,rfl⟩) ?_ ?_
        rotate_left
        ·simp only [Act.put,q_ia5,q_cz5,q_cs5,i64_w,i32_w];rfl
        refine pure_ (i:=25) (N:=some 40) (v:=?_) (a':=?_) #[bT,bT,bT,bT,bT,bT,bT,bT,bT,bT,bT,bT,bT,bT,bT,bT,bT,bT,bT,bT,bT,bT,bT,bT,bT,bT] rfl rfl (any_of HT_.out (by kernel_rfl)) (fun _ _ _ h => h) (Or.inl ⟨by rfl,?_⟩) ?_ ?_
        rotate_left
        ·intro w';go_simp;with_reducible rfl
        rotate_left
        ·simp only [Act.put,q_ia5,q_cz5,q_cs5,i64_w,i32_w];rfl
        refine done_ (done_of HT_.out (by kernel_rfl)) ?_
        try go_wp2
        go_ret
        exact ⟨by first|rfl|(simp [errW_none,errW_some] <;> rfl)|(simp [*,errW_none,errW_some] <;> rfl),by repeat (first|(with_reducible first|exact HB.out|apply lA|apply lN|apply lD|refine lS ?_ GE176.out|refine lS ?_ GE178.out)|exact HB.out)⟩
       ·rw [if_neg c9] at H
        have c9b0 : decide (40 < (((rd_T105 l0_0 x10_1).f1).size : Int)) = false:=decide_eq_false c9
        have c9b1 : decide (40 < ((rd_T105 l0_0 x10_1).f1).size) = false:=decide_eq_false (by omega)
        clear c9
        by_cases c15 : x10_1 > 0
        ·rw [if_pos c15] at H
         have c15b0 : decide (0 < x10_1) = true:=decide_eq_true c15
         clear c15
         obtain ⟨ji16,hji16⟩ : ∃ j_ : Int,(wrap64 (x10_1 - 1)) = j_:=⟨_,rfl⟩
         replace H : (if 0 ≤ (ji16) then (if (ji16) < (l0_0.length : Int) then (if ((Op.bytesLess (((rd_T105 l0_0 (ji16)).f0).toList) (((rd_T105 l0_0 x10_1).f0).toList)) = true) then (impl_StoreOk.l0 k1 l0_0 (l0_0.length : Int) (wrap64 (x10_1 + 1)) l0_0 l0_1 a0_2) else (some false)) else (none)) else (none)) = some r:=by first|(rw [hji16] at H;exact H)|(simp only [hji16] at H ⊢;exact H)
         (try rw [hji16] at A7)
         have hji16w : (IntKind.i64.wrap (x10_1 - 1)) = ji16:=(i64_w _).trans hji16
         by_cases c17 : 0 ≤ (ji16)
         ·rw [if_pos c17] at H
          have c17b0 : decide (0 ≤ (ji16)) = true:=decide_eq_true c17
          clear c17
          by_cases c18 : (ji16) < (l0_0.length : Int)
          ·rw [if_pos c18] at H
           have c18b0 : decide ((ji16) < (l0_0.length : Int)) = true:=decide_eq_true c18
           clear c18
           by_cases c19 : ((Op.bytesLess (((rd_T105 l0_0 (ji16)).f0).toList) (((rd_T105 l0_0 x10_1).f0).toList)) = true)
           ·rw [if_pos c19] at H
            have c19b0 : (Op.bytesLess (((rd_T105 l0_0 (ji16)).f0).toList) (((rd_T105 l0_0 x10_1).f0).toList)) = true:=c19
            clear c19
            have H':=aM H
            clear H
            have p177 : 0 ≤ (x10_1 : Int):=of_decide_eq_true (by first|(with_reducible assumption)|assumption)
            have q177 : x10_1 < (l0_0.length : Int):=of_decide_eq_true (by first|(with_reducible assumption)|assumption)
            obtain ⟨ad177,e177,hx177_0,hx177_1⟩:=at_T105 HR0_0.out x10_1 p177 q177
            cases e177
            replace hx177_0:=(HB.out.cell (World.block_lt_of_cell? w _ hx177_0)).trans hx177_0
            replace hx177_1:=(HB.out.cell (World.block_lt_of_cell? w _ hx177_1)).trans hx177_1
            replace p177:=eq_true p177
            replace q177:=eq_true q177
            try go_wp2_with (first|((with_reducible refine gate_dst (N:=4) rfl ?_);(try (refine gate_guard (by rfl) ?_;dsimp only));refine box_event ?hg (N:=4) ?hd (cs:=#[.string (⟨#[]⟩ : ByteArray),.string (⟨#[]⟩ : ByteArray)]) (t:=105) ?hr ?_;(case hd => rfl);(case hg => rfl);(case hr => first|(go_simp;done)|(go_simp;rfl));intro gb178 hg w20 hbox hb;have n0_:=aM (bB (g:=gb176) (o:=.cells #[.slice (some ad177) l0_0.length c0_0,.slice A0_1 l0_1.length c0_1,.string a0_2] 54 (0,0)) (by (with_reducible repeat (first|refine bN ?_ _|refine bD ?_|refine bA ?_ _));exact BK176.out) hb);have n1_:=aM (lP (by repeat (first|(with_reducible first|exact HB.out|apply lA|apply lN|apply lD|refine lS ?_ GE176.out)|exact HB.out)) hb);have n2_:=aM (hbox);have n3_:=aM ((by rw [hg];exact (lZ (by repeat (first|(with_reducible first|exact HB.out|apply lA|apply lN|apply lD|refine lS ?_ GE176.out)|exact HB.out))) : w.heap.size ≤ gb178));have n4_:=aM ((by rw [hg];exact (lZ (by repeat (first|(with_reducible first|exact HB.out|apply lA|apply lN|apply lD|refine lS ?_ GE176.out)|exact HB.out))) : w.heap.size ≤ gb178));have n5_:=aM ((by rw [hg];exact Nat.ne_of_lt (bL (g:=gb176) (o:=.cells #[.slice (some ad177) l0_0.length c0_0,.slice A0_1 l0_1.length c0_1,.string a0_2] 54 (0,0)) (by (with_reducible repeat (first|refine bN ?_ _|refine bD ?_|refine bA ?_ _));exact BK176.out)) : gb176 ≠ gb178));have n6_:=aM ((by rw [hg];exact Nat.ne_of_gt (bL (g:=gb176) (o:=.cells #[.slice (some ad177) l0_0.length c0_0,.slice A0_1 l0_1.length c0_1,.string a0_2] 54 (0,0)) (by (with_reducible repeat (first|refine bN ?_ _|refine bD ?_|refine bA ?_ _));exact BK176.out)) : gb178 ≠ gb176));clear BK176 HB;have BK176:=n0_;have HB:=n1_;have BK178:=n2_;have GW178:=n3_;have GE178:=n4_;have NB176_178:=n5_;have NB178_176:=n6_;clear n0_ n1_ n2_ n3_ n4_ n5_ n6_ hb hbox hg;have hnb21:=NB178_176.out;have hnc21:=NB176_178.out;have hcz22_0 : w20.cell? ⟨gb178,0,none⟩ = some (.string (⟨#[]⟩ : ByteArray)):=(bC BK178.out 0).trans rfl;have hcz22_1 : w20.cell? ⟨gb178,1,none⟩ = some (.string (⟨#[]⟩ : ByteArray)):=(bC BK178.out 1).trans rfl;have hfz22_0:=bF BK178.out 0;have hfz22_1:=bF BK178.out 1))
            have n0_ : Aside0 (((w20.setCell ⟨gb178,0,none⟩ (.string ((rd_T105 l0_0 x10_1).f0))).setCell ⟨gb178,1,none⟩ (.string ((rd_T105 l0_0 x10_1).f1))).heap[gb176]? = some (.cells #[.slice (some ad177) l0_0.length c0_0,.slice A0_1 l0_1.length c0_1,.string a0_2] 54 (0,0))):=⟨by (with_reducible repeat (first|refine bN ?_ _|refine bD ?_|refine bA ?_ _));refine blk_far ?_ NB176_178.out _;(with_reducible repeat (first|refine bN ?_ _|refine bD ?_|refine bA ?_ _));refine blk_far ?_ NB176_178.out _;(with_reducible repeat (first|refine bN ?_ _|refine bD ?_|refine bA ?_ _));exact BK176.out⟩
            have n1_ : Aside0 (((w20.setCell ⟨gb178,0,none⟩ (.string ((rd_T105 l0_0 x10_1).f0))).setCell ⟨gb178,1,none⟩ (.string ((rd_T105 l0_0 x10_1).f1))).heap[gb178]? = some (.cells #[.string ((rd_T105 l0_0 x10_1).f0),.string ((rd_T105 l0_0 x10_1).f1)] 105 (0,0))):=⟨by (with_reducible repeat (first|refine bN ?_ _|refine bD ?_|refine bA ?_ _));refine blk_put (cs:=#[.string ((rd_T105 l0_0 x10_1).f0),.string (⟨#[]⟩ : ByteArray)]) ?_ 1 _ rfl;(with_reducible repeat (first|refine bN ?_ _|refine bD ?_|refine bA ?_ _));refine blk_put (cs:=#[.string (⟨#[]⟩ : ByteArray),.string (⟨#[]⟩ : ByteArray)]) ?_ 0 _ rfl;(with_reducible repeat (first|refine bN ?_ _|refine bD ?_|refine bA ?_ _));exact BK178.out⟩
            have n2_ : Aside0 (Below w.heap.size w ((w20.setCell ⟨gb178,0,none⟩ (.string ((rd_T105 l0_0 x10_1).f0))).setCell ⟨gb178,1,none⟩ (.string ((rd_T105 l0_0 x10_1).f1)))):=⟨by repeat (first|(with_reducible first|exact HB.out|apply lA|apply lN|apply lD|refine lS ?_ GE176.out|refine lS ?_ GE178.out)|exact HB.out)⟩
            (try clear BK176)
            (try clear BK178)
            (try clear HB)
            generalize ((w20.setCell ⟨gb178,0,none⟩ (.string ((rd_T105 l0_0 x10_1).f0))).setCell ⟨gb178,1,none⟩ (.string ((rd_T105 l0_0 x10_1).f1))) = w23 at n0_ n1_ n2_ ⊢
            have BK176:=n0_
            have BK178:=n1_
            have HB:=n2_
            clear n0_ n1_ n2_
            have n0_:=aM (bD BK176.out)
            have n1_:=aM (bD BK178.out)
            have n2_:=aM (lD HB.out)
            clear BK176
            clear BK178
            clear HB
            have BK176:=n0_
            have BK178:=n1_
            have HB:=n2_
            clear n0_ n1_ n2_
            have p180 : 0 ≤ ((ji16) : Int):=of_decide_eq_true (by first|(with_reducible assumption)|assumption)
            have q180 : (ji16) < (l0_0.length : Int):=of_decide_eq_true (by first|(with_reducible assumption)|assumption)
            obtain ⟨ad180,e180,hx180_0,hx180_1⟩:=at_T105 HR0_0.out (ji16) p180 q180
            have hw180_1:=hx180_1
            have hw180_0:=hx180_0
            obtain rfl : ad177 = ad180:=(by injection e180)
            replace hx180_0:=(HB.out.cell (World.block_lt_of_cell? w _ hx180_0)).trans hx180_0
            replace hx180_1:=(HB.out.cell (World.block_lt_of_cell? w _ hx180_1)).trans hx180_1
            replace p180:=eq_true p180
            replace q180:=eq_true q180
            refine start_ (n:=26) (S:=fun w' => w'.cell? ⟨gb178,0,none⟩ = some (.string ((rd_T105 l0_0 x10_1).f0)) ∧ w'.cell? ⟨gb178,1,none⟩ = some (.string ((rd_T105 l0_0 x10_1).f1)) ∧ w'.cell? ⟨gb176,0,none⟩ = some (.slice (some ad177) l0_0.length c0_0) ∧ w'.cell? ⟨gb176,1,none⟩ = some (.slice A0_1 l0_1.length c0_1) ∧ w'.cell? ⟨gb176,2,none⟩ = some (.string a0_2) ∧ w'.cell? (ad177.add (((ji16)).toNat * 2)) = some (.string ((rd_T105 l0_0 (ji16)).f0)) ∧ w'.cell? ⟨(ad177.add (((ji16)).toNat * 2)).block,(ad177.add (((ji16)).toNat * 2)).off + 1,none⟩ = some (.string ((rd_T105 l0_0 (ji16)).f1))) (ds:=[]) #[bf,bf,bf,bf,bf,bf,bf,bf,bf,bf,bf,bf,bf,bf,bf,bf,bf,bf,bf,bf,bf,bf,bf,bf,bf,bf] (by kernel_rfl) rfl rfl ⟨(bC BK178.out 0).trans rfl,(bC BK178.out 1).trans rfl,(bC BK176.out 0).trans rfl,(bC BK176.out 1).trans rfl,(bC BK176.out 2).trans rfl,((HB.out.cell (World.block_lt_of_cell? w _ hw180_0)).trans hw180_0),((HB.out.cell (World.block_lt_of_cell? w _ hw180_1)).trans hw180_1)⟩ (fun hHeld => ?_);refine with_tabW impl_StoreOk.tab4 impl_StoreOk.bits4 (fun HT_ HW_ => ?_)
            generalize w23.drew = w24 at BK176 BK178 HB hx180_0 hx180_1 hHeld ⊢
            refine pure_ (i:=0) (N:=some 15) (v:=?_) (a':=?_) #[bT,bf,bf,bf,bf,bf,bf,bf,bf,bf,bf,bf,bf,bf,bf,bf,bf,bf,bf,bf,bf,bf,bf,bf,bf,bf] rfl rfl (any_of HT_.out (by kernel_rfl)) (fun _ _ _ h => h) (Or.inl ⟨by rfl,?_⟩) ?_ ?_
            rotate_left
            ·intro w';go_simp;with_reducible rfl
            rotate_left
            ·simp only [Act.put,q_ia5,q_cz5,q_cs5,i64_w,i32_w];rfl
            refine take_ (i:=1) (N:=some 16) (v:=?_) (a':=?_) #[bT,bT,bf,bf,bf,bf,bf,bf,bf,bf,bf,bf,bf,bf,bf,bf,bf,bf,bf,bf,bf,bf,bf,bf,bf,bf] rfl rfl (take_ofW HT_.out HW_.out (by kernel_rfl)) (fun _ _ _ h => h) (Or.inl ⟨by rfl,?_⟩) hHeld ?_ ?_
            rotate_left
            ·rintro w' ⟨s0,s1,s2,s3,s4,s5,s6⟩
             go_simp
             with_reducible rfl
            rotate_left
            ·simp only [Act.put,q_ia5,q_cz5,q_cs5,i64_w,i32_w];rfl
            refine one_ (i:=2) (N:=some 17) #[bT,bT,bT,bf,bf,bf,bf,bf,bf,bf,bf,bf,bf,bf,bf,bf,bf,bf,bf,bf,bf,bf,bf,bf,bf,bf] rfl rfl (one_of HT_.out (by kernel_rfl)) (by decide) (fun K hK => ?_)
            refine goes_ Try.func107 (by kernel_rfl) rfl #[.string ((rd_T105 l0_0 x10_1).f0)] (by rfl) rfl rfl (by (try simp only [List.map_toArray,List.map_cons,List.map_nil]);first|done|rfl|(simp only [List.length_drop,List.length_take];rfl)) ?_
            with_reducible refine (impl_isLetters.calls k1 ((rd_T105 l0_0 x10_1).f0) true _ A7.out).mono ?_
            rintro e w' ⟨rfl,⟨nd,rfl⟩⟩
            refine ⟨_,rfl,?_⟩
            refine hK.out _ _ ⟨(bC BK178.out 0).trans rfl,(bC BK178.out 1).trans rfl,(bC BK176.out 0).trans rfl,(bC BK176.out 1).trans rfl,(bC BK176.out 2).trans rfl,((HB.out.cell (World.block_lt_of_cell? w _ hw180_0)).trans hw180_0),((HB.out.cell (World.block_lt_of_cell? w _ hw180_1)).trans hw180_1)⟩ (fun hHeld => ?_)
            clear hK K
            refine norm_ (a':=?_) ?_ ?_
            rotate_left
            ·show Act.put _ (some 17) _ = _
             simp only [Act.put,q_ia5,q_cz5,q_cs5,i64_w,i32_w]
             rfl
            refine pure_ (i:=3) (N:=some 18) (v:=?_) (a':=?_) #[bT,bT,bT,bT,bf,bf,bf,bf,bf,bf,bf,bf,bf,bf,bf,bf,bf,bf,bf,bf,bf,bf,bf,bf,bf,bf] rfl rfl (any_of HT_.out (by kernel_rfl)) (fun _ _ _ h => h) (Or.inl ⟨by rfl,?_⟩) ?_ ?_
            rotate_left
            ·intro w';go_simp;with_reducible rfl
            rotate_left
            ·simp only [Act.put,q_ia5,q_cz5,q_cs5,i64_w,i32_w];rfl
            refine pure_ (i:=4) (N:=some 19) (v:=?_) (a':=?_) #[bT,bT,bT,bT,bT,bf,bf,bf,bf,bf,bf,bf,bf,bf,bf,bf,bf,bf,bf,bf,bf,bf,bf,bf,bf,bf] rfl rfl (any_of HT_.out (by kernel_rfl)) (fun _ _ _ h => h) (Or.inl ⟨by rfl,?_⟩) ?_ ?_
            rotate_left
            ·intro w';go_simp;with_reducible rfl
            rotate_left
            ·simp only [Act.put,q_ia5,q_cz5,q_cs5,i64_w,i32_w];rfl
            refine pure_ (i:=5) (N:=some 20) (v:=?_) (a':=?_) #[bT,bT,bT,bT,bT,bT,bf,bf,bf,bf,bf,bf,bf,bf,bf,bf,bf,bf,bf,bf,bf,bf,bf,bf,bf,bf] rfl rfl (any_of HT_.out (by kernel_rfl)) (fun _ _ _ h => h) (Or.inl ⟨by rfl,?_⟩) ?_ ?_
            rotate_left
            ·intro w';go_simp;with_reducible rfl
            rotate_left
            ·simp only [Act.put,q_ia5,q_cz5,q_cs5,i64_w,i32_w];rfl
            refine take_ (i:=6) (N:=some 21) (v:=?_) (a':=?_) #[bT,bT,bT,bT,bT,bT,bT,bf,bf,bf,bf,bf,bf,bf,bf,bf,bf,bf,bf,bf,bf,bf,bf,bf,bf,bf] rfl rfl (take_ofW HT_.out HW_.out (by kernel_rfl)) (fun _ _ _ h => h) (Or.inl ⟨by rfl,?_⟩) hHeld ?_ ?_
            rotate_left
            ·rintro w' ⟨s0,s1,s2,s3,s4,s5,s6⟩
             go_simp
             with_reducible rfl
            rotate_left
            ·simp only [Act.put,q_ia5,q_cz5,q_cs5,i64_w,i32_w];rfl
            refine pure_ (i:=7) (N:=some 22) (v:=?_) (a':=?_) #[bT,bT,bT,bT,bT,bT,bT,bT,bf,bf,bf,bf,bf,bf,bf,bf,bf,bf,bf,bf,bf,bf,bf,bf,bf,bf] rfl rfl (any_of HT_.out (by kernel_rfl)) (fun _ _ _ h => h) (Or.inl ⟨by rfl,?_⟩) ?_ ?_
            rotate_left
            ·intro w';go_simp;with_reducible rfl
            rotate_left
            ·simp only [Act.put,q_ia5,q_cz5,q_cs5,i64_w,i32_w];rfl
            refine pure_ (i:=8) (N:=some 23) (v:=?_) (a':=?_) #[bT,bT,bT,bT,bT,bT,bT,bT,bT,bf,bf,bf,bf,bf,bf,bf,bf,bf,bf,bf,bf,bf,bf,bf,bf,bf] rfl rfl (any_of HT_.out (by kernel_rfl)) (fun _ _ _ h => h) (Or.inl ⟨by rfl,?_⟩) ?_ ?_
            rotate_left
            ·intro w';go_simp;with_reducible rfl
            rotate_left
            ·simp only [Act.put,q_ia5,q_cz5,q_cs5,i64_w,i32_w];rfl
            refine pure_ (i:=9) (N:=some 24) (v:=?_) (a':=?_) #[bT,bT,bT,bT,bT,bT,bT,bT,bT,bT,bf,bf,bf,bf,bf,bf,bf,bf,bf,bf,bf,bf,bf,bf,bf,bf] rfl rfl (any_of HT_.out (by kernel_rfl)) (fun _ _ _ h => h) (Or.inl ⟨by rfl,?_⟩) ?_ ?_
            rotate_left
            ·intro w';go_simp;with_reducible rfl
            rotate_left
            ·simp only [Act.put,q_ia5,q_cz5,q_cs5,i64_w,i32_w];rfl
            refine pure_ (i:=10) (N:=some 25) (v:=?_) (a':=?_) #[bT,bT,bT,bT,bT,bT,bT,bT,bT,bT,bT,bf,bf,bf,bf,bf,bf,bf,bf,bf,bf,bf,bf,bf,bf,bf] rfl rfl (any_of HT_.out (by kernel_rfl)) (fun _ _ _ h => h) (Or.inl ⟨by rfl,?_⟩) ?_ ?_
            rotate_left
            ·intro w';go_simp;with_reducible rfl
            rotate_left
            ·simp only [Act.put,q_ia5,q_cz5,q_cs5,i64_w,i32_w];rfl
            refine pure_ (i:=11) (N:=some 26) (v:=?_) (a':=?_) #[bT,bT,bT,bT,bT,bT,bT,bT,bT,bT,bT,bT,bf,bf,bf,bf,bf,bf,bf,bf,bf,bf,bf,bf,bf,bf] rfl rfl (any_of HT_.out (by kernel_rfl)) (fun _ _ _ h => h) (Or.inl ⟨by rfl,?_⟩) ?_ ?_
            rotate_left
            ·intro w';go_simp;with_reducible rfl
            rotate_left
            ·simp only [Act.put,q_ia5,q_cz5,q_cs5,i64_w,i32_w];rfl
            refine pure_ (i:=12) (N:=some 27) (v:=?_) (a':=?_) #[bT,bT,bT,bT,bT,bT,bT,bT,bT,bT,bT,bT,bT,bf,bf,bf,bf,bf,bf,bf,bf,bf,bf,bf,bf,bf] rfl rfl (any_of HT_.out (by kernel_rfl)) (fun _ _ _ h => h) (Or.inl ⟨by rfl,?_⟩) ?_ ?_
            rotate_left
            ·intro w';go_simp;with_reducible rfl
            rotate_left
            ·simp only [Act.put,q_ia5,q_cz5,q_cs5,i64_w,i32_w];rfl
            refine pure_ (i:=13) (N:=some 28) (v:=?_) (a':=?_) #[bT,bT,bT,bT,bT,bT,bT,bT,bT,bT,bT,bT,bT,bT,bf,bf,bf,bf,bf,bf,bf,bf,bf,bf,bf,bf] rfl rfl (any_of HT_.out (by kernel_rfl)) (fun _ _ _ h => h) (Or.inl ⟨by rfl,?_⟩) ?_ ?_
            rotate_left
            ·intro w';go_simp;with_reducible rfl
            rotate_left
            ·simp only [Act.put,q_ia5,q_cz5,q_cs5,i64_w,i32_w];rfl
            refine pure_ (i:=14) (N:=some 29) (v:=?_) (a':=?_) #[bT,bT,bT,bT,bT,bT,bT,bT,bT,bT,bT,bT,bT,bT,bT,bf,bf,bf,bf,bf,bf,bf,bf,bf,bf,bf] rfl rfl (any_of HT_.out (by kernel_rfl)) (fun _ _ _ h => h) (Or.inl ⟨by rfl,?_⟩) ?_ ?_
            rotate_left
            ·intro w';go_simp;with_reducible rfl
            rotate_left
            ·simp only [Act.put,q_ia5,q_cz5,q_cs5,i64_w,i32_w];rfl
            refine pure_ (i:=16) (N:=some 31) (v:=?_) (a':=?_) #[bT,bT,bT,bT,bT,bT,bT,bT,bT,bT,bT,bT,bT,bT,bT,bf,bT,bf,bf,bf,bf,bf,bf,bf,bf,bf] rfl rfl (any_of HT_.out (by kernel_rfl)) (fun _ _ _ h => h) (Or.inl ⟨by rfl,?_⟩) ?_ ?_
            rotate_left
            ·intro w';go_simp;with_reducible rfl
            rotate_left
            ·simp only [Act.put,q_ia5,q_cz5,q_cs5,i64_w,i32_w];rfl
            refine pure_ (i:=17) (N:=some 32) (v:=?_) (a':=?_) #[bT,bT,bT,bT,bT,bT,bT,bT,bT,bT,bT,bT,bT,bT,bT,bf,bT,bT,bf,bf,bf,bf,bf,bf,bf,bf] rfl rfl (any_of HT_.out (by kernel_rfl)) (fun _ _ _ h => h) (Or.inl ⟨by rfl,?_⟩) ?_ ?_
            rotate_left
            ·intro w';go_simp;with_reducible rfl
            rotate_left
            ·simp only [Act.put,q_ia5,q_cz5,q_cs5,i64_w,i32_w];rfl
            refine pure_ (i:=21) (N:=some 36) (v:=?_) (a':=?_) #[bT,bT,bT,bT,bT,bT,bT,bT,bT,bT,bT,bT,bT,bT,bT,bf,bT,bT,bf,bf,bf,bT,bf,bf,bf,bf] rfl rfl (any_of HT_.out (by kernel_rfl)) (fun _ _ _ h => h) (Or.inl ⟨by rfl,?_⟩) ?_ ?_
            rotate_left
            ·intro w';go_simp;with_reducible rfl
            rotate_left
            ·simp only [Act.put,q_ia5,q_cz5,q_cs5,i64_w,i32_w];rfl
            refine take_ (i:=15) (N:=some 30) (v:=?_) (a':=?_) #[bT,bT,bT,bT,bT,bT,bT,bT,bT,bT,bT,bT,bT,bT,bT,bT,bT,bT,bf,bf,bf,bT,bf,bf,bf,bf] rfl rfl (take_ofW HT_.out HW_.out (by kernel_rfl)) (fun _ _ _ h => h) (Or.inl ⟨by rfl,?_⟩) hHeld ?_ ?_
            rotate_left
            ·rintro w' ⟨s0,s1,s2,s3,s4,s5,s6⟩
             go_simp
             with_reducible rfl
            rotate_left
            ·simp only [Act.put,q_ia5,q_cz5,q_cs5,i64_w,i32_w];rfl
            refine pure_ (i:=18) (N:=some 33) (v:=?_) (a':=?_) #[bT,bT,bT,bT,bT,bT,bT,bT,bT,bT,bT,bT,bT,bT,bT,bT,bT,bT,bT,bf,bf,bT,bf,bf,bf,bf] rfl rfl (any_of HT_.out (by kernel_rfl)) (fun _ _ _ h => h) (Or.inl ⟨by rfl,?_⟩) ?_ ?_
            rotate_left
            ·intro w';go_simp;with_reducible rfl
            rotate_left
            ·simp only [Act.put,q_ia5,q_cz5,q_cs5,i64_w,i32_w];rfl
            refine pure_ (i:=19) (N:=some 34) (v:=?_) (a':=?_) #[bT,bT,bT,bT,bT,bT,bT,bT,bT,bT,bT,bT,bT,bT,bT,bT,bT,bT,bT,bT,bf,bT,bf,bf,bf,bf] rfl rfl (any_of HT_.out (by kernel_rfl)) (fun _ _ _ h => h) (Or.inl ⟨by rfl,?_⟩) ?_ ?_
            rotate_left
            ·intro w';go_simp;with_reducible rfl
            rotate_left
            ·simp only [Act.put,q_ia5,q_cz5,q_cs5,i64_w,i32_w];rfl
            refine take_ (i:=20) (N:=some 35) (v:=?_) (a':=?_) #[bT,bT,bT,bT,bT,bT,bT,bT,bT,bT,bT,bT,bT,bT,bT,bT,bT,bT,bT,bT,bT,bT,bf,bf,bf,bf] rfl rfl (take_ofW HT_.out HW_.out (by kernel_rfl)) (fun _ _ _ h => h) (Or.inl ⟨by rfl,?_⟩) hHeld ?_ ?_
            rotate_left
            ·rintro w' ⟨s0,s1,s2,s3,s4,s5,s6⟩
             go_simp
             with_reducible rfl
            rotate_left
            ·simp only [Act.put,q_ia5,q_cz5,q_cs5,i64_w,i32_w];rfl
            refine take_ (i:=22) (N:=some 37) (v:=?_) (a':=?_) #[bT,bT,bT,bT,bT,bT,bT,bT,bT,bT,bT,bT,bT,bT,bT,bT,bT,bT,bT,bT,bT,bT,bT,bf,bf,bf] rfl rfl (take_ofW HT_.out HW_.out (by kernel_rfl)) (fun _ _ _ h => h) (Or.inl ⟨by rfl,?_⟩) hHeld ?_ ?_
            rotate_left
            ·rintro w' ⟨s0,s1,s2,s3,s4,s5,s6⟩
             go_simp
             with_reducible rfl
            rotate_left
            ·simp only [Act.put,q_ia5,q_cz5,q_cs5,i64_w,i32_w];rfl
            refine pure_ (i:=23) (N:=some 38) (v:=?_) (a':=?_) #[bT,bT,bT,bT,bT,bT,bT,bT,bT,bT,bT,bT,bT,bT,bT,bT,bT,bT,bT,bT,bT,bT,bT,bT,bf,bf] rfl rfl (any_of HT_.out (by kernel_rfl)) (fun _ _ _ h => h) (Or.inl ⟨by rfl,?_⟩) ?_ ?_
            rotate_left
            ·intro w';go_simp;with_reducible rfl
            rotate_left
            ·simp only [Act.put,q_ia5,q_cz5,q_cs5,i64_w,i32_w];rfl
            refine pure_ (i:=24) (N:=some 39) (v:=?_) (a':=?_) #[bT,bT,bT,bT,bT,bT,bT,bT,bT,bT,bT,bT,bT,bT,bT,bT,bT,bT,bT,bT,bT,bT,bT,bT,bT,bf] rfl rfl (any_of HT_.out (by kernel_rfl)) (fun _ _ _ h => h) (Or.inl ⟨by rfl,?_⟩) ?_ ?_
            rotate_left
            ·intro w';go_simp;with_reducible rfl
            rotate_left
            ·simp only [Act.put,q_ia5,q_cz5,q_cs5,i64_w,i32_w];rfl
            refine pure_ (i:=25) (N:=some 40) (v:=?_) (a':=?_) #[bT,bT,bT,bT,bT,bT,bT,bT,bT,bT,bT,bT,bT,bT,bT,bT,bT,bT,bT,bT,bT,bT,bT,bT,bT,bT] rfl rfl (any_of HT_.out (by kernel_rfl)) (fun _ _ _ h => h) (Or.inl ⟨by rfl,?_⟩) ?_ ?_
            rotate_left
            ·intro w';go_simp;with_reducible rfl
            rotate_left
            ·simp only [Act.put,q_ia5,q_cz5,q_cs5,i64_w,i32_w];rfl
            refine done_ (done_of HT_.out (by kernel_rfl)) ?_
            try go_wp2
            go_roundg k1
            case measure => have:=HK1.out;omega
            case rel => exact ⟨(wrap64 (x10_1 + 1)),(by first|rfl|(simp;done)|(simp [*];done)),H',⟨by have:=HK1.out;omega⟩,⟨by (with_reducible repeat (first|refine bN ?_ _|refine bD ?_|refine bA ?_ _));exact BK176.out⟩,⟨by repeat (first|(with_reducible first|exact HB.out|apply lA|apply lN|apply lD|refine lS ?_ GE176.out|refine lS ?_ GE178.out)|exact HB.out)⟩⟩
           ·rw [if_neg c19] at H
            have c19b0 : (Op.bytesLess (((rd_T105 l0_0 (ji16)).f0).toList) (((rd_T105 l0_0 x10_1).f0).toList)) = false:=by simpa using c19
            clear c19
            obtain rfl:=Option.some.inj H
            have p177 : 0 ≤ (x10_1 : Int):=of_decide_eq_true (by first|(with_reducible assumption)|assumption)
            have q177 : x10_1 < (l0_0.length : Int):=of_decide_eq_true (by first|(with_reducible assumption)|assumption)
            obtain ⟨ad177,e177,hx177_0,hx177_1⟩:=at_T105 HR0_0.out x10_1 p177 q177
            cases e177
            replace hx177_0:=(HB.out.cell (World.block_lt_of_cell? w _ hx177_0)).trans hx177_0
            replace hx177_1:=(HB.out.cell (World.block_lt_of_cell? w _ hx177_1)).trans hx177_1
            replace p177:=eq_true p177
            replace q177:=eq_true q177
            try go_wp2_with (first|((with_reducible refine gate_dst (N:=4) rfl ?_);(try (refine gate_guard (by rfl) ?_;dsimp only));refine box_event ?hg (N:=4) ?hd (cs:=#[.string (⟨#[]⟩ : ByteArray),.string (⟨#[]⟩ : ByteArray)]) (t:=105) ?hr ?_;(case hd => rfl);(case hg => rfl);(case hr => first|(go_simp;done)|(go_simp;rfl));intro gb178 hg w25 hbox hb;have n0_:=aM (bB (g:=gb176) (o:=.cells #[.slice (some ad177) l0_0.length c0_0,.slice A0_1 l0_1.length c0_1,.string a0_2] 54 (0,0)) (by (with_reducible repeat (first|refine bN ?_ _|refine bD ?_|refine bA ?_ _));exact BK176.out) hb);have n1_:=aM (lP (by repeat (first|(with_reducible first|exact HB.out|apply lA|apply lN|apply lD|refine lS ?_ GE176.out)|exact HB.out)) hb);have n2_:=aM (hbox);have n3_:=aM ((by rw [hg];exact (lZ (by repeat (first|(with_reducible first|exact HB.out|apply lA|apply lN|apply lD|refine lS ?_ GE176.out)|exact HB.out))) : w.heap.size ≤ gb178));have n4_:=aM ((by rw [hg];exact (lZ (by repeat (first|(with_reducible first|exact HB.out|apply lA|apply lN|apply lD|refine lS ?_ GE176.out)|exact HB.out))) : w.heap.size ≤ gb178));have n5_:=aM ((by rw [hg];exact Nat.ne_of_lt (bL (g:=gb176) (o:=.cells #[.slice (some ad177) l0_0.length c0_0,.slice A0_1 l0_1.length c0_1,.string a0_2] 54 (0,0)) (by (with_reducible repeat (first|refine bN ?_ _|refine bD ?_|refine bA ?_ _));exact BK176.out)) : gb176 ≠ gb178));have n6_:=aM ((by rw [hg];exact Nat.ne_of_gt (bL (g:=gb176) (o:=.cells #[.slice (some ad177) l0_0.length c0_0,.slice A0_1 l0_1.length c0_1,.string a0_2] 54 (0,0)) (by (with_reducible repeat (first|refine bN ?_ _|refine bD ?_|refine bA ?_ _));exact BK176.out)) : gb178 ≠ gb176));clear BK176 HB;have BK176:=n0_;have HB:=n1_;have BK178:=n2_;have GW178:=n3_;have GE178:=n4_;have NB176_178:=n5_;have NB178_176:=n6_;clear n0_ n1_ n2_ n3_ n4_ n5_ n6_ hb hbox hg;have hnb26:=NB178_176.out;have hnc26:=NB176_178.out;have hcz27_0 : w25.cell? ⟨gb178,0,none⟩ = some (.string (⟨#[]⟩ : ByteArray)):=(bC BK178.out 0).trans rfl;have hcz27_1 : w25.cell? ⟨gb178,1,none⟩ = some (.string (⟨#[]⟩ : ByteArray)):=(bC BK178.out 1).trans rfl;have hfz27_0:=bF BK178.out 0;have hfz27_1:=bF BK178.out 1))
            have n0_ : Aside0 (((w25.setCell ⟨gb178,0,none⟩ (.string ((rd_T105 l0_0 x10_1).f0))).setCell ⟨gb178,1,none⟩ (.string ((rd_T105 l0_0 x10_1).f1))).heap[gb176]? = some (.cells #[.slice (some ad177) l0_0.length c0_0,.slice A0_1 l0_1.length c0_1,.string a0_2] 54 (0,0))):=⟨by (with_reducible repeat (first|refine bN ?_ _|refine bD ?_|refine bA ?_ _));refine blk_far ?_ NB176_178.out _;(with_reducible repeat (first|refine bN ?_ _|refine bD ?_|refine bA ?_ _));refine blk_far ?_ NB176_178.out _;(with_reducible repeat (first|refine bN ?_ _|refine bD ?_|refine bA ?_ _));exact BK176.out⟩
            have n1_ : Aside0 (((w25.setCell ⟨gb178,0,none⟩ (.string ((rd_T105 l0_0 x10_1).f0))).setCell ⟨gb178,1,none⟩ (.string ((rd_T105 l0_0 x10_1).f1))).heap[gb178]? = some (.cells #[.string ((rd_T105 l0_0 x10_1).f0),.string ((rd_T105 l0_0 x10_1).f1)] 105 (0,0))):=⟨by (with_reducible repeat (first|refine bN ?_ _|refine bD ?_|refine bA ?_ _));refine blk_put (cs:=#[.string ((rd_T105 l0_0 x10_1).f0),.string (⟨#[]⟩ : ByteArray)]) ?_ 1 _ rfl;(with_reducible repeat (first|refine bN ?_ _|refine bD ?_|refine bA ?_ _));refine blk_put (cs:=#[.string (⟨#[]⟩ : ByteArray),.string (⟨#[]⟩ : ByteArray)]) ?_ 0 _ rfl;(with_reducible repeat (first|refine bN ?_ _|refine bD ?_|refine bA ?_ _));exact BK178.out⟩
            have n2_ : Aside0 (Below w.heap.size w ((w25.setCell ⟨gb178,0,none⟩ (.string ((rd_T105 l0_0 x10_1).f0))).setCell ⟨gb178,1,none⟩ (.string ((rd_T105 l0_0 x10_1).f1)))):=⟨by repeat (first|(with_reducible first|exact HB.out|apply lA|apply lN|apply lD|refine lS ?_ GE176.out|refine lS ?_ GE178.out)|exact HB.out)⟩
            (try clear BK176)
            (try clear BK178)
            (try clear HB)
            generalize ((w25.setCell ⟨gb178,0,none⟩ (.string ((rd_T105 l0_0 x10_1).f0))).setCell ⟨gb178,1,none⟩ (.string ((rd_T105 l0_0 x10_1).f1))) = w28 at n0_ n1_ n2_ ⊢
            have BK176:=n0_
            have BK178:=n1_
            have HB:=n2_
            clear n0_ n1_ n2_
            have n0_:=aM (bD BK176.out)
            have n1_:=aM (bD BK178.out)
            have n2_:=aM (lD HB.out)
            clear BK176
            clear BK178
            clear HB
            have BK176:=n0_
            have BK178:=n1_
            have HB:=n2_
            clear n0_ n1_ n2_
            have p180 : 0 ≤ ((ji16) : Int):=of_decide_eq_true (by first|(with_reducible assumption)|assumption)
            have q180 : (ji16) < (l0_0.length : Int):=of_decide_eq_true (by first|(with_reducible assumption)|assumption)
            obtain ⟨ad180,e180,hx180_0,hx180_1⟩:=at_T105 HR0_0.out (ji16) p180 q180
            have hw180_1:=hx180_1
            have hw180_0:=hx180_0
            obtain rfl : ad177 = ad180:=(by injection e180)
            replace hx180_0:=(HB.out.cell (World.block_lt_of_cell? w _ hx180_0)).trans hx180_0
            replace hx180_1:=(HB.out.cell (World.block_lt_of_cell? w _ hx180_1)).trans hx180_1
            replace p180:=eq_true p180
            replace q180:=eq_true q180
            refine start_ (n:=26) (S:=fun w' => w'.cell? ⟨gb178,0,none⟩ = some (.string ((rd_T105 l0_0 x10_1).f0)) ∧ w'.cell? ⟨gb178,1,none⟩ = some (.string ((rd_T105 l0_0 x10_1).f1)) ∧ w'.cell? ⟨gb176,0,none⟩ = some (.slice (some ad177) l0_0.length c0_0) ∧ w'.cell? ⟨gb176,1,none⟩ = some (.slice A0_1 l0_1.length c0_1) ∧ w'.cell? ⟨gb176,2,none⟩ = some (.string a0_2) ∧ w'.cell? (ad177.add (((ji16)).toNat * 2)) = some (.string ((rd_T105 l0_0 (ji16)).f0)) ∧ w'.cell? ⟨(ad177.add (((ji16)).toNat * 2)).block,(ad177.add (((ji16)).toNat * 2)).off + 1,none⟩ = some (.string ((rd_T105 l0_0 (ji16)).f1))) (ds:=[]) #[bf,bf,bf,bf,bf,bf,bf,bf,bf,bf,bf,bf,bf,bf,bf,bf,bf,bf,bf,bf,bf,bf,bf,bf,bf,bf] (by kernel_rfl) rfl rfl ⟨(bC BK178.out 0).trans rfl,(bC BK178.out 1).trans rfl,(bC BK176.out 0).trans rfl,(bC BK176.out 1).trans rfl,(bC BK176.out 2).trans rfl,((HB.out.cell (World.block_lt_of_cell? w _ hw180_0)).trans hw180_0),((HB.out.cell (World.block_lt_of_cell? w _ hw180_1)).trans hw180_1)⟩ (fun hHeld => ?_);refine with_tabW impl_StoreOk.tab4 impl_StoreOk.bits4 (fun HT_ HW_ => ?_)
            generalize w28.drew = w29 at BK176 BK178 HB hx180_0 hx180_1 hHeld ⊢
            refine pure_ (i:=0) (N:=some 15) (v:=?_) (a':=?_) #[bT,bf,bf,bf,bf,bf,bf,bf,bf,bf,bf,bf,bf,bf,bf,bf,bf,bf,bf,bf,bf,bf,bf,bf,bf,bf] rfl rfl (any_of HT_.out (by kernel_rfl)) (fun _ _ _ h => h) (Or.inl ⟨by rfl,?_⟩) ?_ ?_
            rotate_left
            ·intro w';go_simp;with_reducible rfl
            rotate_left
            ·simp only [Act.put,q_ia5,q_cz5,q_cs5,i64_w,i32_w];rfl
            refine take_ (i:=1) (N:=some 16) (v:=?_) (a':=?_) #[bT,bT,bf,bf,bf,bf,bf,bf,bf,bf,bf,bf,bf,bf,bf,bf,bf,bf,bf,bf,bf,bf,bf,bf,bf,bf] rfl rfl (take_ofW HT_.out HW_.out (by kernel_rfl)) (fun _ _ _ h => h) (Or.inl ⟨by rfl,?_⟩) hHeld ?_ ?_
            rotate_left
            ·rintro w' ⟨s0,s1,s2,s3,s4,s5,s6⟩
             go_simp
             with_reducible rfl
            rotate_left
            ·simp only [Act.put,q_ia5,q_cz5,q_cs5,i64_w,i32_w];rfl
            refine one_ (i:=2) (N:=some 17) #[bT,bT,bT,bf,bf,bf,bf,bf,bf,bf,bf,bf,bf,bf,bf,bf,bf,bf,bf,bf,bf,bf,bf,bf,bf,bf] rfl rfl (one_of HT_.out (by kernel_rfl)) (by decide) (fun K hK => ?_)
            refine goes_ Try.func107 (by kernel_rfl) rfl #[.string ((rd_T105 l0_0 x10_1).f0)] (by rfl) rfl rfl (by (try simp only [List.map_toArray,List.map_cons,List.map_nil]);first|done|rfl|(simp only [List.length_drop,List.length_take];rfl)) ?_
            with_reducible refine (impl_isLetters.calls k1 ((rd_T105 l0_0 x10_1).f0) true _ A7.out).mono ?_
            rintro e w' ⟨rfl,⟨nd,rfl⟩⟩
            refine ⟨_,rfl,?_⟩
            refine hK.out _ _ ⟨(bC BK178.out 0).trans rfl,(bC BK178.out 1).trans rfl,(bC BK176.out 0).trans rfl,(bC BK176.out 1).trans rfl,(bC BK176.out 2).trans rfl,((HB.out.cell (World.block_lt_of_cell? w _ hw180_0)).trans hw180_0),((HB.out.cell (World.block_lt_of_cell? w _ hw180_1)).trans hw180_1)⟩ (fun hHeld => ?_)
            clear hK K
            refine norm_ (a':=?_) ?_ ?_
            rotate_left
            ·show Act.put _ (some 17) _ = _
             simp only [Act.put,q_ia5,q_cz5,q_cs5,i64_w,i32_w]
             rfl
            refine pure_ (i:=3) (N:=some 18) (v:=?_) (a':=?_) #[bT,bT,bT,bT,bf,bf,bf,bf,bf,bf,bf,bf,bf,bf,bf,bf,bf,bf,bf,bf,bf,bf,bf,bf,bf,bf] rfl rfl (any_of HT_.out (by kernel_rfl)) (fun _ _ _ h => h) (Or.inl ⟨by rfl,?_⟩) ?_ ?_
            rotate_left
            ·intro w';go_simp;with_reducible rfl
            rotate_left
            ·simp only [Act.put,q_ia5,q_cz5,q_cs5,i64_w,i32_w];rfl
            refine pure_ (i:=4) (N:=some 19) (v:=?_) (a':=?_) #[bT,bT,bT,bT,bT,bf,bf,bf,bf,bf,bf,bf,bf,bf,bf,bf,bf,bf,bf,bf,bf,bf,bf,bf,bf,bf] rfl rfl (any_of HT_.out (by kernel_rfl)) (fun _ _ _ h => h) (Or.inl ⟨by rfl,?_⟩) ?_ ?_
            rotate_left
            ·intro w';go_simp;with_reducible rfl
            rotate_left
            ·simp only [Act.put,q_ia5,q_cz5,q_cs5,i64_w,i32_w];rfl
            refine pure_ (i:=5) (N:=some 20) (v:=?_) (a':=?_) #[bT,bT,bT,bT,bT,bT,bf,bf,bf,bf,bf,bf,bf,bf,bf,bf,bf,bf,bf,bf,bf,bf,bf,bf,bf,bf] rfl rfl (any_of HT_.out (by kernel_rfl)) (fun _ _ _ h => h) (Or.inl ⟨by rfl,?_⟩) ?_ ?_
            rotate_left
            ·intro w';go_simp;with_reducible rfl
            rotate_left
            ·simp only [Act.put,q_ia5,q_cz5,q_cs5,i64_w,i32_w];rfl
            refine take_ (i:=6) (N:=some 21) (v:=?_) (a':=?_) #[bT,bT,bT,bT,bT,bT,bT,bf,bf,bf,bf,bf,bf,bf,bf,bf,bf,bf,bf,bf,bf,bf,bf,bf,bf,bf] rfl rfl (take_ofW HT_.out HW_.out (by kernel_rfl)) (fun _ _ _ h => h) (Or.inl ⟨by rfl,?_⟩) hHeld ?_ ?_
            rotate_left
            ·rintro w' ⟨s0,s1,s2,s3,s4,s5,s6⟩
             go_simp
             with_reducible rfl
            rotate_left
            ·simp only [Act.put,q_ia5,q_cz5,q_cs5,i64_w,i32_w];rfl
            refine pure_ (i:=7) (N:=some 22) (v:=?_) (a':=?_) #[bT,bT,bT,bT,bT,bT,bT,bT,bf,bf,bf,bf,bf,bf,bf,bf,bf,bf,bf,bf,bf,bf,bf,bf,bf,bf] rfl rfl (any_of HT_.out (by kernel_rfl)) (fun _ _ _ h => h) (Or.inl ⟨by rfl,?_⟩) ?_ ?_
            rotate_left
            ·intro w';go_simp;with_reducible rfl
            rotate_left
            ·simp only [Act.put,q_ia5,q_cz5,q_cs5,i64_w,i32_w];rfl
            refine pure_ (i:=8) (N:=some 23) (v:=?_) (a':=?_) #[bT,bT,bT,bT,bT,bT,bT,bT,bT,bf,bf,bf,bf,bf,bf,bf,bf,bf,bf,bf,bf,bf,bf,bf,bf,bf] rfl rfl (any_of HT_.out (by kernel_rfl)) (fun _ _ _ h => h) (Or.inl ⟨by rfl,?_⟩) ?_ ?_
            rotate_left
            ·intro w';go_simp;with_reducible rfl
            rotate_left
            ·simp only [Act.put,q_ia5,q_cz5,q_cs5,i64_w,i32_w];rfl
            refine pure_ (i:=9) (N:=some 24) (v:=?_) (a':=?_) #[bT,bT,bT,bT,bT,bT,bT,bT,bT,bT,bf,bf,bf,bf,bf,bf,bf,bf,bf,bf,bf,bf,bf,bf,bf,bf] rfl rfl (any_of HT_.out (by kernel_rfl)) (fun _ _ _ h => h) (Or.inl ⟨by rfl,?_⟩) ?_ ?_
            rotate_left
            ·intro w';go_simp;with_reducible rfl
            rotate_left
            ·simp only [Act.put,q_ia5,q_cz5,q_cs5,i64_w,i32_w];rfl
            refine pure_ (i:=10) (N:=some 25) (v:=?_) (a':=?_) #[bT,bT,bT,bT,bT,bT,bT,bT,bT,bT,bT,bf,bf,bf,bf,bf,bf,bf,bf,bf,bf,bf,bf,bf,bf,bf] rfl rfl (any_of HT_.out (by kernel_rfl)) (fun _ _ _ h => h) (Or.inl ⟨by rfl,?_⟩) ?_ ?_
            rotate_left
            ·intro w';go_simp;with_reducible rfl
            rotate_left
            ·simp only [Act.put,q_ia5,q_cz5,q_cs5,i64_w,i32_w];rfl
            refine pure_ (i:=11) (N:=some 26) (v:=?_) (a':=?_) #[bT,bT,bT,bT,bT,bT,bT,bT,bT,bT,bT,bT,bf,bf,bf,bf,bf,bf,bf,bf,bf,bf,bf,bf,bf,bf] rfl rfl (any_of HT_.out (by kernel_rfl)) (fun _ _ _ h => h) (Or.inl ⟨by rfl,?_⟩) ?_ ?_
            rotate_left
            ·intro w';go_simp;with_reducible rfl
            rotate_left
            ·simp only [Act.put,q_ia5,q_cz5,q_cs5,i64_w,i32_w];rfl
            refine pure_ (i:=12) (N:=some 27) (v:=?_) (a':=?_) #[bT,bT,bT,bT,bT,bT,bT,bT,bT,bT,bT,bT,bT,bf,bf,bf,bf,bf,bf,bf,bf,bf,bf,bf,bf,bf] rfl rfl (any_of HT_.out (by kernel_rfl)) (fun _ _ _ h => h) (Or.inl ⟨by rfl,?_⟩) ?_ ?_
            rotate_left
            ·intro w';go_simp;with_reducible rfl
            rotate_left
            ·simp only [Act.put,q_ia5,q_cz5,q_cs5,i64_w,i32_w];rfl
            refine pure_ (i:=13) (N:=some 28) (v:=?_) (a':=?_) #[bT,bT,bT,bT,bT,bT,bT,bT,bT,bT,bT,bT,bT,bT,bf,bf,bf,bf,bf,bf,bf,bf,bf,bf,bf,bf] rfl rfl (any_of HT_.out (by kernel_rfl)) (fun _ _ _ h => h) (Or.inl ⟨by rfl,?_⟩) ?_ ?_
            rotate_left
            ·intro w';go_simp;with_reducible rfl
            rotate_left
            ·simp only [Act.put,q_ia5,q_cz5,q_cs5,i64_w,i32_w];rfl
            refine pure_ (i:=14) (N:=some 29) (v:=?_) (a':=?_) #[bT,bT,bT,bT,bT,bT,bT,bT,bT,bT,bT,bT,bT,bT,bT,bf,bf,bf,bf,bf,bf,bf,bf,bf,bf,bf] rfl rfl (any_of HT_.out (by kernel_rfl)) (fun _ _ _ h => h) (Or.inl ⟨by rfl,?_⟩) ?_ ?_
            rotate_left
            ·intro w';go_simp;with_reducible rfl
            rotate_left
            ·simp only [Act.put,q_ia5,q_cz5,q_cs5,i64_w,i32_w];rfl
            refine pure_ (i:=16) (N:=some 31) (v:=?_) (a':=?_) #[bT,bT,bT,bT,bT,bT,bT,bT,bT,bT,bT,bT,bT,bT,bT,bf,bT,bf,bf,bf,bf,bf,bf,bf,bf,bf] rfl rfl (any_of HT_.out (by kernel_rfl)) (fun _ _ _ h => h) (Or.inl ⟨by rfl,?_⟩) ?_ ?_
            rotate_left
            ·intro w';go_simp;with_reducible rfl
            rotate_left
            ·simp only [Act.put,q_ia5,q_cz5,q_cs5,i64_w,i32_w];rfl
            refine pure_ (i:=17) (N:=some 32) (v:=?_) (a':=?_) #[bT,bT,bT,bT,bT,bT,bT,bT,bT,bT,bT,bT,bT,bT,bT,bf,bT,bT,bf,bf,bf,bf,bf,bf,bf,bf] rfl rfl (any_of HT_.out (by kernel_rfl)) (fun _ _ _ h => h) (Or.inl ⟨by rfl,?_⟩) ?_ ?_
            rotate_left
            ·intro w';go_simp;with_reducible rfl
            rotate_left
            ·simp only [Act.put,q_ia5,q_cz5,q_cs5,i64_w,i32_w];rfl
            refine pure_ (i:=21) (N:=some 36) (v:=?_) (a':=?_) #[bT,bT,bT,bT,bT,bT,bT,bT,bT,bT,bT,bT,bT,bT,bT,bf,bT,bT,bf,bf,bf,bT,bf,bf,bf,bf] rfl rfl (any_of HT_.out (by kernel_rfl)) (fun _ _ _ h => h) (Or.inl ⟨by rfl,?_⟩) ?_ ?_
            rotate_left
            ·intro w';go_simp;with_reducible rfl
            rotate_left
            ·simp only [Act.put,q_ia5,q_cz5,q_cs5,i64_w,i32_w];rfl
            refine take_ (i:=15) (N:=some 30) (v:=?_) (a':=?_) #[bT,bT,bT,bT,bT,bT,bT,bT,bT,bT,bT,bT,bT,bT,bT,bT,bT,bT,bf,bf,bf,bT,bf,bf,bf,bf] rfl rfl (take_ofW HT_.out HW_.out (by kernel_rfl)) (fun _ _ _ h => h) (Or.inl ⟨by rfl,?_⟩) hHeld ?_ ?_
            rotate_left
            ·rintro w' ⟨s0,s1,s2,s3,s4,s5,s6⟩
             go_simp
             with_reducible rfl
            rotate_left
            ·simp only [Act.put,q_ia5,q_cz5,q_cs5,i64_w,i32_w];rfl
            refine pure_ (i:=18) (N:=some 33) (v:=?_) (a':=?_) #[bT,bT,bT,bT,bT,bT,bT,bT,bT,bT,bT,bT,bT,bT,bT,bT,bT,bT,bT,bf,bf,bT,bf,bf,bf,bf] rfl rfl (any_of HT_.out (by kernel_rfl)) (fun _ _ _ h => h) (Or.inl ⟨by rfl,?_⟩) ?_ ?_
            rotate_left
            ·intro w';go_simp;with_reducible rfl
            rotate_left
            ·simp only [Act.put,q_ia5,q_cz5,q_cs5,i64_w,i32_w];rfl
            refine pure_ (i:=19) (N:=some 34) (v:=?_) (a':=?_) #[bT,bT,bT,bT,bT,bT,bT,bT,bT,bT,bT,bT,bT,bT,bT,bT,bT,bT,bT,bT,bf,bT,bf,bf,bf,bf] rfl rfl (any_of HT_.out (by kernel_rfl)) (fun _ _ _ h => h) (Or.inl ⟨by rfl,?_⟩) ?_ ?_
            rotate_left
            ·intro w';go_simp;with_reducible rfl
            rotate_left
            ·simp only [Act.put,q_ia5,q_cz5,q_cs5,i64_w,i32_w];rfl
            refine take_ (i:=20) (N:=some 35) (v:=?_) (a':=?_) #[bT,bT,bT,bT,bT,bT,bT,bT,bT,bT,bT,bT,bT,bT,bT,bT,bT,bT,bT,bT,bT,bT,bf,bf,bf,bf] rfl rfl (take_ofW HT_.out HW_.out (by kernel_rfl)) (fun _ _ _ h => h) (Or.inl ⟨by rfl,?_⟩) hHeld ?_ ?_
            rotate_left
            ·rintro w' ⟨s0,s1,s2,s3,s4,s5,s6⟩
             go_simp
             with_reducible rfl
            rotate_left
            ·simp only [Act.put,q_ia5,q_cz5,q_cs5,i64_w,i32_w];rfl
            refine take_ (i:=22) (N:=some 37) (v:=?_) (a':=?_) #[bT,bT,bT,bT,bT,bT,bT,bT,bT,bT,bT,bT,bT,bT,bT,bT,bT,bT,bT,bT,bT,bT,bT,bf,bf,bf] rfl rfl (take_ofW HT_.out HW_.out (by kernel_rfl)) (fun _ _ _ h => h) (Or.inl ⟨by rfl,?_⟩) hHeld ?_ ?_
            rotate_left
            ·rintro w' ⟨s0,s1,s2,s3,s4,s5,s6⟩
             go_simp
             with_reducible rfl
            rotate_left
            ·simp only [Act.put,q_ia5,q_cz5,q_cs5,i64_w,i32_w];rfl
            refine pure_ (i:=23) (N:=some 38) (v:=?_) (a':=?_) #[bT,bT,bT,bT,bT,bT,bT,bT,bT,bT,bT,bT,bT,bT,bT,bT,bT,bT,bT,bT,bT,bT,bT,bT,bf,bf] rfl rfl (any_of HT_.out (by kernel_rfl)) (fun _ _ _ h => h) (Or.inl ⟨by rfl,?_⟩) ?_ ?_
            rotate_left
            ·intro w';go_simp;with_reducible rfl
            rotate_left
            ·simp only [Act.put,q_ia5,q_cz5,q_cs5,i64_w,i32_w];rfl
            refine pure_ (i:=24) (N:=some 39) (v:=?_) (a':=?_) #[bT,bT,bT,bT,bT,bT,bT,bT,bT,bT,bT,bT,bT,bT,bT,bT,bT,bT,bT,bT,bT,bT,bT,bT,bT,bf] rfl rfl (any_of HT_.out (by kernel_rfl)) (fun _ _ _ h => h) (Or.inl ⟨by rfl,?_⟩) ?_ ?_
            rotate_left
            ·intro w';go_simp;with_reducible rfl
            rotate_left
            ·simp only [Act.put,q_ia5,q_cz5,q_cs5,i64_w,i32_w];rfl
            refine pure_ (i:=25) (N:=some 40) (v:=?_) (a':=?_) #[bT,bT,bT,bT,bT,bT,bT,bT,bT,bT,bT,bT,bT,bT,bT,bT,bT,bT,bT,bT,bT,bT,bT,bT,bT,bT] rfl rfl (any_of HT_.out (by kernel_rfl)) (fun _ _ _ h => h) (Or.inl ⟨by rfl,?_⟩) ?_ ?_
            rotate_left
            ·intro w';go_simp;with_reducible rfl
            rotate_left
            ·simp only [Act.put,q_ia5,q_cz5,q_cs5,i64_w,i32_w];rfl
            refine done_ (done_of HT_.out (by kernel_rfl)) ?_
            try go_wp2
            go_ret
            exact ⟨by first|rfl|(simp [errW_none,errW_some] <;> rfl)|(simp only [← hji16];first|rfl|(simp [errW_none,errW_some] <;> rfl))|(simp [*,errW_none,errW_some] <;> rfl),by repeat (first|(with_reducible first|exact HB.out|apply lA|apply lN|apply lD|refine lS ?_ GE176.out|refine lS ?_ GE178.out)|exact HB.out)⟩
          ·rw [if_neg c18] at H
           exact absurd H (by simp)
         ·rw [if_neg c17] at H
          exact absurd H (by simp)
        ·rw [if_neg c15] at H
         have c15b0 : decide (0 < x10_1) = false:=decide_eq_false c15
         clear c15
         have H':=aM H
         clear H
         have p177 : 0 ≤ (x10_1 : Int):=of_decide_eq_true (by first|(with_reducible assumption)|assumption)
         have q177 : x10_1 < (l0_0.length : Int):=of_decide_eq_true (by first|(with_reducible assumption)|assumption)
         obtain ⟨ad177,e177,hx177_0,hx177_1⟩:=at_T105 HR0_0.out x10_1 p177 q177
         cases e177
         replace hx177_0:=(HB.out.cell (World.block_lt_of_cell? w _ hx177_0)).trans hx177_0
         replace hx177_1:=(HB.out.cell (World.block_lt_of_cell? w _ hx177_1)).trans hx177_1
         replace p177:=eq_true p177
         replace q177:=eq_true q177
         try go_wp2_with (first|((with_reducible refine gate_dst (N:=4) rfl ?_);(try (refine gate_guard (by rfl) ?_;dsimp only));refine box_event ?hg (N:=4) ?hd (cs:=#[.string (⟨#[]⟩ : ByteArray),.string (⟨#[]⟩ : ByteArray)]) (t:=105) ?hr ?_;(case hd => rfl);(case hg => rfl);(case hr => first|(go_simp;done)|(go_simp;rfl));intro gb178 hg w30 hbox hb;have n0_:=aM (bB (g:=gb176) (o:=.cells #[.slice (some ad177) l0_0.length c0_0,.slice A0_1 l0_1.length c0_1,.string a0_2] 54 (0,0)) (by (with_reducible repeat (first|refine bN ?_ _|refine bD ?_|refine bA ?_ _));exact BK176.out) hb);have n1_:=aM (lP (by repeat (first|(with_reducible first|exact HB.out|apply lA|apply lN|apply lD|refine lS ?_ GE176.out)|exact HB.out)) hb);have n2_:=aM (hbox);have n3_:=aM ((by rw [hg];exact (lZ (by repeat (first|(with_reducible first|exact HB.out|apply lA|apply lN|apply lD|refine lS ?_ GE176.out)|exact HB.out))) : w.heap.size ≤ gb178));have n4_:=aM ((by rw [hg];exact (lZ (by repeat (first|(with_reducible first|exact HB.out|apply lA|apply lN|apply lD|refine lS ?_ GE176.out)|exact HB.out))) : w.heap.size ≤ gb178));have n5_:=aM ((by rw [hg];exact Nat.ne_of_lt (bL (g:=gb176) (o:=.cells #[.slice (some ad177) l0_0.length c0_0,.slice A0_1 l0_1.length c0_1,.string a0_2] 54 (0,0)) (by (with_reducible repeat (first|refine bN ?_ _|refine bD ?_|refine bA ?_ _));exact BK176.out)) : gb176 ≠ gb178));have n6_:=aM ((by rw [hg];exact Nat.ne_of_gt (bL (g:=gb176) (o:=.cells #[.slice (some ad177) l0_0.length c0_0,.slice A0_1 l0_1.length c0_1,.string a0_2] 54 (0,0)) (by (with_reducible repeat (first|refine bN ?_ _|refine bD ?_|refine bA ?_ _));exact BK176.out)) : gb178 ≠ gb176));clear BK176 HB;have BK176:=n0_;have HB:=n1_;have BK178:=n2_;have GW178:=n3_;have GE178:=n4_;have NB176_178:=n5_;have NB178_176:=n6_;clear n0_ n1_ n2_ n3_ n4_ n5_ n6_ hb hbox hg;have hnb31:=NB178_176.out;have hnc31:=NB176_178.out;have hcz32_0 : w30.cell? ⟨gb178,0,none⟩ = some (.string (⟨#[]⟩ : ByteArray)):=(bC BK178.out 0).trans rfl;have hcz32_1 : w30.cell? ⟨gb178,1,none⟩ = some (.string (⟨#[]⟩ : ByteArray)):=(bC BK178.out 1).trans rfl;have hfz32_0:=bF BK178.out 0;have hfz32_1:=bF BK178.out 1))
         have n0_ : Aside0 (((w30.setCell ⟨gb178,0,none⟩ (.string ((rd_T105 l0_0 x10_1).f0))).setCell ⟨gb178,1,none⟩ (.string ((rd_T105 l0_0 x10_1).f1))).heap[gb176]? = some (.cells #[.slice (some ad177) l0_0.length c0_0,.slice A0_1 l0_1.length c0_1,.string a0_2] 54 (0,0))):=⟨by (with_reducible repeat (first|refine bN ?_ _|refine bD ?_|refine bA ?_ _));refine blk_far ?_ NB176_178.out _;(with_reducible repeat (first|refine bN ?_ _|refine bD ?_|refine bA ?_ _));refine blk_far ?_ NB176_178.out _;(with_reducible repeat (first|refine bN ?_ _|refine bD ?_|refine bA ?_ _));exact BK176.out⟩
         have n1_ : Aside0 (((w30.setCell ⟨gb178,0,none⟩ (.string ((rd_T105 l0_0 x10_1).f0))).setCell ⟨gb178,1,none⟩ (.string ((rd_T105 l0_0 x10_1).f1))).heap[gb178]? = some (.cells #[.string ((rd_T105 l0_0 x10_1).f0),.string ((rd_T105 l0_0 x10_1).f1)] 105 (0,0))):=⟨by (with_reducible repeat (first|refine bN ?_ _|refine bD ?_|refine bA ?_ _));refine blk_put (cs:=#[.string ((rd_T105 l0_0 x10_1).f0),.string (⟨#[]⟩ : ByteArray)]) ?_ 1 _ rfl;(with_reducible repeat (first|refine bN ?_ _|refine bD ?_|refine bA ?_ _));refine blk_put (cs:=#[.string (⟨#[]⟩ : ByteArray),.string (⟨#[]⟩ : ByteArray)]) ?_ 0 _ rfl;(with_reducible repeat (first|refine bN ?_ _|refine bD ?_|refine bA ?_ _));exact BK178.out⟩
         have n2_ : Aside0 (Below w.heap.size w ((w30.setCell ⟨gb178,0,none⟩ (.string ((rd_T105 l0_0 x10_1).f0))).setCell ⟨gb178,1,none⟩ (.string ((rd_T105 l0_0 x10_1).f1)))):=⟨by repeat (first|(with_reducible first|exact HB.out|apply lA|apply lN|apply lD|refine lS ?_ GE176.out|refine lS ?_ GE178.out)|exact HB.out)⟩
         (try clear BK176)
         (try clear BK178)
         (try clear HB)
         generalize ((w30.setCell ⟨gb178,0,none⟩ (.string ((rd_T105 l0_0 x10_1).f0))).setCell ⟨gb178,1,none⟩ (.string ((rd_T105 l0_0 x10_1).f1))) = w33 at n0_ n1_ n2_ ⊢
         have BK176:=n0_
         have BK178:=n1_
         have HB:=n2_
         clear n0_ n1_ n2_
         have n0_:=aM (bD BK176.out)
         have n1_:=aM (bD BK178.out)
         have n2_:=aM (lD HB.out)
         clear BK176
         clear BK178
         clear HB
         have BK176:=n0_
         have BK178:=n1_
         have HB:=n2_
         clear n0_ n1_ n2_
         refine start_ (n:=26) (S:=fun w' => w'.cell? ⟨gb178,0,none⟩ = some (.string ((rd_T105 l0_0 x10_1).f0)) ∧ w'.cell? ⟨gb178,1,none⟩ = some (.string ((rd_T105 l0_0 x10_1).f1))) (ds:=[]) #[bf,bf,bf,bf,bf,bf,bf,bf,bf,bf,bf,bf,bf,bf,bf,bf,bf,bf,bf,bf,bf,bf,bf,bf,bf,bf] (by kernel_rfl) rfl rfl ⟨(bC BK178.out 0).trans rfl,(bC BK178.out 1).trans rfl⟩ (fun hHeld => ?_);refine with_tabW impl_StoreOk.tab4 impl_StoreOk.bits4 (fun HT_ HW_ => ?_)
         generalize w33.drew = w34 at BK176 BK178 HB hHeld ⊢
         refine pure_ (i:=0) (N:=some 15) (v:=?_) (a':=?_) #[bT,bf,bf,bf,bf,bf,bf,bf,bf,bf,bf,bf,bf,bf,bf,bf,bf,bf,bf,bf,bf,bf,bf,bf,bf,bf] rfl rfl (any_of HT_.out (by kernel_rfl)) (fun _ _ _ h => h) (Or.inl ⟨by rfl,?_⟩) ?_ ?_
         rotate_left
         ·intro w';go_simp;with_reducible rfl
         rotate_left
         ·simp only [Act.put,q_ia5,q_cz5,q_cs5,i64_w,i32_w];rfl
         refine take_ (i:=1) (N:=some 16) (v:=?_) (a':=?_) #[bT,bT,bf,bf,bf,bf,bf,bf,bf,bf,bf,bf,bf,bf,bf,bf,bf,bf,bf,bf,bf,bf,bf,bf,bf,bf] rfl rfl (take_ofW HT_.out HW_.out (by kernel_rfl)) (fun _ _ _ h => h) (Or.inl ⟨by rfl,?_⟩) hHeld ?_ ?_
         rotate_left
         ·rintro w' ⟨s0,s1⟩
          go_simp
          with_reducible rfl
         rotate_left
         ·simp only [Act.put,q_ia5,q_cz5,q_cs5,i64_w,i32_w];rfl
         refine one_ (i:=2) (N:=some 17) #[bT,bT,bT,bf,bf,bf,bf,bf,bf,bf,bf,bf,bf,bf,bf,bf,bf,bf,bf,bf,bf,bf,bf,bf,bf,bf] rfl rfl (one_of HT_.out (by kernel_rfl)) (by decide) (fun K hK => ?_)
         refine goes_ Try.func107 (by kernel_rfl) rfl #[.string ((rd_T105 l0_0 x10_1).f0)] (by rfl) rfl rfl (by (try simp only [List.map_toArray,List.map_cons,List.map_nil]);first|done|rfl|(simp only [List.length_drop,List.length_take];rfl)) ?_
         with_reducible refine (impl_isLetters.calls k1 ((rd_T105 l0_0 x10_1).f0) true _ A7.out).mono ?_
         rintro e w' ⟨rfl,⟨nd,rfl⟩⟩
         refine ⟨_,rfl,?_⟩
         refine hK.out _ _ ⟨(bC BK178.out 0).trans rfl,(bC BK178.out 1).trans rfl⟩ (fun hHeld => ?_)
         clear hK K
         refine norm_ (a':=?_) ?_ ?_
         rotate_left
         ·show Act.put _ (some 17) _ = _
          simp only [Act.put,q_ia5,q_cz5,q_cs5,i64_w,i32_w]
          rfl
         refine pure_ (i:=3) (N:=some 18) (v:=?_) (a':=?_) #[bT,bT,bT,bT,bf,bf,bf,bf,bf,bf,bf,bf,bf,bf,bf,bf,bf,bf,bf,bf,bf,bf,bf,bf,bf,bf] rfl rfl (any_of HT_.out (by kernel_rfl)) (fun _ _ _ h => h) (Or.inl ⟨by rfl,?_⟩) ?_ ?_
         rotate_left
         ·intro w';go_simp;with_reducible rfl
         rotate_left
         ·simp only [Act.put,q_ia5,q_cz5,q_cs5,i64_w,i32_w];rfl
         refine pure_ (i:=4) (N:=some 19) (v:=?_) (a':=?_) #[bT,bT,bT,bT,bT,bf,bf,bf,bf,bf,bf,bf,bf,bf,bf,bf,bf,bf,bf,bf,bf,bf,bf,bf,bf,bf] rfl rfl (any_of HT_.out (by kernel_rfl)) (fun _ _ _ h => h) (Or.inl ⟨by rfl,?_⟩) ?_ ?_
         rotate_left
         ·intro w';go_simp;with_reducible rfl
         rotate_left
         ·simp only [Act.put,q_ia5,q_cz5,q_cs5,i64_w,i32_w];rfl
         refine pure_ (i:=5) (N:=some 20) (v:=?_) (a':=?_) #[bT,bT,bT,bT,bT,bT,bf,bf,bf,bf,bf,bf,bf,bf,bf,bf,bf,bf,bf,bf,bf,bf,bf,bf,bf,bf] rfl rfl (any_of HT_.out (by kernel_rfl)) (fun _ _ _ h => h) (Or.inl ⟨by rfl,?_⟩) ?_ ?_
         rotate_left
         ·intro w';go_simp;with_reducible rfl
         rotate_left
         ·simp only [Act.put,q_ia5,q_cz5,q_cs5,i64_w,i32_w];rfl
         refine take_ (i:=6) (N:=some 21) (v:=?_) (a':=?_) #[bT,bT,bT,bT,bT,bT,bT,bf,bf,bf,bf,bf,bf,bf,bf,bf,bf,bf,bf,bf,bf,bf,bf,bf,bf,bf] rfl rfl (take_ofW HT_.out HW_.out (by kernel_rfl)) (fun _ _ _ h => h) (Or.inl ⟨by rfl,?_⟩) hHeld ?_ ?_
         rotate_left
         ·rintro w' ⟨s0,s1⟩
          go_simp
          with_reducible rfl
         rotate_left
         ·simp only [Act.put,q_ia5,q_cz5,q_cs5,i64_w,i32_w];rfl
         refine pure_ (i:=7) (N:=some 22) (v:=?_) (a':=?_) #[bT,bT,bT,bT,bT,bT,bT,bT,bf,bf,bf,bf,bf,bf,bf,bf,bf,bf,bf,bf,bf,bf,bf,bf,bf,bf] rfl rfl (any_of HT_.out (by kernel_rfl)) (fun _ _ _ h => h) (Or.inl ⟨by rfl,?_⟩) ?_ ?_
         rotate_left
         ·intro w';go_simp;with_reducible rfl
         rotate_left
         ·simp only [Act.put,q_ia5,q_cz5,q_cs5,i64_w,i32_w];rfl
         refine pure_ (i:=8) (N:=some 23) (v:=?_) (a':=?_) #[bT,bT,bT,bT,bT,bT,bT,bT,bT,bf,bf,bf,bf,bf,bf,bf,bf,bf,bf,bf,bf,bf,bf,bf,bf,bf] rfl rfl (any_of HT_.out (by kernel_rfl)) (fun _ _ _ h => h) (Or.inl ⟨by rfl,?_⟩) ?_ ?_
         rotate_left
         ·intro w';go_simp;with_reducible rfl
         rotate_left
         ·simp only [Act.put,q_ia5,q_cz5,q_cs5,i64_w,i32_w];rfl
         refine pure_ (i:=9) (N:=some 24) (v:=?_) (a':=?_) #[bT,bT,bT,bT,bT,bT,bT,bT,bT,bT,bf,bf,bf,bf,bf,bf,bf,bf,bf,bf,bf,bf,bf,bf,bf,bf] rfl rfl (any_of HT_.out (by kernel_rfl)) (fun _ _ _ h => h) (Or.inl ⟨by rfl,?_⟩) ?_ ?_
         rotate_left
         ·intro w';go_simp;with_reducible rfl
         rotate_left
         ·simp only [Act.put,q_ia5,q_cz5,q_cs5,i64_w,i32_w];rfl
         refine pure_ (i:=10) (N:=some 25) (v:=?_) (a':=?_) #[bT,bT,bT,bT,bT,bT,bT,bT,bT,bT,bT,bf,bf,bf,bf,bf,bf,bf,bf,bf,bf,bf,bf,bf,bf,bf] rfl rfl (any_of HT_.out (by kernel_rfl)) (fun _ _ _ h => h) (Or.inl ⟨by rfl,?_⟩) ?_ ?_
         rotate_left
         ·intro w';go_simp;with_reducible rfl
         rotate_left
         ·simp only [Act.put,q_ia5,q_cz5,q_cs5,i64_w,i32_w];rfl
         refine pure_ (i:=11) (N:=some 26) (v:=?_) (a':=?_) #[bT,bT,bT,bT,bT,bT,bT,bT,bT,bT,bT,bT,bf,bf,bf,bf,bf,bf,bf,bf,bf,bf,bf,bf,bf,bf] rfl rfl (any_of HT_.out (by kernel_rfl)) (fun _ _ _ h => h) (Or.inl ⟨by rfl,?_⟩) ?_ ?_
         rotate_left
         ·intro w';go_simp;with_reducible rfl
         rotate_left
         ·simp only [Act.put,q_ia5,q_cz5,q_cs5,i64_w,i32_w];rfl
         refine pure_ (i:=12) (N:=some 27) (v:=?_) (a':=?_) #[bT,bT,bT,bT,bT,bT,bT,bT,bT,bT,bT,bT,bT,bf,bf,bf,bf,bf,bf,bf,bf,bf,bf,bf,bf,bf] rfl rfl (any_of HT_.out (by kernel_rfl)) (fun _ _ _ h => h) (Or.inl ⟨by rfl,?_⟩) ?_ ?_
         rotate_left
         ·intro w';go_simp;with_reducible rfl
         rotate_left
         ·simp only [Act.put,q_ia5,q_cz5,q_cs5,i64_w,i32_w];rfl
         refine pure_ (i:=13) (N:=some 28) (v:=?_) (a':=?_) #[bT,bT,bT,bT,bT,bT,bT,bT,bT,bT,bT,bT,bT,bT,bf,bf,bf,bf,bf,bf,bf,bf,bf,bf,bf,bf] rfl rfl (any_of HT_.out (by kernel_rfl)) (fun _ _ _ h => h) (Or.inl ⟨by rfl,?_⟩) ?_ ?_
         rotate_left
         ·intro w';go_simp;with_reducible rfl
         rotate_left
         ·simp only [Act.put,q_ia5,q_cz5,q_cs5,i64_w,i32_w];rfl
         refine pure_ (i:=14) (N:=some 29) (v:=undef) (a':=?_) #[bT,bT,bT,bT,bT,bT,bT,bT,bT,bT,bT,bT,bT,bT,bT,bf,bf,bf,bf,bf,bf,bf,bf,bf,bf,bf] rfl rfl (any_of HT_.out (by kernel_rfl)) (fun _ _ _ h => h) (Or.inr ⟨by rfl,rfl⟩) ?_ ?_
         rotate_left
         ·simp only [Act.put,q_ia5,q_cz5,q_cs5,i64_w,i32_w];rfl
         refine pure_ (i:=15) (N:=some 30) (v:=undef) (a':=?_) #[bT,bT,bT,bT,bT,bT,bT,bT,bT,bT,bT,bT,bT,bT,bT,bT,bf,bf,bf,bf,bf,bf,bf,bf,bf,bf] rfl rfl (any_of HT_.out (by kernel_rfl)) (fun _ _ _ h => h) (Or.inr ⟨by rfl,rfl⟩) ?_ ?_
         rotate_left
         ·simp only [Act.put,q_ia5,q_cz5,q_cs5,i64_w,i32_w];rfl
         refine pure_ (i:=16) (N:=some 31) (v:=undef) (a':=?_) #[bT,bT,bT,bT,bT,bT,bT,bT,bT,bT,bT,bT,bT,bT,bT,bT,bT,bf,bf,bf,bf,bf,bf,bf,bf,bf] rfl rfl (any_of HT_.out (by kernel_rfl)) (fun _ _ _ h => h) (Or.inr ⟨by rfl,rfl⟩) ?_ ?_
         rotate_left
         ·simp only [Act.put,q_ia5,q_cz5,q_cs5,i64_w,i32_w];rfl
         refine pure_ (i:=17) (N:=some 32) (v:=undef) (a':=?_) #[bT,bT,bT,bT,bT,bT,bT,bT,bT,bT,bT,bT,bT,bT,bT,bT,bT,bT,bf,bf,bf,bf,bf,bf,bf,bf] rfl rfl (any_of HT_.out (by kernel_rfl)) (fun _ _ _ h => h) (Or.inr ⟨by rfl,rfl⟩) ?_ ?_
         rotate_left
         ·simp only [Act.put,q_ia5,q_cz5,q_cs5,i64_w,i32_w];rfl
         refine pure_ (i:=18) (N:=some 33) (v:=undef) (a':=?_) #[bT,bT,bT,bT,bT,bT,bT,bT,bT,bT,bT,bT,bT,bT,bT,bT,bT,bT,bT,bf,bf,bf,bf,bf,bf,bf] rfl rfl (any_of HT_.out (by kernel_rfl)) (fun _ _ _ h => h) (Or.inr ⟨by rfl,rfl⟩) ?_ ?_
         rotate_left
         ·simp only [Act.put,q_ia5,q_cz5,q_cs5,i64_w,i32_w];rfl
         refine pure_ (i:=19) (N:=some 34) (v:=undef) (a':=?_) #[bT,bT,bT,bT,bT,bT,bT,bT,bT,bT,bT,bT,bT,bT,bT,bT,bT,bT,bT,bT,bf,bf,bf,bf,bf,bf] rfl rfl (any_of HT_.out (by kernel_rfl)) (fun _ _ _ h => h) (Or.inr ⟨by rfl,rfl⟩) ?_ ?_
         rotate_left
         ·simp only [Act.put,q_ia5,q_cz5,q_cs5,i64_w,i32_w];rfl
         refine pure_ (i:=20) (N:=some 35) (v:=undef) (a':=?_) #[bT,bT,bT,bT,bT,bT,bT,bT,bT,bT,bT,bT,bT,bT,bT,bT,bT,bT,bT,bT,bT,bf,bf,bf,bf,bf] rfl rfl (any_of HT_.out (by kernel_rfl)) (fun _ _ _ h => h) (Or.inr ⟨by rfl,rfl⟩) ?_ ?_
         rotate_left
         ·simp only [Act.put,q_ia5,q_cz5,q_cs5,i64_w,i32_w];rfl
         refine pure_ (i:=21) (N:=some 36) (v:=undef) (a':=?_) #[bT,bT,bT,bT,bT,bT,bT,bT,bT,bT,bT,bT,bT,bT,bT,bT,bT,bT,bT,bT,bT,bT,bf,bf,bf,bf] rfl rfl (any_of HT_.out (by kernel_rfl)) (fun _ _ _ h => h) (Or.inr ⟨by rfl,rfl⟩) ?_ ?_
         rotate_left
         ·simp only [Act.put,q_ia5,q_cz5,q_cs5,i64_w,i32_w];rfl
         refine pure_ (i:=22) (N:=some 37) (v:=undef) (a':=?_) #[bT,bT,bT,bT,bT,bT,bT,bT,bT,bT,bT,bT,bT,bT,bT,bT,bT,bT,bT,bT,bT,bT,bT,bf,bf,bf] rfl rfl (any_of HT_.out (by kernel_rfl)) (fun _ _ _ h => h) (Or.inr ⟨by rfl,rfl⟩) ?_ ?_
         rotate_left
         ·simp only [Act.put,q_ia5,q_cz5,q_cs5,i64_w,i32_w];rfl
         refine pure_ (i:=23) (N:=some 38) (v:=undef) (a':=?_) #[bT,bT,bT,bT,bT,bT,bT,bT,bT,bT,bT,bT,bT,bT,bT,bT,bT,bT,bT,bT,bT,bT,bT,bT,bf,bf] rfl rfl (any_of HT_.out (by kernel_rfl)) (fun _ _ _ h => h) (Or.inr ⟨by rfl,rfl⟩) ?_ ?_
         rotate_left
         ·simp only [Act.put,q_ia5,q_cz5,q_cs5,i64_w,i32_w];rfl
         refine pure_ (i:=24) (N:=some 39) (v:=?_) (a':=?_) #[bT,bT,bT,bT,bT,bT,bT,bT,bT,bT,bT,bT,bT,bT,bT,bT,bT,bT,bT,bT,bT,bT,bT,bT,bT,bf] rfl rfl (any_of HT_.out (by kernel_rfl)) (fun _ _ _ h => h) (Or.inl ⟨by rfl,?_⟩) ?_ ?_
         rotate_left
         ·intro w';go_simp;with_reducible rfl
         rotate_left
         ·simp only [Act.put,q_ia5,q_cz5,q_cs5,i64_w,i32_w];rfl
         refine pure_ (i:=25) (N:=some 40) (v:=?_) (a':=?_) #[bT,bT,bT,bT,bT,bT,bT,bT,bT,bT,bT,bT,bT,bT,bT,bT,bT,bT,bT,bT,bT,bT,bT,bT,bT,bT] rfl rfl (any_of HT_.out (by kernel_rfl)) (fun _ _ _ h => h) (Or.inl ⟨by rfl,?_⟩) ?_ ?_
         rotate_left
         ·intro w';go_simp;with_reducible rfl
         rotate_left
         ·simp only [Act.put,q_ia5,q_cz5,q_cs5,i64_w,i32_w];rfl
         refine done_ (done_of HT_.out (by kernel_rfl)) ?_
         try go_wp2
         go_roundg k1
         case measure => have:=HK1.out;omega
         case rel => exact ⟨(wrap64 (x10_1 + 1)),(by first|rfl|(simp;done)|(simp [*];done)),H',⟨by have:=HK1.out;omega⟩,⟨by (with_reducible repeat (first|refine bN ?_ _|refine bD ?_|refine bA ?_ _));exact BK176.out⟩,⟨by repeat (first|(with_reducible first|exact HB.out|apply lA|apply lN|apply lD|refine lS ?_ GE176.out|refine lS ?_ GE178.out)|exact HB.out)⟩⟩
      ·replace c8:=Bool.eq_false_iff.mpr c8
       subst c8
       have H1 : (some false) = some r:=by rw [if_neg (show ¬ (false = true) by decide)] at H;exact H
       clear H
       have H:=H1
       clear H1
       obtain rfl:=Option.some.inj H
       have p177 : 0 ≤ (x10_1 : Int):=of_decide_eq_true (by first|(with_reducible assumption)|assumption)
       have q177 : x10_1 < (l0_0.length : Int):=of_decide_eq_true (by first|(with_reducible assumption)|assumption)
       obtain ⟨ad177,e177,hx177_0,hx177_1⟩:=at_T105 HR0_0.out x10_1 p177 q177
       cases e177
       replace hx177_0:=(HB.out.cell (World.block_lt_of_cell? w _ hx177_0)).trans hx177_0
       replace hx177_1:=(HB.out.cell (World.block_lt_of_cell? w _ hx177_1)).trans hx177_1
       replace p177:=eq_true p177
       replace q177:=eq_true q177
       try go_wp2_with (first|((with_reducible refine gate_dst (N:=4) rfl ?_);(try (refine gate_guard (by rfl) ?_;dsimp only));refine box_event ?hg (N:=4) ?hd (cs:=#[.string (⟨#[]⟩ : ByteArray),.string (⟨#[]⟩ : ByteArray)]) (t:=105) ?hr ?_;(case hd => rfl);(case hg => rfl);(case hr => first|(go_simp;done)|(go_simp;rfl));intro gb178 hg w35 hbox hb;have n0_:=aM (bB (g:=gb176) (o:=.cells #[.slice (some ad177) l0_0.length c0_0,.slice A0_1 l0_1.length c0_1,.string a0_2] 54 (0,0)) (by (with_reducible repeat (first|refine bN ?_ _|refine bD ?_|refine bA ?_ _));exact BK176.out) hb);have n1_:=aM (lP (by repeat (first|(with_reducible first|exact HB.out|apply lA|apply lN|apply lD|refine lS ?_ GE176.out)|exact HB.out)) hb);have n2_:=aM (hbox);have n3_:=aM ((by rw [hg];exact (lZ (by repeat (first|(with_reducible first|exact HB.out|apply lA|apply lN|apply lD|refine lS ?_ GE176.out)|exact HB.out))) : w.heap.size ≤ gb178));have n4_:=aM ((by rw [hg];exact (lZ (by repeat (first|(with_reducible first|exact HB.out|apply lA|apply lN|apply lD|refine lS ?_ GE176.out)|exact HB.out))) : w.heap.size ≤ gb178));have n5_:=aM ((by rw [hg];exact Nat.ne_of_lt (bL (g:=gb176) (o:=.cells #[.slice (some ad177) l0_0.length c0_0,.slice A0_1 l0_1.length c0_1,.string a0_2] 54 (0,0)) (by (with_reducible repeat (first|refine bN ?_ _|refine bD ?_|refine bA ?_ _));exact BK176.out)) : gb176 ≠ gb178));have n6_:=aM ((by rw [hg];exact Nat.ne_of_gt (bL (g:=gb176) (o:=.cells #[.slice (some ad177) l0_0.length c0_0,.slice A0_1 l0_1.length c0_1,.string a0_2] 54 (0,0)) (by (with_reducible repeat (first|refine bN ?_ _|refine bD ?_|refine bA ?_ _));exact BK176.out)) : gb178 ≠ gb176));clear BK176 HB;have BK176:=n0_;have HB:=n1_;have BK178:=n2_;have GW178:=n3_;have GE178:=n4_;have NB176_178:=n5_;have NB178_176:=n6_;clear n0_ n1_ n2_ n3_ n4_ n5_ n6_ hb hbox hg;have hnb36:=NB178_176.out;have hnc36:=NB176_178.out;have hcz37_0 : w35.cell? ⟨gb178,0,none⟩ = some (.string (⟨#[]⟩ : ByteArray)):=(bC BK178.out 0).trans rfl;have hcz37_1 : w35.cell? ⟨gb178,1,none⟩ = some (.string (⟨#[]⟩ : ByteArray)):=(bC BK178.out 1).trans rfl;have hfz37_0:=bF BK178.out 0;have hfz37_1:=bF BK178.out 1))
       have n0_ : Aside0 (((w35.setCell ⟨gb178,0,none⟩ (.string ((rd_T105 l0_0 x10_1).f0))).setCell ⟨gb178,1,none⟩ (.string ((rd_T105 l0_0 x10_1).f1))).heap[gb176]? = some (.cells #[.slice (some ad177) l0_0.length c0_0,.slice A0_1 l0_1.length c0_1,.string a0_2] 54 (0,0))):=⟨by (with_reducible repeat (first|refine bN ?_ _|refine bD ?_|refine bA ?_ _));refine blk_far ?_ NB176_178.out _;(with_reducible repeat (first|refine bN ?_ _|refine bD ?_|refine bA ?_ _));refine blk_far ?_ NB176_178.out _;(with_reducible repeat (first|refine bN ?_ _|refine bD ?_|refine bA ?_ _));exact BK176.out⟩
       have n1_ : Aside0 (((w35.setCell ⟨gb178,0,none⟩ (.string ((rd_T105 l0_0 x10_1).f0))).setCell ⟨gb178,1,none⟩ (.string ((rd_T105 l0_0 x10_1).f1))).heap[gb178]? = some (.cells #[.string ((rd_T105 l0_0 x10_1).f0),.string ((rd_T105 l0_0 x10_1).f1)] 105 (0,0))):=⟨by (with_reducible repeat (first|refine bN ?_ _|refine bD ?_|refine bA ?_ _));refine blk_put (cs:=#[.string ((rd_T105 l0_0 x10_1).f0),.string (⟨#[]⟩ : ByteArray)]) ?_ 1 _ rfl;(with_reducible repeat (first|refine bN ?_ _|refine bD ?_|refine bA ?_ _));refine blk_put (cs:=#[.string (⟨#[]⟩ : ByteArray),.string (⟨#[]⟩ : ByteArray)]) ?_ 0 _ rfl;(with_reducible repeat (first|refine bN ?_ _|refine bD ?_|refine bA ?_ _));exact BK178.out⟩
       have n2_ : Aside0 (Below w.heap.size w ((w35.setCell ⟨gb178,0,none⟩ (.string ((rd_T105 l0_0 x10_1).f0))).setCell ⟨gb178,1,none⟩ (.string ((rd_T105 l0_0 x10_1).f1)))):=⟨by repeat (first|(with_reducible first|exact HB.out|apply lA|apply lN|apply lD|refine lS ?_ GE176.out|refine lS ?_ GE178.out)|exact HB.out)⟩
       (try clear BK176)
       (try clear BK178)
       (try clear HB)
       generalize ((w35.setCell ⟨gb178,0,none⟩ (.string ((rd_T105 l0_0 x10_1).f0))).setCell ⟨gb178,1,none⟩ (.string ((rd_T105 l0_0 x10_1).f1))) = w38 at n0_ n1_ n2_ ⊢
       have BK176:=n0_
       have BK178:=n1_
       have HB:=n2_
       clear n0_ n1_ n2_
       have n0_:=aM (bD BK176.out)
       have n1_:=aM (bD BK178.out)
       have n2_:=aM (lD HB.out)
       clear BK176
       clear BK178
       clear HB
       have BK176:=n0_
       have BK178:=n1_
       have HB:=n2_
       clear n0_ n1_ n2_
       refine start_ (n:=26) (S:=fun w' => w'.cell? ⟨gb178,0,none⟩ = some (.string ((rd_T105 l0_0 x10_1).f0)) ∧ w'.cell? ⟨gb178,1,none⟩ = some (.string ((rd_T105 l0_0 x10_1).f1))) (ds:=[]) #[bf,bf,bf,bf,bf,bf,bf,bf,bf,bf,bf,bf,bf,bf,bf,bf,bf,bf,bf,bf,bf,bf,bf,bf,bf,bf] (by kernel_rfl) rfl rfl ⟨(bC BK178.out 0).trans rfl,(bC BK178.out 1).trans rfl⟩ (fun hHeld => ?_);refine with_tabW impl_StoreOk.tab4 impl_StoreOk.bits4 (fun HT_ HW_ => ?_)
       generalize w38.drew = w39 at BK176 BK178 HB hHeld ⊢
       refine pure_ (i:=0) (N:=some 15) (v:=?_) (a':=?_) #[bT,bf,bf,bf,bf,bf,bf,bf,bf,bf,bf,bf,bf,bf,bf,bf,bf,bf,bf,bf,bf,bf,bf,bf,bf,bf] rfl rfl (any_of HT_.out (by kernel_rfl)) (fun _ _ _ h => h) (Or.inl ⟨by rfl,?_⟩) ?_ ?_
       rotate_left
       ·intro w';go_simp;with_reducible rfl
       rotate_left
       ·simp only [Act.put,q_ia5,q_cz5,q_cs5,i64_w,i32_w];rfl
       refine take_ (i:=1) (N:=some 16) (v:=?_) (a':=?_) #[bT,bT,bf,bf,bf,bf,bf,bf,bf,bf,bf,bf,bf,bf,bf,bf,bf,bf,bf,bf,bf,bf,bf,bf,bf,bf] rfl rfl (take_ofW HT_.out HW_.out (by kernel_rfl)) (fun _ _ _ h => h) (Or.inl ⟨by rfl,?_⟩) hHeld ?_ ?_
       rotate_left
       ·rintro w' ⟨s0,s1⟩
        go_simp
        with_reducible rfl
       rotate_left
       ·simp only [Act.put,q_ia5,q_cz5,q_cs5,i64_w,i32_w];rfl
       refine one_ (i:=2) (N:=some 17) #[bT,bT,bT,bf,bf,bf,bf,bf,bf,bf,bf,bf,bf,bf,bf,bf,bf,bf,bf,bf,bf,bf,bf,bf,bf,bf] rfl rfl (one_of HT_.out (by kernel_rfl)) (by decide) (fun K hK => ?_)
       refine goes_ Try.func107 (by kernel_rfl) rfl #[.string ((rd_T105 l0_0 x10_1).f0)] (by rfl) rfl rfl (by (try simp only [List.map_toArray,List.map_cons,List.map_nil]);first|done|rfl|(simp only [List.length_drop,List.length_take];rfl)) ?_
       with_reducible refine (impl_isLetters.calls k1 ((rd_T105 l0_0 x10_1).f0) false _ A7.out).mono ?_
       rintro e w' ⟨rfl,⟨nd,rfl⟩⟩
       refine ⟨_,rfl,?_⟩
       refine hK.out _ _ ⟨(bC BK178.out 0).trans rfl,(bC BK178.out 1).trans rfl⟩ (fun hHeld => ?_)
       clear hK K
       refine norm_ (a':=?_) ?_ ?_
       rotate_left
       ·show Act.put _ (some 17) _ = _
        simp only [Act.put,q_ia5,q_cz5,q_cs5,i64_w,i32_w]
        rfl
       refine pure_ (i:=3) (N:=some 18) (v:=?_) (a':=?_) #[bT,bT,bT,bT,bf,bf,bf,bf,bf,bf,bf,bf,bf,bf,bf,bf,bf,bf,bf,bf,bf,bf,bf,bf,bf,bf] rfl rfl (any_of HT_.out (by kernel_rfl)) (fun _ _ _ h => h) (Or.inl ⟨by rfl,?_⟩) ?_ ?_
       rotate_left
       ·intro w';go_simp;with_reducible rfl
       rotate_left
       ·simp only [Act.put,q_ia5,q_cz5,q_cs5,i64_w,i32_w];rfl
       refine pure_ (i:=4) (N:=some 19) (v:=?_) (a':=?_) #[bT,bT,bT,bT,bT,bf,bf,bf,bf,bf,bf,bf,bf,bf,bf,bf,bf,bf,bf,bf,bf,bf,bf,bf,bf,bf] rfl rfl (any_of HT_.out (by kernel_rfl)) (fun _ _ _ h => h) (Or.inl ⟨by rfl,?_⟩) ?_ ?_
       rotate_left
       ·intro w';go_simp;with_reducible rfl
       rotate_left
       ·simp only [Act.put,q_ia5,q_cz5,q_cs5,i64_w,i32_w];rfl
       refine pure_ (i:=5) (N:=some 20) (v:=undef) (a':=?_) #[bT,bT,bT,bT,bT,bT,bf,bf,bf,bf,bf,bf,bf,bf,bf,bf,bf,bf,bf,bf,bf,bf,bf,bf,bf,bf] rfl rfl (any_of HT_.out (by kernel_rfl)) (fun _ _ _ h => h) (Or.inr ⟨by rfl,rfl⟩) ?_ ?_
       rotate_left
       ·simp only [Act.put,q_ia5,q_cz5,q_cs5,i64_w,i32_w];rfl
       refine pure_ (i:=6) (N:=some 21) (v:=undef) (a':=?_) #[bT,bT,bT,bT,bT,bT,bT,bf,bf,bf,bf,bf,bf,bf,bf,bf,bf,bf,bf,bf,bf,bf,bf,bf,bf,bf] rfl rfl (any_of HT_.out (by kernel_rfl)) (fun _ _ _ h => h) (Or.inr ⟨by rfl,rfl⟩) ?_ ?_
       rotate_left
       ·simp only [Act.put,q_ia5,q_cz5,q_cs5,i64_w,i32_w];rfl
       refine pure_ (i:=7) (N:=some 22) (v:=undef) (a':=?_) #[bT,bT,bT,bT,bT,bT,bT,bT,bf,bf,bf,bf,bf,bf,bf,bf,bf,bf,bf,bf,bf,bf,bf,bf,bf,bf] rfl rfl (any_of HT_.out (by kernel_rfl)) (fun _ _ _ h => h) (Or.inr ⟨by rfl,rfl⟩) ?_ ?_
       rotate_left
       ·simp only [Act.put,q_ia5,q_cz5,q_cs5,i64_w,i32_w];rfl
       refine pure_ (i:=8) (N:=some 23) (v:=undef) (a':=?_) #[bT,bT,bT,bT,bT,bT,bT,bT,bT,bf,bf,bf,bf,bf,bf,bf,bf,bf,bf,bf,bf,bf,bf,bf,bf,bf] rfl rfl (any_of HT_.out (by kernel_rfl)) (fun _ _ _ h => h) (Or.inr ⟨by rfl,rfl⟩) ?_ ?_
       rotate_left
       ·simp only [Act.put,q_ia5,q_cz5,q_cs5,i64_w,i32_w];rfl
       refine pure_ (i:=9) (N:=some 24) (v:=?_) (a':=?_) #[bT,bT,bT,bT,bT,bT,bT,bT,bT,bT,bf,bf,bf,bf,bf,bf,bf,bf,bf,bf,bf,bf,bf,bf,bf,bf] rfl rfl (any_of HT_.out (by kernel_rfl)) (fun _ _ _ h => h) (Or.inl ⟨by rfl,?_⟩) ?_ ?_
       rotate_left
       ·intro w';go_simp;with_reducible rfl
       rotate_left
       ·simp only [Act.put,q_ia5,q_cz5,q_cs5,i64_w,i32_w];rfl
       refine pure_ (i:=10) (N:=some 25) (v:=?_) (a':=?_) #[bT,bT,bT,bT,bT,bT,bT,bT,bT,bT,bT,bf,bf,bf,bf,bf,bf,bf,bf,bf,bf,bf,bf,bf,bf,bf] rfl rfl (any_of HT_.out (by kernel_rfl)) (fun _ _ _ h => h) (Or.inl ⟨by rfl,?_⟩) ?_ ?_
       rotate_left
       ·intro w';go_simp;with_reducible rfl
       rotate_left
       ·simp only [Act.put,q_ia5,q_cz5,q_cs5,i64_w,i32_w];rfl
       refine pure_ (i:=11) (N:=some 26) (v:=undef) (a':=?_) #[bT,bT,bT,bT,bT,bT,bT,bT,bT,bT,bT,bT,bf,bf,bf,bf,bf,bf,bf,bf,bf,bf,bf,bf,bf,bf] rfl rfl (any_of HT_.out (by kernel_rfl)) (fun _ _ _ h => h) (Or.inr ⟨by rfl,rfl⟩) ?_ ?_
       rotate_left
       ·simp only [Act.put,q_ia5,q_cz5,q_cs5,i64_w,i32_w];rfl
       refine pure_ (i:=12) (N:=some 27) (v:=undef) (a':=?_) #[bT,bT,bT,bT,bT,bT,bT,bT,bT,bT,bT,bT,bT,bf,bf,bf,bf,bf,bf,bf,bf,bf,bf,bf,bf,bf] rfl rfl (any_of HT_.out (by kernel_rfl)) (fun _ _ _ h => h) (Or.inr ⟨by rfl,rfl⟩) ?_ ?_
       rotate_left
       ·simp only [Act.put,q_ia5,q_cz5,q_cs5,i64_w,i32_w];rfl
       refine pure_ (i:=13) (N:=some 28) (v:=undef) (a':=?_) #[bT,bT,bT,bT,bT,bT,bT,bT,bT,bT,bT,bT,bT,bT,bf,bf,bf,bf,bf,bf,bf,bf,bf,bf,bf,bf] rfl rfl (any_of HT_.out (by kernel_rfl)) (fun _ _ _ h => h) (Or.inr ⟨by rfl,rfl⟩) ?_ ?_
       rotate_left
       ·simp only [Act.put,q_ia5,q_cz5,q_cs5,i64_w,i32_w];rfl
       refine pure_ (i:=14) (N:=some 29) (v:=undef) (a':=?_) #[bT,bT,bT,bT,bT,bT,bT,bT,bT,bT,bT,bT,bT,bT,bT,bf,bf,bf,bf,bf,bf,bf,bf,bf,bf,bf] rfl rfl (any_of HT_.out (by kernel_rfl)) (fun _ _ _ h => h) (Or.inr ⟨by rfl,rfl⟩) ?_ ?_
       rotate_left
       ·simp only [Act.put,q_ia5,q_cz5,q_cs5,i64_w,i32_w];rfl
       refine pure_ (i:=15) (N:=some 30) (v:=undef) (a':=?_) #[bT,bT,bT,bT,bT,bT,bT,bT,bT,bT,bT,bT,bT,bT,bT,bT,bf,bf,bf,bf,bf,bf,bf,bf,bf,bf] rfl rfl (any_of HT_.out (by kernel_rfl)) (fun _ _ _ h => h) (Or.inr ⟨by rfl,rfl⟩) ?_ ?_
       rotate_left
       ·simp only [Act.put,q_ia5,q_cz5,q_cs5,i64_w,i32_w];rfl
       refine pure_ (i:=16) (N:=some 31) (v:=undef) (a':=?_) #[bT,bT,bT,bT,bT,bT,bT,bT,bT,bT,bT,bT,bT,bT,bT,bT,bT,bf,bf,bf,bf,bf,bf,bf,bf,bf] rfl rfl (any_of HT_.out (by kernel_rfl)) (fun _ _ _ h => h) (Or.inr ⟨by rfl,rfl⟩) ?_ ?_
       rotate_left
       ·simp only [Act.put,q_ia5,q_cz5,q_cs5,i64_w,i32_w];rfl
       refine pure_ (i:=17) (N:=some 32) (v:=undef) (a':=?_) #[bT,bT,bT,bT,bT,bT,bT,bT,bT,bT,bT,bT,bT,bT,bT,bT,bT,bT,bf,bf,bf,bf,bf,bf,bf,bf] rfl rfl (any_of HT_.out (by kernel_rfl)) (fun _ _ _ h => h) (Or.inr ⟨by rfl,rfl⟩) ?_ ?_
       rotate_left
       ·simp only [Act.put,q_ia5,q_cz5,q_cs5,i64_w,i32_w];rfl
       refine pure_ (i:=18) (N:=some 33) (v:=undef) (a':=?_) #[bT,bT,bT,bT,bT,bT,bT,bT,bT,bT,bT,bT,bT,bT,bT,bT,bT,bT,bT,bf,bf,bf,bf,bf,bf,bf] rfl rfl (any_of HT_.out (by kernel_rfl)) (fun _ _ _ h => h) (Or.inr ⟨by rfl,rfl⟩) ?_ ?_
       rotate_left
       ·simp only [Act.put,q_ia5,q_cz5,q_cs5,i64_w,i32_w];rfl
       refine pure_ (i:=19) (N:=some 34) (v:=undef) (a':=?_) #[bT,bT,bT,bT,bT,bT,bT,bT,bT,bT,bT,bT,bT,bT,bT,bT,bT,bT,bT,bT,bf,bf,bf,bf,bf,bf] rfl rfl (any_of HT_.out (by kernel_rfl)) (fun _ _ _ h => h) (Or.inr ⟨by rfl,rfl⟩) ?_ ?_
       rotate_left
       ·simp only [Act.put,q_ia5,q_cz5,q_cs5,i64_w,i32_w];rfl
       refine pure_ (i:=20) (N:=some 35) (v:=undef) (a':=?_) #[bT,bT,bT,bT,bT,bT,bT,bT,bT,bT,bT,bT,bT,bT,bT,bT,bT,bT,bT,bT,bT,bf,bf,bf,bf,bf] rfl rfl (any_of HT_.out (by kernel_rfl)) (fun _ _ _ h => h) (Or.inr ⟨by rfl,rfl⟩) ?_ ?_
       rotate_left
       ·simp only [Act.put,q_ia5,q_cz5,q_cs5,i64_w,i32_w];rfl
       refine pure_ (i:=21) (N:=some 36) (v:=undef) (a':=?_) #[bT,bT,bT,bT,bT,bT,bT,bT,bT,bT,bT,bT,bT,bT,bT,bT,bT,bT,bT,bT,bT,bT,bf,bf,bf,bf] rfl rfl (any_of HT_.out (by kernel_rfl)) (fun _ _ _ h => h) (Or.inr ⟨by rfl,rfl⟩) ?_ ?_
       rotate_left
       ·simp only [Act.put,q_ia5,q_cz5,q_cs5,i64_w,i32_w];rfl
       refine pure_ (i:=22) (N:=some 37) (v:=undef) (a':=?_) #[bT,bT,bT,bT,bT,bT,bT,bT,bT,bT,bT,bT,bT,bT,bT,bT,bT,bT,bT,bT,bT,bT,bT,bf,bf,bf] rfl rfl (any_of HT_.out (by kernel_rfl)) (fun _ _ _ h => h) (Or.inr ⟨by rfl,rfl⟩) ?_ ?_
       rotate_left
       ·simp only [Act.put,q_ia5,q_cz5,q_cs5,i64_w,i32_w];rfl
       refine pure_ (i:=23) (N:=some 38) (v:=undef) (a':=?_) #[bT,bT,bT,bT,bT,bT,bT,bT,bT,bT,bT,bT,bT,bT,bT,bT,bT,bT,bT,bT,bT,bT,bT,bT,bf,bf] rfl rfl (any_of HT_.out (by kernel_rfl)) (fun _ _ _ h => h) (Or.inr ⟨by rfl,rfl⟩) ?_ ?_
       rotate_left
       ·simp only [Act.put,q_ia5,q_cz5,q_cs5,i64_w,i32_w];rfl
       refine pure_ (i:=24) (N:=some 39) (v:=undef) (a':=?_) #[bT,bT,bT,bT,bT,bT,bT,bT,bT,bT,bT,bT,bT,bT,bT,bT,bT,bT,bT,bT,bT,bT,bT,bT,bT,bf] rfl rfl (any_of HT_.out (by kernel_rfl)) (fun _ _ _ h => h) (Or.inr ⟨by rfl,rfl⟩) ?_ ?_
       rotate_left
       ·simp only [Act.put,q_ia5,q_cz5,q_cs5,i64_w,i32_w];rfl
       refine pure_ (i:=25) (N:=some 40) (v:=?_) (a':=?_) #[bT,bT,bT,bT,bT,bT,bT,bT,bT,bT,bT,bT,bT,bT,bT,bT,bT,bT,bT,bT,bT,bT,bT,bT,bT,bT] rfl rfl (any_of HT_.out (by kernel_rfl)) (fun _ _ _ h => h) (Or.inl ⟨by rfl,?_⟩) ?_ ?_
       rotate_left
       ·intro w';go_simp;with_reducible rfl
       rotate_left
       ·simp only [Act.put,q_ia5,q_cz5,q_cs5,i64_w,i32_w];rfl
       refine done_ (done_of HT_.out (by kernel_rfl)) ?_
       try go_wp2
       go_ret
       exact ⟨by first|rfl|(simp [errW_none,errW_some] <;> rfl)|(simp [*,errW_none,errW_some] <;> rfl),by repeat (first|(with_reducible first|exact HB.out|apply lA|apply lN|apply lD|refine lS ?_ GE176.out|refine lS ?_ GE178.out)|exact HB.out)⟩
     ·rw [if_neg c6] at H
      exact absurd H (by simp)
    ·rw [if_neg c5] at H
     exact absurd H (by simp)
   ·rw [if_neg c4] at H
    have c4b0 : decide (x10_1 < (l0_0.length : Int)) = false:=decide_eq_false c4
    clear c4
    have H':=aM H
    clear H
    have hcz40_0 : wr.cell? ⟨gb176,0,none⟩ = some (.slice A0_0 l0_0.length c0_0):=(bC BK176.out 0).trans rfl
    have hcz40_1 : wr.cell? ⟨gb176,1,none⟩ = some (.slice A0_1 l0_1.length c0_1):=(bC BK176.out 1).trans rfl
    have hcz40_2 : wr.cell? ⟨gb176,2,none⟩ = some (.string a0_2):=(bC BK176.out 2).trans rfl
    have hfz40_0:=bF BK176.out 0
    have hfz40_1:=bF BK176.out 1
    have hfz40_2:=bF BK176.out 2
    go_wp2
    go_loopg [45] k1 (fun kq v45 w' => ∃ (x45_2 : Int),v45 = .int .i64 x45_2 ∧ Aside0 (impl_StoreOk.l1 kq l0_1 (l0_1.length : Int) x45_2 l0_0 l0_1 a0_2 = some r) ∧ Aside0 (kq ≤ k1) ∧ Aside0 (w'.heap[gb176]? = some (.cells #[(.slice A0_0 l0_0.length c0_0),(.slice A0_1 l0_1.length c0_1),.string a0_2] 54 (0,0))) ∧ Aside0 (Below w.heap.size w w'))
    case atStart => exact ⟨(0),(by first|rfl|(simp;done)|(simp [*];done)),H',⟨Nat.le_refl _⟩,⟨by (with_reducible repeat (first|refine bN ?_ _|refine bD ?_|refine bA ?_ _));exact BK176.out⟩,⟨by repeat (first|(with_reducible first|exact HB.out|apply lA|apply lN|apply lD|refine lS ?_ GE176.out)|exact HB.out)⟩⟩
    case round =>
     clear H'
     try clear c1
     try clear p1
     try clear q1
     try clear hx1
     try clear p2
     try clear c3
     try clear c4
     try clear c4b0
     try clear c5
     try clear c6
     try clear p6
     try clear c8
     try clear c10
     try clear c15
     try clear c15b0
     try clear c17
     try clear p17
     try clear q17
     try clear hx17
     try clear c18
     try clear c31
     try clear c36
     try clear hcz32_0
     try clear hcz32_1
     try clear hcz37_0
     try clear hcz37_1
     try clear hcz40_0
     try clear hcz40_1
     try clear hcz40_2
     try clear hfz32_0
     try clear hfz32_1
     try clear hfz37_0
     try clear hfz37_1
     try clear hfz40_0
     try clear hfz40_1
     try clear hfz40_2
     try clear hx177_0
     try clear hx177_1
     try clear p177
     try clear q177
     obtain ⟨x45_2,rfl,HA,HK2,BK176,HB⟩:=hrel
     cases gk with
     |zero => exact absurd HA.out (by simp [impl_StoreOk.l1])
     |succ k2 =>
      have H:=HA.out
      clear HA
      simp only [impl_StoreOk.l1] at H
      by_cases c41 : x45_2 < (l0_1.length : Int)
      ·rw [if_pos c41] at H
       have c41b0 : decide (x45_2 < (l0_1.length : Int)) = true:=decide_eq_true c41
       clear c41
       by_cases c42 : 0 ≤ x45_2
       ·rw [if_pos c42] at H
        have c42b0 : decide (0 ≤ x45_2) = true:=decide_eq_true c42
        clear c42
        by_cases c43 : x45_2 < (l0_1.length : Int)
        ·rw [if_pos c43] at H
         have c43b0 : decide (x45_2 < (l0_1.length : Int)) = true:=decide_eq_true c43
         clear c43
         replace H:=Option.bind_eq_some_iff.mp H
         obtain ⟨t183,A440,H⟩:=H
         replace H : (if t183 = true then (if (((rd_T61 l0_1 x45_2).f1).size : Int) > 40 then (some false) else (if (((rd_T61 l0_1 x45_2).f2).size : Int) > 40 then (some false) else (if x45_2 > 0 then (if 0 ≤ (wrap64 (x45_2 - 1)) then (if (wrap64 (x45_2 - 1)) < (l0_1.length : Int) then ((impl_byKey.f ((rd_T61 l0_1 (wrap64 (x45_2 - 1))).f0) ((rd_T61 l0_1 (wrap64 (x45_2 - 1))).f1) ((rd_T61 l0_1 (wrap64 (x45_2 - 1))).f2) ((rd_T61 l0_1 x45_2).f0) ((rd_T61 l0_1 x45_2).f1) ((rd_T61 l0_1 x45_2).f2)).bind fun t185 => (if t185 ≥ 0 then (some false) else (impl_StoreOk.l1 k2 l0_1 (l0_1.length : Int) (wrap64 (x45_2 + 1)) l0_0 l0_1 a0_2))) else (none)) else (none)) else (impl_StoreOk.l1 k2 l0_1 (l0_1.length : Int) (wrap64 (x45_2 + 1)) l0_0 l0_1 a0_2)))) else (some false)) = some r:=H
         have A44:=aM A440
         clear A440
         by_cases c45 : t183 = true
         ·subst c45
          have H1 : (if (((rd_T61 l0_1 x45_2).f1).size : Int) > 40 then (some false) else (if (((rd_T61 l0_1 x45_2).f2).size : Int) > 40 then (some false) else (if x45_2 > 0 then (if 0 ≤ (wrap64 (x45_2 - 1)) then (if (wrap64 (x45_2 - 1)) < (l0_1.length : Int) then ((impl_byKey.f ((rd_T61 l0_1 (wrap64 (x45_2 - 1))).f0) ((rd_T61 l0_1 (wrap64 (x45_2 - 1))).f1) ((rd_T61 l0_1 (wrap64 (x45_2 - 1))).f2) ((rd_T61 l0_1 x45_2).f0) ((rd_T61 l0_1 x45_2).f1) ((rd_T61 l0_1 x45_2).f2)).bind fun t185 => (if t185 ≥ 0 then (some false) else (impl_StoreOk.l1 k2 l0_1 (l0_1.length : Int) (wrap64 (x45_2 + 1)) l0_0 l0_1 a0_2))) else (none)) else (none)) else (impl_StoreOk.l1 k2 l0_1 (l0_1.length : Int) (wrap64 (x45_2 + 1)) l0_0 l0_1 a0_2)))) = some r:=by rw [if_pos rfl] at H;exact H
          clear H
          have H:=H1
          clear H1
          by_cases c46 : (((rd_T61 l0_1 x45_2).f1).size : Int) > 40
          ·rw [if_pos c46] at H
           have c46b0 : decide (40 < (((rd_T61 l0_1 x45_2).f1).size : Int)) = true:=decide_eq_true c46
           have c46b1 : decide (40 < ((rd_T61 l0_1 x45_2).f1).size) = true:=decide_eq_true (by omega)
           clear c46
           obtain rfl:=Option.some.inj H
           have p181 : 0 ≤ (x45_2 : Int):=of_decide_eq_true (by first|(with_reducible assumption)|assumption)
           have q181 : x45_2 < (l0_1.length : Int):=of_decide_eq_true (by first|(with_reducible assumption)|assumption)
           obtain ⟨ad181,e181,hx181_0,hx181_1,hx181_2⟩:=at_T61 HR0_1.out x45_2 p181 q181
           cases e181
           replace hx181_0:=(HB.out.cell (World.block_lt_of_cell? w _ hx181_0)).trans hx181_0
           replace hx181_1:=(HB.out.cell (World.block_lt_of_cell? w _ hx181_1)).trans hx181_1
           replace hx181_2:=(HB.out.cell (World.block_lt_of_cell? w _ hx181_2)).trans hx181_2
           replace p181:=eq_true p181
           replace q181:=eq_true q181
           try go_wp2_with (first|((with_reducible refine gate_dst (N:=6) rfl ?_);(try (refine gate_guard (by rfl) ?_;dsimp only));refine box_event ?hg (N:=6) ?hd (cs:=#[.string (⟨#[]⟩ : ByteArray),.string (⟨#[]⟩ : ByteArray),.string (⟨#[]⟩ : ByteArray)]) (t:=61) ?hr ?_;(case hd => rfl);(case hg => rfl);(case hr => first|(go_simp;done)|(go_simp;rfl));intro gb182 hg w47 hbox hb;have n0_:=aM (bB (g:=gb176) (o:=.cells #[.slice A0_0 l0_0.length c0_0,.slice (some ad181) l0_1.length c0_1,.string a0_2] 54 (0,0)) (by (with_reducible repeat (first|refine bN ?_ _|refine bD ?_|refine bA ?_ _));exact BK176.out) hb);have n1_:=aM (lP (by repeat (first|(with_reducible first|exact HB.out|apply lA|apply lN|apply lD|refine lS ?_ GE176.out)|exact HB.out)) hb);have n2_:=aM (hbox);have n3_:=aM ((by rw [hg];exact (lZ (by repeat (first|(with_reducible first|exact HB.out|apply lA|apply lN|apply lD|refine lS ?_ GE176.out)|exact HB.out))) : w.heap.size ≤ gb182));have n4_:=aM ((by rw [hg];exact (lZ (by repeat (first|(with_reducible first|exact HB.out|apply lA|apply lN|apply lD|refine lS ?_ GE176.out)|exact HB.out))) : w.heap.size ≤ gb182));have n5_:=aM ((by rw [hg];exact Nat.ne_of_lt (bL (g:=gb176) (o:=.cells #[.slice A0_0 l0_0.length c0_0,.slice (some ad181) l0_1.length c0_1,.string a0_2] 54 (0,0)) (by (with_reducible repeat (first|refine bN ?_ _|refine bD ?_|refine bA ?_ _));exact BK176.out)) : gb176 ≠ gb182));have n6_:=aM ((by rw [hg];exact Nat.ne_of_gt (bL (g:=gb176) (o:=.cells #[.slice A0_0 l0_0.length c0_0,.slice (some ad181) l0_1.length c0_1,.string a0_2] 54 (0,0)) (by (with_reducible repeat (first|refine bN ?_ _|refine bD ?_|refine bA ?_ _));exact BK176.out)) : gb182 ≠ gb176));clear BK176 HB;have BK176:=n0_;have HB:=n1_;have BK182:=n2_;have GW182:=n3_;have GE182:=n4_;have NB176_182:=n5_;have NB182_176:=n6_;clear n0_ n1_ n2_ n3_ n4_ n5_ n6_ hb hbox hg;have hnb48:=NB182_176.out;have hnc48:=NB176_182.out;have hcz49_0 : w47.cell? ⟨gb182,0,none⟩ = some (.string (⟨#[]⟩ : ByteArray)):=(bC BK182.out 0).trans rfl;have hcz49_1 : w47.cell? ⟨gb182,1,none⟩ = some (.string (⟨#[]⟩ : ByteArray)):=(bC BK182.out 1).trans rfl;have hcz49_2 : w47.cell? ⟨gb182,2,none⟩ = some (.string (⟨#[]⟩ : ByteArray)):=(bC BK182.out 2).trans rfl;have hfz49_0:=bF BK182.out 0;have hfz49_1:=bF BK182.out 1;have hfz49_2:=bF BK182.out 2))
           have n0_ : Aside0 ((((w47.setCell ⟨gb182,0,none⟩ (.string ((rd_T61 l0_1 x45_2).f0))).setCell ⟨gb182,1,none⟩ (.string ((rd_T61 l0_1 x45_2).f1))).setCell ⟨gb182,2,none⟩ (.string ((rd_T61 l0_1 x45_2).f2))).heap[gb176]? = some (.cells #[.slice A0_0 l0_0.length c0_0,.slice (some ad181) l0_1.length c0_1,.string a0_2] 54 (0,0))):=⟨by (with_reducible repeat (first|refine bN ?_ _|refine bD ?_|refine bA ?_ _));refine blk_far ?_ NB176_182.out _;(with_reducible repeat (first|refine bN ?_ _|refine bD ?_|refine bA ?_ _));refine blk_far ?_ NB176_182.out _;(with_reducible repeat (first|refine bN ?_ _|refine bD ?_|refine bA ?_ _));refine blk_far ?_ NB176_182.out _;(with_reducible repeat (first|refine bN ?_ _|refine bD ?_|refine bA ?_ _));exact BK176.out⟩
           have n1_ : Aside0 ((((w47.setCell ⟨gb182,0,none⟩ (.string ((rd_T61 l0_1 x45_2).f0))).setCell ⟨gb182,1,none⟩ (.string ((rd_T61 l0_1 x45_2).f1))).setCell ⟨gb182,2,none⟩ (.string ((rd_T61 l0_1 x45_2).f2))).heap[gb182]? = some (.cells #[.string ((rd_T61 l0_1 x45_2).f0),.string ((rd_T61 l0_1 x45_2).f1),.string ((rd_T61 l0_1 x45_2).f2)] 61 (0,0))):=⟨by (with_reducible repeat (first|refine bN ?_ _|refine bD ?_|refine bA ?_ _));refine blk_put (cs:=#[.string ((rd_T61 l0_1 x45_2).f0),.string ((rd_T61 l0_1 x45_2).f1),.string (⟨#[]⟩ : ByteArray)]) ?_ 2 _ rfl;(with_reducible repeat (first|refine bN ?_ _|refine bD ?_|refine bA ?_ _));refine blk_put (cs:=#[.string ((rd_T61 l0_1 x45_2).f0),.string (⟨#[]⟩ : ByteArray),.string (⟨#[]⟩ : ByteArray)]) ?_ 1 _ rfl;(with_reducible repeat (first|refine bN ?_ _|refine bD ?_|refine bA ?_ _));refine blk_put (cs:=#[.string (⟨#[]⟩ : ByteArray),.string (⟨#[]⟩ : ByteArray),.string (⟨#[]⟩ : ByteArray)]) ?_ 0 _ rfl;(with_reducible repeat (first|refine bN ?_ _|refine bD ?_|refine bA ?_ _));exact BK182.out⟩
           have n2_ : Aside0 (Below w.heap.size w (((w47.setCell ⟨gb182,0,none⟩ (.string ((rd_T61 l0_1 x45_2).f0))).setCell ⟨gb182,1,none⟩ (.string ((rd_T61 l0_1 x45_2).f1))).setCell ⟨gb182,2,none⟩ (.string ((rd_T61 l0_1 x45_2).f2)))):=⟨by repeat (first|(with_reducible first|exact HB.out|apply lA|apply lN|apply lD|refine lS ?_ GE176.out|refine lS ?_ GE182.out)|exact HB.out)⟩
           (try clear BK176)
           (try clear BK182)
           (try clear HB)
           generalize (((w47.setCell ⟨gb182,0,none⟩ (.string ((rd_T61 l0_1 x45_2).f0))).setCell ⟨gb182,1,none⟩ (.string ((rd_T61 l0_1 x45_2).f1))).setCell ⟨gb182,2,none⟩ (.string ((rd_T61 l0_1 x45_2).f2))) = w50 at n0_ n1_ n2_ ⊢
           have BK176:=n0_
           have BK182:=n1_
           have HB:=n2_
           clear n0_ n1_ n2_
           have n0_:=aM (bD BK176.out)
           have n1_:=aM (bD BK182.out)
           have n2_:=aM (lD HB.out)
           clear BK176
           clear BK182
           clear HB
           have BK176:=n0_
           have BK182:=n1_
           have HB:=n2_
           clear n0_ n1_ n2_
           refine start_ (n:=31) (S:=fun w' => w'.cell? ⟨gb182,0,none⟩ = some (.string ((rd_T61 l0_1 x45_2).f0)) ∧ w'.cell? ⟨gb182,1,none⟩ = some (.string ((rd_T61 l0_1 x45_2).f1)) ∧ w'.cell? ⟨gb182,2,none⟩ = some (.string ((rd_T61 l0_1 x45_2).f2))) (ds:=[]) #[bf,bf,bf,bf,bf,bf,bf,bf,bf,bf,bf,bf,bf,bf,bf,bf,bf,bf,bf,bf,bf,bf,bf,bf,bf,bf,bf,bf,bf,bf,bf] (by kernel_rfl) rfl rfl ⟨(bC BK182.out 0).trans rfl,(bC BK182.out 1).trans rfl,(bC BK182.out 2).trans rfl⟩ (fun hHeld => ?_);refine with_tabW impl_StoreOk.tab10 impl_StoreOk.bits10 (fun HT_ HW_ => ?_)
           generalize w50.drew = w51 at BK176 BK182 HB hHeld ⊢
           refine pure_ (i:=0) (N:=some 50) (v:=?_) (a':=?_) #[bT,bf,bf,bf,bf,bf,bf,bf,bf,bf,bf,bf,bf,bf,bf,bf,bf,bf,bf,bf,bf,bf,bf,bf,bf,bf,bf,bf,bf,bf,bf] rfl rfl (any_of HT_.out (by kernel_rfl)) (fun _ _ _ h => h) (Or.inl ⟨by rfl,?_⟩) ?_ ?_
           rotate_left
           ·intro w';go_simp;with_reducible rfl
           rotate_left
           ·simp only [Act.put,q_ia5,q_cz5,q_cs5,i64_w,i32_w];rfl
           refine take_ (i:=1) (N:=some 51) (v:=?_) (a':=?_) #[bT,bT,bf,bf,bf,bf,bf,bf,bf,bf,bf,bf,bf,bf,bf,bf,bf,bf,bf,bf,bf,bf,bf,bf,bf,bf,bf,bf,bf,bf,bf] rfl rfl (take_ofW HT_.out HW_.out (by kernel_rfl)) (fun _ _ _ h => h) (Or.inl ⟨by rfl,?_⟩) hHeld ?_ ?_
           rotate_left
           ·rintro w' ⟨s0,s1,s2⟩
            go_simp
            with_reducible rfl
           rotate_left
           ·simp only [Act.put,q_ia5,q_cz5,q_cs5,i64_w,i32_w];rfl
           refine one_ (i:=2) (N:=some 52) #[bT,bT,bT,bf,bf,bf,bf,bf,bf,bf,bf,bf,bf,bf,bf,bf,bf,bf,bf,bf,bf,bf,bf,bf,bf,bf,bf,bf,bf,bf,bf] rfl rfl (one_of HT_.out (by kernel_rfl)) (by decide) (fun K hK => ?_)
           refine goes_ Try.func107 (by kernel_rfl) rfl #[.string ((rd_T61 l0_1 x45_2).f0)] (by rfl) rfl rfl (by (try simp only [List.map_toArray,List.map_cons,List.map_nil]);first|done|rfl|(simp only [List.length_drop,List.length_take];rfl)) ?_
           with_reducible refine (impl_isLetters.calls k2 ((rd_T61 l0_1 x45_2).f0) true _ A44.out).mono ?_
           rintro e w' ⟨rfl,⟨nd,rfl⟩⟩
           refine ⟨_,rfl,?_⟩
           refine hK.out _ _ ⟨(bC BK182.out 0).trans rfl,(bC BK182.out 1).trans rfl,(bC BK182.out 2).trans rfl⟩ (fun hHeld => ?_)
           clear hK K
           refine norm_ (a':=?_) ?_ ?_
           rotate_left
           ·show Act.put _ (some 52) _ = _
            simp only [Act.put,q_ia5,q_cz5,q_cs5,i64_w,i32_w]
            rfl
           refine pure_ (i:=3) (N:=some 53) (v:=?_) (a':=?_) #[bT,bT,bT,bT,bf,bf,bf,bf,bf,bf,bf,bf,bf,bf,bf,bf,bf,bf,bf,bf,bf,bf,bf,bf,bf,bf,bf,bf,bf,bf,bf] rfl rfl (any_of HT_.out (by kernel_rfl)) (fun _ _ _ h => h) (Or.inl ⟨by rfl,?_⟩) ?_ ?_
           rotate_left
           ·intro w';go_simp;with_reducible rfl
           rotate_left
           ·simp only [Act.put,q_ia5,q_cz5,q_cs5,i64_w,i32_w];rfl
           refine pure_ (i:=4) (N:=some 54) (v:=?_) (a':=?_) #[bT,bT,bT,bT,bT,bf,bf,bf,bf,bf,bf,bf,bf,bf,bf,bf,bf,bf,bf,bf,bf,bf,bf,bf,bf,bf,bf,bf,bf,bf,bf] rfl rfl (any_of HT_.out (by kernel_rfl)) (fun _ _ _ h => h) (Or.inl ⟨by rfl,?_⟩) ?_ ?_
           rotate_left
           ·intro w';go_simp;with_reducible rfl
           rotate_left
           ·simp only [Act.put,q_ia5,q_cz5,q_cs5,i64_w,i32_w];rfl
           refine pure_ (i:=5) (N:=some 55) (v:=?_) (a':=?_) #[bT,bT,bT,bT,bT,bT,bf,bf,bf,bf,bf,bf,bf,bf,bf,bf,bf,bf,bf,bf,bf,bf,bf,bf,bf,bf,bf,bf,bf,bf,bf] rfl rfl (any_of HT_.out (by kernel_rfl)) (fun _ _ _ h => h) (Or.inl ⟨by rfl,?_⟩) ?_ ?_
           rotate_left
           ·intro w';go_simp;with_reducible rfl
           rotate_left
           ·simp only [Act.put,q_ia5,q_cz5,q_cs5,i64_w,i32_w];rfl
           refine take_ (i:=6) (N:=some 56) (v:=?_) (a':=?_) #[bT,bT,bT,bT,bT,bT,bT,bf,bf,bf,bf,bf,bf,bf,bf,bf,bf,bf,bf,bf,bf,bf,bf,bf,bf,bf,bf,bf,bf,bf,bf] rfl rfl (take_ofW HT_.out HW_.out (by kernel_rfl)) (fun _ _ _ h => h) (Or.inl ⟨by rfl,?_⟩) hHeld ?_ ?_
           rotate_left
           ·rintro w' ⟨s0,s1,s2⟩
            go_simp
            with_reducible rfl
           rotate_left
           ·simp only [Act.put,q_ia5,q_cz5,q_cs5,i64_w,i32_w];rfl
           refine pure_ (i:=7) (N:=some 57) (v:=?_) (a':=?_) #[bT,bT,bT,bT,bT,bT,bT,bT,bf,bf,bf,bf,bf,bf,bf,bf,bf,bf,bf,bf,bf,bf,bf,bf,bf,bf,bf,bf,bf,bf,bf] rfl rfl (any_of HT_.out (by kernel_rfl)) (fun _ _ _ h => h) (Or.inl ⟨by rfl,?_⟩) ?_ ?_
           rotate_left
           ·intro w';go_simp;with_reducible rfl
           rotate_left
           ·simp only [Act.put,q_ia5,q_cz5,q_cs5,i64_w,i32_w];rfl
           refine pure_ (i:=8) (N:=some 58) (v:=?_) (a':=?_) #[bT,bT,bT,bT,bT,bT,bT,bT,bT,bf,bf,bf,bf,bf,bf,bf,bf,bf,bf,bf,bf,bf,bf,bf,bf,bf,bf,bf,bf,bf,bf] rfl rfl (any_of HT_.out (by kernel_rfl)) (fun _ _ _ h => h) (Or.inl ⟨by rfl,?_⟩) ?_ ?_
           rotate_left
           ·intro w';go_simp;with_reducible rfl
           rotate_left
           ·simp only [Act.put,q_ia5,q_cz5,q_cs5,i64_w,i32_w];rfl
           refine pure_ (i:=9) (N:=some 59) (v:=?_) (a':=?_) #[bT,bT,bT,bT,bT,bT,bT,bT,bT,bT,bf,bf,bf,bf,bf,bf,bf,bf,bf,bf,bf,bf,bf,bf,bf,bf,bf,bf,bf,bf,bf] rfl rfl (any_of HT_.out (by kernel_rfl)) (fun _ _ _ h => h) (Or.inl ⟨by rfl,?_⟩) ?_ ?_
           rotate_left
           ·intro w';go_simp;with_reducible rfl
           rotate_left
           ·simp only [Act.put,q_ia5,q_cz5,q_cs5,i64_w,i32_w];rfl
           refine pure_ (i:=10) (N:=some 60) (v:=?_) (a':=?_) #[bT,bT,bT,bT,bT,bT,bT,bT,bT,bT,bT,bf,bf,bf,bf,bf,bf,bf,bf,bf,bf,bf,bf,bf,bf,bf,bf,bf,bf,bf,bf] rfl rfl (any_of HT_.out (by kernel_rfl)) (fun _ _ _ h => h) (Or.inl ⟨by rfl,?_⟩) ?_ ?_
           rotate_left
           ·intro w';go_simp;with_reducible rfl
           rotate_left
           ·simp only [Act.put,q_ia5,q_cz5,q_cs5,i64_w,i32_w];rfl
           refine pure_ (i:=11) (N:=some 61) (v:=undef) (a':=?_) #[bT,bT,bT,bT,bT,bT,bT,bT,bT,bT,bT,bT,bf,bf,bf,bf,bf,bf,bf,bf,bf,bf,bf,bf,bf,bf,bf,bf,bf,bf,bf] rfl rfl (any_of HT_.out (by kernel_rfl)) (fun _ _ _ h => h) (Or.inr ⟨by rfl,rfl⟩) ?_ ?_
           rotate_left
           ·simp only [Act.put,q_ia5,q_cz5,q_cs5,i64_w,i32_w];rfl
           refine pure_ (i:=12) (N:=some 62) (v:=undef) (a':=?_) #[bT,bT,bT,bT,bT,bT,bT,bT,bT,bT,bT,bT,bT,bf,bf,bf,bf,bf,bf,bf,bf,bf,bf,bf,bf,bf,bf,bf,bf,bf,bf] rfl rfl (any_of HT_.out (by kernel_rfl)) (fun _ _ _ h => h) (Or.inr ⟨by rfl,rfl⟩) ?_ ?_
           rotate_left
           ·simp only [Act.put,q_ia5,q_cz5,q_cs5,i64_w,i32_w];rfl
           refine pure_ (i:=13) (N:=some 63) (v:=undef) (a':=?_) #[bT,bT,bT,bT,bT,bT,bT,bT,bT,bT,bT,bT,bT,bT,bf,bf,bf,bf,bf,bf,bf,bf,bf,bf,bf,bf,bf,bf,bf,bf,bf] rfl rfl (any_of HT_.out (by kernel_rfl)) (fun _ _ _ h => h) (Or.inr ⟨by rfl,rfl⟩) ?_ ?_
           rotate_left
           ·simp only [Act.put,q_ia5,q_cz5,q_cs5,i64_w,i32_w];rfl
           refine pure_ (i:=14) (N:=some 64) (v:=undef) (a':=?_) #[bT,bT,bT,bT,bT,bT,bT,bT,bT,bT,bT,bT,bT,bT,bT,bf,bf,bf,bf,bf,bf,bf,bf,bf,bf,bf,bf,bf,bf,bf,bf] rfl rfl (any_of HT_.out (by kernel_rfl)) (fun _ _ _ h => h) (Or.inr ⟨by rfl,rfl⟩) ?_ ?_
           rotate_left
           ·simp only [Act.put,q_ia5,q_cz5,q_cs5,i64_w,i32_w];rfl
           refine pure_ (i:=15) (N:=some 65) (v:=?_) (a':=?_) #[bT,bT,bT,bT,bT,bT,bT,bT,bT,bT,bT,bT,bT,bT,bT,bT,bf,bf,bf,bf,bf,bf,bf,bf,bf,bf,bf,bf,bf,bf,bf] rfl rfl (any_of HT_.out (by kernel_rfl)) (fun _ _ _ h => h) (Or.inl ⟨by rfl,?_⟩) ?_ ?_
           rotate_left
           ·intro w';go_simp;with_reducible rfl
           rotate_left
           ·simp only [Act.put,q_ia5,q_cz5,q_cs5,i64_w,i32_w];rfl
           refine pure_ (i:=16) (N:=some 66) (v:=?_) (a':=?_) #[bT,bT,bT,bT,bT,bT,bT,bT,bT,bT,bT,bT,bT,bT,bT,bT,bT,bf,bf,bf,bf,bf,bf,bf,bf,bf,bf,bf,bf,bf,bf] rfl rfl (any_of HT_.out (by kernel_rfl)) (fun _ _ _ h => h) (Or.inl ⟨by rfl,?_⟩) ?_ ?_
           rotate_left
           ·intro w';go_simp;with_reducible rfl
           rotate_left
           ·simp only [Act.put,q_ia5,q_cz5,q_cs5,i64_w,i32_w];rfl
           refine pure_ (i:=17) (N:=some 67) (v:=undef) (a':=?_) #[bT,bT,bT,bT,bT,bT,bT,bT,bT,bT,bT,bT,bT,bT,bT,bT,bT,bT,bf,bf,bf,bf,bf,bf,bf,bf,bf,bf,bf,bf,bf] rfl rfl (any_of HT_.out (by kernel_rfl)) (fun _ _ _ h => h) (Or.inr ⟨by rfl,rfl⟩) ?_ ?_
           rotate_left
           ·simp only [Act.put,q_ia5,q_cz5,q_cs5,i64_w,i32_w];rfl
           refine pure_ (i:=18) (N:=some 68) (v:=undef) (a':=?_) #[bT,bT,bT,bT,bT,bT,bT,bT,bT,bT,bT,bT,bT,bT,bT,bT,bT,bT,bT,bf,bf,bf,bf,bf,bf,bf,bf,bf,bf,bf,bf] rfl rfl (any_of HT_.out (by kernel_rfl)) (fun _ _ _ h => h) (Or.inr ⟨by rfl,rfl⟩) ?_ ?_
           rotate_left
           ·simp only [Act.put,q_ia5,q_cz5,q_cs5,i64_w,i32_w];rfl
           refine pure_ (i:=19) (N:=some 69) (v:=undef) (a':=?_) #[bT,bT,bT,bT,bT,bT,bT,bT,bT,bT,bT,bT,bT,bT,bT,bT,bT,bT,bT,bT,bf,bf,bf,bf,bf,bf,bf,bf,bf,bf,bf] rfl rfl (any_of HT_.out (by kernel_rfl)) (fun _ _ _ h => h) (Or.inr ⟨by rfl,rfl⟩) ?_ ?_
           rotate_left
           ·simp only [Act.put,q_ia5,q_cz5,q_cs5,i64_w,i32_w];rfl
           refine pure_ (i:=20) (N:=some 70) (v:=undef) (a':=?_) #[bT,bT,bT,bT,bT,bT,bT,bT,bT,bT,bT,bT,bT,bT,bT,bT,bT,bT,bT,bT,bT,bf,bf,bf,bf,bf,bf,bf,bf,bf,bf] rfl rfl (any_of HT_.out (by kernel_rfl)) (fun _ _ _ h => h) (Or.inr ⟨by rfl,rfl⟩) ?_ ?_
           rotate_left
           ·simp only [Act.put,q_ia5,q_cz5,q_cs5,i64_w,i32_w];rfl
           refine pure_ (i:=21) (N:=some 71) (v:=undef) (a':=?_) #[bT,bT,bT,bT,bT,bT,bT,bT,bT,bT,bT,bT,bT,bT,bT,bT,bT,bT,bT,bT,bT,bT,bf,bf,bf,bf,bf,bf,bf,bf,bf] rfl rfl (any_of HT_.out (by kernel_rfl)) (fun _ _ _ h => h) (Or.inr ⟨by rfl,rfl⟩) ?_ ?_
           rotate_left
           ·simp only [Act.put,q_ia5,q_cz5,q_cs5,i64_w,i32_w];rfl
           refine pure_ (i:=22) (N:=some 72) (v:=undef) (a':=?_) #[bT,bT,bT,bT,bT,bT,bT,bT,bT,bT,bT,bT,bT,bT,bT,bT,bT,bT,bT,bT,bT,bT,bT,bf,bf,bf,bf,bf,bf,bf,bf] rfl rfl (any_of HT_.out (by kernel_rfl)) (fun _ _ _ h => h) (Or.inr ⟨by rfl,rfl⟩) ?_ ?_
           rotate_left
           ·simp only [Act.put,q_ia5,q_cz5,q_cs5,i64_w,i32_w];rfl
           refine pure_ (i:=23) (N:=some 73) (v:=undef) (a':=?_) #[bT,bT,bT,bT,bT,bT,bT,bT,bT,bT,bT,bT,bT,bT,bT,bT,bT,bT,bT,bT,bT,bT,bT,bT,bf,bf,bf,bf,bf,bf,bf] rfl rfl (any_of HT_.out (by kernel_rfl)) (fun _ _ _ h => h) (Or.inr ⟨by rfl,rfl⟩) ?_ ?_
           rotate_left
           ·simp only [Act.put,q_ia5,q_cz5,q_cs5,i64_w,i32_w];rfl
           refine pure_ (i:=24) (N:=some 74) (v:=undef) (a':=?_) #[bT,bT,bT,bT,bT,bT,bT,bT,bT,bT,bT,bT,bT,bT,bT,bT,bT,bT,bT,bT,bT,bT,bT,bT,bT,bf,bf,bf,bf,bf,bf] rfl rfl (any_of HT_.out (by kernel_rfl)) (fun _ _ _ h => h) (Or.inr ⟨by rfl,rfl⟩) ?_ ?_
           rotate_left
           ·simp only [Act.put,q_ia5,q_cz5,q_cs5,i64_w,i32_w];rfl
           refine pure_ (i:=25) (N:=some 75) (v:=undef) (a':=?_) #[bT,bT,bT,bT,bT,bT,bT,bT,bT,bT,bT,bT,bT,bT,bT,bT,bT,bT,bT,bT,bT,bT,bT,bT,bT,bT,bf,bf,bf,bf,bf] rfl rfl (any_of HT_.out (by kernel_rfl)) (fun _ _ _ h => h) (Or.inr ⟨by rfl,rfl⟩) ?_ ?_
           rotate_left
           ·simp only [Act.put,q_ia5,q_cz5,q_cs5,i64_w,i32_w];rfl
           refine pure_ (i:=26) (N:=some 76) (v:=undef) (a':=?_) #[bT,bT,bT,bT,bT,bT,bT,bT,bT,bT,bT,bT,bT,bT,bT,bT,bT,bT,bT,bT,bT,bT,bT,bT,bT,bT,bT,bf,bf,bf,bf] rfl rfl (any_of HT_.out (by kernel_rfl)) (fun _ _ _ h => h) (Or.inr ⟨by rfl,rfl⟩) ?_ ?_
           rotate_left
           ·simp only [Act.put,q_ia5,q_cz5,q_cs5,i64_w,i32_w];rfl
           refine pure_ (i:=27) (N:=some 77) (v:=undef) (a':=?_) #[bT,bT,bT,bT,bT,bT,bT,bT,bT,bT,bT,bT,bT,bT,bT,bT,bT,bT,bT,bT,bT,bT,bT,bT,bT,bT,bT,bT,bf,bf,bf] rfl rfl (any_of HT_.out (by kernel_rfl)) (fun _ _ _ h => h) (Or.inr ⟨by rfl,rfl⟩) ?_ ?_
           rotate_left
           ·simp only [Act.put,q_ia5,q_cz5,q_cs5,i64_w,i32_w];rfl
           refine pure_ (i:=28) (N:=some 78) (v:=undef) (a':=?_) #[bT,bT,bT,bT,bT,bT,bT,bT,bT,bT,bT,bT,bT,bT,bT,bT,bT,bT,bT,bT,bT,bT,bT,bT,bT,bT,bT,bT,bT,bf,bf] rfl rfl (any_of HT_.out (by kernel_rfl)) (fun _ _ _ h => h) (Or.inr ⟨by rfl,rfl⟩) ?_ ?_
           rotate_left
           ·simp only [Act.put,q_ia5,q_cz5,q_cs5,i64_w,i32_w];rfl
           refine pure_ (i:=29) (N:=some 79) (v:=undef) (a':=?_) #[bT,bT,bT,bT,bT,bT,bT,bT,bT,bT,bT,bT,bT,bT,bT,bT,bT,bT,bT,bT,bT,bT,bT,bT,bT,bT,bT,bT,bT,bT,bf] rfl rfl (any_of HT_.out (by kernel_rfl)) (fun _ _ _ h => h) (Or.inr ⟨by rfl,rfl⟩) ?_ ?_
           rotate_left
           ·simp only [Act.put,q_ia5,q_cz5,q_cs5,i64_w,i32_w];rfl
           refine pure_ (i:=30) (N:=some 80) (v:=?_) (a':=?_) #[bT,bT,bT,bT,bT,bT,bT,bT,bT,bT,bT,bT,bT,bT,bT,bT,bT,bT,bT,bT,bT,bT,bT,bT,bT,bT,bT,bT,bT,bT,bT] rfl rfl (any_of HT_.out (by kernel_rfl)) (fun _ _ _ h => h) (Or.inl ⟨by rfl,?_⟩) ?_ ?_
           rotate_left
           ·intro w';go_simp;with_reducible rfl
           rotate_left
           ·simp only [Act.put,q_ia5,q_cz5,q_cs5,i64_w,i32_w];rfl
           refine done_ (done_of HT_.out (by kernel_rfl)) ?_
           try go_wp2
           go_ret
           exact ⟨by first|rfl|(simp [errW_none,errW_some] <;> rfl)|(simp [*,errW_none,errW_some] <;> rfl),by repeat (first|(with_reducible first|exact HB.out|apply lA|apply lN|apply lD|refine lS ?_ GE176.out|refine lS ?_ GE182.out)|exact HB.out)⟩
          ·rw [if_neg c46] at H
           have c46b0 : decide (40 < (((rd_T61 l0_1 x45_2).f1).size : Int)) = false:=decide_eq_false c46
           have c46b1 : decide (40 < ((rd_T61 l0_1 x45_2).f1).size) = false:=decide_eq_false (by omega)
           clear c46
           by_cases c52 : (((rd_T61 l0_1 x45_2).f2).size : Int) > 40
           ·rw [if_pos c52] at H
            have c52b0 : decide (40 < (((rd_T61 l0_1 x45_2).f2).size : Int)) = true:=decide_eq_true c52
            have c52b1 : decide (40 < ((rd_T61 l0_1 x45_2).f2).size) = true:=decide_eq_true (by omega)
            clear c52
            obtain rfl:=Option.some.inj H
            have p181 : 0 ≤ (x45_2 : Int):=of_decide_eq_true (by first|(with_reducible assumption)|assumption)
            have q181 : x45_2 < (l0_1.length : Int):=of_decide_eq_true (by first|(with_reducible assumption)|assumption)
            obtain ⟨ad181,e181,hx181_0,hx181_1,hx181_2⟩:=at_T61 HR0_1.out x45_2 p181 q181
            cases e181
            replace hx181_0:=(HB.out.cell (World.block_lt_of_cell? w _ hx181_0)).trans hx181_0
            replace hx181_1:=(HB.out.cell (World.block_lt_of_cell? w _ hx181_1)).trans hx181_1
            replace hx181_2:=(HB.out.cell (World.block_lt_of_cell? w _ hx181_2)).trans hx181_2
            replace p181:=eq_true p181
            replace q181:=eq_true q181
            try go_wp2_with (first|((with_reducible refine gate_dst (N:=6) rfl ?_);(try (refine gate_guard (by rfl) ?_;dsimp only));refine box_event ?hg (N:=6) ?hd (cs:=#[.string (⟨#[]⟩ : ByteArray),.string (⟨#[]⟩ : ByteArray),.string (⟨#[]⟩ : ByteArray)]) (t:=61) ?hr ?_;(case hd => rfl);(case hg => rfl);(case hr => first|(go_simp;done)|(go_simp;rfl));intro gb182 hg w53 hbox hb;have n0_:=aM (bB (g:=gb176) (o:=.cells #[.slice A0_0 l0_0.length c0_0,.slice (some ad181) l0_1.length c0_1,.string a0_2] 54 (0,0)) (by (with_reducible repeat (first|refine bN ?_ _|refine bD ?_|refine bA ?_ _));exact BK176.out) hb);have n1_:=aM (lP (by repeat (first|(with_reducible first|exact HB.out|apply lA|apply lN|apply lD|refine lS ?_ GE176.out)|exact HB.out)) hb);have n2_:=aM (hbox);have n3_:=aM ((by rw [hg];exact (lZ (by repeat (first|(with_reducible first|exact HB.out|apply lA|apply lN|apply lD|refine lS ?_ GE176.out)|exact HB.out))) : w.heap.size ≤ gb182));have n4_:=aM ((by rw [hg];exact (lZ (by repeat (first|(with_reducible first|exact HB.out|apply lA|apply lN|apply lD|refine lS ?_ GE176.out)|exact HB.out))) : w.heap.size ≤ gb182));have n5_:=aM ((by rw [hg];exact Nat.ne_of_lt (bL (g:=gb176) (o:=.cells #[.slice A0_0 l0_0.length c0_0,.slice (some ad181) l0_1.length c0_1,.string a0_2] 54 (0,0)) (by (with_reducible repeat (first|refine bN ?_ _|refine bD ?_|refine bA ?_ _));exact BK176.out)) : gb176 ≠ gb182));have n6_:=aM ((by rw [hg];exact Nat.ne_of_gt (bL (g:=gb176) (o:=.cells #[.slice A0_0 l0_0.length c0_0,.slice (some ad181) l0_1.length c0_1,.string a0_2] 54 (0,0)) (by (with_reducible repeat (first|refine bN ?_ _|refine bD ?_|refine bA ?_ _));exact BK176.out)) : gb182 ≠ gb176));clear BK176 HB;have BK176:=n0_;have HB:=n1_;have BK182:=n2_;have GW182:=n3_;have GE182:=n4_;have NB176_182:=n5_;have NB182_176:=n6_;clear n0_ n1_ n2_ n3_ n4_ n5_ n6_ hb hbox hg;have hnb54:=NB182_176.out;have hnc54:=NB176_182.out;have hcz55_0 : w53.cell? ⟨gb182,0,none⟩ = some (.string (⟨#[]⟩ : ByteArray)):=(bC BK182.out 0).trans rfl;have hcz55_1 : w53.cell? ⟨gb182,1,none⟩ = some (.string (⟨#[]⟩ : ByteArray)):=(bC BK182.out 1).trans rfl;have hcz55_2 : w53.cell? ⟨gb182,2,none⟩ = some (.string (⟨#[]⟩ : ByteArray)):=(bC BK182.out 2).trans rfl;have hfz55_0:=bF BK182.out 0;have hfz55_1:=bF BK182.out 1;have hfz55_2:=bF BK182.out 2))
            have n0_ : Aside0 ((((w53.setCell ⟨gb182,0,none⟩ (.string ((rd_T61 l0_1 x45_2).f0))).setCell ⟨gb182,1,none⟩ (.string ((rd_T61 l0_1 x45_2).f1))).setCell ⟨gb182,2,none⟩ (.string ((rd_T61 l0_1 x45_2).f2))).heap[gb176]? = some (.cells #[.slice A0_0 l0_0.length c0_0,.slice (some ad181) l0_1.length c0_1,.string a0_2] 54 (0,0))):=⟨by (with_reducible repeat (first|refine bN ?_ _|refine bD ?_|refine bA ?_ _));refine blk_far ?_ NB176_182.out _;(with_reducible repeat (first|refine bN ?_ _|refine bD ?_|refine bA ?_ _));refine blk_far ?_ NB176_182.out _;(with_reducible repeat (first|refine bN ?_ _|refine bD ?_|refine bA ?_ _));refine blk_far ?_ NB176_182.out _;(with_reducible repeat (first|refine bN ?_ _|refine bD ?_|refine bA ?_ _));exact BK176.out⟩
            have n1_ : Aside0 ((((w53.setCell ⟨gb182,0,none⟩ (.string ((rd_T61 l0_1 x45_2).f0))).setCell ⟨gb182,1,none⟩ (.string ((rd_T61 l0_1 x45_2).f1))).setCell ⟨gb182,2,none⟩ (.string ((rd_T61 l0_1 x45_2).f2))).heap[gb182]? = some (.cells #[.string ((rd_T61 l0_1 x45_2).f0),.string ((rd_T61 l0_1 x45_2).f1),.string ((rd_T61 l0_1 x45_2).f2)] 61 (0,0))):=⟨by (with_reducible repeat (first|refine bN ?_ _|refine bD ?_|refine bA ?_ _));refine blk_put (cs:=#[.string ((rd_T61 l0_1 x45_2).f0),.string ((rd_T61 l0_1 x45_2).f1),.string (⟨#[]⟩ : ByteArray)]) ?_ 2 _ rfl;(with_reducible repeat (first|refine bN ?_ _|refine bD ?_|refine bA ?_ _));refine blk_put (cs:=#[.string ((rd_T61 l0_1 x45_2).f0),.string (⟨#[]⟩ : ByteArray),.string (⟨#[]⟩ : ByteArray)]) ?_ 1 _ rfl;(with_reducible repeat (first|refine bN ?_ _|refine bD ?_|refine bA ?_ _));refine blk_put (cs:=#[.string (⟨#[]⟩ : ByteArray),.string (⟨#[]⟩ : ByteArray),.string (⟨#[]⟩ : ByteArray)]) ?_ 0 _ rfl;(with_reducible repeat (first|refine bN ?_ _|refine bD ?_|refine bA ?_ _));exact BK182.out⟩
            have n2_ : Aside0 (Below w.heap.size w (((w53.setCell ⟨gb182,0,none⟩ (.string ((rd_T61 l0_1 x45_2).f0))).setCell ⟨gb182,1,none⟩ (.string ((rd_T61 l0_1 x45_2).f1))).setCell ⟨gb182,2,none⟩ (.string ((rd_T61 l0_1 x45_2).f2)))):=⟨by repeat (first|(with_reducible first|exact HB.out|apply lA|apply lN|apply lD|refine lS ?_ GE176.out|refine lS ?_ GE182.out)|exact HB.out)⟩
            (try clear BK176)
            (try clear BK182)
            (try clear HB)
            generalize (((w53.setCell ⟨gb182,0,none⟩ (.string ((rd_T61 l0_1 x45_2).f0))).setCell ⟨gb182,1,none⟩ (.string ((rd_T61 l0_1 x45_2).f1))).setCell ⟨gb182,2,none⟩ (.string ((rd_T61 l0_1 x45_2).f2))) = w56 at n0_ n1_ n2_ ⊢
            have BK176:=n0_
            have BK182:=n1_
            have HB:=n2_
            clear n0_ n1_ n2_
            have n0_:=aM (bD BK176.out)
            have n1_:=aM (bD BK182.out)
            have n2_:=aM (lD HB.out)
            clear BK176
            clear BK182
            clear HB
            have BK176:=n0_
            have BK182:=n1_
            have HB:=n2_
            clear n0_ n1_ n2_
            refine start_ (n:=31) (S:=fun w' => w'.cell? ⟨gb182,0,none⟩ = some (.string ((rd_T61 l0_1 x45_2).f0)) ∧ w'.cell? ⟨gb182,1,none⟩ = some (.string ((rd_T61 l0_1 x45_2).f1)) ∧ w'.cell? ⟨gb182,2,none⟩ = some (.string ((rd_T61 l0_1 x45_2).f2))) (ds:=[]) #[bf,bf,bf,bf,bf,bf,bf,bf,bf,bf,bf,bf,bf,bf,bf,bf,bf,bf,bf,bf,bf,bf,bf,bf,bf,bf,bf,bf,bf,bf,bf] (by kernel_rfl) rfl rfl ⟨(bC BK182.out 0).trans rfl,(bC BK182.out 1).trans rfl,(bC BK182.out 2).trans rfl⟩ (fun hHeld => ?_);refine with_tabW impl_StoreOk.tab10 impl_StoreOk.bits10 (fun HT_ HW_ => ?_)
            generalize w56.drew = w57 at BK176 BK182 HB hHeld ⊢
            refine pure_ (i:=0) (N:=some 50) (v:=?_) (a':=?_) #[bT,bf,bf,bf,bf,bf,bf,bf,bf,bf,bf,bf,bf,bf,bf,bf,bf,bf,bf,bf,bf,bf,bf,bf,bf,bf,bf,bf,bf,bf,bf] rfl rfl (any_of HT_.out (by kernel_rfl)) (fun _ _ _ h => h) (Or.inl ⟨by rfl,?_⟩) ?_ ?_
            rotate_left
            ·intro w';go_simp;with_reducible rfl
            rotate_left
            ·simp only [Act.put,q_ia5,q_cz5,q_cs5,i64_w,i32_w];rfl
            refine take_ (i:=1) (N:=some 51) (v:=?_) (a':=?_) #[bT,bT,bf,bf,bf,bf,bf,bf,bf,bf,bf,bf,bf,bf,bf,bf,bf,bf,bf,bf,bf,bf,bf,bf,bf,bf,bf,bf,bf,bf,bf] rfl rfl (take_ofW HT_.out HW_.out (by kernel_rfl)) (fun _ _ _ h => h) (Or.inl ⟨by rfl,?_⟩) hHeld ?_ ?_
            rotate_left
            ·rintro w' ⟨s0,s1,s2⟩
             go_simp
             with_reducible rfl
            rotate_left
            ·simp only [Act.put,q_ia5,q_cz5,q_cs5,i64_w,i32_w];rfl
            refine one_ (i:=2) (N:=some 52) #[bT,bT,bT,bf,bf,bf,bf,bf,bf,bf,bf,bf,bf,bf,bf,bf,bf,bf,bf,bf,bf,bf,bf,bf,bf,bf,bf,bf,bf,bf,bf] rfl rfl (one_of HT_.out (by kernel_rfl)) (by decide) (fun K hK => ?_)
            refine goes_ Try.func107 (by kernel_rfl) rfl #[.string ((rd_T61 l0_1 x45_2).f0)] (by rfl) rfl rfl (by (try simp only [List.map_toArray,List.map_cons,List.map_nil]);first|done|rfl|(simp only [List.length_drop,List.length_take];rfl)) ?_
            with_reducible refine (impl_isLetters.calls k2 ((rd_T61 l0_1 x45_2).f0) true _ A44.out).mono ?_
            rintro e w' ⟨rfl,⟨nd,rfl⟩⟩
            refine ⟨_,rfl,?_⟩
            refine hK.out _ _ ⟨(bC BK182.out 0).trans rfl,(bC BK182.out 1).trans rfl,(bC BK182.out 2).trans rfl⟩ (fun hHeld => ?_)
            clear hK K
            refine norm_ (a':=?_) ?_ ?_
            rotate_left
            ·show Act.put _ (some 52) _ = _
             simp only [Act.put,q_ia5,q_cz5,q_cs5,i64_w,i32_w]
             rfl
            refine pure_ (i:=3) (N:=some 53) (v:=?_) (a':=?_) #[bT,bT,bT,bT,bf,bf,bf,bf,bf,bf,bf,bf,bf,bf,bf,bf,bf,bf,bf,bf,bf,bf,bf,bf,bf,bf,bf,bf,bf,bf,bf] rfl rfl (any_of HT_.out (by kernel_rfl)) (fun _ _ _ h => h) (Or.inl ⟨by rfl,?_⟩) ?_ ?_
            rotate_left
            ·intro w';go_simp;with_reducible rfl
            rotate_left
            ·simp only [Act.put,q_ia5,q_cz5,q_cs5,i64_w,i32_w];rfl
            refine pure_ (i:=4) (N:=some 54) (v:=?_) (a':=?_) #[bT,bT,bT,bT,bT,bf,bf,bf,bf,bf,bf,bf,bf,bf,bf,bf,bf,bf,bf,bf,bf,bf,bf,bf,bf,bf,bf,bf,bf,bf,bf] rfl rfl (any_of HT_.out (by kernel_rfl)) (fun _ _ _ h => h) (Or.inl ⟨by rfl,?_⟩) ?_ ?_
            rotate_left
            ·intro w';go_simp;with_reducible rfl
            rotate_left
            ·simp only [Act.put,q_ia5,q_cz5,q_cs5,i64_w,i32_w];rfl
            refine pure_ (i:=5) (N:=some 55) (v:=?_) (a':=?_) #[bT,bT,bT,bT,bT,bT,bf,bf,bf,bf,bf,bf,bf,bf,bf,bf,bf,bf,bf,bf,bf,bf,bf,bf,bf,bf,bf,bf,bf,bf,bf] rfl rfl (any_of HT_.out (by kernel_rfl)) (fun _ _ _ h => h) (Or.inl ⟨by rfl,?_⟩) ?_ ?_
            rotate_left
            ·intro w';go_simp;with_reducible rfl
            rotate_left
            ·simp only [Act.put,q_ia5,q_cz5,q_cs5,i64_w,i32_w];rfl
            refine take_ (i:=6) (N:=some 56) (v:=?_) (a':=?_) #[bT,bT,bT,bT,bT,bT,bT,bf,bf,bf,bf,bf,bf,bf,bf,bf,bf,bf,bf,bf,bf,bf,bf,bf,bf,bf,bf,bf,bf,bf,bf] rfl rfl (take_ofW HT_.out HW_.out (by kernel_rfl)) (fun _ _ _ h => h) (Or.inl ⟨by rfl,?_⟩) hHeld ?_ ?_
            rotate_left
            ·rintro w' ⟨s0,s1,s2⟩
             go_simp
             with_reducible rfl
            rotate_left
            ·simp only [Act.put,q_ia5,q_cz5,q_cs5,i64_w,i32_w];rfl
            refine pure_ (i:=7) (N:=some 57) (v:=?_) (a':=?_) #[bT,bT,bT,bT,bT,bT,bT,bT,bf,bf,bf,bf,bf,bf,bf,bf,bf,bf,bf,bf,bf,bf,bf,bf,bf,bf,bf,bf,bf,bf,bf] rfl rfl (any_of HT_.out (by kernel_rfl)) (fun _ _ _ h => h) (Or.inl ⟨by rfl,?_⟩) ?_ ?_
            rotate_left
            ·intro w';go_simp;with_reducible rfl
            rotate_left
            ·simp only [Act.put,q_ia5,q_cz5,q_cs5,i64_w,i32_w];rfl
            refine pure_ (i:=8) (N:=some 58) (v:=?_) (a':=?_) #[bT,bT,bT,bT,bT,bT,bT,bT,bT,bf,bf,bf,bf,bf,bf,bf,bf,bf,bf,bf,bf,bf,bf,bf,bf,bf,bf,bf,bf,bf,bf] rfl rfl (any_of HT_.out (by kernel_rfl)) (fun _ _ _ h => h) (Or.inl ⟨by rfl,?_⟩) ?_ ?_
            rotate_left
            ·intro w';go_simp;with_reducible rfl
            rotate_left
            ·simp only [Act.put,q_ia5,q_cz5,q_cs5,i64_w,i32_w];rfl
            refine pure_ (i:=9) (N:=some 59) (v:=?_) (a':=?_) #[bT,bT,bT,bT,bT,bT,bT,bT,bT,bT,bf,bf,bf,bf,bf,bf,bf,bf,bf,bf,bf,bf,bf,bf,bf,bf,bf,bf,bf,bf,bf] rfl rfl (any_of HT_.out (by kernel_rfl)) (fun _ _ _ h => h) (Or.inl ⟨by rfl,?_⟩) ?_ ?_
            rotate_left
            ·intro w';go_simp;with_reducible rfl
            rotate_left
            ·simp only [Act.put,q_ia5,q_cz5,q_cs5,i64_w,i32_w];rfl
            refine pure_ (i:=10) (N:=some 60) (v:=?_) (a':=?_) #[bT,bT,bT,bT,bT,bT,bT,bT,bT,bT,bT,bf,bf,bf,bf,bf,bf,bf,bf,bf,bf,bf,bf,bf,bf,bf,bf,bf,bf,bf,bf] rfl rfl (any_of HT_.out (by kernel_rfl)) (fun _ _ _ h => h) (Or.inl ⟨by rfl,?_⟩) ?_ ?_
            rotate_left
            ·intro w';go_simp;with_reducible rfl
            rotate_left
            ·simp only [Act.put,q_ia5,q_cz5,q_cs5,i64_w,i32_w];rfl
            refine pure_ (i:=11) (N:=some 61) (v:=?_) (a':=?_) #[bT,bT,bT,bT,bT,bT,bT,bT,bT,bT,bT,bT,bf,bf,bf,bf,bf,bf,bf,bf,bf,bf,bf,bf,bf,bf,bf,bf,bf,bf,bf] rfl rfl (any_of HT_.out (by kernel_rfl)) (fun _ _ _ h => h) (Or.inl ⟨by rfl,?_⟩) ?_ ?_
            rotate_left
            ·intro w';go_simp;with_reducible rfl
            rotate_left
            ·simp only [Act.put,q_ia5,q_cz5,q_cs5,i64_w,i32_w];rfl
            refine take_ (i:=12) (N:=some 62) (v:=?_) (a':=?_) #[bT,bT,bT,bT,bT,bT,bT,bT,bT,bT,bT,bT,bT,bf,bf,bf,bf,bf,bf,bf,bf,bf,bf,bf,bf,bf,bf,bf,bf,bf,bf] rfl rfl (take_ofW HT_.out HW_.out (by kernel_rfl)) (fun _ _ _ h => h) (Or.inl ⟨by rfl,?_⟩) hHeld ?_ ?_
            rotate_left
            ·rintro w' ⟨s0,s1,s2⟩
             go_simp
             with_reducible rfl
            rotate_left
            ·simp only [Act.put,q_ia5,q_cz5,q_cs5,i64_w,i32_w];rfl
            refine pure_ (i:=13) (N:=some 63) (v:=?_) (a':=?_) #[bT,bT,bT,bT,bT,bT,bT,bT,bT,bT,bT,bT,bT,bT,bf,bf,bf,bf,bf,bf,bf,bf,bf,bf,bf,bf,bf,bf,bf,bf,bf] rfl rfl (any_of HT_.out (by kernel_rfl)) (fun _ _ _ h => h) (Or.inl ⟨by rfl,?_⟩) ?_ ?_
            rotate_left
            ·intro w';go_simp;with_reducible rfl
            rotate_left
            ·simp only [Act.put,q_ia5,q_cz5,q_cs5,i64_w,i32_w];rfl
            refine pure_ (i:=14) (N:=some 64) (v:=?_) (a':=?_) #[bT,bT,bT,bT,bT,bT,bT,bT,bT,bT,bT,bT,bT,bT,bT,bf,bf,bf,bf,bf,bf,bf,bf,bf,bf,bf,bf,bf,bf,bf,bf] rfl rfl (any_of HT_.out (by kernel_rfl)) (fun _ _ _ h => h) (Or.inl ⟨by rfl,?_⟩) ?_ ?_
            rotate_left
            ·intro w';go_simp;with_reducible rfl
            rotate_left
            ·simp only [Act.put,q_ia5,q_cz5,q_cs5,i64_w,i32_w];rfl
            refine pure_ (i:=15) (N:=some 65) (v:=?_) (a':=?_) #[bT,bT,bT,bT,bT,bT,bT,bT,bT,bT,bT,bT,bT,bT,bT,bT,bf,bf,bf,bf,bf,bf,bf,bf,bf,bf,bf,bf,bf,bf,bf] rfl rfl (any_of HT_.out (by kernel_rfl)) (fun _ _ _ h => h) (Or.inl ⟨by rfl,?_⟩) ?_ ?_
            rotate_left
            ·intro w';go_simp;with_reducible rfl
            rotate_left
            ·simp only [Act.put,q_ia5,q_cz5,q_cs5,i64_w,i32_w];rfl
            refine pure_ (i:=16) (N:=some 66) (v:=?_) (a':=?_) #[bT,bT,bT,bT,bT,bT,bT,bT,bT,bT,bT,bT,bT,bT,bT,bT,bT,bf,bf,bf,bf,bf,bf,bf,bf,bf,bf,bf,bf,bf,bf] rfl rfl (any_of HT_.out (by kernel_rfl)) (fun _ _ _ h => h) (Or.inl ⟨by rfl,?_⟩) ?_ ?_
            rotate_left
            ·intro w';go_simp;with_reducible rfl
            rotate_left
            ·simp only [Act.put,q_ia5,q_cz5,q_cs5,i64_w,i32_w];rfl
            refine pure_ (i:=17) (N:=some 67) (v:=undef) (a':=?_) #[bT,bT,bT,bT,bT,bT,bT,bT,bT,bT,bT,bT,bT,bT,bT,bT,bT,bT,bf,bf,bf,bf,bf,bf,bf,bf,bf,bf,bf,bf,bf] rfl rfl (any_of HT_.out (by kernel_rfl)) (fun _ _ _ h => h) (Or.inr ⟨by rfl,rfl⟩) ?_ ?_
            rotate_left
            ·simp only [Act.put,q_ia5,q_cz5,q_cs5,i64_w,i32_w];rfl
            refine pure_ (i:=18) (N:=some 68) (v:=undef) (a':=?_) #[bT,bT,bT,bT,bT,bT,bT,bT,bT,bT,bT,bT,bT,bT,bT,bT,bT,bT,bT,bf,bf,bf,bf,bf,bf,bf,bf,bf,bf,bf,bf] rfl rfl (any_of HT_.out (by kernel_rfl)) (fun _ _ _ h => h) (Or.inr ⟨by rfl,rfl⟩) ?_ ?_
            rotate_left
            ·simp only [Act.put,q_ia5,q_cz5,q_cs5,i64_w,i32_w];rfl
            refine pure_ (i:=19) (N:=some 69) (v:=undef) (a':=?_) #[bT,bT,bT,bT,bT,bT,bT,bT,bT,bT,bT,bT,bT,bT,bT,bT,bT,bT,bT,bT,bf,bf,bf,bf,bf,bf,bf,bf,bf,bf,bf] rfl rfl (any_of HT_.out (by kernel_rfl)) (fun _ _ _ h => h) (Or.inr ⟨by rfl,rfl⟩) ?_ ?_
            rotate_left
            ·simp only [Act.put,q_ia5,q_cz5,q_cs5,i64_w,i32_w];rfl
            refine pure_ (i:=20) (N:=some 70) (v:=undef) (a':=?_) #[bT,bT,bT,bT,bT,bT,bT,bT,bT,bT,bT,bT,bT,bT,bT,bT,bT,bT,bT,bT,bT,bf,bf,bf,bf,bf,bf,bf,bf,bf,bf] rfl rfl (any_of HT_.out (by kernel_rfl)) (fun _ _ _ h => h) (Or.inr ⟨by rfl,rfl⟩) ?_ ?_
            rotate_left
            ·simp only [Act.put,q_ia5,q_cz5,q_cs5,i64_w,i32_w];rfl
            refine pure_ (i:=21) (N:=some 71) (v:=undef) (a':=?_) #[bT,bT,bT,bT,bT,bT,bT,bT,bT,bT,bT,bT,bT,bT,bT,bT,bT,bT,bT,bT,bT,bT,bf,bf,bf,bf,bf,bf,bf,bf,bf] rfl rfl (any_of HT_.out (by kernel_rfl)) (fun _ _ _ h => h) (Or.inr ⟨by rfl,rfl⟩) ?_ ?_
            rotate_left
            ·simp only [Act.put,q_ia5,q_cz5,q_cs5,i64_w,i32_w];rfl
            refine pure_ (i:=22) (N:=some 72) (v:=undef) (a':=?_) #[bT,bT,bT,bT,bT,bT,bT,bT,bT,bT,bT,bT,bT,bT,bT,bT,bT,bT,bT,bT,bT,bT,bT,bf,bf,bf,bf,bf,bf,bf,bf] rfl rfl (any_of HT_.out (by kernel_rfl)) (fun _ _ _ h => h) (Or.inr ⟨by rfl,rfl⟩) ?_ ?_
            rotate_left
            ·simp only [Act.put,q_ia5,q_cz5,q_cs5,i64_w,i32_w];rfl
            refine pure_ (i:=23) (N:=some 73) (v:=undef) (a':=?_) #[bT,bT,bT,bT,bT,bT,bT,bT,bT,bT,bT,bT,bT,bT,bT,bT,bT,bT,bT,bT,bT,bT,bT,bT,bf,bf,bf,bf,bf,bf,bf] rfl rfl (any_of HT_.out (by kernel_rfl)) (fun _ _ _ h => h) (Or.inr ⟨by rfl,rfl⟩) ?_ ?_
            rotate_left
            ·simp only [Act.put,q_ia5,q_cz5,q_cs5,i64_w,i32_w];rfl
            refine pure_ (i:=24) (N:=some 74) (v:=undef) (a':=?_) #[bT,bT,bT,bT,bT,bT,bT,bT,bT,bT,bT,bT,bT,bT,bT,bT,bT,bT,bT,bT,bT,bT,bT,bT,bT,bf,bf,bf,bf,bf,bf] rfl rfl (any_of HT_.out (by kernel_rfl)) (fun _ _ _ h => h) (Or.inr ⟨by rfl,rfl⟩) ?_ ?_
            rotate_left
            ·simp only [Act.put,q_ia5,q_cz5,q_cs5,i64_w,i32_w];rfl
            refine pure_ (i:=25) (N:=some 75) (v:=undef) (a':=?_) #[bT,bT,bT,bT,bT,bT,bT,bT,bT,bT,bT,bT,bT,bT,bT,bT,bT,bT,bT,bT,bT,bT,bT,bT,bT,bT,bf,bf,bf,bf,bf] rfl rfl (any_of HT_.out (by kernel_rfl)) (fun _ _ _ h => h) (Or.inr ⟨by rfl,rfl⟩) ?_ ?_
            rotate_left
            ·simp only [Act.put,q_ia5,q_cz5,q_cs5,i64_w,i32_w];rfl
            refine pure_ (i:=26) (N:=some 76) (v:=undef) (a':=?_) #[bT,bT,bT,bT,bT,bT,bT,bT,bT,bT,bT,bT,bT,bT,bT,bT,bT,bT,bT,bT,bT,bT,bT,bT,bT,bT,bT,bf,bf,bf,bf] rfl rfl (any_of HT_.out (by kernel_rfl)) (fun _ _ _ h => h) (Or.inr ⟨by rfl,rfl⟩) ?_ ?_
            rotate_left
            ·simp only [Act.put,q_ia5,q_cz5,q_cs5,i64_w,i32_w];rfl
            refine pure_ (i:=27) (N:=some 77) (v:=undef) (a':=?_) #[bT,bT,bT,bT,bT,bT,bT,bT,bT,bT,bT,bT,bT,bT,bT,bT,bT,bT,bT,bT,bT,bT,bT,bT,bT,bT,bT,bT,bf,bf,bf] rfl rfl (any_of HT_.out (by kernel_rfl)) (fun _ _ _ h => h) (Or.inr ⟨by rfl,rfl⟩) ?_ ?_
            rotate_left
            ·simp only [Act.put,q_ia5,q_cz5,q_cs5,i64_w,i32_w];rfl
            refine pure_ (i:=28) (N:=some 78) (v:=undef) (a':=?_) #[bT,bT,bT,bT,bT,bT,bT,bT,bT,bT,bT,bT,bT,bT,bT,bT,bT,bT,bT,bT,bT,bT,bT,bT,bT,bT,bT,bT,bT,bf,bf] rfl rfl (any_of HT_.out (by kernel_rfl)) (fun _ _ _ h => h) (Or.inr ⟨by rfl,rfl⟩) ?_ ?_
            rotate_left
            ·simp only [Act.put,q_ia5,q_cz5,q_cs5,i64_w,i32_w];rfl
            refine pure_ (i:=29) (N:=some 79) (v:=undef) (a':=?_) #[bT,bT,bT,bT,bT,bT,bT,bT,bT,bT,bT,bT,bT,bT,bT,bT,bT,bT,bT,bT,bT,bT,bT,bT,bT,bT,bT,bT,bT,bT,bf] rfl rfl (any_of HT_.out (by kernel_rfl)) (fun _ _ _ h => h) (Or.inr ⟨by rfl,rfl⟩) ?_ ?_
            rotate_left
            ·simp only [Act.put,q_ia5,q_cz5,q_cs5,i64_w,i32_w];rfl
            refine pure_ (i:=30) (N:=some 80) (v:=?_) (a':=?_) #[bT,bT,bT,bT,bT,bT,bT,bT,bT,bT,bT,bT,bT,bT,bT,bT,bT,bT,bT,bT,bT,bT,bT,bT,bT,bT,bT,bT,bT,bT,bT] rfl rfl (any_of HT_.out (by kernel_rfl)) (fun _ _ _ h => h) (Or.inl ⟨by rfl,?_⟩) ?_ ?_
            rotate_left
            ·intro w';go_simp;with_reducible rfl
            rotate_left
            ·simp only [Act.put,q_ia5,q_cz5,q_cs5,i64_w,i32_w];rfl
            refine done_ (done_of HT_.out (by kernel_rfl)) ?_
            try go_wp2
            go_ret
            exact ⟨by first|rfl|(simp [errW_none,errW_some] <;> rfl)|(simp [*,errW_none,errW_some] <;> rfl),by repeat (first|(with_reducible first|exact HB.out|apply lA|apply lN|apply lD|refine lS ?_ GE176.out|refine lS ?_ GE182.out)|exact HB.out)⟩
           ·rw [if_neg c52] at H
            have c52b0 : decide (40 < (((rd_T61 l0_1 x45_2).f2).size : Int)) = false:=decide_eq_false c52
            have c52b1 : decide (40 < ((rd_T61 l0_1 x45_2).f2).size) = false:=decide_eq_false (by omega)
            clear c52
            by_cases c58 : x45_2 > 0
            ·rw [if_pos c58] at H
             have c58b0 : decide (0 < x45_2) = true:=decide_eq_true c58
             clear c58
             obtain ⟨ji59,hji59⟩ : ∃ j_ : Int,(wrap64 (x45_2 - 1)) = j_:=⟨_,rfl⟩
             replace H : (if 0 ≤ (ji59) then (if (ji59) < (l0_1.length : Int) then ((impl_byKey.f ((rd_T61 l0_1 (ji59)).f0) ((rd_T61 l0_1 (ji59)).f1) ((rd_T61 l0_1 (ji59)).f2) ((rd_T61 l0_1 x45_2).f0) ((rd_T61 l0_1 x45_2).f1) ((rd_T61 l0_1 x45_2).f2)).bind fun t185 => (if t185 ≥ 0 then (some false) else (impl_StoreOk.l1 k2 l0_1 (l0_1.length : Int) (wrap64 (x45_2 + 1)) l0_0 l0_1 a0_2))) else (none)) else (none)) = some r:=by first|(rw [hji59] at H;exact H)|(simp only [hji59] at H ⊢;exact H)
             (try rw [hji59] at A44)
             have hji59w : (IntKind.i64.wrap (x45_2 - 1)) = ji59:=(i64_w _).trans hji59
             by_cases c60 : 0 ≤ (ji59)
             ·rw [if_pos c60] at H
              have c60b0 : decide (0 ≤ (ji59)) = true:=decide_eq_true c60
              clear c60
              by_cases c61 : (ji59) < (l0_1.length : Int)
              ·rw [if_pos c61] at H
               have c61b0 : decide ((ji59) < (l0_1.length : Int)) = true:=decide_eq_true c61
               clear c61
               replace H:=Option.bind_eq_some_iff.mp H
               obtain ⟨t185,A620,H⟩:=H
               replace H : (if t185 ≥ 0 then (some false) else (impl_StoreOk.l1 k2 l0_1 (l0_1.length : Int) (wrap64 (x45_2 + 1)) l0_0 l0_1 a0_2)) = some r:=H
               have A62:=aM A620
               clear A620
               by_cases c63 : t185 ≥ 0
               ·rw [if_pos c63] at H
                have c63b0 : decide (0 ≤ t185) = true:=decide_eq_true c63
                clear c63
                obtain rfl:=Option.some.inj H
                have p181 : 0 ≤ (x45_2 : Int):=of_decide_eq_true (by first|(with_reducible assumption)|assumption)
                have q181 : x45_2 < (l0_1.length : Int):=of_decide_eq_true (by first|(with_reducible assumption)|assumption)
                obtain ⟨ad181,e181,hx181_0,hx181_1,hx181_2⟩:=at_T61 HR0_1.out x45_2 p181 q181
                cases e181
                replace hx181_0:=(HB.out.cell (World.block_lt_of_cell? w _ hx181_0)).trans hx181_0
                replace hx181_1:=(HB.out.cell (World.block_lt_of_cell? w _ hx181_1)).trans hx181_1
                replace hx181_2:=(HB.out.cell (World.block_lt_of_cell? w _ hx181_2)).trans hx181_2
                replace p181:=eq_true p181
                replace q181:=eq_true q181
                try go_wp2_with (first|((with_reducible refine gate_dst (N:=6) rfl ?_);(try (refine gate_guard (by rfl) ?_;dsimp only));refine box_event ?hg (N:=6) ?hd (cs:=#[.string (⟨#[]⟩ : ByteArray),.string (⟨#[]⟩ : ByteArray),.string (⟨#[]⟩ : ByteArray)]) (t:=61) ?hr ?_;(case hd => rfl);(case hg => rfl);(case hr => first|(go_simp;done)|(go_simp;rfl));intro gb182 hg w64 hbox hb;have n0_:=aM (bB (g:=gb176) (o:=.cells #[.slice A0_0 l0_0.length c0_0,.slice (some ad181) l0_1.length c0_1,.string a0_2] 54 (0,0)) (by (with_reducible repeat (first|refine bN ?_ _|refine bD ?_|refine bA ?_ _));exact BK176.out) hb);have n1_:=aM (lP (by repeat (first|(with_reducible first|exact HB.out|apply lA|apply lN|apply lD|refine lS ?_ GE176.out)|exact HB.out)) hb);have n2_:=aM (hbox);have n3_:=aM ((by rw [hg];exact (lZ (by repeat (first|(with_reducible first|exact HB.out|apply lA|apply lN|apply lD|refine lS ?_ GE176.out)|exact HB.out))) : w.heap.size ≤ gb182));have n4_:=aM ((by rw [hg];exact (lZ (by repeat (first|(with_reducible first|exact HB.out|apply lA|apply lN|apply lD|refine lS ?_ GE176.out)|exact HB.out))) : w.heap.size ≤ gb182));have n5_:=aM ((by rw [hg];exact Nat.ne_of_lt (bL (g:=gb176) (o:=.cells #[.slice A0_0 l0_0.length c0_0,.slice (some ad181) l0_1.length c0_1,.string a0_2] 54 (0,0)) (by (with_reducible repeat (first|refine bN ?_ _|refine bD ?_|refine bA ?_ _));exact BK176.out)) : gb176 ≠ gb182));have n6_:=aM ((by rw [hg];exact Nat.ne_of_gt (bL (g:=gb176) (o:=.cells #[.slice A0_0 l0_0.length c0_0,.slice (some ad181) l0_1.length c0_1,.string a0_2] 54 (0,0)) (by (with_reducible repeat (first|refine bN ?_ _|refine bD ?_|refine bA ?_ _));exact BK176.out)) : gb182 ≠ gb176));clear BK176 HB;have BK176:=n0_;have HB:=n1_;have BK182:=n2_;have GW182:=n3_;have GE182:=n4_;have NB176_182:=n5_;have NB182_176:=n6_;clear n0_ n1_ n2_ n3_ n4_ n5_ n6_ hb hbox hg;have hnb65:=NB182_176.out;have hnc65:=NB176_182.out;have hcz66_0 : w64.cell? ⟨gb182,0,none⟩ = some (.string (⟨#[]⟩ : ByteArray)):=(bC BK182.out 0).trans rfl;have hcz66_1 : w64.cell? ⟨gb182,1,none⟩ = some (.string (⟨#[]⟩ : ByteArray)):=(bC BK182.out 1).trans rfl;have hcz66_2 : w64.cell? ⟨gb182,2,none⟩ = some (.string (⟨#[]⟩ : ByteArray)):=(bC BK182.out 2).trans rfl;have hfz66_0:=bF BK182.out 0;have hfz66_1:=bF BK182.out 1;have hfz66_2:=bF BK182.out 2))
                have n0_ : Aside0 ((((w64.setCell ⟨gb182,0,none⟩ (.string ((rd_T61 l0_1 x45_2).f0))).setCell ⟨gb182,1,none⟩ (.string ((rd_T61 l0_1 x45_2).f1))).setCell ⟨gb182,2,none⟩ (.string ((rd_T61 l0_1 x45_2).f2))).heap[gb176]? = some (.cells #[.slice A0_0 l0_0.length c0_0,.slice (some ad181) l0_1.length c0_1,.string a0_2] 54 (0,0))):=⟨by (with_reducible repeat (first|refine bN ?_ _|refine bD ?_|refine bA ?_ _));refine blk_far ?_ NB176_182.out _;(with_reducible repeat (first|refine bN ?_ _|refine bD ?_|refine bA ?_ _));refine blk_far ?_ NB176_182.out _;(with_reducible repeat (first|refine bN ?_ _|refine bD ?_|refine bA ?_ _));refine blk_far ?_ NB176_182.out _;(with_reducible repeat (first|refine bN ?_ _|refine bD ?_|refine bA ?_ _));exact BK176.out⟩
                have n1_ : Aside0 ((((w64.setCell ⟨gb182,0,none⟩ (.string ((rd_T61 l0_1 x45_2).f0))).setCell ⟨gb182,1,none⟩ (.string ((rd_T61 l0_1 x45_2).f1))).setCell ⟨gb182,2,none⟩ (.string ((rd_T61 l0_1 x45_2).f2))).heap[gb182]? = some (.cells #[.string ((rd_T61 l0_1 x45_2).f0),.string ((rd_T61 l0_1 x45_2).f1),.string ((rd_T61 l0_1 x45_2).f2)] 61 (0,0))):=⟨by (with_reducible repeat (first|refine bN ?_ _|refine bD ?_|refine bA ?_ _));refine blk_put (cs:=#[.string ((rd_T61 l0_1 x45_2).f0),.string ((rd_T61 l0_1 x45_2).f1),.string (⟨#[]⟩ : ByteArray)]) ?_ 2 _ rfl;(with_reducible repeat (first|refine bN ?_ _|refine bD ?_|refine bA ?_ _));refine blk_put (cs:=#[.string ((rd_T61 l0_1 x45_2).f0),.string (⟨#[]⟩ : ByteArray),.string (⟨#[]⟩ : ByteArray)]) ?_ 1 _ rfl;(with_reducible repeat (first|refine bN ?_ _|refine bD ?_|refine bA ?_ _));refine blk_put (cs:=#[.string (⟨#[]⟩ : ByteArray),.string (⟨#[]⟩ : ByteArray),.string (⟨#[]⟩ : ByteArray)]) ?_ 0 _ rfl;(with_reducible repeat (first|refine bN ?_ _|refine bD ?_|refine bA ?_ _));exact BK182.out⟩
                have n2_ : Aside0 (Below w.heap.size w (((w64.setCell ⟨gb182,0,none⟩ (.string ((rd_T61 l0_1 x45_2).f0))).setCell ⟨gb182,1,none⟩ (.string ((rd_T61 l0_1 x45_2).f1))).setCell ⟨gb182,2,none⟩ (.string ((rd_T61 l0_1 x45_2).f2)))):=⟨by repeat (first|(with_reducible first|exact HB.out|apply lA|apply lN|apply lD|refine lS ?_ GE176.out|refine lS ?_ GE182.out)|exact HB.out)⟩
                (try clear BK176)
                (try clear BK182)
                (try clear HB)
                generalize (((w64.setCell ⟨gb182,0,none⟩ (.string ((rd_T61 l0_1 x45_2).f0))).setCell ⟨gb182,1,none⟩ (.string ((rd_T61 l0_1 x45_2).f1))).setCell ⟨gb182,2,none⟩ (.string ((rd_T61 l0_1 x45_2).f2))) = w67 at n0_ n1_ n2_ ⊢
                have BK176:=n0_
                have BK182:=n1_
                have HB:=n2_
                clear n0_ n1_ n2_
                have n0_:=aM (bD BK176.out)
                have n1_:=aM (bD BK182.out)
                have n2_:=aM (lD HB.out)
                clear BK176
                clear BK182
                clear HB
                have BK176:=n0_
                have BK182:=n1_
                have HB:=n2_
                clear n0_ n1_ n2_
                have p184 : 0 ≤ ((ji59) : Int):=of_decide_eq_true (by first|(with_reducible assumption)|assumption)
                have q184 : (ji59) < (l0_1.length : Int):=of_decide_eq_true (by first|(with_reducible assumption)|assumption)
                obtain ⟨ad184,e184,hx184_0,hx184_1,hx184_2⟩:=at_T61 HR0_1.out (ji59) p184 q184
                have hw184_2:=hx184_2
                have hw184_1:=hx184_1
                have hw184_0:=hx184_0
                obtain rfl : ad181 = ad184:=(by injection e184)
                replace hx184_0:=(HB.out.cell (World.block_lt_of_cell? w _ hx184_0)).trans hx184_0
                replace hx184_1:=(HB.out.cell (World.block_lt_of_cell? w _ hx184_1)).trans hx184_1
                replace hx184_2:=(HB.out.cell (World.block_lt_of_cell? w _ hx184_2)).trans hx184_2
                replace p184:=eq_true p184
                replace q184:=eq_true q184
                refine start_ (n:=31) (S:=fun w' => w'.cell? ⟨gb182,0,none⟩ = some (.string ((rd_T61 l0_1 x45_2).f0)) ∧ w'.cell? ⟨gb182,1,none⟩ = some (.string ((rd_T61 l0_1 x45_2).f1)) ∧ w'.cell? ⟨gb182,2,none⟩ = some (.string ((rd_T61 l0_1 x45_2).f2)) ∧ w'.cell? ⟨gb176,0,none⟩ = some (.slice A0_0 l0_0.length c0_0) ∧ w'.cell? ⟨gb176,1,none⟩ = some (.slice (some ad181) l0_1.length c0_1) ∧ w'.cell? ⟨gb176,2,none⟩ = some (.string a0_2) ∧ w'.cell? (ad181.add (((ji59)).toNat * 3)) = some (.string ((rd_T61 l0_1 (ji59)).f0)) ∧ w'.cell? ⟨(ad181.add (((ji59)).toNat * 3)).block,(ad181.add (((ji59)).toNat * 3)).off + 1,none⟩ = some (.string ((rd_T61 l0_1 (ji59)).f1)) ∧ w'.cell? ⟨(ad181.add (((ji59)).toNat * 3)).block,(ad181.add (((ji59)).toNat * 3)).off + 2,none⟩ = some (.string ((rd_T61 l0_1 (ji59)).f2))) (ds:=[]) #[bf,bf,bf,bf,bf,bf,bf,bf,bf,bf,bf,bf,bf,bf,bf,bf,bf,bf,bf,bf,bf,bf,bf,bf,bf,bf,bf,bf,bf,bf,bf] (by kernel_rfl) rfl rfl ⟨(bC BK182.out 0).trans rfl,(bC BK182.out 1).trans rfl,(bC BK182.out 2).trans rfl,(bC BK176.out 0).trans rfl,(bC BK176.out 1).trans rfl,(bC BK176.out 2).trans rfl,((HB.out.cell (World.block_lt_of_cell? w _ hw184_0)).trans hw184_0),((HB.out.cell (World.block_lt_of_cell? w _ hw184_1)).trans hw184_1),((HB.out.cell (World.block_lt_of_cell? w _ hw184_2)).trans hw184_2)⟩ (fun hHeld => ?_);refine with_tabW impl_StoreOk.tab10 impl_StoreOk.bits10 (fun HT_ HW_ => ?_)
                generalize w67.drew = w68 at BK176 BK182 HB hx184_0 hx184_1 hx184_2 hHeld ⊢
                refine pure_ (i:=0) (N:=some 50) (v:=?_) (a':=?_) #[bT,bf,bf,bf,bf,bf,bf,bf,bf,bf,bf,bf,bf,bf,bf,bf,bf,bf,bf,bf,bf,bf,bf,bf,bf,bf,bf,bf,bf,bf,bf] rfl rfl (any_of HT_.out (by kernel_rfl)) (fun _ _ _ h => h) (Or.inl ⟨by rfl,?_⟩) ?_ ?_
                rotate_left
                ·intro w';go_simp;with_reducible rfl
                rotate_left
                ·simp only [Act.put,q_ia5,q_cz5,q_cs5,i64_w,i32_w];rfl
                refine take_ (i:=1) (N:=some 51) (v:=?_) (a':=?_) #[bT,bT,bf,bf,bf,bf,bf,bf,bf,bf,bf,bf,bf,bf,bf,bf,bf,bf,bf,bf,bf,bf,bf,bf,bf,bf,bf,bf,bf,bf,bf] rfl rfl (take_ofW HT_.out HW_.out (by kernel_rfl)) (fun _ _ _ h => h) (Or.inl ⟨by rfl,?_⟩) hHeld ?_ ?_
                rotate_left
                ·rintro w' ⟨s0,s1,s2,s3,s4,s5,s6,s7,s8⟩
                 go_simp
                 with_reducible rfl
                rotate_left
                ·simp only [Act.put,q_ia5,q_cz5,q_cs5,i64_w,i32_w];rfl
                refine one_ (i:=2) (N:=some 52) #[bT,bT,bT,bf,bf,bf,bf,bf,bf,bf,bf,bf,bf,bf,bf,bf,bf,bf,bf,bf,bf,bf,bf,bf,bf,bf,bf,bf,bf,bf,bf] rfl rfl (one_of HT_.out (by kernel_rfl)) (by decide) (fun K hK => ?_)
                refine goes_ Try.func107 (by kernel_rfl) rfl #[.string ((rd_T61 l0_1 x45_2).f0)] (by rfl) rfl rfl (by (try simp only [List.map_toArray,List.map_cons,List.map_nil]);first|done|rfl|(simp only [List.length_drop,List.length_take];rfl)) ?_
                with_reducible refine (impl_isLetters.calls k2 ((rd_T61 l0_1 x45_2).f0) true _ A44.out).mono ?_
                rintro e w' ⟨rfl,⟨nd,rfl⟩⟩
                refine ⟨_,rfl,?_⟩
                refine hK.out _ _ ⟨(bC BK182.out 0).trans rfl,(bC BK182.out 1).trans rfl,(bC BK182.out 2).trans rfl,(bC BK176.out 0).trans rfl,(bC BK176.out 1).trans rfl,(bC BK176.out 2).trans rfl,((HB.out.cell (World.block_lt_of_cell? w _ hw184_0)).trans hw184_0),((HB.out.cell (World.block_lt_of_cell? w _ hw184_1)).trans hw184_1),((HB.out.cell (World.block_lt_of_cell? w _ hw184_2)).trans hw184_2)⟩ (fun hHeld => ?_)
                clear hK K
                refine norm_ (a':=?_) ?_ ?_
                rotate_left
                ·show Act.put _ (some 52) _ = _
                 simp only [Act.put,q_ia5,q_cz5,q_cs5,i64_w,i32_w]
                 rfl
                refine pure_ (i:=3) (N:=some 53) (v:=?_) (a':=?_) #[bT,bT,bT,bT,bf,bf,bf,bf,bf,bf,bf,bf,bf,bf,bf,bf,bf,bf,bf,bf,bf,bf,bf,bf,bf,bf,bf,bf,bf,bf,bf] rfl rfl (any_of HT_.out (by kernel_rfl)) (fun _ _ _ h => h) (Or.inl ⟨by rfl,?_⟩) ?_ ?_
                rotate_left
                ·intro w';go_simp;with_reducible rfl
                rotate_left
                ·simp only [Act.put,q_ia5,q_cz5,q_cs5,i64_w,i32_w];rfl
                refine pure_ (i:=4) (N:=some 54) (v:=?_) (a':=?_) #[bT,bT,bT,bT,bT,bf,bf,bf,bf,bf,bf,bf,bf,bf,bf,bf,bf,bf,bf,bf,bf,bf,bf,bf,bf,bf,bf,bf,bf,bf,bf] rfl rfl (any_of HT_.out (by kernel_rfl)) (fun _ _ _ h => h) (Or.inl ⟨by rfl,?_⟩) ?_ ?_
                rotate_left
                ·intro w';go_simp;with_reducible rfl
                rotate_left
                ·simp only [Act.put,q_ia5,q_cz5,q_cs5,i64_w,i32_w];rfl
                refine pure_ (i:=5) (N:=some 55) (v:=?_) (a':=?_) #[bT,bT,bT,bT,bT,bT,bf,bf,bf,bf,bf,bf,bf,bf,bf,bf,bf,bf,bf,bf,bf,bf,bf,bf,bf,bf,bf,bf,bf,bf,bf] rfl rfl (any_of HT_.out (by kernel_rfl)) (fun _ _ _ h => h) (Or.inl ⟨by rfl,?_⟩) ?_ ?_
                rotate_left
                ·intro w';go_simp;with_reducible rfl
                rotate_left
                ·simp only [Act.put,q_ia5,q_cz5,q_cs5,i64_w,i32_w];rfl
                refine take_ (i:=6) (N:=some 56) (v:=?_) (a':=?_) #[bT,bT,bT,bT,bT,bT,bT,bf,bf,bf,bf,bf,bf,bf,bf,bf,bf,bf,bf,bf,bf,bf,bf,bf,bf,bf,bf,bf,bf,bf,bf] rfl rfl (take_ofW HT_.out HW_.out (by kernel_rfl)) (fun _ _ _ h => h) (Or.inl ⟨by rfl,?_⟩) hHeld ?_ ?_
                rotate_left
                ·rintro w' ⟨s0,s1,s2,s3,s4,s5,s6,s7,s8⟩
                 go_simp
                 with_reducible rfl
                rotate_left
                ·simp only [Act.put,q_ia5,q_cz5,q_cs5,i64_w,i32_w];rfl
                refine pure_ (i:=7) (N:=some 57) (v:=?_) (a':=?_) #[bT,bT,bT,bT,bT,bT,bT,bT,bf,bf,bf,bf,bf,bf,bf,bf,bf,bf,bf,bf,bf,bf,bf,bf,bf,bf,bf,bf,bf,bf,bf] rfl rfl (any_of HT_.out (by kernel_rfl)) (fun _ _ _ h => h) (Or.inl ⟨by rfl,?_⟩) ?_ ?_
                rotate_left
                ·intro w';go_simp;with_reducible rfl
                rotate_left
                ·simp only [Act.put,q_ia5,q_cz5,q_cs5,i64_w,i32_w];rfl
                refine pure_ (i:=8) (N:=some 58) (v:=?_) (a':=?_) #[bT,bT,bT,bT,bT,bT,bT,bT,bT,bf,bf,bf,bf,bf,bf,bf,bf,bf,bf,bf,bf,bf,bf,bf,bf,bf,bf,bf,bf,bf,bf] rfl rfl (any_of HT_.out (by kernel_rfl)) (fun _ _ _ h => h) (Or.inl ⟨by rfl,?_⟩) ?_ ?_
                rotate_left
                ·intro w';go_simp;with_reducible rfl
                rotate_left
                ·simp only [Act.put,q_ia5,q_cz5,q_cs5,i64_w,i32_w];rfl
                refine pure_ (i:=9) (N:=some 59) (v:=?_) (a':=?_) #[bT,bT,bT,bT,bT,bT,bT,bT,bT,bT,bf,bf,bf,bf,bf,bf,bf,bf,bf,bf,bf,bf,bf,bf,bf,bf,bf,bf,bf,bf,bf] rfl rfl (any_of HT_.out (by kernel_rfl)) (fun _ _ _ h => h) (Or.inl ⟨by rfl,?_⟩) ?_ ?_
                rotate_left
                ·intro w';go_simp;with_reducible rfl
                rotate_left
                ·simp only [Act.put,q_ia5,q_cz5,q_cs5,i64_w,i32_w];rfl
                refine pure_ (i:=10) (N:=some 60) (v:=?_) (a':=?_) #[bT,bT,bT,bT,bT,bT,bT,bT,bT,bT,bT,bf,bf,bf,bf,bf,bf,bf,bf,bf,bf,bf,bf,bf,bf,bf,bf,bf,bf,bf,bf] rfl rfl (any_of HT_.out (by kernel_rfl)) (fun _ _ _ h => h) (Or.inl ⟨by rfl,?_⟩) ?_ ?_
                rotate_left
                ·intro w';go_simp;with_reducible rfl
                rotate_left
                ·simp only [Act.put,q_ia5,q_cz5,q_cs5,i64_w,i32_w];rfl
                refine pure_ (i:=11) (N:=some 61) (v:=?_) (a':=?_) #[bT,bT,bT,bT,bT,bT,bT,bT,bT,bT,bT,bT,bf,bf,bf,bf,bf,bf,bf,bf,bf,bf,bf,bf,bf,bf,bf,bf,bf,bf,bf] rfl rfl (any_of HT_.out (by kernel_rfl)) (fun _ _ _ h => h) (Or.inl ⟨by rfl,?_⟩) ?_ ?_
                rotate_left
                ·intro w';go_simp;with_reducible rfl
                rotate_left
                ·simp only [Act.put,q_ia5,q_cz5,q_cs5,i64_w,i32_w];rfl
                refine take_ (i:=12) (N:=some 62) (v:=?_) (a':=?_) #[bT,bT,bT,bT,bT,bT,bT,bT,bT,bT,bT,bT,bT,bf,bf,bf,bf,bf,bf,bf,bf,bf,bf,bf,bf,bf,bf,bf,bf,bf,bf] rfl rfl (take_ofW HT_.out HW_.out (by kernel_rfl)) (fun _ _ _ h => h) (Or.inl ⟨by rfl,?_⟩) hHeld ?_ ?_
                rotate_left
                ·rintro w' ⟨s0,s1,s2,s3,s4,s5,s6,s7,s8⟩
                 go_simp
                 with_reducible rfl
                rotate_left
                ·simp only [Act.put,q_ia5,q_cz5,q_cs5,i64_w,i32_w];rfl
                refine pure_ (i:=13) (N:=some 63) (v:=?_) (a':=?_) #[bT,bT,bT,bT,bT,bT,bT,bT,bT,bT,bT,bT,bT,bT,bf,bf,bf,bf,bf,bf,bf,bf,bf,bf,bf,bf,bf,bf,bf,bf,bf] rfl rfl (any_of HT_.out (by kernel_rfl)) (fun _ _ _ h => h) (Or.inl ⟨by rfl,?_⟩) ?_ ?_
                rotate_left
                ·intro w';go_simp;with_reducible rfl
                rotate_left
                ·simp only [Act.put,q_ia5,q_cz5,q_cs5,i64_w,i32_w];rfl
                refine pure_ (i:=14) (N:=some 64) (v:=?_) (a':=?_) #[bT,bT,bT,bT,bT,bT,bT,bT,bT,bT,bT,bT,bT,bT,bT,bf,bf,bf,bf,bf,bf,bf,bf,bf,bf,bf,bf,bf,bf,bf,bf] rfl rfl (any_of HT_.out (by kernel_rfl)) (fun _ _ _ h => h) (Or.inl ⟨by rfl,?_⟩) ?_ ?_
                rotate_left
                ·intro w';go_simp;with_reducible rfl
                rotate_left
                ·simp only [Act.put,q_ia5,q_cz5,q_cs5,i64_w,i32_w];rfl
                refine pure_ (i:=15) (N:=some 65) (v:=?_) (a':=?_) #[bT,bT,bT,bT,bT,bT,bT,bT,bT,bT,bT,bT,bT,bT,bT,bT,bf,bf,bf,bf,bf,bf,bf,bf,bf,bf,bf,bf,bf,bf,bf] rfl rfl (any_of HT_.out (by kernel_rfl)) (fun _ _ _ h => h) (Or.inl ⟨by rfl,?_⟩) ?_ ?_
                rotate_left
                ·intro w';go_simp;with_reducible rfl
                rotate_left
                ·simp only [Act.put,q_ia5,q_cz5,q_cs5,i64_w,i32_w];rfl
                refine pure_ (i:=16) (N:=some 66) (v:=?_) (a':=?_) #[bT,bT,bT,bT,bT,bT,bT,bT,bT,bT,bT,bT,bT,bT,bT,bT,bT,bf,bf,bf,bf,bf,bf,bf,bf,bf,bf,bf,bf,bf,bf] rfl rfl (any_of HT_.out (by kernel_rfl)) (fun _ _ _ h => h) (Or.inl ⟨by rfl,?_⟩) ?_ ?_
                rotate_left
                ·intro w';go_simp;with_reducible rfl
                rotate_left
                ·simp only [Act.put,q_ia5,q_cz5,q_cs5,i64_w,i32_w];rfl
                refine pure_ (i:=17) (N:=some 67) (v:=?_) (a':=?_) #[bT,bT,bT,bT,bT,bT,bT,bT,bT,bT,bT,bT,bT,bT,bT,bT,bT,bT,bf,bf,bf,bf,bf,bf,bf,bf,bf,bf,bf,bf,bf] rfl rfl (any_of HT_.out (by kernel_rfl)) (fun _ _ _ h => h) (Or.inl ⟨by rfl,?_⟩) ?_ ?_
                rotate_left
                ·intro w';go_simp;with_reducible rfl
                rotate_left
                ·simp only [Act.put,q_ia5,q_cz5,q_cs5,i64_w,i32_w];rfl
                refine pure_ (i:=18) (N:=some 68) (v:=?_) (a':=?_) #[bT,bT,bT,bT,bT,bT,bT,bT,bT,bT,bT,bT,bT,bT,bT,bT,bT,bT,bT,bf,bf,bf,bf,bf,bf,bf,bf,bf,bf,bf,bf] rfl rfl (any_of HT_.out (by kernel_rfl)) (fun _ _ _ h => h) (Or.inl ⟨by rfl,?_⟩) ?_ ?_
                rotate_left
                ·intro w';go_simp;with_reducible rfl
                rotate_left
                ·simp only [Act.put,q_ia5,q_cz5,q_cs5,i64_w,i32_w];rfl
                refine pure_ (i:=19) (N:=some 69) (v:=?_) (a':=?_) #[bT,bT,bT,bT,bT,bT,bT,bT,bT,bT,bT,bT,bT,bT,bT,bT,bT,bT,bT,bT,bf,bf,bf,bf,bf,bf,bf,bf,bf,bf,bf] rfl rfl (any_of HT_.out (by kernel_rfl)) (fun _ _ _ h => h) (Or.inl ⟨by rfl,?_⟩) ?_ ?_
                rotate_left
                ·intro w';go_simp;with_reducible rfl
                rotate_left
                ·simp only [Act.put,q_ia5,q_cz5,q_cs5,i64_w,i32_w];rfl
                refine pure_ (i:=20) (N:=some 70) (v:=?_) (a':=?_) #[bT,bT,bT,bT,bT,bT,bT,bT,bT,bT,bT,bT,bT,bT,bT,bT,bT,bT,bT,bT,bT,bf,bf,bf,bf,bf,bf,bf,bf,bf,bf] rfl rfl (any_of HT_.out (by kernel_rfl)) (fun _ _ _ h => h) (Or.inl ⟨by rfl,?_⟩) ?_ ?_
                rotate_left
                ·intro w';go_simp;with_reducible rfl
                rotate_left
                ·simp only [Act.put,q_ia5,q_cz5,q_cs5,i64_w,i32_w];rfl
                refine pure_ (i:=22) (N:=some 72) (v:=?_) (a':=?_) #[bT,bT,bT,bT,bT,bT,bT,bT,bT,bT,bT,bT,bT,bT,bT,bT,bT,bT,bT,bT,bT,bf,bT,bf,bf,bf,bf,bf,bf,bf,bf] rfl rfl (any_of HT_.out (by kernel_rfl)) (fun _ _ _ h => h) (Or.inl ⟨by rfl,?_⟩) ?_ ?_
                rotate_left
                ·intro w';go_simp;with_reducible rfl
                rotate_left
                ·simp only [Act.put,q_ia5,q_cz5,q_cs5,i64_w,i32_w];rfl
                refine pure_ (i:=23) (N:=some 73) (v:=?_) (a':=?_) #[bT,bT,bT,bT,bT,bT,bT,bT,bT,bT,bT,bT,bT,bT,bT,bT,bT,bT,bT,bT,bT,bf,bT,bT,bf,bf,bf,bf,bf,bf,bf] rfl rfl (any_of HT_.out (by kernel_rfl)) (fun _ _ _ h => h) (Or.inl ⟨by rfl,?_⟩) ?_ ?_
                rotate_left
                ·intro w';go_simp;with_reducible rfl
                rotate_left
                ·simp only [Act.put,q_ia5,q_cz5,q_cs5,i64_w,i32_w];rfl
                refine take_ (i:=21) (N:=some 71) (v:=?_) (a':=?_) #[bT,bT,bT,bT,bT,bT,bT,bT,bT,bT,bT,bT,bT,bT,bT,bT,bT,bT,bT,bT,bT,bT,bT,bT,bf,bf,bf,bf,bf,bf,bf] rfl rfl (take_ofW HT_.out HW_.out (by kernel_rfl)) (fun _ _ _ h => h) (Or.inl ⟨by rfl,?_⟩) hHeld ?_ ?_
                rotate_left
                ·rintro w' ⟨s0,s1,s2,s3,s4,s5,s6,s7,s8⟩
                 go_simp
                 with_reducible rfl
                rotate_left
                ·simp only [Act.put,q_ia5,q_cz5,q_cs5,i64_w,i32_w];rfl
                refine pure_ (i:=24) (N:=some 74) (v:=?_) (a':=?_) #[bT,bT,bT,bT,bT,bT,bT,bT,bT,bT,bT,bT,bT,bT,bT,bT,bT,bT,bT,bT,bT,bT,bT,bT,bT,bf,bf,bf,bf,bf,bf] rfl rfl (any_of HT_.out (by kernel_rfl)) (fun _ _ _ h => h) (Or.inl ⟨by rfl,?_⟩) ?_ ?_
                rotate_left
                ·intro w';go_simp;with_reducible rfl
                rotate_left
                ·simp only [Act.put,q_ia5,q_cz5,q_cs5,i64_w,i32_w];rfl
                refine take_ (i:=25) (N:=some 75) (v:=?_) (a':=?_) #[bT,bT,bT,bT,bT,bT,bT,bT,bT,bT,bT,bT,bT,bT,bT,bT,bT,bT,bT,bT,bT,bT,bT,bT,bT,bT,bf,bf,bf,bf,bf] rfl rfl (take_ofW HT_.out HW_.out (by kernel_rfl)) (fun _ _ _ h => h) (Or.inl ⟨by rfl,?_⟩) hHeld ?_ ?_
                rotate_left
                ·rintro w' ⟨s0,s1,s2,s3,s4,s5,s6,s7,s8⟩
                 go_simp
                 with_reducible rfl
                rotate_left
                ·simp only [Act.put,q_ia5,q_cz5,q_cs5,i64_w,i32_w];rfl
                refine take_ (i:=26) (N:=some 76) (v:=?_) (a':=?_) #[bT,bT,bT,bT,bT,bT,bT,bT,bT,bT,bT,bT,bT,bT,bT,bT,bT,bT,bT,bT,bT,bT,bT,bT,bT,bT,bT,bf,bf,bf,bf] rfl rfl (take_ofW HT_.out HW_.out (by kernel_rfl)) (fun _ _ _ h => h) (Or.inl ⟨by rfl,?_⟩) hHeld ?_ ?_
                rotate_left
                ·rintro w' ⟨s0,s1,s2,s3,s4,s5,s6,s7,s8⟩
                 go_simp
                 with_reducible rfl
                rotate_left
                ·simp only [Act.put,q_ia5,q_cz5,q_cs5,i64_w,i32_w];rfl
                refine one_ (i:=27) (N:=some 77) #[bT,bT,bT,bT,bT,bT,bT,bT,bT,bT,bT,bT,bT,bT,bT,bT,bT,bT,bT,bT,bT,bT,bT,bT,bT,bT,bT,bT,bf,bf,bf] rfl rfl (one_of HT_.out (by kernel_rfl)) (by decide) (fun K hK => ?_)
                refine goes_ Try.func108 (by kernel_rfl) rfl #[.agg #[.string ((rd_T61 l0_1 (ji59)).f0),.string ((rd_T61 l0_1 (ji59)).f1),.string ((rd_T61 l0_1 (ji59)).f2)],.agg #[.string ((rd_T61 l0_1 x45_2).f0),.string ((rd_T61 l0_1 x45_2).f1),.string ((rd_T61 l0_1 x45_2).f2)]] (by rfl) rfl rfl (by (try simp only [List.map_toArray,List.map_cons,List.map_nil]);first|done|(simp only [hji59];rfl)|rfl|(simp only [List.length_drop,List.length_take];rfl)) ?_
                with_reducible refine (impl_byKey.calls ((rd_T61 l0_1 (ji59)).f0) ((rd_T61 l0_1 (ji59)).f1) ((rd_T61 l0_1 (ji59)).f2) ((rd_T61 l0_1 x45_2).f0) ((rd_T61 l0_1 x45_2).f1) ((rd_T61 l0_1 x45_2).f2) t185 _ A62.out).mono ?_
                rintro e w69 ⟨rfl,hb⟩
                refine ⟨_,rfl,?_⟩
                have n0_:=aM (bB (g:=gb176) (o:=.cells #[.slice A0_0 l0_0.length c0_0,.slice (some ad181) l0_1.length c0_1,.string a0_2] 54 (0,0)) (by (with_reducible repeat (first|refine bN ?_ _|refine bD ?_|refine bA ?_ _));exact BK176.out) hb)
                have n1_:=aM (bB (g:=gb182) (o:=.cells #[.string ((rd_T61 l0_1 x45_2).f0),.string ((rd_T61 l0_1 x45_2).f1),.string ((rd_T61 l0_1 x45_2).f2)] 61 (0,0)) (by (with_reducible repeat (first|refine bN ?_ _|refine bD ?_|refine bA ?_ _));exact BK182.out) hb)
                have n2_:=aM (lP (by repeat (first|(with_reducible first|exact HB.out|apply lA|apply lN|apply lD|refine lS ?_ GE176.out|refine lS ?_ GE182.out)|exact HB.out)) hb)
                clear BK176
                clear BK182
                clear HB
                have BK176:=n0_
                have BK182:=n1_
                have HB:=n2_
                clear n0_ n1_ n2_
                (try clear hb)
                (try clear hb2)
                (try clear hk)
                (try clear hi)
                refine hK.out _ _ ⟨(bC BK182.out 0).trans rfl,(bC BK182.out 1).trans rfl,(bC BK182.out 2).trans rfl,(bC BK176.out 0).trans rfl,(bC BK176.out 1).trans rfl,(bC BK176.out 2).trans rfl,((HB.out.cell (World.block_lt_of_cell? w _ hw184_0)).trans hw184_0),((HB.out.cell (World.block_lt_of_cell? w _ hw184_1)).trans hw184_1),((HB.out.cell (World.block_lt_of_cell? w _ hw184_2)).trans hw184_2)⟩ (fun hHeld => ?_)
                clear hK K
                refine norm_ (a':=?_) ?_ ?_
                rotate_left
                ·show Act.put _ (some 77) _ = _
                 simp only [Act.put,q_ia5,q_cz5,q_cs5,i64_w,i32_w]
                 rfl
                refine pure_ (i:=28) (N:=some 78) (v:=?_) (a':=?_) #[bT,bT,bT,bT,bT,bT,bT,bT,bT,bT,bT,bT,bT,bT,bT,bT,bT,bT,bT,bT,bT,bT,bT,bT,bT,bT,bT,bT,bT,bf,bf] rfl rfl (any_of HT_.out (by kernel_rfl)) (fun _ _ _ h => h) (Or.inl ⟨by rfl,?_⟩) ?_ ?_
                rotate_left
                ·intro w';go_simp;with_reducible rfl
                rotate_left
                ·simp only [Act.put,q_ia5,q_cz5,q_cs5,i64_w,i32_w];rfl
                refine pure_ (i:=29) (N:=some 79) (v:=?_) (a':=?_) #[bT,bT,bT,bT,bT,bT,bT,bT,bT,bT,bT,bT,bT,bT,bT,bT,bT,bT,bT,bT,bT,bT,bT,bT,bT,bT,bT,bT,bT,bT,bf] rfl rfl (any_of HT_.out (by kernel_rfl)) (fun _ _ _ h => h) (Or.inl ⟨by rfl,?_⟩) ?_ ?_
                rotate_left
                ·intro w';go_simp;with_reducible rfl
                rotate_left
                ·simp only [Act.put,q_ia5,q_cz5,q_cs5,i64_w,i32_w];rfl
                refine pure_ (i:=30) (N:=some 80) (v:=?_) (a':=?_) #[bT,bT,bT,bT,bT,bT,bT,bT,bT,bT,bT,bT,bT,bT,bT,bT,bT,bT,bT,bT,bT,bT,bT,bT,bT,bT,bT,bT,bT,bT,bT] rfl rfl (any_of HT_.out (by kernel_rfl)) (fun _ _ _ h => h) (Or.inl ⟨by rfl,?_⟩) ?_ ?_
                rotate_left
                ·intro w';go_simp;with_reducible rfl
                rotate_left
                ·simp only [Act.put,q_ia5,q_cz5,q_cs5,i64_w,i32_w];rfl
                refine done_ (done_of HT_.out (by kernel_rfl)) ?_
                try go_wp2
                go_ret
                exact ⟨by first|rfl|(simp [errW_none,errW_some] <;> rfl)|(simp only [← hji59];first|rfl|(simp [errW_none,errW_some] <;> rfl))|(simp [*,errW_none,errW_some] <;> rfl),by repeat (first|(with_reducible first|exact HB.out|apply lA|apply lN|apply lD|refine lS ?_ GE176.out|refine lS ?_ GE182.out)|exact HB.out)⟩
               ·rw [if_neg c63] at H
                have c63b0 : decide (0 ≤ t185) = false:=decide_eq_false c63
                clear c63
                have H':=aM H
                clear H
                have p181 : 0 ≤ (x45_2 : Int):=of_decide_eq_true (by first|(with_reducible assumption)|assumption)
                have q181 : x45_2 < (l0_1.length : Int):=of_decide_eq_true (by first|(with_reducible assumption)|assumption)
                obtain ⟨ad181,e181,hx181_0,hx181_1,hx181_2⟩:=at_T61 HR0_1.out x45_2 p181 q181
                cases e181
                replace hx181_0:=(HB.out.cell (World.block_lt_of_cell? w _ hx181_0)).trans hx181_0
                replace hx181_1:=(HB.out.cell (World.block_lt_of_cell? w _ hx181_1)).trans hx181_1
                replace hx181_2:=(HB.out.cell (World.block_lt_of_cell? w _ hx181_2)).trans hx181_2
                replace p181:=eq_true p181
                replace q181:=eq_true q181
                try go_wp2_with (first|((with_reducible refine gate_dst (N:=6) rfl ?_);(try (refine gate_guard (by rfl) ?_;dsimp only));refine box_event ?hg (N:=6) ?hd (cs:=#[.string (⟨#[]⟩ : ByteArray),.string (⟨#[]⟩ : ByteArray),.string (⟨#[]⟩ : ByteArray)]) (t:=61) ?hr ?_;(case hd => rfl);(case hg => rfl);(case hr => first|(go_simp;done)|(go_simp;rfl));intro gb182 hg w70 hbox hb;have n0_:=aM (bB (g:=gb176) (o:=.cells #[.slice A0_0 l0_0.length c0_0,.slice (some ad181) l0_1.length c0_1,.string a0_2] 54 (0,0)) (by (with_reducible repeat (first|refine bN ?_ _|refine bD ?_|refine bA ?_ _));exact BK176.out) hb);have n1_:=aM (lP (by repeat (first|(with_reducible first|exact HB.out|apply lA|apply lN|apply lD|refine lS ?_ GE176.out)|exact HB.out)) hb);have n2_:=aM (hbox);have n3_:=aM ((by rw [hg];exact (lZ (by repeat (first|(with_reducible first|exact HB.out|apply lA|apply lN|apply lD|refine lS ?_ GE176.out)|exact HB.out))) : w.heap.size ≤ gb182));have n4_:=aM ((by rw [hg];exact (lZ (by repeat (first|(with_reducible first|exact HB.out|apply lA|apply lN|apply lD|refine lS ?_ GE176.out)|exact HB.out))) : w.heap.size ≤ gb182));have n5_:=aM ((by rw [hg];exact Nat.ne_of_lt (bL (g:=gb176) (o:=.cells #[.slice A0_0 l0_0.length c0_0,.slice (some ad181) l0_1.length c0_1,.string a0_2] 54 (0,0)) (by (with_reducible repeat (first|refine bN ?_ _|refine bD ?_|refine bA ?_ _));exact BK176.out)) : gb176 ≠ gb182));have n6_:=aM ((by rw [hg];exact Nat.ne_of_gt (bL (g:=gb176) (o:=.cells #[.slice A0_0 l0_0.length c0_0,.slice (some ad181) l0_1.length c0_1,.string a0_2] 54 (0,0)) (by (with_reducible repeat (first|refine bN ?_ _|refine bD ?_|refine bA ?_ _));exact BK176.out)) : gb182 ≠ gb176));clear BK176 HB;have BK176:=n0_;have HB:=n1_;have BK182:=n2_;have GW182:=n3_;have GE182:=n4_;have NB176_182:=n5_;have NB182_176:=n6_;clear n0_ n1_ n2_ n3_ n4_ n5_ n6_ hb hbox hg;have hnb71:=NB182_176.out;have hnc71:=NB176_182.out;have hcz72_0 : w70.cell? ⟨gb182,0,none⟩ = some (.string (⟨#[]⟩ : ByteArray)):=(bC BK182.out 0).trans rfl;have hcz72_1 : w70.cell? ⟨gb182,1,none⟩ = some (.string (⟨#[]⟩ : ByteArray)):=(bC BK182.out 1).trans rfl;have hcz72_2 : w70.cell? ⟨gb182,2,none⟩ = some (.string (⟨#[]⟩ : ByteArray)):=(bC BK182.out 2).trans rfl;have hfz72_0:=bF BK182.out 0;have hfz72_1:=bF BK182.out 1;have hfz72_2:=bF BK182.out 2))
                have n0_ : Aside0 ((((w70.setCell ⟨gb182,0,none⟩ (.string ((rd_T61 l0_1 x45_2).f0))).setCell ⟨gb182,1,none⟩ (.string ((rd_T61 l0_1 x45_2).f1))).setCell ⟨gb182,2,none⟩ (.string ((rd_T61 l0_1 x45_2).f2))).heap[gb176]? = some (.cells #[.slice A0_0 l0_0.length c0_0,.slice (some ad181) l0_1.length c0_1,.string a0_2] 54 (0,0))):=⟨by (with_reducible repeat (first|refine bN ?_ _|refine bD ?_|refine bA ?_ _));refine blk_far ?_ NB176_182.out _;(with_reducible repeat (first|refine bN ?_ _|refine bD ?_|refine bA ?_ _));refine blk_far ?_ NB176_182.out _;(with_reducible repeat (first|refine bN ?_ _|refine bD ?_|refine bA ?_ _));refine blk_far ?_ NB176_182.out _;(with_reducible repeat (first|refine bN ?_ _|refine bD ?_|refine bA ?_ _));exact BK176.out⟩
                have n1_ : Aside0 ((((w70.setCell ⟨gb182,0,none⟩ (.string ((rd_T61 l0_1 x45_2).f0))).setCell ⟨gb182,1,none⟩ (.string ((rd_T61 l0_1 x45_2).f1))).setCell ⟨gb182,2,none⟩ (.string ((rd_T61 l0_1 x45_2).f2))).heap[gb182]? = some (.cells #[.string ((rd_T61 l0_1 x45_2).f0),.string ((rd_T61 l0_1 x45_2).f1),.string ((rd_T61 l0_1 x45_2).f2)] 61 (0,0))):=⟨by (with_reducible repeat (first|refine bN ?_ _|refine bD ?_|refine bA ?_ _));refine blk_put (cs:=#[.string ((rd_T61 l0_1 x45_2).f0),.string ((rd_T61 l0_1 x45_2).f1),.string (⟨#[]⟩ : ByteArray)]) ?_ 2 _ rfl;(with_reducible repeat (first|refine bN ?_ _|refine bD ?_|refine bA ?_ _));refine blk_put (cs:=#[.string ((rd_T61 l0_1 x45_2).f0),.string (⟨#[]⟩ : ByteArray),.string (⟨#[]⟩ : ByteArray)]) ?_ 1 _ rfl;(with_reducible repeat (first|refine bN ?_ _|refine bD ?_|refine bA ?_ _));refine blk_put (cs:=#[.string (⟨#[]⟩ : ByteArray),.string (⟨#[]⟩ : ByteArray),.string (⟨#[]⟩ : ByteArray)]) ?_ 0 _ rfl;(with_reducible repeat (first|refine bN ?_ _|refine bD ?_|refine bA ?_ _));exact BK182.out⟩
                have n2_ : Aside0 (Below w.heap.size w (((w70.setCell ⟨gb182,0,none⟩ (.string ((rd_T61 l0_1 x45_2).f0))).setCell ⟨gb182,1,none⟩ (.string ((rd_T61 l0_1 x45_2).f1))).setCell ⟨gb182,2,none⟩ (.string ((rd_T61 l0_1 x45_2).f2)))):=⟨by repeat (first|(with_reducible first|exact HB.out|apply lA|apply lN|apply lD|refine lS ?_ GE176.out|refine lS ?_ GE182.out)|exact HB.out)⟩
                (try clear BK176)
                (try clear BK182)
                (try clear HB)
                generalize (((w70.setCell ⟨gb182,0,none⟩ (.string ((rd_T61 l0_1 x45_2).f0))).setCell ⟨gb182,1,none⟩ (.string ((rd_T61 l0_1 x45_2).f1))).setCell ⟨gb182,2,none⟩ (.string ((rd_T61 l0_1 x45_2).f2))) = w73 at n0_ n1_ n2_ ⊢
                have BK176:=n0_
                have BK182:=n1_
                have HB:=n2_
                clear n0_ n1_ n2_
                have n0_:=aM (bD BK176.out)
                have n1_:=aM (bD BK182.out)
                have n2_:=aM (lD HB.out)
                clear BK176
                clear BK182
                clear HB
                have BK176:=n0_
                have BK182:=n1_
                have HB:=n2_
                clear n0_ n1_ n2_
                have p184 : 0 ≤ ((ji59) : Int):=of_decide_eq_true (by first|(with_reducible assumption)|assumption)
                have q184 : (ji59) < (l0_1.length : Int):=of_decide_eq_true (by first|(with_reducible assumption)|assumption)
                obtain ⟨ad184,e184,hx184_0,hx184_1,hx184_2⟩:=at_T61 HR0_1.out (ji59) p184 q184
                have hw184_2:=hx184_2
                have hw184_1:=hx184_1
                have hw184_0:=hx184_0
                obtain rfl : ad181 = ad184:=(by injection e184)
                replace hx184_0:=(HB.out.cell (World.block_lt_of_cell? w _ hx184_0)).trans hx184_0
                replace hx184_1:=(HB.out.cell (World.block_lt_of_cell? w _ hx184_1)).trans hx184_1
                replace hx184_2:=(HB.out.cell (World.block_lt_of_cell? w _ hx184_2)).trans hx184_2
                replace p184:=eq_true p184
                replace q184:=eq_true q184
                refine start_ (n:=31) (S:=fun w' => w'.cell? ⟨gb182,0,none⟩ = some (.string ((rd_T61 l0_1 x45_2).f0)) ∧ w'.cell? ⟨gb182,1,none⟩ = some (.string ((rd_T61 l0_1 x45_2).f1)) ∧ w'.cell? ⟨gb182,2,none⟩ = some (.string ((rd_T61 l0_1 x45_2).f2)) ∧ w'.cell? ⟨gb176,0,none⟩ = some (.slice A0_0 l0_0.length c0_0) ∧ w'.cell? ⟨gb176,1,none⟩ = some (.slice (some ad181) l0_1.length c0_1) ∧ w'.cell? ⟨gb176,2,none⟩ = some (.string a0_2) ∧ w'.cell? (ad181.add (((ji59)).toNat * 3)) = some (.string ((rd_T61 l0_1 (ji59)).f0)) ∧ w'.cell? ⟨(ad181.add (((ji59)).toNat * 3)).block,(ad181.add (((ji59)).toNat * 3)).off + 1,none⟩ = some (.string ((rd_T61 l0_1 (ji59)).f1)) ∧ w'.cell? ⟨(ad181.add (((ji59)).toNat * 3)).block,(ad181.add (((ji59)).toNat * 3)).off + 2,none⟩ = some (.string ((rd_T61 l0_1 (ji59)).f2))) (ds:=[]) #[bf,bf,bf,bf,bf,bf,bf,bf,bf,bf,bf,bf,bf,bf,bf,bf,bf,bf,bf,bf,bf,bf,bf,bf,bf,bf,bf,bf,bf,bf,bf] (by kernel_rfl) rfl rfl ⟨(bC BK182.out 0).trans rfl,(bC BK182.out 1).trans rfl,(bC BK182.out 2).trans rfl,(bC BK176.out 0).trans rfl,(bC BK176.out 1).trans rfl,(bC BK176.out 2).trans rfl,((HB.out.cell (World.block_lt_of_cell? w _ hw184_0)).trans hw184_0),((HB.out.cell (World.block_lt_of_cell? w _ hw184_1)).trans hw184_1),((HB.out.cell (World.block_lt_of_cell? w _ hw184_2)).trans hw184_2)⟩ (fun hHeld => ?_);refine with_tabW impl_StoreOk.tab10 impl_StoreOk.bits10 (fun HT_ HW_ => ?_)
                generalize w73.drew = w74 at BK176 BK182 HB hx184_0 hx184_1 hx184_2 hHeld ⊢
                refine pure_ (i:=0) (N:=some 50) (v:=?_) (a':=?_) #[bT,bf,bf,bf,bf,bf,bf,bf,bf,bf,bf,bf,bf,bf,bf,bf,bf,bf,bf,bf,bf,bf,bf,bf,bf,bf,bf,bf,bf,bf,bf] rfl rfl (any_of HT_.out (by kernel_rfl)) (fun _ _ _ h => h) (Or.inl ⟨by rfl,?_⟩) ?_ ?_
                rotate_left
                ·intro w';go_simp;with_reducible rfl
                rotate_left
                ·simp only [Act.put,q_ia5,q_cz5,q_cs5,i64_w,i32_w];rfl
                refine take_ (i:=1) (N:=some 51) (v:=?_) (a':=?_) #[bT,bT,bf,bf,bf,bf,bf,bf,bf,bf,bf,bf,bf,bf,bf,bf,bf,bf,bf,bf,bf,bf,bf,bf,bf,bf,bf,bf,bf,bf,bf] rfl rfl (take_ofW HT_.out HW_.out (by kernel_rfl)) (fun _ _ _ h => h) (Or.inl ⟨by rfl,?_⟩) hHeld ?_ ?_
                rotate_left
                ·rintro w' ⟨s0,s1,s2,s3,s4,s5,s6,s7,s8⟩
                 go_simp
                 with_reducible rfl
                rotate_left
                ·simp only [Act.put,q_ia5,q_cz5,q_cs5,i64_w,i32_w];rfl
                refine one_ (i:=2) (N:=some 52) #[bT,bT,bT,bf,bf,bf,bf,bf,bf,bf,bf,bf,bf,bf,bf,bf,bf,bf,bf,bf,bf,bf,bf,bf,bf,bf,bf,bf,bf,bf,bf] rfl rfl (one_of HT_.out (by kernel_rfl)) (by decide) (fun K hK => ?_)
                refine goes_ Try.func107 (by kernel_rfl) rfl #[.string ((rd_T61 l0_1 x45_2).f0)] (by rfl) rfl rfl (by (try simp only [List.map_toArray,List.map_cons,List.map_nil]);first|done|rfl|(simp only [List.length_drop,List.length_take];rfl)) ?_
                with_reducible refine (impl_isLetters.calls k2 ((rd_T61 l0_1 x45_2).f0) true _ A44.out).mono ?_
                rintro e w' ⟨rfl,⟨nd,rfl⟩⟩
                refine ⟨_,rfl,?_⟩
                refine hK.out _ _ ⟨(bC BK182.out 0).trans rfl,(bC BK182.out 1).trans rfl,(bC BK182.out 2).trans rfl,(bC BK176.out 0).trans rfl,(bC BK176.out 1).trans rfl,(bC BK176.out 2).trans rfl,((HB.out.cell (World.block_lt_of_cell? w _ hw184_0)).trans hw184_0),((HB.out.cell (World.block_lt_of_cell? w _ hw184_1)).trans hw184_1),((HB.out.cell (World.block_lt_of_cell? w _ hw184_2)).trans hw184_2)⟩ (fun hHeld => ?_)
                clear hK K
                refine norm_ (a':=?_) ?_ ?_
                rotate_left
                ·show Act.put _ (some 52) _ = _
                 simp only [Act.put,q_ia5,q_cz5,q_cs5,i64_w,i32_w]
                 rfl
                refine pure_ (i:=3) (N:=some 53) (v:=?_) (a':=?_) #[bT,bT,bT,bT,bf,bf,bf,bf,bf,bf,bf,bf,bf,bf,bf,bf,bf,bf,bf,bf,bf,bf,bf,bf,bf,bf,bf,bf,bf,bf,bf] rfl rfl (any_of HT_.out (by kernel_rfl)) (fun _ _ _ h => h) (Or.inl ⟨by rfl,?_⟩) ?_ ?_
                rotate_left
                ·intro w';go_simp;with_reducible rfl
                rotate_left
                ·simp only [Act.put,q_ia5,q_cz5,q_cs5,i64_w,i32_w];rfl
                refine pure_ (i:=4) (N:=some 54) (v:=?_) (a':=?_) #[bT,bT,bT,bT,bT,bf,bf,bf,bf,bf,bf,bf,bf,bf,bf,bf,bf,bf,bf,bf,bf,bf,bf,bf,bf,bf,bf,bf,bf,bf,bf] rfl rfl (any_of HT_.out (by kernel_rfl)) (fun _ _ _ h => h) (Or.inl ⟨by rfl,?_⟩) ?_ ?_
                rotate_left
                ·intro w';go_simp;with_reducible rfl
                rotate_left
                ·simp only [Act.put,q_ia5,q_cz5,q_cs5,i64_w,i32_w];rfl
                refine pure_ (i:=5) (N:=some 55) (v:=?_) (a':=?_) #[bT,bT,bT,bT,bT,bT,bf,bf,bf,bf,bf,bf,bf,bf,bf,bf,bf,bf,bf,bf,bf,bf,bf,bf,bf,bf,bf,bf,bf,bf,bf] rfl rfl (any_of HT_.out (by kernel_rfl)) (fun _ _ _ h => h) (Or.inl ⟨by rfl,?_⟩) ?_ ?_
                rotate_left
                ·intro w';go_simp;with_reducible rfl
                rotate_left
                ·simp only [Act.put,q_ia5,q_cz5,q_cs5,i64_w,i32_w];rfl
                refine take_ (i:=6) (N:=some 56) (v:=?_) (a':=?_) #[bT,bT,bT,bT,bT,bT,bT,bf,bf,bf,bf,bf,bf,bf,bf,bf,bf,bf,bf,bf,bf,bf,bf,bf,bf,bf,bf,bf,bf,bf,bf] rfl rfl (take_ofW HT_.out HW_.out (by kernel_rfl)) (fun _ _ _ h => h) (Or.inl ⟨by rfl,?_⟩) hHeld ?_ ?_
                rotate_left
                ·rintro w' ⟨s0,s1,s2,s3,s4,s5,s6,s7,s8⟩
                 go_simp
                 with_reducible rfl
                rotate_left
                ·simp only [Act.put,q_ia5,q_cz5,q_cs5,i64_w,i32_w];rfl
                refine pure_ (i:=7) (N:=some 57) (v:=?_) (a':=?_) #[bT,bT,bT,bT,bT,bT,bT,bT,bf,bf,bf,bf,bf,bf,bf,bf,bf,bf,bf,bf,bf,bf,bf,bf,bf,bf,bf,bf,bf,bf,bf] rfl rfl (any_of HT_.out (by kernel_rfl)) (fun _ _ _ h => h) (Or.inl ⟨by rfl,?_⟩) ?_ ?_
                rotate_left
                ·intro w';go_simp;with_reducible rfl
                rotate_left
                ·simp only [Act.put,q_ia5,q_cz5,q_cs5,i64_w,i32_w];rfl
                refine pure_ (i:=8) (N:=some 58) (v:=?_) (a':=?_) #[bT,bT,bT,bT,bT,bT,bT,bT,bT,bf,bf,bf,bf,bf,bf,bf,bf,bf,bf,bf,bf,bf,bf,bf,bf,bf,bf,bf,bf,bf,bf] rfl rfl (any_of HT_.out (by kernel_rfl)) (fun _ _ _ h => h) (Or.inl ⟨by rfl,?_⟩) ?_ ?_
                rotate_left
                ·intro w';go_simp;with_reducible rfl
                rotate_left
                ·simp only [Act.put,q_ia5,q_cz5,q_cs5,i64_w,i32_w];rfl
                refine pure_ (i:=9) (N:=some 59) (v:=?_) (a':=?_) #[bT,bT,bT,bT,bT,bT,bT,bT,bT,bT,bf,bf,bf,bf,bf,bf,bf,bf,bf,bf,bf,bf,bf,bf,bf,bf,bf,bf,bf,bf,bf] rfl rfl (any_of HT_.out (by kernel_rfl)) (fun _ _ _ h => h) (Or.inl ⟨by rfl,?_⟩) ?_ ?_
                rotate_left
                ·intro w';go_simp;with_reducible rfl
                rotate_left
                ·simp only [Act.put,q_ia5,q_cz5,q_cs5,i64_w,i32_w];rfl
                refine pure_ (i:=10) (N:=some 60) (v:=?_) (a':=?_) #[bT,bT,bT,bT,bT,bT,bT,bT,bT,bT,bT,bf,bf,bf,bf,bf,bf,bf,bf,bf,bf,bf,bf,bf,bf,bf,bf,bf,bf,bf,bf] rfl rfl (any_of HT_.out (by kernel_rfl)) (fun _ _ _ h => h) (Or.inl ⟨by rfl,?_⟩) ?_ ?_
                rotate_left
                ·intro w';go_simp;with_reducible rfl
                rotate_left
                ·simp only [Act.put,q_ia5,q_cz5,q_cs5,i64_w,i32_w];rfl
                refine pure_ (i:=11) (N:=some 61) (v:=?_) (a':=?_) #[bT,bT,bT,bT,bT,bT,bT,bT,bT,bT,bT,bT,bf,bf,bf,bf,bf,bf,bf,bf,bf,bf,bf,bf,bf,bf,bf,bf,bf,bf,bf] rfl rfl (any_of HT_.out (by kernel_rfl)) (fun _ _ _ h => h) (Or.inl ⟨by rfl,?_⟩) ?_ ?_
                rotate_left
                ·intro w';go_simp;with_reducible rfl
                rotate_left
                ·simp only [Act.put,q_ia5,q_cz5,q_cs5,i64_w,i32_w];rfl
                refine take_ (i:=12) (N:=some 62) (v:=?_) (a':=?_) #[bT,bT,bT,bT,bT,bT,bT,bT,bT,bT,bT,bT,bT,bf,bf,bf,bf,bf,bf,bf,bf,bf,bf,bf,bf,bf,bf,bf,bf,bf,bf] rfl rfl (take_ofW HT_.out HW_.out (by kernel_rfl)) (fun _ _ _ h => h) (Or.inl ⟨by rfl,?_⟩) hHeld ?_ ?_
                rotate_left
                ·rintro w' ⟨s0,s1,s2,s3,s4,s5,s6,s7,s8⟩
                 go_simp
                 with_reducible rfl
                rotate_left
                ·simp only [Act.put,q_ia5,q_cz5,q_cs5,i64_w,i32_w];rfl
                refine pure_ (i:=13) (N:=some 63) (v:=?_) (a':=?_) #[bT,bT,bT,bT,bT,bT,bT,bT,bT,bT,bT,bT,bT,bT,bf,bf,bf,bf,bf,bf,bf,bf,bf,bf,bf,bf,bf,bf,bf,bf,bf] rfl rfl (any_of HT_.out (by kernel_rfl)) (fun _ _ _ h => h) (Or.inl ⟨by rfl,?_⟩) ?_ ?_
                rotate_left
                ·intro w';go_simp;with_reducible rfl
                rotate_left
                ·simp only [Act.put,q_ia5,q_cz5,q_cs5,i64_w,i32_w];rfl
                refine pure_ (i:=14) (N:=some 64) (v:=?_) (a':=?_) #[bT,bT,bT,bT,bT,bT,bT,bT,bT,bT,bT,bT,bT,bT,bT,bf,bf,bf,bf,bf,bf,bf,bf,bf,bf,bf,bf,bf,bf,bf,bf] rfl rfl (any_of HT_.out (by kernel_rfl)) (fun _ _ _ h => h) (Or.inl ⟨by rfl,?_⟩) ?_ ?_
                rotate_left
                ·intro w';go_simp;with_reducible rfl
                rotate_left
                ·simp only [Act.put,q_ia5,q_cz5,q_cs5,i64_w,i32_w];rfl
                refine pure_ (i:=15) (N:=some 65) (v:=?_) (a':=?_) #[bT,bT,bT,bT,bT,bT,bT,bT,bT,bT,bT,bT,bT,bT,bT,bT,bf,bf,bf,bf,bf,bf,bf,bf,bf,bf,bf,bf,bf,bf,bf] rfl rfl (any_of HT_.out (by kernel_rfl)) (fun _ _ _ h => h) (Or.inl ⟨by rfl,?_⟩) ?_ ?_
                rotate_left
                ·intro w';go_simp;with_reducible rfl
                rotate_left
                ·simp only [Act.put,q_ia5,q_cz5,q_cs5,i64_w,i32_w];rfl
                refine pure_ (i:=16) (N:=some 66) (v:=?_) (a':=?_) #[bT,bT,bT,bT,bT,bT,bT,bT,bT,bT,bT,bT,bT,bT,bT,bT,bT,bf,bf,bf,bf,bf,bf,bf,bf,bf,bf,bf,bf,bf,bf] rfl rfl (any_of HT_.out (by kernel_rfl)) (fun _ _ _ h => h) (Or.inl ⟨by rfl,?_⟩) ?_ ?_
                rotate_left
                ·intro w';go_simp;with_reducible rfl
                rotate_left
                ·simp only [Act.put,q_ia5,q_cz5,q_cs5,i64_w,i32_w];rfl
                refine pure_ (i:=17) (N:=some 67) (v:=?_) (a':=?_) #[bT,bT,bT,bT,bT,bT,bT,bT,bT,bT,bT,bT,bT,bT,bT,bT,bT,bT,bf,bf,bf,bf,bf,bf,bf,bf,bf,bf,bf,bf,bf] rfl rfl (any_of HT_.out (by kernel_rfl)) (fun _ _ _ h => h) (Or.inl ⟨by rfl,?_⟩) ?_ ?_
                rotate_left
                ·intro w';go_simp;with_reducible rfl
                rotate_left
                ·simp only [Act.put,q_ia5,q_cz5,q_cs5,i64_w,i32_w];rfl
                refine pure_ (i:=18) (N:=some 68) (v:=?_) (a':=?_) #[bT,bT,bT,bT,bT,bT,bT,bT,bT,bT,bT,bT,bT,bT,bT,bT,bT,bT,bT,bf,bf,bf,bf,bf,bf,bf,bf,bf,bf,bf,bf] rfl rfl (any_of HT_.out (by kernel_rfl)) (fun _ _ _ h => h) (Or.inl ⟨by rfl,?_⟩) ?_ ?_
                rotate_left
                ·intro w';go_simp;with_reducible rfl
                rotate_left
                ·simp only [Act.put,q_ia5,q_cz5,q_cs5,i64_w,i32_w];rfl
                refine pure_ (i:=19) (N:=some 69) (v:=?_) (a':=?_) #[bT,bT,bT,bT,bT,bT,bT,bT,bT,bT,bT,bT,bT,bT,bT,bT,bT,bT,bT,bT,bf,bf,bf,bf,bf,bf,bf,bf,bf,bf,bf] rfl rfl (any_of HT_.out (by kernel_rfl)) (fun _ _ _ h => h) (Or.inl ⟨by rfl,?_⟩) ?_ ?_
                rotate_left
                ·intro w';go_simp;with_reducible rfl
                rotate_left
                ·simp only [Act.put,q_ia5,q_cz5,q_cs5,i64_w,i32_w];rfl
                refine pure_ (i:=20) (N:=some 70) (v:=?_) (a':=?_) #[bT,bT,bT,bT,bT,bT,bT,bT,bT,bT,bT,bT,bT,bT,bT,bT,bT,bT,bT,bT,bT,bf,bf,bf,bf,bf,bf,bf,bf,bf,bf] rfl rfl (any_of HT_.out (by kernel_rfl)) (fun _ _ _ h => h) (Or.inl ⟨by rfl,?_⟩) ?_ ?_
                rotate_left
                ·intro w';go_simp;with_reducible rfl
                rotate_left
                ·simp only [Act.put,q_ia5,q_cz5,q_cs5,i64_w,i32_w];rfl
                refine pure_ (i:=22) (N:=some 72) (v:=?_) (a':=?_) #[bT,bT,bT,bT,bT,bT,bT,bT,bT,bT,bT,bT,bT,bT,bT,bT,bT,bT,bT,bT,bT,bf,bT,bf,bf,bf,bf,bf,bf,bf,bf] rfl rfl (any_of HT_.out (by kernel_rfl)) (fun _ _ _ h => h) (Or.inl ⟨by rfl,?_⟩) ?_ ?_
                rotate_left
                ·intro w';go_simp;with_reducible rfl
                rotate_left
                ·simp only [Act.put,q_ia5,q_cz5,q_cs5,i64_w,i32_w];rfl
                refine pure_ (i:=23) (N:=some 73) (v:=?_) (a':=?_) #[bT,bT,bT,bT,bT,bT,bT,bT,bT,bT,bT,bT,bT,bT,bT,bT,bT,bT,bT,bT,bT,bf,bT,bT,bf,bf,bf,bf,bf,bf,bf] rfl rfl (any_of HT_.out (by kernel_rfl)) (fun _ _ _ h => h) (Or.inl ⟨by rfl,?_⟩) ?_ ?_
                rotate_left
                ·intro w';go_simp;with_reducible rfl
                rotate_left
                ·simp only [Act.put,q_ia5,q_cz5,q_cs5,i64_w,i32_w];rfl
                refine take_ (i:=21) (N:=some 71) (v:=?_) (a':=?_) #[bT,bT,bT,bT,bT,bT,bT,bT,bT,bT,bT,bT,bT,bT,bT,bT,bT,bT,bT,bT,bT,bT,bT,bT,bf,bf,bf,bf,bf,bf,bf] rfl rfl (take_ofW HT_.out HW_.out (by kernel_rfl)) (fun _ _ _ h => h) (Or.inl ⟨by rfl,?_⟩) hHeld ?_ ?_
                rotate_left
                ·rintro w' ⟨s0,s1,s2,s3,s4,s5,s6,s7,s8⟩
                 go_simp
                 with_reducible rfl
                rotate_left
                ·simp only [Act.put,q_ia5,q_cz5,q_cs5,i64_w,i32_w];rfl
                refine pure_ (i:=24) (N:=some 74) (v:=?_) (a':=?_) #[bT,bT,bT,bT,bT,bT,bT,bT,bT,bT,bT,bT,bT,bT,bT,bT,bT,bT,bT,bT,bT,bT,bT,bT,bT,bf,bf,bf,bf,bf,bf] rfl rfl (any_of HT_.out (by kernel_rfl)) (fun _ _ _ h => h) (Or.inl ⟨by rfl,?_⟩) ?_ ?_
                rotate_left
                ·intro w';go_simp;with_reducible rfl
                rotate_left
                ·simp only [Act.put,q_ia5,q_cz5,q_cs5,i64_w,i32_w];rfl
                refine take_ (i:=25) (N:=some 75) (v:=?_) (a':=?_) #[bT,bT,bT,bT,bT,bT,bT,bT,bT,bT,bT,bT,bT,bT,bT,bT,bT,bT,bT,bT,bT,bT,bT,bT,bT,bT,bf,bf,bf,bf,bf] rfl rfl (take_ofW HT_.out HW_.out (by kernel_rfl)) (fun _ _ _ h => h) (Or.inl ⟨by rfl,?_⟩) hHeld ?_ ?_
                rotate_left
                ·rintro w' ⟨s0,s1,s2,s3,s4,s5,s6,s7,s8⟩
                 go_simp
                 with_reducible rfl
                rotate_left
                ·simp only [Act.put,q_ia5,q_cz5,q_cs5,i64_w,i32_w];rfl
                refine take_ (i:=26) (N:=some 76) (v:=?_) (a':=?_) #[bT,bT,bT,bT,bT,bT,bT,bT,bT,bT,bT,bT,bT,bT,bT,bT,bT,bT,bT,bT,bT,bT,bT,bT,bT,bT,bT,bf,bf,bf,bf] rfl rfl (take_ofW HT_.out HW_.out (by kernel_rfl)) (fun _ _ _ h => h) (Or.inl ⟨by rfl,?_⟩) hHeld ?_ ?_
                rotate_left
                ·rintro w' ⟨s0,s1,s2,s3,s4,s5,s6,s7,s8⟩
                 go_simp
                 with_reducible rfl
                rotate_left
                ·simp only [Act.put,q_ia5,q_cz5,q_cs5,i64_w,i32_w];rfl
                refine one_ (i:=27) (N:=some 77) #[bT,bT,bT,bT,bT,bT,bT,bT,bT,bT,bT,bT,bT,bT,bT,bT,bT,bT,bT,bT,bT,bT,bT,bT,bT,bT,bT,bT,bf,bf,bf] rfl rfl (one_of HT_.out (by kernel_rfl)) (by decide) (fun K hK => ?_)
                refine goes_ Try.func108 (by kernel_rfl) rfl #[.agg #[.string ((rd_T61 l0_1 (ji59)).f0),.string ((rd_T61 l0_1 (ji59)).f1),.string ((rd_T61 l0_1 (ji59)).f2)],.agg #[.string ((rd_T61 l0_1 x45_2).f0),.string ((rd_T61 l0_1 x45_2).f1),.string ((rd_T61 l0_1 x45_2).f2)]] (by rfl) rfl rfl (by (try simp only [List.map_toArray,List.map_cons,List.map_nil]);first|done|(simp only [hji59];rfl)|rfl|(simp only [List.length_drop,List.length_take];rfl)) ?_
                with_reducible refine (impl_byKey.calls ((rd_T61 l0_1 (ji59)).f0) ((rd_T61 l0_1 (ji59)).f1) ((rd_T61 l0_1 (ji59)).f2) ((rd_T61 l0_1 x45_2).f0) ((rd_T61 l0_1 x45_2).f1) ((rd_T61 l0_1 x45_2).f2) t185 _ A62.out).mono ?_
                rintro e w75 ⟨rfl,hb⟩
                refine ⟨_,rfl,?_⟩
                have n0_:=aM (bB (g:=gb176) (o:=.cells #[.slice A0_0 l0_0.length c0_0,.slice (some ad181) l0_1.length c0_1,.string a0_2] 54 (0,0)) (by (with_reducible repeat (first|refine bN ?_ _|refine bD ?_|refine bA ?_ _));exact BK176.out) hb)
                have n1_:=aM (bB (g:=gb182) (o:=.cells #[.string ((rd_T61 l0_1 x45_2).f0),.string ((rd_T61 l0_1 x45_2).f1),.string ((rd_T61 l0_1 x45_2).f2)] 61 (0,0)) (by (with_reducible repeat (first|refine bN ?_ _|refine bD ?_|refine bA ?_ _));exact BK182.out) hb)
                have n2_:=aM (lP (by repeat (first|(with_reducible first|exact HB.out|apply lA|apply lN|apply lD|refine lS ?_ GE176.out|refine lS ?_ GE182.out)|exact HB.out)) hb)
                clear BK176
                clear BK182
                clear HB
                have BK176:=n0_
                have BK182:=n1_
                have HB:=n2_
                clear n0_ n1_ n2_
                (try clear hb)
                (try clear hb2)
                (try clear hk)
                (try clear hi)
                refine hK.out _ _ ⟨(bC BK182.out 0).trans rfl,(bC BK182.out 1).trans rfl,(bC BK182.out 2).trans rfl,(bC BK176.out 0).trans rfl,(bC BK176.out 1).trans rfl,(bC BK176.out 2).trans rfl,((HB.out.cell (World.block_lt_of_cell? w _ hw184_0)).trans hw184_0),((HB.out.cell (World.block_lt_of_cell? w _ hw184_1)).trans hw184_1),((HB.out.cell (World.block_lt_of_cell? w _ hw184_2)).trans hw184_2)⟩ (fun hHeld => ?_)
                clear hK K
                refine norm_ (a':=?_) ?_ ?_
                rotate_left
                ·show Act.put _ (some 77) _ = _
                 simp only [Act.put,q_ia5,q_cz5,q_cs5,i64_w,i32_w]
                 rfl
                refine pure_ (i:=28) (N:=some 78) (v:=?_) (a':=?_) #[bT,bT,bT,bT,bT,bT,bT,bT,bT,bT,bT,bT,bT,bT,bT,bT,bT,bT,bT,bT,bT,bT,bT,bT,bT,bT,bT,bT,bT,bf,bf] rfl rfl (any_of HT_.out (by kernel_rfl)) (fun _ _ _ h => h) (Or.inl ⟨by rfl,?_⟩) ?_ ?_
                rotate_left
                ·intro w';go_simp;with_reducible rfl
                rotate_left
                ·simp only [Act.put,q_ia5,q_cz5,q_cs5,i64_w,i32_w];rfl
                refine pure_ (i:=29) (N:=some 79) (v:=?_) (a':=?_) #[bT,bT,bT,bT,bT,bT,bT,bT,bT,bT,bT,bT,bT,bT,bT,bT,bT,bT,bT,bT,bT,bT,bT,bT,bT,bT,bT,bT,bT,bT,bf] rfl rfl (any_of HT_.out (by kernel_rfl)) (fun _ _ _ h => h) (Or.inl ⟨by rfl,?_⟩) ?_ ?_
                rotate_left
                ·intro w';go_simp;with_reducible rfl
                rotate_left
                ·simp only [Act.put,q_ia5,q_cz5,q_cs5,i64_w,i32_w];rfl
                refine pure_ (i:=30) (N:=some 80) (v:=?_) (a':=?_) #[bT,bT,bT,bT,bT,bT,bT,bT,bT,bT,bT,bT,bT,bT,bT,bT,bT,bT,bT,bT,bT,bT,bT,bT,bT,bT,bT,bT,bT,bT,bT] rfl rfl (any_of HT_.out (by kernel_rfl)) (fun _ _ _ h => h) (Or.inl ⟨by rfl,?_⟩) ?_ ?_
                rotate_left
                ·intro w';go_simp;with_reducible rfl
                rotate_left
                ·simp only [Act.put,q_ia5,q_cz5,q_cs5,i64_w,i32_w];rfl
                refine done_ (done_of HT_.out (by kernel_rfl)) ?_
                try go_wp2
                go_roundg k2
                case measure => have:=HK1.out;have:=HK2.out;omega
                case rel => exact ⟨(wrap64 (x45_2 + 1)),(by first|rfl|(simp;done)|(simp [*];done)),H',⟨by have:=HK1.out;have:=HK2.out;omega⟩,⟨by (with_reducible repeat (first|refine bN ?_ _|refine bD ?_|refine bA ?_ _));exact BK176.out⟩,⟨by repeat (first|(with_reducible first|exact HB.out|apply lA|apply lN|apply lD|refine lS ?_ GE176.out|refine lS ?_ GE182.out)|exact HB.out)⟩⟩
              ·rw [if_neg c61] at H
               exact absurd H (by simp)
             ·rw [if_neg c60] at H
              exact absurd H (by simp)
            ·rw [if_neg c58] at H
             have c58b0 : decide (0 < x45_2) = false:=decide_eq_false c58
             clear c58
             have H':=aM H
             clear H
             have p181 : 0 ≤ (x45_2 : Int):=of_decide_eq_true (by first|(with_reducible assumption)|assumption)
             have q181 : x45_2 < (l0_1.length : Int):=of_decide_eq_true (by first|(with_reducible assumption)|assumption)
             obtain ⟨ad181,e181,hx181_0,hx181_1,hx181_2⟩:=at_T61 HR0_1.out x45_2 p181 q181
             cases e181
             replace hx181_0:=(HB.out.cell (World.block_lt_of_cell? w _ hx181_0)).trans hx181_0
             replace hx181_1:=(HB.out.cell (World.block_lt_of_cell? w _ hx181_1)).trans hx181_1
             replace hx181_2:=(HB.out.cell (World.block_lt_of_cell? w _ hx181_2)).trans hx181_2
             replace p181:=eq_true p181
             replace q181:=eq_true q181
             try go_wp2_with (first|((with_reducible refine gate_dst (N:=6) rfl ?_);(try (refine gate_guard (by rfl) ?_;dsimp only));refine box_event ?hg (N:=6) ?hd (cs:=#[.string (⟨#[]⟩ : ByteArray),.string (⟨#[]⟩ : ByteArray),.string (⟨#[]⟩ : ByteArray)]) (t:=61) ?hr ?_;(case hd => rfl);(case hg => rfl);(case hr => first|(go_simp;done)|(go_simp;rfl));intro gb182 hg w76 hbox hb;have n0_:=aM (bB (g:=gb176) (o:=.cells #[.slice A0_0 l0_0.length c0_0,.slice (some ad181) l0_1.length c0_1,.string a0_2] 54 (0,0)) (by (with_reducible repeat (first|refine bN ?_ _|refine bD ?_|refine bA ?_ _));exact BK176.out) hb);have n1_:=aM (lP (by repeat (first|(with_reducible first|exact HB.out|apply lA|apply lN|apply lD|refine lS ?_ GE176.out)|exact HB.out)) hb);have n2_:=aM (hbox);have n3_:=aM ((by rw [hg];exact (lZ (by repeat (first|(with_reducible first|exact HB.out|apply lA|apply lN|apply lD|refine lS ?_ GE176.out)|exact HB.out))) : w.heap.size ≤ gb182));have n4_:=aM ((by rw [hg];exact (lZ (by repeat (first|(with_reducible first|exact HB.out|apply lA|apply lN|apply lD|refine lS ?_ GE176.out)|exact HB.out))) : w.heap.size ≤ gb182));have n5_:=aM ((by rw [hg];exact Nat.ne_of_lt (bL (g:=gb176) (o:=.cells #[.slice A0_0 l0_0.length c0_0,.slice (some ad181) l0_1.length c0_1,.string a0_2] 54 (0,0)) (by (with_reducible repeat (first|refine bN ?_ _|refine bD ?_|refine bA ?_ _));exact BK176.out)) : gb176 ≠ gb182));have n6_:=aM ((by rw [hg];exact Nat.ne_of_gt (bL (g:=gb176) (o:=.cells #[.slice A0_0 l0_0.length c0_0,.slice (some ad181) l0_1.length c0_1,.string a0_2] 54 (0,0)) (by (with_reducible repeat (first|refine bN ?_ _|refine bD ?_|refine bA ?_ _));exact BK176.out)) : gb182 ≠ gb176));clear BK176 HB;have BK176:=n0_;have HB:=n1_;have BK182:=n2_;have GW182:=n3_;have GE182:=n4_;have NB176_182:=n5_;have NB182_176:=n6_;clear n0_ n1_ n2_ n3_ n4_ n5_ n6_ hb hbox hg;have hnb77:=NB182_176.out;have hnc77:=NB176_182.out;have hcz78_0 : w76.cell? ⟨gb182,0,none⟩ = some (.string (⟨#[]⟩ : ByteArray)):=(bC BK182.out 0).trans rfl;have hcz78_1 : w76.cell? ⟨gb182,1,none⟩ = some (.string (⟨#[]⟩ : ByteArray)):=(bC BK182.out 1).trans rfl;have hcz78_2 : w76.cell? ⟨gb182,2,none⟩ = some (.string (⟨#[]⟩ : ByteArray)):=(bC BK182.out 2).trans rfl;have hfz78_0:=bF BK182.out 0;have hfz78_1:=bF BK182.out 1;have hfz78_2:=bF BK182.out 2))
             have n0_ : Aside0 ((((w76.setCell ⟨gb182,0,none⟩ (.string ((rd_T61 l0_1 x45_2).f0))).setCell ⟨gb182,1,none⟩ (.string ((rd_T61 l0_1 x45_2).f1))).setCell ⟨gb182,2,none⟩ (.string ((rd_T61 l0_1 x45_2).f2))).heap[gb176]? = some (.cells #[.slice A0_0 l0_0.length c0_0,.slice (some ad181) l0_1.length c0_1,.string a0_2] 54 (0,0))):=⟨by (with_reducible repeat (first|refine bN ?_ _|refine bD ?_|refine bA ?_ _));refine blk_far ?_ NB176_182.out _;(with_reducible repeat (first|refine bN ?_ _|refine bD ?_|refine bA ?_ _));refine blk_far ?_ NB176_182.out _;(with_reducible repeat (first|refine bN ?_ _|refine bD ?_|refine bA ?_ _));refine blk_far ?_ NB176_182.out _;(with_reducible repeat (first|refine bN ?_ _|refine bD ?_|refine bA ?_ _));exact BK176.out⟩
             have n1_ : Aside0 ((((w76.setCell ⟨gb182,0,none⟩ (.string ((rd_T61 l0_1 x45_2).f0))).setCell ⟨gb182,1,none⟩ (.string ((rd_T61 l0_1 x45_2).f1))).setCell ⟨gb182,2,none⟩ (.string ((rd_T61 l0_1 x45_2).f2))).heap[gb182]? = some (.cells #[.string ((rd_T61 l0_1 x45_2).f0),.string ((rd_T61 l0_1 x45_2).f1),.string ((rd_T61 l0_1 x45_2).f2)] 61 (0,0))):=⟨by (with_reducible repeat (first|refine bN ?_ _|refine bD ?_|refine bA ?_ _));refine blk_put (cs:=#[.string ((rd_T61 l0_1 x45_2).f0),.string ((rd_T61 l0_1 x45_2).f1),.string (⟨#[]⟩ : ByteArray)]) ?_ 2 _ rfl;(with_reducible repeat (first|refine bN ?_ _|refine bD ?_|refine bA ?_ _));refine blk_put (cs:=#[.string ((rd_T61 l0_1 x45_2).f0),.string (⟨#[]⟩ : ByteArray),.string (⟨#[]⟩ : ByteArray)]) ?_ 1 _ rfl;(with_reducible repeat (first|refine bN ?_ _|refine bD ?_|refine bA ?_ _));refine blk_put (cs:=#[.string (⟨#[]⟩ : ByteArray),.string (⟨#[]⟩ : ByteArray),.string (⟨#[]⟩ : ByteArray)]) ?_ 0 _ rfl;(with_reducible repeat (first|refine bN ?_ _|refine bD ?_|refine bA ?_ _));exact BK182.out⟩
             have n2_ : Aside0 (Below w.heap.size w (((w76.setCell ⟨gb182,0,none⟩ (.string ((rd_T61 l0_1 x45_2).f0))).setCell ⟨gb182,1,none⟩ (.string ((rd_T61 l0_1 x45_2).f1))).setCell ⟨gb182,2,none⟩ (.string ((rd_T61 l0_1 x45_2).f2)))):=⟨by repeat (first|(with_reducible first|exact HB.out|apply lA|apply lN|apply lD|refine lS ?_ GE176.out|refine lS ?_ GE182.out)|exact HB.out)⟩
             (try clear BK176)
             (try clear BK182)
             (try clear HB)
             generalize (((w76.setCell ⟨gb182,0,none⟩ (.string ((rd_T61 l0_1 x45_2).f0))).setCell ⟨gb182,1,none⟩ (.string ((rd_T61 l0_1 x45_2).f1))).setCell ⟨gb182,2,none⟩ (.string ((rd_T61 l0_1 x45_2).f2))) = w79 at n0_ n1_ n2_ ⊢
             have BK176:=n0_
             have BK182:=n1_
             have HB:=n2_
             clear n0_ n1_ n2_
             have n0_:=aM (bD BK176.out)
             have n1_:=aM (bD BK182.out)
             have n2_:=aM (lD HB.out)
             clear BK176
             clear BK182
             clear HB
             have BK176:=n0_
             have BK182:=n1_
             have HB:=n2_
             clear n0_ n1_ n2_
             refine start_ (n:=31) (S:=fun w' => w'.cell? ⟨gb182,0,none⟩ = some (.string ((rd_T61 l0_1 x45_2).f0)) ∧ w'.cell? ⟨gb182,1,none⟩ = some (.string ((rd_T61 l0_1 x45_2).f1)) ∧ w'.cell? ⟨gb182,2,none⟩ = some (.string ((rd_T61 l0_1 x45_2).f2))) (ds:=[]) #[bf,bf,bf,bf,bf,bf,bf,bf,bf,bf,bf,bf,bf,bf,bf,bf,bf,bf,bf,bf,bf,bf,bf,bf,bf,bf,bf,bf,bf,bf,bf] (by kernel_rfl) rfl rfl ⟨(bC BK182.out 0).trans rfl,(bC BK182.out 1).trans rfl,(bC BK182.out 2).trans rfl⟩ (fun hHeld => ?_);refine with_tabW impl_StoreOk.tab10 impl_StoreOk.bits10 (fun HT_ HW_ => ?_)
             generalize w79.drew = w80 at BK176 BK182 HB hHeld ⊢
             refine pure_ (i:=0) (N:=some 50) (v:=?_) (a':=?_) #[bT,bf,bf,bf,bf,bf,bf,bf,bf,bf,bf,bf,bf,bf,bf,bf,bf,bf,bf,bf,bf,bf,bf,bf,bf,bf,bf,bf,bf,bf,bf] rfl rfl (any_of HT_.out (by kernel_rfl)) (fun _ _ _ h => h) (Or.inl ⟨by rfl,?_⟩) ?_ ?_
             rotate_left
             ·intro w';go_simp;with_reducible rfl
             rotate_left
             ·simp only [Act.put,q_ia5,q_cz5,q_cs5,i64_w,i32_w];rfl
             refine take_ (i:=1) (N:=some 51) (v:=?_) (a':=?_) #[bT,bT,bf,bf,bf,bf,bf,bf,bf,bf,bf,bf,bf,bf,bf,bf,bf,bf,bf,bf,bf,bf,bf,bf,bf,bf,bf,bf,bf,bf,bf] rfl rfl (take_ofW HT_.out HW_.out (by kernel_rfl)) (fun _ _ _ h => h) (Or.inl ⟨by rfl,?_⟩) hHeld ?_ ?_
             rotate_left
             ·rintro w' ⟨s0,s1,s2⟩
              go_simp
              with_reducible rfl
             rotate_left
             ·simp only [Act.put,q_ia5,q_cz5,q_cs5,i64_w,i32_w];rfl
             refine one_ (i:=2) (N:=some 52) #[bT,bT,bT,bf,bf,bf,bf,bf,bf,bf,bf,bf,bf,bf,bf,bf,bf,bf,bf,bf,bf,bf,bf,bf,bf,bf,bf,bf,bf,bf,bf] rfl rfl (one_of HT_.out (by kernel_rfl)) (by decide) (fun K hK => ?_)
             refine goes_ Try.func107 (by kernel_rfl) rfl #[.string ((rd_T61 l0_1 x45_2).f0)] (by rfl) rfl rfl (by (try simp only [List.map_toArray,List.map_cons,List.map_nil]);first|done|rfl|(simp only [List.length_drop,List.length_take];rfl)) ?_
             with_reducible refine (impl_isLetters.calls k2 ((rd_T61 l0_1 x45_2).f0) true _ A44.out).mono ?_
             rintro e w' ⟨rfl,⟨nd,rfl⟩⟩
             refine ⟨_,rfl,?_⟩
             refine hK.out _ _ ⟨(bC BK182.out 0).trans rfl,(bC BK182.out 1).trans rfl,(bC BK182.out 2).trans rfl⟩ (fun hHeld => ?_)
             clear hK K
             refine norm_ (a':=?_) ?_ ?_
             rotate_left
             ·show Act.put _ (some 52) _ = _
              simp only [Act.put,q_ia5,q_cz5,q_cs5,i64_w,i32_w]
              rfl
             refine pure_ (i:=3) (N:=some 53) (v:=?_) (a':=?_) #[bT,bT,bT,bT,bf,bf,bf,bf,bf,bf,bf,bf,bf,bf,bf,bf,bf,bf,bf,bf,bf,bf,bf,bf,bf,bf,bf,bf,bf,bf,bf] rfl rfl (any_of HT_.out (by kernel_rfl)) (fun _ _ _ h => h) (Or.inl ⟨by rfl,?_⟩) ?_ ?_
             rotate_left
             ·intro w';go_simp;with_reducible rfl
             rotate_left
             ·simp only [Act.put,q_ia5,q_cz5,q_cs5,i64_w,i32_w];rfl
             refine pure_ (i:=4) (N:=some 54) (v:=?_) (a':=?_) #[bT,bT,bT,bT,bT,bf,bf,bf,bf,bf,bf,bf,bf,bf,bf,bf,bf,bf,bf,bf,bf,bf,bf,bf,bf,bf,bf,bf,bf,bf,bf] rfl rfl (any_of HT_.out (by kernel_rfl)) (fun _ _ _ h => h) (Or.inl ⟨by rfl,?_⟩) ?_ ?_
             rotate_left
             ·intro w';go_simp;with_reducible rfl
             rotate_left
             ·simp only [Act.put,q_ia5,q_cz5,q_cs5,i64_w,i32_w];rfl
             refine pure_ (i:=5) (N:=some 55) (v:=?_) (a':=?_) #[bT,bT,bT,bT,bT,bT,bf,bf,bf,bf,bf,bf,bf,bf,bf,bf,bf,bf,bf,bf,bf,bf,bf,bf,bf,bf,bf,bf,bf,bf,bf] rfl rfl (any_of HT_.out (by kernel_rfl)) (fun _ _ _ h => h) (Or.inl ⟨by rfl,?_⟩) ?_ ?_
             rotate_left
             ·intro w';go_simp;with_reducible rfl
             rotate_left
             ·simp only [Act.put,q_ia5,q_cz5,q_cs5,i64_w,i32_w];rfl
             refine take_ (i:=6) (N:=some 56) (v:=?_) (a':=?_) #[bT,bT,bT,bT,bT,bT,bT,bf,bf,bf,bf,bf,bf,bf,bf,bf,bf,bf,bf,bf,bf,bf,bf,bf,bf,bf,bf,bf,bf,bf,bf] rfl rfl (take_ofW HT_.out HW_.out (by kernel_rfl)) (fun _ _ _ h => h) (Or.inl ⟨by rfl,?_⟩) hHeld ?_ ?_
             rotate_left
             ·rintro w' ⟨s0,s1,s2⟩
              go_simp
              with_reducible rfl
             rotate_left
             ·simp only [Act.put,q_ia5,q_cz5,q_cs5,i64_w,i32_w];rfl
             refine pure_ (i:=7) (N:=some 57) (v:=?_) (a':=?_) #[bT,bT,bT,bT,bT,bT,bT,bT,bf,bf,bf,bf,bf,bf,bf,bf,bf,bf,bf,bf,bf,bf,bf,bf,bf,bf,bf,bf,bf,bf,bf] rfl rfl (any_of HT_.out (by kernel_rfl)) (fun _ _ _ h => h) (Or.inl ⟨by rfl,?_⟩) ?_ ?_
             rotate_left
             ·intro w';go_simp;with_reducible rfl
             rotate_left
             ·simp only [Act.put,q_ia5,q_cz5,q_cs5,i64_w,i32_w];rfl
             refine pure_ (i:=8) (N:=some 58) (v:=?_) (a':=?_) #[bT,bT,bT,bT,bT,bT,bT,bT,bT,bf,bf,bf,bf,bf,bf,bf,bf,bf,bf,bf,bf,bf,bf,bf,bf,bf,bf,bf,bf,bf,bf] rfl rfl (any_of HT_.out (by kernel_rfl)) (fun _ _ _ h => h) (Or.inl ⟨by rfl,?_⟩) ?_ ?_
             rotate_left
             ·intro w';go_simp;with_reducible rfl
             rotate_left
             ·simp only [Act.put,q_ia5,q_cz5,q_cs5,i64_w,i32_w];rfl
             refine pure_ (i:=9) (N:=some 59) (v:=?_) (a':=?_) #[bT,bT,bT,bT,bT,bT,bT,bT,bT,bT,bf,bf,bf,bf,bf,bf,bf,bf,bf,bf,bf,bf,bf,bf,bf,bf,bf,bf,bf,bf,bf] rfl rfl (any_of HT_.out (by kernel_rfl)) (fun _ _ _ h => h) (Or.inl ⟨by rfl,?_⟩) ?_ ?_
             rotate_left
             ·intro w';go_simp;with_reducible rfl
             rotate_left
             ·simp only [Act.put,q_ia5,q_cz5,q_cs5,i64_w,i32_w];rfl
             refine pure_ (i:=10) (N:=some 60) (v:=?_) (a':=?_) #[bT,bT,bT,bT,bT,bT,bT,bT,bT,bT,bT,bf,bf,bf,bf,bf,bf,bf,bf,bf,bf,bf,bf,bf,bf,bf,bf,bf,bf,bf,bf] rfl rfl (any_of HT_.out (by kernel_rfl)) (fun _ _ _ h => h) (Or.inl ⟨by rfl,?_⟩) ?_ ?_
             rotate_left
             ·intro w';go_simp;with_reducible rfl
             rotate_left
             ·simp only [Act.put,q_ia5,q_cz5,q_cs5,i64_w,i32_w];rfl
             refine pure_ (i:=11) (N:=some 61) (v:=?_) (a':=?_) #[bT,bT,bT,bT,bT,bT,bT,bT,bT,bT,bT,bT,bf,bf,bf,bf,bf,bf,bf,bf,bf,bf,bf,bf,bf,bf,bf,bf,bf,bf,bf] rfl rfl (any_of HT_.out (by kernel_rfl)) (fun _ _ _ h => h) (Or.inl ⟨by rfl,?_⟩) ?_ ?_
             rotate_left
             ·intro w';go_simp;with_reducible rfl
             rotate_left
             ·simp only [Act.put,q_ia5,q_cz5,q_cs5,i64_w,i32_w];rfl
             refine take_ (i:=12) (N:=some 62) (v:=?_) (a':=?_) #[bT,bT,bT,bT,bT,bT,bT,bT,bT,bT,bT,bT,bT,bf,bf,bf,bf,bf,bf,bf,bf,bf,bf,bf,bf,bf,bf,bf,bf,bf,bf] rfl rfl (take_ofW HT_.out HW_.out (by kernel_rfl)) (fun _ _ _ h => h) (Or.inl ⟨by rfl,?_⟩) hHeld ?_ ?_
             rotate_left
             ·rintro w' ⟨s0,s1,s2⟩
              go_simp
              with_reducible rfl
             rotate_left
             ·simp only [Act.put,q_ia5,q_cz5,q_cs5,i64_w,i32_w];rfl
             refine pure_ (i:=13) (N:=some 63) (v:=?_) (a':=?_) #[bT,bT,bT,bT,bT,bT,bT,bT,bT,bT,bT,bT,bT,bT,bf,bf,bf,bf,bf,bf,bf,bf,bf,bf,bf,bf,bf,bf,bf,bf,bf] rfl rfl (any_of HT_.out (by kernel_rfl)) (fun _ _ _ h => h) (Or.inl ⟨by rfl,?_⟩) ?_ ?_
             rotate_left
             ·intro w';go_simp;with_reducible rfl
             rotate_left
             ·simp only [Act.put,q_ia5,q_cz5,q_cs5,i64_w,i32_w];rfl
             refine pure_ (i:=14) (N:=some 64) (v:=?_) (a':=?_) #[bT,bT,bT,bT,bT,bT,bT,bT,bT,bT,bT,bT,bT,bT,bT,bf,bf,bf,bf,bf,bf,bf,bf,bf,bf,bf,bf,bf,bf,bf,bf] rfl rfl (any_of HT_.out (by kernel_rfl)) (fun _ _ _ h => h) (Or.inl ⟨by rfl,?_⟩) ?_ ?_
             rotate_left
             ·intro w';go_simp;with_reducible rfl
             rotate_left
             ·simp only [Act.put,q_ia5,q_cz5,q_cs5,i64_w,i32_w];rfl
             refine pure_ (i:=15) (N:=some 65) (v:=?_) (a':=?_) #[bT,bT,bT,bT,bT,bT,bT,bT,bT,bT,bT,bT,bT,bT,bT,bT,bf,bf,bf,bf,bf,bf,bf,bf,bf,bf,bf,bf,bf,bf,bf] rfl rfl (any_of HT_.out (by kernel_rfl)) (fun _ _ _ h => h) (Or.inl ⟨by rfl,?_⟩) ?_ ?_
             rotate_left
             ·intro w';go_simp;with_reducible rfl
             rotate_left
             ·simp only [Act.put,q_ia5,q_cz5,q_cs5,i64_w,i32_w];rfl
             refine pure_ (i:=16) (N:=some 66) (v:=?_) (a':=?_) #[bT,bT,bT,bT,bT,bT,bT,bT,bT,bT,bT,bT,bT,bT,bT,bT,bT,bf,bf,bf,bf,bf,bf,bf,bf,bf,bf,bf,bf,bf,bf] rfl rfl (any_of HT_.out (by kernel_rfl)) (fun _ _ _ h => h) (Or.inl ⟨by rfl,?_⟩) ?_ ?_
             rotate_left
             ·intro w';go_simp;with_reducible rfl
             rotate_left
             ·simp only [Act.put,q_ia5,q_cz5,q_cs5,i64_w,i32_w];rfl
             refine pure_ (i:=17) (N:=some 67) (v:=?_) (a':=?_) #[bT,bT,bT,bT,bT,bT,bT,bT,bT,bT,bT,bT,bT,bT,bT,bT,bT,bT,bf,bf,bf,bf,bf,bf,bf,bf,bf,bf,bf,bf,bf] rfl rfl (any_of HT_.out (by kernel_rfl)) (fun _ _ _ h => h) (Or.inl ⟨by rfl,?_⟩) ?_ ?_
             rotate_left
             ·intro w';go_simp;with_reducible rfl
             rotate_left
             ·simp only [Act.put,q_ia5,q_cz5,q_cs5,i64_w,i32_w];rfl
             refine pure_ (i:=18) (N:=some 68) (v:=?_) (a':=?_) #[bT,bT,bT,bT,bT,bT,bT,bT,bT,bT,bT,bT,bT,bT,bT,bT,bT,bT,bT,bf,bf,bf,bf,bf,bf,bf,bf,bf,bf,bf,bf] rfl rfl (any_of HT_.out (by kernel_rfl)) (fun _ _ _ h => h) (Or.inl ⟨by rfl,?_⟩) ?_ ?_
             rotate_left
             ·intro w';go_simp;with_reducible rfl
             rotate_left
             ·simp only [Act.put,q_ia5,q_cz5,q_cs5,i64_w,i32_w];rfl
             refine pure_ (i:=19) (N:=some 69) (v:=?_) (a':=?_) #[bT,bT,bT,bT,bT,bT,bT,bT,bT,bT,bT,bT,bT,bT,bT,bT,bT,bT,bT,bT,bf,bf,bf,bf,bf,bf,bf,bf,bf,bf,bf] rfl rfl (any_of HT_.out (by kernel_rfl)) (fun _ _ _ h => h) (Or.inl ⟨by rfl,?_⟩) ?_ ?_
             rotate_left
             ·intro w';go_simp;with_reducible rfl
             rotate_left
             ·simp only [Act.put,q_ia5,q_cz5,q_cs5,i64_w,i32_w];rfl
             refine pure_ (i:=20) (N:=some 70) (v:=undef) (a':=?_) #[bT,bT,bT,bT,bT,bT,bT,bT,bT,bT,bT,bT,bT,bT,bT,bT,bT,bT,bT,bT,bT,bf,bf,bf,bf,bf,bf,bf,bf,bf,bf] rfl rfl (any_of HT_.out (by kernel_rfl)) (fun _ _ _ h => h) (Or.inr ⟨by rfl,rfl⟩) ?_ ?_
             rotate_left
             ·simp only [Act.put,q_ia5,q_cz5,q_cs5,i64_w,i32_w];rfl
             refine pure_ (i:=21) (N:=some 71) (v:=undef) (a':=?_) #[bT,bT,bT,bT,bT,bT,bT,bT,bT,bT,bT,bT,bT,bT,bT,bT,bT,bT,bT,bT,bT,bT,bf,bf,bf,bf,bf,bf,bf,bf,bf] rfl rfl (any_of HT_.out (by kernel_rfl)) (fun _ _ _ h => h) (Or.inr ⟨by rfl,rfl⟩) ?_ ?_
             rotate_left
             ·simp only [Act.put,q_ia5,q_cz5,q_cs5,i64_w,i32_w];rfl
             refine pure_ (i:=22) (N:=some 72) (v:=undef) (a':=?_) #[bT,bT,bT,bT,bT,bT,bT,bT,bT,bT,bT,bT,bT,bT,bT,bT,bT,bT,bT,bT,bT,bT,bT,bf,bf,bf,bf,bf,bf,bf,bf] rfl rfl (any_of HT_.out (by kernel_rfl)) (fun _ _ _ h => h) (Or.inr ⟨by rfl,rfl⟩) ?_ ?_
             rotate_left
             ·simp only [Act.put,q_ia5,q_cz5,q_cs5,i64_w,i32_w];rfl
             refine pure_ (i:=23) (N:=some 73) (v:=undef) (a':=?_) #[bT,bT,bT,bT,bT,bT,bT,bT,bT,bT,bT,bT,bT,bT,bT,bT,bT,bT,bT,bT,bT,bT,bT,bT,bf,bf,bf,bf,bf,bf,bf] rfl rfl (any_of HT_.out (by kernel_rfl)) (fun _ _ _ h => h) (Or.inr ⟨by rfl,rfl⟩) ?_ ?_
             rotate_left
             ·simp only [Act.put,q_ia5,q_cz5,q_cs5,i64_w,i32_w];rfl
             refine pure_ (i:=24) (N:=some 74) (v:=undef) (a':=?_) #[bT,bT,bT,bT,bT,bT,bT,bT,bT,bT,bT,bT,bT,bT,bT,bT,bT,bT,bT,bT,bT,bT,bT,bT,bT,bf,bf,bf,bf,bf,bf] rfl rfl (any_of HT_.out (by kernel_rfl)) (fun _ _ _ h => h) (Or.inr ⟨by rfl,rfl⟩) ?_ ?_
             rotate_left
             ·simp only [Act.put,q_ia5,q_cz5,q_cs5,i64_w,i32_w];rfl
             refine pure_ (i:=25) (N:=some 75) (v:=undef) (a':=?_) #[bT,bT,bT,bT,bT,bT,bT,bT,bT,bT,bT,bT,bT,bT,bT,bT,bT,bT,bT,bT,bT,bT,bT,bT,bT,bT,bf,bf,bf,bf,bf] rfl rfl (any_of HT_.out (by kernel_rfl)) (fun _ _ _ h => h) (Or.inr ⟨by rfl,rfl⟩) ?_ ?_
             rotate_left
             ·simp only [Act.put,q_ia5,q_cz5,q_cs5,i64_w,i32_w];rfl
             refine pure_ (i:=26) (N:=some 76) (v:=undef) (a':=?_) #[bT,bT,bT,bT,bT,bT,bT,bT,bT,bT,bT,bT,bT,bT,bT,bT,bT,bT,bT,bT,bT,bT,bT,bT,bT,bT,bT,bf,bf,bf,bf] rfl rfl (any_of HT_.out (by kernel_rfl)) (fun _ _ _ h => h) (Or.inr ⟨by rfl,rfl⟩) ?_ ?_
             rotate_left
             ·simp only [Act.put,q_ia5,q_cz5,q_cs5,i64_w,i32_w];rfl
             refine pure_ (i:=27) (N:=some 77) (v:=undef) (a':=?_) #[bT,bT,bT,bT,bT,bT,bT,bT,bT,bT,bT,bT,bT,bT,bT,bT,bT,bT,bT,bT,bT,bT,bT,bT,bT,bT,bT,bT,bf,bf,bf] rfl rfl (any_of HT_.out (by kernel_rfl)) (fun _ _ _ h => h) (Or.inr ⟨by rfl,rfl⟩) ?_ ?_
             rotate_left
             ·simp only [Act.put,q_ia5,q_cz5,q_cs5,i64_w,i32_w];rfl
             refine pure_ (i:=28) (N:=some 78) (v:=undef) (a':=?_) #[bT,bT,bT,bT,bT,bT,bT,bT,bT,bT,bT,bT,bT,bT,bT,bT,bT,bT,bT,bT,bT,bT,bT,bT,bT,bT,bT,bT,bT,bf,bf] rfl rfl (any_of HT_.out (by kernel_rfl)) (fun _ _ _ h => h) (Or.inr ⟨by rfl,rfl⟩) ?_ ?_
             rotate_left
             ·simp only [Act.put,q_ia5,q_cz5,q_cs5,i64_w,i32_w];rfl
             refine pure_ (i:=29) (N:=some 79) (v:=?_) (a':=?_) #[bT,bT,bT,bT,bT,bT,bT,bT,bT,bT,bT,bT,bT,bT,bT,bT,bT,bT,bT,bT,bT,bT,bT,bT,bT,bT,bT,bT,bT,bT,bf] rfl rfl (any_of HT_.out (by kernel_rfl)) (fun _ _ _ h => h) (Or.inl ⟨by rfl,?_⟩) ?_ ?_
             rotate_left
             ·intro w';go_simp;with_reducible rfl
             rotate_left
             ·simp only [Act.put,q_ia5,q_cz5,q_cs5,i64_w,i32_w];rfl
             refine pure_ (i:=30) (N:=some 80) (v:=?_) (a':=?_) #[bT,bT,bT,bT,bT,bT,bT,bT,bT,bT,bT,bT,bT,bT,bT,bT,bT,bT,bT,bT,bT,bT,bT,bT,bT,bT,bT,bT,bT,bT,bT] rfl rfl (any_of HT_.out (by kernel_rfl)) (fun _ _ _ h => h) (Or.inl ⟨by rfl,?_⟩) ?_ ?_
             rotate_left
             ·intro w';go_simp;with_reducible rfl
             rotate_left
             ·simp only [Act.put,q_ia5,q_cz5,q_cs5,i64_w,i32_w];rfl
             refine done_ (done_of HT_.out (by kernel_rfl)) ?_
             try go_wp2
             go_roundg k2
             case measure => have:=HK1.out;have:=HK2.out;omega
             case rel => exact ⟨(wrap64 (x45_2 + 1)),(by first|rfl|(simp;done)|(simp [*];done)),H',⟨by have:=HK1.out;have:=HK2.out;omega⟩,⟨by (with_reducible repeat (first|refine bN ?_ _|refine bD ?_|refine bA ?_ _));exact BK176.out⟩,⟨by repeat (first|(with_reducible first|exact HB.out|apply lA|apply lN|apply lD|refine lS ?_ GE176.out|refine lS ?_ GE182.out)|exact HB.out)⟩⟩
         ·replace c45:=Bool.eq_false_iff.mpr c45
          subst c45
          have H1 : (some false) = some r:=by rw [if_neg (show ¬ (false = true) by decide)] at H;exact H
          clear H
          have H:=H1
          clear H1
          obtain rfl:=Option.some.inj H
          have p181 : 0 ≤ (x45_2 : Int):=of_decide_eq_true (by first|(with_reducible assumption)|assumption)
          have q181 : x45_2 < (l0_1.length : Int):=of_decide_eq_true (by first|(with_reducible assumption)|assumption)
          obtain ⟨ad181,e181,hx181_0,hx181_1,hx181_2⟩:=at_T61 HR0_1.out x45_2 p181 q181
          cases e181
          replace hx181_0:=(HB.out.cell (World.block_lt_of_cell? w _ hx181_0)).trans hx181_0
          replace hx181_1:=(HB.out.cell (World.block_lt_of_cell? w _ hx181_1)).trans hx181_1
          replace hx181_2:=(HB.out.cell (World.block_lt_of_cell? w _ hx181_2)).trans hx181_2
          replace p181:=eq_true p181
          replace q181:=eq_true q181
          try go_wp2_with (first|((with_reducible refine gate_dst (N:=6) rfl ?_);(try (refine gate_guard (by rfl) ?_;dsimp only));refine box_event ?hg (N:=6) ?hd (cs:=#[.string (⟨#[]⟩ : ByteArray),.string (⟨#[]⟩ : ByteArray),.string (⟨#[]⟩ : ByteArray)]) (t:=61) ?hr ?_;(case hd => rfl);(case hg => rfl);(case hr => first|(go_simp;done)|(go_simp;rfl));intro gb182 hg w81 hbox hb;have n0_:=aM (bB (g:=gb176) (o:=.cells #[.slice A0_0 l0_0.length c0_0,.slice (some ad181) l0_1.length c0_1,.string a0_2] 54 (0,0)) (by (with_reducible repeat (first|refine bN ?_ _|refine bD ?_|refine bA ?_ _));exact BK176.out) hb);have n1_:=aM (lP (by repeat (first|(with_reducible first|exact HB.out|apply lA|apply lN|apply lD|refine lS ?_ GE176.out)|exact HB.out)) hb);have n2_:=aM (hbox);have n3_:=aM ((by rw [hg];exact (lZ (by repeat (first|(with_reducible first|exact HB.out|apply lA|apply lN|apply lD|refine lS ?_ GE176.out)|exact HB.out))) : w.heap.size ≤ gb182));have n4_:=aM ((by rw [hg];exact (lZ (by repeat (first|(with_reducible first|exact HB.out|apply lA|apply lN|apply lD|refine lS ?_ GE176.out)|exact HB.out))) : w.heap.size ≤ gb182));have n5_:=aM ((by rw [hg];exact Nat.ne_of_lt (bL (g:=gb176) (o:=.cells #[.slice A0_0 l0_0.length c0_0,.slice (some ad181) l0_1.length c0_1,.string a0_2] 54 (0,0)) (by (with_reducible repeat (first|refine bN ?_ _|refine bD ?_|refine bA ?_ _));exact BK176.out)) : gb176 ≠ gb182));have n6_:=aM ((by rw [hg];exact Nat.ne_of_gt (bL (g:=gb176) (o:=.cells #[.slice A0_0 l0_0.length c0_0,.slice (some ad181) l0_1.length c0_1,.string a0_2] 54 (0,0)) (by (with_reducible repeat (first|refine bN ?_ _|refine bD ?_|refine bA ?_ _));exact BK176.out)) : gb182 ≠ gb176));clear BK176 HB;have BK176:=n0_;have HB:=n1_;have BK182:=n2_;have GW182:=n3_;have GE182:=n4_;have NB176_182:=n5_;have NB182_176:=n6_;clear n0_ n1_ n2_ n3_ n4_ n5_ n6_ hb hbox hg;have hnb82:=NB182_176.out;have hnc82:=NB176_182.out;have hcz83_0 : w81.cell? ⟨gb182,0,none⟩ = some (.string (⟨#[]⟩ : ByteArray)):=(bC BK182.out 0).trans rfl;have hcz83_1 : w81.cell? ⟨gb182,1,none⟩ = some (.string (⟨#[]⟩ : ByteArray)):=(bC BK182.out 1).trans rfl;have hcz83_2 : w81.cell? ⟨gb182,2,none⟩ = some (.string (⟨#[]⟩ : ByteArray)):=(bC BK182.out 2).trans rfl;have hfz83_0:=bF BK182.out 0;have hfz83_1:=bF BK182.out 1;have hfz83_2:=bF BK182.out 2))
          have n0_ : Aside0 ((((w81.setCell ⟨gb182,0,none⟩ (.string ((rd_T61 l0_1 x45_2).f0))).setCell ⟨gb182,1,none⟩ (.string ((rd_T61 l0_1 x45_2).f1))).setCell ⟨gb182,2,none⟩ (.string ((rd_T61 l0_1 x45_2).f2))).heap[gb176]? = some (.cells #[.slice A0_0 l0_0.length c0_0,.slice (some ad181) l0_1.length c0_1,.string a0_2] 54 (0,0))):=⟨by (with_reducible repeat (first|refine bN ?_ _|refine bD ?_|refine bA ?_ _));refine blk_far ?_ NB176_182.out _;(with_reducible repeat (first|refine bN ?_ _|refine bD ?_|refine bA ?_ _));refine blk_far ?_ NB176_182.out _;(with_reducible repeat (first|refine bN ?_ _|refine bD ?_|refine bA ?_ _));refine blk_far ?_ NB176_182.out _;(with_reducible repeat (first|refine bN ?_ _|refine bD ?_|refine bA ?_ _));exact BK176.out⟩
          have n1_ : Aside0 ((((w81.setCell ⟨gb182,0,none⟩ (.string ((rd_T61 l0_1 x45_2).f0))).setCell ⟨gb182,1,none⟩ (.string ((rd_T61 l0_1 x45_2).f1))).setCell ⟨gb182,2,none⟩ (.string ((rd_T61 l0_1 x45_2).f2))).heap[gb182]? = some (.cells #[.string ((rd_T61 l0_1 x45_2).f0),.string ((rd_T61 l0_1 x45_2).f1),.string ((rd_T61 l0_1 x45_2).f2)] 61 (0,0))):=⟨by (with_reducible repeat (first|refine bN ?_ _|refine bD ?_|refine bA ?_ _));refine blk_put (cs:=#[.string ((rd_T61 l0_1 x45_2).f0),.string ((rd_T61 l0_1 x45_2).f1),.string (⟨#[]⟩ : ByteArray)]) ?_ 2 _ rfl;(with_reducible repeat (first|refine bN ?_ _|refine bD ?_|refine bA ?_ _));refine blk_put (cs:=#[.string ((rd_T61 l0_1 x45_2).f0),.string (⟨#[]⟩ : ByteArray),.string (⟨#[]⟩ : ByteArray)]) ?_ 1 _ rfl;(with_reducible repeat (first|refine bN ?_ _|refine bD ?_|refine bA ?_ _));refine blk_put (cs:=#[.string (⟨#[]⟩ : ByteArray),.string (⟨#[]⟩ : ByteArray),.string (⟨#[]⟩ : ByteArray)]) ?_ 0 _ rfl;(with_reducible repeat (first|refine bN ?_ _|refine bD ?_|refine bA ?_ _));exact BK182.out⟩
          have n2_ : Aside0 (Below w.heap.size w (((w81.setCell ⟨gb182,0,none⟩ (.string ((rd_T61 l0_1 x45_2).f0))).setCell ⟨gb182,1,none⟩ (.string ((rd_T61 l0_1 x45_2).f1))).setCell ⟨gb182,2,none⟩ (.string ((rd_T61 l0_1 x45_2).f2)))):=⟨by repeat (first|(with_reducible first|exact HB.out|apply lA|apply lN|apply lD|refine lS ?_ GE176.out|refine lS ?_ GE182.out)|exact HB.out)⟩
          (try clear BK176)
          (try clear BK182)
          (try clear HB)
          generalize (((w81.setCell ⟨gb182,0,none⟩ (.string ((rd_T61 l0_1 x45_2).f0))).setCell ⟨gb182,1,none⟩ (.string ((rd_T61 l0_1 x45_2).f1))).setCell ⟨gb182,2,none⟩ (.string ((rd_T61 l0_1 x45_2).f2))) = w84 at n0_ n1_ n2_ ⊢
          have BK176:=n0_
          have BK182:=n1_
          have HB:=n2_
          clear n0_ n1_ n2_
          have n0_:=aM (bD BK176.out)
          have n1_:=aM (bD BK182.out)
          have n2_:=aM (lD HB.out)
          clear BK176
          clear BK182
          clear HB
          have BK176:=n0_
          have BK182:=n1_
          have HB:=n2_
          clear n0_ n1_ n2_
          refine start_ (n:=31) (S:=fun w' => w'.cell? ⟨gb182,0,none⟩ = some (.string ((rd_T61 l0_1 x45_2).f0)) ∧ w'.cell? ⟨gb182,1,none⟩ = some (.string ((rd_T61 l0_1 x45_2).f1)) ∧ w'.cell? ⟨gb182,2,none⟩ = some (.string ((rd_T61 l0_1 x45_2).f2))) (ds:=[]) #[bf,bf,bf,bf,bf,bf,bf,bf,bf,bf,bf,bf,bf,bf,bf,bf,bf,bf,bf,bf,bf,bf,bf,bf,bf,bf,bf,bf,bf,bf,bf] (by kernel_rfl) rfl rfl ⟨(bC BK182.out 0).trans rfl,(bC BK182.out 1).trans rfl,(bC BK182.out 2).trans rfl⟩ (fun hHeld => ?_);refine with_tabW impl_StoreOk.tab10 impl_StoreOk.bits10 (fun HT_ HW_ => ?_)
          generalize w84.drew = w85 at BK176 BK182 HB hHeld ⊢
          refine pure_ (i:=0) (N:=some 50) (v:=?_) (a':=?_) #[bT,bf,bf,bf,bf,bf,bf,bf,bf,bf,bf,bf,bf,bf,bf,bf,bf,bf,bf,bf,bf,bf,bf,bf,bf,bf,bf,bf,bf,bf,bf] rfl rfl (any_of HT_.out (by kernel_rfl)) (fun _ _ _ h => h) (Or.inl ⟨by rfl,?_⟩) ?_ ?_
          rotate_left
          ·intro w';go_simp;with_reducible rfl
          rotate_left
          ·simp only [Act.put,q_ia5,q_cz5,q_cs5,i64_w,i32_w];rfl
          refine take_ (i:=1) (N:=some 51) (v:=?_) (a':=?_) #[bT,bT,bf,bf,bf,bf,bf,bf,bf,bf,bf,bf,bf,bf,bf,bf,bf,bf,bf,bf,bf,bf,bf,bf,bf,bf,bf,bf,bf,bf,bf] rfl rfl (take_ofW HT_.out HW_.out (by kernel_rfl)) (fun _ _ _ h => h) (Or.inl ⟨by rfl,?_⟩) hHeld ?_ ?_
          rotate_left
          ·rintro w' ⟨s0,s1,s2⟩
           go_simp
           with_reducible rfl
          rotate_left
          ·simp only [Act.put,q_ia5,q_cz5,q_cs5,i64_w,i32_w];rfl
          refine one_ (i:=2) (N:=some 52) #[bT,bT,bT,bf,bf,bf,bf,bf,bf,bf,bf,bf,bf,bf,bf,bf,bf,bf,bf,bf,bf,bf,bf,bf,bf,bf,bf,bf,bf,bf,bf] rfl rfl (one_of HT_.out (by kernel_rfl)) (by decide) (fun K hK => ?_)
          refine goes_ Try.func107 (by kernel_rfl) rfl #[.string ((rd_T61 l0_1 x45_2).f0)] (by rfl) rfl rfl (by (try simp only [List.map_toArray,List.map_cons,List.map_nil]);first|done|rfl|(simp only [List.length_drop,List.length_take];rfl)) ?_
          with_reducible refine (impl_isLetters.calls k2 ((rd_T61 l0_1 x45_2).f0) false _ A44.out).mono ?_
          rintro e w' ⟨rfl,⟨nd,rfl⟩⟩
          refine ⟨_,rfl,?_⟩
          refine hK.out _ _ ⟨(bC BK182.out 0).trans rfl,(bC BK182.out 1).trans rfl,(bC BK182.out 2).trans rfl⟩ (fun hHeld => ?_)
          clear hK K
          refine norm_ (a':=?_) ?_ ?_
          rotate_left
          ·show Act.put _ (some 52) _ = _
           simp only [Act.put,q_ia5,q_cz5,q_cs5,i64_w,i32_w]
           rfl
          refine pure_ (i:=3) (N:=some 53) (v:=?_) (a':=?_) #[bT,bT,bT,bT,bf,bf,bf,bf,bf,bf,bf,bf,bf,bf,bf,bf,bf,bf,bf,bf,bf,bf,bf,bf,bf,bf,bf,bf,bf,bf,bf] rfl rfl (any_of HT_.out (by kernel_rfl)) (fun _ _ _ h => h) (Or.inl ⟨by rfl,?_⟩) ?_ ?_
          rotate_left
          ·intro w';go_simp;with_reducible rfl
          rotate_left
          ·simp only [Act.put,q_ia5,q_cz5,q_cs5,i64_w,i32_w];rfl
          refine pure_ (i:=4) (N:=some 54) (v:=?_) (a':=?_) #[bT,bT,bT,bT,bT,bf,bf,bf,bf,bf,bf,bf,bf,bf,bf,bf,bf,bf,bf,bf,bf,bf,bf,bf,bf,bf,bf,bf,bf,bf,bf] rfl rfl (any_of HT_.out (by kernel_rfl)) (fun _ _ _ h => h) (Or.inl ⟨by rfl,?_⟩) ?_ ?_
          rotate_left
          ·intro w';go_simp;with_reducible rfl
          rotate_left
          ·simp only [Act.put,q_ia5,q_cz5,q_cs5,i64_w,i32_w];rfl
          refine pure_ (i:=5) (N:=some 55) (v:=undef) (a':=?_) #[bT,bT,bT,bT,bT,bT,bf,bf,bf,bf,bf,bf,bf,bf,bf,bf,bf,bf,bf,bf,bf,bf,bf,bf,bf,bf,bf,bf,bf,bf,bf] rfl rfl (any_of HT_.out (by kernel_rfl)) (fun _ _ _ h => h) (Or.inr ⟨by rfl,rfl⟩) ?_ ?_
          rotate_left
          ·simp only [Act.put,q_ia5,q_cz5,q_cs5,i64_w,i32_w];rfl
          refine pure_ (i:=6) (N:=some 56) (v:=undef) (a':=?_) #[bT,bT,bT,bT,bT,bT,bT,bf,bf,bf,bf,bf,bf,bf,bf,bf,bf,bf,bf,bf,bf,bf,bf,bf,bf,bf,bf,bf,bf,bf,bf] rfl rfl (any_of HT_.out (by kernel_rfl)) (fun _ _ _ h => h) (Or.inr ⟨by rfl,rfl⟩) ?_ ?_
          rotate_left
          ·simp only [Act.put,q_ia5,q_cz5,q_cs5,i64_w,i32_w];rfl
          refine pure_ (i:=7) (N:=some 57) (v:=undef) (a':=?_) #[bT,bT,bT,bT,bT,bT,bT,bT,bf,bf,bf,bf,bf,bf,bf,bf,bf,bf,bf,bf,bf,bf,bf,bf,bf,bf,bf,bf,bf,bf,bf] rfl rfl (any_of HT_.out (by kernel_rfl)) (fun _ _ _ h => h) (Or.inr ⟨by rfl,rfl⟩) ?_ ?_
          rotate_left
          ·simp only [Act.put,q_ia5,q_cz5,q_cs5,i64_w,i32_w];rfl
          refine pure_ (i:=8) (N:=some 58) (v:=undef) (a':=?_) #[bT,bT,bT,bT,bT,bT,bT,bT,bT,bf,bf,bf,bf,bf,bf,bf,bf,bf,bf,bf,bf,bf,bf,bf,bf,bf,bf,bf,bf,bf,bf] rfl rfl (any_of HT_.out (by kernel_rfl)) (fun _ _ _ h => h) (Or.inr ⟨by rfl,rfl⟩) ?_ ?_
          rotate_left
          ·simp only [Act.put,q_ia5,q_cz5,q_cs5,i64_w,i32_w];rfl
          refine pure_ (i:=9) (N:=some 59) (v:=?_) (a':=?_) #[bT,bT,bT,bT,bT,bT,bT,bT,bT,bT,bf,bf,bf,bf,bf,bf,bf,bf,bf,bf,bf,bf,bf,bf,bf,bf,bf,bf,bf,bf,bf] rfl rfl (any_of HT_.out (by kernel_rfl)) (fun _ _ _ h => h) (Or.inl ⟨by rfl,?_⟩) ?_ ?_
          rotate_left
          ·intro w';go_simp;with_reducible rfl
          rotate_left
          ·simp only [Act.put,q_ia5,q_cz5,q_cs5,i64_w,i32_w];rfl
          refine pure_ (i:=10) (N:=some 60) (v:=?_) (a':=?_) #[bT,bT,bT,bT,bT,bT,bT,bT,bT,bT,bT,bf,bf,bf,bf,bf,bf,bf,bf,bf,bf,bf,bf,bf,bf,bf,bf,bf,bf,bf,bf] rfl rfl (any_of HT_.out (by kernel_rfl)) (fun _ _ _ h => h) (Or.inl ⟨by rfl,?_⟩) ?_ ?_
          rotate_left
          ·intro w';go_simp;with_reducible rfl
          rotate_left
          ·simp only [Act.put,q_ia5,q_cz5,q_cs5,i64_w,i32_w];rfl
          refine pure_ (i:=11) (N:=some 61) (v:=undef) (a':=?_) #[bT,bT,bT,bT,bT,bT,bT,bT,bT,bT,bT,bT,bf,bf,bf,bf,bf,bf,bf,bf,bf,bf,bf,bf,bf,bf,bf,bf,bf,bf,bf] rfl rfl (any_of HT_.out (by kernel_rfl)) (fun _ _ _ h => h) (Or.inr ⟨by rfl,rfl⟩) ?_ ?_
          rotate_left
          ·simp only [Act.put,q_ia5,q_cz5,q_cs5,i64_w,i32_w];rfl
          refine pure_ (i:=12) (N:=some 62) (v:=undef) (a':=?_) #[bT,bT,bT,bT,bT,bT,bT,bT,bT,bT,bT,bT,bT,bf,bf,bf,bf,bf,bf,bf,bf,bf,bf,bf,bf,bf,bf,bf,bf,bf,bf] rfl rfl (any_of HT_.out (by kernel_rfl)) (fun _ _ _ h => h) (Or.inr ⟨by rfl,rfl⟩) ?_ ?_
          rotate_left
          ·simp only [Act.put,q_ia5,q_cz5,q_cs5,i64_w,i32_w];rfl
          refine pure_ (i:=13) (N:=some 63) (v:=undef) (a':=?_) #[bT,bT,bT,bT,bT,bT,bT,bT,bT,bT,bT,bT,bT,bT,bf,bf,bf,bf,bf,bf,bf,bf,bf,bf,bf,bf,bf,bf,bf,bf,bf] rfl rfl (any_of HT_.out (by kernel_rfl)) (fun _ _ _ h => h) (Or.inr ⟨by rfl,rfl⟩) ?_ ?_
          rotate_left
          ·simp only [Act.put,q_ia5,q_cz5,q_cs5,i64_w,i32_w];rfl
          refine pure_ (i:=14) (N:=some 64) (v:=undef) (a':=?_) #[bT,bT,bT,bT,bT,bT,bT,bT,bT,bT,bT,bT,bT,bT,bT,bf,bf,bf,bf,bf,bf,bf,bf,bf,bf,bf,bf,bf,bf,bf,bf] rfl rfl (any_of HT_.out (by kernel_rfl)) (fun _ _ _ h => h) (Or.inr ⟨by rfl,rfl⟩) ?_ ?_
          rotate_left
          ·simp only [Act.put,q_ia5,q_cz5,q_cs5,i64_w,i32_w];rfl
          refine pure_ (i:=15) (N:=some 65) (v:=?_) (a':=?_) #[bT,bT,bT,bT,bT,bT,bT,bT,bT,bT,bT,bT,bT,bT,bT,bT,bf,bf,bf,bf,bf,bf,bf,bf,bf,bf,bf,bf,bf,bf,bf] rfl rfl (any_of HT_.out (by kernel_rfl)) (fun _ _ _ h => h) (Or.inl ⟨by rfl,?_⟩) ?_ ?_
          rotate_left
          ·intro w';go_simp;with_reducible rfl
          rotate_left
          ·simp only [Act.put,q_ia5,q_cz5,q_cs5,i64_w,i32_w];rfl
          refine pure_ (i:=16) (N:=some 66) (v:=?_) (a':=?_) #[bT,bT,bT,bT,bT,bT,bT,bT,bT,bT,bT,bT,bT,bT,bT,bT,bT,bf,bf,bf,bf,bf,bf,bf,bf,bf,bf,bf,bf,bf,bf] rfl rfl (any_of HT_.out (by kernel_rfl)) (fun _ _ _ h => h) (Or.inl ⟨by rfl,?_⟩) ?_ ?_
          rotate_left
          ·intro w';go_simp;with_reducible rfl
          rotate_left
          ·simp only [Act.put,q_ia5,q_cz5,q_cs5,i64_w,i32_w];rfl
          refine pure_ (i:=17) (N:=some 67) (v:=undef) (a':=?_) #[bT,bT,bT,bT,bT,bT,bT,bT,bT,bT,bT,bT,bT,bT,bT,bT,bT,bT,bf,bf,bf,bf,bf,bf,bf,bf,bf,bf,bf,bf,bf] rfl rfl (any_of HT_.out (by kernel_rfl)) (fun _ _ _ h => h) (Or.inr ⟨by rfl,rfl⟩) ?_ ?_
          rotate_left
          ·simp only [Act.put,q_ia5,q_cz5,q_cs5,i64_w,i32_w];rfl
          refine pure_ (i:=18) (N:=some 68) (v:=undef) (a':=?_) #[bT,bT,bT,bT,bT,bT,bT,bT,bT,bT,bT,bT,bT,bT,bT,bT,bT,bT,bT,bf,bf,bf,bf,bf,bf,bf,bf,bf,bf,bf,bf] rfl rfl (any_of HT_.out (by kernel_rfl)) (fun _ _ _ h => h) (Or.inr ⟨by rfl,rfl⟩) ?_ ?_
          rotate_left
          ·simp only [Act.put,q_ia5,q_cz5,q_cs5,i64_w,i32_w];rfl
          refine pure_ (i:=19) (N:=some 69) (v:=undef) (a':=?_) #[bT,bT,bT,bT,bT,bT,bT,bT,bT,bT,bT,bT,bT,bT,bT,bT,bT,bT,bT,bT,bf,bf,bf,bf,bf,bf,bf,bf,bf,bf,bf] rfl rfl (any_of HT_.out (by kernel_rfl)) (fun _ _ _ h => h) (Or.inr ⟨by rfl,rfl⟩) ?_ ?_
          rotate_left
          ·simp only [Act.put,q_ia5,q_cz5,q_cs5,i64_w,i32_w];rfl
          refine pure_ (i:=20) (N:=some 70) (v:=undef) (a':=?_) #[bT,bT,bT,bT,bT,bT,bT,bT,bT,bT,bT,bT,bT,bT,bT,bT,bT,bT,bT,bT,bT,bf,bf,bf,bf,bf,bf,bf,bf,bf,bf] rfl rfl (any_of HT_.out (by kernel_rfl)) (fun _ _ _ h => h) (Or.inr ⟨by rfl,rfl⟩) ?_ ?_
          rotate_left
          ·simp only [Act.put,q_ia5,q_cz5,q_cs5,i64_w,i32_w];rfl
          refine pure_ (i:=21) (N:=some 71) (v:=undef) (a':=?_) #[bT,bT,bT,bT,bT,bT,bT,bT,bT,bT,bT,bT,bT,bT,bT,bT,bT,bT,bT,bT,bT,bT,bf,bf,bf,bf,bf,bf,bf,bf,bf] rfl rfl (any_of HT_.out (by kernel_rfl)) (fun _ _ _ h => h) (Or.inr ⟨by rfl,rfl⟩) ?_ ?_
          rotate_left
          ·simp only [Act.put,q_ia5,q_cz5,q_cs5,i64_w,i32_w];rfl
          refine pure_ (i:=22) (N:=some 72) (v:=undef) (a':=?_) #[bT,bT,bT,bT,bT,bT,bT,bT,bT,bT,bT,bT,bT,bT,bT,bT,bT,bT,bT,bT,bT,bT,bT,bf,bf,bf,bf,bf,bf,bf,bf] rfl rfl (any_of HT_.out (by kernel_rfl)) (fun _ _ _ h => h) (Or.inr ⟨by rfl,rfl⟩) ?_ ?_
          rotate_left
          ·simp only [Act.put,q_ia5,q_cz5,q_cs5,i64_w,i32_w];rfl
          refine pure_ (i:=23) (N:=some 73) (v:=undef) (a':=?_) #[bT,bT,bT,bT,bT,bT,bT,bT,bT,bT,bT,bT,bT,bT,bT,bT,bT,bT,bT,bT,bT,bT,bT,bT,bf,bf,bf,bf,bf,bf,bf] rfl rfl (any_of HT_.out (by kernel_rfl)) (fun _ _ _ h => h) (Or.inr ⟨by rfl,rfl⟩) ?_ ?_
          rotate_left
          ·simp only [Act.put,q_ia5,q_cz5,q_cs5,i64_w,i32_w];rfl
          refine pure_ (i:=24) (N:=some 74) (v:=undef) (a':=?_) #[bT,bT,bT,bT,bT,bT,bT,bT,bT,bT,bT,bT,bT,bT,bT,bT,bT,bT,bT,bT,bT,bT,bT,bT,bT,bf,bf,bf,bf,bf,bf] rfl rfl (any_of HT_.out (by kernel_rfl)) (fun _ _ _ h => h) (Or.inr ⟨by rfl,rfl⟩) ?_ ?_
          rotate_left
          ·simp only [Act.put,q_ia5,q_cz5,q_cs5,i64_w,i32_w];rfl
          refine pure_ (i:=25) (N:=some 75) (v:=undef) (a':=?_) #[bT,bT,bT,bT,bT,bT,bT,bT,bT,bT,bT,bT,bT,bT,bT,bT,bT,bT,bT,bT,bT,bT,bT,bT,bT,bT,bf,bf,bf,bf,bf] rfl rfl (any_of HT_.out (by kernel_rfl)) (fun _ _ _ h => h) (Or.inr ⟨by rfl,rfl⟩) ?_ ?_
          rotate_left
          ·simp only [Act.put,q_ia5,q_cz5,q_cs5,i64_w,i32_w];rfl
          refine pure_ (i:=26) (N:=some 76) (v:=undef) (a':=?_) #[bT,bT,bT,bT,bT,bT,bT,bT,bT,bT,bT,bT,bT,bT,bT,bT,bT,bT,bT,bT,bT,bT,bT,bT,bT,bT,bT,bf,bf,bf,bf] rfl rfl (any_of HT_.out (by kernel_rfl)) (fun _ _ _ h => h) (Or.inr ⟨by rfl,rfl⟩) ?_ ?_
          rotate_left
          ·simp only [Act.put,q_ia5,q_cz5,q_cs5,i64_w,i32_w];rfl
          refine pure_ (i:=27) (N:=some 77) (v:=undef) (a':=?_) #[bT,bT,bT,bT,bT,bT,bT,bT,bT,bT,bT,bT,bT,bT,bT,bT,bT,bT,bT,bT,bT,bT,bT,bT,bT,bT,bT,bT,bf,bf,bf] rfl rfl (any_of HT_.out (by kernel_rfl)) (fun _ _ _ h => h) (Or.inr ⟨by rfl,rfl⟩) ?_ ?_
          rotate_left
          ·simp only [Act.put,q_ia5,q_cz5,q_cs5,i64_w,i32_w];rfl
          refine pure_ (i:=28) (N:=some 78) (v:=undef) (a':=?_) #[bT,bT,bT,bT,bT,bT,bT,bT,bT,bT,bT,bT,bT,bT,bT,bT,bT,bT,bT,bT,bT,bT,bT,bT,bT,bT,bT,bT,bT,bf,bf] rfl rfl (any_of HT_.out (by kernel_rfl)) (fun _ _ _ h => h) (Or.inr ⟨by rfl,rfl⟩) ?_ ?_
          rotate_left
          ·simp only [Act.put,q_ia5,q_cz5,q_cs5,i64_w,i32_w];rfl
          refine pure_ (i:=29) (N:=some 79) (v:=undef) (a':=?_) #[bT,bT,bT,bT,bT,bT,bT,bT,bT,bT,bT,bT,bT,bT,bT,bT,bT,bT,bT,bT,bT,bT,bT,bT,bT,bT,bT,bT,bT,bT,bf] rfl rfl (any_of HT_.out (by kernel_rfl)) (fun _ _ _ h => h) (Or.inr ⟨by rfl,rfl⟩) ?_ ?_
          rotate_left
          ·simp only [Act.put,q_ia5,q_cz5,q_cs5,i64_w,i32_w];rfl
          refine pure_ (i:=30) (N:=some 80) (v:=?_) (a':=?_) #[bT,bT,bT,bT,bT,bT,bT,bT,bT,bT,bT,bT,bT,bT,bT,bT,bT,bT,bT,bT,bT,bT,bT,bT,bT,bT,bT,bT,bT,bT,bT] rfl rfl (any_of HT_.out (by kernel_rfl)) (fun _ _ _ h => h) (Or.inl ⟨by rfl,?_⟩) ?_ ?_
          rotate_left
          ·intro w';go_simp;with_reducible rfl
          rotate_left
          ·simp only [Act.put,q_ia5,q_cz5,q_cs5,i64_w,i32_w];rfl
          refine done_ (done_of HT_.out (by kernel_rfl)) ?_
          try go_wp2
          go_ret
          exact ⟨by first|rfl|(simp [errW_none,errW_some] <;> rfl)|(simp [*,errW_none,errW_some] <;> rfl),by repeat (first|(with_reducible first|exact HB.out|apply lA|apply lN|apply lD|refine lS ?_ GE176.out|refine lS ?_ GE182.out)|exact HB.out)⟩
        ·rw [if_neg c43] at H
         exact absurd H (by simp)
       ·rw [if_neg c42] at H
        exact absurd H (by simp)
      ·rw [if_neg c41] at H
       have c41b0 : decide (x45_2 < (l0_1.length : Int)) = false:=decide_eq_false c41
       clear c41
       by_cases c86 : (l0_0.length : Int) ≤ 60
       ·rw [if_pos c86] at H
        have c86b0 : decide ((l0_0.length : Int) ≤ 60) = true:=decide_eq_true c86
        have c86b1 : decide (l0_0.length ≤ 60) = true:=decide_eq_true (by omega)
        clear c86
        by_cases c87 : (l0_1.length : Int) ≤ 2000
        ·rw [if_pos c87] at H
         have c87b0 : decide ((l0_1.length : Int) ≤ 2000) = true:=decide_eq_true c87
         have c87b1 : decide (l0_1.length ≤ 2000) = true:=decide_eq_true (by omega)
         clear c87
         obtain rfl:=Option.some.inj H
         have hcz88_0 : wr.cell? ⟨gb176,0,none⟩ = some (.slice A0_0 l0_0.length c0_0):=(bC BK176.out 0).trans rfl
         have hcz88_1 : wr.cell? ⟨gb176,1,none⟩ = some (.slice A0_1 l0_1.length c0_1):=(bC BK176.out 1).trans rfl
         have hcz88_2 : wr.cell? ⟨gb176,2,none⟩ = some (.string a0_2):=(bC BK176.out 2).trans rfl
         have hfz88_0:=bF BK176.out 0
         have hfz88_1:=bF BK176.out 1
         have hfz88_2:=bF BK176.out 2
         go_wp2
         go_ret
         exact ⟨by first|rfl|(simp [errW_none,errW_some] <;> rfl)|(simp [*,errW_none,errW_some] <;> rfl),by repeat (first|(with_reducible first|exact HB.out|apply lA|apply lN|apply lD|refine lS ?_ GE176.out)|exact HB.out)⟩
        ·rw [if_neg c87] at H
         have c87b0 : decide ((l0_1.length : Int) ≤ 2000) = false:=decide_eq_false c87
         have c87b1 : decide (l0_1.length ≤ 2000) = false:=decide_eq_false (by omega)
         clear c87
         obtain rfl:=Option.some.inj H
         have hcz89_0 : wr.cell? ⟨gb176,0,none⟩ = some (.slice A0_0 l0_0.length c0_0):=(bC BK176.out 0).trans rfl
         have hcz89_1 : wr.cell? ⟨gb176,1,none⟩ = some (.slice A0_1 l0_1.length c0_1):=(bC BK176.out 1).trans rfl
         have hcz89_2 : wr.cell? ⟨gb176,2,none⟩ = some (.string a0_2):=(bC BK176.out 2).trans rfl
         have hfz89_0:=bF BK176.out 0
         have hfz89_1:=bF BK176.out 1
         have hfz89_2:=bF BK176.out 2
         go_wp2
         go_ret
         exact ⟨by first|rfl|(simp [errW_none,errW_some] <;> rfl)|(simp [*,errW_none,errW_some] <;> rfl),by repeat (first|(with_reducible first|exact HB.out|apply lA|apply lN|apply lD|refine lS ?_ GE176.out)|exact HB.out)⟩
       ·rw [if_neg c86] at H
        have c86b0 : decide ((l0_0.length : Int) ≤ 60) = false:=decide_eq_false c86
        have c86b1 : decide (l0_0.length ≤ 60) = false:=decide_eq_false (by omega)
        clear c86
        obtain rfl:=Option.some.inj H
        have hcz90_0 : wr.cell? ⟨gb176,0,none⟩ = some (.slice A0_0 l0_0.length c0_0):=(bC BK176.out 0).trans rfl
        have hcz90_1 : wr.cell? ⟨gb176,1,none⟩ = some (.slice A0_1 l0_1.length c0_1):=(bC BK176.out 1).trans rfl
        have hcz90_2 : wr.cell? ⟨gb176,2,none⟩ = some (.string a0_2):=(bC BK176.out 2).trans rfl
        have hfz90_0:=bF BK176.out 0
        have hfz90_1:=bF BK176.out 1
        have hfz90_2:=bF BK176.out 2
        go_wp2
        go_ret
        exact ⟨by first|rfl|(simp [errW_none,errW_some] <;> rfl)|(simp [*,errW_none,errW_some] <;> rfl),by repeat (first|(with_reducible first|exact HB.out|apply lA|apply lN|apply lD|refine lS ?_ GE176.out)|exact HB.out)⟩

end Go.Proofs.Ytjbfppakafkkoaa.QFnExactStoreOk
