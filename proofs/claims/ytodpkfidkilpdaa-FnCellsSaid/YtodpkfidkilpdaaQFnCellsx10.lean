-- A text of this session, made by wip/own_print.py (the kit's print with additions of ours).
import Derived.Test.YtodpkfidkilpdaaQFnCellsx0
import Derived.Test.YtodpkfidkilpdaaQFnCellsx5
import Derived.Test.YtodpkfidkilpdaaQFnCellsx9
namespace Go.Proofs.Ytodpkfidkilpdaa.QFnCells
open Go.RowKit Go.Proofs.YtodpkfidkilpdaaW.PrintWords Go.Proofs.YtodpkfidkilpdaaW.PrintLast Go.Proofs.YtodpkfidkilpdaaW.PrintMore
attribute [local go_sem] max2_int min2_int max_two min_two max_three min_three max_four min_four   -- for this text's walks alone
set_option linter.unusedVariables false
set_option linter.unusedSimpArgs false
open Bool renaming true → bT, false → bf
open Go.Proofs.YtodpkfidkilpdaaW.PrintWords.Kd renaming R_alloc → rA, R_drewN → rN, R_drew → rD, C_alloc → cA, C_drewN → cN, C_drew → cD, R_far → rF, R_below → rB, R_lower → rL, R_lt → rT, R_base → rS, C_below → cB, R_types → rY, R_elder' → rE, R_reads' → rR, R_new' → rW
open Go.Proofs.YtodpkfidkilpdaaW.PrintWords renaming blk_drewN → bN, blk_drew → bD, blk_alloc → bA, below_set → lS, pw_below_drewN → lN, below_drew1 → lD, below_alloc → lA, blk_cell → bC, blk_below → bB, below_size → lZ, below_step → lP, blk_lt → bL, blk_frozen → bF
open Go.Proofs.YtodpkfidkilpdaaW.PrintWords.Aside0 renaming mk → aM
theorem q_ia8 {α : Type} (l : List α) (i : Nat) (a : α) : l.toArray.setIfInBounds i a = (l.set i a).toArray := List.setIfInBounds_toArray ..
theorem q_cz8 {α : Type} (a b : α) (l : List α) : (a :: l).set 0 b = b :: l := rfl
theorem q_cs8 {α : Type} (a b : α) (l : List α) (n : Nat) : (a :: l).set (n + 1) b = a :: l.set n b := rfl

/-! ### impl_StoreOk: function 36 -/
mutual
def impl_StoreOk.l0 : Nat → List (S53) → Int → Int → List (S53) → List (S57) → ByteArray → Option (Bool)
 | 0, _, _, _, _, _, _ => none
 | k + 1, x8, x9, x10, x351000, x351001, x351002 => if x10 < x9 then (if 0 ≤ x10 then (if x10 < (x8.length : Int) then ((impl_isLetters.f k ((rd_T53 x8 x10).f0)).bind fun t353 => (if t353 = true then (if (((rd_T53 x8 x10).f1).size : Int) > 40 then (some false) else (if x10 > 0 then (if 0 ≤ (wrap64 (x10 - 1)) then (if (wrap64 (x10 - 1)) < (x351000.length : Int) then (if ((Op.bytesLess (((rd_T53 x351000 (wrap64 (x10 - 1))).f0).toList) (((rd_T53 x8 x10).f0).toList)) = true) then (impl_StoreOk.l0 k x8 x9 (wrap64 (x10 + 1)) x351000 x351001 x351002) else (some false)) else (none)) else (none)) else (impl_StoreOk.l0 k x8 x9 (wrap64 (x10 + 1)) x351000 x351001 x351002))) else (some false))) else (none)) else (none)) else (impl_StoreOk.l1 k x351001 (x351001.length : Int) 0 x351000 x351001 x351002)
def impl_StoreOk.l1 : Nat → List (S57) → Int → Int → List (S53) → List (S57) → ByteArray → Option (Bool)
 | 0, _, _, _, _, _, _ => none
 | k + 1, x43, x44, x45, x351000, x351001, x351002 => if x45 < x44 then (if 0 ≤ x45 then (if x45 < (x43.length : Int) then ((impl_isLetters.f k ((rd_T57 x43 x45).f0)).bind fun t357 => (if t357 = true then (if (((rd_T57 x43 x45).f1).size : Int) > 40 then (some false) else (if (((rd_T57 x43 x45).f2).size : Int) > 40 then (some false) else (if x45 > 0 then (if 0 ≤ (wrap64 (x45 - 1)) then (if (wrap64 (x45 - 1)) < (x351001.length : Int) then ((impl_byKey.f ((rd_T57 x351001 (wrap64 (x45 - 1))).f0) ((rd_T57 x351001 (wrap64 (x45 - 1))).f1) ((rd_T57 x351001 (wrap64 (x45 - 1))).f2) ((rd_T57 x43 x45).f0) ((rd_T57 x43 x45).f1) ((rd_T57 x43 x45).f2)).bind fun t359 => (if t359 ≥ 0 then (some false) else (impl_StoreOk.l1 k x43 x44 (wrap64 (x45 + 1)) x351000 x351001 x351002))) else (none)) else (none)) else (impl_StoreOk.l1 k x43 x44 (wrap64 (x45 + 1)) x351000 x351001 x351002)))) else (some false))) else (none)) else (none)) else (if (x351000.length : Int) ≤ 60 then (if (x351001.length : Int) ≤ 2000 then (some (decide ((x351002.size : Int) ≤ 3000))) else (some false)) else (some false))
end
def impl_StoreOk.f (k : Nat) (l0_0 : List (S53)) (l0_1 : List (S57)) (a0_2 : ByteArray) : Option (Bool) := impl_StoreOk.l0 k l0_0 (l0_0.length : Int) 0 l0_0 l0_1 a0_2
theorem impl_StoreOk.mono_l : ∀ k, (∀ y0 y1 y2 y3 y4 y5, LeO (impl_StoreOk.l0 k y0 y1 y2 y3 y4 y5) (impl_StoreOk.l0 (k + 1) y0 y1 y2 y3 y4 y5)) ∧ (∀ y0 y1 y2 y3 y4 y5, LeO (impl_StoreOk.l1 k y0 y1 y2 y3 y4 y5) (impl_StoreOk.l1 (k + 1) y0 y1 y2 y3 y4 y5))
 | 0 => ⟨fun _ _ _ _ _ _ r h => by simp [impl_StoreOk.l0] at h, fun _ _ _ _ _ _ r h => by simp [impl_StoreOk.l1] at h⟩
 | k + 1 => by
  obtain ⟨ih0, ih1⟩ := impl_StoreOk.mono_l k
  refine ⟨?_, ?_⟩
  ·intro y0 y1 y2 y3 y4 y5
   unfold impl_StoreOk.l0
   repeat' first
   | (with_reducible exact ih0 _ _ _ _ _ _)
   | (with_reducible exact ih1 _ _ _ _ _ _)
   | (with_reducible exact impl_isLetters.mono _ _)
   | (with_reducible exact LeO.refl _)
   | (with_reducible exact LeO.none _)
   | (with_reducible refine LeO.ite ?_ ?_)
   | (with_reducible refine LeO.bind ?_ (fun _ => ?_))
   | exact ih0 _ _ _ _ _ _
   | exact ih1 _ _ _ _ _ _
   | exact impl_isLetters.mono _ _
   | exact LeO.none _
   | refine LeO.ite ?_ ?_
   | refine LeO.bind ?_ (fun _ => ?_)
  ·intro y0 y1 y2 y3 y4 y5
   unfold impl_StoreOk.l1
   repeat' first
   | (with_reducible exact ih0 _ _ _ _ _ _)
   | (with_reducible exact ih1 _ _ _ _ _ _)
   | (with_reducible exact impl_isLetters.mono _ _)
   | (with_reducible exact LeO.refl _)
   | (with_reducible exact LeO.none _)
   | (with_reducible refine LeO.ite ?_ ?_)
   | (with_reducible refine LeO.bind ?_ (fun _ => ?_))
   | exact ih0 _ _ _ _ _ _
   | exact ih1 _ _ _ _ _ _
   | exact impl_isLetters.mono _ _
   | exact LeO.none _
   | refine LeO.ite ?_ ?_
   | refine LeO.bind ?_ (fun _ => ?_)
theorem impl_StoreOk.mono : ∀ a0 a1 a2 k, LeO (impl_StoreOk.f k a0 a1 a2) (impl_StoreOk.f (k + 1) a0 a1 a2) := by
 intro a0 a1 a2 k
 obtain ⟨ih0, ih1⟩ := impl_StoreOk.mono_l k
 unfold impl_StoreOk.f
 repeat' first
   | (with_reducible exact ih0 _ _ _ _ _ _)
   | (with_reducible exact ih1 _ _ _ _ _ _)
   | (with_reducible exact impl_isLetters.mono _ _)
   | (with_reducible exact LeO.refl _)
   | (with_reducible exact LeO.none _)
   | (with_reducible refine LeO.ite ?_ ?_)
   | (with_reducible refine LeO.bind ?_ (fun _ => ?_))
   | exact ih0 _ _ _ _ _ _
   | exact ih1 _ _ _ _ _ _
   | exact impl_isLetters.mono _ _
   | exact LeO.none _
   | refine LeO.ite ?_ ?_
   | refine LeO.bind ?_ (fun _ => ?_)
def impl_StoreOk.T4 : Bool × List (List Nat × List Nat) := (true, [([], []), ([0], [0]), ([1], [1]), ([2], [2]), ([3, 2], [3]), ([4], [4]), ([5, 4], [4, 5]), ([6, 4], [4, 6]), ([7, 4], [4, 7]), ([4, 8], [4, 8]), ([9, 4], [9]), ([10], [10]), ([11, 10], [10, 11]), ([12, 10, 10], [10, 12]), ([13], [13]), ([14, 13], [13, 14]), ([13], [13]), ([16, 13], [13, 16]), ([15, 17, 13], [13, 15, 17]), ([18, 13], [13, 18]), ([19, 13], [13, 19]), ([13], [13]), ([21, 13], [13, 21]), ([20, 22, 13], [13, 20, 22]), ([13, 23, 10], [10, 13, 23]), ([10, 24], [10, 24])])
def impl_StoreOk.B4 : List Nat := [0, 1, 3, 7, 15, 31, 63, 127, 255, 511, 1023, 2047, 4095, 8191, 16383, 32767, 16383, 81919, 262143, 524287, 1048575, 16383, 2113535, 8388607, 16777215, 33554431]
theorem impl_StoreOk.tab4 : rtab .any (opsOf Try.f36 4) = impl_StoreOk.T4 := by kernel_rfl
theorem impl_StoreOk.bits4 : waitsOk impl_StoreOk.T4.2 impl_StoreOk.B4 = true := by kernel_rfl
def impl_StoreOk.T10 : Bool × List (List Nat × List Nat) := (true, [([], []), ([0], [0]), ([1], [1]), ([2], [2]), ([3, 2], [3]), ([4], [4]), ([5, 4], [4, 5]), ([6, 4], [4, 6]), ([7, 4], [4, 7]), ([4, 8], [4, 8]), ([9, 4], [9]), ([10], [10]), ([11, 10], [10, 11]), ([12, 10], [10, 12]), ([13, 10], [10, 13]), ([10, 14], [10, 14]), ([15, 10], [15]), ([16], [16]), ([17, 16], [16, 17]), ([18, 16, 16], [16, 18]), ([19], [19]), ([20, 19], [19, 20]), ([19], [19]), ([22, 19], [19, 22]), ([21, 23, 19], [19, 21, 23]), ([24, 19], [19, 24]), ([19], [19]), ([25, 26, 19, 19], [19, 25, 26]), ([27, 19], [19, 27]), ([19, 28, 16], [16, 19, 28]), ([16, 29], [16, 29])])
def impl_StoreOk.B10 : List Nat := [0, 1, 3, 7, 15, 31, 63, 127, 255, 511, 1023, 2047, 4095, 8191, 16383, 32767, 65535, 131071, 262143, 524287, 1048575, 2097151, 1048575, 5242879, 16777215, 33554431, 1048575, 134217727, 268435455, 536870911, 1073741823]
theorem impl_StoreOk.tab10 : rtab .any (opsOf Try.f36 10) = impl_StoreOk.T10 := by kernel_rfl
theorem impl_StoreOk.bits10 : waitsOk impl_StoreOk.T10.2 impl_StoreOk.B10 = true := by kernel_rfl
set_option maxHeartbeats 8000000 in
set_option maxRecDepth 100000 in
theorem impl_StoreOk.calls (k : Nat) (A0_0 : Option Addr) (c0_0 : Nat) (l0_0 : List (S53)) (A0_1 : Option Addr) (c0_1 : Nat) (l0_1 : List (S57)) (a0_2 : ByteArray) (r : Bool) (w : World) (hr0_0 : Kd.C k53 w A0_0 l0_0.length l0_0) (hc0_0 : l0_0.length ≤ c0_0) (hr0_1 : Kd.C k57 w A0_1 l0_1.length l0_1) (hc0_1 : l0_1.length ≤ c0_1) (h : impl_StoreOk.f k l0_0 l0_1 a0_2 = some r) (hr_ : r = true:=by first|rfl|assumption|exact Aside0.out (by assumption)) :
  Calls Try.prog 36 #[.agg #[.slice A0_0 l0_0.length c0_0,.slice A0_1 l0_1.length c0_1,.string a0_2]] w fun e w' => e = .returned (.bool r) ∧ Below w.heap.size w w':=by
 have hu38:=Try.underlying38
 have hu53:=Try.underlying53
 have hu57:=Try.underlying57
 have HR0_0:=aM hr0_0
 have HC0_0:=aM hc0_0
 clear hr0_0 hc0_0
 have HR0_1:=aM hr0_1
 have HC0_1:=aM hc0_1
 clear hr0_1 hc0_1
 have HB:=aM (Below.refl w.heap.size w)
 have H : (impl_StoreOk.l0 k l0_0 (l0_0.length : Int) 0 l0_0 l0_1 a0_2) = some r:=h
 clear h
 have HR_:=aM hr_
 clear hr_
 have H':=aM H
 clear H
 go_enter Try.func36,Try.ntmps36
 go_wp2_with (first|((with_reducible refine gate_dst (N:=1) rfl ?_);(try (refine gate_guard (by rfl) ?_;dsimp only));refine box_event ?hg (N:=1) ?hd (cs:=#[.slice A0_0 l0_0.length c0_0,.slice A0_1 l0_1.length c0_1,.string a0_2]) (t:=38) ?hr ?_;(case hd => rfl);(case hg => rfl);(case hr => first|(go_simp;done)|(go_simp;rfl));intro gb350 hg w2 hbox hb;have n0_:=aM (lQ HB.out hb);have n1_:=aM (hbox);have n2_:=aM ((sQ hg HB.out : w.heap.size ≤ gb350));have n3_:=n2_;clear HB;have HB:=n0_;have BK350:=n1_;have GW350:=n2_;have GE350:=n3_;clear n0_ n1_ n2_ n3_ hb hbox hg;obtain ⟨⟨hcz3_0,hcz3_1,hcz3_2⟩,hfz3_0,hfz3_1,hfz3_2⟩:=bC3 BK350.out))
 go_loopg [10] k (fun kq v10 w' => ∃ (x10_1 : Int),v10 = .int .i64 x10_1 ∧ Aside0 (impl_StoreOk.l0 kq l0_0 (l0_0.length : Int) x10_1 l0_0 l0_1 a0_2 = some r) ∧ Aside0 (kq ≤ k) ∧ Aside0 (w'.heap[gb350]? = some (.cells #[(.slice A0_0 l0_0.length c0_0),(.slice A0_1 l0_1.length c0_1),.string a0_2] 38 (0,0))) ∧ Aside0 (Below w.heap.size w w'))
 case atStart => exact ⟨(0),(by first|rfl|(simp;done)|(simp [*];done)),H',⟨Nat.le_refl _⟩,⟨by (with_reducible repeat (first|refine bN ?_ _|refine bD ?_|refine bA ?_ _));exact BK350.out⟩,⟨by repeat (first|(with_reducible first|exact HB.out|apply lA|apply lN|apply lD|refine lS ?_ GE350.out)|exact HB.out)⟩⟩
 case round =>
  clear H'
  try clear p2
  try clear c3
  try clear hcz3_0
  try clear hcz3_1
  try clear hcz3_2
  obtain ⟨x10_1,rfl,HA,HK1,BK350,HB⟩:=hrel
  cases gk with
  |zero => exact absurd HA.out (by simp [impl_StoreOk.l0])
  |succ k1 =>
   have H:=HA.out
   clear HA
   simp only [impl_StoreOk.l0] at H
   by_cases c4 : x10_1 < (l0_0.length : Int)
   ·rw [if_pos c4] at H
    have c4b0 : decide (x10_1 < (l0_0.length : Int)) = true:=decide_eq_true c4
    clear c4
    by_cases c5 : 0 ≤ x10_1
    ·rw [if_pos c5] at H
     have c5b0 : decide (0 ≤ x10_1) = true:=decide_eq_true c5
     clear c5
     by_cases c6 : x10_1 < (l0_0.length : Int)
     ·rw [if_pos c6] at H
      have c6b0 : decide (x10_1 < (l0_0.length : Int)) = true:=decide_eq_true c6
      clear c6
      replace H:=Option.bind_eq_some_iff.mp H
      obtain ⟨t353,A70,H⟩:=H
      replace H : (if t353 = true then (if (((rd_T53 l0_0 x10_1).f1).size : Int) > 40 then (some false) else (if x10_1 > 0 then (if 0 ≤ (wrap64 (x10_1 - 1)) then (if (wrap64 (x10_1 - 1)) < (l0_0.length : Int) then (if ((Op.bytesLess (((rd_T53 l0_0 (wrap64 (x10_1 - 1))).f0).toList) (((rd_T53 l0_0 x10_1).f0).toList)) = true) then (impl_StoreOk.l0 k1 l0_0 (l0_0.length : Int) (wrap64 (x10_1 + 1)) l0_0 l0_1 a0_2) else (some false)) else (none)) else (none)) else (impl_StoreOk.l0 k1 l0_0 (l0_0.length : Int) (wrap64 (x10_1 + 1)) l0_0 l0_1 a0_2))) else (some false)) = some r:=H
      have A7:=aM A70
      clear A70
      by_cases c8 : t353 = true
      ·subst c8
       have H1 : (if (((rd_T53 l0_0 x10_1).f1).size : Int) > 40 then (some false) else (if x10_1 > 0 then (if 0 ≤ (wrap64 (x10_1 - 1)) then (if (wrap64 (x10_1 - 1)) < (l0_0.length : Int) then (if ((Op.bytesLess (((rd_T53 l0_0 (wrap64 (x10_1 - 1))).f0).toList) (((rd_T53 l0_0 x10_1).f0).toList)) = true) then (impl_StoreOk.l0 k1 l0_0 (l0_0.length : Int) (wrap64 (x10_1 + 1)) l0_0 l0_1 a0_2) else (some false)) else (none)) else (none)) else (impl_StoreOk.l0 k1 l0_0 (l0_0.length : Int) (wrap64 (x10_1 + 1)) l0_0 l0_1 a0_2))) = some r:=by rw [if_pos rfl] at H;exact H
       clear H
       have H:=H1
       clear H1
       by_cases c9 : (((rd_T53 l0_0 x10_1).f1).size : Int) > 40
       ·rw [if_pos c9] at H
        have c9b0 : decide (40 < (((rd_T53 l0_0 x10_1).f1).size : Int)) = true:=decide_eq_true c9
        have c9b1 : decide (40 < ((rd_T53 l0_0 x10_1).f1).size) = true:=decide_eq_true (by omega)
        clear c9
        exact absurd (HR_.out.symm.trans (Option.some.inj H).symm) (by decide)
       ·rw [if_neg c9] at H
        have c9b0 : decide (40 < (((rd_T53 l0_0 x10_1).f1).size : Int)) = false:=decide_eq_false c9
        have c9b1 : decide (40 < ((rd_T53 l0_0 x10_1).f1).size) = false:=decide_eq_false (by omega)
        clear c9
        by_cases c10 : x10_1 > 0
        ·rw [if_pos c10] at H
         have c10b0 : decide (0 < x10_1) = true:=decide_eq_true c10
         clear c10
         obtain ⟨ji11,hji11⟩ : ∃ j_ : Int,(wrap64 (x10_1 - 1)) = j_:=⟨_,rfl⟩
         replace H : (if 0 ≤ (ji11) then (if (ji11) < (l0_0.length : Int) then (if ((Op.bytesLess (((rd_T53 l0_0 (ji11)).f0).toList) (((rd_T53 l0_0 x10_1).f0).toList)) = true) then (impl_StoreOk.l0 k1 l0_0 (l0_0.length : Int) (wrap64 (x10_1 + 1)) l0_0 l0_1 a0_2) else (some false)) else (none)) else (none)) = some r:=by first|(rw [hji11] at H;exact H)|(simp only [hji11] at H ⊢;exact H)
         (try rw [hji11] at A7)
         have hji11w : (IntKind.i64.wrap (x10_1 - 1)) = ji11:=(i64_w _).trans hji11
         by_cases c12 : 0 ≤ (ji11)
         ·rw [if_pos c12] at H
          have c12b0 : decide (0 ≤ (ji11)) = true:=decide_eq_true c12
          clear c12
          by_cases c13 : (ji11) < (l0_0.length : Int)
          ·rw [if_pos c13] at H
           have c13b0 : decide ((ji11) < (l0_0.length : Int)) = true:=decide_eq_true c13
           clear c13
           by_cases c14 : ((Op.bytesLess (((rd_T53 l0_0 (ji11)).f0).toList) (((rd_T53 l0_0 x10_1).f0).toList)) = true)
           ·rw [if_pos c14] at H
            have c14b0 : (Op.bytesLess (((rd_T53 l0_0 (ji11)).f0).toList) (((rd_T53 l0_0 x10_1).f0).toList)) = true:=c14
            clear c14
            have H':=aM H
            clear H
            have p351 : 0 ≤ (x10_1 : Int):=of_decide_eq_true (by first|(with_reducible assumption)|assumption)
            have q351 : x10_1 < (l0_0.length : Int):=of_decide_eq_true (by first|(with_reducible assumption)|assumption)
            obtain ⟨ad351,e351,hx351_0,hx351_1⟩:=at_T53 HR0_0.out x10_1 p351 q351
            cases e351
            replace hx351_0:=(HB.out.cell (World.block_lt_of_cell? w _ hx351_0)).trans hx351_0
            replace hx351_1:=(HB.out.cell (World.block_lt_of_cell? w _ hx351_1)).trans hx351_1
            replace p351:=eq_true p351
            replace q351:=eq_true q351
            try go_wp2_with (first|((with_reducible refine gate_dst (N:=4) rfl ?_);(try (refine gate_guard (by rfl) ?_;dsimp only));refine box_event ?hg (N:=4) ?hd (cs:=#[.string (⟨#[]⟩ : ByteArray),.string (⟨#[]⟩ : ByteArray)]) (t:=53) ?hr ?_;(case hd => rfl);(case hg => rfl);(case hr => first|(go_simp;done)|(go_simp;rfl));intro gb352 hg w15 hbox hb;have n0_:=aM (bH BK350.out hb);have n1_:=aM (lQ HB.out hb);have n2_:=aM (hbox);have n3_:=aM ((sQ hg HB.out : w.heap.size ≤ gb352));have n4_:=n3_;have n5_:=aM ((nL hg BK350.out : gb350 ≠ gb352));have n6_:=aM ((nG hg BK350.out : gb352 ≠ gb350));clear BK350 HB;have BK350:=n0_;have HB:=n1_;have BK352:=n2_;have GW352:=n3_;have GE352:=n4_;have NB350_352:=n5_;have NB352_350:=n6_;clear n0_ n1_ n2_ n3_ n4_ n5_ n6_ hb hbox hg;have hnb16:=NB352_350.out;have hnc16:=NB350_352.out;have hcz17_0 : w15.cell? ⟨gb352,0,none⟩ = some (.string (⟨#[]⟩ : ByteArray)):=(bC BK352.out 0).trans rfl;have hcz17_1 : w15.cell? ⟨gb352,1,none⟩ = some (.string (⟨#[]⟩ : ByteArray)):=(bC BK352.out 1).trans rfl;have hfz17_0:=bF BK352.out 0;have hfz17_1:=bF BK352.out 1))
            have n0_ : Aside0 (((w15.setCell ⟨gb352,0,none⟩ (.string ((rd_T53 l0_0 x10_1).f0))).setCell ⟨gb352,1,none⟩ (.string ((rd_T53 l0_0 x10_1).f1))).heap[gb350]? = some (.cells #[.slice (some ad351) l0_0.length c0_0,.slice A0_1 l0_1.length c0_1,.string a0_2] 38 (0,0))):=⟨by (with_reducible repeat (first|refine bN ?_ _|refine bD ?_|refine bA ?_ _));refine blk_far ?_ NB350_352.out _;(with_reducible repeat (first|refine bN ?_ _|refine bD ?_|refine bA ?_ _));refine blk_far ?_ NB350_352.out _;(with_reducible repeat (first|refine bN ?_ _|refine bD ?_|refine bA ?_ _));exact BK350.out⟩
            have n1_ : Aside0 (((w15.setCell ⟨gb352,0,none⟩ (.string ((rd_T53 l0_0 x10_1).f0))).setCell ⟨gb352,1,none⟩ (.string ((rd_T53 l0_0 x10_1).f1))).heap[gb352]? = some (.cells #[.string ((rd_T53 l0_0 x10_1).f0),.string ((rd_T53 l0_0 x10_1).f1)] 53 (0,0))):=⟨by (with_reducible repeat (first|refine bN ?_ _|refine bD ?_|refine bA ?_ _));refine blk_put (cs:=#[.string ((rd_T53 l0_0 x10_1).f0),.string (⟨#[]⟩ : ByteArray)]) ?_ 1 _ rfl;(with_reducible repeat (first|refine bN ?_ _|refine bD ?_|refine bA ?_ _));refine blk_put (cs:=#[.string (⟨#[]⟩ : ByteArray),.string (⟨#[]⟩ : ByteArray)]) ?_ 0 _ rfl;(with_reducible repeat (first|refine bN ?_ _|refine bD ?_|refine bA ?_ _));exact BK352.out⟩
            have n2_ : Aside0 (Below w.heap.size w ((w15.setCell ⟨gb352,0,none⟩ (.string ((rd_T53 l0_0 x10_1).f0))).setCell ⟨gb352,1,none⟩ (.string ((rd_T53 l0_0 x10_1).f1)))):=⟨by repeat (first|(with_reducible first|exact HB.out|apply lA|apply lN|apply lD|refine lS ?_ GE350.out|refine lS ?_ GE352.out)|exact HB.out)⟩
            (try clear BK350)
            (try clear BK352)
            (try clear HB)
            generalize ((w15.setCell ⟨gb352,0,none⟩ (.string ((rd_T53 l0_0 x10_1).f0))).setCell ⟨gb352,1,none⟩ (.string ((rd_T53 l0_0 x10_1).f1))) = w18 at n0_ n1_ n2_ ⊢
            have BK350:=n0_
            have BK352:=n1_
            have HB:=n2_
            clear n0_ n1_ n2_
            have n0_:=aM (bD BK350.out)
            have n1_:=aM (bD BK352.out)
            have n2_:=aM (lD HB.out)
            clear BK350
            clear BK352
            clear HB
            have BK350:=n0_
            have BK352:=n1_
            have HB:=n2_
            clear n0_ n1_ n2_
            have p354 : 0 ≤ ((ji11) : Int):=of_decide_eq_true (by first|(with_reducible assumption)|assumption)
            have q354 : (ji11) < (l0_0.length : Int):=of_decide_eq_true (by first|(with_reducible assumption)|assumption)
            obtain ⟨ad354,e354,hx354_0,hx354_1⟩:=at_T53 HR0_0.out (ji11) p354 q354
            have hw354_1:=hx354_1
            have hw354_0:=hx354_0
            obtain rfl : ad351 = ad354:=(by injection e354)
            replace hx354_0:=(HB.out.cell (World.block_lt_of_cell? w _ hx354_0)).trans hx354_0
            replace hx354_1:=(HB.out.cell (World.block_lt_of_cell? w _ hx354_1)).trans hx354_1
            replace p354:=eq_true p354
            replace q354:=eq_true q354
            refine start_ (n:=26) (S:=fun w' => w'.cell? ⟨gb352,0,none⟩ = some (.string ((rd_T53 l0_0 x10_1).f0)) ∧ w'.cell? ⟨gb352,1,none⟩ = some (.string ((rd_T53 l0_0 x10_1).f1)) ∧ w'.cell? ⟨gb350,0,none⟩ = some (.slice (some ad351) l0_0.length c0_0) ∧ w'.cell? ⟨gb350,1,none⟩ = some (.slice A0_1 l0_1.length c0_1) ∧ w'.cell? ⟨gb350,2,none⟩ = some (.string a0_2) ∧ w'.cell? (ad351.add (((ji11)).toNat * 2)) = some (.string ((rd_T53 l0_0 (ji11)).f0)) ∧ w'.cell? ⟨(ad351.add (((ji11)).toNat * 2)).block,(ad351.add (((ji11)).toNat * 2)).off + 1,none⟩ = some (.string ((rd_T53 l0_0 (ji11)).f1))) (ds:=[]) #[bf,bf,bf,bf,bf,bf,bf,bf,bf,bf,bf,bf,bf,bf,bf,bf,bf,bf,bf,bf,bf,bf,bf,bf,bf,bf] (by kernel_rfl) rfl rfl ⟨(bC BK352.out 0).trans rfl,(bC BK352.out 1).trans rfl,(bC BK350.out 0).trans rfl,(bC BK350.out 1).trans rfl,(bC BK350.out 2).trans rfl,((HB.out.cell (World.block_lt_of_cell? w _ hw354_0)).trans hw354_0),((HB.out.cell (World.block_lt_of_cell? w _ hw354_1)).trans hw354_1)⟩ (fun hHeld => ?_);refine with_tabW impl_StoreOk.tab4 impl_StoreOk.bits4 (fun HT_ HW_ => ?_)
            generalize w18.drew = w19 at BK350 BK352 HB hx354_0 hx354_1 hHeld ⊢
            refine pQ (i:=0) (N:=some 15) (v:=?_) (a':=?_) #[bT,bf,bf,bf,bf,bf,bf,bf,bf,bf,bf,bf,bf,bf,bf,bf,bf,bf,bf,bf,bf,bf,bf,bf,bf,bf] (any_of HT_.out (by kernel_rfl)) ?_ ?_ ?_
            rotate_left
            ·intro w';go_simp;with_reducible rfl
            rotate_left
            ·simp only [Act.put,q_ia8,q_cz8,q_cs8,i64_w,i32_w];rfl
            refine take_ (i:=1) (N:=some 16) (v:=?_) (a':=?_) #[bT,bT,bf,bf,bf,bf,bf,bf,bf,bf,bf,bf,bf,bf,bf,bf,bf,bf,bf,bf,bf,bf,bf,bf,bf,bf] rfl rfl (take_ofW HT_.out HW_.out (by kernel_rfl)) (fun _ _ _ h => h) (Or.inl ⟨by rfl,?_⟩) hHeld ?_ ?_
            rotate_left
            ·rintro w' ⟨s0,s1,s2,s3,s4,s5,s6⟩
             go_simp
             with_reducible rfl
            rotate_left
            ·simp only [Act.put,q_ia8,q_cz8,q_cs8,i64_w,i32_w];rfl
            refine one_ (i:=2) (N:=some 17) #[bT,bT,bT,bf,bf,bf,bf,bf,bf,bf,bf,bf,bf,bf,bf,bf,bf,bf,bf,bf,bf,bf,bf,bf,bf,bf] rfl rfl (one_of HT_.out (by kernel_rfl)) (by decide) (fun K hK => ?_)
            refine goes_ Try.func69 (by kernel_rfl) rfl #[.string ((rd_T53 l0_0 x10_1).f0)] (by rfl) rfl rfl (by (try simp only [List.map_toArray,List.map_cons,List.map_nil]);first|done|rfl|(simp only [List.length_drop,List.length_take];rfl)) ?_
            with_reducible refine (impl_isLetters.calls k1 ((rd_T53 l0_0 x10_1).f0) true _ A7.out).mono ?_
            rintro e w' ⟨rfl,⟨nd,rfl⟩⟩
            refine ⟨_,rfl,?_⟩
            refine hK.out _ _ ⟨(bC BK352.out 0).trans rfl,(bC BK352.out 1).trans rfl,(bC BK350.out 0).trans rfl,(bC BK350.out 1).trans rfl,(bC BK350.out 2).trans rfl,((HB.out.cell (World.block_lt_of_cell? w _ hw354_0)).trans hw354_0),((HB.out.cell (World.block_lt_of_cell? w _ hw354_1)).trans hw354_1)⟩ (fun hHeld => ?_)
            clear hK K
            refine norm_ (a':=?_) ?_ ?_
            rotate_left
            ·show Act.put _ (some 17) _ = _
             simp only [Act.put,q_ia8,q_cz8,q_cs8,i64_w,i32_w]
             rfl
            refine pQ (i:=3) (N:=some 18) (v:=?_) (a':=?_) #[bT,bT,bT,bT,bf,bf,bf,bf,bf,bf,bf,bf,bf,bf,bf,bf,bf,bf,bf,bf,bf,bf,bf,bf,bf,bf] (any_of HT_.out (by kernel_rfl)) ?_ ?_ ?_
            rotate_left
            ·intro w';go_simp;with_reducible rfl
            rotate_left
            ·simp only [Act.put,q_ia8,q_cz8,q_cs8,i64_w,i32_w];rfl
            refine pQ (i:=4) (N:=some 19) (v:=?_) (a':=?_) #[bT,bT,bT,bT,bT,bf,bf,bf,bf,bf,bf,bf,bf,bf,bf,bf,bf,bf,bf,bf,bf,bf,bf,bf,bf,bf] (any_of HT_.out (by kernel_rfl)) ?_ ?_ ?_
            rotate_left
            ·intro w';go_simp;with_reducible rfl
            rotate_left
            ·simp only [Act.put,q_ia8,q_cz8,q_cs8,i64_w,i32_w];rfl
            refine pQ (i:=5) (N:=some 20) (v:=?_) (a':=?_) #[bT,bT,bT,bT,bT,bT,bf,bf,bf,bf,bf,bf,bf,bf,bf,bf,bf,bf,bf,bf,bf,bf,bf,bf,bf,bf] (any_of HT_.out (by kernel_rfl)) ?_ ?_ ?_
            rotate_left
            ·intro w';go_simp;with_reducible rfl
            rotate_left
            ·simp only [Act.put,q_ia8,q_cz8,q_cs8,i64_w,i32_w];rfl
            refine take_ (i:=6) (N:=some 21) (v:=?_) (a':=?_) #[bT,bT,bT,bT,bT,bT,bT,bf,bf,bf,bf,bf,bf,bf,bf,bf,bf,bf,bf,bf,bf,bf,bf,bf,bf,bf] rfl rfl (take_ofW HT_.out HW_.out (by kernel_rfl)) (fun _ _ _ h => h) (Or.inl ⟨by rfl,?_⟩) hHeld ?_ ?_
            rotate_left
            ·rintro w' ⟨s0,s1,s2,s3,s4,s5,s6⟩
             go_simp
             with_reducible rfl
            rotate_left
            ·simp only [Act.put,q_ia8,q_cz8,q_cs8,i64_w,i32_w];rfl
            refine pQ (i:=7) (N:=some 22) (v:=?_) (a':=?_) #[bT,bT,bT,bT,bT,bT,bT,bT,bf,bf,bf,bf,bf,bf,bf,bf,bf,bf,bf,bf,bf,bf,bf,bf,bf,bf] (any_of HT_.out (by kernel_rfl)) ?_ ?_ ?_
            rotate_left
            ·intro w';go_simp;with_reducible rfl
            rotate_left
            ·simp only [Act.put,q_ia8,q_cz8,q_cs8,i64_w,i32_w];rfl
            refine pQ (i:=8) (N:=some 23) (v:=?_) (a':=?_) #[bT,bT,bT,bT,bT,bT,bT,bT,bT,bf,bf,bf,bf,bf,bf,bf,bf,bf,bf,bf,bf,bf,bf,bf,bf,bf] (any_of HT_.out (by kernel_rfl)) ?_ ?_ ?_
            rotate_left
            ·intro w';go_simp;with_reducible rfl
            rotate_left
            ·simp only [Act.put,q_ia8,q_cz8,q_cs8,i64_w,i32_w];rfl
            refine pQ (i:=9) (N:=some 24) (v:=?_) (a':=?_) #[bT,bT,bT,bT,bT,bT,bT,bT,bT,bT,bf,bf,bf,bf,bf,bf,bf,bf,bf,bf,bf,bf,bf,bf,bf,bf] (any_of HT_.out (by kernel_rfl)) ?_ ?_ ?_
            rotate_left
            ·intro w';go_simp;with_reducible rfl
            rotate_left
            ·simp only [Act.put,q_ia8,q_cz8,q_cs8,i64_w,i32_w];rfl
            refine pQ (i:=10) (N:=some 25) (v:=?_) (a':=?_) #[bT,bT,bT,bT,bT,bT,bT,bT,bT,bT,bT,bf,bf,bf,bf,bf,bf,bf,bf,bf,bf,bf,bf,bf,bf,bf] (any_of HT_.out (by kernel_rfl)) ?_ ?_ ?_
            rotate_left
            ·intro w';go_simp;with_reducible rfl
            rotate_left
            ·simp only [Act.put,q_ia8,q_cz8,q_cs8,i64_w,i32_w];rfl
            refine pQ (i:=11) (N:=some 26) (v:=?_) (a':=?_) #[bT,bT,bT,bT,bT,bT,bT,bT,bT,bT,bT,bT,bf,bf,bf,bf,bf,bf,bf,bf,bf,bf,bf,bf,bf,bf] (any_of HT_.out (by kernel_rfl)) ?_ ?_ ?_
            rotate_left
            ·intro w';go_simp;with_reducible rfl
            rotate_left
            ·simp only [Act.put,q_ia8,q_cz8,q_cs8,i64_w,i32_w];rfl
            refine pQ (i:=12) (N:=some 27) (v:=?_) (a':=?_) #[bT,bT,bT,bT,bT,bT,bT,bT,bT,bT,bT,bT,bT,bf,bf,bf,bf,bf,bf,bf,bf,bf,bf,bf,bf,bf] (any_of HT_.out (by kernel_rfl)) ?_ ?_ ?_
            rotate_left
            ·intro w';go_simp;with_reducible rfl
            rotate_left
            ·simp only [Act.put,q_ia8,q_cz8,q_cs8,i64_w,i32_w];rfl
            refine pQ (i:=13) (N:=some 28) (v:=?_) (a':=?_) #[bT,bT,bT,bT,bT,bT,bT,bT,bT,bT,bT,bT,bT,bT,bf,bf,bf,bf,bf,bf,bf,bf,bf,bf,bf,bf] (any_of HT_.out (by kernel_rfl)) ?_ ?_ ?_
            rotate_left
            ·intro w';go_simp;with_reducible rfl
            rotate_left
            ·simp only [Act.put,q_ia8,q_cz8,q_cs8,i64_w,i32_w];rfl
            refine pQ (i:=14) (N:=some 29) (v:=?_) (a':=?_) #[bT,bT,bT,bT,bT,bT,bT,bT,bT,bT,bT,bT,bT,bT,bT,bf,bf,bf,bf,bf,bf,bf,bf,bf,bf,bf] (any_of HT_.out (by kernel_rfl)) ?_ ?_ ?_
            rotate_left
            ·intro w';go_simp;with_reducible rfl
            rotate_left
            ·simp only [Act.put,q_ia8,q_cz8,q_cs8,i64_w,i32_w];rfl
            refine pQ (i:=16) (N:=some 31) (v:=?_) (a':=?_) #[bT,bT,bT,bT,bT,bT,bT,bT,bT,bT,bT,bT,bT,bT,bT,bf,bT,bf,bf,bf,bf,bf,bf,bf,bf,bf] (any_of HT_.out (by kernel_rfl)) ?_ ?_ ?_
            rotate_left
            ·intro w';go_simp;with_reducible rfl
            rotate_left
            ·simp only [Act.put,q_ia8,q_cz8,q_cs8,i64_w,i32_w];rfl
            refine pQ (i:=17) (N:=some 32) (v:=?_) (a':=?_) #[bT,bT,bT,bT,bT,bT,bT,bT,bT,bT,bT,bT,bT,bT,bT,bf,bT,bT,bf,bf,bf,bf,bf,bf,bf,bf] (any_of HT_.out (by kernel_rfl)) ?_ ?_ ?_
            rotate_left
            ·intro w';go_simp;with_reducible rfl
            rotate_left
            ·simp only [Act.put,q_ia8,q_cz8,q_cs8,i64_w,i32_w];rfl
            refine pQ (i:=21) (N:=some 36) (v:=?_) (a':=?_) #[bT,bT,bT,bT,bT,bT,bT,bT,bT,bT,bT,bT,bT,bT,bT,bf,bT,bT,bf,bf,bf,bT,bf,bf,bf,bf] (any_of HT_.out (by kernel_rfl)) ?_ ?_ ?_
            rotate_left
            ·intro w';go_simp;with_reducible rfl
            rotate_left
            ·simp only [Act.put,q_ia8,q_cz8,q_cs8,i64_w,i32_w];rfl
            refine take_ (i:=15) (N:=some 30) (v:=?_) (a':=?_) #[bT,bT,bT,bT,bT,bT,bT,bT,bT,bT,bT,bT,bT,bT,bT,bT,bT,bT,bf,bf,bf,bT,bf,bf,bf,bf] rfl rfl (take_ofW HT_.out HW_.out (by kernel_rfl)) (fun _ _ _ h => h) (Or.inl ⟨by rfl,?_⟩) hHeld ?_ ?_
            rotate_left
            ·rintro w' ⟨s0,s1,s2,s3,s4,s5,s6⟩
             go_simp
             with_reducible rfl
            rotate_left
            ·simp only [Act.put,q_ia8,q_cz8,q_cs8,i64_w,i32_w];rfl
            refine pQ (i:=18) (N:=some 33) (v:=?_) (a':=?_) #[bT,bT,bT,bT,bT,bT,bT,bT,bT,bT,bT,bT,bT,bT,bT,bT,bT,bT,bT,bf,bf,bT,bf,bf,bf,bf] (any_of HT_.out (by kernel_rfl)) ?_ ?_ ?_
            rotate_left
            ·intro w';go_simp;with_reducible rfl
            rotate_left
            ·simp only [Act.put,q_ia8,q_cz8,q_cs8,i64_w,i32_w];rfl
            refine pQ (i:=19) (N:=some 34) (v:=?_) (a':=?_) #[bT,bT,bT,bT,bT,bT,bT,bT,bT,bT,bT,bT,bT,bT,bT,bT,bT,bT,bT,bT,bf,bT,bf,bf,bf,bf] (any_of HT_.out (by kernel_rfl)) ?_ ?_ ?_
            rotate_left
            ·intro w';go_simp;with_reducible rfl
            rotate_left
            ·simp only [Act.put,q_ia8,q_cz8,q_cs8,i64_w,i32_w];rfl
            refine take_ (i:=20) (N:=some 35) (v:=?_) (a':=?_) #[bT,bT,bT,bT,bT,bT,bT,bT,bT,bT,bT,bT,bT,bT,bT,bT,bT,bT,bT,bT,bT,bT,bf,bf,bf,bf] rfl rfl (take_ofW HT_.out HW_.out (by kernel_rfl)) (fun _ _ _ h => h) (Or.inl ⟨by rfl,?_⟩) hHeld ?_ ?_
            rotate_left
            ·rintro w' ⟨s0,s1,s2,s3,s4,s5,s6⟩
             go_simp
             with_reducible rfl
            rotate_left
            ·simp only [Act.put,q_ia8,q_cz8,q_cs8,i64_w,i32_w];rfl
            refine take_ (i:=22) (N:=some 37) (v:=?_) (a':=?_) #[bT,bT,bT,bT,bT,bT,bT,bT,bT,bT,bT,bT,bT,bT,bT,bT,bT,bT,bT,bT,bT,bT,bT,bf,bf,bf] rfl rfl (take_ofW HT_.out HW_.out (by kernel_rfl)) (fun _ _ _ h => h) (Or.inl ⟨by rfl,?_⟩) hHeld ?_ ?_
            rotate_left
            ·rintro w' ⟨s0,s1,s2,s3,s4,s5,s6⟩
             go_simp
             with_reducible rfl
            rotate_left
            ·simp only [Act.put,q_ia8,q_cz8,q_cs8,i64_w,i32_w];rfl
            refine pQ (i:=23) (N:=some 38) (v:=?_) (a':=?_) #[bT,bT,bT,bT,bT,bT,bT,bT,bT,bT,bT,bT,bT,bT,bT,bT,bT,bT,bT,bT,bT,bT,bT,bT,bf,bf] (any_of HT_.out (by kernel_rfl)) ?_ ?_ ?_
            rotate_left
            ·intro w';go_simp;with_reducible rfl
            rotate_left
            ·simp only [Act.put,q_ia8,q_cz8,q_cs8,i64_w,i32_w];rfl
            refine pQ (i:=24) (N:=some 39) (v:=?_) (a':=?_) #[bT,bT,bT,bT,bT,bT,bT,bT,bT,bT,bT,bT,bT,bT,bT,bT,bT,bT,bT,bT,bT,bT,bT,bT,bT,bf] (any_of HT_.out (by kernel_rfl)) ?_ ?_ ?_
            rotate_left
            ·intro w';go_simp;with_reducible rfl
            rotate_left
            ·simp only [Act.put,q_ia8,q_cz8,q_cs8,i64_w,i32_w];rfl
            refine pQ (i:=25) (N:=some 40) (v:=?_) (a':=?_) #[bT,bT,bT,bT,bT,bT,bT,bT,bT,bT,bT,bT,bT,bT,bT,bT,bT,bT,bT,bT,bT,bT,bT,bT,bT,bT] (any_of HT_.out (by kernel_rfl)) ?_ ?_ ?_
            rotate_left
            ·intro w';go_simp;with_reducible rfl
            rotate_left
            ·simp only [Act.put,q_ia8,q_cz8,q_cs8,i64_w,i32_w];rfl
            refine done_ (done_of HT_.out (by kernel_rfl)) ?_
            try go_wp2
            go_roundg k1
            case measure => have:=HK1.out;omega
            case rel => exact ⟨(wrap64 (x10_1 + 1)),(by first|rfl|(simp;done)|(simp [*];done)),H',⟨by have:=HK1.out;omega⟩,⟨by (with_reducible repeat (first|refine bN ?_ _|refine bD ?_|refine bA ?_ _));exact BK350.out⟩,⟨by repeat (first|(with_reducible first|exact HB.out|apply lA|apply lN|apply lD|refine lS ?_ GE350.out|refine lS ?_ GE352.out)|exact HB.out)⟩⟩
           ·rw [if_neg c14] at H
            have c14b0 : (Op.bytesLess (((rd_T53 l0_0 (ji11)).f0).toList) (((rd_T53 l0_0 x10_1).f0).toList)) = false:=by simpa using c14
            clear c14
            exact absurd (HR_.out.symm.trans (Option.some.inj H).symm) (by decide)
          ·rw [if_neg c13] at H
           exact absurd H (by simp)
         ·rw [if_neg c12] at H
          exact absurd H (by simp)
        ·rw [if_neg c10] at H
         have c10b0 : decide (0 < x10_1) = false:=decide_eq_false c10
         clear c10
         have H':=aM H
         clear H
         have p351 : 0 ≤ (x10_1 : Int):=of_decide_eq_true (by first|(with_reducible assumption)|assumption)
         have q351 : x10_1 < (l0_0.length : Int):=of_decide_eq_true (by first|(with_reducible assumption)|assumption)
         obtain ⟨ad351,e351,hx351_0,hx351_1⟩:=at_T53 HR0_0.out x10_1 p351 q351
         cases e351
         replace hx351_0:=(HB.out.cell (World.block_lt_of_cell? w _ hx351_0)).trans hx351_0
         replace hx351_1:=(HB.out.cell (World.block_lt_of_cell? w _ hx351_1)).trans hx351_1
         replace p351:=eq_true p351
         replace q351:=eq_true q351
         try go_wp2_with (first|((with_reducible refine gate_dst (N:=4) rfl ?_);(try (refine gate_guard (by rfl) ?_;dsimp only));refine box_event ?hg (N:=4) ?hd (cs:=#[.string (⟨#[]⟩ : ByteArray),.string (⟨#[]⟩ : ByteArray)]) (t:=53) ?hr ?_;(case hd => rfl);(case hg => rfl);(case hr => first|(go_simp;done)|(go_simp;rfl));intro gb352 hg w20 hbox hb;have n0_:=aM (bH BK350.out hb);have n1_:=aM (lQ HB.out hb);have n2_:=aM (hbox);have n3_:=aM ((sQ hg HB.out : w.heap.size ≤ gb352));have n4_:=n3_;have n5_:=aM ((nL hg BK350.out : gb350 ≠ gb352));have n6_:=aM ((nG hg BK350.out : gb352 ≠ gb350));clear BK350 HB;have BK350:=n0_;have HB:=n1_;have BK352:=n2_;have GW352:=n3_;have GE352:=n4_;have NB350_352:=n5_;have NB352_350:=n6_;clear n0_ n1_ n2_ n3_ n4_ n5_ n6_ hb hbox hg;have hnb21:=NB352_350.out;have hnc21:=NB350_352.out;have hcz22_0 : w20.cell? ⟨gb352,0,none⟩ = some (.string (⟨#[]⟩ : ByteArray)):=(bC BK352.out 0).trans rfl;have hcz22_1 : w20.cell? ⟨gb352,1,none⟩ = some (.string (⟨#[]⟩ : ByteArray)):=(bC BK352.out 1).trans rfl;have hfz22_0:=bF BK352.out 0;have hfz22_1:=bF BK352.out 1))
         have n0_ : Aside0 (((w20.setCell ⟨gb352,0,none⟩ (.string ((rd_T53 l0_0 x10_1).f0))).setCell ⟨gb352,1,none⟩ (.string ((rd_T53 l0_0 x10_1).f1))).heap[gb350]? = some (.cells #[.slice (some ad351) l0_0.length c0_0,.slice A0_1 l0_1.length c0_1,.string a0_2] 38 (0,0))):=⟨by (with_reducible repeat (first|refine bN ?_ _|refine bD ?_|refine bA ?_ _));refine blk_far ?_ NB350_352.out _;(with_reducible repeat (first|refine bN ?_ _|refine bD ?_|refine bA ?_ _));refine blk_far ?_ NB350_352.out _;(with_reducible repeat (first|refine bN ?_ _|refine bD ?_|refine bA ?_ _));exact BK350.out⟩
         have n1_ : Aside0 (((w20.setCell ⟨gb352,0,none⟩ (.string ((rd_T53 l0_0 x10_1).f0))).setCell ⟨gb352,1,none⟩ (.string ((rd_T53 l0_0 x10_1).f1))).heap[gb352]? = some (.cells #[.string ((rd_T53 l0_0 x10_1).f0),.string ((rd_T53 l0_0 x10_1).f1)] 53 (0,0))):=⟨by (with_reducible repeat (first|refine bN ?_ _|refine bD ?_|refine bA ?_ _));refine blk_put (cs:=#[.string ((rd_T53 l0_0 x10_1).f0),.string (⟨#[]⟩ : ByteArray)]) ?_ 1 _ rfl;(with_reducible repeat (first|refine bN ?_ _|refine bD ?_|refine bA ?_ _));refine blk_put (cs:=#[.string (⟨#[]⟩ : ByteArray),.string (⟨#[]⟩ : ByteArray)]) ?_ 0 _ rfl;(with_reducible repeat (first|refine bN ?_ _|refine bD ?_|refine bA ?_ _));exact BK352.out⟩
         have n2_ : Aside0 (Below w.heap.size w ((w20.setCell ⟨gb352,0,none⟩ (.string ((rd_T53 l0_0 x10_1).f0))).setCell ⟨gb352,1,none⟩ (.string ((rd_T53 l0_0 x10_1).f1)))):=⟨by repeat (first|(with_reducible first|exact HB.out|apply lA|apply lN|apply lD|refine lS ?_ GE350.out|refine lS ?_ GE352.out)|exact HB.out)⟩
         (try clear BK350)
         (try clear BK352)
         (try clear HB)
         generalize ((w20.setCell ⟨gb352,0,none⟩ (.string ((rd_T53 l0_0 x10_1).f0))).setCell ⟨gb352,1,none⟩ (.string ((rd_T53 l0_0 x10_1).f1))) = w23 at n0_ n1_ n2_ ⊢
         have BK350:=n0_
         have BK352:=n1_
         have HB:=n2_
         clear n0_ n1_ n2_
         have n0_:=aM (bD BK350.out)
         have n1_:=aM (bD BK352.out)
         have n2_:=aM (lD HB.out)
         clear BK350
         clear BK352
         clear HB
         have BK350:=n0_
         have BK352:=n1_
         have HB:=n2_
         clear n0_ n1_ n2_
         refine start_ (n:=26) (S:=fun w' => w'.cell? ⟨gb352,0,none⟩ = some (.string ((rd_T53 l0_0 x10_1).f0)) ∧ w'.cell? ⟨gb352,1,none⟩ = some (.string ((rd_T53 l0_0 x10_1).f1))) (ds:=[]) #[bf,bf,bf,bf,bf,bf,bf,bf,bf,bf,bf,bf,bf,bf,bf,bf,bf,bf,bf,bf,bf,bf,bf,bf,bf,bf] (by kernel_rfl) rfl rfl ⟨(bC BK352.out 0).trans rfl,(bC BK352.out 1).trans rfl⟩ (fun hHeld => ?_);refine with_tabW impl_StoreOk.tab4 impl_StoreOk.bits4 (fun HT_ HW_ => ?_)
         generalize w23.drew = w24 at BK350 BK352 HB hHeld ⊢
         refine pQ (i:=0) (N:=some 15) (v:=?_) (a':=?_) #[bT,bf,bf,bf,bf,bf,bf,bf,bf,bf,bf,bf,bf,bf,bf,bf,bf,bf,bf,bf,bf,bf,bf,bf,bf,bf] (any_of HT_.out (by kernel_rfl)) ?_ ?_ ?_
         rotate_left
         ·intro w';go_simp;with_reducible rfl
         rotate_left
         ·simp only [Act.put,q_ia8,q_cz8,q_cs8,i64_w,i32_w];rfl
         refine take_ (i:=1) (N:=some 16) (v:=?_) (a':=?_) #[bT,bT,bf,bf,bf,bf,bf,bf,bf,bf,bf,bf,bf,bf,bf,bf,bf,bf,bf,bf,bf,bf,bf,bf,bf,bf] rfl rfl (take_ofW HT_.out HW_.out (by kernel_rfl)) (fun _ _ _ h => h) (Or.inl ⟨by rfl,?_⟩) hHeld ?_ ?_
         rotate_left
         ·rintro w' ⟨s0,s1⟩
          go_simp
          with_reducible rfl
         rotate_left
         ·simp only [Act.put,q_ia8,q_cz8,q_cs8,i64_w,i32_w];rfl
         refine one_ (i:=2) (N:=some 17) #[bT,bT,bT,bf,bf,bf,bf,bf,bf,bf,bf,bf,bf,bf,bf,bf,bf,bf,bf,bf,bf,bf,bf,bf,bf,bf] rfl rfl (one_of HT_.out (by kernel_rfl)) (by decide) (fun K hK => ?_)
         refine goes_ Try.func69 (by kernel_rfl) rfl #[.string ((rd_T53 l0_0 x10_1).f0)] (by rfl) rfl rfl (by (try simp only [List.map_toArray,List.map_cons,List.map_nil]);first|done|rfl|(simp only [List.length_drop,List.length_take];rfl)) ?_
         with_reducible refine (impl_isLetters.calls k1 ((rd_T53 l0_0 x10_1).f0) true _ A7.out).mono ?_
         rintro e w' ⟨rfl,⟨nd,rfl⟩⟩
         refine ⟨_,rfl,?_⟩
         refine hK.out _ _ ⟨(bC BK352.out 0).trans rfl,(bC BK352.out 1).trans rfl⟩ (fun hHeld => ?_)
         clear hK K
         refine norm_ (a':=?_) ?_ ?_
         rotate_left
         ·show Act.put _ (some 17) _ = _
          simp only [Act.put,q_ia8,q_cz8,q_cs8,i64_w,i32_w]
          rfl
         refine pQ (i:=3) (N:=some 18) (v:=?_) (a':=?_) #[bT,bT,bT,bT,bf,bf,bf,bf,bf,bf,bf,bf,bf,bf,bf,bf,bf,bf,bf,bf,bf,bf,bf,bf,bf,bf] (any_of HT_.out (by kernel_rfl)) ?_ ?_ ?_
         rotate_left
         ·intro w';go_simp;with_reducible rfl
         rotate_left
         ·simp only [Act.put,q_ia8,q_cz8,q_cs8,i64_w,i32_w];rfl
         refine pQ (i:=4) (N:=some 19) (v:=?_) (a':=?_) #[bT,bT,bT,bT,bT,bf,bf,bf,bf,bf,bf,bf,bf,bf,bf,bf,bf,bf,bf,bf,bf,bf,bf,bf,bf,bf] (any_of HT_.out (by kernel_rfl)) ?_ ?_ ?_
         rotate_left
         ·intro w';go_simp;with_reducible rfl
         rotate_left
         ·simp only [Act.put,q_ia8,q_cz8,q_cs8,i64_w,i32_w];rfl
         refine pQ (i:=5) (N:=some 20) (v:=?_) (a':=?_) #[bT,bT,bT,bT,bT,bT,bf,bf,bf,bf,bf,bf,bf,bf,bf,bf,bf,bf,bf,bf,bf,bf,bf,bf,bf,bf] (any_of HT_.out (by kernel_rfl)) ?_ ?_ ?_
         rotate_left
         ·intro w';go_simp;with_reducible rfl
         rotate_left
         ·simp only [Act.put,q_ia8,q_cz8,q_cs8,i64_w,i32_w];rfl
         refine take_ (i:=6) (N:=some 21) (v:=?_) (a':=?_) #[bT,bT,bT,bT,bT,bT,bT,bf,bf,bf,bf,bf,bf,bf,bf,bf,bf,bf,bf,bf,bf,bf,bf,bf,bf,bf] rfl rfl (take_ofW HT_.out HW_.out (by kernel_rfl)) (fun _ _ _ h => h) (Or.inl ⟨by rfl,?_⟩) hHeld ?_ ?_
         rotate_left
         ·rintro w' ⟨s0,s1⟩
          go_simp
          with_reducible rfl
         rotate_left
         ·simp only [Act.put,q_ia8,q_cz8,q_cs8,i64_w,i32_w];rfl
         refine pQ (i:=7) (N:=some 22) (v:=?_) (a':=?_) #[bT,bT,bT,bT,bT,bT,bT,bT,bf,bf,bf,bf,bf,bf,bf,bf,bf,bf,bf,bf,bf,bf,bf,bf,bf,bf] (any_of HT_.out (by kernel_rfl)) ?_ ?_ ?_
         rotate_left
         ·intro w';go_simp;with_reducible rfl
         rotate_left
         ·simp only [Act.put,q_ia8,q_cz8,q_cs8,i64_w,i32_w];rfl
         refine pQ (i:=8) (N:=some 23) (v:=?_) (a':=?_) #[bT,bT,bT,bT,bT,bT,bT,bT,bT,bf,bf,bf,bf,bf,bf,bf,bf,bf,bf,bf,bf,bf,bf,bf,bf,bf] (any_of HT_.out (by kernel_rfl)) ?_ ?_ ?_
         rotate_left
         ·intro w';go_simp;with_reducible rfl
         rotate_left
         ·simp only [Act.put,q_ia8,q_cz8,q_cs8,i64_w,i32_w];rfl
         refine pQ (i:=9) (N:=some 24) (v:=?_) (a':=?_) #[bT,bT,bT,bT,bT,bT,bT,bT,bT,bT,bf,bf,bf,bf,bf,bf,bf,bf,bf,bf,bf,bf,bf,bf,bf,bf] (any_of HT_.out (by kernel_rfl)) ?_ ?_ ?_
         rotate_left
         ·intro w';go_simp;with_reducible rfl
         rotate_left
         ·simp only [Act.put,q_ia8,q_cz8,q_cs8,i64_w,i32_w];rfl
         refine pQ (i:=10) (N:=some 25) (v:=?_) (a':=?_) #[bT,bT,bT,bT,bT,bT,bT,bT,bT,bT,bT,bf,bf,bf,bf,bf,bf,bf,bf,bf,bf,bf,bf,bf,bf,bf] (any_of HT_.out (by kernel_rfl)) ?_ ?_ ?_
         rotate_left
         ·intro w';go_simp;with_reducible rfl
         rotate_left
         ·simp only [Act.put,q_ia8,q_cz8,q_cs8,i64_w,i32_w];rfl
         refine pQ (i:=11) (N:=some 26) (v:=?_) (a':=?_) #[bT,bT,bT,bT,bT,bT,bT,bT,bT,bT,bT,bT,bf,bf,bf,bf,bf,bf,bf,bf,bf,bf,bf,bf,bf,bf] (any_of HT_.out (by kernel_rfl)) ?_ ?_ ?_
         rotate_left
         ·intro w';go_simp;with_reducible rfl
         rotate_left
         ·simp only [Act.put,q_ia8,q_cz8,q_cs8,i64_w,i32_w];rfl
         refine pQ (i:=12) (N:=some 27) (v:=?_) (a':=?_) #[bT,bT,bT,bT,bT,bT,bT,bT,bT,bT,bT,bT,bT,bf,bf,bf,bf,bf,bf,bf,bf,bf,bf,bf,bf,bf] (any_of HT_.out (by kernel_rfl)) ?_ ?_ ?_
         rotate_left
         ·intro w';go_simp;with_reducible rfl
         rotate_left
         ·simp only [Act.put,q_ia8,q_cz8,q_cs8,i64_w,i32_w];rfl
         refine pQ (i:=13) (N:=some 28) (v:=?_) (a':=?_) #[bT,bT,bT,bT,bT,bT,bT,bT,bT,bT,bT,bT,bT,bT,bf,bf,bf,bf,bf,bf,bf,bf,bf,bf,bf,bf] (any_of HT_.out (by kernel_rfl)) ?_ ?_ ?_
         rotate_left
         ·intro w';go_simp;with_reducible rfl
         rotate_left
         ·simp only [Act.put,q_ia8,q_cz8,q_cs8,i64_w,i32_w];rfl
         refine pure_ (i:=14) (N:=some 29) (v:=undef) (a':=?_) #[bT,bT,bT,bT,bT,bT,bT,bT,bT,bT,bT,bT,bT,bT,bT,bf,bf,bf,bf,bf,bf,bf,bf,bf,bf,bf] rfl rfl (any_of HT_.out (by kernel_rfl)) (fun _ _ _ h => h) (Or.inr ⟨by rfl,rfl⟩) ?_ ?_
         rotate_left
         ·simp only [Act.put,q_ia8,q_cz8,q_cs8,i64_w,i32_w];rfl
         refine pure_ (i:=15) (N:=some 30) (v:=undef) (a':=?_) #[bT,bT,bT,bT,bT,bT,bT,bT,bT,bT,bT,bT,bT,bT,bT,bT,bf,bf,bf,bf,bf,bf,bf,bf,bf,bf] rfl rfl (any_of HT_.out (by kernel_rfl)) (fun _ _ _ h => h) (Or.inr ⟨by rfl,rfl⟩) ?_ ?_
         rotate_left
         ·simp only [Act.put,q_ia8,q_cz8,q_cs8,i64_w,i32_w];rfl
         refine pure_ (i:=16) (N:=some 31) (v:=undef) (a':=?_) #[bT,bT,bT,bT,bT,bT,bT,bT,bT,bT,bT,bT,bT,bT,bT,bT,bT,bf,bf,bf,bf,bf,bf,bf,bf,bf] rfl rfl (any_of HT_.out (by kernel_rfl)) (fun _ _ _ h => h) (Or.inr ⟨by rfl,rfl⟩) ?_ ?_
         rotate_left
         ·simp only [Act.put,q_ia8,q_cz8,q_cs8,i64_w,i32_w];rfl
         refine pure_ (i:=17) (N:=some 32) (v:=undef) (a':=?_) #[bT,bT,bT,bT,bT,bT,bT,bT,bT,bT,bT,bT,bT,bT,bT,bT,bT,bT,bf,bf,bf,bf,bf,bf,bf,bf] rfl rfl (any_of HT_.out (by kernel_rfl)) (fun _ _ _ h => h) (Or.inr ⟨by rfl,rfl⟩) ?_ ?_
         rotate_left
         ·simp only [Act.put,q_ia8,q_cz8,q_cs8,i64_w,i32_w];rfl
         refine pure_ (i:=18) (N:=some 33) (v:=undef) (a':=?_) #[bT,bT,bT,bT,bT,bT,bT,bT,bT,bT,bT,bT,bT,bT,bT,bT,bT,bT,bT,bf,bf,bf,bf,bf,bf,bf] rfl rfl (any_of HT_.out (by kernel_rfl)) (fun _ _ _ h => h) (Or.inr ⟨by rfl,rfl⟩) ?_ ?_
         rotate_left
         ·simp only [Act.put,q_ia8,q_cz8,q_cs8,i64_w,i32_w];rfl
         refine pure_ (i:=19) (N:=some 34) (v:=undef) (a':=?_) #[bT,bT,bT,bT,bT,bT,bT,bT,bT,bT,bT,bT,bT,bT,bT,bT,bT,bT,bT,bT,bf,bf,bf,bf,bf,bf] rfl rfl (any_of HT_.out (by kernel_rfl)) (fun _ _ _ h => h) (Or.inr ⟨by rfl,rfl⟩) ?_ ?_
         rotate_left
         ·simp only [Act.put,q_ia8,q_cz8,q_cs8,i64_w,i32_w];rfl
         refine pure_ (i:=20) (N:=some 35) (v:=undef) (a':=?_) #[bT,bT,bT,bT,bT,bT,bT,bT,bT,bT,bT,bT,bT,bT,bT,bT,bT,bT,bT,bT,bT,bf,bf,bf,bf,bf] rfl rfl (any_of HT_.out (by kernel_rfl)) (fun _ _ _ h => h) (Or.inr ⟨by rfl,rfl⟩) ?_ ?_
         rotate_left
         ·simp only [Act.put,q_ia8,q_cz8,q_cs8,i64_w,i32_w];rfl
         refine pure_ (i:=21) (N:=some 36) (v:=undef) (a':=?_) #[bT,bT,bT,bT,bT,bT,bT,bT,bT,bT,bT,bT,bT,bT,bT,bT,bT,bT,bT,bT,bT,bT,bf,bf,bf,bf] rfl rfl (any_of HT_.out (by kernel_rfl)) (fun _ _ _ h => h) (Or.inr ⟨by rfl,rfl⟩) ?_ ?_
         rotate_left
         ·simp only [Act.put,q_ia8,q_cz8,q_cs8,i64_w,i32_w];rfl
         refine pure_ (i:=22) (N:=some 37) (v:=undef) (a':=?_) #[bT,bT,bT,bT,bT,bT,bT,bT,bT,bT,bT,bT,bT,bT,bT,bT,bT,bT,bT,bT,bT,bT,bT,bf,bf,bf] rfl rfl (any_of HT_.out (by kernel_rfl)) (fun _ _ _ h => h) (Or.inr ⟨by rfl,rfl⟩) ?_ ?_
         rotate_left
         ·simp only [Act.put,q_ia8,q_cz8,q_cs8,i64_w,i32_w];rfl
         refine pure_ (i:=23) (N:=some 38) (v:=undef) (a':=?_) #[bT,bT,bT,bT,bT,bT,bT,bT,bT,bT,bT,bT,bT,bT,bT,bT,bT,bT,bT,bT,bT,bT,bT,bT,bf,bf] rfl rfl (any_of HT_.out (by kernel_rfl)) (fun _ _ _ h => h) (Or.inr ⟨by rfl,rfl⟩) ?_ ?_
         rotate_left
         ·simp only [Act.put,q_ia8,q_cz8,q_cs8,i64_w,i32_w];rfl
         refine pQ (i:=24) (N:=some 39) (v:=?_) (a':=?_) #[bT,bT,bT,bT,bT,bT,bT,bT,bT,bT,bT,bT,bT,bT,bT,bT,bT,bT,bT,bT,bT,bT,bT,bT,bT,bf] (any_of HT_.out (by kernel_rfl)) ?_ ?_ ?_
         rotate_left
         ·intro w';go_simp;with_reducible rfl
         rotate_left
         ·simp only [Act.put,q_ia8,q_cz8,q_cs8,i64_w,i32_w];rfl
         refine pQ (i:=25) (N:=some 40) (v:=?_) (a':=?_) #[bT,bT,bT,bT,bT,bT,bT,bT,bT,bT,bT,bT,bT,bT,bT,bT,bT,bT,bT,bT,bT,bT,bT,bT,bT,bT] (any_of HT_.out (by kernel_rfl)) ?_ ?_ ?_
         rotate_left
         ·intro w';go_simp;with_reducible rfl
         rotate_left
         ·simp only [Act.put,q_ia8,q_cz8,q_cs8,i64_w,i32_w];rfl
         refine done_ (done_of HT_.out (by kernel_rfl)) ?_
         try go_wp2
         go_roundg k1
         case measure => have:=HK1.out;omega
         case rel => exact ⟨(wrap64 (x10_1 + 1)),(by first|rfl|(simp;done)|(simp [*];done)),H',⟨by have:=HK1.out;omega⟩,⟨by (with_reducible repeat (first|refine bN ?_ _|refine bD ?_|refine bA ?_ _));exact BK350.out⟩,⟨by repeat (first|(with_reducible first|exact HB.out|apply lA|apply lN|apply lD|refine lS ?_ GE350.out|refine lS ?_ GE352.out)|exact HB.out)⟩⟩
      ·replace c8:=Bool.eq_false_iff.mpr c8
       subst c8
       have H1 : (some false) = some r:=by rw [if_neg (show ¬ (false = true) by decide)] at H;exact H
       clear H
       have H:=H1
       clear H1
       exact absurd (HR_.out.symm.trans (Option.some.inj H).symm) (by decide)
     ·rw [if_neg c6] at H
      exact absurd H (by simp)
    ·rw [if_neg c5] at H
     exact absurd H (by simp)
   ·rw [if_neg c4] at H
    have c4b0 : decide (x10_1 < (l0_0.length : Int)) = false:=decide_eq_false c4
    clear c4
    have H':=aM H
    clear H
    obtain ⟨⟨hcz25_0,hcz25_1,hcz25_2⟩,hfz25_0,hfz25_1,hfz25_2⟩:=bC3 BK350.out
    go_wp2
    go_loopg [45] k1 (fun kq v45 w' => ∃ (x45_2 : Int),v45 = .int .i64 x45_2 ∧ Aside0 (impl_StoreOk.l1 kq l0_1 (l0_1.length : Int) x45_2 l0_0 l0_1 a0_2 = some r) ∧ Aside0 (kq ≤ k1) ∧ Aside0 (w'.heap[gb350]? = some (.cells #[(.slice A0_0 l0_0.length c0_0),(.slice A0_1 l0_1.length c0_1),.string a0_2] 38 (0,0))) ∧ Aside0 (Below w.heap.size w w'))
    case atStart => exact ⟨(0),(by first|rfl|(simp;done)|(simp [*];done)),H',⟨Nat.le_refl _⟩,⟨by (with_reducible repeat (first|refine bN ?_ _|refine bD ?_|refine bA ?_ _));exact BK350.out⟩,⟨by repeat (first|(with_reducible first|exact HB.out|apply lA|apply lN|apply lD|refine lS ?_ GE350.out)|exact HB.out)⟩⟩
    case round =>
     clear H'
     try clear c1
     try clear c2
     try clear p2
     try clear c3
     try clear p3
     try clear q3
     try clear hx3
     try clear c4
     try clear c4b0
     try clear c5
     try clear c5b0
     try clear c6
     try clear c6b0
     try clear p6
     try clear c8
     try clear c9
     try clear c9b0
     try clear c9b1
     try clear c10
     try clear c10b0
     try clear c12
     try clear c12b0
     try clear c13
     try clear c13b0
     try clear c14
     try clear c14b0
     try clear c16
     try clear c21
     try clear hcz17_0
     try clear hcz17_1
     try clear hcz22_0
     try clear hcz22_1
     try clear hcz25_0
     try clear hcz25_1
     try clear hcz25_2
     try clear hcz3_0
     try clear hcz3_1
     try clear hcz3_2
     try clear hx351_0
     try clear hx351_1
     try clear hx354_0
     try clear hx354_1
     try clear p2
     try clear p351
     try clear p354
     try clear q351
     try clear q354
     obtain ⟨x45_2,rfl,HA,HK2,BK350,HB⟩:=hrel
     cases gk with
     |zero => exact absurd HA.out (by simp [impl_StoreOk.l1])
     |succ k2 =>
      have H:=HA.out
      clear HA
      simp only [impl_StoreOk.l1] at H
      by_cases c26 : x45_2 < (l0_1.length : Int)
      ·rw [if_pos c26] at H
       have c26b0 : decide (x45_2 < (l0_1.length : Int)) = true:=decide_eq_true c26
       clear c26
       by_cases c27 : 0 ≤ x45_2
       ·rw [if_pos c27] at H
        have c27b0 : decide (0 ≤ x45_2) = true:=decide_eq_true c27
        clear c27
        by_cases c28 : x45_2 < (l0_1.length : Int)
        ·rw [if_pos c28] at H
         have c28b0 : decide (x45_2 < (l0_1.length : Int)) = true:=decide_eq_true c28
         clear c28
         replace H:=Option.bind_eq_some_iff.mp H
         obtain ⟨t357,A290,H⟩:=H
         replace H : (if t357 = true then (if (((rd_T57 l0_1 x45_2).f1).size : Int) > 40 then (some false) else (if (((rd_T57 l0_1 x45_2).f2).size : Int) > 40 then (some false) else (if x45_2 > 0 then (if 0 ≤ (wrap64 (x45_2 - 1)) then (if (wrap64 (x45_2 - 1)) < (l0_1.length : Int) then ((impl_byKey.f ((rd_T57 l0_1 (wrap64 (x45_2 - 1))).f0) ((rd_T57 l0_1 (wrap64 (x45_2 - 1))).f1) ((rd_T57 l0_1 (wrap64 (x45_2 - 1))).f2) ((rd_T57 l0_1 x45_2).f0) ((rd_T57 l0_1 x45_2).f1) ((rd_T57 l0_1 x45_2).f2)).bind fun t359 => (if t359 ≥ 0 then (some false) else (impl_StoreOk.l1 k2 l0_1 (l0_1.length : Int) (wrap64 (x45_2 + 1)) l0_0 l0_1 a0_2))) else (none)) else (none)) else (impl_StoreOk.l1 k2 l0_1 (l0_1.length : Int) (wrap64 (x45_2 + 1)) l0_0 l0_1 a0_2)))) else (some false)) = some r:=H
         have A29:=aM A290
         clear A290
         by_cases c30 : t357 = true
         ·subst c30
          have H1 : (if (((rd_T57 l0_1 x45_2).f1).size : Int) > 40 then (some false) else (if (((rd_T57 l0_1 x45_2).f2).size : Int) > 40 then (some false) else (if x45_2 > 0 then (if 0 ≤ (wrap64 (x45_2 - 1)) then (if (wrap64 (x45_2 - 1)) < (l0_1.length : Int) then ((impl_byKey.f ((rd_T57 l0_1 (wrap64 (x45_2 - 1))).f0) ((rd_T57 l0_1 (wrap64 (x45_2 - 1))).f1) ((rd_T57 l0_1 (wrap64 (x45_2 - 1))).f2) ((rd_T57 l0_1 x45_2).f0) ((rd_T57 l0_1 x45_2).f1) ((rd_T57 l0_1 x45_2).f2)).bind fun t359 => (if t359 ≥ 0 then (some false) else (impl_StoreOk.l1 k2 l0_1 (l0_1.length : Int) (wrap64 (x45_2 + 1)) l0_0 l0_1 a0_2))) else (none)) else (none)) else (impl_StoreOk.l1 k2 l0_1 (l0_1.length : Int) (wrap64 (x45_2 + 1)) l0_0 l0_1 a0_2)))) = some r:=by rw [if_pos rfl] at H;exact H
          clear H
          have H:=H1
          clear H1
          by_cases c31 : (((rd_T57 l0_1 x45_2).f1).size : Int) > 40
          ·rw [if_pos c31] at H
           have c31b0 : decide (40 < (((rd_T57 l0_1 x45_2).f1).size : Int)) = true:=decide_eq_true c31
           have c31b1 : decide (40 < ((rd_T57 l0_1 x45_2).f1).size) = true:=decide_eq_true (by omega)
           clear c31
           exact absurd (HR_.out.symm.trans (Option.some.inj H).symm) (by decide)
          ·rw [if_neg c31] at H
           have c31b0 : decide (40 < (((rd_T57 l0_1 x45_2).f1).size : Int)) = false:=decide_eq_false c31
           have c31b1 : decide (40 < ((rd_T57 l0_1 x45_2).f1).size) = false:=decide_eq_false (by omega)
           clear c31
           by_cases c32 : (((rd_T57 l0_1 x45_2).f2).size : Int) > 40
           ·rw [if_pos c32] at H
            have c32b0 : decide (40 < (((rd_T57 l0_1 x45_2).f2).size : Int)) = true:=decide_eq_true c32
            have c32b1 : decide (40 < ((rd_T57 l0_1 x45_2).f2).size) = true:=decide_eq_true (by omega)
            clear c32
            exact absurd (HR_.out.symm.trans (Option.some.inj H).symm) (by decide)
           ·rw [if_neg c32] at H
            have c32b0 : decide (40 < (((rd_T57 l0_1 x45_2).f2).size : Int)) = false:=decide_eq_false c32
            have c32b1 : decide (40 < ((rd_T57 l0_1 x45_2).f2).size) = false:=decide_eq_false (by omega)
            clear c32
            by_cases c33 : x45_2 > 0
            ·rw [if_pos c33] at H
             have c33b0 : decide (0 < x45_2) = true:=decide_eq_true c33
             clear c33
             obtain ⟨ji34,hji34⟩ : ∃ j_ : Int,(wrap64 (x45_2 - 1)) = j_:=⟨_,rfl⟩
             replace H : (if 0 ≤ (ji34) then (if (ji34) < (l0_1.length : Int) then ((impl_byKey.f ((rd_T57 l0_1 (ji34)).f0) ((rd_T57 l0_1 (ji34)).f1) ((rd_T57 l0_1 (ji34)).f2) ((rd_T57 l0_1 x45_2).f0) ((rd_T57 l0_1 x45_2).f1) ((rd_T57 l0_1 x45_2).f2)).bind fun t359 => (if t359 ≥ 0 then (some false) else (impl_StoreOk.l1 k2 l0_1 (l0_1.length : Int) (wrap64 (x45_2 + 1)) l0_0 l0_1 a0_2))) else (none)) else (none)) = some r:=by first|(rw [hji34] at H;exact H)|(simp only [hji34] at H ⊢;exact H)
             (try rw [hji34] at A29)
             have hji34w : (IntKind.i64.wrap (x45_2 - 1)) = ji34:=(i64_w _).trans hji34
             by_cases c35 : 0 ≤ (ji34)
             ·rw [if_pos c35] at H
              have c35b0 : decide (0 ≤ (ji34)) = true:=decide_eq_true c35
              clear c35
              by_cases c36 : (ji34) < (l0_1.length : Int)
              ·rw [if_pos c36] at H
               have c36b0 : decide ((ji34) < (l0_1.length : Int)) = true:=decide_eq_true c36
               clear c36
               replace H:=Option.bind_eq_some_iff.mp H
               obtain ⟨t359,A370,H⟩:=H
               replace H : (if t359 ≥ 0 then (some false) else (impl_StoreOk.l1 k2 l0_1 (l0_1.length : Int) (wrap64 (x45_2 + 1)) l0_0 l0_1 a0_2)) = some r:=H
               have A37:=aM A370
               clear A370
               by_cases c38 : t359 ≥ 0
               ·rw [if_pos c38] at H
                have c38b0 : decide (0 ≤ t359) = true:=decide_eq_true c38
                clear c38
                exact absurd (HR_.out.symm.trans (Option.some.inj H).symm) (by decide)
               ·rw [if_neg c38] at H
                have c38b0 : decide (0 ≤ t359) = false:=decide_eq_false c38
                clear c38
                have H':=aM H
                clear H
                have p355 : 0 ≤ (x45_2 : Int):=of_decide_eq_true (by first|(with_reducible assumption)|assumption)
                have q355 : x45_2 < (l0_1.length : Int):=of_decide_eq_true (by first|(with_reducible assumption)|assumption)
                obtain ⟨ad355,e355,hx355_0,hx355_1,hx355_2⟩:=at_T57 HR0_1.out x45_2 p355 q355
                cases e355
                replace hx355_0:=(HB.out.cell (World.block_lt_of_cell? w _ hx355_0)).trans hx355_0
                replace hx355_1:=(HB.out.cell (World.block_lt_of_cell? w _ hx355_1)).trans hx355_1
                replace hx355_2:=(HB.out.cell (World.block_lt_of_cell? w _ hx355_2)).trans hx355_2
                replace p355:=eq_true p355
                replace q355:=eq_true q355
                try go_wp2_with (first|((with_reducible refine gate_dst (N:=6) rfl ?_);(try (refine gate_guard (by rfl) ?_;dsimp only));refine box_event ?hg (N:=6) ?hd (cs:=#[.string (⟨#[]⟩ : ByteArray),.string (⟨#[]⟩ : ByteArray),.string (⟨#[]⟩ : ByteArray)]) (t:=57) ?hr ?_;(case hd => rfl);(case hg => rfl);(case hr => first|(go_simp;done)|(go_simp;rfl));intro gb356 hg w39 hbox hb;have n0_:=aM (bH BK350.out hb);have n1_:=aM (lQ HB.out hb);have n2_:=aM (hbox);have n3_:=aM ((sQ hg HB.out : w.heap.size ≤ gb356));have n4_:=n3_;have n5_:=aM ((nL hg BK350.out : gb350 ≠ gb356));have n6_:=aM ((nG hg BK350.out : gb356 ≠ gb350));clear BK350 HB;have BK350:=n0_;have HB:=n1_;have BK356:=n2_;have GW356:=n3_;have GE356:=n4_;have NB350_356:=n5_;have NB356_350:=n6_;clear n0_ n1_ n2_ n3_ n4_ n5_ n6_ hb hbox hg;have hnb40:=NB356_350.out;have hnc40:=NB350_356.out;obtain ⟨⟨hcz41_0,hcz41_1,hcz41_2⟩,hfz41_0,hfz41_1,hfz41_2⟩:=bC3 BK356.out))
                have n0_ : Aside0 ((((w39.setCell ⟨gb356,0,none⟩ (.string ((rd_T57 l0_1 x45_2).f0))).setCell ⟨gb356,1,none⟩ (.string ((rd_T57 l0_1 x45_2).f1))).setCell ⟨gb356,2,none⟩ (.string ((rd_T57 l0_1 x45_2).f2))).heap[gb350]? = some (.cells #[.slice A0_0 l0_0.length c0_0,.slice (some ad355) l0_1.length c0_1,.string a0_2] 38 (0,0))):=⟨by (with_reducible repeat (first|refine bN ?_ _|refine bD ?_|refine bA ?_ _));refine blk_far ?_ NB350_356.out _;(with_reducible repeat (first|refine bN ?_ _|refine bD ?_|refine bA ?_ _));refine blk_far ?_ NB350_356.out _;(with_reducible repeat (first|refine bN ?_ _|refine bD ?_|refine bA ?_ _));refine blk_far ?_ NB350_356.out _;(with_reducible repeat (first|refine bN ?_ _|refine bD ?_|refine bA ?_ _));exact BK350.out⟩
                have n1_ : Aside0 ((((w39.setCell ⟨gb356,0,none⟩ (.string ((rd_T57 l0_1 x45_2).f0))).setCell ⟨gb356,1,none⟩ (.string ((rd_T57 l0_1 x45_2).f1))).setCell ⟨gb356,2,none⟩ (.string ((rd_T57 l0_1 x45_2).f2))).heap[gb356]? = some (.cells #[.string ((rd_T57 l0_1 x45_2).f0),.string ((rd_T57 l0_1 x45_2).f1),.string ((rd_T57 l0_1 x45_2).f2)] 57 (0,0))):=⟨by (with_reducible repeat (first|refine bN ?_ _|refine bD ?_|refine bA ?_ _));refine blk_put (cs:=#[.string ((rd_T57 l0_1 x45_2).f0),.string ((rd_T57 l0_1 x45_2).f1),.string (⟨#[]⟩ : ByteArray)]) ?_ 2 _ rfl;(with_reducible repeat (first|refine bN ?_ _|refine bD ?_|refine bA ?_ _));refine blk_put (cs:=#[.string ((rd_T57 l0_1 x45_2).f0),.string (⟨#[]⟩ : ByteArray),.string (⟨#[]⟩ : ByteArray)]) ?_ 1 _ rfl;(with_reducible repeat (first|refine bN ?_ _|refine bD ?_|refine bA ?_ _));refine blk_put (cs:=#[.string (⟨#[]⟩ : ByteArray),.string (⟨#[]⟩ : ByteArray),.string (⟨#[]⟩ : ByteArray)]) ?_ 0 _ rfl;(with_reducible repeat (first|refine bN ?_ _|refine bD ?_|refine bA ?_ _));exact BK356.out⟩
                have n2_ : Aside0 (Below w.heap.size w (((w39.setCell ⟨gb356,0,none⟩ (.string ((rd_T57 l0_1 x45_2).f0))).setCell ⟨gb356,1,none⟩ (.string ((rd_T57 l0_1 x45_2).f1))).setCell ⟨gb356,2,none⟩ (.string ((rd_T57 l0_1 x45_2).f2)))):=⟨by repeat (first|(with_reducible first|exact HB.out|apply lA|apply lN|apply lD|refine lS ?_ GE350.out|refine lS ?_ GE356.out)|exact HB.out)⟩
                (try clear BK350)
                (try clear BK356)
                (try clear HB)
                generalize (((w39.setCell ⟨gb356,0,none⟩ (.string ((rd_T57 l0_1 x45_2).f0))).setCell ⟨gb356,1,none⟩ (.string ((rd_T57 l0_1 x45_2).f1))).setCell ⟨gb356,2,none⟩ (.string ((rd_T57 l0_1 x45_2).f2))) = w42 at n0_ n1_ n2_ ⊢
                have BK350:=n0_
                have BK356:=n1_
                have HB:=n2_
                clear n0_ n1_ n2_
                have n0_:=aM (bD BK350.out)
                have n1_:=aM (bD BK356.out)
                have n2_:=aM (lD HB.out)
                clear BK350
                clear BK356
                clear HB
                have BK350:=n0_
                have BK356:=n1_
                have HB:=n2_
                clear n0_ n1_ n2_
                have p358 : 0 ≤ ((ji34) : Int):=of_decide_eq_true (by first|(with_reducible assumption)|assumption)
                have q358 : (ji34) < (l0_1.length : Int):=of_decide_eq_true (by first|(with_reducible assumption)|assumption)
                obtain ⟨ad358,e358,hx358_0,hx358_1,hx358_2⟩:=at_T57 HR0_1.out (ji34) p358 q358
                have hw358_2:=hx358_2
                have hw358_1:=hx358_1
                have hw358_0:=hx358_0
                obtain rfl : ad355 = ad358:=(by injection e358)
                replace hx358_0:=(HB.out.cell (World.block_lt_of_cell? w _ hx358_0)).trans hx358_0
                replace hx358_1:=(HB.out.cell (World.block_lt_of_cell? w _ hx358_1)).trans hx358_1
                replace hx358_2:=(HB.out.cell (World.block_lt_of_cell? w _ hx358_2)).trans hx358_2
                replace p358:=eq_true p358
                replace q358:=eq_true q358
                refine start_ (n:=31) (S:=fun w' => w'.cell? ⟨gb356,0,none⟩ = some (.string ((rd_T57 l0_1 x45_2).f0)) ∧ w'.cell? ⟨gb356,1,none⟩ = some (.string ((rd_T57 l0_1 x45_2).f1)) ∧ w'.cell? ⟨gb356,2,none⟩ = some (.string ((rd_T57 l0_1 x45_2).f2)) ∧ w'.cell? ⟨gb350,0,none⟩ = some (.slice A0_0 l0_0.length c0_0) ∧ w'.cell? ⟨gb350,1,none⟩ = some (.slice (some ad355) l0_1.length c0_1) ∧ w'.cell? ⟨gb350,2,none⟩ = some (.string a0_2) ∧ w'.cell? (ad355.add (((ji34)).toNat * 3)) = some (.string ((rd_T57 l0_1 (ji34)).f0)) ∧ w'.cell? ⟨(ad355.add (((ji34)).toNat * 3)).block,(ad355.add (((ji34)).toNat * 3)).off + 1,none⟩ = some (.string ((rd_T57 l0_1 (ji34)).f1)) ∧ w'.cell? ⟨(ad355.add (((ji34)).toNat * 3)).block,(ad355.add (((ji34)).toNat * 3)).off + 2,none⟩ = some (.string ((rd_T57 l0_1 (ji34)).f2))) (ds:=[]) #[bf,bf,bf,bf,bf,bf,bf,bf,bf,bf,bf,bf,bf,bf,bf,bf,bf,bf,bf,bf,bf,bf,bf,bf,bf,bf,bf,bf,bf,bf,bf] (by kernel_rfl) rfl rfl ⟨(bC BK356.out 0).trans rfl,(bC BK356.out 1).trans rfl,(bC BK356.out 2).trans rfl,(bC BK350.out 0).trans rfl,(bC BK350.out 1).trans rfl,(bC BK350.out 2).trans rfl,((HB.out.cell (World.block_lt_of_cell? w _ hw358_0)).trans hw358_0),((HB.out.cell (World.block_lt_of_cell? w _ hw358_1)).trans hw358_1),((HB.out.cell (World.block_lt_of_cell? w _ hw358_2)).trans hw358_2)⟩ (fun hHeld => ?_);refine with_tabW impl_StoreOk.tab10 impl_StoreOk.bits10 (fun HT_ HW_ => ?_)
                generalize w42.drew = w43 at BK350 BK356 HB hx358_0 hx358_1 hx358_2 hHeld ⊢
                refine pQ (i:=0) (N:=some 50) (v:=?_) (a':=?_) #[bT,bf,bf,bf,bf,bf,bf,bf,bf,bf,bf,bf,bf,bf,bf,bf,bf,bf,bf,bf,bf,bf,bf,bf,bf,bf,bf,bf,bf,bf,bf] (any_of HT_.out (by kernel_rfl)) ?_ ?_ ?_
                rotate_left
                ·intro w';go_simp;with_reducible rfl
                rotate_left
                ·simp only [Act.put,q_ia8,q_cz8,q_cs8,i64_w,i32_w];rfl
                refine take_ (i:=1) (N:=some 51) (v:=?_) (a':=?_) #[bT,bT,bf,bf,bf,bf,bf,bf,bf,bf,bf,bf,bf,bf,bf,bf,bf,bf,bf,bf,bf,bf,bf,bf,bf,bf,bf,bf,bf,bf,bf] rfl rfl (take_ofW HT_.out HW_.out (by kernel_rfl)) (fun _ _ _ h => h) (Or.inl ⟨by rfl,?_⟩) hHeld ?_ ?_
                rotate_left
                ·rintro w' ⟨s0,s1,s2,s3,s4,s5,s6,s7,s8⟩
                 go_simp
                 with_reducible rfl
                rotate_left
                ·simp only [Act.put,q_ia8,q_cz8,q_cs8,i64_w,i32_w];rfl
                refine one_ (i:=2) (N:=some 52) #[bT,bT,bT,bf,bf,bf,bf,bf,bf,bf,bf,bf,bf,bf,bf,bf,bf,bf,bf,bf,bf,bf,bf,bf,bf,bf,bf,bf,bf,bf,bf] rfl rfl (one_of HT_.out (by kernel_rfl)) (by decide) (fun K hK => ?_)
                refine goes_ Try.func69 (by kernel_rfl) rfl #[.string ((rd_T57 l0_1 x45_2).f0)] (by rfl) rfl rfl (by (try simp only [List.map_toArray,List.map_cons,List.map_nil]);first|done|rfl|(simp only [List.length_drop,List.length_take];rfl)) ?_
                with_reducible refine (impl_isLetters.calls k2 ((rd_T57 l0_1 x45_2).f0) true _ A29.out).mono ?_
                rintro e w' ⟨rfl,⟨nd,rfl⟩⟩
                refine ⟨_,rfl,?_⟩
                refine hK.out _ _ ⟨(bC BK356.out 0).trans rfl,(bC BK356.out 1).trans rfl,(bC BK356.out 2).trans rfl,(bC BK350.out 0).trans rfl,(bC BK350.out 1).trans rfl,(bC BK350.out 2).trans rfl,((HB.out.cell (World.block_lt_of_cell? w _ hw358_0)).trans hw358_0),((HB.out.cell (World.block_lt_of_cell? w _ hw358_1)).trans hw358_1),((HB.out.cell (World.block_lt_of_cell? w _ hw358_2)).trans hw358_2)⟩ (fun hHeld => ?_)
                clear hK K
                refine norm_ (a':=?_) ?_ ?_
                rotate_left
                ·show Act.put _ (some 52) _ = _
                 simp only [Act.put,q_ia8,q_cz8,q_cs8,i64_w,i32_w]
                 rfl
                refine pQ (i:=3) (N:=some 53) (v:=?_) (a':=?_) #[bT,bT,bT,bT,bf,bf,bf,bf,bf,bf,bf,bf,bf,bf,bf,bf,bf,bf,bf,bf,bf,bf,bf,bf,bf,bf,bf,bf,bf,bf,bf] (any_of HT_.out (by kernel_rfl)) ?_ ?_ ?_
                rotate_left
                ·intro w';go_simp;with_reducible rfl
                rotate_left
                ·simp only [Act.put,q_ia8,q_cz8,q_cs8,i64_w,i32_w];rfl
                refine pQ (i:=4) (N:=some 54) (v:=?_) (a':=?_) #[bT,bT,bT,bT,bT,bf,bf,bf,bf,bf,bf,bf,bf,bf,bf,bf,bf,bf,bf,bf,bf,bf,bf,bf,bf,bf,bf,bf,bf,bf,bf] (any_of HT_.out (by kernel_rfl)) ?_ ?_ ?_
                rotate_left
                ·intro w';go_simp;with_reducible rfl
                rotate_left
                ·simp only [Act.put,q_ia8,q_cz8,q_cs8,i64_w,i32_w];rfl
                refine pQ (i:=5) (N:=some 55) (v:=?_) (a':=?_) #[bT,bT,bT,bT,bT,bT,bf,bf,bf,bf,bf,bf,bf,bf,bf,bf,bf,bf,bf,bf,bf,bf,bf,bf,bf,bf,bf,bf,bf,bf,bf] (any_of HT_.out (by kernel_rfl)) ?_ ?_ ?_
                rotate_left
                ·intro w';go_simp;with_reducible rfl
                rotate_left
                ·simp only [Act.put,q_ia8,q_cz8,q_cs8,i64_w,i32_w];rfl
                refine take_ (i:=6) (N:=some 56) (v:=?_) (a':=?_) #[bT,bT,bT,bT,bT,bT,bT,bf,bf,bf,bf,bf,bf,bf,bf,bf,bf,bf,bf,bf,bf,bf,bf,bf,bf,bf,bf,bf,bf,bf,bf] rfl rfl (take_ofW HT_.out HW_.out (by kernel_rfl)) (fun _ _ _ h => h) (Or.inl ⟨by rfl,?_⟩) hHeld ?_ ?_
                rotate_left
                ·rintro w' ⟨s0,s1,s2,s3,s4,s5,s6,s7,s8⟩
                 go_simp
                 with_reducible rfl
                rotate_left
                ·simp only [Act.put,q_ia8,q_cz8,q_cs8,i64_w,i32_w];rfl
                refine pQ (i:=7) (N:=some 57) (v:=?_) (a':=?_) #[bT,bT,bT,bT,bT,bT,bT,bT,bf,bf,bf,bf,bf,bf,bf,bf,bf,bf,bf,bf,bf,bf,bf,bf,bf,bf,bf,bf,bf,bf,bf] (any_of HT_.out (by kernel_rfl)) ?_ ?_ ?_
                rotate_left
                ·intro w';go_simp;with_reducible rfl
                rotate_left
                ·simp only [Act.put,q_ia8,q_cz8,q_cs8,i64_w,i32_w];rfl
                refine pQ (i:=8) (N:=some 58) (v:=?_) (a':=?_) #[bT,bT,bT,bT,bT,bT,bT,bT,bT,bf,bf,bf,bf,bf,bf,bf,bf,bf,bf,bf,bf,bf,bf,bf,bf,bf,bf,bf,bf,bf,bf] (any_of HT_.out (by kernel_rfl)) ?_ ?_ ?_
                rotate_left
                ·intro w';go_simp;with_reducible rfl
                rotate_left
                ·simp only [Act.put,q_ia8,q_cz8,q_cs8,i64_w,i32_w];rfl
                refine pQ (i:=9) (N:=some 59) (v:=?_) (a':=?_) #[bT,bT,bT,bT,bT,bT,bT,bT,bT,bT,bf,bf,bf,bf,bf,bf,bf,bf,bf,bf,bf,bf,bf,bf,bf,bf,bf,bf,bf,bf,bf] (any_of HT_.out (by kernel_rfl)) ?_ ?_ ?_
                rotate_left
                ·intro w';go_simp;with_reducible rfl
                rotate_left
                ·simp only [Act.put,q_ia8,q_cz8,q_cs8,i64_w,i32_w];rfl
                refine pQ (i:=10) (N:=some 60) (v:=?_) (a':=?_) #[bT,bT,bT,bT,bT,bT,bT,bT,bT,bT,bT,bf,bf,bf,bf,bf,bf,bf,bf,bf,bf,bf,bf,bf,bf,bf,bf,bf,bf,bf,bf] (any_of HT_.out (by kernel_rfl)) ?_ ?_ ?_
                rotate_left
                ·intro w';go_simp;with_reducible rfl
                rotate_left
                ·simp only [Act.put,q_ia8,q_cz8,q_cs8,i64_w,i32_w];rfl
                refine pQ (i:=11) (N:=some 61) (v:=?_) (a':=?_) #[bT,bT,bT,bT,bT,bT,bT,bT,bT,bT,bT,bT,bf,bf,bf,bf,bf,bf,bf,bf,bf,bf,bf,bf,bf,bf,bf,bf,bf,bf,bf] (any_of HT_.out (by kernel_rfl)) ?_ ?_ ?_
                rotate_left
                ·intro w';go_simp;with_reducible rfl
                rotate_left
                ·simp only [Act.put,q_ia8,q_cz8,q_cs8,i64_w,i32_w];rfl
                refine take_ (i:=12) (N:=some 62) (v:=?_) (a':=?_) #[bT,bT,bT,bT,bT,bT,bT,bT,bT,bT,bT,bT,bT,bf,bf,bf,bf,bf,bf,bf,bf,bf,bf,bf,bf,bf,bf,bf,bf,bf,bf] rfl rfl (take_ofW HT_.out HW_.out (by kernel_rfl)) (fun _ _ _ h => h) (Or.inl ⟨by rfl,?_⟩) hHeld ?_ ?_
                rotate_left
                ·rintro w' ⟨s0,s1,s2,s3,s4,s5,s6,s7,s8⟩
                 go_simp
                 with_reducible rfl
                rotate_left
                ·simp only [Act.put,q_ia8,q_cz8,q_cs8,i64_w,i32_w];rfl
                refine pQ (i:=13) (N:=some 63) (v:=?_) (a':=?_) #[bT,bT,bT,bT,bT,bT,bT,bT,bT,bT,bT,bT,bT,bT,bf,bf,bf,bf,bf,bf,bf,bf,bf,bf,bf,bf,bf,bf,bf,bf,bf] (any_of HT_.out (by kernel_rfl)) ?_ ?_ ?_
                rotate_left
                ·intro w';go_simp;with_reducible rfl
                rotate_left
                ·simp only [Act.put,q_ia8,q_cz8,q_cs8,i64_w,i32_w];rfl
                refine pQ (i:=14) (N:=some 64) (v:=?_) (a':=?_) #[bT,bT,bT,bT,bT,bT,bT,bT,bT,bT,bT,bT,bT,bT,bT,bf,bf,bf,bf,bf,bf,bf,bf,bf,bf,bf,bf,bf,bf,bf,bf] (any_of HT_.out (by kernel_rfl)) ?_ ?_ ?_
                rotate_left
                ·intro w';go_simp;with_reducible rfl
                rotate_left
                ·simp only [Act.put,q_ia8,q_cz8,q_cs8,i64_w,i32_w];rfl
                refine pQ (i:=15) (N:=some 65) (v:=?_) (a':=?_) #[bT,bT,bT,bT,bT,bT,bT,bT,bT,bT,bT,bT,bT,bT,bT,bT,bf,bf,bf,bf,bf,bf,bf,bf,bf,bf,bf,bf,bf,bf,bf] (any_of HT_.out (by kernel_rfl)) ?_ ?_ ?_
                rotate_left
                ·intro w';go_simp;with_reducible rfl
                rotate_left
                ·simp only [Act.put,q_ia8,q_cz8,q_cs8,i64_w,i32_w];rfl
                refine pQ (i:=16) (N:=some 66) (v:=?_) (a':=?_) #[bT,bT,bT,bT,bT,bT,bT,bT,bT,bT,bT,bT,bT,bT,bT,bT,bT,bf,bf,bf,bf,bf,bf,bf,bf,bf,bf,bf,bf,bf,bf] (any_of HT_.out (by kernel_rfl)) ?_ ?_ ?_
                rotate_left
                ·intro w';go_simp;with_reducible rfl
                rotate_left
                ·simp only [Act.put,q_ia8,q_cz8,q_cs8,i64_w,i32_w];rfl
                refine pQ (i:=17) (N:=some 67) (v:=?_) (a':=?_) #[bT,bT,bT,bT,bT,bT,bT,bT,bT,bT,bT,bT,bT,bT,bT,bT,bT,bT,bf,bf,bf,bf,bf,bf,bf,bf,bf,bf,bf,bf,bf] (any_of HT_.out (by kernel_rfl)) ?_ ?_ ?_
                rotate_left
                ·intro w';go_simp;with_reducible rfl
                rotate_left
                ·simp only [Act.put,q_ia8,q_cz8,q_cs8,i64_w,i32_w];rfl
                refine pQ (i:=18) (N:=some 68) (v:=?_) (a':=?_) #[bT,bT,bT,bT,bT,bT,bT,bT,bT,bT,bT,bT,bT,bT,bT,bT,bT,bT,bT,bf,bf,bf,bf,bf,bf,bf,bf,bf,bf,bf,bf] (any_of HT_.out (by kernel_rfl)) ?_ ?_ ?_
                rotate_left
                ·intro w';go_simp;with_reducible rfl
                rotate_left
                ·simp only [Act.put,q_ia8,q_cz8,q_cs8,i64_w,i32_w];rfl
                refine pQ (i:=19) (N:=some 69) (v:=?_) (a':=?_) #[bT,bT,bT,bT,bT,bT,bT,bT,bT,bT,bT,bT,bT,bT,bT,bT,bT,bT,bT,bT,bf,bf,bf,bf,bf,bf,bf,bf,bf,bf,bf] (any_of HT_.out (by kernel_rfl)) ?_ ?_ ?_
                rotate_left
                ·intro w';go_simp;with_reducible rfl
                rotate_left
                ·simp only [Act.put,q_ia8,q_cz8,q_cs8,i64_w,i32_w];rfl
                refine pQ (i:=20) (N:=some 70) (v:=?_) (a':=?_) #[bT,bT,bT,bT,bT,bT,bT,bT,bT,bT,bT,bT,bT,bT,bT,bT,bT,bT,bT,bT,bT,bf,bf,bf,bf,bf,bf,bf,bf,bf,bf] (any_of HT_.out (by kernel_rfl)) ?_ ?_ ?_
                rotate_left
                ·intro w';go_simp;with_reducible rfl
                rotate_left
                ·simp only [Act.put,q_ia8,q_cz8,q_cs8,i64_w,i32_w];rfl
                refine pQ (i:=22) (N:=some 72) (v:=?_) (a':=?_) #[bT,bT,bT,bT,bT,bT,bT,bT,bT,bT,bT,bT,bT,bT,bT,bT,bT,bT,bT,bT,bT,bf,bT,bf,bf,bf,bf,bf,bf,bf,bf] (any_of HT_.out (by kernel_rfl)) ?_ ?_ ?_
                rotate_left
                ·intro w';go_simp;with_reducible rfl
                rotate_left
                ·simp only [Act.put,q_ia8,q_cz8,q_cs8,i64_w,i32_w];rfl
                refine pQ (i:=23) (N:=some 73) (v:=?_) (a':=?_) #[bT,bT,bT,bT,bT,bT,bT,bT,bT,bT,bT,bT,bT,bT,bT,bT,bT,bT,bT,bT,bT,bf,bT,bT,bf,bf,bf,bf,bf,bf,bf] (any_of HT_.out (by kernel_rfl)) ?_ ?_ ?_
                rotate_left
                ·intro w';go_simp;with_reducible rfl
                rotate_left
                ·simp only [Act.put,q_ia8,q_cz8,q_cs8,i64_w,i32_w];rfl
                refine take_ (i:=21) (N:=some 71) (v:=?_) (a':=?_) #[bT,bT,bT,bT,bT,bT,bT,bT,bT,bT,bT,bT,bT,bT,bT,bT,bT,bT,bT,bT,bT,bT,bT,bT,bf,bf,bf,bf,bf,bf,bf] rfl rfl (take_ofW HT_.out HW_.out (by kernel_rfl)) (fun _ _ _ h => h) (Or.inl ⟨by rfl,?_⟩) hHeld ?_ ?_
                rotate_left
                ·rintro w' ⟨s0,s1,s2,s3,s4,s5,s6,s7,s8⟩
                 go_simp
                 with_reducible rfl
                rotate_left
                ·simp only [Act.put,q_ia8,q_cz8,q_cs8,i64_w,i32_w];rfl
                refine pQ (i:=24) (N:=some 74) (v:=?_) (a':=?_) #[bT,bT,bT,bT,bT,bT,bT,bT,bT,bT,bT,bT,bT,bT,bT,bT,bT,bT,bT,bT,bT,bT,bT,bT,bT,bf,bf,bf,bf,bf,bf] (any_of HT_.out (by kernel_rfl)) ?_ ?_ ?_
                rotate_left
                ·intro w';go_simp;with_reducible rfl
                rotate_left
                ·simp only [Act.put,q_ia8,q_cz8,q_cs8,i64_w,i32_w];rfl
                refine take_ (i:=25) (N:=some 75) (v:=?_) (a':=?_) #[bT,bT,bT,bT,bT,bT,bT,bT,bT,bT,bT,bT,bT,bT,bT,bT,bT,bT,bT,bT,bT,bT,bT,bT,bT,bT,bf,bf,bf,bf,bf] rfl rfl (take_ofW HT_.out HW_.out (by kernel_rfl)) (fun _ _ _ h => h) (Or.inl ⟨by rfl,?_⟩) hHeld ?_ ?_
                rotate_left
                ·rintro w' ⟨s0,s1,s2,s3,s4,s5,s6,s7,s8⟩
                 go_simp
                 with_reducible rfl
                rotate_left
                ·simp only [Act.put,q_ia8,q_cz8,q_cs8,i64_w,i32_w];rfl
                refine take_ (i:=26) (N:=some 76) (v:=?_) (a':=?_) #[bT,bT,bT,bT,bT,bT,bT,bT,bT,bT,bT,bT,bT,bT,bT,bT,bT,bT,bT,bT,bT,bT,bT,bT,bT,bT,bT,bf,bf,bf,bf] rfl rfl (take_ofW HT_.out HW_.out (by kernel_rfl)) (fun _ _ _ h => h) (Or.inl ⟨by rfl,?_⟩) hHeld ?_ ?_
                rotate_left
                ·rintro w' ⟨s0,s1,s2,s3,s4,s5,s6,s7,s8⟩
                 go_simp
                 with_reducible rfl
                rotate_left
                ·simp only [Act.put,q_ia8,q_cz8,q_cs8,i64_w,i32_w];rfl
                refine one_ (i:=27) (N:=some 77) #[bT,bT,bT,bT,bT,bT,bT,bT,bT,bT,bT,bT,bT,bT,bT,bT,bT,bT,bT,bT,bT,bT,bT,bT,bT,bT,bT,bT,bf,bf,bf] rfl rfl (one_of HT_.out (by kernel_rfl)) (by decide) (fun K hK => ?_)
                refine goes_ Try.func70 (by kernel_rfl) rfl #[.agg #[.string ((rd_T57 l0_1 (ji34)).f0),.string ((rd_T57 l0_1 (ji34)).f1),.string ((rd_T57 l0_1 (ji34)).f2)],.agg #[.string ((rd_T57 l0_1 x45_2).f0),.string ((rd_T57 l0_1 x45_2).f1),.string ((rd_T57 l0_1 x45_2).f2)]] (by rfl) rfl rfl (by (try simp only [List.map_toArray,List.map_cons,List.map_nil]);first|done|(simp only [hji34];rfl)|rfl|(simp only [List.length_drop,List.length_take];rfl)) ?_
                with_reducible refine (impl_byKey.calls ((rd_T57 l0_1 (ji34)).f0) ((rd_T57 l0_1 (ji34)).f1) ((rd_T57 l0_1 (ji34)).f2) ((rd_T57 l0_1 x45_2).f0) ((rd_T57 l0_1 x45_2).f1) ((rd_T57 l0_1 x45_2).f2) t359 _ A37.out).mono ?_
                rintro e w44 ⟨rfl,hb⟩
                refine ⟨_,rfl,?_⟩
                have n0_:=aM (bH BK350.out hb)
                have n1_:=aM (bH BK356.out hb)
                have n2_:=aM (lQ HB.out hb)
                clear BK350
                clear BK356
                clear HB
                have BK350:=n0_
                have BK356:=n1_
                have HB:=n2_
                clear n0_ n1_ n2_
                (try clear hb)
                (try clear hb2)
                (try clear hk)
                (try clear hi)
                refine hK.out _ _ ⟨(bC BK356.out 0).trans rfl,(bC BK356.out 1).trans rfl,(bC BK356.out 2).trans rfl,(bC BK350.out 0).trans rfl,(bC BK350.out 1).trans rfl,(bC BK350.out 2).trans rfl,((HB.out.cell (World.block_lt_of_cell? w _ hw358_0)).trans hw358_0),((HB.out.cell (World.block_lt_of_cell? w _ hw358_1)).trans hw358_1),((HB.out.cell (World.block_lt_of_cell? w _ hw358_2)).trans hw358_2)⟩ (fun hHeld => ?_)
                clear hK K
                refine norm_ (a':=?_) ?_ ?_
                rotate_left
                ·show Act.put _ (some 77) _ = _
                 simp only [Act.put,q_ia8,q_cz8,q_cs8,i64_w,i32_w]
                 rfl
                refine pQ (i:=28) (N:=some 78) (v:=?_) (a':=?_) #[bT,bT,bT,bT,bT,bT,bT,bT,bT,bT,bT,bT,bT,bT,bT,bT,bT,bT,bT,bT,bT,bT,bT,bT,bT,bT,bT,bT,bT,bf,bf] (any_of HT_.out (by kernel_rfl)) ?_ ?_ ?_
                rotate_left
                ·intro w';go_simp;with_reducible rfl
                rotate_left
                ·simp only [Act.put,q_ia8,q_cz8,q_cs8,i64_w,i32_w];rfl
                refine pQ (i:=29) (N:=some 79) (v:=?_) (a':=?_) #[bT,bT,bT,bT,bT,bT,bT,bT,bT,bT,bT,bT,bT,bT,bT,bT,bT,bT,bT,bT,bT,bT,bT,bT,bT,bT,bT,bT,bT,bT,bf] (any_of HT_.out (by kernel_rfl)) ?_ ?_ ?_
                rotate_left
                ·intro w';go_simp;with_reducible rfl
                rotate_left
                ·simp only [Act.put,q_ia8,q_cz8,q_cs8,i64_w,i32_w];rfl
                refine pQ (i:=30) (N:=some 80) (v:=?_) (a':=?_) #[bT,bT,bT,bT,bT,bT,bT,bT,bT,bT,bT,bT,bT,bT,bT,bT,bT,bT,bT,bT,bT,bT,bT,bT,bT,bT,bT,bT,bT,bT,bT] (any_of HT_.out (by kernel_rfl)) ?_ ?_ ?_
                rotate_left
                ·intro w';go_simp;with_reducible rfl
                rotate_left
                ·simp only [Act.put,q_ia8,q_cz8,q_cs8,i64_w,i32_w];rfl
                refine done_ (done_of HT_.out (by kernel_rfl)) ?_
                try go_wp2
                go_roundg k2
                case measure => have:=HK1.out;have:=HK2.out;omega
                case rel => exact ⟨(wrap64 (x45_2 + 1)),(by first|rfl|(simp;done)|(simp [*];done)),H',⟨by have:=HK1.out;have:=HK2.out;omega⟩,⟨by (with_reducible repeat (first|refine bN ?_ _|refine bD ?_|refine bA ?_ _));exact BK350.out⟩,⟨by repeat (first|(with_reducible first|exact HB.out|apply lA|apply lN|apply lD|refine lS ?_ GE350.out|refine lS ?_ GE356.out)|exact HB.out)⟩⟩
              ·rw [if_neg c36] at H
               exact absurd H (by simp)
             ·rw [if_neg c35] at H
              exact absurd H (by simp)
            ·rw [if_neg c33] at H
             have c33b0 : decide (0 < x45_2) = false:=decide_eq_false c33
             clear c33
             have H':=aM H
             clear H
             have p355 : 0 ≤ (x45_2 : Int):=of_decide_eq_true (by first|(with_reducible assumption)|assumption)
             have q355 : x45_2 < (l0_1.length : Int):=of_decide_eq_true (by first|(with_reducible assumption)|assumption)
             obtain ⟨ad355,e355,hx355_0,hx355_1,hx355_2⟩:=at_T57 HR0_1.out x45_2 p355 q355
             cases e355
             replace hx355_0:=(HB.out.cell (World.block_lt_of_cell? w _ hx355_0)).trans hx355_0
             replace hx355_1:=(HB.out.cell (World.block_lt_of_cell? w _ hx355_1)).trans hx355_1
             replace hx355_2:=(HB.out.cell (World.block_lt_of_cell? w _ hx355_2)).trans hx355_2
             replace p355:=eq_true p355
             replace q355:=eq_true q355
             try go_wp2_with (first|((with_reducible refine gate_dst (N:=6) rfl ?_);(try (refine gate_guard (by rfl) ?_;dsimp only));refine box_event ?hg (N:=6) ?hd (cs:=#[.string (⟨#[]⟩ : ByteArray),.string (⟨#[]⟩ : ByteArray),.string (⟨#[]⟩ : ByteArray)]) (t:=57) ?hr ?_;(case hd => rfl);(case hg => rfl);(case hr => first|(go_simp;done)|(go_simp;rfl));intro gb356 hg w45 hbox hb;have n0_:=aM (bH BK350.out hb);have n1_:=aM (lQ HB.out hb);have n2_:=aM (hbox);have n3_:=aM ((sQ hg HB.out : w.heap.size ≤ gb356));have n4_:=n3_;have n5_:=aM ((nL hg BK350.out : gb350 ≠ gb356));have n6_:=aM ((nG hg BK350.out : gb356 ≠ gb350));clear BK350 HB;have BK350:=n0_;have HB:=n1_;have BK356:=n2_;have GW356:=n3_;have GE356:=n4_;have NB350_356:=n5_;have NB356_350:=n6_;clear n0_ n1_ n2_ n3_ n4_ n5_ n6_ hb hbox hg;have hnb46:=NB356_350.out;have hnc46:=NB350_356.out;obtain ⟨⟨hcz47_0,hcz47_1,hcz47_2⟩,hfz47_0,hfz47_1,hfz47_2⟩:=bC3 BK356.out))
             have n0_ : Aside0 ((((w45.setCell ⟨gb356,0,none⟩ (.string ((rd_T57 l0_1 x45_2).f0))).setCell ⟨gb356,1,none⟩ (.string ((rd_T57 l0_1 x45_2).f1))).setCell ⟨gb356,2,none⟩ (.string ((rd_T57 l0_1 x45_2).f2))).heap[gb350]? = some (.cells #[.slice A0_0 l0_0.length c0_0,.slice (some ad355) l0_1.length c0_1,.string a0_2] 38 (0,0))):=⟨by (with_reducible repeat (first|refine bN ?_ _|refine bD ?_|refine bA ?_ _));refine blk_far ?_ NB350_356.out _;(with_reducible repeat (first|refine bN ?_ _|refine bD ?_|refine bA ?_ _));refine blk_far ?_ NB350_356.out _;(with_reducible repeat (first|refine bN ?_ _|refine bD ?_|refine bA ?_ _));refine blk_far ?_ NB350_356.out _;(with_reducible repeat (first|refine bN ?_ _|refine bD ?_|refine bA ?_ _));exact BK350.out⟩
             have n1_ : Aside0 ((((w45.setCell ⟨gb356,0,none⟩ (.string ((rd_T57 l0_1 x45_2).f0))).setCell ⟨gb356,1,none⟩ (.string ((rd_T57 l0_1 x45_2).f1))).setCell ⟨gb356,2,none⟩ (.string ((rd_T57 l0_1 x45_2).f2))).heap[gb356]? = some (.cells #[.string ((rd_T57 l0_1 x45_2).f0),.string ((rd_T57 l0_1 x45_2).f1),.string ((rd_T57 l0_1 x45_2).f2)] 57 (0,0))):=⟨by (with_reducible repeat (first|refine bN ?_ _|refine bD ?_|refine bA ?_ _));refine blk_put (cs:=#[.string ((rd_T57 l0_1 x45_2).f0),.string ((rd_T57 l0_1 x45_2).f1),.string (⟨#[]⟩ : ByteArray)]) ?_ 2 _ rfl;(with_reducible repeat (first|refine bN ?_ _|refine bD ?_|refine bA ?_ _));refine blk_put (cs:=#[.string ((rd_T57 l0_1 x45_2).f0),.string (⟨#[]⟩ : ByteArray),.string (⟨#[]⟩ : ByteArray)]) ?_ 1 _ rfl;(with_reducible repeat (first|refine bN ?_ _|refine bD ?_|refine bA ?_ _));refine blk_put (cs:=#[.string (⟨#[]⟩ : ByteArray),.string (⟨#[]⟩ : ByteArray),.string (⟨#[]⟩ : ByteArray)]) ?_ 0 _ rfl;(with_reducible repeat (first|refine bN ?_ _|refine bD ?_|refine bA ?_ _));exact BK356.out⟩
             have n2_ : Aside0 (Below w.heap.size w (((w45.setCell ⟨gb356,0,none⟩ (.string ((rd_T57 l0_1 x45_2).f0))).setCell ⟨gb356,1,none⟩ (.string ((rd_T57 l0_1 x45_2).f1))).setCell ⟨gb356,2,none⟩ (.string ((rd_T57 l0_1 x45_2).f2)))):=⟨by repeat (first|(with_reducible first|exact HB.out|apply lA|apply lN|apply lD|refine lS ?_ GE350.out|refine lS ?_ GE356.out)|exact HB.out)⟩
             (try clear BK350)
             (try clear BK356)
             (try clear HB)
             generalize (((w45.setCell ⟨gb356,0,none⟩ (.string ((rd_T57 l0_1 x45_2).f0))).setCell ⟨gb356,1,none⟩ (.string ((rd_T57 l0_1 x45_2).f1))).setCell ⟨gb356,2,none⟩ (.string ((rd_T57 l0_1 x45_2).f2))) = w48 at n0_ n1_ n2_ ⊢
             have BK350:=n0_
             have BK356:=n1_
             have HB:=n2_
             clear n0_ n1_ n2_
             have n0_:=aM (bD BK350.out)
             have n1_:=aM (bD BK356.out)
             have n2_:=aM (lD HB.out)
             clear BK350
             clear BK356
             clear HB
             have BK350:=n0_
             have BK356:=n1_
             have HB:=n2_
             clear n0_ n1_ n2_
             refine start_ (n:=31) (S:=fun w' => w'.cell? ⟨gb356,0,none⟩ = some (.string ((rd_T57 l0_1 x45_2).f0)) ∧ w'.cell? ⟨gb356,1,none⟩ = some (.string ((rd_T57 l0_1 x45_2).f1)) ∧ w'.cell? ⟨gb356,2,none⟩ = some (.string ((rd_T57 l0_1 x45_2).f2))) (ds:=[]) #[bf,bf,bf,bf,bf,bf,bf,bf,bf,bf,bf,bf,bf,bf,bf,bf,bf,bf,bf,bf,bf,bf,bf,bf,bf,bf,bf,bf,bf,bf,bf] (by kernel_rfl) rfl rfl ⟨(bC BK356.out 0).trans rfl,(bC BK356.out 1).trans rfl,(bC BK356.out 2).trans rfl⟩ (fun hHeld => ?_);refine with_tabW impl_StoreOk.tab10 impl_StoreOk.bits10 (fun HT_ HW_ => ?_)
             generalize w48.drew = w49 at BK350 BK356 HB hHeld ⊢
             refine pQ (i:=0) (N:=some 50) (v:=?_) (a':=?_) #[bT,bf,bf,bf,bf,bf,bf,bf,bf,bf,bf,bf,bf,bf,bf,bf,bf,bf,bf,bf,bf,bf,bf,bf,bf,bf,bf,bf,bf,bf,bf] (any_of HT_.out (by kernel_rfl)) ?_ ?_ ?_
             rotate_left
             ·intro w';go_simp;with_reducible rfl
             rotate_left
             ·simp only [Act.put,q_ia8,q_cz8,q_cs8,i64_w,i32_w];rfl
             refine take_ (i:=1) (N:=some 51) (v:=?_) (a':=?_) #[bT,bT,bf,bf,bf,bf,bf,bf,bf,bf,bf,bf,bf,bf,bf,bf,bf,bf,bf,bf,bf,bf,bf,bf,bf,bf,bf,bf,bf,bf,bf] rfl rfl (take_ofW HT_.out HW_.out (by kernel_rfl)) (fun _ _ _ h => h) (Or.inl ⟨by rfl,?_⟩) hHeld ?_ ?_
             rotate_left
             ·rintro w' ⟨s0,s1,s2⟩
              go_simp
              with_reducible rfl
             rotate_left
             ·simp only [Act.put,q_ia8,q_cz8,q_cs8,i64_w,i32_w];rfl
             refine one_ (i:=2) (N:=some 52) #[bT,bT,bT,bf,bf,bf,bf,bf,bf,bf,bf,bf,bf,bf,bf,bf,bf,bf,bf,bf,bf,bf,bf,bf,bf,bf,bf,bf,bf,bf,bf] rfl rfl (one_of HT_.out (by kernel_rfl)) (by decide) (fun K hK => ?_)
             refine goes_ Try.func69 (by kernel_rfl) rfl #[.string ((rd_T57 l0_1 x45_2).f0)] (by rfl) rfl rfl (by (try simp only [List.map_toArray,List.map_cons,List.map_nil]);first|done|rfl|(simp only [List.length_drop,List.length_take];rfl)) ?_
             with_reducible refine (impl_isLetters.calls k2 ((rd_T57 l0_1 x45_2).f0) true _ A29.out).mono ?_
             rintro e w' ⟨rfl,⟨nd,rfl⟩⟩
             refine ⟨_,rfl,?_⟩
             refine hK.out _ _ ⟨(bC BK356.out 0).trans rfl,(bC BK356.out 1).trans rfl,(bC BK356.out 2).trans rfl⟩ (fun hHeld => ?_)
             clear hK K
             refine norm_ (a':=?_) ?_ ?_
             rotate_left
             ·show Act.put _ (some 52) _ = _
              simp only [Act.put,q_ia8,q_cz8,q_cs8,i64_w,i32_w]
              rfl
             refine pQ (i:=3) (N:=some 53) (v:=?_) (a':=?_) #[bT,bT,bT,bT,bf,bf,bf,bf,bf,bf,bf,bf,bf,bf,bf,bf,bf,bf,bf,bf,bf,bf,bf,bf,bf,bf,bf,bf,bf,bf,bf] (any_of HT_.out (by kernel_rfl)) ?_ ?_ ?_
             rotate_left
             ·intro w';go_simp;with_reducible rfl
             rotate_left
             ·simp only [Act.put,q_ia8,q_cz8,q_cs8,i64_w,i32_w];rfl
             refine pQ (i:=4) (N:=some 54) (v:=?_) (a':=?_) #[bT,bT,bT,bT,bT,bf,bf,bf,bf,bf,bf,bf,bf,bf,bf,bf,bf,bf,bf,bf,bf,bf,bf,bf,bf,bf,bf,bf,bf,bf,bf] (any_of HT_.out (by kernel_rfl)) ?_ ?_ ?_
             rotate_left
             ·intro w';go_simp;with_reducible rfl
             rotate_left
             ·simp only [Act.put,q_ia8,q_cz8,q_cs8,i64_w,i32_w];rfl
             refine pQ (i:=5) (N:=some 55) (v:=?_) (a':=?_) #[bT,bT,bT,bT,bT,bT,bf,bf,bf,bf,bf,bf,bf,bf,bf,bf,bf,bf,bf,bf,bf,bf,bf,bf,bf,bf,bf,bf,bf,bf,bf] (any_of HT_.out (by kernel_rfl)) ?_ ?_ ?_
             rotate_left
             ·intro w';go_simp;with_reducible rfl
             rotate_left
             ·simp only [Act.put,q_ia8,q_cz8,q_cs8,i64_w,i32_w];rfl
             refine take_ (i:=6) (N:=some 56) (v:=?_) (a':=?_) #[bT,bT,bT,bT,bT,bT,bT,bf,bf,bf,bf,bf,bf,bf,bf,bf,bf,bf,bf,bf,bf,bf,bf,bf,bf,bf,bf,bf,bf,bf,bf] rfl rfl (take_ofW HT_.out HW_.out (by kernel_rfl)) (fun _ _ _ h => h) (Or.inl ⟨by rfl,?_⟩) hHeld ?_ ?_
             rotate_left
             ·rintro w' ⟨s0,s1,s2⟩
              go_simp
              with_reducible rfl
             rotate_left
             ·simp only [Act.put,q_ia8,q_cz8,q_cs8,i64_w,i32_w];rfl
             refine pQ (i:=7) (N:=some 57) (v:=?_) (a':=?_) #[bT,bT,bT,bT,bT,bT,bT,bT,bf,bf,bf,bf,bf,bf,bf,bf,bf,bf,bf,bf,bf,bf,bf,bf,bf,bf,bf,bf,bf,bf,bf] (any_of HT_.out (by kernel_rfl)) ?_ ?_ ?_
             rotate_left
             ·intro w';go_simp;with_reducible rfl
             rotate_left
             ·simp only [Act.put,q_ia8,q_cz8,q_cs8,i64_w,i32_w];rfl
             refine pQ (i:=8) (N:=some 58) (v:=?_) (a':=?_) #[bT,bT,bT,bT,bT,bT,bT,bT,bT,bf,bf,bf,bf,bf,bf,bf,bf,bf,bf,bf,bf,bf,bf,bf,bf,bf,bf,bf,bf,bf,bf] (any_of HT_.out (by kernel_rfl)) ?_ ?_ ?_
             rotate_left
             ·intro w';go_simp;with_reducible rfl
             rotate_left
             ·simp only [Act.put,q_ia8,q_cz8,q_cs8,i64_w,i32_w];rfl
             refine pQ (i:=9) (N:=some 59) (v:=?_) (a':=?_) #[bT,bT,bT,bT,bT,bT,bT,bT,bT,bT,bf,bf,bf,bf,bf,bf,bf,bf,bf,bf,bf,bf,bf,bf,bf,bf,bf,bf,bf,bf,bf] (any_of HT_.out (by kernel_rfl)) ?_ ?_ ?_
             rotate_left
             ·intro w';go_simp;with_reducible rfl
             rotate_left
             ·simp only [Act.put,q_ia8,q_cz8,q_cs8,i64_w,i32_w];rfl
             refine pQ (i:=10) (N:=some 60) (v:=?_) (a':=?_) #[bT,bT,bT,bT,bT,bT,bT,bT,bT,bT,bT,bf,bf,bf,bf,bf,bf,bf,bf,bf,bf,bf,bf,bf,bf,bf,bf,bf,bf,bf,bf] (any_of HT_.out (by kernel_rfl)) ?_ ?_ ?_
             rotate_left
             ·intro w';go_simp;with_reducible rfl
             rotate_left
             ·simp only [Act.put,q_ia8,q_cz8,q_cs8,i64_w,i32_w];rfl
             refine pQ (i:=11) (N:=some 61) (v:=?_) (a':=?_) #[bT,bT,bT,bT,bT,bT,bT,bT,bT,bT,bT,bT,bf,bf,bf,bf,bf,bf,bf,bf,bf,bf,bf,bf,bf,bf,bf,bf,bf,bf,bf] (any_of HT_.out (by kernel_rfl)) ?_ ?_ ?_
             rotate_left
             ·intro w';go_simp;with_reducible rfl
             rotate_left
             ·simp only [Act.put,q_ia8,q_cz8,q_cs8,i64_w,i32_w];rfl
             refine take_ (i:=12) (N:=some 62) (v:=?_) (a':=?_) #[bT,bT,bT,bT,bT,bT,bT,bT,bT,bT,bT,bT,bT,bf,bf,bf,bf,bf,bf,bf,bf,bf,bf,bf,bf,bf,bf,bf,bf,bf,bf] rfl rfl (take_ofW HT_.out HW_.out (by kernel_rfl)) (fun _ _ _ h => h) (Or.inl ⟨by rfl,?_⟩) hHeld ?_ ?_
             rotate_left
             ·rintro w' ⟨s0,s1,s2⟩
              go_simp
              with_reducible rfl
             rotate_left
             ·simp only [Act.put,q_ia8,q_cz8,q_cs8,i64_w,i32_w];rfl
             refine pQ (i:=13) (N:=some 63) (v:=?_) (a':=?_) #[bT,bT,bT,bT,bT,bT,bT,bT,bT,bT,bT,bT,bT,bT,bf,bf,bf,bf,bf,bf,bf,bf,bf,bf,bf,bf,bf,bf,bf,bf,bf] (any_of HT_.out (by kernel_rfl)) ?_ ?_ ?_
             rotate_left
             ·intro w';go_simp;with_reducible rfl
             rotate_left
             ·simp only [Act.put,q_ia8,q_cz8,q_cs8,i64_w,i32_w];rfl
             refine pQ (i:=14) (N:=some 64) (v:=?_) (a':=?_) #[bT,bT,bT,bT,bT,bT,bT,bT,bT,bT,bT,bT,bT,bT,bT,bf,bf,bf,bf,bf,bf,bf,bf,bf,bf,bf,bf,bf,bf,bf,bf] (any_of HT_.out (by kernel_rfl)) ?_ ?_ ?_
             rotate_left
             ·intro w';go_simp;with_reducible rfl
             rotate_left
             ·simp only [Act.put,q_ia8,q_cz8,q_cs8,i64_w,i32_w];rfl
             refine pQ (i:=15) (N:=some 65) (v:=?_) (a':=?_) #[bT,bT,bT,bT,bT,bT,bT,bT,bT,bT,bT,bT,bT,bT,bT,bT,bf,bf,bf,bf,bf,bf,bf,bf,bf,bf,bf,bf,bf,bf,bf] (any_of HT_.out (by kernel_rfl)) ?_ ?_ ?_
             rotate_left
             ·intro w';go_simp;with_reducible rfl
             rotate_left
             ·simp only [Act.put,q_ia8,q_cz8,q_cs8,i64_w,i32_w];rfl
             refine pQ (i:=16) (N:=some 66) (v:=?_) (a':=?_) #[bT,bT,bT,bT,bT,bT,bT,bT,bT,bT,bT,bT,bT,bT,bT,bT,bT,bf,bf,bf,bf,bf,bf,bf,bf,bf,bf,bf,bf,bf,bf] (any_of HT_.out (by kernel_rfl)) ?_ ?_ ?_
             rotate_left
             ·intro w';go_simp;with_reducible rfl
             rotate_left
             ·simp only [Act.put,q_ia8,q_cz8,q_cs8,i64_w,i32_w];rfl
             refine pQ (i:=17) (N:=some 67) (v:=?_) (a':=?_) #[bT,bT,bT,bT,bT,bT,bT,bT,bT,bT,bT,bT,bT,bT,bT,bT,bT,bT,bf,bf,bf,bf,bf,bf,bf,bf,bf,bf,bf,bf,bf] (any_of HT_.out (by kernel_rfl)) ?_ ?_ ?_
             rotate_left
             ·intro w';go_simp;with_reducible rfl
             rotate_left
             ·simp only [Act.put,q_ia8,q_cz8,q_cs8,i64_w,i32_w];rfl
             refine pQ (i:=18) (N:=some 68) (v:=?_) (a':=?_) #[bT,bT,bT,bT,bT,bT,bT,bT,bT,bT,bT,bT,bT,bT,bT,bT,bT,bT,bT,bf,bf,bf,bf,bf,bf,bf,bf,bf,bf,bf,bf] (any_of HT_.out (by kernel_rfl)) ?_ ?_ ?_
             rotate_left
             ·intro w';go_simp;with_reducible rfl
             rotate_left
             ·simp only [Act.put,q_ia8,q_cz8,q_cs8,i64_w,i32_w];rfl
             refine pQ (i:=19) (N:=some 69) (v:=?_) (a':=?_) #[bT,bT,bT,bT,bT,bT,bT,bT,bT,bT,bT,bT,bT,bT,bT,bT,bT,bT,bT,bT,bf,bf,bf,bf,bf,bf,bf,bf,bf,bf,bf] (any_of HT_.out (by kernel_rfl)) ?_ ?_ ?_
             rotate_left
             ·intro w';go_simp;with_reducible rfl
             rotate_left
             ·simp only [Act.put,q_ia8,q_cz8,q_cs8,i64_w,i32_w];rfl
             refine pure_ (i:=20) (N:=some 70) (v:=undef) (a':=?_) #[bT,bT,bT,bT,bT,bT,bT,bT,bT,bT,bT,bT,bT,bT,bT,bT,bT,bT,bT,bT,bT,bf,bf,bf,bf,bf,bf,bf,bf,bf,bf] rfl rfl (any_of HT_.out (by kernel_rfl)) (fun _ _ _ h => h) (Or.inr ⟨by rfl,rfl⟩) ?_ ?_
             rotate_left
             ·simp only [Act.put,q_ia8,q_cz8,q_cs8,i64_w,i32_w];rfl
             refine pure_ (i:=21) (N:=some 71) (v:=undef) (a':=?_) #[bT,bT,bT,bT,bT,bT,bT,bT,bT,bT,bT,bT,bT,bT,bT,bT,bT,bT,bT,bT,bT,bT,bf,bf,bf,bf,bf,bf,bf,bf,bf] rfl rfl (any_of HT_.out (by kernel_rfl)) (fun _ _ _ h => h) (Or.inr ⟨by rfl,rfl⟩) ?_ ?_
             rotate_left
             ·simp only [Act.put,q_ia8,q_cz8,q_cs8,i64_w,i32_w];rfl
             refine pure_ (i:=22) (N:=some 72) (v:=undef) (a':=?_) #[bT,bT,bT,bT,bT,bT,bT,bT,bT,bT,bT,bT,bT,bT,bT,bT,bT,bT,bT,bT,bT,bT,bT,bf,bf,bf,bf,bf,bf,bf,bf] rfl rfl (any_of HT_.out (by kernel_rfl)) (fun _ _ _ h => h) (Or.inr ⟨by rfl,rfl⟩) ?_ ?_
             rotate_left
             ·simp only [Act.put,q_ia8,q_cz8,q_cs8,i64_w,i32_w];rfl
             refine pure_ (i:=23) (N:=some 73) (v:=undef) (a':=?_) #[bT,bT,bT,bT,bT,bT,bT,bT,bT,bT,bT,bT,bT,bT,bT,bT,bT,bT,bT,bT,bT,bT,bT,bT,bf,bf,bf,bf,bf,bf,bf] rfl rfl (any_of HT_.out (by kernel_rfl)) (fun _ _ _ h => h) (Or.inr ⟨by rfl,rfl⟩) ?_ ?_
             rotate_left
             ·simp only [Act.put,q_ia8,q_cz8,q_cs8,i64_w,i32_w];rfl
             refine pure_ (i:=24) (N:=some 74) (v:=undef) (a':=?_) #[bT,bT,bT,bT,bT,bT,bT,bT,bT,bT,bT,bT,bT,bT,bT,bT,bT,bT,bT,bT,bT,bT,bT,bT,bT,bf,bf,bf,bf,bf,bf] rfl rfl (any_of HT_.out (by kernel_rfl)) (fun _ _ _ h => h) (Or.inr ⟨by rfl,rfl⟩) ?_ ?_
             rotate_left
             ·simp only [Act.put,q_ia8,q_cz8,q_cs8,i64_w,i32_w];rfl
             refine pure_ (i:=25) (N:=some 75) (v:=undef) (a':=?_) #[bT,bT,bT,bT,bT,bT,bT,bT,bT,bT,bT,bT,bT,bT,bT,bT,bT,bT,bT,bT,bT,bT,bT,bT,bT,bT,bf,bf,bf,bf,bf] rfl rfl (any_of HT_.out (by kernel_rfl)) (fun _ _ _ h => h) (Or.inr ⟨by rfl,rfl⟩) ?_ ?_
             rotate_left
             ·simp only [Act.put,q_ia8,q_cz8,q_cs8,i64_w,i32_w];rfl
             refine pure_ (i:=26) (N:=some 76) (v:=undef) (a':=?_) #[bT,bT,bT,bT,bT,bT,bT,bT,bT,bT,bT,bT,bT,bT,bT,bT,bT,bT,bT,bT,bT,bT,bT,bT,bT,bT,bT,bf,bf,bf,bf] rfl rfl (any_of HT_.out (by kernel_rfl)) (fun _ _ _ h => h) (Or.inr ⟨by rfl,rfl⟩) ?_ ?_
             rotate_left
             ·simp only [Act.put,q_ia8,q_cz8,q_cs8,i64_w,i32_w];rfl
             refine pure_ (i:=27) (N:=some 77) (v:=undef) (a':=?_) #[bT,bT,bT,bT,bT,bT,bT,bT,bT,bT,bT,bT,bT,bT,bT,bT,bT,bT,bT,bT,bT,bT,bT,bT,bT,bT,bT,bT,bf,bf,bf] rfl rfl (any_of HT_.out (by kernel_rfl)) (fun _ _ _ h => h) (Or.inr ⟨by rfl,rfl⟩) ?_ ?_
             rotate_left
             ·simp only [Act.put,q_ia8,q_cz8,q_cs8,i64_w,i32_w];rfl
             refine pure_ (i:=28) (N:=some 78) (v:=undef) (a':=?_) #[bT,bT,bT,bT,bT,bT,bT,bT,bT,bT,bT,bT,bT,bT,bT,bT,bT,bT,bT,bT,bT,bT,bT,bT,bT,bT,bT,bT,bT,bf,bf] rfl rfl (any_of HT_.out (by kernel_rfl)) (fun _ _ _ h => h) (Or.inr ⟨by rfl,rfl⟩) ?_ ?_
             rotate_left
             ·simp only [Act.put,q_ia8,q_cz8,q_cs8,i64_w,i32_w];rfl
             refine pQ (i:=29) (N:=some 79) (v:=?_) (a':=?_) #[bT,bT,bT,bT,bT,bT,bT,bT,bT,bT,bT,bT,bT,bT,bT,bT,bT,bT,bT,bT,bT,bT,bT,bT,bT,bT,bT,bT,bT,bT,bf] (any_of HT_.out (by kernel_rfl)) ?_ ?_ ?_
             rotate_left
             ·intro w';go_simp;with_reducible rfl
             rotate_left
             ·simp only [Act.put,q_ia8,q_cz8,q_cs8,i64_w,i32_w];rfl
             refine pQ (i:=30) (N:=some 80) (v:=?_) (a':=?_) #[bT,bT,bT,bT,bT,bT,bT,bT,bT,bT,bT,bT,bT,bT,bT,bT,bT,bT,bT,bT,bT,bT,bT,bT,bT,bT,bT,bT,bT,bT,bT] (any_of HT_.out (by kernel_rfl)) ?_ ?_ ?_
             rotate_left
             ·intro w';go_simp;with_reducible rfl
             rotate_left
             ·simp only [Act.put,q_ia8,q_cz8,q_cs8,i64_w,i32_w];rfl
             refine done_ (done_of HT_.out (by kernel_rfl)) ?_
             try go_wp2
             go_roundg k2
             case measure => have:=HK1.out;have:=HK2.out;omega
             case rel => exact ⟨(wrap64 (x45_2 + 1)),(by first|rfl|(simp;done)|(simp [*];done)),H',⟨by have:=HK1.out;have:=HK2.out;omega⟩,⟨by (with_reducible repeat (first|refine bN ?_ _|refine bD ?_|refine bA ?_ _));exact BK350.out⟩,⟨by repeat (first|(with_reducible first|exact HB.out|apply lA|apply lN|apply lD|refine lS ?_ GE350.out|refine lS ?_ GE356.out)|exact HB.out)⟩⟩
         ·replace c30:=Bool.eq_false_iff.mpr c30
          subst c30
          have H1 : (some false) = some r:=by rw [if_neg (show ¬ (false = true) by decide)] at H;exact H
          clear H
          have H:=H1
          clear H1
          exact absurd (HR_.out.symm.trans (Option.some.inj H).symm) (by decide)
        ·rw [if_neg c28] at H
         exact absurd H (by simp)
       ·rw [if_neg c27] at H
        exact absurd H (by simp)
      ·rw [if_neg c26] at H
       have c26b0 : decide (x45_2 < (l0_1.length : Int)) = false:=decide_eq_false c26
       clear c26
       by_cases c50 : (l0_0.length : Int) ≤ 60
       ·rw [if_pos c50] at H
        have c50b0 : decide ((l0_0.length : Int) ≤ 60) = true:=decide_eq_true c50
        have c50b1 : decide (l0_0.length ≤ 60) = true:=decide_eq_true (by omega)
        clear c50
        by_cases c51 : (l0_1.length : Int) ≤ 2000
        ·rw [if_pos c51] at H
         have c51b0 : decide ((l0_1.length : Int) ≤ 2000) = true:=decide_eq_true c51
         have c51b1 : decide (l0_1.length ≤ 2000) = true:=decide_eq_true (by omega)
         clear c51
         obtain rfl:=Option.some.inj H
         obtain ⟨⟨hcz52_0,hcz52_1,hcz52_2⟩,hfz52_0,hfz52_1,hfz52_2⟩:=bC3 BK350.out
         go_wp2
         go_ret
         exact ⟨by first|rfl|(simp [errW_none,errW_some] <;> rfl)|(simp [*,errW_none,errW_some] <;> rfl),by repeat (first|(with_reducible first|exact HB.out|apply lA|apply lN|apply lD|refine lS ?_ GE350.out)|exact HB.out)⟩
        ·rw [if_neg c51] at H
         have c51b0 : decide ((l0_1.length : Int) ≤ 2000) = false:=decide_eq_false c51
         have c51b1 : decide (l0_1.length ≤ 2000) = false:=decide_eq_false (by omega)
         clear c51
         exact absurd (HR_.out.symm.trans (Option.some.inj H).symm) (by decide)
       ·rw [if_neg c50] at H
        have c50b0 : decide ((l0_0.length : Int) ≤ 60) = false:=decide_eq_false c50
        have c50b1 : decide (l0_0.length ≤ 60) = false:=decide_eq_false (by omega)
        clear c50
        exact absurd (HR_.out.symm.trans (Option.some.inj H).symm) (by decide)

end Go.Proofs.Ytodpkfidkilpdaa.QFnCells
