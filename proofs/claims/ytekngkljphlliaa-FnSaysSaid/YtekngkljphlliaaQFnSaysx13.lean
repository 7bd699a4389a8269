-- A text of this session, made by wip/own_print.py (the kit's print with additions of ours).
import Derived.Test.YtekngkljphlliaaQFnSaysx0
import Derived.Test.YtekngkljphlliaaQFnSaysx3
import Derived.Test.YtekngkljphlliaaQFnSaysx11
import Derived.Test.YtekngkljphlliaaQFnSaysx12
namespace Go.Proofs.Ytekngkljphlliaa.QFnSays
open Go.RowKit Go.Proofs.YtekngkljphlliaaW.PrintWords Go.Proofs.YtekngkljphlliaaW.PrintLast Go.Proofs.YtekngkljphlliaaW.PrintMore
attribute [local go_sem] max2_int min2_int max_two min_two max_three min_three max_four min_four   -- for this text's walks alone
set_option linter.unusedVariables false
set_option linter.unusedSimpArgs false
open Bool renaming true → bT, false → bf
open Go.Proofs.YtekngkljphlliaaW.PrintWords.Kd renaming R_alloc → rA, R_drewN → rN, R_drew → rD, C_alloc → cA, C_drewN → cN, C_drew → cD, R_far → rF, R_below → rB, R_lower → rL, R_lt → rT, R_base → rS, C_below → cB, R_types → rY, R_elder' → rE, R_reads' → rR, R_new' → rW
open Go.Proofs.YtekngkljphlliaaW.PrintWords renaming blk_drewN → bN, blk_drew → bD, blk_alloc → bA, below_set → lS, pw_below_drewN → lN, below_drew1 → lD, below_alloc → lA, blk_cell → bC, blk_below → bB, below_size → lZ, below_step → lP, blk_lt → bL, blk_frozen → bF
open Go.Proofs.YtekngkljphlliaaW.PrintWords.Aside0 renaming mk → aM
theorem q_ia11 {α : Type} (l : List α) (i : Nat) (a : α) : l.toArray.setIfInBounds i a = (l.set i a).toArray := List.setIfInBounds_toArray ..
theorem q_cz11 {α : Type} (a b : α) (l : List α) : (a :: l).set 0 b = b :: l := rfl
theorem q_cs11 {α : Type} (a b : α) (l : List α) (n : Nat) : (a :: l).set (n + 1) b = a :: l.set n b := rfl

/-! ### laws_FnSays: function 5 -/
def laws_FnSays.j0 : Nat → List Int → ByteArray → List (S59) → List (S39) → ByteArray → List (S59) → List (S39) → ByteArray → Option (Bool)
 | 0, _, _, _, _, _, _, _, _ => none
 | k + 1, x0, x6, x411000, x411001, x411002, x419000, x419001, x419002 => (spec_DrawDump.f k x0).bind fun bt419 => ((impl_Dump.f k bt419.1 bt419.2.1 bt419.2.2.1 bt419.2.2.2).bind fun bt428 => (if x419002.toList = x6.toList then (if (x419000.length : Int) = (x411000.length : Int) then (if (x419001.length : Int) = (x411001.length : Int) then ((spec_Dump.f k bt419.1 bt419.2.1 bt419.2.2.1 bt419.2.2.2).bind fun bt436 => ((spec_SameStore.f k bt428.1 bt428.2.1 bt428.2.2 bt436.1 bt436.2.1 bt436.2.2).bind fun t443 => (if t443 = true then (if (bt419.2.2.1.size : Int) > 3000 then (some ((bt428.2.1.length : Int) == (bt419.2.1.length : Int))) else ((laws_begins.f bt419.2.2.1 bt428.2.2).bind fun t444 => (if t444 = true then (some ((bt428.2.1.length : Int) == (bt419.2.1.length : Int))) else (some false)))) else (some false)))) else (some false)) else (some false)) else (some false)))
def laws_FnSays.f (k : Nat) (l0 : List Int) : Option (Bool) := (laws_big.f l0).bind fun t401 => (if t401 = true then (some true) else ((spec_DrawSay.f k l0).bind fun bt402 => ((impl_Say.f bt402.1 bt402.2.1 bt402.2.2.1 bt402.2.2.2).bind fun bt411 => (if bt402.2.2.1.size + bt402.2.2.2.size ≤ 9223372036854775807 then (if (bt402.2.2.1 ++ bt402.2.2.2).size + 1 ≤ 9223372036854775807 then (if (((bt402.2.2.1 ++ bt402.2.2.2) ++ (⟨#[10]⟩ : ByteArray)).size : Int) > 3000 then (if 0 ≤ 3000 then (if 3000 ≤ (((bt402.2.2.1 ++ bt402.2.2.2) ++ (⟨#[10]⟩ : ByteArray)).size : Int) then (laws_FnSays.j0 k l0 (((bt402.2.2.1 ++ bt402.2.2.2) ++ (⟨#[10]⟩ : ByteArray)).extract 0 3000) bt402.1 bt402.2.1 bt402.2.2.1 bt411.1 bt411.2.1 bt411.2.2) else (none)) else (none)) else (laws_FnSays.j0 k l0 ((bt402.2.2.1 ++ bt402.2.2.2) ++ (⟨#[10]⟩ : ByteArray)) bt402.1 bt402.2.1 bt402.2.2.1 bt411.1 bt411.2.1 bt411.2.2)) else (none)) else (none)))))
theorem laws_FnSays.mono_l : ∀ k, (∀ y0 y1 y2 y3 y4 y5 y6 y7, LeO (laws_FnSays.j0 k y0 y1 y2 y3 y4 y5 y6 y7) (laws_FnSays.j0 (k + 1) y0 y1 y2 y3 y4 y5 y6 y7))
 | 0 => fun _ _ _ _ _ _ _ _ r h => by simp [laws_FnSays.j0] at h
 | k + 1 => by
  have ih0 := laws_FnSays.mono_l k
  ·intro y0 y1 y2 y3 y4 y5 y6 y7
   unfold laws_FnSays.j0
   repeat' first
   | (with_reducible exact ih0 _ _ _ _ _ _ _ _)
   | (with_reducible exact impl_Dump.mono _ _ _ _ _)
   | (with_reducible exact spec_DrawDump.mono _ _)
   | (with_reducible exact spec_DrawSay.mono _ _)
   | (with_reducible exact spec_Dump.mono _ _ _ _ _)
   | (with_reducible exact spec_SameStore.mono _ _ _ _ _ _ _)
   | (with_reducible exact LeO.refl _)
   | (with_reducible exact LeO.none _)
   | (with_reducible refine LeO.ite ?_ ?_)
   | (with_reducible refine LeO.bind ?_ (fun _ => ?_))
   | exact ih0 _ _ _ _ _ _ _ _
   | exact impl_Dump.mono _ _ _ _ _
   | exact spec_DrawDump.mono _ _
   | exact spec_DrawSay.mono _ _
   | exact spec_Dump.mono _ _ _ _ _
   | exact spec_SameStore.mono _ _ _ _ _ _ _
   | exact LeO.none _
   | refine LeO.ite ?_ ?_
   | refine LeO.bind ?_ (fun _ => ?_)
theorem laws_FnSays.mono : ∀ a0 k, LeO (laws_FnSays.f k a0) (laws_FnSays.f (k + 1) a0) := by
 intro a0 k
 have ih0 := laws_FnSays.mono_l k
 unfold laws_FnSays.f
 repeat' first
   | (with_reducible exact ih0 _ _ _ _ _ _ _ _)
   | (with_reducible exact impl_Dump.mono _ _ _ _ _)
   | (with_reducible exact spec_DrawDump.mono _ _)
   | (with_reducible exact spec_DrawSay.mono _ _)
   | (with_reducible exact spec_Dump.mono _ _ _ _ _)
   | (with_reducible exact spec_SameStore.mono _ _ _ _ _ _ _)
   | (with_reducible exact LeO.refl _)
   | (with_reducible exact LeO.none _)
   | (with_reducible refine LeO.ite ?_ ?_)
   | (with_reducible refine LeO.bind ?_ (fun _ => ?_))
   | exact ih0 _ _ _ _ _ _ _ _
   | exact impl_Dump.mono _ _ _ _ _
   | exact spec_DrawDump.mono _ _
   | exact spec_DrawSay.mono _ _
   | exact spec_Dump.mono _ _ _ _ _
   | exact spec_SameStore.mono _ _ _ _ _ _ _
   | exact LeO.none _
   | refine LeO.ite ?_ ?_
   | refine LeO.bind ?_ (fun _ => ?_)
def laws_FnSays.T10 : Bool × List (List Nat × List Nat) := (true, [([], []), ([0], [0]), ([], []), ([1, 2], [1, 2]), ([3], [3]), ([4], [4]), ([5, 4], [4, 5]), ([6, 4], [4, 6]), ([4], [4]), ([8, 4], [4, 8]), ([9, 4], [4, 9]), ([7, 10, 4], [4, 7, 10]), ([4, 11], [4, 11]), ([12, 4], [12]), ([13], [13]), ([14, 13], [13, 14]), ([15, 13], [13, 15]), ([13], [13]), ([17, 13], [13, 17]), ([18, 13], [13, 18]), ([16, 19, 13], [13, 16, 19]), ([13, 20], [13, 20]), ([21, 13], [21]), ([22], [22]), ([22], [22]), ([22], [22]), ([24, 25, 22, 22], [22, 24, 25]), ([23, 26, 26, 22], [22, 23, 26]), ([22, 27], [22, 27]), ([28, 27], [28]), ([29], [29]), ([30, 29], [29, 30]), ([31, 29], [29, 31]), ([32, 29], [29, 32]), ([33, 29, 29], [29, 33]), ([34], [34]), ([35, 34], [34, 35]), ([34], [34]), ([37, 34], [34, 37]), ([36, 38, 34, 34], [34, 36, 38]), ([34, 39, 29], [29, 34, 39]), ([29, 40], [29, 40]), ([41, 39], [41]), ([42], [42]), ([43, 42], [42, 43]), ([44, 42], [42, 44]), ([42], [42]), ([46, 42], [42, 46]), ([47, 42], [42, 47]), ([45, 48, 42], [42, 45, 48]), ([42, 49], [42, 49]), ([50, 42, 0, 1, 2, 3, 4, 5, 6, 7, 8, 9, 10, 11, 12, 13, 14, 15, 16, 17, 18, 19, 20, 21, 22, 23, 24, 25, 26, 27, 28, 29, 30, 31, 32, 33, 34, 35, 36, 37, 38, 39, 40, 41, 42, 43, 44, 45, 46, 47, 48, 49, 50], [50])])
def laws_FnSays.B10 : List Nat := [0, 1, 0, 7, 15, 31, 63, 127, 31, 287, 799, 2047, 4095, 8191, 16383, 32767, 65535, 16383, 147455, 409599, 1048575, 2097151, 4194303, 8388607, 8388607, 8388607, 58720255, 134217727, 268435455, 536870911, 1073741823, 2147483647, 4294967295, 8589934591, 17179869183, 34359738367, 68719476735, 34359738367, 171798691839, 549755813887, 1099511627775, 2199023255551, 4398046511103, 8796093022207, 17592186044415, 35184372088831, 8796093022207, 79164837199871, 219902325555199, 562949953421311, 1125899906842623, 2251799813685247]
theorem laws_FnSays.tab10 : rtab .any (opsOf Try.f5 10) = laws_FnSays.T10 := by kernel_rfl
theorem laws_FnSays.bits10 : waitsOk laws_FnSays.T10.2 laws_FnSays.B10 = true := by kernel_rfl
set_option maxHeartbeats 8000000 in
set_option maxRecDepth 100000 in
theorem laws_FnSays.calls (k : Nat) (A0 : Option Addr) (c0 : Nat) (l0 : List Int) (r : Bool) (w : World) (hr0 : Kd.C (Kd.int .u8) w A0 l0.length l0) (hc0 : l0.length ≤ c0) (h : laws_FnSays.f k l0 = some r) (hr_ : r = true:=by first|rfl|assumption|exact Aside0.out (by assumption)) :
  Calls Try.prog 5 #[.slice A0 l0.length c0] w fun e w' => e = .returned (.bool r) ∧ Below w.heap.size w w':=by
 have hu35:=Try.underlying35
 have HR0:=aM hr0
 have HC0:=aM hc0
 clear hr0 hc0
 have HB:=aM (Below.refl w.heap.size w)
 have H : ((laws_big.f l0).bind fun t401 => (if t401 = true then (some true) else ((spec_DrawSay.f k l0).bind fun bt402 => ((impl_Say.f bt402.1 bt402.2.1 bt402.2.2.1 bt402.2.2.2).bind fun bt411 => (if bt402.2.2.1.size + bt402.2.2.2.size ≤ 9223372036854775807 then (if (bt402.2.2.1 ++ bt402.2.2.2).size + 1 ≤ 9223372036854775807 then (if (((bt402.2.2.1 ++ bt402.2.2.2) ++ (⟨#[10]⟩ : ByteArray)).size : Int) > 3000 then (if 0 ≤ 3000 then (if 3000 ≤ (((bt402.2.2.1 ++ bt402.2.2.2) ++ (⟨#[10]⟩ : ByteArray)).size : Int) then (laws_FnSays.j0 k l0 (((bt402.2.2.1 ++ bt402.2.2.2) ++ (⟨#[10]⟩ : ByteArray)).extract 0 3000) bt402.1 bt402.2.1 bt402.2.2.1 bt411.1 bt411.2.1 bt411.2.2) else (none)) else (none)) else (laws_FnSays.j0 k l0 ((bt402.2.2.1 ++ bt402.2.2.2) ++ (⟨#[10]⟩ : ByteArray)) bt402.1 bt402.2.1 bt402.2.2.1 bt411.1 bt411.2.1 bt411.2.2)) else (none)) else (none)))))) = some r:=h
 clear h
 have HR_:=aM hr_
 clear hr_
 replace H:=Option.bind_eq_some_iff.mp H
 obtain ⟨t401,A20,H⟩:=H
 replace H : (if t401 = true then (some true) else ((spec_DrawSay.f k l0).bind fun bt402 => ((impl_Say.f bt402.1 bt402.2.1 bt402.2.2.1 bt402.2.2.2).bind fun bt411 => (if bt402.2.2.1.size + bt402.2.2.2.size ≤ 9223372036854775807 then (if (bt402.2.2.1 ++ bt402.2.2.2).size + 1 ≤ 9223372036854775807 then (if (((bt402.2.2.1 ++ bt402.2.2.2) ++ (⟨#[10]⟩ : ByteArray)).size : Int) > 3000 then (if 0 ≤ 3000 then (if 3000 ≤ (((bt402.2.2.1 ++ bt402.2.2.2) ++ (⟨#[10]⟩ : ByteArray)).size : Int) then (laws_FnSays.j0 k l0 (((bt402.2.2.1 ++ bt402.2.2.2) ++ (⟨#[10]⟩ : ByteArray)).extract 0 3000) bt402.1 bt402.2.1 bt402.2.2.1 bt411.1 bt411.2.1 bt411.2.2) else (none)) else (none)) else (laws_FnSays.j0 k l0 ((bt402.2.2.1 ++ bt402.2.2.2) ++ (⟨#[10]⟩ : ByteArray)) bt402.1 bt402.2.1 bt402.2.2.1 bt411.1 bt411.2.1 bt411.2.2)) else (none)) else (none))))) = some r:=H
 have A2:=aM A20
 clear A20
 by_cases c3 : t401 = true
 ·subst c3
  have H1 : (some true) = some r:=by rw [if_pos rfl] at H;exact H
  clear H
  have H:=H1
  clear H1
  obtain rfl:=Option.some.inj H
  go_enter Try.func5,Try.ntmps5
  go_wp2_with (first|((with_reducible refine gate_callee (f:=6) rfl ?_);refine goesL_ (some 11) rfl rfl Try.func6 (by kernel_rfl) rfl #[.slice A0 l0.length c0] rfl (by (try simp only [List.map_toArray,List.map_cons,List.map_nil]);first|done|rfl|(simp only [List.length_drop,List.length_take];rfl)) ?_;(with_reducible refine (laws_big.calls _ _ l0 true _ ?side1 ?side2 A2.out).mono ?_);(case side1 => repeat (first|exact HR0.out|(with_reducible first|refine cA ?_ _|refine cN ?_ _|refine cD ?_)));(case side2 => exact HC0.out);rintro e w' ⟨rfl,⟨nd,rfl⟩⟩;refine ⟨_,rfl,?_⟩))
  go_ret
  exact ⟨by first|rfl|(simp [errW_none,errW_some] <;> rfl)|(simp [*,errW_none,errW_some] <;> rfl),by repeat (first|(with_reducible first|exact HB.out|apply lA|apply lN|apply lD)|exact HB.out)⟩
 ·replace c3:=Bool.eq_false_iff.mpr c3
  subst c3
  have H1 : ((spec_DrawSay.f k l0).bind fun bt402 => ((impl_Say.f bt402.1 bt402.2.1 bt402.2.2.1 bt402.2.2.2).bind fun bt411 => (if bt402.2.2.1.size + bt402.2.2.2.size ≤ 9223372036854775807 then (if (bt402.2.2.1 ++ bt402.2.2.2).size + 1 ≤ 9223372036854775807 then (if (((bt402.2.2.1 ++ bt402.2.2.2) ++ (⟨#[10]⟩ : ByteArray)).size : Int) > 3000 then (if 0 ≤ 3000 then (if 3000 ≤ (((bt402.2.2.1 ++ bt402.2.2.2) ++ (⟨#[10]⟩ : ByteArray)).size : Int) then (laws_FnSays.j0 k l0 (((bt402.2.2.1 ++ bt402.2.2.2) ++ (⟨#[10]⟩ : ByteArray)).extract 0 3000) bt402.1 bt402.2.1 bt402.2.2.1 bt411.1 bt411.2.1 bt411.2.2) else (none)) else (none)) else (laws_FnSays.j0 k l0 ((bt402.2.2.1 ++ bt402.2.2.2) ++ (⟨#[10]⟩ : ByteArray)) bt402.1 bt402.2.1 bt402.2.2.1 bt411.1 bt411.2.1 bt411.2.2)) else (none)) else (none)))) = some r:=by rw [if_neg (show ¬ (false = true) by decide)] at H;exact H
  clear H
  have H:=H1
  clear H1
  replace H:=Option.bind_eq_some_iff.mp H
  obtain ⟨⟨t402,t405,t408,t409⟩,A40,H⟩:=H
  replace H : ((impl_Say.f t402 t405 t408 t409).bind fun bt411 => (if t408.size + t409.size ≤ 9223372036854775807 then (if (t408 ++ t409).size + 1 ≤ 9223372036854775807 then (if (((t408 ++ t409) ++ (⟨#[10]⟩ : ByteArray)).size : Int) > 3000 then (if 0 ≤ 3000 then (if 3000 ≤ (((t408 ++ t409) ++ (⟨#[10]⟩ : ByteArray)).size : Int) then (laws_FnSays.j0 k l0 (((t408 ++ t409) ++ (⟨#[10]⟩ : ByteArray)).extract 0 3000) t402 t405 t408 bt411.1 bt411.2.1 bt411.2.2) else (none)) else (none)) else (laws_FnSays.j0 k l0 ((t408 ++ t409) ++ (⟨#[10]⟩ : ByteArray)) t402 t405 t408 bt411.1 bt411.2.1 bt411.2.2)) else (none)) else (none))) = some r:=H
  have A4:=aM A40
  clear A40
  replace H:=Option.bind_eq_some_iff.mp H
  obtain ⟨⟨t411,t414,t417⟩,A50,H⟩:=H
  replace H : (if t408.size + t409.size ≤ 9223372036854775807 then (if (t408 ++ t409).size + 1 ≤ 9223372036854775807 then (if (((t408 ++ t409) ++ (⟨#[10]⟩ : ByteArray)).size : Int) > 3000 then (if 0 ≤ 3000 then (if 3000 ≤ (((t408 ++ t409) ++ (⟨#[10]⟩ : ByteArray)).size : Int) then (laws_FnSays.j0 k l0 (((t408 ++ t409) ++ (⟨#[10]⟩ : ByteArray)).extract 0 3000) t402 t405 t408 t411 t414 t417) else (none)) else (none)) else (laws_FnSays.j0 k l0 ((t408 ++ t409) ++ (⟨#[10]⟩ : ByteArray)) t402 t405 t408 t411 t414 t417)) else (none)) else (none)) = some r:=H
  have A5:=aM A50
  clear A50
  by_cases c6 : t408.size + t409.size ≤ 9223372036854775807
  ·rw [if_pos c6] at H
   have c6b0:=eq_true c6
   have c6b1 : decide (t408.size + t409.size ≤ 9223372036854775807) = true:=decide_eq_true c6
   try have c6b2 : (9223372036854775807 < t408.size + t409.size) = False:=eq_false (Nat.not_lt.2 c6)
   by_cases c7 : (t408 ++ t409).size + 1 ≤ 9223372036854775807
   ·rw [if_pos c7] at H
    have c7b0:=eq_true c7
    have c7b1 : decide ((t408 ++ t409).size + 1 ≤ 9223372036854775807) = true:=decide_eq_true c7
    try have c7b2 : (9223372036854775807 < (t408 ++ t409).size + 1) = False:=eq_false (Nat.not_lt.2 c7)
    try (have c7b7:=c7b2;simp only [ByteArray.size_append] at c7b7)
    have HC8:=aM H
    clear H
    go_enter Try.func5,Try.ntmps5
    go_upto_if 27 with (first|((with_reducible refine gate_callee (f:=6) rfl ?_);refine goesL_ (some 11) rfl rfl Try.func6 (by kernel_rfl) rfl #[.slice A0 l0.length c0] rfl (by (try simp only [List.map_toArray,List.map_cons,List.map_nil]);first|done|rfl|(simp only [List.length_drop,List.length_take];rfl)) ?_;(with_reducible refine (laws_big.calls _ _ l0 false _ ?side1 ?side2 A2.out).mono ?_);(case side1 => repeat (first|exact HR0.out|(with_reducible first|refine cA ?_ _|refine cN ?_ _|refine cD ?_)));(case side2 => exact HC0.out);rintro e w' ⟨rfl,⟨nd,rfl⟩⟩;refine ⟨_,rfl,?_⟩)|((with_reducible refine gate_callee (f:=16) rfl ?_);refine goesL_ (some 14) rfl rfl Try.func16 (by kernel_rfl) rfl #[.slice A0 l0.length c0] rfl (by (try simp only [List.map_toArray,List.map_cons,List.map_nil]);first|done|rfl|(simp only [List.length_drop,List.length_take];rfl)) ?_;(with_reducible refine (spec_DrawSay.calls k _ _ l0 t402 t405 t408 t409 _ ?side1 ?side2 A4.out).mono ?_);(case side1 => repeat (first|exact HR0.out|(with_reducible first|refine cA ?_ _|refine cN ?_ _|refine cD ?_)));(case side2 => exact HC0.out);rintro e w9 ⟨v403,v406,rfl,ho0,ho1,hb⟩;refine ⟨_,rfl,?_⟩;have n0_:=aM (rL ho0 (lZ (by repeat (first|(with_reducible first|exact HB.out|apply lA|apply lN|apply lD)|exact HB.out))));have n1_:=aM (rL ho1 (lZ (by repeat (first|(with_reducible first|exact HB.out|apply lA|apply lN|apply lD)|exact HB.out))));have n2_:=aM (lQ HB.out hb);clear HB;have HO404:=n0_;have HO407:=n1_;have HB:=n2_;clear n0_ n1_ n2_;(try clear hb);(try clear hb2);(try clear hk);(try clear hi);(try clear ho0);(try clear ho1))|((with_reducible refine gate_dst (N:=3) rfl ?_);(try (refine gate_guard (by rfl) ?_;dsimp only));refine box_event ?hg (N:=3) ?hd (cs:=#[.slice none 0 0,.slice none 0 0,.string (⟨#[]⟩ : ByteArray)]) (t:=35) ?hr ?_;(case hd => rfl);(case hg => rfl);(case hr => first|(go_simp;done)|(go_simp;rfl));intro gb410 hg w10 hbox hb;have n0_:=aM (rH HO404.out hb);have n1_:=aM (rH HO407.out hb);have n2_:=aM (lQ HB.out hb);have n3_:=aM (hbox);have n4_:=aM ((sQ hg HB.out : w.heap.size ≤ gb410));have n5_:=n4_;clear HO404 HO407 HB;have HO404:=n0_;have HO407:=n1_;have HB:=n2_;have BK410:=n3_;have GW410:=n4_;have GE410:=n5_;clear n0_ n1_ n2_ n3_ n4_ n5_ hb hbox hg;obtain ⟨Ao11,co11,eo11⟩:=Kd.R_slice HO404.out;subst eo11;obtain ⟨⟨hcz12_0,hcz12_1,hcz12_2⟩,hfz12_0,hfz12_1,hfz12_2⟩:=bC3 BK410.out;obtain ⟨Ao13,co13,eo13⟩:=Kd.R_slice HO407.out;subst eo13)|((with_reducible refine gate_callee (f:=17) rfl ?_);refine goesL_ (some 19) rfl rfl Try.func17 (by kernel_rfl) rfl #[.agg #[.slice Ao11 t402.length co11,.slice Ao13 t405.length co13,.string t408],.string t409] rfl (by (try simp only [List.map_toArray,List.map_cons,List.map_nil]);first|done|rfl|(simp only [List.length_drop,List.length_take];rfl)) ?_;(with_reducible refine (impl_Say.calls _ _ t402 _ _ t405 t408 t409 t411 t414 t417 _ ?side1 ?side2 ?side3 ?side4 A5.out).mono ?_);(case side1 => refine (rR (e:=59) (base:=w.heap.size) (ok:=fun k_ => True) (n:=t402.length) (c:=co11) ?_).2.2;exact (by (with_reducible repeat (first|apply rA|apply rN|apply rD));exact (Kd.R_mono (rF (rF (rF (rY HO404.out BK410.out (by decide)) (fun _ hk => hk.2) _) (fun _ hk => hk.2) _) (fun _ hk => hk.2) _) (fun _ h_ => h_.1))));(case side2 => exact (rR HO404.out).2.1);(case side3 => refine (rR (e:=39) (base:=w.heap.size) (ok:=fun k_ => True) (n:=t405.length) (c:=co13) ?_).2.2;exact (by (with_reducible repeat (first|apply rA|apply rN|apply rD));exact (Kd.R_mono (rF (rF (rF (rY HO407.out BK410.out (by decide)) (fun _ hk => hk.2) _) (fun _ hk => hk.2) _) (fun _ hk => hk.2) _) (fun _ h_ => h_.1))));(case side4 => exact (rR HO407.out).2.1);rintro e w14 ⟨v412,v415,rfl,ho0,ho1,hb⟩;refine ⟨_,rfl,?_⟩;have n0_:=aM (rE (by (with_reducible repeat (first|apply rA|apply rN|apply rD));exact (Kd.R_mono (rF (rF (rF (rY HO404.out BK410.out (by decide)) (fun _ hk => hk.2) _) (fun _ hk => hk.2) _) (fun _ hk => hk.2) _) (fun _ h_ => h_.1))) (rS ho0) hb);have n1_:=aM (rE (by (with_reducible repeat (first|apply rA|apply rN|apply rD));exact (Kd.R_mono (rF (rF (rF (rY HO407.out BK410.out (by decide)) (fun _ hk => hk.2) _) (fun _ hk => hk.2) _) (fun _ hk => hk.2) _) (fun _ h_ => h_.1))) (rS ho1) hb);have n2_:=aM (rL (rW ho0 (rT (by (with_reducible repeat (first|apply rA|apply rN|apply rD));exact (Kd.R_mono (rF (rF (rF (rY HO404.out BK410.out (by decide)) (fun _ hk => hk.2) _) (fun _ hk => hk.2) _) (fun _ hk => hk.2) _) (fun _ h_ => h_.1))))) (lZ (by repeat (first|(with_reducible first|exact HB.out|apply lA|apply lN|apply lD|refine lS ?_ GE410.out)|exact HB.out))));have n3_:=aM (rL (rW ho1 (rT (by (with_reducible repeat (first|apply rA|apply rN|apply rD));exact (Kd.R_mono (rF (rF (rF (rY HO407.out BK410.out (by decide)) (fun _ hk => hk.2) _) (fun _ hk => hk.2) _) (fun _ hk => hk.2) _) (fun _ h_ => h_.1))))) (lZ (by repeat (first|(with_reducible first|exact HB.out|apply lA|apply lN|apply lD|refine lS ?_ GE410.out)|exact HB.out))));have n4_:=aM (bB (g:=gb410) (o:=.cells #[.slice Ao11 t402.length co11,.slice Ao13 t405.length co13,.string t408] 35 (0,0)) (by (with_reducible repeat (first|refine bN ?_ _|refine bD ?_|refine bA ?_ _));refine blk_put (cs:=#[.slice Ao11 t402.length co11,.slice Ao13 t405.length co13,.string (⟨#[]⟩ : ByteArray)]) ?_ 2 _ rfl;(with_reducible repeat (first|refine bN ?_ _|refine bD ?_|refine bA ?_ _));refine blk_put (cs:=#[.slice Ao11 t402.length co11,.slice none 0 0,.string (⟨#[]⟩ : ByteArray)]) ?_ 1 _ rfl;(with_reducible repeat (first|refine bN ?_ _|refine bD ?_|refine bA ?_ _));refine blk_put (cs:=#[.slice none 0 0,.slice none 0 0,.string (⟨#[]⟩ : ByteArray)]) ?_ 0 _ rfl;(with_reducible repeat (first|refine bN ?_ _|refine bD ?_|refine bA ?_ _));exact BK410.out) hb);have n5_:=aM (lQ HB.out hb);clear HO404 HO407 BK410 HB;have HO404:=n0_;have HO407:=n1_;have HO413:=n2_;have HO416:=n3_;have BK410:=n4_;have HB:=n5_;clear n0_ n1_ n2_ n3_ n4_ n5_;(try clear hb);(try clear hb2);(try clear hk);(try clear hi);(try clear ho0);(try clear ho1))|((with_reducible refine gate_dst (N:=5) rfl ?_);(try (refine gate_guard (by rfl) ?_;dsimp only));refine box_event ?hg (N:=5) ?hd (cs:=#[.slice none 0 0,.slice none 0 0,.string (⟨#[]⟩ : ByteArray)]) (t:=35) ?hr ?_;(case hd => rfl);(case hg => rfl);(case hr => first|(go_simp;done)|(go_simp;rfl));intro gb418 hg w15 hbox hb;have n0_:=aM (rH HO404.out hb);have n1_:=aM (rH HO407.out hb);have n2_:=aM (rH HO413.out hb);have n3_:=aM (rH HO416.out hb);have n4_:=aM (bH BK410.out hb);have n5_:=aM (lQ HB.out hb);have n6_:=aM (hbox);have n7_:=aM ((sQ hg HB.out : w.heap.size ≤ gb418));have n8_:=n7_;have n9_:=aM ((nL hg BK410.out : gb410 ≠ gb418));have n10_:=aM ((nG hg BK410.out : gb418 ≠ gb410));clear HO404 HO407 HO413 HO416 BK410 HB;have HO404:=n0_;have HO407:=n1_;have HO413:=n2_;have HO416:=n3_;have BK410:=n4_;have HB:=n5_;have BK418:=n6_;have GW418:=n7_;have GE418:=n8_;have NB410_418:=n9_;have NB418_410:=n10_;clear n0_ n1_ n2_ n3_ n4_ n5_ n6_ n7_ n8_ n9_ n10_ hb hbox hg;obtain ⟨Ao16,co16,eo16⟩:=Kd.R_slice HO413.out;subst eo16;have hnb17:=NB418_410.out;have hnc17:=NB410_418.out;obtain ⟨⟨hcz18_0,hcz18_1,hcz18_2⟩,hfz18_0,hfz18_1,hfz18_2⟩:=bC3 BK418.out;obtain ⟨Ao19,co19,eo19⟩:=Kd.R_slice HO416.out;subst eo19;obtain ⟨⟨hcz20_0,hcz20_1,hcz20_2⟩,hfz20_0,hfz20_1,hfz20_2⟩:=bC3 BK410.out))
    (try simp only [Act.put,q_ia11,q_cz11,q_cs11])
    go_cut [6] (fun v6 wc => ∃ (kq : Nat) (x6_7 : ByteArray),v6 = .string x6_7 ∧ Aside0 (laws_FnSays.j0 kq l0 x6_7 t402 t405 t408 t411 t414 t417 = some r) ∧ Aside0 (kq ≤ k) ∧ Aside0 (Kd.R k59 59 wc w.heap.size (fun k_ => some k_ ≠ ((.slice Ao16 t411.length co16) : Value).ownBlock) (.slice Ao11 t402.length co11) t402) ∧ Aside0 (Kd.R k39 39 wc w.heap.size (fun k_ => some k_ ≠ ((.slice Ao19 t414.length co19) : Value).ownBlock) (.slice Ao13 t405.length co13) t405) ∧ Aside0 (Kd.R k59 59 wc w.heap.size (fun k_ => some k_ ≠ ((.slice Ao11 t402.length co11) : Value).ownBlock) (.slice Ao16 t411.length co16) t411) ∧ Aside0 (Kd.R k39 39 wc w.heap.size (fun k_ => some k_ ≠ ((.slice Ao13 t405.length co13) : Value).ownBlock) (.slice Ao19 t414.length co19) t414) ∧ Aside0 (wc.heap[gb410]? = some (.cells #[(.slice Ao11 t402.length co11),(.slice Ao13 t405.length co13),.string t408] 35 (0,0))) ∧ Aside0 (wc.heap[gb418]? = some (.cells #[(.slice Ao16 t411.length co16),(.slice Ao19 t414.length co19),.string t417] 35 (0,0))) ∧ Aside0 (Below w.heap.size w wc))
    case first =>
     have H:=HC8.out
     clear HC8
     by_cases c21 : (((t408 ++ t409) ++ (⟨#[10]⟩ : ByteArray)).size : Int) > 3000
     ·rw [if_pos c21] at H
      have c21b0 : decide (3000 < (((t408 ++ t409) ++ (⟨#[10]⟩ : ByteArray)).size : Int)) = true:=decide_eq_true c21
      try (have c21b08:=c21b0;simp only [ByteArray.size_append,show ((⟨#[10]⟩ : ByteArray)).size = 1 from rfl,Int.natCast_add,Int.natCast_one,Int.cast_ofNat_Int] at c21b08)
      have c21b1 : decide (3000 < ((t408 ++ t409) ++ (⟨#[10]⟩ : ByteArray)).size) = true:=decide_eq_true (by omega)
      clear c21
      (first|rw [c21b0]|(simp only [i64_w,i32_w];rw [c21b0])|rw [c21b08]|skip)
      by_cases c22 : 0 ≤ 3000
      ·rw [if_pos c22] at H
       have c22b0:=eq_true c22
       have c22b1 : decide (0 ≤ 3000) = true:=decide_eq_true c22
       clear c22
       by_cases c23 : 3000 ≤ (((t408 ++ t409) ++ (⟨#[10]⟩ : ByteArray)).size : Int)
       ·rw [if_pos c23] at H
        have c23b0:=eq_true c23
        have c23b1 : decide (3000 ≤ (((t408 ++ t409) ++ (⟨#[10]⟩ : ByteArray)).size : Int)) = true:=decide_eq_true c23
        try (have c23b18:=c23b1;simp only [ByteArray.size_append,show ((⟨#[10]⟩ : ByteArray)).size = 1 from rfl,Int.natCast_add,Int.natCast_one,Int.cast_ofNat_Int] at c23b18)
        have H':=aM H
        clear H
        go_wp2
        go_meet
        case rel => exact ⟨_,(((t408 ++ t409) ++ (⟨#[10]⟩ : ByteArray)).extract 0 3000),(by first|rfl|(simp;done)|(simp [*];done)),H',⟨by first|omega|exact Nat.le_refl _⟩,⟨by (with_reducible repeat (first|apply rA|apply rN|apply rD));exact Kd.R_mono (rF (rF (rF (rY HO404.out BK418.out (by decide)) (fun _ hk => hk.2) _) (fun _ hk => hk.2) _) (fun _ hk => hk.2) _) (fun _ hk => hk.1.2)⟩,⟨by (with_reducible repeat (first|apply rA|apply rN|apply rD));exact Kd.R_mono (rF (rF (rF (rY HO407.out BK418.out (by decide)) (fun _ hk => hk.2) _) (fun _ hk => hk.2) _) (fun _ hk => hk.2) _) (fun _ hk => hk.1.2)⟩,⟨by (with_reducible repeat (first|apply rA|apply rN|apply rD));exact Kd.R_mono (rF (rF (rF (rY HO413.out BK418.out (by decide)) (fun _ hk => hk.2) _) (fun _ hk => hk.2) _) (fun _ hk => hk.2) _) (fun _ hk => hk.1.2)⟩,⟨by (with_reducible repeat (first|apply rA|apply rN|apply rD));exact Kd.R_mono (rF (rF (rF (rY HO416.out BK418.out (by decide)) (fun _ hk => hk.2) _) (fun _ hk => hk.2) _) (fun _ hk => hk.2) _) (fun _ hk => hk.1.2)⟩,⟨by (with_reducible repeat (first|refine bN ?_ _|refine bD ?_|refine bA ?_ _));refine blk_far ?_ NB410_418.out _;(with_reducible repeat (first|refine bN ?_ _|refine bD ?_|refine bA ?_ _));refine blk_far ?_ NB410_418.out _;(with_reducible repeat (first|refine bN ?_ _|refine bD ?_|refine bA ?_ _));refine blk_far ?_ NB410_418.out _;(with_reducible repeat (first|refine bN ?_ _|refine bD ?_|refine bA ?_ _));exact BK410.out⟩,⟨by (with_reducible repeat (first|refine bN ?_ _|refine bD ?_|refine bA ?_ _));refine blk_put (cs:=#[.slice Ao16 t411.length co16,.slice Ao19 t414.length co19,.string (⟨#[]⟩ : ByteArray)]) ?_ 2 _ rfl;(with_reducible repeat (first|refine bN ?_ _|refine bD ?_|refine bA ?_ _));refine blk_put (cs:=#[.slice Ao16 t411.length co16,.slice none 0 0,.string (⟨#[]⟩ : ByteArray)]) ?_ 1 _ rfl;(with_reducible repeat (first|refine bN ?_ _|refine bD ?_|refine bA ?_ _));refine blk_put (cs:=#[.slice none 0 0,.slice none 0 0,.string (⟨#[]⟩ : ByteArray)]) ?_ 0 _ rfl;(with_reducible repeat (first|refine bN ?_ _|refine bD ?_|refine bA ?_ _));exact BK418.out⟩,⟨by repeat (first|(with_reducible first|exact HB.out|apply lA|apply lN|apply lD|refine lS ?_ GE410.out|refine lS ?_ GE418.out)|exact HB.out)⟩⟩
       ·rw [if_neg c23] at H
        exact absurd H (by simp)
      ·rw [if_neg c22] at H
       exact absurd H (by simp)
     ·rw [if_neg c21] at H
      have c21b0 : decide (3000 < (((t408 ++ t409) ++ (⟨#[10]⟩ : ByteArray)).size : Int)) = false:=decide_eq_false c21
      try (have c21b08:=c21b0;simp only [ByteArray.size_append,show ((⟨#[10]⟩ : ByteArray)).size = 1 from rfl,Int.natCast_add,Int.natCast_one,Int.cast_ofNat_Int] at c21b08)
      have c21b1 : decide (3000 < ((t408 ++ t409) ++ (⟨#[10]⟩ : ByteArray)).size) = false:=decide_eq_false (by omega)
      clear c21
      (first|rw [c21b0]|(simp only [i64_w,i32_w];rw [c21b0])|rw [c21b08]|skip)
      have H':=aM H
      clear H
      go_wp2
      go_meet
      case rel => exact ⟨_,((t408 ++ t409) ++ (⟨#[10]⟩ : ByteArray)),(by first|rfl|(simp;done)|(simp [*];done)),H',⟨by first|omega|exact Nat.le_refl _⟩,⟨by (with_reducible repeat (first|apply rA|apply rN|apply rD));exact Kd.R_mono (rF (rF (rF (rY HO404.out BK418.out (by decide)) (fun _ hk => hk.2) _) (fun _ hk => hk.2) _) (fun _ hk => hk.2) _) (fun _ hk => hk.1.2)⟩,⟨by (with_reducible repeat (first|apply rA|apply rN|apply rD));exact Kd.R_mono (rF (rF (rF (rY HO407.out BK418.out (by decide)) (fun _ hk => hk.2) _) (fun _ hk => hk.2) _) (fun _ hk => hk.2) _) (fun _ hk => hk.1.2)⟩,⟨by (with_reducible repeat (first|apply rA|apply rN|apply rD));exact Kd.R_mono (rF (rF (rF (rY HO413.out BK418.out (by decide)) (fun _ hk => hk.2) _) (fun _ hk => hk.2) _) (fun _ hk => hk.2) _) (fun _ hk => hk.1.2)⟩,⟨by (with_reducible repeat (first|apply rA|apply rN|apply rD));exact Kd.R_mono (rF (rF (rF (rY HO416.out BK418.out (by decide)) (fun _ hk => hk.2) _) (fun _ hk => hk.2) _) (fun _ hk => hk.2) _) (fun _ hk => hk.1.2)⟩,⟨by (with_reducible repeat (first|refine bN ?_ _|refine bD ?_|refine bA ?_ _));refine blk_far ?_ NB410_418.out _;(with_reducible repeat (first|refine bN ?_ _|refine bD ?_|refine bA ?_ _));refine blk_far ?_ NB410_418.out _;(with_reducible repeat (first|refine bN ?_ _|refine bD ?_|refine bA ?_ _));refine blk_far ?_ NB410_418.out _;(with_reducible repeat (first|refine bN ?_ _|refine bD ?_|refine bA ?_ _));exact BK410.out⟩,⟨by (with_reducible repeat (first|refine bN ?_ _|refine bD ?_|refine bA ?_ _));refine blk_put (cs:=#[.slice Ao16 t411.length co16,.slice Ao19 t414.length co19,.string (⟨#[]⟩ : ByteArray)]) ?_ 2 _ rfl;(with_reducible repeat (first|refine bN ?_ _|refine bD ?_|refine bA ?_ _));refine blk_put (cs:=#[.slice Ao16 t411.length co16,.slice none 0 0,.string (⟨#[]⟩ : ByteArray)]) ?_ 1 _ rfl;(with_reducible repeat (first|refine bN ?_ _|refine bD ?_|refine bA ?_ _));refine blk_put (cs:=#[.slice none 0 0,.slice none 0 0,.string (⟨#[]⟩ : ByteArray)]) ?_ 0 _ rfl;(with_reducible repeat (first|refine bN ?_ _|refine bD ?_|refine bA ?_ _));exact BK418.out⟩,⟨by repeat (first|(with_reducible first|exact HB.out|apply lA|apply lN|apply lD|refine lS ?_ GE410.out|refine lS ?_ GE418.out)|exact HB.out)⟩⟩
    case rest =>
     clear HC8
     try clear c1
     try clear c2
     try clear p2
     try clear c3
     try clear c5
     try clear c6
     try clear c6b0
     try clear c6b1
     try clear c6b2
     try clear c7
     try clear c7b0
     try clear c7b1
     try clear c7b2
     try clear c16
     try clear c17
     try clear c21
     try clear c21b0
     try clear c21b1
     try clear c22
     try clear c22b0
     try clear c22b1
     try clear c23
     try clear c23b0
     try clear c23b1
     try clear hcz12_0
     try clear hcz12_1
     try clear hcz12_2
     try clear hcz18_0
     try clear hcz18_1
     try clear hcz18_2
     try clear hcz20_0
     try clear hcz20_1
     try clear hcz20_2
     obtain ⟨kq,x6_7,rfl,HA,HJ7,HO_411000,HO_411001,HO_419000,HO_419001,BK410,BK418,HB⟩:=hcut
     cases kq with
     |zero => exact absurd HA.out (by simp [laws_FnSays.j0])
     |succ kj7 =>
      have H:=HA.out
      clear HA
      simp only [laws_FnSays.j0] at H
      replace H:=Option.bind_eq_some_iff.mp H
      obtain ⟨⟨t419,t422,t425,t426⟩,A240,H⟩:=H
      replace H : ((impl_Dump.f kj7 t419 t422 t425 t426).bind fun bt428 => (if t417.toList = x6_7.toList then (if (t411.length : Int) = (t402.length : Int) then (if (t414.length : Int) = (t405.length : Int) then ((spec_Dump.f kj7 t419 t422 t425 t426).bind fun bt436 => ((spec_SameStore.f kj7 bt428.1 bt428.2.1 bt428.2.2 bt436.1 bt436.2.1 bt436.2.2).bind fun t443 => (if t443 = true then (if (t425.size : Int) > 3000 then (some ((bt428.2.1.length : Int) == (t422.length : Int))) else ((laws_begins.f t425 bt428.2.2).bind fun t444 => (if t444 = true then (some ((bt428.2.1.length : Int) == (t422.length : Int))) else (some false)))) else (some false)))) else (some false)) else (some false)) else (some false))) = some r:=H
      have A24:=aM A240
      clear A240
      replace H:=Option.bind_eq_some_iff.mp H
      obtain ⟨⟨t428,t431,t434⟩,A250,H⟩:=H
      replace H : (if t417.toList = x6_7.toList then (if (t411.length : Int) = (t402.length : Int) then (if (t414.length : Int) = (t405.length : Int) then ((spec_Dump.f kj7 t419 t422 t425 t426).bind fun bt436 => ((spec_SameStore.f kj7 t428 t431 t434 bt436.1 bt436.2.1 bt436.2.2).bind fun t443 => (if t443 = true then (if (t425.size : Int) > 3000 then (some ((t431.length : Int) == (t422.length : Int))) else ((laws_begins.f t425 t434).bind fun t444 => (if t444 = true then (some ((t431.length : Int) == (t422.length : Int))) else (some false)))) else (some false)))) else (some false)) else (some false)) else (some false)) = some r:=H
      have A25:=aM A250
      clear A250
      by_cases c26 : t417.toList = x6_7.toList
      ·rw [if_pos c26] at H
       have c26b0 : (t417.toList == x6_7.toList) = true:=beq_iff_eq.mpr c26
       have c26b1 : (t417.toList != x6_7.toList) = false:=bne_eq_false_iff_eq.mpr c26
       clear c26
       by_cases c27 : (t411.length : Int) = (t402.length : Int)
       ·rw [if_pos c27] at H
        have c27b0 : ((t411.length : Int) == (t402.length : Int)) = true:=beq_iff_eq.mpr c27
        have c27b1 : ((t411.length : Int) != (t402.length : Int)) = false:=bne_eq_false_iff_eq.mpr c27
        have c27b2 : (t411.length == t402.length) = true:=by first|simpa using c27|(simp at c27 ⊢;omega)
        clear c27
        by_cases c28 : (t414.length : Int) = (t405.length : Int)
        ·rw [if_pos c28] at H
         have c28b0 : ((t414.length : Int) == (t405.length : Int)) = true:=beq_iff_eq.mpr c28
         have c28b1 : ((t414.length : Int) != (t405.length : Int)) = false:=bne_eq_false_iff_eq.mpr c28
         have c28b2 : (t414.length == t405.length) = true:=by first|simpa using c28|(simp at c28 ⊢;omega)
         clear c28
         replace H:=Option.bind_eq_some_iff.mp H
         obtain ⟨⟨t436,t439,t442⟩,A290,H⟩:=H
         replace H : ((spec_SameStore.f kj7 t428 t431 t434 t436 t439 t442).bind fun t443 => (if t443 = true then (if (t425.size : Int) > 3000 then (some ((t431.length : Int) == (t422.length : Int))) else ((laws_begins.f t425 t434).bind fun t444 => (if t444 = true then (some ((t431.length : Int) == (t422.length : Int))) else (some false)))) else (some false))) = some r:=H
         have A29:=aM A290
         clear A290
         replace H:=Option.bind_eq_some_iff.mp H
         obtain ⟨t443,A300,H⟩:=H
         replace H : (if t443 = true then (if (t425.size : Int) > 3000 then (some ((t431.length : Int) == (t422.length : Int))) else ((laws_begins.f t425 t434).bind fun t444 => (if t444 = true then (some ((t431.length : Int) == (t422.length : Int))) else (some false)))) else (some false)) = some r:=H
         have A30:=aM A300
         clear A300
         by_cases c31 : t443 = true
         ·subst c31
          have H1 : (if (t425.size : Int) > 3000 then (some ((t431.length : Int) == (t422.length : Int))) else ((laws_begins.f t425 t434).bind fun t444 => (if t444 = true then (some ((t431.length : Int) == (t422.length : Int))) else (some false)))) = some r:=by rw [if_pos rfl] at H;exact H
          clear H
          have H:=H1
          clear H1
          by_cases c32 : (t425.size : Int) > 3000
          ·rw [if_pos c32] at H
           have c32b0 : decide (3000 < (t425.size : Int)) = true:=decide_eq_true c32
           have c32b1 : decide (3000 < t425.size) = true:=decide_eq_true (by omega)
           clear c32
           obtain rfl:=Option.some.inj H
           try go_wp2_with (first|((with_reducible refine gate_callee (f:=18) rfl ?_);refine goesL_ (some 32) rfl rfl Try.func18 (by kernel_rfl) rfl #[.slice A0 l0.length c0] rfl (by (try simp only [List.map_toArray,List.map_cons,List.map_nil]);first|done|rfl|(simp only [List.length_drop,List.length_take];rfl)) ?_;(with_reducible refine (spec_DrawDump.calls kj7 _ _ l0 t419 t422 t425 t426 _ ?side1 ?side2 A24.out).mono ?_);(case side1 => repeat (first|exact (cB HR0.out HB.out)|(with_reducible first|refine cA ?_ _|refine cN ?_ _|refine cD ?_)));(case side2 => exact HC0.out);rintro e w33 ⟨v420,v423,rfl,ho0,ho1,hb⟩;refine ⟨_,rfl,?_⟩;have n0_:=aM (rE (rZ HO_411000.out) (rS ho0) hb);have n1_:=aM (rE (rZ HO_411001.out) (rS ho1) hb);have n2_:=aM (rE (rZ HO_419000.out) (rS ho0) hb);have n3_:=aM (rE (rZ HO_419001.out) (rS ho1) hb);have n4_:=aM (rL (rW (rW ho0 (rT (rZ HO_411000.out))) (rT (rZ HO_419000.out))) (lZ (by repeat (first|(with_reducible first|exact HB.out|apply lA|apply lN|apply lD|refine lS ?_ GE410.out|refine lS ?_ GE418.out)|exact HB.out))));have n5_:=aM (rL (rW (rW ho1 (rT (rZ HO_411001.out))) (rT (rZ HO_419001.out))) (lZ (by repeat (first|(with_reducible first|exact HB.out|apply lA|apply lN|apply lD|refine lS ?_ GE410.out|refine lS ?_ GE418.out)|exact HB.out))));have n6_:=aM (bH BK410.out hb);have n7_:=aM (bH BK418.out hb);have n8_:=aM (lQ HB.out hb);clear HO_411000 HO_411001 HO_419000 HO_419001 BK410 BK418 HB;have HO_411000:=n0_;have HO_411001:=n1_;have HO_419000:=n2_;have HO_419001:=n3_;have HO421:=n4_;have HO424:=n5_;have BK410:=n6_;have BK418:=n7_;have HB:=n8_;clear n0_ n1_ n2_ n3_ n4_ n5_ n6_ n7_ n8_;(try clear hb);(try clear hb2);(try clear hk);(try clear hi);(try clear ho0);(try clear ho1))|((with_reducible refine gate_dst (N:=7) rfl ?_);(try (refine gate_guard (by rfl) ?_;dsimp only));refine box_event ?hg (N:=7) ?hd (cs:=#[.slice none 0 0,.slice none 0 0,.string (⟨#[]⟩ : ByteArray)]) (t:=35) ?hr ?_;(case hd => rfl);(case hg => rfl);(case hr => first|(go_simp;done)|(go_simp;rfl));intro gb427 hg w34 hbox hb;have n0_:=aM (rH HO_411000.out hb);have n1_:=aM (rH HO_411001.out hb);have n2_:=aM (rH HO_419000.out hb);have n3_:=aM (rH HO_419001.out hb);have n4_:=aM (rH HO421.out hb);have n5_:=aM (rH HO424.out hb);have n6_:=aM (bH BK410.out hb);have n7_:=aM (bH BK418.out hb);have n8_:=aM (lQ HB.out hb);have n9_:=aM (hbox);have n10_:=aM ((sQ hg HB.out : w.heap.size ≤ gb427));have n11_:=n10_;have n12_:=aM ((nL hg BK410.out : gb410 ≠ gb427));have n13_:=aM ((nG hg BK410.out : gb427 ≠ gb410));have n14_:=aM ((nL hg BK418.out : gb418 ≠ gb427));have n15_:=aM ((nG hg BK418.out : gb427 ≠ gb418));clear HO_411000 HO_411001 HO_419000 HO_419001 HO421 HO424 BK410 BK418 HB;have HO_411000:=n0_;have HO_411001:=n1_;have HO_419000:=n2_;have HO_419001:=n3_;have HO421:=n4_;have HO424:=n5_;have BK410:=n6_;have BK418:=n7_;have HB:=n8_;have BK427:=n9_;have GW427:=n10_;have GE427:=n11_;have NB410_427:=n12_;have NB427_410:=n13_;have NB418_427:=n14_;have NB427_418:=n15_;clear n0_ n1_ n2_ n3_ n4_ n5_ n6_ n7_ n8_ n9_ n10_ n11_ n12_ n13_ n14_ n15_ hb hbox hg;obtain ⟨Ao35,co35,eo35⟩:=Kd.R_slice HO421.out;subst eo35;have hnb36:=NB427_410.out;have hnc36:=NB410_427.out;have hnb37:=NB427_418.out;have hnc37:=NB418_427.out;obtain ⟨⟨hcz38_0,hcz38_1,hcz38_2⟩,hfz38_0,hfz38_1,hfz38_2⟩:=bC3 BK427.out;obtain ⟨Ao39,co39,eo39⟩:=Kd.R_slice HO424.out;subst eo39)|((with_reducible refine gate_callee (f:=14) rfl ?_);refine goesL_ (some 37) rfl rfl Try.func14 (by kernel_rfl) rfl #[.agg #[.slice Ao35 t419.length co35,.slice Ao39 t422.length co39,.string t425],.string t426] rfl (by (try simp only [List.map_toArray,List.map_cons,List.map_nil]);first|done|rfl|(simp only [List.length_drop,List.length_take];rfl)) ?_;(with_reducible refine (impl_Dump.calls kj7 _ _ t419 _ _ t422 t425 t426 t428 t431 t434 _ ?side1 ?side2 ?side3 ?side4 A25.out).mono ?_);(case side1 => refine (rR (e:=59) (base:=w.heap.size) (ok:=fun k_ => ((True ∧ some k_ ≠ (.slice Ao11 t402.length co11 : Value).ownBlock) ∧ some k_ ≠ (.slice Ao16 t411.length co16 : Value).ownBlock)) (n:=t419.length) (c:=co35) ?_).2.2;exact (by (with_reducible repeat (first|apply rA|apply rN|apply rD));exact (Kd.R_mono (rF (rF (rF (rY HO421.out BK427.out (by decide)) (fun _ hk => hk.2) _) (fun _ hk => hk.2) _) (fun _ hk => hk.2) _) (fun _ h_ => h_.1))));(case side2 => exact (rR HO421.out).2.1);(case side3 => refine (rR (e:=39) (base:=w.heap.size) (ok:=fun k_ => ((True ∧ some k_ ≠ (.slice Ao13 t405.length co13 : Value).ownBlock) ∧ some k_ ≠ (.slice Ao19 t414.length co19 : Value).ownBlock)) (n:=t422.length) (c:=co39) ?_).2.2;exact (by (with_reducible repeat (first|apply rA|apply rN|apply rD));exact (Kd.R_mono (rF (rF (rF (rY HO424.out BK427.out (by decide)) (fun _ hk => hk.2) _) (fun _ hk => hk.2) _) (fun _ hk => hk.2) _) (fun _ h_ => h_.1))));(case side4 => exact (rR HO424.out).2.1);rintro e w40 ⟨v429,v432,rfl,ho0,ho1,hb⟩;refine ⟨_,rfl,?_⟩;have n0_:=aM (rE (by (with_reducible repeat (first|apply rA|apply rN|apply rD));exact (Kd.R_mono (rF (rF (rF (rY HO_411000.out BK427.out (by decide)) (fun _ hk => hk.2) _) (fun _ hk => hk.2) _) (fun _ hk => hk.2) _) (fun _ h_ => h_.1))) (rS ho0) hb);have n1_:=aM (rE (by (with_reducible repeat (first|apply rA|apply rN|apply rD));exact (Kd.R_mono (rF (rF (rF (rY HO_411001.out BK427.out (by decide)) (fun _ hk => hk.2) _) (fun _ hk => hk.2) _) (fun _ hk => hk.2) _) (fun _ h_ => h_.1))) (rS ho1) hb);have n2_:=aM (rE (by (with_reducible repeat (first|apply rA|apply rN|apply rD));exact (Kd.R_mono (rF (rF (rF (rY HO_419000.out BK427.out (by decide)) (fun _ hk => hk.2) _) (fun _ hk => hk.2) _) (fun _ hk => hk.2) _) (fun _ h_ => h_.1))) (rS ho0) hb);have n3_:=aM (rE (by (with_reducible repeat (first|apply rA|apply rN|apply rD));exact (Kd.R_mono (rF (rF (rF (rY HO_419001.out BK427.out (by decide)) (fun _ hk => hk.2) _) (fun _ hk => hk.2) _) (fun _ hk => hk.2) _) (fun _ h_ => h_.1))) (rS ho1) hb);have n4_:=aM (rE (by (with_reducible repeat (first|apply rA|apply rN|apply rD));exact (Kd.R_mono (rF (rF (rF (rY HO421.out BK427.out (by decide)) (fun _ hk => hk.2) _) (fun _ hk => hk.2) _) (fun _ hk => hk.2) _) (fun _ h_ => h_.1))) (rS ho0) hb);have n5_:=aM (rE (by (with_reducible repeat (first|apply rA|apply rN|apply rD));exact (Kd.R_mono (rF (rF (rF (rY HO424.out BK427.out (by decide)) (fun _ hk => hk.2) _) (fun _ hk => hk.2) _) (fun _ hk => hk.2) _) (fun _ h_ => h_.1))) (rS ho1) hb);have n6_:=aM (rL (rW (rW (rW ho0 (rT (by (with_reducible repeat (first|apply rA|apply rN|apply rD));exact (Kd.R_mono (rF (rF (rF (rY HO_411000.out BK427.out (by decide)) (fun _ hk => hk.2) _) (fun _ hk => hk.2) _) (fun _ hk => hk.2) _) (fun _ h_ => h_.1))))) (rT (by (with_reducible repeat (first|apply rA|apply rN|apply rD));exact (Kd.R_mono (rF (rF (rF (rY HO_419000.out BK427.out (by decide)) (fun _ hk => hk.2) _) (fun _ hk => hk.2) _) (fun _ hk => hk.2) _) (fun _ h_ => h_.1))))) (rT (by (with_reducible repeat (first|apply rA|apply rN|apply rD));exact (Kd.R_mono (rF (rF (rF (rY HO421.out BK427.out (by decide)) (fun _ hk => hk.2) _) (fun _ hk => hk.2) _) (fun _ hk => hk.2) _) (fun _ h_ => h_.1))))) (lZ (by repeat (first|(with_reducible first|exact HB.out|apply lA|apply lN|apply lD|refine lS ?_ GE410.out|refine lS ?_ GE418.out|refine lS ?_ GE427.out)|exact HB.out))));have n7_:=aM (rL (rW (rW (rW ho1 (rT (by (with_reducible repeat (first|apply rA|apply rN|apply rD));exact (Kd.R_mono (rF (rF (rF (rY HO_411001.out BK427.out (by decide)) (fun _ hk => hk.2) _) (fun _ hk => hk.2) _) (fun _ hk => hk.2) _) (fun _ h_ => h_.1))))) (rT (by (with_reducible repeat (first|apply rA|apply rN|apply rD));exact (Kd.R_mono (rF (rF (rF (rY HO_419001.out BK427.out (by decide)) (fun _ hk => hk.2) _) (fun _ hk => hk.2) _) (fun _ hk => hk.2) _) (fun _ h_ => h_.1))))) (rT (by (with_reducible repeat (first|apply rA|apply rN|apply rD));exact (Kd.R_mono (rF (rF (rF (rY HO424.out BK427.out (by decide)) (fun _ hk => hk.2) _) (fun _ hk => hk.2) _) (fun _ hk => hk.2) _) (fun _ h_ => h_.1))))) (lZ (by repeat (first|(with_reducible first|exact HB.out|apply lA|apply lN|apply lD|refine lS ?_ GE410.out|refine lS ?_ GE418.out|refine lS ?_ GE427.out)|exact HB.out))));have n8_:=aM (bB (g:=gb410) (o:=.cells #[.slice Ao11 t402.length co11,.slice Ao13 t405.length co13,.string t408] 35 (0,0)) (by (with_reducible repeat (first|refine bN ?_ _|refine bD ?_|refine bA ?_ _));refine blk_far ?_ NB410_427.out _;(with_reducible repeat (first|refine bN ?_ _|refine bD ?_|refine bA ?_ _));refine blk_far ?_ NB410_427.out _;(with_reducible repeat (first|refine bN ?_ _|refine bD ?_|refine bA ?_ _));refine blk_far ?_ NB410_427.out _;(with_reducible repeat (first|refine bN ?_ _|refine bD ?_|refine bA ?_ _));exact BK410.out) hb);have n9_:=aM (bB (g:=gb418) (o:=.cells #[.slice Ao16 t411.length co16,.slice Ao19 t414.length co19,.string t417] 35 (0,0)) (by (with_reducible repeat (first|refine bN ?_ _|refine bD ?_|refine bA ?_ _));refine blk_far ?_ NB418_427.out _;(with_reducible repeat (first|refine bN ?_ _|refine bD ?_|refine bA ?_ _));refine blk_far ?_ NB418_427.out _;(with_reducible repeat (first|refine bN ?_ _|refine bD ?_|refine bA ?_ _));refine blk_far ?_ NB418_427.out _;(with_reducible repeat (first|refine bN ?_ _|refine bD ?_|refine bA ?_ _));exact BK418.out) hb);have n10_:=aM (bB (g:=gb427) (o:=.cells #[.slice Ao35 t419.length co35,.slice Ao39 t422.length co39,.string t425] 35 (0,0)) (by (with_reducible repeat (first|refine bN ?_ _|refine bD ?_|refine bA ?_ _));refine blk_put (cs:=#[.slice Ao35 t419.length co35,.slice Ao39 t422.length co39,.string (⟨#[]⟩ : ByteArray)]) ?_ 2 _ rfl;(with_reducible repeat (first|refine bN ?_ _|refine bD ?_|refine bA ?_ _));refine blk_put (cs:=#[.slice Ao35 t419.length co35,.slice none 0 0,.string (⟨#[]⟩ : ByteArray)]) ?_ 1 _ rfl;(with_reducible repeat (first|refine bN ?_ _|refine bD ?_|refine bA ?_ _));refine blk_put (cs:=#[.slice none 0 0,.slice none 0 0,.string (⟨#[]⟩ : ByteArray)]) ?_ 0 _ rfl;(with_reducible repeat (first|refine bN ?_ _|refine bD ?_|refine bA ?_ _));exact BK427.out) hb);have n11_:=aM (lQ HB.out hb);clear HO_411000 HO_411001 HO_419000 HO_419001 HO421 HO424 BK410 BK418 BK427 HB;have HO_411000:=n0_;have HO_411001:=n1_;have HO_419000:=n2_;have HO_419001:=n3_;have HO421:=n4_;have HO424:=n5_;have HO430:=n6_;have HO433:=n7_;have BK410:=n8_;have BK418:=n9_;have BK427:=n10_;have HB:=n11_;clear n0_ n1_ n2_ n3_ n4_ n5_ n6_ n7_ n8_ n9_ n10_ n11_;(try clear hb);(try clear hb2);(try clear hk);(try clear hi);(try clear ho0);(try clear ho1))|((with_reducible refine gate_dst (N:=9) rfl ?_);(try (refine gate_guard (by rfl) ?_;dsimp only));refine box_event ?hg (N:=9) ?hd (cs:=#[.slice none 0 0,.slice none 0 0,.string (⟨#[]⟩ : ByteArray)]) (t:=35) ?hr ?_;(case hd => rfl);(case hg => rfl);(case hr => first|(go_simp;done)|(go_simp;rfl));intro gb435 hg w41 hbox hb;have n0_:=aM (rH HO_411000.out hb);have n1_:=aM (rH HO_411001.out hb);have n2_:=aM (rH HO_419000.out hb);have n3_:=aM (rH HO_419001.out hb);have n4_:=aM (rH HO421.out hb);have n5_:=aM (rH HO424.out hb);have n6_:=aM (rH HO430.out hb);have n7_:=aM (rH HO433.out hb);have n8_:=aM (bH BK410.out hb);have n9_:=aM (bH BK418.out hb);have n10_:=aM (bH BK427.out hb);have n11_:=aM (lQ HB.out hb);have n12_:=aM (hbox);have n13_:=aM ((sQ hg HB.out : w.heap.size ≤ gb435));have n14_:=n13_;have n15_:=aM ((nL hg BK410.out : gb410 ≠ gb435));have n16_:=aM ((nG hg BK410.out : gb435 ≠ gb410));have n17_:=aM ((nL hg BK418.out : gb418 ≠ gb435));have n18_:=aM ((nG hg BK418.out : gb435 ≠ gb418));have n19_:=aM ((nL hg BK427.out : gb427 ≠ gb435));have n20_:=aM ((nG hg BK427.out : gb435 ≠ gb427));clear HO_411000 HO_411001 HO_419000 HO_419001 HO421 HO424 HO430 HO433 BK410 BK418 BK427 HB;have HO_411000:=n0_;have HO_411001:=n1_;have HO_419000:=n2_;have HO_419001:=n3_;have HO421:=n4_;have HO424:=n5_;have HO430:=n6_;have HO433:=n7_;have BK410:=n8_;have BK418:=n9_;have BK427:=n10_;have HB:=n11_;have BK435:=n12_;have GW435:=n13_;have GE435:=n14_;have NB410_435:=n15_;have NB435_410:=n16_;have NB418_435:=n17_;have NB435_418:=n18_;have NB427_435:=n19_;have NB435_427:=n20_;clear n0_ n1_ n2_ n3_ n4_ n5_ n6_ n7_ n8_ n9_ n10_ n11_ n12_ n13_ n14_ n15_ n16_ n17_ n18_ n19_ n20_ hb hbox hg;obtain ⟨Ao42,co42,eo42⟩:=Kd.R_slice HO430.out;subst eo42;have hnb43:=NB435_410.out;have hnc43:=NB410_435.out;have hnb44:=NB435_418.out;have hnc44:=NB418_435.out;have hnb45:=NB435_427.out;have hnc45:=NB427_435.out;obtain ⟨⟨hcz46_0,hcz46_1,hcz46_2⟩,hfz46_0,hfz46_1,hfz46_2⟩:=bC3 BK435.out;obtain ⟨Ao47,co47,eo47⟩:=Kd.R_slice HO433.out;subst eo47))
           have n0_ : Aside0 (Kd.R k59 59 (((w41.setCell ⟨gb435,0,none⟩ (.slice Ao42 t428.length co42)).setCell ⟨gb435,1,none⟩ (.slice Ao47 t431.length co47)).setCell ⟨gb435,2,none⟩ (.string t434)) w.heap.size (fun k_ => some k_ ≠ (.slice Ao16 t411.length co16 : Value).ownBlock ∧ some k_ ≠ (.slice Ao35 t419.length co35 : Value).ownBlock ∧ some k_ ≠ (.slice Ao42 t428.length co42 : Value).ownBlock) (.slice Ao11 t402.length co11) t402):=⟨by (with_reducible repeat (first|apply rA|apply rN|apply rD));exact Kd.R_mono (rF (rF (rF (rY HO_411000.out BK435.out (by decide)) (fun _ hk => hk.2) _) (fun _ hk => hk.2) _) (fun _ hk => hk.2) _) (fun _ hk => ⟨hk.1.1.1,⟨hk.1.1.2,hk.1.2⟩⟩)⟩
           have n1_ : Aside0 (Kd.R k39 39 (((w41.setCell ⟨gb435,0,none⟩ (.slice Ao42 t428.length co42)).setCell ⟨gb435,1,none⟩ (.slice Ao47 t431.length co47)).setCell ⟨gb435,2,none⟩ (.string t434)) w.heap.size (fun k_ => some k_ ≠ (.slice Ao19 t414.length co19 : Value).ownBlock ∧ some k_ ≠ (.slice Ao39 t422.length co39 : Value).ownBlock ∧ some k_ ≠ (.slice Ao47 t431.length co47 : Value).ownBlock) (.slice Ao13 t405.length co13) t405):=⟨by (with_reducible repeat (first|apply rA|apply rN|apply rD));exact Kd.R_mono (rF (rF (rF (rY HO_411001.out BK435.out (by decide)) (fun _ hk => hk.2) _) (fun _ hk => hk.2) _) (fun _ hk => hk.2) _) (fun _ hk => ⟨hk.1.1.1,⟨hk.1.1.2,hk.1.2⟩⟩)⟩
           have n2_ : Aside0 (Kd.R k59 59 (((w41.setCell ⟨gb435,0,none⟩ (.slice Ao42 t428.length co42)).setCell ⟨gb435,1,none⟩ (.slice Ao47 t431.length co47)).setCell ⟨gb435,2,none⟩ (.string t434)) w.heap.size (fun k_ => some k_ ≠ (.slice Ao11 t402.length co11 : Value).ownBlock ∧ some k_ ≠ (.slice Ao35 t419.length co35 : Value).ownBlock ∧ some k_ ≠ (.slice Ao42 t428.length co42 : Value).ownBlock) (.slice Ao16 t411.length co16) t411):=⟨by (with_reducible repeat (first|apply rA|apply rN|apply rD));exact Kd.R_mono (rF (rF (rF (rY HO_419000.out BK435.out (by decide)) (fun _ hk => hk.2) _) (fun _ hk => hk.2) _) (fun _ hk => hk.2) _) (fun _ hk => ⟨hk.1.1.1,⟨hk.1.1.2,hk.1.2⟩⟩)⟩
           have n3_ : Aside0 (Kd.R k39 39 (((w41.setCell ⟨gb435,0,none⟩ (.slice Ao42 t428.length co42)).setCell ⟨gb435,1,none⟩ (.slice Ao47 t431.length co47)).setCell ⟨gb435,2,none⟩ (.string t434)) w.heap.size (fun k_ => some k_ ≠ (.slice Ao13 t405.length co13 : Value).ownBlock ∧ some k_ ≠ (.slice Ao39 t422.length co39 : Value).ownBlock ∧ some k_ ≠ (.slice Ao47 t431.length co47 : Value).ownBlock) (.slice Ao19 t414.length co19) t414):=⟨by (with_reducible repeat (first|apply rA|apply rN|apply rD));exact Kd.R_mono (rF (rF (rF (rY HO_419001.out BK435.out (by decide)) (fun _ hk => hk.2) _) (fun _ hk => hk.2) _) (fun _ hk => hk.2) _) (fun _ hk => ⟨hk.1.1.1,⟨hk.1.1.2,hk.1.2⟩⟩)⟩
           have n4_ : Aside0 (Kd.R k59 59 (((w41.setCell ⟨gb435,0,none⟩ (.slice Ao42 t428.length co42)).setCell ⟨gb435,1,none⟩ (.slice Ao47 t431.length co47)).setCell ⟨gb435,2,none⟩ (.string t434)) w.heap.size (fun k_ => some k_ ≠ (.slice Ao11 t402.length co11 : Value).ownBlock ∧ some k_ ≠ (.slice Ao16 t411.length co16 : Value).ownBlock ∧ some k_ ≠ (.slice Ao42 t428.length co42 : Value).ownBlock) (.slice Ao35 t419.length co35) t419):=⟨by (with_reducible repeat (first|apply rA|apply rN|apply rD));exact Kd.R_mono (rF (rF (rF (rY HO421.out BK435.out (by decide)) (fun _ hk => hk.2) _) (fun _ hk => hk.2) _) (fun _ hk => hk.2) _) (fun _ hk => ⟨hk.1.1.1.2,⟨hk.1.1.2,hk.1.2⟩⟩)⟩
           have n5_ : Aside0 (Kd.R k39 39 (((w41.setCell ⟨gb435,0,none⟩ (.slice Ao42 t428.length co42)).setCell ⟨gb435,1,none⟩ (.slice Ao47 t431.length co47)).setCell ⟨gb435,2,none⟩ (.string t434)) w.heap.size (fun k_ => some k_ ≠ (.slice Ao13 t405.length co13 : Value).ownBlock ∧ some k_ ≠ (.slice Ao19 t414.length co19 : Value).ownBlock ∧ some k_ ≠ (.slice Ao47 t431.length co47 : Value).ownBlock) (.slice Ao39 t422.length co39) t422):=⟨by (with_reducible repeat (first|apply rA|apply rN|apply rD));exact Kd.R_mono (rF (rF (rF (rY HO424.out BK435.out (by decide)) (fun _ hk => hk.2) _) (fun _ hk => hk.2) _) (fun _ hk => hk.2) _) (fun _ hk => ⟨hk.1.1.1.2,⟨hk.1.1.2,hk.1.2⟩⟩)⟩
           have n6_ : Aside0 (Kd.R k59 59 (((w41.setCell ⟨gb435,0,none⟩ (.slice Ao42 t428.length co42)).setCell ⟨gb435,1,none⟩ (.slice Ao47 t431.length co47)).setCell ⟨gb435,2,none⟩ (.string t434)) w.heap.size (fun k_ => some k_ ≠ (.slice Ao11 t402.length co11 : Value).ownBlock ∧ some k_ ≠ (.slice Ao16 t411.length co16 : Value).ownBlock ∧ some k_ ≠ (.slice Ao35 t419.length co35 : Value).ownBlock) (.slice Ao42 t428.length co42) t428):=⟨by (with_reducible repeat (first|apply rA|apply rN|apply rD));exact Kd.R_mono (rF (rF (rF (rY HO430.out BK435.out (by decide)) (fun _ hk => hk.2) _) (fun _ hk => hk.2) _) (fun _ hk => hk.2) _) (fun _ hk => ⟨hk.1.1.1.2,⟨hk.1.1.2,hk.1.2⟩⟩)⟩
           have n7_ : Aside0 (Kd.R k39 39 (((w41.setCell ⟨gb435,0,none⟩ (.slice Ao42 t428.length co42)).setCell ⟨gb435,1,none⟩ (.slice Ao47 t431.length co47)).setCell ⟨gb435,2,none⟩ (.string t434)) w.heap.size (fun k_ => some k_ ≠ (.slice Ao13 t405.length co13 : Value).ownBlock ∧ some k_ ≠ (.slice Ao19 t414.length co19 : Value).ownBlock ∧ some k_ ≠ (.slice Ao39 t422.length co39 : Value).ownBlock) (.slice Ao47 t431.length co47) t431):=⟨by (with_reducible repeat (first|apply rA|apply rN|apply rD));exact Kd.R_mono (rF (rF (rF (rY HO433.out BK435.out (by decide)) (fun _ hk => hk.2) _) (fun _ hk => hk.2) _) (fun _ hk => hk.2) _) (fun _ hk => ⟨hk.1.1.1.2,⟨hk.1.1.2,hk.1.2⟩⟩)⟩
           have n8_ : Aside0 ((((w41.setCell ⟨gb435,0,none⟩ (.slice Ao42 t428.length co42)).setCell ⟨gb435,1,none⟩ (.slice Ao47 t431.length co47)).setCell ⟨gb435,2,none⟩ (.string t434)).heap[gb410]? = some (.cells #[.slice Ao11 t402.length co11,.slice Ao13 t405.length co13,.string t408] 35 (0,0))):=⟨by (with_reducible repeat (first|refine bN ?_ _|refine bD ?_|refine bA ?_ _));refine blk_far ?_ NB410_435.out _;(with_reducible repeat (first|refine bN ?_ _|refine bD ?_|refine bA ?_ _));refine blk_far ?_ NB410_435.out _;(with_reducible repeat (first|refine bN ?_ _|refine bD ?_|refine bA ?_ _));refine blk_far ?_ NB410_435.out _;(with_reducible repeat (first|refine bN ?_ _|refine bD ?_|refine bA ?_ _));exact BK410.out⟩
           have n9_ : Aside0 ((((w41.setCell ⟨gb435,0,none⟩ (.slice Ao42 t428.length co42)).setCell ⟨gb435,1,none⟩ (.slice Ao47 t431.length co47)).setCell ⟨gb435,2,none⟩ (.string t434)).heap[gb418]? = some (.cells #[.slice Ao16 t411.length co16,.slice Ao19 t414.length co19,.string t417] 35 (0,0))):=⟨by (with_reducible repeat (first|refine bN ?_ _|refine bD ?_|refine bA ?_ _));refine blk_far ?_ NB418_435.out _;(with_reducible repeat (first|refine bN ?_ _|refine bD ?_|refine bA ?_ _));refine blk_far ?_ NB418_435.out _;(with_reducible repeat (first|refine bN ?_ _|refine bD ?_|refine bA ?_ _));refine blk_far ?_ NB418_435.out _;(with_reducible repeat (first|refine bN ?_ _|refine bD ?_|refine bA ?_ _));exact BK418.out⟩
           have n10_ : Aside0 ((((w41.setCell ⟨gb435,0,none⟩ (.slice Ao42 t428.length co42)).setCell ⟨gb435,1,none⟩ (.slice Ao47 t431.length co47)).setCell ⟨gb435,2,none⟩ (.string t434)).heap[gb427]? = some (.cells #[.slice Ao35 t419.length co35,.slice Ao39 t422.length co39,.string t425] 35 (0,0))):=⟨by (with_reducible repeat (first|refine bN ?_ _|refine bD ?_|refine bA ?_ _));refine blk_far ?_ NB427_435.out _;(with_reducible repeat (first|refine bN ?_ _|refine bD ?_|refine bA ?_ _));refine blk_far ?_ NB427_435.out _;(with_reducible repeat (first|refine bN ?_ _|refine bD ?_|refine bA ?_ _));refine blk_far ?_ NB427_435.out _;(with_reducible repeat (first|refine bN ?_ _|refine bD ?_|refine bA ?_ _));exact BK427.out⟩
           have n11_ : Aside0 ((((w41.setCell ⟨gb435,0,none⟩ (.slice Ao42 t428.length co42)).setCell ⟨gb435,1,none⟩ (.slice Ao47 t431.length co47)).setCell ⟨gb435,2,none⟩ (.string t434)).heap[gb435]? = some (.cells #[.slice Ao42 t428.length co42,.slice Ao47 t431.length co47,.string t434] 35 (0,0))):=⟨by (with_reducible repeat (first|refine bN ?_ _|refine bD ?_|refine bA ?_ _));refine blk_put (cs:=#[.slice Ao42 t428.length co42,.slice Ao47 t431.length co47,.string (⟨#[]⟩ : ByteArray)]) ?_ 2 _ rfl;(with_reducible repeat (first|refine bN ?_ _|refine bD ?_|refine bA ?_ _));refine blk_put (cs:=#[.slice Ao42 t428.length co42,.slice none 0 0,.string (⟨#[]⟩ : ByteArray)]) ?_ 1 _ rfl;(with_reducible repeat (first|refine bN ?_ _|refine bD ?_|refine bA ?_ _));refine blk_put (cs:=#[.slice none 0 0,.slice none 0 0,.string (⟨#[]⟩ : ByteArray)]) ?_ 0 _ rfl;(with_reducible repeat (first|refine bN ?_ _|refine bD ?_|refine bA ?_ _));exact BK435.out⟩
           have n12_ : Aside0 (Below w.heap.size w (((w41.setCell ⟨gb435,0,none⟩ (.slice Ao42 t428.length co42)).setCell ⟨gb435,1,none⟩ (.slice Ao47 t431.length co47)).setCell ⟨gb435,2,none⟩ (.string t434))):=⟨by repeat (first|(with_reducible first|exact HB.out|apply lA|apply lN|apply lD|refine lS ?_ GE410.out|refine lS ?_ GE418.out|refine lS ?_ GE427.out|refine lS ?_ GE435.out)|exact HB.out)⟩
           (try clear HO_411000)
           (try clear HO_411001)
           (try clear HO_419000)
           (try clear HO_419001)
           (try clear HO421)
           (try clear HO424)
           (try clear HO430)
           (try clear HO433)
           (try clear BK410)
           (try clear BK418)
           (try clear BK427)
           (try clear BK435)
           (try clear HB)
           generalize (((w41.setCell ⟨gb435,0,none⟩ (.slice Ao42 t428.length co42)).setCell ⟨gb435,1,none⟩ (.slice Ao47 t431.length co47)).setCell ⟨gb435,2,none⟩ (.string t434)) = w48 at n0_ n1_ n2_ n3_ n4_ n5_ n6_ n7_ n8_ n9_ n10_ n11_ n12_ ⊢
           have HO_411000:=n0_
           have HO_411001:=n1_
           have HO_419000:=n2_
           have HO_419001:=n3_
           have HO421:=n4_
           have HO424:=n5_
           have HO430:=n6_
           have HO433:=n7_
           have BK410:=n8_
           have BK418:=n9_
           have BK427:=n10_
           have BK435:=n11_
           have HB:=n12_
           clear n0_ n1_ n2_ n3_ n4_ n5_ n6_ n7_ n8_ n9_ n10_ n11_ n12_
           have n0_:=aM (rD HO_411000.out)
           have n1_:=aM (rD HO_411001.out)
           have n2_:=aM (rD HO_419000.out)
           have n3_:=aM (rD HO_419001.out)
           have n4_:=aM (rD HO421.out)
           have n5_:=aM (rD HO424.out)
           have n6_:=aM (rD HO430.out)
           have n7_:=aM (rD HO433.out)
           have n8_:=aM (bD BK410.out)
           have n9_:=aM (bD BK418.out)
           have n10_:=aM (bD BK427.out)
           have n11_:=aM (bD BK435.out)
           have n12_:=aM (lD HB.out)
           clear HO_411000
           clear HO_411001
           clear HO_419000
           clear HO_419001
           clear HO421
           clear HO424
           clear HO430
           clear HO433
           clear BK410
           clear BK418
           clear BK427
           clear BK435
           clear HB
           have HO_411000:=n0_
           have HO_411001:=n1_
           have HO_419000:=n2_
           have HO_419001:=n3_
           have HO421:=n4_
           have HO424:=n5_
           have HO430:=n6_
           have HO433:=n7_
           have BK410:=n8_
           have BK418:=n9_
           have BK427:=n10_
           have BK435:=n11_
           have HB:=n12_
           clear n0_ n1_ n2_ n3_ n4_ n5_ n6_ n7_ n8_ n9_ n10_ n11_ n12_
           refine start_ (n:=52) (S:=fun w' => w'.cell? ⟨gb418,0,none⟩ = some (.slice Ao16 t411.length co16) ∧ w'.cell? ⟨gb418,1,none⟩ = some (.slice Ao19 t414.length co19) ∧ w'.cell? ⟨gb418,2,none⟩ = some (.string t417) ∧ w'.cell? ⟨gb410,0,none⟩ = some (.slice Ao11 t402.length co11) ∧ w'.cell? ⟨gb410,1,none⟩ = some (.slice Ao13 t405.length co13) ∧ w'.cell? ⟨gb410,2,none⟩ = some (.string t408) ∧ w'.cell? ⟨gb435,0,none⟩ = some (.slice Ao42 t428.length co42) ∧ w'.cell? ⟨gb435,1,none⟩ = some (.slice Ao47 t431.length co47) ∧ w'.cell? ⟨gb435,2,none⟩ = some (.string t434) ∧ w'.cell? ⟨gb427,0,none⟩ = some (.slice Ao35 t419.length co35) ∧ w'.cell? ⟨gb427,1,none⟩ = some (.slice Ao39 t422.length co39) ∧ w'.cell? ⟨gb427,2,none⟩ = some (.string t425)) (ds:=[]) #[bf,bf,bf,bf,bf,bf,bf,bf,bf,bf,bf,bf,bf,bf,bf,bf,bf,bf,bf,bf,bf,bf,bf,bf,bf,bf,bf,bf,bf,bf,bf,bf,bf,bf,bf,bf,bf,bf,bf,bf,bf,bf,bf,bf,bf,bf,bf,bf,bf,bf,bf,bf] (by kernel_rfl) rfl rfl ⟨(bC BK418.out 0).trans rfl,(bC BK418.out 1).trans rfl,(bC BK418.out 2).trans rfl,(bC BK410.out 0).trans rfl,(bC BK410.out 1).trans rfl,(bC BK410.out 2).trans rfl,(bC BK435.out 0).trans rfl,(bC BK435.out 1).trans rfl,(bC BK435.out 2).trans rfl,(bC BK427.out 0).trans rfl,(bC BK427.out 1).trans rfl,(bC BK427.out 2).trans rfl⟩ (fun hHeld => ?_);refine with_tabW laws_FnSays.tab10 laws_FnSays.bits10 (fun HT_ HW_ => ?_)
           generalize w48.drew = w49 at HO_411000 HO_411001 HO_419000 HO_419001 HO421 HO424 HO430 HO433 BK410 BK418 BK427 BK435 HB hHeld ⊢
           refine pQ (i:=0) (N:=some 38) (v:=?_) (a':=?_) #[bT,bf,bf,bf,bf,bf,bf,bf,bf,bf,bf,bf,bf,bf,bf,bf,bf,bf,bf,bf,bf,bf,bf,bf,bf,bf,bf,bf,bf,bf,bf,bf,bf,bf,bf,bf,bf,bf,bf,bf,bf,bf,bf,bf,bf,bf,bf,bf,bf,bf,bf,bf] (any_of HT_.out (by kernel_rfl)) ?_ ?_ ?_
           rotate_left
           ·intro w';go_simp;with_reducible rfl
           rotate_left
           ·simp only [Act.put,q_ia11,q_cz11,q_cs11,i64_w,i32_w];rfl
           refine pQ (i:=2) (N:=some 40) (v:=?_) (a':=?_) #[bT,bf,bT,bf,bf,bf,bf,bf,bf,bf,bf,bf,bf,bf,bf,bf,bf,bf,bf,bf,bf,bf,bf,bf,bf,bf,bf,bf,bf,bf,bf,bf,bf,bf,bf,bf,bf,bf,bf,bf,bf,bf,bf,bf,bf,bf,bf,bf,bf,bf,bf,bf] (any_of HT_.out (by kernel_rfl)) ?_ ?_ ?_
           rotate_left
           ·intro w';go_simp;with_reducible rfl
           rotate_left
           ·simp only [Act.put,q_ia11,q_cz11,q_cs11,i64_w,i32_w];rfl
           refine take_ (i:=1) (N:=some 39) (v:=?_) (a':=?_) #[bT,bT,bT,bf,bf,bf,bf,bf,bf,bf,bf,bf,bf,bf,bf,bf,bf,bf,bf,bf,bf,bf,bf,bf,bf,bf,bf,bf,bf,bf,bf,bf,bf,bf,bf,bf,bf,bf,bf,bf,bf,bf,bf,bf,bf,bf,bf,bf,bf,bf,bf,bf] rfl rfl (take_ofW HT_.out HW_.out (by kernel_rfl)) (fun _ _ _ h => h) (Or.inl ⟨by rfl,?_⟩) hHeld ?_ ?_
           rotate_left
           ·rintro w' ⟨s0,s1,s2,s3,s4,s5,s6,s7,s8,s9,s10,s11⟩
            go_simp
            with_reducible rfl
           rotate_left
           ·simp only [Act.put,q_ia11,q_cz11,q_cs11,i64_w,i32_w];rfl
           refine pQ (i:=3) (N:=some 41) (v:=?_) (a':=?_) #[bT,bT,bT,bT,bf,bf,bf,bf,bf,bf,bf,bf,bf,bf,bf,bf,bf,bf,bf,bf,bf,bf,bf,bf,bf,bf,bf,bf,bf,bf,bf,bf,bf,bf,bf,bf,bf,bf,bf,bf,bf,bf,bf,bf,bf,bf,bf,bf,bf,bf,bf,bf] (any_of HT_.out (by kernel_rfl)) ?_ ?_ ?_
           rotate_left
           ·intro w';go_simp;with_reducible rfl
           rotate_left
           ·simp only [Act.put,q_ia11,q_cz11,q_cs11,i64_w,i32_w];rfl
           refine pQ (i:=4) (N:=some 42) (v:=?_) (a':=?_) #[bT,bT,bT,bT,bT,bf,bf,bf,bf,bf,bf,bf,bf,bf,bf,bf,bf,bf,bf,bf,bf,bf,bf,bf,bf,bf,bf,bf,bf,bf,bf,bf,bf,bf,bf,bf,bf,bf,bf,bf,bf,bf,bf,bf,bf,bf,bf,bf,bf,bf,bf,bf] (any_of HT_.out (by kernel_rfl)) ?_ ?_ ?_
           rotate_left
           ·intro w';go_simp;with_reducible rfl
           rotate_left
           ·simp only [Act.put,q_ia11,q_cz11,q_cs11,i64_w,i32_w];rfl
           refine pQ (i:=5) (N:=some 43) (v:=?_) (a':=?_) #[bT,bT,bT,bT,bT,bT,bf,bf,bf,bf,bf,bf,bf,bf,bf,bf,bf,bf,bf,bf,bf,bf,bf,bf,bf,bf,bf,bf,bf,bf,bf,bf,bf,bf,bf,bf,bf,bf,bf,bf,bf,bf,bf,bf,bf,bf,bf,bf,bf,bf,bf,bf] (any_of HT_.out (by kernel_rfl)) ?_ ?_ ?_
           rotate_left
           ·intro w';go_simp;with_reducible rfl
           rotate_left
           ·simp only [Act.put,q_ia11,q_cz11,q_cs11,i64_w,i32_w];rfl
           refine pQ (i:=8) (N:=some 46) (v:=?_) (a':=?_) #[bT,bT,bT,bT,bT,bT,bf,bf,bT,bf,bf,bf,bf,bf,bf,bf,bf,bf,bf,bf,bf,bf,bf,bf,bf,bf,bf,bf,bf,bf,bf,bf,bf,bf,bf,bf,bf,bf,bf,bf,bf,bf,bf,bf,bf,bf,bf,bf,bf,bf,bf,bf] (any_of HT_.out (by kernel_rfl)) ?_ ?_ ?_
           rotate_left
           ·intro w';go_simp;with_reducible rfl
           rotate_left
           ·simp only [Act.put,q_ia11,q_cz11,q_cs11,i64_w,i32_w];rfl
           refine take_ (i:=6) (N:=some 44) (v:=?_) (a':=?_) #[bT,bT,bT,bT,bT,bT,bT,bf,bT,bf,bf,bf,bf,bf,bf,bf,bf,bf,bf,bf,bf,bf,bf,bf,bf,bf,bf,bf,bf,bf,bf,bf,bf,bf,bf,bf,bf,bf,bf,bf,bf,bf,bf,bf,bf,bf,bf,bf,bf,bf,bf,bf] rfl rfl (take_ofW HT_.out HW_.out (by kernel_rfl)) (fun _ _ _ h => h) (Or.inl ⟨by rfl,?_⟩) hHeld ?_ ?_
           rotate_left
           ·rintro w' ⟨s0,s1,s2,s3,s4,s5,s6,s7,s8,s9,s10,s11⟩
            go_simp
            with_reducible rfl
           rotate_left
           ·simp only [Act.put,q_ia11,q_cz11,q_cs11,i64_w,i32_w];rfl
           refine pQ (i:=7) (N:=some 45) (v:=?_) (a':=?_) #[bT,bT,bT,bT,bT,bT,bT,bT,bT,bf,bf,bf,bf,bf,bf,bf,bf,bf,bf,bf,bf,bf,bf,bf,bf,bf,bf,bf,bf,bf,bf,bf,bf,bf,bf,bf,bf,bf,bf,bf,bf,bf,bf,bf,bf,bf,bf,bf,bf,bf,bf,bf] (any_of HT_.out (by kernel_rfl)) ?_ ?_ ?_
           rotate_left
           ·intro w';go_simp;with_reducible rfl
           rotate_left
           ·simp only [Act.put,q_ia11,q_cz11,q_cs11,i64_w,i32_w];rfl
           refine take_ (i:=9) (N:=some 47) (v:=?_) (a':=?_) #[bT,bT,bT,bT,bT,bT,bT,bT,bT,bT,bf,bf,bf,bf,bf,bf,bf,bf,bf,bf,bf,bf,bf,bf,bf,bf,bf,bf,bf,bf,bf,bf,bf,bf,bf,bf,bf,bf,bf,bf,bf,bf,bf,bf,bf,bf,bf,bf,bf,bf,bf,bf] rfl rfl (take_ofW HT_.out HW_.out (by kernel_rfl)) (fun _ _ _ h => h) (Or.inl ⟨by rfl,?_⟩) hHeld ?_ ?_
           rotate_left
           ·rintro w' ⟨s0,s1,s2,s3,s4,s5,s6,s7,s8,s9,s10,s11⟩
            go_simp
            with_reducible rfl
           rotate_left
           ·simp only [Act.put,q_ia11,q_cz11,q_cs11,i64_w,i32_w];rfl
           refine pQ (i:=10) (N:=some 48) (v:=?_) (a':=?_) #[bT,bT,bT,bT,bT,bT,bT,bT,bT,bT,bT,bf,bf,bf,bf,bf,bf,bf,bf,bf,bf,bf,bf,bf,bf,bf,bf,bf,bf,bf,bf,bf,bf,bf,bf,bf,bf,bf,bf,bf,bf,bf,bf,bf,bf,bf,bf,bf,bf,bf,bf,bf] (any_of HT_.out (by kernel_rfl)) ?_ ?_ ?_
           rotate_left
           ·intro w';go_simp;with_reducible rfl
           rotate_left
           ·simp only [Act.put,q_ia11,q_cz11,q_cs11,i64_w,i32_w];rfl
           refine pQ (i:=11) (N:=some 49) (v:=?_) (a':=?_) #[bT,bT,bT,bT,bT,bT,bT,bT,bT,bT,bT,bT,bf,bf,bf,bf,bf,bf,bf,bf,bf,bf,bf,bf,bf,bf,bf,bf,bf,bf,bf,bf,bf,bf,bf,bf,bf,bf,bf,bf,bf,bf,bf,bf,bf,bf,bf,bf,bf,bf,bf,bf] (any_of HT_.out (by kernel_rfl)) ?_ ?_ ?_
           rotate_left
           ·intro w';go_simp;with_reducible rfl
           rotate_left
           ·simp only [Act.put,q_ia11,q_cz11,q_cs11,i64_w,i32_w];rfl
           refine pQ (i:=12) (N:=some 50) (v:=?_) (a':=?_) #[bT,bT,bT,bT,bT,bT,bT,bT,bT,bT,bT,bT,bT,bf,bf,bf,bf,bf,bf,bf,bf,bf,bf,bf,bf,bf,bf,bf,bf,bf,bf,bf,bf,bf,bf,bf,bf,bf,bf,bf,bf,bf,bf,bf,bf,bf,bf,bf,bf,bf,bf,bf] (any_of HT_.out (by kernel_rfl)) ?_ ?_ ?_
           rotate_left
           ·intro w';go_simp;with_reducible rfl
           rotate_left
           ·simp only [Act.put,q_ia11,q_cz11,q_cs11,i64_w,i32_w];rfl
           refine pQ (i:=13) (N:=some 51) (v:=?_) (a':=?_) #[bT,bT,bT,bT,bT,bT,bT,bT,bT,bT,bT,bT,bT,bT,bf,bf,bf,bf,bf,bf,bf,bf,bf,bf,bf,bf,bf,bf,bf,bf,bf,bf,bf,bf,bf,bf,bf,bf,bf,bf,bf,bf,bf,bf,bf,bf,bf,bf,bf,bf,bf,bf] (any_of HT_.out (by kernel_rfl)) ?_ ?_ ?_
           rotate_left
           ·intro w';go_simp;with_reducible rfl
           rotate_left
           ·simp only [Act.put,q_ia11,q_cz11,q_cs11,i64_w,i32_w];rfl
           refine pQ (i:=14) (N:=some 52) (v:=?_) (a':=?_) #[bT,bT,bT,bT,bT,bT,bT,bT,bT,bT,bT,bT,bT,bT,bT,bf,bf,bf,bf,bf,bf,bf,bf,bf,bf,bf,bf,bf,bf,bf,bf,bf,bf,bf,bf,bf,bf,bf,bf,bf,bf,bf,bf,bf,bf,bf,bf,bf,bf,bf,bf,bf] (any_of HT_.out (by kernel_rfl)) ?_ ?_ ?_
           rotate_left
           ·intro w';go_simp;with_reducible rfl
           rotate_left
           ·simp only [Act.put,q_ia11,q_cz11,q_cs11,i64_w,i32_w];rfl
           refine pQ (i:=17) (N:=some 55) (v:=?_) (a':=?_) #[bT,bT,bT,bT,bT,bT,bT,bT,bT,bT,bT,bT,bT,bT,bT,bf,bf,bT,bf,bf,bf,bf,bf,bf,bf,bf,bf,bf,bf,bf,bf,bf,bf,bf,bf,bf,bf,bf,bf,bf,bf,bf,bf,bf,bf,bf,bf,bf,bf,bf,bf,bf] (any_of HT_.out (by kernel_rfl)) ?_ ?_ ?_
           rotate_left
           ·intro w';go_simp;with_reducible rfl
           rotate_left
           ·simp only [Act.put,q_ia11,q_cz11,q_cs11,i64_w,i32_w];rfl
           refine take_ (i:=15) (N:=some 53) (v:=?_) (a':=?_) #[bT,bT,bT,bT,bT,bT,bT,bT,bT,bT,bT,bT,bT,bT,bT,bT,bf,bT,bf,bf,bf,bf,bf,bf,bf,bf,bf,bf,bf,bf,bf,bf,bf,bf,bf,bf,bf,bf,bf,bf,bf,bf,bf,bf,bf,bf,bf,bf,bf,bf,bf,bf] rfl rfl (take_ofW HT_.out HW_.out (by kernel_rfl)) (fun _ _ _ h => h) (Or.inl ⟨by rfl,?_⟩) hHeld ?_ ?_
           rotate_left
           ·rintro w' ⟨s0,s1,s2,s3,s4,s5,s6,s7,s8,s9,s10,s11⟩
            go_simp
            with_reducible rfl
           rotate_left
           ·simp only [Act.put,q_ia11,q_cz11,q_cs11,i64_w,i32_w];rfl
           refine pQ (i:=16) (N:=some 54) (v:=?_) (a':=?_) #[bT,bT,bT,bT,bT,bT,bT,bT,bT,bT,bT,bT,bT,bT,bT,bT,bT,bT,bf,bf,bf,bf,bf,bf,bf,bf,bf,bf,bf,bf,bf,bf,bf,bf,bf,bf,bf,bf,bf,bf,bf,bf,bf,bf,bf,bf,bf,bf,bf,bf,bf,bf] (any_of HT_.out (by kernel_rfl)) ?_ ?_ ?_
           rotate_left
           ·intro w';go_simp;with_reducible rfl
           rotate_left
           ·simp only [Act.put,q_ia11,q_cz11,q_cs11,i64_w,i32_w];rfl
           refine take_ (i:=18) (N:=some 56) (v:=?_) (a':=?_) #[bT,bT,bT,bT,bT,bT,bT,bT,bT,bT,bT,bT,bT,bT,bT,bT,bT,bT,bT,bf,bf,bf,bf,bf,bf,bf,bf,bf,bf,bf,bf,bf,bf,bf,bf,bf,bf,bf,bf,bf,bf,bf,bf,bf,bf,bf,bf,bf,bf,bf,bf,bf] rfl rfl (take_ofW HT_.out HW_.out (by kernel_rfl)) (fun _ _ _ h => h) (Or.inl ⟨by rfl,?_⟩) hHeld ?_ ?_
           rotate_left
           ·rintro w' ⟨s0,s1,s2,s3,s4,s5,s6,s7,s8,s9,s10,s11⟩
            go_simp
            with_reducible rfl
           rotate_left
           ·simp only [Act.put,q_ia11,q_cz11,q_cs11,i64_w,i32_w];rfl
           refine pQ (i:=19) (N:=some 57) (v:=?_) (a':=?_) #[bT,bT,bT,bT,bT,bT,bT,bT,bT,bT,bT,bT,bT,bT,bT,bT,bT,bT,bT,bT,bf,bf,bf,bf,bf,bf,bf,bf,bf,bf,bf,bf,bf,bf,bf,bf,bf,bf,bf,bf,bf,bf,bf,bf,bf,bf,bf,bf,bf,bf,bf,bf] (any_of HT_.out (by kernel_rfl)) ?_ ?_ ?_
           rotate_left
           ·intro w';go_simp;with_reducible rfl
           rotate_left
           ·simp only [Act.put,q_ia11,q_cz11,q_cs11,i64_w,i32_w];rfl
           refine pQ (i:=20) (N:=some 58) (v:=?_) (a':=?_) #[bT,bT,bT,bT,bT,bT,bT,bT,bT,bT,bT,bT,bT,bT,bT,bT,bT,bT,bT,bT,bT,bf,bf,bf,bf,bf,bf,bf,bf,bf,bf,bf,bf,bf,bf,bf,bf,bf,bf,bf,bf,bf,bf,bf,bf,bf,bf,bf,bf,bf,bf,bf] (any_of HT_.out (by kernel_rfl)) ?_ ?_ ?_
           rotate_left
           ·intro w';go_simp;with_reducible rfl
           rotate_left
           ·simp only [Act.put,q_ia11,q_cz11,q_cs11,i64_w,i32_w];rfl
           refine pQ (i:=21) (N:=some 59) (v:=?_) (a':=?_) #[bT,bT,bT,bT,bT,bT,bT,bT,bT,bT,bT,bT,bT,bT,bT,bT,bT,bT,bT,bT,bT,bT,bf,bf,bf,bf,bf,bf,bf,bf,bf,bf,bf,bf,bf,bf,bf,bf,bf,bf,bf,bf,bf,bf,bf,bf,bf,bf,bf,bf,bf,bf] (any_of HT_.out (by kernel_rfl)) ?_ ?_ ?_
           rotate_left
           ·intro w';go_simp;with_reducible rfl
           rotate_left
           ·simp only [Act.put,q_ia11,q_cz11,q_cs11,i64_w,i32_w];rfl
           refine pQ (i:=22) (N:=some 60) (v:=?_) (a':=?_) #[bT,bT,bT,bT,bT,bT,bT,bT,bT,bT,bT,bT,bT,bT,bT,bT,bT,bT,bT,bT,bT,bT,bT,bf,bf,bf,bf,bf,bf,bf,bf,bf,bf,bf,bf,bf,bf,bf,bf,bf,bf,bf,bf,bf,bf,bf,bf,bf,bf,bf,bf,bf] (any_of HT_.out (by kernel_rfl)) ?_ ?_ ?_
           rotate_left
           ·intro w';go_simp;with_reducible rfl
           rotate_left
           ·simp only [Act.put,q_ia11,q_cz11,q_cs11,i64_w,i32_w];rfl
           refine pQ (i:=25) (N:=some 63) (v:=?_) (a':=?_) #[bT,bT,bT,bT,bT,bT,bT,bT,bT,bT,bT,bT,bT,bT,bT,bT,bT,bT,bT,bT,bT,bT,bT,bf,bf,bT,bf,bf,bf,bf,bf,bf,bf,bf,bf,bf,bf,bf,bf,bf,bf,bf,bf,bf,bf,bf,bf,bf,bf,bf,bf,bf] (any_of HT_.out (by kernel_rfl)) ?_ ?_ ?_
           rotate_left
           ·intro w';go_simp;with_reducible rfl
           rotate_left
           ·simp only [Act.put,q_ia11,q_cz11,q_cs11,i64_w,i32_w];rfl
           refine take_ (i:=23) (N:=some 61) (v:=?_) (a':=?_) #[bT,bT,bT,bT,bT,bT,bT,bT,bT,bT,bT,bT,bT,bT,bT,bT,bT,bT,bT,bT,bT,bT,bT,bT,bf,bT,bf,bf,bf,bf,bf,bf,bf,bf,bf,bf,bf,bf,bf,bf,bf,bf,bf,bf,bf,bf,bf,bf,bf,bf,bf,bf] rfl rfl (take_ofW HT_.out HW_.out (by kernel_rfl)) (fun _ _ _ h => h) (Or.inl ⟨by rfl,?_⟩) hHeld ?_ ?_
           rotate_left
           ·rintro w' ⟨s0,s1,s2,s3,s4,s5,s6,s7,s8,s9,s10,s11⟩
            go_simp
            with_reducible rfl
           rotate_left
           ·simp only [Act.put,q_ia11,q_cz11,q_cs11,i64_w,i32_w];rfl
           refine take_ (i:=24) (N:=some 62) (v:=?_) (a':=?_) #[bT,bT,bT,bT,bT,bT,bT,bT,bT,bT,bT,bT,bT,bT,bT,bT,bT,bT,bT,bT,bT,bT,bT,bT,bT,bT,bf,bf,bf,bf,bf,bf,bf,bf,bf,bf,bf,bf,bf,bf,bf,bf,bf,bf,bf,bf,bf,bf,bf,bf,bf,bf] rfl rfl (take_ofW HT_.out HW_.out (by kernel_rfl)) (fun _ _ _ h => h) (Or.inl ⟨by rfl,?_⟩) hHeld ?_ ?_
           rotate_left
           ·rintro w' ⟨s0,s1,s2,s3,s4,s5,s6,s7,s8,s9,s10,s11⟩
            go_simp
            with_reducible rfl
           rotate_left
           ·simp only [Act.put,q_ia11,q_cz11,q_cs11,i64_w,i32_w];rfl
           refine one_ (i:=26) (N:=some 64) #[bT,bT,bT,bT,bT,bT,bT,bT,bT,bT,bT,bT,bT,bT,bT,bT,bT,bT,bT,bT,bT,bT,bT,bT,bT,bT,bT,bf,bf,bf,bf,bf,bf,bf,bf,bf,bf,bf,bf,bf,bf,bf,bf,bf,bf,bf,bf,bf,bf,bf,bf,bf] rfl rfl (one_of HT_.out (by kernel_rfl)) (by decide) (fun K hK => ?_)
           refine goes_ Try.func20 (by kernel_rfl) rfl #[.agg #[.slice Ao35 t419.length co35,.slice Ao39 t422.length co39,.string t425],.string t426] (by rfl) rfl rfl (by (try simp only [List.map_toArray,List.map_cons,List.map_nil]);first|done|rfl|(simp only [List.length_drop,List.length_take];rfl)) ?_
           with_reducible refine (spec_Dump.calls kj7 _ _ t419 _ _ t422 t425 t426 t436 t439 t442 _ ?side1 ?side2 ?side3 ?side4 A29.out).mono ?_
           (case side1 => repeat (first|exact (rR HO421.out).2.2|(with_reducible first|refine cA ?_ _|refine cN ?_ _|refine cD ?_)))
           (case side2 => exact (rR HO421.out).2.1)
           (case side3 => repeat (first|exact (rR HO424.out).2.2|(with_reducible first|refine cA ?_ _|refine cN ?_ _|refine cD ?_)))
           (case side4 => exact (rR HO424.out).2.1)
           rintro e w50 ⟨v437,v440,rfl,ho0,ho1,hb⟩
           refine ⟨_,rfl,?_⟩
           have n0_:=aM (rE (rZ HO_411000.out) (rS ho0) hb)
           have n1_:=aM (rE (rZ HO_411001.out) (rS ho1) hb)
           have n2_:=aM (rE (rZ HO_419000.out) (rS ho0) hb)
           have n3_:=aM (rE (rZ HO_419001.out) (rS ho1) hb)
           have n4_:=aM (rE (rZ HO421.out) (rS ho0) hb)
           have n5_:=aM (rE (rZ HO424.out) (rS ho1) hb)
           have n6_:=aM (rE (rZ HO430.out) (rS ho0) hb)
           have n7_:=aM (rE (rZ HO433.out) (rS ho1) hb)
           have n8_:=aM (rL (rW (rW (rW (rW ho0 (rT (rZ HO_411000.out))) (rT (rZ HO_419000.out))) (rT (rZ HO421.out))) (rT (rZ HO430.out))) (lZ (by repeat (first|(with_reducible first|exact HB.out|apply lA|apply lN|apply lD|refine lS ?_ GE410.out|refine lS ?_ GE418.out|refine lS ?_ GE427.out|refine lS ?_ GE435.out)|exact HB.out))))
           have n9_:=aM (rL (rW (rW (rW (rW ho1 (rT (rZ HO_411001.out))) (rT (rZ HO_419001.out))) (rT (rZ HO424.out))) (rT (rZ HO433.out))) (lZ (by repeat (first|(with_reducible first|exact HB.out|apply lA|apply lN|apply lD|refine lS ?_ GE410.out|refine lS ?_ GE418.out|refine lS ?_ GE427.out|refine lS ?_ GE435.out)|exact HB.out))))
           have n10_:=aM (bH BK410.out hb)
           have n11_:=aM (bH BK418.out hb)
           have n12_:=aM (bH BK427.out hb)
           have n13_:=aM (bH BK435.out hb)
           have n14_:=aM (lQ HB.out hb)
           clear HO_411000
           clear HO_411001
           clear HO_419000
           clear HO_419001
           clear HO421
           clear HO424
           clear HO430
           clear HO433
           clear BK410
           clear BK418
           clear BK427
           clear BK435
           clear HB
           have HO_411000:=n0_
           have HO_411001:=n1_
           have HO_419000:=n2_
           have HO_419001:=n3_
           have HO421:=n4_
           have HO424:=n5_
           have HO430:=n6_
           have HO433:=n7_
           have HO438:=n8_
           have HO441:=n9_
           have BK410:=n10_
           have BK418:=n11_
           have BK427:=n12_
           have BK435:=n13_
           have HB:=n14_
           clear n0_ n1_ n2_ n3_ n4_ n5_ n6_ n7_ n8_ n9_ n10_ n11_ n12_ n13_ n14_
           (try clear hb)
           (try clear hb2)
           (try clear hk)
           (try clear hi)
           (try clear ho0)
           (try clear ho1)
           obtain ⟨Ao51,co51,eo51⟩:=Kd.R_slice HO438.out
           (first|subst eo51|(injection eo51 with f1_ f2_ f3_;have f4_:=f1_.symm;have f5_:=f3_.symm;clear f1_ f2_ f3_;subst f4_;subst f5_))
           obtain ⟨Ao52,co52,eo52⟩:=Kd.R_slice HO441.out
           (first|subst eo52|(injection eo52 with f1_ f2_ f3_;have f4_:=f1_.symm;have f5_:=f3_.symm;clear f1_ f2_ f3_;subst f4_;subst f5_))
           refine hK.out _ _ ⟨(bC BK418.out 0).trans rfl,(bC BK418.out 1).trans rfl,(bC BK418.out 2).trans rfl,(bC BK410.out 0).trans rfl,(bC BK410.out 1).trans rfl,(bC BK410.out 2).trans rfl,(bC BK435.out 0).trans rfl,(bC BK435.out 1).trans rfl,(bC BK435.out 2).trans rfl,(bC BK427.out 0).trans rfl,(bC BK427.out 1).trans rfl,(bC BK427.out 2).trans rfl⟩ (fun hHeld => ?_)
           clear hK K
           refine norm_ (a':=?_) ?_ ?_
           rotate_left
           ·show Act.put _ (some 64) _ = _
            simp only [Act.put,q_ia11,q_cz11,q_cs11,i64_w,i32_w]
            rfl
           refine one_ (i:=27) (N:=some 65) #[bT,bT,bT,bT,bT,bT,bT,bT,bT,bT,bT,bT,bT,bT,bT,bT,bT,bT,bT,bT,bT,bT,bT,bT,bT,bT,bT,bT,bf,bf,bf,bf,bf,bf,bf,bf,bf,bf,bf,bf,bf,bf,bf,bf,bf,bf,bf,bf,bf,bf,bf,bf] rfl rfl (one_of HT_.out (by kernel_rfl)) (by decide) (fun K hK => ?_)
           refine goes_ Try.func19 (by kernel_rfl) rfl #[.agg #[.slice Ao42 t428.length co42,.slice Ao47 t431.length co47,.string t434],.agg #[.slice Ao51 t436.length co51,.slice Ao52 t439.length co52,.string t442]] (by rfl) rfl rfl (by (try simp only [List.map_toArray,List.map_cons,List.map_nil]);first|done|rfl|(simp only [List.length_drop,List.length_take];rfl)) ?_
           with_reducible refine (spec_SameStore.calls kj7 _ _ t428 _ _ t431 t434 _ _ t436 _ _ t439 t442 true _ ?side1 ?side2 ?side3 ?side4 ?side5 ?side6 ?side7 ?side8 A30.out).mono ?_
           (case side1 => repeat (first|exact (rR HO430.out).2.2|(with_reducible first|refine cA ?_ _|refine cN ?_ _|refine cD ?_)))
           (case side2 => exact (rR HO430.out).2.1)
           (case side3 => repeat (first|exact (rR HO433.out).2.2|(with_reducible first|refine cA ?_ _|refine cN ?_ _|refine cD ?_)))
           (case side4 => exact (rR HO433.out).2.1)
           (case side5 => repeat (first|exact (rR HO438.out).2.2|(with_reducible first|refine cA ?_ _|refine cN ?_ _|refine cD ?_)))
           (case side6 => exact (rR HO438.out).2.1)
           (case side7 => repeat (first|exact (rR HO441.out).2.2|(with_reducible first|refine cA ?_ _|refine cN ?_ _|refine cD ?_)))
           (case side8 => exact (rR HO441.out).2.1)
           rintro e w53 ⟨rfl,hb⟩
           refine ⟨_,rfl,?_⟩
           have n0_:=aM (rH HO_411000.out hb)
           have n1_:=aM (rH HO_411001.out hb)
           have n2_:=aM (rH HO_419000.out hb)
           have n3_:=aM (rH HO_419001.out hb)
           have n4_:=aM (rH HO421.out hb)
           have n5_:=aM (rH HO424.out hb)
           have n6_:=aM (rH HO430.out hb)
           have n7_:=aM (rH HO433.out hb)
           have n8_:=aM (rH HO438.out hb)
           have n9_:=aM (rH HO441.out hb)
           have n10_:=aM (bH BK410.out hb)
           have n11_:=aM (bH BK418.out hb)
           have n12_:=aM (bH BK427.out hb)
           have n13_:=aM (bH BK435.out hb)
           have n14_:=aM (lQ HB.out hb)
           clear HO_411000
           clear HO_411001
           clear HO_419000
           clear HO_419001
           clear HO421
           clear HO424
           clear HO430
           clear HO433
           clear HO438
           clear HO441
           clear BK410
           clear BK418
           clear BK427
           clear BK435
           clear HB
           have HO_411000:=n0_
           have HO_411001:=n1_
           have HO_419000:=n2_
           have HO_419001:=n3_
           have HO421:=n4_
           have HO424:=n5_
           have HO430:=n6_
           have HO433:=n7_
           have HO438:=n8_
           have HO441:=n9_
           have BK410:=n10_
           have BK418:=n11_
           have BK427:=n12_
           have BK435:=n13_
           have HB:=n14_
           clear n0_ n1_ n2_ n3_ n4_ n5_ n6_ n7_ n8_ n9_ n10_ n11_ n12_ n13_ n14_
           (try clear hb)
           (try clear hb2)
           (try clear hk)
           (try clear hi)
           refine hK.out _ _ ⟨(bC BK418.out 0).trans rfl,(bC BK418.out 1).trans rfl,(bC BK418.out 2).trans rfl,(bC BK410.out 0).trans rfl,(bC BK410.out 1).trans rfl,(bC BK410.out 2).trans rfl,(bC BK435.out 0).trans rfl,(bC BK435.out 1).trans rfl,(bC BK435.out 2).trans rfl,(bC BK427.out 0).trans rfl,(bC BK427.out 1).trans rfl,(bC BK427.out 2).trans rfl⟩ (fun hHeld => ?_)
           clear hK K
           refine norm_ (a':=?_) ?_ ?_
           rotate_left
           ·show Act.put _ (some 65) _ = _
            simp only [Act.put,q_ia11,q_cz11,q_cs11,i64_w,i32_w]
            rfl
           refine pQ (i:=28) (N:=some 66) (v:=?_) (a':=?_) #[bT,bT,bT,bT,bT,bT,bT,bT,bT,bT,bT,bT,bT,bT,bT,bT,bT,bT,bT,bT,bT,bT,bT,bT,bT,bT,bT,bT,bT,bf,bf,bf,bf,bf,bf,bf,bf,bf,bf,bf,bf,bf,bf,bf,bf,bf,bf,bf,bf,bf,bf,bf] (any_of HT_.out (by kernel_rfl)) ?_ ?_ ?_
           rotate_left
           ·intro w';go_simp;with_reducible rfl
           rotate_left
           ·simp only [Act.put,q_ia11,q_cz11,q_cs11,i64_w,i32_w];rfl
           refine pQ (i:=29) (N:=some 67) (v:=?_) (a':=?_) #[bT,bT,bT,bT,bT,bT,bT,bT,bT,bT,bT,bT,bT,bT,bT,bT,bT,bT,bT,bT,bT,bT,bT,bT,bT,bT,bT,bT,bT,bT,bf,bf,bf,bf,bf,bf,bf,bf,bf,bf,bf,bf,bf,bf,bf,bf,bf,bf,bf,bf,bf,bf] (any_of HT_.out (by kernel_rfl)) ?_ ?_ ?_
           rotate_left
           ·intro w';go_simp;with_reducible rfl
           rotate_left
           ·simp only [Act.put,q_ia11,q_cz11,q_cs11,i64_w,i32_w];rfl
           refine pQ (i:=30) (N:=some 68) (v:=?_) (a':=?_) #[bT,bT,bT,bT,bT,bT,bT,bT,bT,bT,bT,bT,bT,bT,bT,bT,bT,bT,bT,bT,bT,bT,bT,bT,bT,bT,bT,bT,bT,bT,bT,bf,bf,bf,bf,bf,bf,bf,bf,bf,bf,bf,bf,bf,bf,bf,bf,bf,bf,bf,bf,bf] (any_of HT_.out (by kernel_rfl)) ?_ ?_ ?_
           rotate_left
           ·intro w';go_simp;with_reducible rfl
           rotate_left
           ·simp only [Act.put,q_ia11,q_cz11,q_cs11,i64_w,i32_w];rfl
           refine take_ (i:=31) (N:=some 69) (v:=?_) (a':=?_) #[bT,bT,bT,bT,bT,bT,bT,bT,bT,bT,bT,bT,bT,bT,bT,bT,bT,bT,bT,bT,bT,bT,bT,bT,bT,bT,bT,bT,bT,bT,bT,bT,bf,bf,bf,bf,bf,bf,bf,bf,bf,bf,bf,bf,bf,bf,bf,bf,bf,bf,bf,bf] rfl rfl (take_ofW HT_.out HW_.out (by kernel_rfl)) (fun _ _ _ h => h) (Or.inl ⟨by rfl,?_⟩) hHeld ?_ ?_
           rotate_left
           ·rintro w' ⟨s0,s1,s2,s3,s4,s5,s6,s7,s8,s9,s10,s11⟩
            go_simp
            with_reducible rfl
           rotate_left
           ·simp only [Act.put,q_ia11,q_cz11,q_cs11,i64_w,i32_w];rfl
           refine pQ (i:=32) (N:=some 70) (v:=?_) (a':=?_) #[bT,bT,bT,bT,bT,bT,bT,bT,bT,bT,bT,bT,bT,bT,bT,bT,bT,bT,bT,bT,bT,bT,bT,bT,bT,bT,bT,bT,bT,bT,bT,bT,bT,bf,bf,bf,bf,bf,bf,bf,bf,bf,bf,bf,bf,bf,bf,bf,bf,bf,bf,bf] (any_of HT_.out (by kernel_rfl)) ?_ ?_ ?_
           rotate_left
           ·intro w';go_simp;with_reducible rfl
           rotate_left
           ·simp only [Act.put,q_ia11,q_cz11,q_cs11,i64_w,i32_w];rfl
           refine pQ (i:=33) (N:=some 71) (v:=?_) (a':=?_) #[bT,bT,bT,bT,bT,bT,bT,bT,bT,bT,bT,bT,bT,bT,bT,bT,bT,bT,bT,bT,bT,bT,bT,bT,bT,bT,bT,bT,bT,bT,bT,bT,bT,bT,bf,bf,bf,bf,bf,bf,bf,bf,bf,bf,bf,bf,bf,bf,bf,bf,bf,bf] (any_of HT_.out (by kernel_rfl)) ?_ ?_ ?_
           rotate_left
           ·intro w';go_simp;with_reducible rfl
           rotate_left
           ·simp only [Act.put,q_ia11,q_cz11,q_cs11,i64_w,i32_w];rfl
           refine pQ (i:=34) (N:=some 72) (v:=?_) (a':=?_) #[bT,bT,bT,bT,bT,bT,bT,bT,bT,bT,bT,bT,bT,bT,bT,bT,bT,bT,bT,bT,bT,bT,bT,bT,bT,bT,bT,bT,bT,bT,bT,bT,bT,bT,bT,bf,bf,bf,bf,bf,bf,bf,bf,bf,bf,bf,bf,bf,bf,bf,bf,bf] (any_of HT_.out (by kernel_rfl)) ?_ ?_ ?_
           rotate_left
           ·intro w';go_simp;with_reducible rfl
           rotate_left
           ·simp only [Act.put,q_ia11,q_cz11,q_cs11,i64_w,i32_w];rfl
           refine pure_ (i:=35) (N:=some 73) (v:=undef) (a':=?_) #[bT,bT,bT,bT,bT,bT,bT,bT,bT,bT,bT,bT,bT,bT,bT,bT,bT,bT,bT,bT,bT,bT,bT,bT,bT,bT,bT,bT,bT,bT,bT,bT,bT,bT,bT,bT,bf,bf,bf,bf,bf,bf,bf,bf,bf,bf,bf,bf,bf,bf,bf,bf] rfl rfl (any_of HT_.out (by kernel_rfl)) (fun _ _ _ h => h) (Or.inr ⟨by rfl,rfl⟩) ?_ ?_
           rotate_left
           ·simp only [Act.put,q_ia11,q_cz11,q_cs11,i64_w,i32_w];rfl
           refine pure_ (i:=36) (N:=some 74) (v:=undef) (a':=?_) #[bT,bT,bT,bT,bT,bT,bT,bT,bT,bT,bT,bT,bT,bT,bT,bT,bT,bT,bT,bT,bT,bT,bT,bT,bT,bT,bT,bT,bT,bT,bT,bT,bT,bT,bT,bT,bT,bf,bf,bf,bf,bf,bf,bf,bf,bf,bf,bf,bf,bf,bf,bf] rfl rfl (any_of HT_.out (by kernel_rfl)) (fun _ _ _ h => h) (Or.inr ⟨by rfl,rfl⟩) ?_ ?_
           rotate_left
           ·simp only [Act.put,q_ia11,q_cz11,q_cs11,i64_w,i32_w];rfl
           refine pure_ (i:=37) (N:=some 75) (v:=undef) (a':=?_) #[bT,bT,bT,bT,bT,bT,bT,bT,bT,bT,bT,bT,bT,bT,bT,bT,bT,bT,bT,bT,bT,bT,bT,bT,bT,bT,bT,bT,bT,bT,bT,bT,bT,bT,bT,bT,bT,bT,bf,bf,bf,bf,bf,bf,bf,bf,bf,bf,bf,bf,bf,bf] rfl rfl (any_of HT_.out (by kernel_rfl)) (fun _ _ _ h => h) (Or.inr ⟨by rfl,rfl⟩) ?_ ?_
           rotate_left
           ·simp only [Act.put,q_ia11,q_cz11,q_cs11,i64_w,i32_w];rfl
           refine pure_ (i:=38) (N:=some 76) (v:=undef) (a':=?_) #[bT,bT,bT,bT,bT,bT,bT,bT,bT,bT,bT,bT,bT,bT,bT,bT,bT,bT,bT,bT,bT,bT,bT,bT,bT,bT,bT,bT,bT,bT,bT,bT,bT,bT,bT,bT,bT,bT,bT,bf,bf,bf,bf,bf,bf,bf,bf,bf,bf,bf,bf,bf] rfl rfl (any_of HT_.out (by kernel_rfl)) (fun _ _ _ h => h) (Or.inr ⟨by rfl,rfl⟩) ?_ ?_
           rotate_left
           ·simp only [Act.put,q_ia11,q_cz11,q_cs11,i64_w,i32_w];rfl
           refine pure_ (i:=39) (N:=some 77) (v:=undef) (a':=?_) #[bT,bT,bT,bT,bT,bT,bT,bT,bT,bT,bT,bT,bT,bT,bT,bT,bT,bT,bT,bT,bT,bT,bT,bT,bT,bT,bT,bT,bT,bT,bT,bT,bT,bT,bT,bT,bT,bT,bT,bT,bf,bf,bf,bf,bf,bf,bf,bf,bf,bf,bf,bf] rfl rfl (any_of HT_.out (by kernel_rfl)) (fun _ _ _ h => h) (Or.inr ⟨by rfl,rfl⟩) ?_ ?_
           rotate_left
           ·simp only [Act.put,q_ia11,q_cz11,q_cs11,i64_w,i32_w];rfl
           refine pQ (i:=40) (N:=some 78) (v:=?_) (a':=?_) #[bT,bT,bT,bT,bT,bT,bT,bT,bT,bT,bT,bT,bT,bT,bT,bT,bT,bT,bT,bT,bT,bT,bT,bT,bT,bT,bT,bT,bT,bT,bT,bT,bT,bT,bT,bT,bT,bT,bT,bT,bT,bf,bf,bf,bf,bf,bf,bf,bf,bf,bf,bf] (any_of HT_.out (by kernel_rfl)) ?_ ?_ ?_
           rotate_left
           ·intro w';go_simp;with_reducible rfl
           rotate_left
           ·simp only [Act.put,q_ia11,q_cz11,q_cs11,i64_w,i32_w];rfl
           refine pQ (i:=41) (N:=some 79) (v:=?_) (a':=?_) #[bT,bT,bT,bT,bT,bT,bT,bT,bT,bT,bT,bT,bT,bT,bT,bT,bT,bT,bT,bT,bT,bT,bT,bT,bT,bT,bT,bT,bT,bT,bT,bT,bT,bT,bT,bT,bT,bT,bT,bT,bT,bT,bf,bf,bf,bf,bf,bf,bf,bf,bf,bf] (any_of HT_.out (by kernel_rfl)) ?_ ?_ ?_
           rotate_left
           ·intro w';go_simp;with_reducible rfl
           rotate_left
           ·simp only [Act.put,q_ia11,q_cz11,q_cs11,i64_w,i32_w];rfl
           refine pQ (i:=42) (N:=some 80) (v:=?_) (a':=?_) #[bT,bT,bT,bT,bT,bT,bT,bT,bT,bT,bT,bT,bT,bT,bT,bT,bT,bT,bT,bT,bT,bT,bT,bT,bT,bT,bT,bT,bT,bT,bT,bT,bT,bT,bT,bT,bT,bT,bT,bT,bT,bT,bT,bf,bf,bf,bf,bf,bf,bf,bf,bf] (any_of HT_.out (by kernel_rfl)) ?_ ?_ ?_
           rotate_left
           ·intro w';go_simp;with_reducible rfl
           rotate_left
           ·simp only [Act.put,q_ia11,q_cz11,q_cs11,i64_w,i32_w];rfl
           refine pQ (i:=43) (N:=some 81) (v:=?_) (a':=?_) #[bT,bT,bT,bT,bT,bT,bT,bT,bT,bT,bT,bT,bT,bT,bT,bT,bT,bT,bT,bT,bT,bT,bT,bT,bT,bT,bT,bT,bT,bT,bT,bT,bT,bT,bT,bT,bT,bT,bT,bT,bT,bT,bT,bT,bf,bf,bf,bf,bf,bf,bf,bf] (any_of HT_.out (by kernel_rfl)) ?_ ?_ ?_
           rotate_left
           ·intro w';go_simp;with_reducible rfl
           rotate_left
           ·simp only [Act.put,q_ia11,q_cz11,q_cs11,i64_w,i32_w];rfl
           refine pQ (i:=46) (N:=some 84) (v:=?_) (a':=?_) #[bT,bT,bT,bT,bT,bT,bT,bT,bT,bT,bT,bT,bT,bT,bT,bT,bT,bT,bT,bT,bT,bT,bT,bT,bT,bT,bT,bT,bT,bT,bT,bT,bT,bT,bT,bT,bT,bT,bT,bT,bT,bT,bT,bT,bf,bf,bT,bf,bf,bf,bf,bf] (any_of HT_.out (by kernel_rfl)) ?_ ?_ ?_
           rotate_left
           ·intro w';go_simp;with_reducible rfl
           rotate_left
           ·simp only [Act.put,q_ia11,q_cz11,q_cs11,i64_w,i32_w];rfl
           refine take_ (i:=44) (N:=some 82) (v:=?_) (a':=?_) #[bT,bT,bT,bT,bT,bT,bT,bT,bT,bT,bT,bT,bT,bT,bT,bT,bT,bT,bT,bT,bT,bT,bT,bT,bT,bT,bT,bT,bT,bT,bT,bT,bT,bT,bT,bT,bT,bT,bT,bT,bT,bT,bT,bT,bT,bf,bT,bf,bf,bf,bf,bf] rfl rfl (take_ofW HT_.out HW_.out (by kernel_rfl)) (fun _ _ _ h => h) (Or.inl ⟨by rfl,?_⟩) hHeld ?_ ?_
           rotate_left
           ·rintro w' ⟨s0,s1,s2,s3,s4,s5,s6,s7,s8,s9,s10,s11⟩
            go_simp
            with_reducible rfl
           rotate_left
           ·simp only [Act.put,q_ia11,q_cz11,q_cs11,i64_w,i32_w];rfl
           refine pQ (i:=45) (N:=some 83) (v:=?_) (a':=?_) #[bT,bT,bT,bT,bT,bT,bT,bT,bT,bT,bT,bT,bT,bT,bT,bT,bT,bT,bT,bT,bT,bT,bT,bT,bT,bT,bT,bT,bT,bT,bT,bT,bT,bT,bT,bT,bT,bT,bT,bT,bT,bT,bT,bT,bT,bT,bT,bf,bf,bf,bf,bf] (any_of HT_.out (by kernel_rfl)) ?_ ?_ ?_
           rotate_left
           ·intro w';go_simp;with_reducible rfl
           rotate_left
           ·simp only [Act.put,q_ia11,q_cz11,q_cs11,i64_w,i32_w];rfl
           refine take_ (i:=47) (N:=some 85) (v:=?_) (a':=?_) #[bT,bT,bT,bT,bT,bT,bT,bT,bT,bT,bT,bT,bT,bT,bT,bT,bT,bT,bT,bT,bT,bT,bT,bT,bT,bT,bT,bT,bT,bT,bT,bT,bT,bT,bT,bT,bT,bT,bT,bT,bT,bT,bT,bT,bT,bT,bT,bT,bf,bf,bf,bf] rfl rfl (take_ofW HT_.out HW_.out (by kernel_rfl)) (fun _ _ _ h => h) (Or.inl ⟨by rfl,?_⟩) hHeld ?_ ?_
           rotate_left
           ·rintro w' ⟨s0,s1,s2,s3,s4,s5,s6,s7,s8,s9,s10,s11⟩
            go_simp
            with_reducible rfl
           rotate_left
           ·simp only [Act.put,q_ia11,q_cz11,q_cs11,i64_w,i32_w];rfl
           refine pQ (i:=48) (N:=some 86) (v:=?_) (a':=?_) #[bT,bT,bT,bT,bT,bT,bT,bT,bT,bT,bT,bT,bT,bT,bT,bT,bT,bT,bT,bT,bT,bT,bT,bT,bT,bT,bT,bT,bT,bT,bT,bT,bT,bT,bT,bT,bT,bT,bT,bT,bT,bT,bT,bT,bT,bT,bT,bT,bT,bf,bf,bf] (any_of HT_.out (by kernel_rfl)) ?_ ?_ ?_
           rotate_left
           ·intro w';go_simp;with_reducible rfl
           rotate_left
           ·simp only [Act.put,q_ia11,q_cz11,q_cs11,i64_w,i32_w];rfl
           refine pQ (i:=49) (N:=some 87) (v:=?_) (a':=?_) #[bT,bT,bT,bT,bT,bT,bT,bT,bT,bT,bT,bT,bT,bT,bT,bT,bT,bT,bT,bT,bT,bT,bT,bT,bT,bT,bT,bT,bT,bT,bT,bT,bT,bT,bT,bT,bT,bT,bT,bT,bT,bT,bT,bT,bT,bT,bT,bT,bT,bT,bf,bf] (any_of HT_.out (by kernel_rfl)) ?_ ?_ ?_
           rotate_left
           ·intro w';go_simp;with_reducible rfl
           rotate_left
           ·simp only [Act.put,q_ia11,q_cz11,q_cs11,i64_w,i32_w];rfl
           refine pQ (i:=50) (N:=some 88) (v:=?_) (a':=?_) #[bT,bT,bT,bT,bT,bT,bT,bT,bT,bT,bT,bT,bT,bT,bT,bT,bT,bT,bT,bT,bT,bT,bT,bT,bT,bT,bT,bT,bT,bT,bT,bT,bT,bT,bT,bT,bT,bT,bT,bT,bT,bT,bT,bT,bT,bT,bT,bT,bT,bT,bT,bf] (any_of HT_.out (by kernel_rfl)) ?_ ?_ ?_
           rotate_left
           ·intro w';go_simp;with_reducible rfl
           rotate_left
           ·simp only [Act.put,q_ia11,q_cz11,q_cs11,i64_w,i32_w];rfl
           refine pQ (i:=51) (N:=some 2) (v:=?_) (a':=?_) #[bT,bT,bT,bT,bT,bT,bT,bT,bT,bT,bT,bT,bT,bT,bT,bT,bT,bT,bT,bT,bT,bT,bT,bT,bT,bT,bT,bT,bT,bT,bT,bT,bT,bT,bT,bT,bT,bT,bT,bT,bT,bT,bT,bT,bT,bT,bT,bT,bT,bT,bT,bT] (any_of HT_.out (by kernel_rfl)) ?_ ?_ ?_
           rotate_left
           ·intro w';go_simp;with_reducible rfl
           rotate_left
           ·simp only [Act.put,q_ia11,q_cz11,q_cs11,i64_w,i32_w];rfl
           refine done_ (done_of HT_.out (by kernel_rfl)) ?_
           try go_wp2
           go_ret
           exact ⟨by first|rfl|(simp [errW_none,errW_some] <;> rfl)|(simp [*,errW_none,errW_some] <;> rfl),by repeat (first|(with_reducible first|exact HB.out|apply lA|apply lN|apply lD|refine lS ?_ GE410.out|refine lS ?_ GE418.out|refine lS ?_ GE427.out|refine lS ?_ GE435.out)|exact HB.out)⟩
          ·rw [if_neg c32] at H
           have c32b0 : decide (3000 < (t425.size : Int)) = false:=decide_eq_false c32
           have c32b1 : decide (3000 < t425.size) = false:=decide_eq_false (by omega)
           clear c32
           replace H:=Option.bind_eq_some_iff.mp H
           obtain ⟨t444,A540,H⟩:=H
           replace H : (if t444 = true then (some ((t431.length : Int) == (t422.length : Int))) else (some false)) = some r:=H
           have A54:=aM A540
           clear A540
           by_cases c55 : t444 = true
           ·subst c55
            have H1 : (some ((t431.length : Int) == (t422.length : Int))) = some r:=by rw [if_pos rfl] at H;exact H
            clear H
            have H:=H1
            clear H1
            obtain rfl:=Option.some.inj H
            try go_wp2_with (first|((with_reducible refine gate_callee (f:=18) rfl ?_);refine goesL_ (some 32) rfl rfl Try.func18 (by kernel_rfl) rfl #[.slice A0 l0.length c0] rfl (by (try simp only [List.map_toArray,List.map_cons,List.map_nil]);first|done|rfl|(simp only [List.length_drop,List.length_take];rfl)) ?_;(with_reducible refine (spec_DrawDump.calls kj7 _ _ l0 t419 t422 t425 t426 _ ?side1 ?side2 A24.out).mono ?_);(case side1 => repeat (first|exact (cB HR0.out HB.out)|(with_reducible first|refine cA ?_ _|refine cN ?_ _|refine cD ?_)));(case side2 => exact HC0.out);rintro e w56 ⟨v420,v423,rfl,ho0,ho1,hb⟩;refine ⟨_,rfl,?_⟩;have n0_:=aM (rE (rZ HO_411000.out) (rS ho0) hb);have n1_:=aM (rE (rZ HO_411001.out) (rS ho1) hb);have n2_:=aM (rE (rZ HO_419000.out) (rS ho0) hb);have n3_:=aM (rE (rZ HO_419001.out) (rS ho1) hb);have n4_:=aM (rL (rW (rW ho0 (rT (rZ HO_411000.out))) (rT (rZ HO_419000.out))) (lZ (by repeat (first|(with_reducible first|exact HB.out|apply lA|apply lN|apply lD|refine lS ?_ GE410.out|refine lS ?_ GE418.out)|exact HB.out))));have n5_:=aM (rL (rW (rW ho1 (rT (rZ HO_411001.out))) (rT (rZ HO_419001.out))) (lZ (by repeat (first|(with_reducible first|exact HB.out|apply lA|apply lN|apply lD|refine lS ?_ GE410.out|refine lS ?_ GE418.out)|exact HB.out))));have n6_:=aM (bH BK410.out hb);have n7_:=aM (bH BK418.out hb);have n8_:=aM (lQ HB.out hb);clear HO_411000 HO_411001 HO_419000 HO_419001 BK410 BK418 HB;have HO_411000:=n0_;have HO_411001:=n1_;have HO_419000:=n2_;have HO_419001:=n3_;have HO421:=n4_;have HO424:=n5_;have BK410:=n6_;have BK418:=n7_;have HB:=n8_;clear n0_ n1_ n2_ n3_ n4_ n5_ n6_ n7_ n8_;(try clear hb);(try clear hb2);(try clear hk);(try clear hi);(try clear ho0);(try clear ho1))|((with_reducible refine gate_dst (N:=7) rfl ?_);(try (refine gate_guard (by rfl) ?_;dsimp only));refine box_event ?hg (N:=7) ?hd (cs:=#[.slice none 0 0,.slice none 0 0,.string (⟨#[]⟩ : ByteArray)]) (t:=35) ?hr ?_;(case hd => rfl);(case hg => rfl);(case hr => first|(go_simp;done)|(go_simp;rfl));intro gb427 hg w57 hbox hb;have n0_:=aM (rH HO_411000.out hb);have n1_:=aM (rH HO_411001.out hb);have n2_:=aM (rH HO_419000.out hb);have n3_:=aM (rH HO_419001.out hb);have n4_:=aM (rH HO421.out hb);have n5_:=aM (rH HO424.out hb);have n6_:=aM (bH BK410.out hb);have n7_:=aM (bH BK418.out hb);have n8_:=aM (lQ HB.out hb);have n9_:=aM (hbox);have n10_:=aM ((sQ hg HB.out : w.heap.size ≤ gb427));have n11_:=n10_;have n12_:=aM ((nL hg BK410.out : gb410 ≠ gb427));have n13_:=aM ((nG hg BK410.out : gb427 ≠ gb410));have n14_:=aM ((nL hg BK418.out : gb418 ≠ gb427));have n15_:=aM ((nG hg BK418.out : gb427 ≠ gb418));clear HO_411000 HO_411001 HO_419000 HO_419001 HO421 HO424 BK410 BK418 HB;have HO_411000:=n0_;have HO_411001:=n1_;have HO_419000:=n2_;have HO_419001:=n3_;have HO421:=n4_;have HO424:=n5_;have BK410:=n6_;have BK418:=n7_;have HB:=n8_;have BK427:=n9_;have GW427:=n10_;have GE427:=n11_;have NB410_427:=n12_;have NB427_410:=n13_;have NB418_427:=n14_;have NB427_418:=n15_;clear n0_ n1_ n2_ n3_ n4_ n5_ n6_ n7_ n8_ n9_ n10_ n11_ n12_ n13_ n14_ n15_ hb hbox hg;obtain ⟨Ao58,co58,eo58⟩:=Kd.R_slice HO421.out;subst eo58;have hnb59:=NB427_410.out;have hnc59:=NB410_427.out;have hnb60:=NB427_418.out;have hnc60:=NB418_427.out;obtain ⟨⟨hcz61_0,hcz61_1,hcz61_2⟩,hfz61_0,hfz61_1,hfz61_2⟩:=bC3 BK427.out;obtain ⟨Ao62,co62,eo62⟩:=Kd.R_slice HO424.out;subst eo62)|((with_reducible refine gate_callee (f:=14) rfl ?_);refine goesL_ (some 37) rfl rfl Try.func14 (by kernel_rfl) rfl #[.agg #[.slice Ao58 t419.length co58,.slice Ao62 t422.length co62,.string t425],.string t426] rfl (by (try simp only [List.map_toArray,List.map_cons,List.map_nil]);first|done|rfl|(simp only [List.length_drop,List.length_take];rfl)) ?_;(with_reducible refine (impl_Dump.calls kj7 _ _ t419 _ _ t422 t425 t426 t428 t431 t434 _ ?side1 ?side2 ?side3 ?side4 A25.out).mono ?_);(case side1 => refine (rR (e:=59) (base:=w.heap.size) (ok:=fun k_ => ((True ∧ some k_ ≠ (.slice Ao11 t402.length co11 : Value).ownBlock) ∧ some k_ ≠ (.slice Ao16 t411.length co16 : Value).ownBlock)) (n:=t419.length) (c:=co58) ?_).2.2;exact (by (with_reducible repeat (first|apply rA|apply rN|apply rD));exact (Kd.R_mono (rF (rF (rF (rY HO421.out BK427.out (by decide)) (fun _ hk => hk.2) _) (fun _ hk => hk.2) _) (fun _ hk => hk.2) _) (fun _ h_ => h_.1))));(case side2 => exact (rR HO421.out).2.1);(case side3 => refine (rR (e:=39) (base:=w.heap.size) (ok:=fun k_ => ((True ∧ some k_ ≠ (.slice Ao13 t405.length co13 : Value).ownBlock) ∧ some k_ ≠ (.slice Ao19 t414.length co19 : Value).ownBlock)) (n:=t422.length) (c:=co62) ?_).2.2;exact (by (with_reducible repeat (first|apply rA|apply rN|apply rD));exact (Kd.R_mono (rF (rF (rF (rY HO424.out BK427.out (by decide)) (fun _ hk => hk.2) _) (fun _ hk => hk.2) _) (fun _ hk => hk.2) _) (fun _ h_ => h_.1))));(case side4 => exact (rR HO424.out).2.1);rintro e w63 ⟨v429,v432,rfl,ho0,ho1,hb⟩;refine ⟨_,rfl,?_⟩;have n0_:=aM (rE (by (with_reducible repeat (first|apply rA|apply rN|apply rD));exact (Kd.R_mono (rF (rF (rF (rY HO_411000.out BK427.out (by decide)) (fun _ hk => hk.2) _) (fun _ hk => hk.2) _) (fun _ hk => hk.2) _) (fun _ h_ => h_.1))) (rS ho0) hb);have n1_:=aM (rE (by (with_reducible repeat (first|apply rA|apply rN|apply rD));exact (Kd.R_mono (rF (rF (rF (rY HO_411001.out BK427.out (by decide)) (fun _ hk => hk.2) _) (fun _ hk => hk.2) _) (fun _ hk => hk.2) _) (fun _ h_ => h_.1))) (rS ho1) hb);have n2_:=aM (rE (by (with_reducible repeat (first|apply rA|apply rN|apply rD));exact (Kd.R_mono (rF (rF (rF (rY HO_419000.out BK427.out (by decide)) (fun _ hk => hk.2) _) (fun _ hk => hk.2) _) (fun _ hk => hk.2) _) (fun _ h_ => h_.1))) (rS ho0) hb);have n3_:=aM (rE (by (with_reducible repeat (first|apply rA|apply rN|apply rD));exact (Kd.R_mono (rF (rF (rF (rY HO_419001.out BK427.out (by decide)) (fun _ hk => hk.2) _) (fun _ hk => hk.2) _) (fun _ hk => hk.2) _) (fun _ h_ => h_.1))) (rS ho1) hb);have n4_:=aM (rE (by (with_reducible repeat (first|apply rA|apply rN|apply rD));exact (Kd.R_mono (rF (rF (rF (rY HO421.out BK427.out (by decide)) (fun _ hk => hk.2) _) (fun _ hk => hk.2) _) (fun _ hk => hk.2) _) (fun _ h_ => h_.1))) (rS ho0) hb);have n5_:=aM (rE (by (with_reducible repeat (first|apply rA|apply rN|apply rD));exact (Kd.R_mono (rF (rF (rF (rY HO424.out BK427.out (by decide)) (fun _ hk => hk.2) _) (fun _ hk => hk.2) _) (fun _ hk => hk.2) _) (fun _ h_ => h_.1))) (rS ho1) hb);have n6_:=aM (rL (rW (rW (rW ho0 (rT (by (with_reducible repeat (first|apply rA|apply rN|apply rD));exact (Kd.R_mono (rF (rF (rF (rY HO_411000.out BK427.out (by decide)) (fun _ hk => hk.2) _) (fun _ hk => hk.2) _) (fun _ hk => hk.2) _) (fun _ h_ => h_.1))))) (rT (by (with_reducible repeat (first|apply rA|apply rN|apply rD));exact (Kd.R_mono (rF (rF (rF (rY HO_419000.out BK427.out (by decide)) (fun _ hk => hk.2) _) (fun _ hk => hk.2) _) (fun _ hk => hk.2) _) (fun _ h_ => h_.1))))) (rT (by (with_reducible repeat (first|apply rA|apply rN|apply rD));exact (Kd.R_mono (rF (rF (rF (rY HO421.out BK427.out (by decide)) (fun _ hk => hk.2) _) (fun _ hk => hk.2) _) (fun _ hk => hk.2) _) (fun _ h_ => h_.1))))) (lZ (by repeat (first|(with_reducible first|exact HB.out|apply lA|apply lN|apply lD|refine lS ?_ GE410.out|refine lS ?_ GE418.out|refine lS ?_ GE427.out)|exact HB.out))));have n7_:=aM (rL (rW (rW (rW ho1 (rT (by (with_reducible repeat (first|apply rA|apply rN|apply rD));exact (Kd.R_mono (rF (rF (rF (rY HO_411001.out BK427.out (by decide)) (fun _ hk => hk.2) _) (fun _ hk => hk.2) _) (fun _ hk => hk.2) _) (fun _ h_ => h_.1))))) (rT (by (with_reducible repeat (first|apply rA|apply rN|apply rD));exact (Kd.R_mono (rF (rF (rF (rY HO_419001.out BK427.out (by decide)) (fun _ hk => hk.2) _) (fun _ hk => hk.2) _) (fun _ hk => hk.2) _) (fun _ h_ => h_.1))))) (rT (by (with_reducible repeat (first|apply rA|apply rN|apply rD));exact (Kd.R_mono (rF (rF (rF (rY HO424.out BK427.out (by decide)) (fun _ hk => hk.2) _) (fun _ hk => hk.2) _) (fun _ hk => hk.2) _) (fun _ h_ => h_.1))))) (lZ (by repeat (first|(with_reducible first|exact HB.out|apply lA|apply lN|apply lD|refine lS ?_ GE410.out|refine lS ?_ GE418.out|refine lS ?_ GE427.out)|exact HB.out))));have n8_:=aM (bB (g:=gb410) (o:=.cells #[.slice Ao11 t402.length co11,.slice Ao13 t405.length co13,.string t408] 35 (0,0)) (by (with_reducible repeat (first|refine bN ?_ _|refine bD ?_|refine bA ?_ _));refine blk_far ?_ NB410_427.out _;(with_reducible repeat (first|refine bN ?_ _|refine bD ?_|refine bA ?_ _));refine blk_far ?_ NB410_427.out _;(with_reducible repeat (first|refine bN ?_ _|refine bD ?_|refine bA ?_ _));refine blk_far ?_ NB410_427.out _;(with_reducible repeat (first|refine bN ?_ _|refine bD ?_|refine bA ?_ _));exact BK410.out) hb);have n9_:=aM (bB (g:=gb418) (o:=.cells #[.slice Ao16 t411.length co16,.slice Ao19 t414.length co19,.string t417] 35 (0,0)) (by (with_reducible repeat (first|refine bN ?_ _|refine bD ?_|refine bA ?_ _));refine blk_far ?_ NB418_427.out _;(with_reducible repeat (first|refine bN ?_ _|refine bD ?_|refine bA ?_ _));refine blk_far ?_ NB418_427.out _;(with_reducible repeat (first|refine bN ?_ _|refine bD ?_|refine bA ?_ _));refine blk_far ?_ NB418_427.out _;(with_reducible repeat (first|refine bN ?_ _|refine bD ?_|refine bA ?_ _));exact BK418.out) hb);have n10_:=aM (bB (g:=gb427) (o:=.cells #[.slice Ao58 t419.length co58,.slice Ao62 t422.length co62,.string t425] 35 (0,0)) (by (with_reducible repeat (first|refine bN ?_ _|refine bD ?_|refine bA ?_ _));refine blk_put (cs:=#[.slice Ao58 t419.length co58,.slice Ao62 t422.length co62,.string (⟨#[]⟩ : ByteArray)]) ?_ 2 _ rfl;(with_reducible repeat (first|refine bN ?_ _|refine bD ?_|refine bA ?_ _));refine blk_put (cs:=#[.slice Ao58 t419.length co58,.slice none 0 0,.string (⟨#[]⟩ : ByteArray)]) ?_ 1 _ rfl;(with_reducible repeat (first|refine bN ?_ _|refine bD ?_|refine bA ?_ _));refine blk_put (cs:=#[.slice none 0 0,.slice none 0 0,.string (⟨#[]⟩ : ByteArray)]) ?_ 0 _ rfl;(with_reducible repeat (first|refine bN ?_ _|refine bD ?_|refine bA ?_ _));exact BK427.out) hb);have n11_:=aM (lQ HB.out hb);clear HO_411000 HO_411001 HO_419000 HO_419001 HO421 HO424 BK410 BK418 BK427 HB;have HO_411000:=n0_;have HO_411001:=n1_;have HO_419000:=n2_;have HO_419001:=n3_;have HO421:=n4_;have HO424:=n5_;have HO430:=n6_;have HO433:=n7_;have BK410:=n8_;have BK418:=n9_;have BK427:=n10_;have HB:=n11_;clear n0_ n1_ n2_ n3_ n4_ n5_ n6_ n7_ n8_ n9_ n10_ n11_;(try clear hb);(try clear hb2);(try clear hk);(try clear hi);(try clear ho0);(try clear ho1))|((with_reducible refine gate_dst (N:=9) rfl ?_);(try (refine gate_guard (by rfl) ?_;dsimp only));refine box_event ?hg (N:=9) ?hd (cs:=#[.slice none 0 0,.slice none 0 0,.string (⟨#[]⟩ : ByteArray)]) (t:=35) ?hr ?_;(case hd => rfl);(case hg => rfl);(case hr => first|(go_simp;done)|(go_simp;rfl));intro gb435 hg w64 hbox hb;have n0_:=aM (rH HO_411000.out hb);have n1_:=aM (rH HO_411001.out hb);have n2_:=aM (rH HO_419000.out hb);have n3_:=aM (rH HO_419001.out hb);have n4_:=aM (rH HO421.out hb);have n5_:=aM (rH HO424.out hb);have n6_:=aM (rH HO430.out hb);have n7_:=aM (rH HO433.out hb);have n8_:=aM (bH BK410.out hb);have n9_:=aM (bH BK418.out hb);have n10_:=aM (bH BK427.out hb);have n11_:=aM (lQ HB.out hb);have n12_:=aM (hbox);have n13_:=aM ((sQ hg HB.out : w.heap.size ≤ gb435));have n14_:=n13_;have n15_:=aM ((nL hg BK410.out : gb410 ≠ gb435));have n16_:=aM ((nG hg BK410.out : gb435 ≠ gb410));have n17_:=aM ((nL hg BK418.out : gb418 ≠ gb435));have n18_:=aM ((nG hg BK418.out : gb435 ≠ gb418));have n19_:=aM ((nL hg BK427.out : gb427 ≠ gb435));have n20_:=aM ((nG hg BK427.out : gb435 ≠ gb427));clear HO_411000 HO_411001 HO_419000 HO_419001 HO421 HO424 HO430 HO433 BK410 BK418 BK427 HB;have HO_411000:=n0_;have HO_411001:=n1_;have HO_419000:=n2_;have HO_419001:=n3_;have HO421:=n4_;have HO424:=n5_;have HO430:=n6_;have HO433:=n7_;have BK410:=n8_;have BK418:=n9_;have BK427:=n10_;have HB:=n11_;have BK435:=n12_;have GW435:=n13_;have GE435:=n14_;have NB410_435:=n15_;have NB435_410:=n16_;have NB418_435:=n17_;have NB435_418:=n18_;have NB427_435:=n19_;have NB435_427:=n20_;clear n0_ n1_ n2_ n3_ n4_ n5_ n6_ n7_ n8_ n9_ n10_ n11_ n12_ n13_ n14_ n15_ n16_ n17_ n18_ n19_ n20_ hb hbox hg;obtain ⟨Ao65,co65,eo65⟩:=Kd.R_slice HO430.out;subst eo65;have hnb66:=NB435_410.out;have hnc66:=NB410_435.out;have hnb67:=NB435_418.out;have hnc67:=NB418_435.out;have hnb68:=NB435_427.out;have hnc68:=NB427_435.out;obtain ⟨⟨hcz69_0,hcz69_1,hcz69_2⟩,hfz69_0,hfz69_1,hfz69_2⟩:=bC3 BK435.out;obtain ⟨Ao70,co70,eo70⟩:=Kd.R_slice HO433.out;subst eo70))
            have n0_ : Aside0 (Kd.R k59 59 (((w64.setCell ⟨gb435,0,none⟩ (.slice Ao65 t428.length co65)).setCell ⟨gb435,1,none⟩ (.slice Ao70 t431.length co70)).setCell ⟨gb435,2,none⟩ (.string t434)) w.heap.size (fun k_ => some k_ ≠ (.slice Ao16 t411.length co16 : Value).ownBlock ∧ some k_ ≠ (.slice Ao58 t419.length co58 : Value).ownBlock ∧ some k_ ≠ (.slice Ao65 t428.length co65 : Value).ownBlock) (.slice Ao11 t402.length co11) t402):=⟨by (with_reducible repeat (first|apply rA|apply rN|apply rD));exact Kd.R_mono (rF (rF (rF (rY HO_411000.out BK435.out (by decide)) (fun _ hk => hk.2) _) (fun _ hk => hk.2) _) (fun _ hk => hk.2) _) (fun _ hk => ⟨hk.1.1.1,⟨hk.1.1.2,hk.1.2⟩⟩)⟩
            have n1_ : Aside0 (Kd.R k39 39 (((w64.setCell ⟨gb435,0,none⟩ (.slice Ao65 t428.length co65)).setCell ⟨gb435,1,none⟩ (.slice Ao70 t431.length co70)).setCell ⟨gb435,2,none⟩ (.string t434)) w.heap.size (fun k_ => some k_ ≠ (.slice Ao19 t414.length co19 : Value).ownBlock ∧ some k_ ≠ (.slice Ao62 t422.length co62 : Value).ownBlock ∧ some k_ ≠ (.slice Ao70 t431.length co70 : Value).ownBlock) (.slice Ao13 t405.length co13) t405):=⟨by (with_reducible repeat (first|apply rA|apply rN|apply rD));exact Kd.R_mono (rF (rF (rF (rY HO_411001.out BK435.out (by decide)) (fun _ hk => hk.2) _) (fun _ hk => hk.2) _) (fun _ hk => hk.2) _) (fun _ hk => ⟨hk.1.1.1,⟨hk.1.1.2,hk.1.2⟩⟩)⟩
            have n2_ : Aside0 (Kd.R k59 59 (((w64.setCell ⟨gb435,0,none⟩ (.slice Ao65 t428.length co65)).setCell ⟨gb435,1,none⟩ (.slice Ao70 t431.length co70)).setCell ⟨gb435,2,none⟩ (.string t434)) w.heap.size (fun k_ => some k_ ≠ (.slice Ao11 t402.length co11 : Value).ownBlock ∧ some k_ ≠ (.slice Ao58 t419.length co58 : Value).ownBlock ∧ some k_ ≠ (.slice Ao65 t428.length co65 : Value).ownBlock) (.slice Ao16 t411.length co16) t411):=⟨by (with_reducible repeat (first|apply rA|apply rN|apply rD));exact Kd.R_mono (rF (rF (rF (rY HO_419000.out BK435.out (by decide)) (fun _ hk => hk.2) _) (fun _ hk => hk.2) _) (fun _ hk => hk.2) _) (fun _ hk => ⟨hk.1.1.1,⟨hk.1.1.2,hk.1.2⟩⟩)⟩
            have n3_ : Aside0 (Kd.R k39 39 (((w64.setCell ⟨gb435,0,none⟩ (.slice Ao65 t428.length co65)).setCell ⟨gb435,1,none⟩ (.slice Ao70 t431.length co70)).setCell ⟨gb435,2,none⟩ (.string t434)) w.heap.size (fun k_ => some k_ ≠ (.slice Ao13 t405.length co13 : Value).ownBlock ∧ some k_ ≠ (.slice Ao62 t422.length co62 : Value).ownBlock ∧ some k_ ≠ (.slice Ao70 t431.length co70 : Value).ownBlock) (.slice Ao19 t414.length co19) t414):=⟨by (with_reducible repeat (first|apply rA|apply rN|apply rD));exact Kd.R_mono (rF (rF (rF (rY HO_419001.out BK435.out (by decide)) (fun _ hk => hk.2) _) (fun _ hk => hk.2) _) (fun _ hk => hk.2) _) (fun _ hk => ⟨hk.1.1.1,⟨hk.1.1.2,hk.1.2⟩⟩)⟩
            have n4_ : Aside0 (Kd.R k59 59 (((w64.setCell ⟨gb435,0,none⟩ (.slice Ao65 t428.length co65)).setCell ⟨gb435,1,none⟩ (.slice Ao70 t431.length co70)).setCell ⟨gb435,2,none⟩ (.string t434)) w.heap.size (fun k_ => some k_ ≠ (.slice Ao11 t402.length co11 : Value).ownBlock ∧ some k_ ≠ (.slice Ao16 t411.length co16 : Value).ownBlock ∧ some k_ ≠ (.slice Ao65 t428.length co65 : Value).ownBlock) (.slice Ao58 t419.length co58) t419):=⟨by (with_reducible repeat (first|apply rA|apply rN|apply rD));exact Kd.R_mono (rF (rF (rF (rY HO421.out BK435.out (by decide)) (fun _ hk => hk.2) _) (fun _ hk => hk.2) _) (fun _ hk => hk.2) _) (fun _ hk => ⟨hk.1.1.1.2,⟨hk.1.1.2,hk.1.2⟩⟩)⟩
            have n5_ : Aside0 (Kd.R k39 39 (((w64.setCell ⟨gb435,0,none⟩ (.slice Ao65 t428.length co65)).setCell ⟨gb435,1,none⟩ (.slice Ao70 t431.length co70)).setCell ⟨gb435,2,none⟩ (.string t434)) w.heap.size (fun k_ => some k_ ≠ (.slice Ao13 t405.length co13 : Value).ownBlock ∧ some k_ ≠ (.slice Ao19 t414.length co19 : Value).ownBlock ∧ some k_ ≠ (.slice Ao70 t431.length co70 : Value).ownBlock) (.slice Ao62 t422.length co62) t422):=⟨by (with_reducible repeat (first|apply rA|apply rN|apply rD));exact Kd.R_mono (rF (rF (rF (rY HO424.out BK435.out (by decide)) (fun _ hk => hk.2) _) (fun _ hk => hk.2) _) (fun _ hk => hk.2) _) (fun _ hk => ⟨hk.1.1.1.2,⟨hk.1.1.2,hk.1.2⟩⟩)⟩
            have n6_ : Aside0 (Kd.R k59 59 (((w64.setCell ⟨gb435,0,none⟩ (.slice Ao65 t428.length co65)).setCell ⟨gb435,1,none⟩ (.slice Ao70 t431.length co70)).setCell ⟨gb435,2,none⟩ (.string t434)) w.heap.size (fun k_ => some k_ ≠ (.slice Ao11 t402.length co11 : Value).ownBlock ∧ some k_ ≠ (.slice Ao16 t411.length co16 : Value).ownBlock ∧ some k_ ≠ (.slice Ao58 t419.length co58 : Value).ownBlock) (.slice Ao65 t428.length co65) t428):=⟨by (with_reducible repeat (first|apply rA|apply rN|apply rD));exact Kd.R_mono (rF (rF (rF (rY HO430.out BK435.out (by decide)) (fun _ hk => hk.2) _) (fun _ hk => hk.2) _) (fun _ hk => hk.2) _) (fun _ hk => ⟨hk.1.1.1.2,⟨hk.1.1.2,hk.1.2⟩⟩)⟩
            have n7_ : Aside0 (Kd.R k39 39 (((w64.setCell ⟨gb435,0,none⟩ (.slice Ao65 t428.length co65)).setCell ⟨gb435,1,none⟩ (.slice Ao70 t431.length co70)).setCell ⟨gb435,2,none⟩ (.string t434)) w.heap.size (fun k_ => some k_ ≠ (.slice Ao13 t405.length co13 : Value).ownBlock ∧ some k_ ≠ (.slice Ao19 t414.length co19 : Value).ownBlock ∧ some k_ ≠ (.slice Ao62 t422.length co62 : Value).ownBlock) (.slice Ao70 t431.length co70) t431):=⟨by (with_reducible repeat (first|apply rA|apply rN|apply rD));exact Kd.R_mono (rF (rF (rF (rY HO433.out BK435.out (by decide)) (fun _ hk => hk.2) _) (fun _ hk => hk.2) _) (fun _ hk => hk.2) _) (fun _ hk => ⟨hk.1.1.1.2,⟨hk.1.1.2,hk.1.2⟩⟩)⟩
            have n8_ : Aside0 ((((w64.setCell ⟨gb435,0,none⟩ (.slice Ao65 t428.length co65)).setCell ⟨gb435,1,none⟩ (.slice Ao70 t431.length co70)).setCell ⟨gb435,2,none⟩ (.string t434)).heap[gb410]? = some (.cells #[.slice Ao11 t402.length co11,.slice Ao13 t405.length co13,.string t408] 35 (0,0))):=⟨by (with_reducible repeat (first|refine bN ?_ _|refine bD ?_|refine bA ?_ _));refine blk_far ?_ NB410_435.out _;(with_reducible repeat (first|refine bN ?_ _|refine bD ?_|refine bA ?_ _));refine blk_far ?_ NB410_435.out _;(with_reducible repeat (first|refine bN ?_ _|refine bD ?_|refine bA ?_ _));refine blk_far ?_ NB410_435.out _;(with_reducible repeat (first|refine bN ?_ _|refine bD ?_|refine bA ?_ _));exact BK410.out⟩
            have n9_ : Aside0 ((((w64.setCell ⟨gb435,0,none⟩ (.slice Ao65 t428.length co65)).setCell ⟨gb435,1,none⟩ (.slice Ao70 t431.length co70)).setCell ⟨gb435,2,none⟩ (.string t434)).heap[gb418]? = some (.cells #[.slice Ao16 t411.length co16,.slice Ao19 t414.length co19,.string t417] 35 (0,0))):=⟨by (with_reducible repeat (first|refine bN ?_ _|refine bD ?_|refine bA ?_ _));refine blk_far ?_ NB418_435.out _;(with_reducible repeat (first|refine bN ?_ _|refine bD ?_|refine bA ?_ _));refine blk_far ?_ NB418_435.out _;(with_reducible repeat (first|refine bN ?_ _|refine bD ?_|refine bA ?_ _));refine blk_far ?_ NB418_435.out _;(with_reducible repeat (first|refine bN ?_ _|refine bD ?_|refine bA ?_ _));exact BK418.out⟩
            have n10_ : Aside0 ((((w64.setCell ⟨gb435,0,none⟩ (.slice Ao65 t428.length co65)).setCell ⟨gb435,1,none⟩ (.slice Ao70 t431.length co70)).setCell ⟨gb435,2,none⟩ (.string t434)).heap[gb427]? = some (.cells #[.slice Ao58 t419.length co58,.slice Ao62 t422.length co62,.string t425] 35 (0,0))):=⟨by (with_reducible repeat (first|refine bN ?_ _|refine bD ?_|refine bA ?_ _));refine blk_far ?_ NB427_435.out _;(with_reducible repeat (first|refine bN ?_ _|refine bD ?_|refine bA ?_ _));refine blk_far ?_ NB427_435.out _;(with_reducible repeat (first|refine bN ?_ _|refine bD ?_|refine bA ?_ _));refine blk_far ?_ NB427_435.out _;(with_reducible repeat (first|refine bN ?_ _|refine bD ?_|refine bA ?_ _));exact BK427.out⟩
            have n11_ : Aside0 ((((w64.setCell ⟨gb435,0,none⟩ (.slice Ao65 t428.length co65)).setCell ⟨gb435,1,none⟩ (.slice Ao70 t431.length co70)).setCell ⟨gb435,2,none⟩ (.string t434)).heap[gb435]? = some (.cells #[.slice Ao65 t428.length co65,.slice Ao70 t431.length co70,.string t434] 35 (0,0))):=⟨by (with_reducible repeat (first|refine bN ?_ _|refine bD ?_|refine bA ?_ _));refine blk_put (cs:=#[.slice Ao65 t428.length co65,.slice Ao70 t431.length co70,.string (⟨#[]⟩ : ByteArray)]) ?_ 2 _ rfl;(with_reducible repeat (first|refine bN ?_ _|refine bD ?_|refine bA ?_ _));refine blk_put (cs:=#[.slice Ao65 t428.length co65,.slice none 0 0,.string (⟨#[]⟩ : ByteArray)]) ?_ 1 _ rfl;(with_reducible repeat (first|refine bN ?_ _|refine bD ?_|refine bA ?_ _));refine blk_put (cs:=#[.slice none 0 0,.slice none 0 0,.string (⟨#[]⟩ : ByteArray)]) ?_ 0 _ rfl;(with_reducible repeat (first|refine bN ?_ _|refine bD ?_|refine bA ?_ _));exact BK435.out⟩
            have n12_ : Aside0 (Below w.heap.size w (((w64.setCell ⟨gb435,0,none⟩ (.slice Ao65 t428.length co65)).setCell ⟨gb435,1,none⟩ (.slice Ao70 t431.length co70)).setCell ⟨gb435,2,none⟩ (.string t434))):=⟨by repeat (first|(with_reducible first|exact HB.out|apply lA|apply lN|apply lD|refine lS ?_ GE410.out|refine lS ?_ GE418.out|refine lS ?_ GE427.out|refine lS ?_ GE435.out)|exact HB.out)⟩
            (try clear HO_411000)
            (try clear HO_411001)
            (try clear HO_419000)
            (try clear HO_419001)
            (try clear HO421)
            (try clear HO424)
            (try clear HO430)
            (try clear HO433)
            (try clear BK410)
            (try clear BK418)
            (try clear BK427)
            (try clear BK435)
            (try clear HB)
            generalize (((w64.setCell ⟨gb435,0,none⟩ (.slice Ao65 t428.length co65)).setCell ⟨gb435,1,none⟩ (.slice Ao70 t431.length co70)).setCell ⟨gb435,2,none⟩ (.string t434)) = w71 at n0_ n1_ n2_ n3_ n4_ n5_ n6_ n7_ n8_ n9_ n10_ n11_ n12_ ⊢
            have HO_411000:=n0_
            have HO_411001:=n1_
            have HO_419000:=n2_
            have HO_419001:=n3_
            have HO421:=n4_
            have HO424:=n5_
            have HO430:=n6_
            have HO433:=n7_
            have BK410:=n8_
            have BK418:=n9_
            have BK427:=n10_
            have BK435:=n11_
            have HB:=n12_
            clear n0_ n1_ n2_ n3_ n4_ n5_ n6_ n7_ n8_ n9_ n10_ n11_ n12_
            have n0_:=aM (rD HO_411000.out)
            have n1_:=aM (rD HO_411001.out)
            have n2_:=aM (rD HO_419000.out)
            have n3_:=aM (rD HO_419001.out)
            have n4_:=aM (rD HO421.out)
            have n5_:=aM (rD HO424.out)
            have n6_:=aM (rD HO430.out)
            have n7_:=aM (rD HO433.out)
            have n8_:=aM (bD BK410.out)
            have n9_:=aM (bD BK418.out)
            have n10_:=aM (bD BK427.out)
            have n11_:=aM (bD BK435.out)
            have n12_:=aM (lD HB.out)
            clear HO_411000
            clear HO_411001
            clear HO_419000
            clear HO_419001
            clear HO421
            clear HO424
            clear HO430
            clear HO433
            clear BK410
            clear BK418
            clear BK427
            clear BK435
            clear HB
            have HO_411000:=n0_
            have HO_411001:=n1_
            have HO_419000:=n2_
            have HO_419001:=n3_
            have HO421:=n4_
            have HO424:=n5_
            have HO430:=n6_
            have HO433:=n7_
            have BK410:=n8_
            have BK418:=n9_
            have BK427:=n10_
            have BK435:=n11_
            have HB:=n12_
            clear n0_ n1_ n2_ n3_ n4_ n5_ n6_ n7_ n8_ n9_ n10_ n11_ n12_
            refine start_ (n:=52) (S:=fun w' => w'.cell? ⟨gb418,0,none⟩ = some (.slice Ao16 t411.length co16) ∧ w'.cell? ⟨gb418,1,none⟩ = some (.slice Ao19 t414.length co19) ∧ w'.cell? ⟨gb418,2,none⟩ = some (.string t417) ∧ w'.cell? ⟨gb410,0,none⟩ = some (.slice Ao11 t402.length co11) ∧ w'.cell? ⟨gb410,1,none⟩ = some (.slice Ao13 t405.length co13) ∧ w'.cell? ⟨gb410,2,none⟩ = some (.string t408) ∧ w'.cell? ⟨gb435,0,none⟩ = some (.slice Ao65 t428.length co65) ∧ w'.cell? ⟨gb435,1,none⟩ = some (.slice Ao70 t431.length co70) ∧ w'.cell? ⟨gb435,2,none⟩ = some (.string t434) ∧ w'.cell? ⟨gb427,0,none⟩ = some (.slice Ao58 t419.length co58) ∧ w'.cell? ⟨gb427,1,none⟩ = some (.slice Ao62 t422.length co62) ∧ w'.cell? ⟨gb427,2,none⟩ = some (.string t425)) (ds:=[]) #[bf,bf,bf,bf,bf,bf,bf,bf,bf,bf,bf,bf,bf,bf,bf,bf,bf,bf,bf,bf,bf,bf,bf,bf,bf,bf,bf,bf,bf,bf,bf,bf,bf,bf,bf,bf,bf,bf,bf,bf,bf,bf,bf,bf,bf,bf,bf,bf,bf,bf,bf,bf] (by kernel_rfl) rfl rfl ⟨(bC BK418.out 0).trans rfl,(bC BK418.out 1).trans rfl,(bC BK418.out 2).trans rfl,(bC BK410.out 0).trans rfl,(bC BK410.out 1).trans rfl,(bC BK410.out 2).trans rfl,(bC BK435.out 0).trans rfl,(bC BK435.out 1).trans rfl,(bC BK435.out 2).trans rfl,(bC BK427.out 0).trans rfl,(bC BK427.out 1).trans rfl,(bC BK427.out 2).trans rfl⟩ (fun hHeld => ?_);refine with_tabW laws_FnSays.tab10 laws_FnSays.bits10 (fun HT_ HW_ => ?_)
            generalize w71.drew = w72 at HO_411000 HO_411001 HO_419000 HO_419001 HO421 HO424 HO430 HO433 BK410 BK418 BK427 BK435 HB hHeld ⊢
            refine pQ (i:=0) (N:=some 38) (v:=?_) (a':=?_) #[bT,bf,bf,bf,bf,bf,bf,bf,bf,bf,bf,bf,bf,bf,bf,bf,bf,bf,bf,bf,bf,bf,bf,bf,bf,bf,bf,bf,bf,bf,bf,bf,bf,bf,bf,bf,bf,bf,bf,bf,bf,bf,bf,bf,bf,bf,bf,bf,bf,bf,bf,bf] (any_of HT_.out (by kernel_rfl)) ?_ ?_ ?_
            rotate_left
            ·intro w';go_simp;with_reducible rfl
            rotate_left
            ·simp only [Act.put,q_ia11,q_cz11,q_cs11,i64_w,i32_w];rfl
            refine pQ (i:=2) (N:=some 40) (v:=?_) (a':=?_) #[bT,bf,bT,bf,bf,bf,bf,bf,bf,bf,bf,bf,bf,bf,bf,bf,bf,bf,bf,bf,bf,bf,bf,bf,bf,bf,bf,bf,bf,bf,bf,bf,bf,bf,bf,bf,bf,bf,bf,bf,bf,bf,bf,bf,bf,bf,bf,bf,bf,bf,bf,bf] (any_of HT_.out (by kernel_rfl)) ?_ ?_ ?_
            rotate_left
            ·intro w';go_simp;with_reducible rfl
            rotate_left
            ·simp only [Act.put,q_ia11,q_cz11,q_cs11,i64_w,i32_w];rfl
            refine take_ (i:=1) (N:=some 39) (v:=?_) (a':=?_) #[bT,bT,bT,bf,bf,bf,bf,bf,bf,bf,bf,bf,bf,bf,bf,bf,bf,bf,bf,bf,bf,bf,bf,bf,bf,bf,bf,bf,bf,bf,bf,bf,bf,bf,bf,bf,bf,bf,bf,bf,bf,bf,bf,bf,bf,bf,bf,bf,bf,bf,bf,bf] rfl rfl (take_ofW HT_.out HW_.out (by kernel_rfl)) (fun _ _ _ h => h) (Or.inl ⟨by rfl,?_⟩) hHeld ?_ ?_
            rotate_left
            ·rintro w' ⟨s0,s1,s2,s3,s4,s5,s6,s7,s8,s9,s10,s11⟩
             go_simp
             with_reducible rfl
            rotate_left
            ·simp only [Act.put,q_ia11,q_cz11,q_cs11,i64_w,i32_w];rfl
            refine pQ (i:=3) (N:=some 41) (v:=?_) (a':=?_) #[bT,bT,bT,bT,bf,bf,bf,bf,bf,bf,bf,bf,bf,bf,bf,bf,bf,bf,bf,bf,bf,bf,bf,bf,bf,bf,bf,bf,bf,bf,bf,bf,bf,bf,bf,bf,bf,bf,bf,bf,bf,bf,bf,bf,bf,bf,bf,bf,bf,bf,bf,bf] (any_of HT_.out (by kernel_rfl)) ?_ ?_ ?_
            rotate_left
            ·intro w';go_simp;with_reducible rfl
            rotate_left
            ·simp only [Act.put,q_ia11,q_cz11,q_cs11,i64_w,i32_w];rfl
            refine pQ (i:=4) (N:=some 42) (v:=?_) (a':=?_) #[bT,bT,bT,bT,bT,bf,bf,bf,bf,bf,bf,bf,bf,bf,bf,bf,bf,bf,bf,bf,bf,bf,bf,bf,bf,bf,bf,bf,bf,bf,bf,bf,bf,bf,bf,bf,bf,bf,bf,bf,bf,bf,bf,bf,bf,bf,bf,bf,bf,bf,bf,bf] (any_of HT_.out (by kernel_rfl)) ?_ ?_ ?_
            rotate_left
            ·intro w';go_simp;with_reducible rfl
            rotate_left
            ·simp only [Act.put,q_ia11,q_cz11,q_cs11,i64_w,i32_w];rfl
            refine pQ (i:=5) (N:=some 43) (v:=?_) (a':=?_) #[bT,bT,bT,bT,bT,bT,bf,bf,bf,bf,bf,bf,bf,bf,bf,bf,bf,bf,bf,bf,bf,bf,bf,bf,bf,bf,bf,bf,bf,bf,bf,bf,bf,bf,bf,bf,bf,bf,bf,bf,bf,bf,bf,bf,bf,bf,bf,bf,bf,bf,bf,bf] (any_of HT_.out (by kernel_rfl)) ?_ ?_ ?_
            rotate_left
            ·intro w';go_simp;with_reducible rfl
            rotate_left
            ·simp only [Act.put,q_ia11,q_cz11,q_cs11,i64_w,i32_w];rfl
            refine pQ (i:=8) (N:=some 46) (v:=?_) (a':=?_) #[bT,bT,bT,bT,bT,bT,bf,bf,bT,bf,bf,bf,bf,bf,bf,bf,bf,bf,bf,bf,bf,bf,bf,bf,bf,bf,bf,bf,bf,bf,bf,bf,bf,bf,bf,bf,bf,bf,bf,bf,bf,bf,bf,bf,bf,bf,bf,bf,bf,bf,bf,bf] (any_of HT_.out (by kernel_rfl)) ?_ ?_ ?_
            rotate_left
            ·intro w';go_simp;with_reducible rfl
            rotate_left
            ·simp only [Act.put,q_ia11,q_cz11,q_cs11,i64_w,i32_w];rfl
            refine take_ (i:=6) (N:=some 44) (v:=?_) (a':=?_) #[bT,bT,bT,bT,bT,bT,bT,bf,bT,bf,bf,bf,bf,bf,bf,bf,bf,bf,bf,bf,bf,bf,bf,bf,bf,bf,bf,bf,bf,bf,bf,bf,bf,bf,bf,bf,bf,bf,bf,bf,bf,bf,bf,bf,bf,bf,bf,bf,bf,bf,bf,bf] rfl rfl (take_ofW HT_.out HW_.out (by kernel_rfl)) (fun _ _ _ h => h) (Or.inl ⟨by rfl,?_⟩) hHeld ?_ ?_
            rotate_left
            ·rintro w' ⟨s0,s1,s2,s3,s4,s5,s6,s7,s8,s9,s10,s11⟩
             go_simp
             with_reducible rfl
            rotate_left
            ·simp only [Act.put,q_ia11,q_cz11,q_cs11,i64_w,i32_w];rfl
            refine pQ (i:=7) (N:=some 45) (v:=?_) (a':=?_) #[bT,bT,bT,bT,bT,bT,bT,bT,bT,bf,bf,bf,bf,bf,bf,bf,bf,bf,bf,bf,bf,bf,bf,bf,bf,bf,bf,bf,bf,bf,bf,bf,bf,bf,bf,bf,bf,bf,bf,bf,bf,bf,bf,bf,bf,bf,bf,bf,bf,bf,bf,bf] (any_of HT_.out (by kernel_rfl)) ?_ ?_ ?_
            rotate_left
            ·intro w';go_simp;with_reducible rfl
            rotate_left
            ·simp only [Act.put,q_ia11,q_cz11,q_cs11,i64_w,i32_w];rfl
            refine take_ (i:=9) (N:=some 47) (v:=?_) (a':=?_) #[bT,bT,bT,bT,bT,bT,bT,bT,bT,bT,bf,bf,bf,bf,bf,bf,bf,bf,bf,bf,bf,bf,bf,bf,bf,bf,bf,bf,bf,bf,bf,bf,bf,bf,bf,bf,bf,bf,bf,bf,bf,bf,bf,bf,bf,bf,bf,bf,bf,bf,bf,bf] rfl rfl (take_ofW HT_.out HW_.out (by kernel_rfl)) (fun _ _ _ h => h) (Or.inl ⟨by rfl,?_⟩) hHeld ?_ ?_
            rotate_left
            ·rintro w' ⟨s0,s1,s2,s3,s4,s5,s6,s7,s8,s9,s10,s11⟩
             go_simp
             with_reducible rfl
            rotate_left
            ·simp only [Act.put,q_ia11,q_cz11,q_cs11,i64_w,i32_w];rfl
            refine pQ (i:=10) (N:=some 48) (v:=?_) (a':=?_) #[bT,bT,bT,bT,bT,bT,bT,bT,bT,bT,bT,bf,bf,bf,bf,bf,bf,bf,bf,bf,bf,bf,bf,bf,bf,bf,bf,bf,bf,bf,bf,bf,bf,bf,bf,bf,bf,bf,bf,bf,bf,bf,bf,bf,bf,bf,bf,bf,bf,bf,bf,bf] (any_of HT_.out (by kernel_rfl)) ?_ ?_ ?_
            rotate_left
            ·intro w';go_simp;with_reducible rfl
            rotate_left
            ·simp only [Act.put,q_ia11,q_cz11,q_cs11,i64_w,i32_w];rfl
            refine pQ (i:=11) (N:=some 49) (v:=?_) (a':=?_) #[bT,bT,bT,bT,bT,bT,bT,bT,bT,bT,bT,bT,bf,bf,bf,bf,bf,bf,bf,bf,bf,bf,bf,bf,bf,bf,bf,bf,bf,bf,bf,bf,bf,bf,bf,bf,bf,bf,bf,bf,bf,bf,bf,bf,bf,bf,bf,bf,bf,bf,bf,bf] (any_of HT_.out (by kernel_rfl)) ?_ ?_ ?_
            rotate_left
            ·intro w';go_simp;with_reducible rfl
            rotate_left
            ·simp only [Act.put,q_ia11,q_cz11,q_cs11,i64_w,i32_w];rfl
            refine pQ (i:=12) (N:=some 50) (v:=?_) (a':=?_) #[bT,bT,bT,bT,bT,bT,bT,bT,bT,bT,bT,bT,bT,bf,bf,bf,bf,bf,bf,bf,bf,bf,bf,bf,bf,bf,bf,bf,bf,bf,bf,bf,bf,bf,bf,bf,bf,bf,bf,bf,bf,bf,bf,bf,bf,bf,bf,bf,bf,bf,bf,bf] (any_of HT_.out (by kernel_rfl)) ?_ ?_ ?_
            rotate_left
            ·intro w';go_simp;with_reducible rfl
            rotate_left
            ·simp only [Act.put,q_ia11,q_cz11,q_cs11,i64_w,i32_w];rfl
            refine pQ (i:=13) (N:=some 51) (v:=?_) (a':=?_) #[bT,bT,bT,bT,bT,bT,bT,bT,bT,bT,bT,bT,bT,bT,bf,bf,bf,bf,bf,bf,bf,bf,bf,bf,bf,bf,bf,bf,bf,bf,bf,bf,bf,bf,bf,bf,bf,bf,bf,bf,bf,bf,bf,bf,bf,bf,bf,bf,bf,bf,bf,bf] (any_of HT_.out (by kernel_rfl)) ?_ ?_ ?_
            rotate_left
            ·intro w';go_simp;with_reducible rfl
            rotate_left
            ·simp only [Act.put,q_ia11,q_cz11,q_cs11,i64_w,i32_w];rfl
            refine pQ (i:=14) (N:=some 52) (v:=?_) (a':=?_) #[bT,bT,bT,bT,bT,bT,bT,bT,bT,bT,bT,bT,bT,bT,bT,bf,bf,bf,bf,bf,bf,bf,bf,bf,bf,bf,bf,bf,bf,bf,bf,bf,bf,bf,bf,bf,bf,bf,bf,bf,bf,bf,bf,bf,bf,bf,bf,bf,bf,bf,bf,bf] (any_of HT_.out (by kernel_rfl)) ?_ ?_ ?_
            rotate_left
            ·intro w';go_simp;with_reducible rfl
            rotate_left
            ·simp only [Act.put,q_ia11,q_cz11,q_cs11,i64_w,i32_w];rfl
            refine pQ (i:=17) (N:=some 55) (v:=?_) (a':=?_) #[bT,bT,bT,bT,bT,bT,bT,bT,bT,bT,bT,bT,bT,bT,bT,bf,bf,bT,bf,bf,bf,bf,bf,bf,bf,bf,bf,bf,bf,bf,bf,bf,bf,bf,bf,bf,bf,bf,bf,bf,bf,bf,bf,bf,bf,bf,bf,bf,bf,bf,bf,bf] (any_of HT_.out (by kernel_rfl)) ?_ ?_ ?_
            rotate_left
            ·intro w';go_simp;with_reducible rfl
            rotate_left
            ·simp only [Act.put,q_ia11,q_cz11,q_cs11,i64_w,i32_w];rfl
            refine take_ (i:=15) (N:=some 53) (v:=?_) (a':=?_) #[bT,bT,bT,bT,bT,bT,bT,bT,bT,bT,bT,bT,bT,bT,bT,bT,bf,bT,bf,bf,bf,bf,bf,bf,bf,bf,bf,bf,bf,bf,bf,bf,bf,bf,bf,bf,bf,bf,bf,bf,bf,bf,bf,bf,bf,bf,bf,bf,bf,bf,bf,bf] rfl rfl (take_ofW HT_.out HW_.out (by kernel_rfl)) (fun _ _ _ h => h) (Or.inl ⟨by rfl,?_⟩) hHeld ?_ ?_
            rotate_left
            ·rintro w' ⟨s0,s1,s2,s3,s4,s5,s6,s7,s8,s9,s10,s11⟩
             go_simp
             with_reducible rfl
            rotate_left
            ·simp only [Act.put,q_ia11,q_cz11,q_cs11,i64_w,i32_w];rfl
            refine pQ (i:=16) (N:=some 54) (v:=?_) (a':=?_) #[bT,bT,bT,bT,bT,bT,bT,bT,bT,bT,bT,bT,bT,bT,bT,bT,bT,bT,bf,bf,bf,bf,bf,bf,bf,bf,bf,bf,bf,bf,bf,bf,bf,bf,bf,bf,bf,bf,bf,bf,bf,bf,bf,bf,bf,bf,bf,bf,bf,bf,bf,bf] (any_of HT_.out (by kernel_rfl)) ?_ ?_ ?_
            rotate_left
            ·intro w';go_simp;with_reducible rfl
            rotate_left
            ·simp only [Act.put,q_ia11,q_cz11,q_cs11,i64_w,i32_w];rfl
            refine take_ (i:=18) (N:=some 56) (v:=?_) (a':=?_) #[bT,bT,bT,bT,bT,bT,bT,bT,bT,bT,bT,bT,bT,bT,bT,bT,bT,bT,bT,bf,bf,bf,bf,bf,bf,bf,bf,bf,bf,bf,bf,bf,bf,bf,bf,bf,bf,bf,bf,bf,bf,bf,bf,bf,bf,bf,bf,bf,bf,bf,bf,bf] rfl rfl (take_ofW HT_.out HW_.out (by kernel_rfl)) (fun _ _ _ h => h) (Or.inl ⟨by rfl,?_⟩) hHeld ?_ ?_
            rotate_left
            ·rintro w' ⟨s0,s1,s2,s3,s4,s5,s6,s7,s8,s9,s10,s11⟩
             go_simp
             with_reducible rfl
            rotate_left
            ·simp only [Act.put,q_ia11,q_cz11,q_cs11,i64_w,i32_w];rfl
            refine pQ (i:=19) (N:=some 57) (v:=?_) (a':=?_) #[bT,bT,bT,bT,bT,bT,bT,bT,bT,bT,bT,bT,bT,bT,bT,bT,bT,bT,bT,bT,bf,bf,bf,bf,bf,bf,bf,bf,bf,bf,bf,bf,bf,bf,bf,bf,bf,bf,bf,bf,bf,bf,bf,bf,bf,bf,bf,bf,bf,bf,bf,bf] (any_of HT_.out (by kernel_rfl)) ?_ ?_ ?_
            rotate_left
            ·intro w';go_simp;with_reducible rfl
            rotate_left
            ·simp only [Act.put,q_ia11,q_cz11,q_cs11,i64_w,i32_w];rfl
            refine pQ (i:=20) (N:=some 58) (v:=?_) (a':=?_) #[bT,bT,bT,bT,bT,bT,bT,bT,bT,bT,bT,bT,bT,bT,bT,bT,bT,bT,bT,bT,bT,bf,bf,bf,bf,bf,bf,bf,bf,bf,bf,bf,bf,bf,bf,bf,bf,bf,bf,bf,bf,bf,bf,bf,bf,bf,bf,bf,bf,bf,bf,bf] (any_of HT_.out (by kernel_rfl)) ?_ ?_ ?_
            rotate_left
            ·intro w';go_simp;with_reducible rfl
            rotate_left
            ·simp only [Act.put,q_ia11,q_cz11,q_cs11,i64_w,i32_w];rfl
            refine pQ (i:=21) (N:=some 59) (v:=?_) (a':=?_) #[bT,bT,bT,bT,bT,bT,bT,bT,bT,bT,bT,bT,bT,bT,bT,bT,bT,bT,bT,bT,bT,bT,bf,bf,bf,bf,bf,bf,bf,bf,bf,bf,bf,bf,bf,bf,bf,bf,bf,bf,bf,bf,bf,bf,bf,bf,bf,bf,bf,bf,bf,bf] (any_of HT_.out (by kernel_rfl)) ?_ ?_ ?_
            rotate_left
            ·intro w';go_simp;with_reducible rfl
            rotate_left
            ·simp only [Act.put,q_ia11,q_cz11,q_cs11,i64_w,i32_w];rfl
            refine pQ (i:=22) (N:=some 60) (v:=?_) (a':=?_) #[bT,bT,bT,bT,bT,bT,bT,bT,bT,bT,bT,bT,bT,bT,bT,bT,bT,bT,bT,bT,bT,bT,bT,bf,bf,bf,bf,bf,bf,bf,bf,bf,bf,bf,bf,bf,bf,bf,bf,bf,bf,bf,bf,bf,bf,bf,bf,bf,bf,bf,bf,bf] (any_of HT_.out (by kernel_rfl)) ?_ ?_ ?_
            rotate_left
            ·intro w';go_simp;with_reducible rfl
            rotate_left
            ·simp only [Act.put,q_ia11,q_cz11,q_cs11,i64_w,i32_w];rfl
            refine pQ (i:=25) (N:=some 63) (v:=?_) (a':=?_) #[bT,bT,bT,bT,bT,bT,bT,bT,bT,bT,bT,bT,bT,bT,bT,bT,bT,bT,bT,bT,bT,bT,bT,bf,bf,bT,bf,bf,bf,bf,bf,bf,bf,bf,bf,bf,bf,bf,bf,bf,bf,bf,bf,bf,bf,bf,bf,bf,bf,bf,bf,bf] (any_of HT_.out (by kernel_rfl)) ?_ ?_ ?_
            rotate_left
            ·intro w';go_simp;with_reducible rfl
            rotate_left
            ·simp only [Act.put,q_ia11,q_cz11,q_cs11,i64_w,i32_w];rfl
            refine take_ (i:=23) (N:=some 61) (v:=?_) (a':=?_) #[bT,bT,bT,bT,bT,bT,bT,bT,bT,bT,bT,bT,bT,bT,bT,bT,bT,bT,bT,bT,bT,bT,bT,bT,bf,bT,bf,bf,bf,bf,bf,bf,bf,bf,bf,bf,bf,bf,bf,bf,bf,bf,bf,bf,bf,bf,bf,bf,bf,bf,bf,bf] rfl rfl (take_ofW HT_.out HW_.out (by kernel_rfl)) (fun _ _ _ h => h) (Or.inl ⟨by rfl,?_⟩) hHeld ?_ ?_
            rotate_left
            ·rintro w' ⟨s0,s1,s2,s3,s4,s5,s6,s7,s8,s9,s10,s11⟩
             go_simp
             with_reducible rfl
            rotate_left
            ·simp only [Act.put,q_ia11,q_cz11,q_cs11,i64_w,i32_w];rfl
            refine take_ (i:=24) (N:=some 62) (v:=?_) (a':=?_) #[bT,bT,bT,bT,bT,bT,bT,bT,bT,bT,bT,bT,bT,bT,bT,bT,bT,bT,bT,bT,bT,bT,bT,bT,bT,bT,bf,bf,bf,bf,bf,bf,bf,bf,bf,bf,bf,bf,bf,bf,bf,bf,bf,bf,bf,bf,bf,bf,bf,bf,bf,bf] rfl rfl (take_ofW HT_.out HW_.out (by kernel_rfl)) (fun _ _ _ h => h) (Or.inl ⟨by rfl,?_⟩) hHeld ?_ ?_
            rotate_left
            ·rintro w' ⟨s0,s1,s2,s3,s4,s5,s6,s7,s8,s9,s10,s11⟩
             go_simp
             with_reducible rfl
            rotate_left
            ·simp only [Act.put,q_ia11,q_cz11,q_cs11,i64_w,i32_w];rfl
            refine one_ (i:=26) (N:=some 64) #[bT,bT,bT,bT,bT,bT,bT,bT,bT,bT,bT,bT,bT,bT,bT,bT,bT,bT,bT,bT,bT,bT,bT,bT,bT,bT,bT,bf,bf,bf,bf,bf,bf,bf,bf,bf,bf,bf,bf,bf,bf,bf,bf,bf,bf,bf,bf,bf,bf,bf,bf,bf] rfl rfl (one_of HT_.out (by kernel_rfl)) (by decide) (fun K hK => ?_)
            refine goes_ Try.func20 (by kernel_rfl) rfl #[.agg #[.slice Ao58 t419.length co58,.slice Ao62 t422.length co62,.string t425],.string t426] (by rfl) rfl rfl (by (try simp only [List.map_toArray,List.map_cons,List.map_nil]);first|done|rfl|(simp only [List.length_drop,List.length_take];rfl)) ?_
            with_reducible refine (spec_Dump.calls kj7 _ _ t419 _ _ t422 t425 t426 t436 t439 t442 _ ?side1 ?side2 ?side3 ?side4 A29.out).mono ?_
            (case side1 => repeat (first|exact (rR HO421.out).2.2|(with_reducible first|refine cA ?_ _|refine cN ?_ _|refine cD ?_)))
            (case side2 => exact (rR HO421.out).2.1)
            (case side3 => repeat (first|exact (rR HO424.out).2.2|(with_reducible first|refine cA ?_ _|refine cN ?_ _|refine cD ?_)))
            (case side4 => exact (rR HO424.out).2.1)
            rintro e w73 ⟨v437,v440,rfl,ho0,ho1,hb⟩
            refine ⟨_,rfl,?_⟩
            have n0_:=aM (rE (rZ HO_411000.out) (rS ho0) hb)
            have n1_:=aM (rE (rZ HO_411001.out) (rS ho1) hb)
            have n2_:=aM (rE (rZ HO_419000.out) (rS ho0) hb)
            have n3_:=aM (rE (rZ HO_419001.out) (rS ho1) hb)
            have n4_:=aM (rE (rZ HO421.out) (rS ho0) hb)
            have n5_:=aM (rE (rZ HO424.out) (rS ho1) hb)
            have n6_:=aM (rE (rZ HO430.out) (rS ho0) hb)
            have n7_:=aM (rE (rZ HO433.out) (rS ho1) hb)
            have n8_:=aM (rL (rW (rW (rW (rW ho0 (rT (rZ HO_411000.out))) (rT (rZ HO_419000.out))) (rT (rZ HO421.out))) (rT (rZ HO430.out))) (lZ (by repeat (first|(with_reducible first|exact HB.out|apply lA|apply lN|apply lD|refine lS ?_ GE410.out|refine lS ?_ GE418.out|refine lS ?_ GE427.out|refine lS ?_ GE435.out)|exact HB.out))))
            have n9_:=aM (rL (rW (rW (rW (rW ho1 (rT (rZ HO_411001.out))) (rT (rZ HO_419001.out))) (rT (rZ HO424.out))) (rT (rZ HO433.out))) (lZ (by repeat (first|(with_reducible first|exact HB.out|apply lA|apply lN|apply lD|refine lS ?_ GE410.out|refine lS ?_ GE418.out|refine lS ?_ GE427.out|refine lS ?_ GE435.out)|exact HB.out))))
            have n10_:=aM (bH BK410.out hb)
            have n11_:=aM (bH BK418.out hb)
            have n12_:=aM (bH BK427.out hb)
            have n13_:=aM (bH BK435.out hb)
            have n14_:=aM (lQ HB.out hb)
            clear HO_411000
            clear HO_411001
            clear HO_419000
            clear HO_419001
            clear HO421
            clear HO424
            clear HO430
            clear HO433
            clear BK410
            clear BK418
            clear BK427
            clear BK435
            clear HB
            have HO_411000:=n0_
            have HO_411001:=n1_
            have HO_419000:=n2_
            have HO_419001:=n3_
            have HO421:=n4_
            have HO424:=n5_
            have HO430:=n6_
            have HO433:=n7_
            have HO438:=n8_
            have HO441:=n9_
            have BK410:=n10_
            have BK418:=n11_
            have BK427:=n12_
            have BK435:=n13_
            have HB:=n14_
            clear n0_ n1_ n2_ n3_ n4_ n5_ n6_ n7_ n8_ n9_ n10_ n11_ n12_ n13_ n14_
            (try clear hb)
            (try clear hb2)
            (try clear hk)
            (try clear hi)
            (try clear ho0)
            (try clear ho1)
            obtain ⟨Ao74,co74,eo74⟩:=Kd.R_slice HO438.out
            (first|subst eo74|(injection eo74 with f1_ f2_ f3_;have f4_:=f1_.symm;have f5_:=f3_.symm;clear f1_ f2_ f3_;subst f4_;subst f5_))
            obtain ⟨Ao75,co75,eo75⟩:=Kd.R_slice HO441.out
            (first|subst eo75|(injection eo75 with f1_ f2_ f3_;have f4_:=f1_.symm;have f5_:=f3_.symm;clear f1_ f2_ f3_;subst f4_;subst f5_))
            refine hK.out _ _ ⟨(bC BK418.out 0).trans rfl,(bC BK418.out 1).trans rfl,(bC BK418.out 2).trans rfl,(bC BK410.out 0).trans rfl,(bC BK410.out 1).trans rfl,(bC BK410.out 2).trans rfl,(bC BK435.out 0).trans rfl,(bC BK435.out 1).trans rfl,(bC BK435.out 2).trans rfl,(bC BK427.out 0).trans rfl,(bC BK427.out 1).trans rfl,(bC BK427.out 2).trans rfl⟩ (fun hHeld => ?_)
            clear hK K
            refine norm_ (a':=?_) ?_ ?_
            rotate_left
            ·show Act.put _ (some 64) _ = _
             simp only [Act.put,q_ia11,q_cz11,q_cs11,i64_w,i32_w]
             rfl
            refine one_ (i:=27) (N:=some 65) #[bT,bT,bT,bT,bT,bT,bT,bT,bT,bT,bT,bT,bT,bT,bT,bT,bT,bT,bT,bT,bT,bT,bT,bT,bT,bT,bT,bT,bf,bf,bf,bf,bf,bf,bf,bf,bf,bf,bf,bf,bf,bf,bf,bf,bf,bf,bf,bf,bf,bf,bf,bf] rfl rfl (one_of HT_.out (by kernel_rfl)) (by decide) (fun K hK => ?_)
            refine goes_ Try.func19 (by kernel_rfl) rfl #[.agg #[.slice Ao65 t428.length co65,.slice Ao70 t431.length co70,.string t434],.agg #[.slice Ao74 t436.length co74,.slice Ao75 t439.length co75,.string t442]] (by rfl) rfl rfl (by (try simp only [List.map_toArray,List.map_cons,List.map_nil]);first|done|rfl|(simp only [List.length_drop,List.length_take];rfl)) ?_
            with_reducible refine (spec_SameStore.calls kj7 _ _ t428 _ _ t431 t434 _ _ t436 _ _ t439 t442 true _ ?side1 ?side2 ?side3 ?side4 ?side5 ?side6 ?side7 ?side8 A30.out).mono ?_
            (case side1 => repeat (first|exact (rR HO430.out).2.2|(with_reducible first|refine cA ?_ _|refine cN ?_ _|refine cD ?_)))
            (case side2 => exact (rR HO430.out).2.1)
            (case side3 => repeat (first|exact (rR HO433.out).2.2|(with_reducible first|refine cA ?_ _|refine cN ?_ _|refine cD ?_)))
            (case side4 => exact (rR HO433.out).2.1)
            (case side5 => repeat (first|exact (rR HO438.out).2.2|(with_reducible first|refine cA ?_ _|refine cN ?_ _|refine cD ?_)))
            (case side6 => exact (rR HO438.out).2.1)
            (case side7 => repeat (first|exact (rR HO441.out).2.2|(with_reducible first|refine cA ?_ _|refine cN ?_ _|refine cD ?_)))
            (case side8 => exact (rR HO441.out).2.1)
            rintro e w76 ⟨rfl,hb⟩
            refine ⟨_,rfl,?_⟩
            have n0_:=aM (rH HO_411000.out hb)
            have n1_:=aM (rH HO_411001.out hb)
            have n2_:=aM (rH HO_419000.out hb)
            have n3_:=aM (rH HO_419001.out hb)
            have n4_:=aM (rH HO421.out hb)
            have n5_:=aM (rH HO424.out hb)
            have n6_:=aM (rH HO430.out hb)
            have n7_:=aM (rH HO433.out hb)
            have n8_:=aM (rH HO438.out hb)
            have n9_:=aM (rH HO441.out hb)
            have n10_:=aM (bH BK410.out hb)
            have n11_:=aM (bH BK418.out hb)
            have n12_:=aM (bH BK427.out hb)
            have n13_:=aM (bH BK435.out hb)
            have n14_:=aM (lQ HB.out hb)
            clear HO_411000
            clear HO_411001
            clear HO_419000
            clear HO_419001
            clear HO421
            clear HO424
            clear HO430
            clear HO433
            clear HO438
            clear HO441
            clear BK410
            clear BK418
            clear BK427
            clear BK435
            clear HB
            have HO_411000:=n0_
            have HO_411001:=n1_
            have HO_419000:=n2_
            have HO_419001:=n3_
            have HO421:=n4_
            have HO424:=n5_
            have HO430:=n6_
            have HO433:=n7_
            have HO438:=n8_
            have HO441:=n9_
            have BK410:=n10_
            have BK418:=n11_
            have BK427:=n12_
            have BK435:=n13_
            have HB:=n14_
            clear n0_ n1_ n2_ n3_ n4_ n5_ n6_ n7_ n8_ n9_ n10_ n11_ n12_ n13_ n14_
            (try clear hb)
            (try clear hb2)
            (try clear hk)
            (try clear hi)
            refine hK.out _ _ ⟨(bC BK418.out 0).trans rfl,(bC BK418.out 1).trans rfl,(bC BK418.out 2).trans rfl,(bC BK410.out 0).trans rfl,(bC BK410.out 1).trans rfl,(bC BK410.out 2).trans rfl,(bC BK435.out 0).trans rfl,(bC BK435.out 1).trans rfl,(bC BK435.out 2).trans rfl,(bC BK427.out 0).trans rfl,(bC BK427.out 1).trans rfl,(bC BK427.out 2).trans rfl⟩ (fun hHeld => ?_)
            clear hK K
            refine norm_ (a':=?_) ?_ ?_
            rotate_left
            ·show Act.put _ (some 65) _ = _
             simp only [Act.put,q_ia11,q_cz11,q_cs11,i64_w,i32_w]
             rfl
            refine pQ (i:=28) (N:=some 66) (v:=?_) (a':=?_) #[bT,bT,bT,bT,bT,bT,bT,bT,bT,bT,bT,bT,bT,bT,bT,bT,bT,bT,bT,bT,bT,bT,bT,bT,bT,bT,bT,bT,bT,bf,bf,bf,bf,bf,bf,bf,bf,bf,bf,bf,bf,bf,bf,bf,bf,bf,bf,bf,bf,bf,bf,bf] (any_of HT_.out (by kernel_rfl)) ?_ ?_ ?_
            rotate_left
            ·intro w';go_simp;with_reducible rfl
            rotate_left
            ·simp only [Act.put,q_ia11,q_cz11,q_cs11,i64_w,i32_w];rfl
            refine pQ (i:=29) (N:=some 67) (v:=?_) (a':=?_) #[bT,bT,bT,bT,bT,bT,bT,bT,bT,bT,bT,bT,bT,bT,bT,bT,bT,bT,bT,bT,bT,bT,bT,bT,bT,bT,bT,bT,bT,bT,bf,bf,bf,bf,bf,bf,bf,bf,bf,bf,bf,bf,bf,bf,bf,bf,bf,bf,bf,bf,bf,bf] (any_of HT_.out (by kernel_rfl)) ?_ ?_ ?_
            rotate_left
            ·intro w';go_simp;with_reducible rfl
            rotate_left
            ·simp only [Act.put,q_ia11,q_cz11,q_cs11,i64_w,i32_w];rfl
            refine pQ (i:=30) (N:=some 68) (v:=?_) (a':=?_) #[bT,bT,bT,bT,bT,bT,bT,bT,bT,bT,bT,bT,bT,bT,bT,bT,bT,bT,bT,bT,bT,bT,bT,bT,bT,bT,bT,bT,bT,bT,bT,bf,bf,bf,bf,bf,bf,bf,bf,bf,bf,bf,bf,bf,bf,bf,bf,bf,bf,bf,bf,bf] (any_of HT_.out (by kernel_rfl)) ?_ ?_ ?_
            rotate_left
            ·intro w';go_simp;with_reducible rfl
            rotate_left
            ·simp only [Act.put,q_ia11,q_cz11,q_cs11,i64_w,i32_w];rfl
            refine take_ (i:=31) (N:=some 69) (v:=?_) (a':=?_) #[bT,bT,bT,bT,bT,bT,bT,bT,bT,bT,bT,bT,bT,bT,bT,bT,bT,bT,bT,bT,bT,bT,bT,bT,bT,bT,bT,bT,bT,bT,bT,bT,bf,bf,bf,bf,bf,bf,bf,bf,bf,bf,bf,bf,bf,bf,bf,bf,bf,bf,bf,bf] rfl rfl (take_ofW HT_.out HW_.out (by kernel_rfl)) (fun _ _ _ h => h) (Or.inl ⟨by rfl,?_⟩) hHeld ?_ ?_
            rotate_left
            ·rintro w' ⟨s0,s1,s2,s3,s4,s5,s6,s7,s8,s9,s10,s11⟩
             go_simp
             with_reducible rfl
            rotate_left
            ·simp only [Act.put,q_ia11,q_cz11,q_cs11,i64_w,i32_w];rfl
            refine pQ (i:=32) (N:=some 70) (v:=?_) (a':=?_) #[bT,bT,bT,bT,bT,bT,bT,bT,bT,bT,bT,bT,bT,bT,bT,bT,bT,bT,bT,bT,bT,bT,bT,bT,bT,bT,bT,bT,bT,bT,bT,bT,bT,bf,bf,bf,bf,bf,bf,bf,bf,bf,bf,bf,bf,bf,bf,bf,bf,bf,bf,bf] (any_of HT_.out (by kernel_rfl)) ?_ ?_ ?_
            rotate_left
            ·intro w';go_simp;with_reducible rfl
            rotate_left
            ·simp only [Act.put,q_ia11,q_cz11,q_cs11,i64_w,i32_w];rfl
            refine pQ (i:=33) (N:=some 71) (v:=?_) (a':=?_) #[bT,bT,bT,bT,bT,bT,bT,bT,bT,bT,bT,bT,bT,bT,bT,bT,bT,bT,bT,bT,bT,bT,bT,bT,bT,bT,bT,bT,bT,bT,bT,bT,bT,bT,bf,bf,bf,bf,bf,bf,bf,bf,bf,bf,bf,bf,bf,bf,bf,bf,bf,bf] (any_of HT_.out (by kernel_rfl)) ?_ ?_ ?_
            rotate_left
            ·intro w';go_simp;with_reducible rfl
            rotate_left
            ·simp only [Act.put,q_ia11,q_cz11,q_cs11,i64_w,i32_w];rfl
            refine pQ (i:=34) (N:=some 72) (v:=?_) (a':=?_) #[bT,bT,bT,bT,bT,bT,bT,bT,bT,bT,bT,bT,bT,bT,bT,bT,bT,bT,bT,bT,bT,bT,bT,bT,bT,bT,bT,bT,bT,bT,bT,bT,bT,bT,bT,bf,bf,bf,bf,bf,bf,bf,bf,bf,bf,bf,bf,bf,bf,bf,bf,bf] (any_of HT_.out (by kernel_rfl)) ?_ ?_ ?_
            rotate_left
            ·intro w';go_simp;with_reducible rfl
            rotate_left
            ·simp only [Act.put,q_ia11,q_cz11,q_cs11,i64_w,i32_w];rfl
            refine pQ (i:=35) (N:=some 73) (v:=?_) (a':=?_) #[bT,bT,bT,bT,bT,bT,bT,bT,bT,bT,bT,bT,bT,bT,bT,bT,bT,bT,bT,bT,bT,bT,bT,bT,bT,bT,bT,bT,bT,bT,bT,bT,bT,bT,bT,bT,bf,bf,bf,bf,bf,bf,bf,bf,bf,bf,bf,bf,bf,bf,bf,bf] (any_of HT_.out (by kernel_rfl)) ?_ ?_ ?_
            rotate_left
            ·intro w';go_simp;with_reducible rfl
            rotate_left
            ·simp only [Act.put,q_ia11,q_cz11,q_cs11,i64_w,i32_w];rfl
            refine pQ (i:=37) (N:=some 75) (v:=?_) (a':=?_) #[bT,bT,bT,bT,bT,bT,bT,bT,bT,bT,bT,bT,bT,bT,bT,bT,bT,bT,bT,bT,bT,bT,bT,bT,bT,bT,bT,bT,bT,bT,bT,bT,bT,bT,bT,bT,bf,bT,bf,bf,bf,bf,bf,bf,bf,bf,bf,bf,bf,bf,bf,bf] (any_of HT_.out (by kernel_rfl)) ?_ ?_ ?_
            rotate_left
            ·intro w';go_simp;with_reducible rfl
            rotate_left
            ·simp only [Act.put,q_ia11,q_cz11,q_cs11,i64_w,i32_w];rfl
            refine take_ (i:=36) (N:=some 74) (v:=?_) (a':=?_) #[bT,bT,bT,bT,bT,bT,bT,bT,bT,bT,bT,bT,bT,bT,bT,bT,bT,bT,bT,bT,bT,bT,bT,bT,bT,bT,bT,bT,bT,bT,bT,bT,bT,bT,bT,bT,bT,bT,bf,bf,bf,bf,bf,bf,bf,bf,bf,bf,bf,bf,bf,bf] rfl rfl (take_ofW HT_.out HW_.out (by kernel_rfl)) (fun _ _ _ h => h) (Or.inl ⟨by rfl,?_⟩) hHeld ?_ ?_
            rotate_left
            ·rintro w' ⟨s0,s1,s2,s3,s4,s5,s6,s7,s8,s9,s10,s11⟩
             go_simp
             with_reducible rfl
            rotate_left
            ·simp only [Act.put,q_ia11,q_cz11,q_cs11,i64_w,i32_w];rfl
            refine take_ (i:=38) (N:=some 76) (v:=?_) (a':=?_) #[bT,bT,bT,bT,bT,bT,bT,bT,bT,bT,bT,bT,bT,bT,bT,bT,bT,bT,bT,bT,bT,bT,bT,bT,bT,bT,bT,bT,bT,bT,bT,bT,bT,bT,bT,bT,bT,bT,bT,bf,bf,bf,bf,bf,bf,bf,bf,bf,bf,bf,bf,bf] rfl rfl (take_ofW HT_.out HW_.out (by kernel_rfl)) (fun _ _ _ h => h) (Or.inl ⟨by rfl,?_⟩) hHeld ?_ ?_
            rotate_left
            ·rintro w' ⟨s0,s1,s2,s3,s4,s5,s6,s7,s8,s9,s10,s11⟩
             go_simp
             with_reducible rfl
            rotate_left
            ·simp only [Act.put,q_ia11,q_cz11,q_cs11,i64_w,i32_w];rfl
            refine one_ (i:=39) (N:=some 77) #[bT,bT,bT,bT,bT,bT,bT,bT,bT,bT,bT,bT,bT,bT,bT,bT,bT,bT,bT,bT,bT,bT,bT,bT,bT,bT,bT,bT,bT,bT,bT,bT,bT,bT,bT,bT,bT,bT,bT,bT,bf,bf,bf,bf,bf,bf,bf,bf,bf,bf,bf,bf] rfl rfl (one_of HT_.out (by kernel_rfl)) (by decide) (fun K hK => ?_)
            refine goes_ Try.func21 (by kernel_rfl) rfl #[.string t425,.string t434] (by rfl) rfl rfl (by (try simp only [List.map_toArray,List.map_cons,List.map_nil]);first|done|rfl|(simp only [List.length_drop,List.length_take];rfl)) ?_
            with_reducible refine (laws_begins.calls t425 t434 true _ A54.out).mono ?_
            rintro e w' ⟨rfl,⟨nd,rfl⟩⟩
            refine ⟨_,rfl,?_⟩
            refine hK.out _ _ ⟨(bC BK418.out 0).trans rfl,(bC BK418.out 1).trans rfl,(bC BK418.out 2).trans rfl,(bC BK410.out 0).trans rfl,(bC BK410.out 1).trans rfl,(bC BK410.out 2).trans rfl,(bC BK435.out 0).trans rfl,(bC BK435.out 1).trans rfl,(bC BK435.out 2).trans rfl,(bC BK427.out 0).trans rfl,(bC BK427.out 1).trans rfl,(bC BK427.out 2).trans rfl⟩ (fun hHeld => ?_)
            clear hK K
            refine norm_ (a':=?_) ?_ ?_
            rotate_left
            ·show Act.put _ (some 77) _ = _
             simp only [Act.put,q_ia11,q_cz11,q_cs11,i64_w,i32_w]
             rfl
            refine pQ (i:=40) (N:=some 78) (v:=?_) (a':=?_) #[bT,bT,bT,bT,bT,bT,bT,bT,bT,bT,bT,bT,bT,bT,bT,bT,bT,bT,bT,bT,bT,bT,bT,bT,bT,bT,bT,bT,bT,bT,bT,bT,bT,bT,bT,bT,bT,bT,bT,bT,bT,bf,bf,bf,bf,bf,bf,bf,bf,bf,bf,bf] (any_of HT_.out (by kernel_rfl)) ?_ ?_ ?_
            rotate_left
            ·intro w';go_simp;with_reducible rfl
            rotate_left
            ·simp only [Act.put,q_ia11,q_cz11,q_cs11,i64_w,i32_w];rfl
            refine pQ (i:=41) (N:=some 79) (v:=?_) (a':=?_) #[bT,bT,bT,bT,bT,bT,bT,bT,bT,bT,bT,bT,bT,bT,bT,bT,bT,bT,bT,bT,bT,bT,bT,bT,bT,bT,bT,bT,bT,bT,bT,bT,bT,bT,bT,bT,bT,bT,bT,bT,bT,bT,bf,bf,bf,bf,bf,bf,bf,bf,bf,bf] (any_of HT_.out (by kernel_rfl)) ?_ ?_ ?_
            rotate_left
            ·intro w';go_simp;with_reducible rfl
            rotate_left
            ·simp only [Act.put,q_ia11,q_cz11,q_cs11,i64_w,i32_w];rfl
            refine pQ (i:=42) (N:=some 80) (v:=?_) (a':=?_) #[bT,bT,bT,bT,bT,bT,bT,bT,bT,bT,bT,bT,bT,bT,bT,bT,bT,bT,bT,bT,bT,bT,bT,bT,bT,bT,bT,bT,bT,bT,bT,bT,bT,bT,bT,bT,bT,bT,bT,bT,bT,bT,bT,bf,bf,bf,bf,bf,bf,bf,bf,bf] (any_of HT_.out (by kernel_rfl)) ?_ ?_ ?_
            rotate_left
            ·intro w';go_simp;with_reducible rfl
            rotate_left
            ·simp only [Act.put,q_ia11,q_cz11,q_cs11,i64_w,i32_w];rfl
            refine pQ (i:=43) (N:=some 81) (v:=?_) (a':=?_) #[bT,bT,bT,bT,bT,bT,bT,bT,bT,bT,bT,bT,bT,bT,bT,bT,bT,bT,bT,bT,bT,bT,bT,bT,bT,bT,bT,bT,bT,bT,bT,bT,bT,bT,bT,bT,bT,bT,bT,bT,bT,bT,bT,bT,bf,bf,bf,bf,bf,bf,bf,bf] (any_of HT_.out (by kernel_rfl)) ?_ ?_ ?_
            rotate_left
            ·intro w';go_simp;with_reducible rfl
            rotate_left
            ·simp only [Act.put,q_ia11,q_cz11,q_cs11,i64_w,i32_w];rfl
            refine pQ (i:=46) (N:=some 84) (v:=?_) (a':=?_) #[bT,bT,bT,bT,bT,bT,bT,bT,bT,bT,bT,bT,bT,bT,bT,bT,bT,bT,bT,bT,bT,bT,bT,bT,bT,bT,bT,bT,bT,bT,bT,bT,bT,bT,bT,bT,bT,bT,bT,bT,bT,bT,bT,bT,bf,bf,bT,bf,bf,bf,bf,bf] (any_of HT_.out (by kernel_rfl)) ?_ ?_ ?_
            rotate_left
            ·intro w';go_simp;with_reducible rfl
            rotate_left
            ·simp only [Act.put,q_ia11,q_cz11,q_cs11,i64_w,i32_w];rfl
            refine take_ (i:=44) (N:=some 82) (v:=?_) (a':=?_) #[bT,bT,bT,bT,bT,bT,bT,bT,bT,bT,bT,bT,bT,bT,bT,bT,bT,bT,bT,bT,bT,bT,bT,bT,bT,bT,bT,bT,bT,bT,bT,bT,bT,bT,bT,bT,bT,bT,bT,bT,bT,bT,bT,bT,bT,bf,bT,bf,bf,bf,bf,bf] rfl rfl (take_ofW HT_.out HW_.out (by kernel_rfl)) (fun _ _ _ h => h) (Or.inl ⟨by rfl,?_⟩) hHeld ?_ ?_
            rotate_left
            ·rintro w' ⟨s0,s1,s2,s3,s4,s5,s6,s7,s8,s9,s10,s11⟩
             go_simp
             with_reducible rfl
            rotate_left
            ·simp only [Act.put,q_ia11,q_cz11,q_cs11,i64_w,i32_w];rfl
            refine pQ (i:=45) (N:=some 83) (v:=?_) (a':=?_) #[bT,bT,bT,bT,bT,bT,bT,bT,bT,bT,bT,bT,bT,bT,bT,bT,bT,bT,bT,bT,bT,bT,bT,bT,bT,bT,bT,bT,bT,bT,bT,bT,bT,bT,bT,bT,bT,bT,bT,bT,bT,bT,bT,bT,bT,bT,bT,bf,bf,bf,bf,bf] (any_of HT_.out (by kernel_rfl)) ?_ ?_ ?_
            rotate_left
            ·intro w';go_simp;with_reducible rfl
            rotate_left
            ·simp only [Act.put,q_ia11,q_cz11,q_cs11,i64_w,i32_w];rfl
            refine take_ (i:=47) (N:=some 85) (v:=?_) (a':=?_) #[bT,bT,bT,bT,bT,bT,bT,bT,bT,bT,bT,bT,bT,bT,bT,bT,bT,bT,bT,bT,bT,bT,bT,bT,bT,bT,bT,bT,bT,bT,bT,bT,bT,bT,bT,bT,bT,bT,bT,bT,bT,bT,bT,bT,bT,bT,bT,bT,bf,bf,bf,bf] rfl rfl (take_ofW HT_.out HW_.out (by kernel_rfl)) (fun _ _ _ h => h) (Or.inl ⟨by rfl,?_⟩) hHeld ?_ ?_
            rotate_left
            ·rintro w' ⟨s0,s1,s2,s3,s4,s5,s6,s7,s8,s9,s10,s11⟩
             go_simp
             with_reducible rfl
            rotate_left
            ·simp only [Act.put,q_ia11,q_cz11,q_cs11,i64_w,i32_w];rfl
            refine pQ (i:=48) (N:=some 86) (v:=?_) (a':=?_) #[bT,bT,bT,bT,bT,bT,bT,bT,bT,bT,bT,bT,bT,bT,bT,bT,bT,bT,bT,bT,bT,bT,bT,bT,bT,bT,bT,bT,bT,bT,bT,bT,bT,bT,bT,bT,bT,bT,bT,bT,bT,bT,bT,bT,bT,bT,bT,bT,bT,bf,bf,bf] (any_of HT_.out (by kernel_rfl)) ?_ ?_ ?_
            rotate_left
            ·intro w';go_simp;with_reducible rfl
            rotate_left
            ·simp only [Act.put,q_ia11,q_cz11,q_cs11,i64_w,i32_w];rfl
            refine pQ (i:=49) (N:=some 87) (v:=?_) (a':=?_) #[bT,bT,bT,bT,bT,bT,bT,bT,bT,bT,bT,bT,bT,bT,bT,bT,bT,bT,bT,bT,bT,bT,bT,bT,bT,bT,bT,bT,bT,bT,bT,bT,bT,bT,bT,bT,bT,bT,bT,bT,bT,bT,bT,bT,bT,bT,bT,bT,bT,bT,bf,bf] (any_of HT_.out (by kernel_rfl)) ?_ ?_ ?_
            rotate_left
            ·intro w';go_simp;with_reducible rfl
            rotate_left
            ·simp only [Act.put,q_ia11,q_cz11,q_cs11,i64_w,i32_w];rfl
            refine pQ (i:=50) (N:=some 88) (v:=?_) (a':=?_) #[bT,bT,bT,bT,bT,bT,bT,bT,bT,bT,bT,bT,bT,bT,bT,bT,bT,bT,bT,bT,bT,bT,bT,bT,bT,bT,bT,bT,bT,bT,bT,bT,bT,bT,bT,bT,bT,bT,bT,bT,bT,bT,bT,bT,bT,bT,bT,bT,bT,bT,bT,bf] (any_of HT_.out (by kernel_rfl)) ?_ ?_ ?_
            rotate_left
            ·intro w';go_simp;with_reducible rfl
            rotate_left
            ·simp only [Act.put,q_ia11,q_cz11,q_cs11,i64_w,i32_w];rfl
            refine pQ (i:=51) (N:=some 2) (v:=?_) (a':=?_) #[bT,bT,bT,bT,bT,bT,bT,bT,bT,bT,bT,bT,bT,bT,bT,bT,bT,bT,bT,bT,bT,bT,bT,bT,bT,bT,bT,bT,bT,bT,bT,bT,bT,bT,bT,bT,bT,bT,bT,bT,bT,bT,bT,bT,bT,bT,bT,bT,bT,bT,bT,bT] (any_of HT_.out (by kernel_rfl)) ?_ ?_ ?_
            rotate_left
            ·intro w';go_simp;with_reducible rfl
            rotate_left
            ·simp only [Act.put,q_ia11,q_cz11,q_cs11,i64_w,i32_w];rfl
            refine done_ (done_of HT_.out (by kernel_rfl)) ?_
            try go_wp2
            go_ret
            exact ⟨by first|rfl|(simp [errW_none,errW_some] <;> rfl)|(simp [*,errW_none,errW_some] <;> rfl),by repeat (first|(with_reducible first|exact HB.out|apply lA|apply lN|apply lD|refine lS ?_ GE410.out|refine lS ?_ GE418.out|refine lS ?_ GE427.out|refine lS ?_ GE435.out)|exact HB.out)⟩
           ·replace c55:=Bool.eq_false_iff.mpr c55
            subst c55
            have H1 : (some false) = some r:=by rw [if_neg (show ¬ (false = true) by decide)] at H;exact H
            clear H
            have H:=H1
            clear H1
            exact absurd (HR_.out.symm.trans (Option.some.inj H).symm) (by decide)
         ·replace c31:=Bool.eq_false_iff.mpr c31
          subst c31
          have H1 : (some false) = some r:=by rw [if_neg (show ¬ (false = true) by decide)] at H;exact H
          clear H
          have H:=H1
          clear H1
          exact absurd (HR_.out.symm.trans (Option.some.inj H).symm) (by decide)
        ·rw [if_neg c28] at H
         have c28b0 : ((t414.length : Int) == (t405.length : Int)) = false:=beq_eq_false_iff_ne.mpr c28
         have c28b1 : ((t414.length : Int) != (t405.length : Int)) = true:=bne_iff_ne.mpr c28
         have c28b2 : (t414.length == t405.length) = false:=by first|simpa using c28|(simp at c28 ⊢;omega)
         exact absurd (HR_.out.symm.trans (Option.some.inj H).symm) (by decide)
       ·rw [if_neg c27] at H
        have c27b0 : ((t411.length : Int) == (t402.length : Int)) = false:=beq_eq_false_iff_ne.mpr c27
        have c27b1 : ((t411.length : Int) != (t402.length : Int)) = true:=bne_iff_ne.mpr c27
        have c27b2 : (t411.length == t402.length) = false:=by first|simpa using c27|(simp at c27 ⊢;omega)
        exact absurd (HR_.out.symm.trans (Option.some.inj H).symm) (by decide)
      ·rw [if_neg c26] at H
       have c26b0 : (t417.toList == x6_7.toList) = false:=beq_eq_false_iff_ne.mpr c26
       have c26b1 : (t417.toList != x6_7.toList) = true:=bne_iff_ne.mpr c26
       exact absurd (HR_.out.symm.trans (Option.some.inj H).symm) (by decide)
   ·rw [if_neg c7] at H
    exact absurd H (by simp)
  ·rw [if_neg c6] at H
   exact absurd H (by simp)

/-- THE ONE PURE STATEMENT of laws_FnSays: yours. -/
def laws_FnSays.Pure : Prop:=∀ (l0 : List Int),l0.length ≤ maxLen → l0.length * 1 ≤ 140737488351232 → (∀ x ∈ l0,(Lit.int .u8 x).wf = true) → ∃ k,laws_FnSays.f k l0 = some true
theorem laws_FnSays.walk (P : laws_FnSays.Pure) (a0 : Option Addr) (len0 cap0 : Nat) (z0 : List Int) (w : World) (w0 : (a0 = none ∧ len0 = 0 ∧ cap0 = 0 ∧ z0 = []) ∨ ∃ x,a0 = some x ∧ len0 ≤ cap0 ∧ cap0 ≤ maxLen ∧ z0.length = cap0 ∧ (∀ i,i < z0.length → w.cell? (x.add i) = some (.int .u8 (z0.getD i 0))) ∧ ∀ n ∈ z0,(Lit.int .u8 n).wf = true) (y0 : len0 * 1 ≤ 140737488351232) :
  Calls Try.prog 5 #[.slice a0 len0 cap0] w fun e w' => e = .returned (.bool true) ∧ Below w.heap.size w w':=by
 obtain ⟨l0,rfl,hr0,hm0,hw0,hc0⟩:=ReadsInt.ofRowC w0
 obtain ⟨k,h⟩:=P l0 hm0 y0 hw0
 refine (laws_FnSays.calls k _ _ l0 true w (Kd.C_of_reads (d:=(0 : Int)) (h1:=fun _ => rfl) hr0) hc0 h rfl).mono ?_
 rintro e w' ⟨rfl,hd⟩
 exact ⟨rfl,hd⟩

end Go.Proofs.Ytekngkljphlliaa.QFnSays
