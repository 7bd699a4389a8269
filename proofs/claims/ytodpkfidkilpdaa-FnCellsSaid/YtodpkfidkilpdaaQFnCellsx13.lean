-- A text of this session, made by wip/own_print.py (the kit's print with additions of ours).
import Derived.Test.YtodpkfidkilpdaaQFnCellsx0
import Derived.Test.YtodpkfidkilpdaaQFnCellsx3
import Derived.Test.YtodpkfidkilpdaaQFnCellsx4
import Derived.Test.YtodpkfidkilpdaaQFnCellsx6
import Derived.Test.YtodpkfidkilpdaaQFnCellsx9
import Derived.Test.YtodpkfidkilpdaaQFnCellsx10
import Derived.Test.YtodpkfidkilpdaaQFnCellsx11
import Derived.Test.YtodpkfidkilpdaaQFnCellsx12
namespace Go.Proofs.Ytodpkfidkilpdaa.QFnCells
open Go.RowKit Go.Proofs.YtodpkfidkilpdaaW.PrintWords Go.Proofs.YtodpkfidkilpdaaW.PrintLast Go.Proofs.YtodpkfidkilpdaaW.PrintMore
attribute [local go_sem] max2_int min2_int max_two min_two max_three min_three max_four min_four   -- for this text's walks alone
set_option linter.unusedVariables false
set_option linter.unusedSimpArgs false
open Bool renaming true → bT, false → bf
open Go.Proofs.YtodpkfidkilpdaaW.PrintWords.Kd renaming R_alloc → rA, R_drewN → rN, R_drew → rD, C_alloc → cA, C_drewN → cN, C_drew → cD, R_far → rF, R_below → rB, R_lower → rL, R_lt → rT, R_base → rS, C_below → cB, R_types → rY, R_elder' → rE, R_reads' → rR, R_new' → rW
open Go.Proofs.YtodpkfidkilpdaaW.PrintWords renaming blk_drewN → bN, blk_drew → bD, blk_alloc → bA, below_set → lS, pw_below_drewN → lN, below_drew1 → lD, below_alloc → lA, blk_cell → bC, blk_below → bB, below_size → lZ, below_step → lP, blk_lt → bL, blk_frozen → bF
open Go.Proofs.YtodpkfidkilpdaaW.PrintWords.Aside0 renaming mk → aM
theorem q_ia11 {α : Type} (l : List α) (i : Nat) (a : α) : l.toArray.setIfInBounds i a = (l.set i a).toArray := List.setIfInBounds_toArray ..
theorem q_cz11 {α : Type} (a b : α) (l : List α) : (a :: l).set 0 b = b :: l := rfl
theorem q_cs11 {α : Type} (a b : α) (l : List α) (n : Nat) : (a :: l).set (n + 1) b = a :: l.set n b := rfl

/-! ### laws_FnCells: function 10 -/
def laws_FnCells.l0 : Nat → ByteArray → Int → List (S53) → List (S57) → ByteArray → List (S53) → List (S57) → ByteArray → List (S53) → List (S57) → ByteArray → Option (Bool)
 | 0, _, _, _, _, _, _, _, _, _, _, _ => none
 | k + 1, x5, x8, x379000, x379001, x379002, x392000, x392001, x392002, x400000, x400001, x400002 => if x8 < (x379001.length : Int) then (if 0 ≤ x8 then (if ((rd_T57 x379001 x8).f0).toList = ([116] : List UInt8) then (if ((rd_T57 x379001 x8).f1).toList = x5.toList then (laws_FnCells.l0 k x5 (wrap64 (x8 + 1)) x379000 x379001 x379002 x392000 x392001 x392002 x400000 x400001 x400002) else ((impl_CellOf.f k x400000 x400001 x400002 ((rd_T57 x379001 x8).f0) ((rd_T57 x379001 x8).f1)).bind fun t402 => (if t402.toList = ((rd_T57 x379001 x8).f2).toList then (laws_FnCells.l0 k x5 (wrap64 (x8 + 1)) x379000 x379001 x379002 x392000 x392001 x392002 x400000 x400001 x400002) else (some false)))) else ((impl_CellOf.f k x400000 x400001 x400002 ((rd_T57 x379001 x8).f0) ((rd_T57 x379001 x8).f1)).bind fun t403 => (if t403.toList = ((rd_T57 x379001 x8).f2).toList then (laws_FnCells.l0 k x5 (wrap64 (x8 + 1)) x379000 x379001 x379002 x392000 x392001 x392002 x400000 x400001 x400002) else (some false)))) else (none)) else ((impl_StoreOk.f k x392000 x392001 x392002).bind fun t404 => (if t404 = true then ((impl_CellOf.f k x392000 x392001 x392002 (⟨#[116]⟩ : ByteArray) x5).bind fun t405 => (if t405.toList = ([118] : List UInt8) then ((impl_CellOf.f k x400000 x400001 x400002 (⟨#[116]⟩ : ByteArray) x5).bind fun t406 => (if t406.toList = ([119] : List UInt8) then (if (x400001.length : Int) = (x392001.length : Int) then ((impl_CellOf.f k x379000 x379001 x379002 (⟨#[116]⟩ : ByteArray) (⟨#[110, 111, 110, 101]⟩ : ByteArray)).bind fun t407 => (if t407.toList = ([] : List UInt8) then (if (x392000.length : Int) = (x379000.length : Int) then ((spec_SetCell.f k x379000 x379001 x379002 (⟨#[116]⟩ : ByteArray) x5 (⟨#[119]⟩ : ByteArray)).bind fun bt408 => ((spec_SameStore.f k x400000 x400001 x400002 bt408.1 bt408.2.1 bt408.2.2).bind fun t415 => (some t415))) else (some false)) else (some false))) else (some false)) else (some false))) else (some false))) else (some false)))
def laws_FnCells.f (k : Nat) (l0 : List Int) : Option (Bool) := (laws_big.f l0).bind fun t370 => (if t370 = true then (some true) else ((spec_DrawStore.f k l0).bind fun bt371 => ((spec_DrawPlaces.f k l0).bind fun t379 => (if 0 < (t379.length : Int) then ((spec_Decimal.f k (Int.tmod (rd t379 0) 5)).bind fun t383 => (if 3 + t383.size ≤ 9223372036854775807 then ((impl_SetCell.f k bt371.1 bt371.2.1 bt371.2.2 (⟨#[116]⟩ : ByteArray) ((⟨#[107, 101, 121]⟩ : ByteArray) ++ t383) (⟨#[118]⟩ : ByteArray)).bind fun bt384 => ((impl_SetCell.f k bt384.1 bt384.2.1 bt384.2.2 (⟨#[116]⟩ : ByteArray) ((⟨#[107, 101, 121]⟩ : ByteArray) ++ t383) (⟨#[119]⟩ : ByteArray)).bind fun bt392 => (laws_FnCells.l0 k ((⟨#[107, 101, 121]⟩ : ByteArray) ++ t383) 0 bt371.1 bt371.2.1 bt371.2.2 bt384.1 bt384.2.1 bt384.2.2 bt392.1 bt392.2.1 bt392.2.2))) else (none))) else (none)))))
theorem laws_FnCells.mono_l : ∀ k, (∀ y0 y1 y2 y3 y4 y5 y6 y7 y8 y9 y10, LeO (laws_FnCells.l0 k y0 y1 y2 y3 y4 y5 y6 y7 y8 y9 y10) (laws_FnCells.l0 (k + 1) y0 y1 y2 y3 y4 y5 y6 y7 y8 y9 y10))
 | 0 => fun _ _ _ _ _ _ _ _ _ _ _ r h => by simp [laws_FnCells.l0] at h
 | k + 1 => by
  have ih0 := laws_FnCells.mono_l k
  ·intro y0 y1 y2 y3 y4 y5 y6 y7 y8 y9 y10
   unfold laws_FnCells.l0
   repeat' first
   | (with_reducible exact ih0 _ _ _ _ _ _ _ _ _ _ _)
   | (with_reducible exact impl_CellOf.mono _ _ _ _ _ _)
   | (with_reducible exact impl_SetCell.mono _ _ _ _ _ _ _)
   | (with_reducible exact impl_StoreOk.mono _ _ _ _)
   | (with_reducible exact spec_Decimal.mono _ _)
   | (with_reducible exact spec_DrawPlaces.mono _ _)
   | (with_reducible exact spec_DrawStore.mono _ _)
   | (with_reducible exact spec_SameStore.mono _ _ _ _ _ _ _)
   | (with_reducible exact spec_SetCell.mono _ _ _ _ _ _ _)
   | (with_reducible exact LeO.refl _)
   | (with_reducible exact LeO.none _)
   | (with_reducible refine LeO.ite ?_ ?_)
   | (with_reducible refine LeO.bind ?_ (fun _ => ?_))
   | exact ih0 _ _ _ _ _ _ _ _ _ _ _
   | exact impl_CellOf.mono _ _ _ _ _ _
   | exact impl_SetCell.mono _ _ _ _ _ _ _
   | exact impl_StoreOk.mono _ _ _ _
   | exact spec_Decimal.mono _ _
   | exact spec_DrawPlaces.mono _ _
   | exact spec_DrawStore.mono _ _
   | exact spec_SameStore.mono _ _ _ _ _ _ _
   | exact spec_SetCell.mono _ _ _ _ _ _ _
   | exact LeO.none _
   | refine LeO.ite ?_ ?_
   | refine LeO.bind ?_ (fun _ => ?_)
theorem laws_FnCells.mono : ∀ a0 k, LeO (laws_FnCells.f k a0) (laws_FnCells.f (k + 1) a0) := by
 intro a0 k
 have ih0 := laws_FnCells.mono_l k
 unfold laws_FnCells.f
 repeat' first
   | (with_reducible exact ih0 _ _ _ _ _ _ _ _ _ _ _)
   | (with_reducible exact impl_CellOf.mono _ _ _ _ _ _)
   | (with_reducible exact impl_SetCell.mono _ _ _ _ _ _ _)
   | (with_reducible exact impl_StoreOk.mono _ _ _ _)
   | (with_reducible exact spec_Decimal.mono _ _)
   | (with_reducible exact spec_DrawPlaces.mono _ _)
   | (with_reducible exact spec_DrawStore.mono _ _)
   | (with_reducible exact spec_SameStore.mono _ _ _ _ _ _ _)
   | (with_reducible exact spec_SetCell.mono _ _ _ _ _ _ _)
   | (with_reducible exact LeO.refl _)
   | (with_reducible exact LeO.none _)
   | (with_reducible refine LeO.ite ?_ ?_)
   | (with_reducible refine LeO.bind ?_ (fun _ => ?_))
   | exact ih0 _ _ _ _ _ _ _ _ _ _ _
   | exact impl_CellOf.mono _ _ _ _ _ _
   | exact impl_SetCell.mono _ _ _ _ _ _ _
   | exact impl_StoreOk.mono _ _ _ _
   | exact spec_Decimal.mono _ _
   | exact spec_DrawPlaces.mono _ _
   | exact spec_DrawStore.mono _ _
   | exact spec_SameStore.mono _ _ _ _ _ _ _
   | exact spec_SetCell.mono _ _ _ _ _ _ _
   | exact LeO.none _
   | refine LeO.ite ?_ ?_
   | refine LeO.bind ?_ (fun _ => ?_)
def laws_FnCells.T12 : Bool × List (List Nat × List Nat) := (true, [([], []), ([0], [0]), ([1], [1]), ([2], [2]), ([3], [3]), ([4, 3], [3, 4]), ([3], [3]), ([5, 6, 3], [3, 5, 6]), ([3, 7], [3, 7]), ([8, 3], [8]), ([9], [9]), ([9], [9]), ([11, 9], [9, 11]), ([9], [9]), ([13, 9], [9, 13]), ([10, 12, 14, 9, 9], [9, 10, 12, 14]), ([9], [9]), ([16, 9], [9, 16]), ([15, 17, 9], [9, 15, 17]), ([9, 18], [9, 18])])
def laws_FnCells.B12 : List Nat := [0, 1, 3, 7, 15, 31, 15, 127, 255, 511, 1023, 1023, 3071, 1023, 9215, 32767, 1023, 66559, 262143, 524287]
theorem laws_FnCells.tab12 : rtab .any (opsOf Try.f10 12) = laws_FnCells.T12 := by kernel_rfl
theorem laws_FnCells.bits12 : waitsOk laws_FnCells.T12.2 laws_FnCells.B12 = true := by kernel_rfl
def laws_FnCells.T14 : Bool × List (List Nat × List Nat) := (true, [([], []), ([0], [0]), ([1, 1], [1]), ([2], [2]), ([2], [2]), ([3, 4, 2, 2], [2, 3, 4]), ([5, 2], [2, 5]), ([2, 6], [2, 6]), ([7, 5], [7]), ([8], [8]), ([8], [8]), ([9, 10, 8, 8], [8, 9, 10]), ([11, 8], [8, 11]), ([8, 12], [8, 12]), ([13, 11], [13]), ([14], [14]), ([15, 14], [14, 15]), ([16, 14], [14, 16]), ([14], [14]), ([18, 14], [14, 18]), ([19, 14], [14, 19]), ([17, 20, 14], [14, 17, 20]), ([14, 21], [14, 21]), ([22, 14], [22]), ([23], [23]), ([24, 23, 23], [23, 24]), ([25, 23], [23, 25]), ([23, 26], [23, 26]), ([27, 25], [27]), ([28], [28]), ([29, 28], [28, 29]), ([30, 28], [28, 30]), ([28], [28]), ([32, 28], [28, 32]), ([33, 28], [28, 33]), ([31, 34, 28], [28, 31, 34]), ([28, 35], [28, 35]), ([36, 28], [36]), ([37], [37]), ([37], [37]), ([37], [37]), ([39, 40, 37, 37], [37, 39, 40]), ([38, 41, 41, 37], [37, 38, 41]), ([37, 42], [37, 42]), ([43, 42, 0, 1, 2, 3, 4, 5, 6, 7, 8, 9, 10, 11, 12, 13, 14, 15, 16, 17, 18, 19, 20, 21, 22, 23, 24, 25, 26, 27, 28, 29, 30, 31, 32, 33, 34, 35, 36, 37, 38, 39, 40, 41, 42, 43], [43])])
def laws_FnCells.B14 : List Nat := [0, 1, 3, 7, 7, 31, 63, 127, 255, 511, 511, 2047, 4095, 8191, 16383, 32767, 65535, 131071, 32767, 294911, 819199, 2097151, 4194303, 8388607, 16777215, 33554431, 67108863, 134217727, 268435455, 536870911, 1073741823, 2147483647, 536870911, 4831838207, 13421772799, 34359738367, 68719476735, 137438953471, 274877906943, 274877906943, 274877906943, 1924145348607, 4398046511103, 8796093022207, 17592186044415]
theorem laws_FnCells.tab14 : rtab .any (opsOf Try.f10 14) = laws_FnCells.T14 := by kernel_rfl
theorem laws_FnCells.bits14 : waitsOk laws_FnCells.T14.2 laws_FnCells.B14 = true := by kernel_rfl
set_option maxHeartbeats 8000000 in
set_option maxRecDepth 100000 in
theorem laws_FnCells.calls (k : Nat) (A0 : Option Addr) (c0 : Nat) (l0 : List Int) (r : Bool) (w : World) (hr0 : Kd.C (Kd.int .u8) w A0 l0.length l0) (hc0 : l0.length ≤ c0) (h : laws_FnCells.f k l0 = some r) (hr_ : r = true:=by first|rfl|assumption|exact Aside0.out (by assumption)) :
  Calls Try.prog 10 #[.slice A0 l0.length c0] w fun e w' => e = .returned (.bool r) ∧ Below w.heap.size w w':=by
 have hu38:=Try.underlying38
 have hu57:=Try.underlying57
 have HR0:=aM hr0
 have HC0:=aM hc0
 clear hr0 hc0
 have HB:=aM (Below.refl w.heap.size w)
 have H : ((laws_big.f l0).bind fun t370 => (if t370 = true then (some true) else ((spec_DrawStore.f k l0).bind fun bt371 => ((spec_DrawPlaces.f k l0).bind fun t379 => (if 0 < (t379.length : Int) then ((spec_Decimal.f k (Int.tmod (rd t379 0) 5)).bind fun t383 => (if 3 + t383.size ≤ 9223372036854775807 then ((impl_SetCell.f k bt371.1 bt371.2.1 bt371.2.2 (⟨#[116]⟩ : ByteArray) ((⟨#[107,101,121]⟩ : ByteArray) ++ t383) (⟨#[118]⟩ : ByteArray)).bind fun bt384 => ((impl_SetCell.f k bt384.1 bt384.2.1 bt384.2.2 (⟨#[116]⟩ : ByteArray) ((⟨#[107,101,121]⟩ : ByteArray) ++ t383) (⟨#[119]⟩ : ByteArray)).bind fun bt392 => (laws_FnCells.l0 k ((⟨#[107,101,121]⟩ : ByteArray) ++ t383) 0 bt371.1 bt371.2.1 bt371.2.2 bt384.1 bt384.2.1 bt384.2.2 bt392.1 bt392.2.1 bt392.2.2))) else (none))) else (none)))))) = some r:=h
 clear h
 have HR_:=aM hr_
 clear hr_
 replace H:=Option.bind_eq_some_iff.mp H
 obtain ⟨t370,A20,H⟩:=H
 replace H : (if t370 = true then (some true) else ((spec_DrawStore.f k l0).bind fun bt371 => ((spec_DrawPlaces.f k l0).bind fun t379 => (if 0 < (t379.length : Int) then ((spec_Decimal.f k (Int.tmod (rd t379 0) 5)).bind fun t383 => (if 3 + t383.size ≤ 9223372036854775807 then ((impl_SetCell.f k bt371.1 bt371.2.1 bt371.2.2 (⟨#[116]⟩ : ByteArray) ((⟨#[107,101,121]⟩ : ByteArray) ++ t383) (⟨#[118]⟩ : ByteArray)).bind fun bt384 => ((impl_SetCell.f k bt384.1 bt384.2.1 bt384.2.2 (⟨#[116]⟩ : ByteArray) ((⟨#[107,101,121]⟩ : ByteArray) ++ t383) (⟨#[119]⟩ : ByteArray)).bind fun bt392 => (laws_FnCells.l0 k ((⟨#[107,101,121]⟩ : ByteArray) ++ t383) 0 bt371.1 bt371.2.1 bt371.2.2 bt384.1 bt384.2.1 bt384.2.2 bt392.1 bt392.2.1 bt392.2.2))) else (none))) else (none))))) = some r:=H
 have A2:=aM A20
 clear A20
 by_cases c3 : t370 = true
 ·subst c3
  have H1 : (some true) = some r:=by rw [if_pos rfl] at H;exact H
  clear H
  have H:=H1
  clear H1
  obtain rfl:=Option.some.inj H
  go_enter Try.func10,Try.ntmps10
  go_wp2_with (first|((with_reducible refine gate_callee (f:=16) rfl ?_);refine goesL_ (some 11) rfl rfl Try.func16 (by kernel_rfl) rfl #[.slice A0 l0.length c0] rfl (by (try simp only [List.map_toArray,List.map_cons,List.map_nil]);first|done|rfl|(simp only [List.length_drop,List.length_take];rfl)) ?_;(with_reducible refine (laws_big.calls _ _ l0 true _ ?side1 ?side2 A2.out).mono ?_);(case side1 => repeat (first|exact HR0.out|(with_reducible first|refine cA ?_ _|refine cN ?_ _|refine cD ?_)));(case side2 => exact HC0.out);rintro e w' ⟨rfl,⟨nd,rfl⟩⟩;refine ⟨_,rfl,?_⟩))
  go_ret
  exact ⟨by first|rfl|(simp [errW_none,errW_some] <;> rfl)|(simp [*,errW_none,errW_some] <;> rfl),by repeat (first|(with_reducible first|exact HB.out|apply lA|apply lN|apply lD)|exact HB.out)⟩
 ·replace c3:=Bool.eq_false_iff.mpr c3
  subst c3
  have H1 : ((spec_DrawStore.f k l0).bind fun bt371 => ((spec_DrawPlaces.f k l0).bind fun t379 => (if 0 < (t379.length : Int) then ((spec_Decimal.f k (Int.tmod (rd t379 0) 5)).bind fun t383 => (if 3 + t383.size ≤ 9223372036854775807 then ((impl_SetCell.f k bt371.1 bt371.2.1 bt371.2.2 (⟨#[116]⟩ : ByteArray) ((⟨#[107,101,121]⟩ : ByteArray) ++ t383) (⟨#[118]⟩ : ByteArray)).bind fun bt384 => ((impl_SetCell.f k bt384.1 bt384.2.1 bt384.2.2 (⟨#[116]⟩ : ByteArray) ((⟨#[107,101,121]⟩ : ByteArray) ++ t383) (⟨#[119]⟩ : ByteArray)).bind fun bt392 => (laws_FnCells.l0 k ((⟨#[107,101,121]⟩ : ByteArray) ++ t383) 0 bt371.1 bt371.2.1 bt371.2.2 bt384.1 bt384.2.1 bt384.2.2 bt392.1 bt392.2.1 bt392.2.2))) else (none))) else (none)))) = some r:=by rw [if_neg (show ¬ (false = true) by decide)] at H;exact H
  clear H
  have H:=H1
  clear H1
  replace H:=Option.bind_eq_some_iff.mp H
  obtain ⟨⟨t371,t374,t377⟩,A40,H⟩:=H
  replace H : ((spec_DrawPlaces.f k l0).bind fun t379 => (if 0 < (t379.length : Int) then ((spec_Decimal.f k (Int.tmod (rd t379 0) 5)).bind fun t383 => (if 3 + t383.size ≤ 9223372036854775807 then ((impl_SetCell.f k t371 t374 t377 (⟨#[116]⟩ : ByteArray) ((⟨#[107,101,121]⟩ : ByteArray) ++ t383) (⟨#[118]⟩ : ByteArray)).bind fun bt384 => ((impl_SetCell.f k bt384.1 bt384.2.1 bt384.2.2 (⟨#[116]⟩ : ByteArray) ((⟨#[107,101,121]⟩ : ByteArray) ++ t383) (⟨#[119]⟩ : ByteArray)).bind fun bt392 => (laws_FnCells.l0 k ((⟨#[107,101,121]⟩ : ByteArray) ++ t383) 0 t371 t374 t377 bt384.1 bt384.2.1 bt384.2.2 bt392.1 bt392.2.1 bt392.2.2))) else (none))) else (none))) = some r:=H
  have A4:=aM A40
  clear A40
  replace H:=Option.bind_eq_some_iff.mp H
  obtain ⟨t379,A50,H⟩:=H
  replace H : (if 0 < (t379.length : Int) then ((spec_Decimal.f k (Int.tmod (rd t379 0) 5)).bind fun t383 => (if 3 + t383.size ≤ 9223372036854775807 then ((impl_SetCell.f k t371 t374 t377 (⟨#[116]⟩ : ByteArray) ((⟨#[107,101,121]⟩ : ByteArray) ++ t383) (⟨#[118]⟩ : ByteArray)).bind fun bt384 => ((impl_SetCell.f k bt384.1 bt384.2.1 bt384.2.2 (⟨#[116]⟩ : ByteArray) ((⟨#[107,101,121]⟩ : ByteArray) ++ t383) (⟨#[119]⟩ : ByteArray)).bind fun bt392 => (laws_FnCells.l0 k ((⟨#[107,101,121]⟩ : ByteArray) ++ t383) 0 t371 t374 t377 bt384.1 bt384.2.1 bt384.2.2 bt392.1 bt392.2.1 bt392.2.2))) else (none))) else (none)) = some r:=H
  have A5:=aM A50
  clear A50
  by_cases c6 : 0 < (t379.length : Int)
  ·rw [if_pos c6] at H
   have c6b0 : decide (0 < (t379.length : Int)) = true:=decide_eq_true c6
   have c6b1 : decide (0 < t379.length) = true:=decide_eq_true (by omega)
   clear c6
   replace H:=Option.bind_eq_some_iff.mp H
   obtain ⟨t383,A70,H⟩:=H
   replace H : (if 3 + t383.size ≤ 9223372036854775807 then ((impl_SetCell.f k t371 t374 t377 (⟨#[116]⟩ : ByteArray) ((⟨#[107,101,121]⟩ : ByteArray) ++ t383) (⟨#[118]⟩ : ByteArray)).bind fun bt384 => ((impl_SetCell.f k bt384.1 bt384.2.1 bt384.2.2 (⟨#[116]⟩ : ByteArray) ((⟨#[107,101,121]⟩ : ByteArray) ++ t383) (⟨#[119]⟩ : ByteArray)).bind fun bt392 => (laws_FnCells.l0 k ((⟨#[107,101,121]⟩ : ByteArray) ++ t383) 0 t371 t374 t377 bt384.1 bt384.2.1 bt384.2.2 bt392.1 bt392.2.1 bt392.2.2))) else (none)) = some r:=H
   have A7:=aM A70
   clear A70
   by_cases c8 : 3 + t383.size ≤ 9223372036854775807
   ·rw [if_pos c8] at H
    have c8b0:=eq_true c8
    have c8b1 : decide (3 + t383.size ≤ 9223372036854775807) = true:=decide_eq_true c8
    try have c8b2 : (9223372036854775807 < 3 + t383.size) = False:=eq_false (Nat.not_lt.2 c8)
    replace H:=Option.bind_eq_some_iff.mp H
    obtain ⟨⟨t384,t387,t390⟩,A90,H⟩:=H
    replace H : ((impl_SetCell.f k t384 t387 t390 (⟨#[116]⟩ : ByteArray) ((⟨#[107,101,121]⟩ : ByteArray) ++ t383) (⟨#[119]⟩ : ByteArray)).bind fun bt392 => (laws_FnCells.l0 k ((⟨#[107,101,121]⟩ : ByteArray) ++ t383) 0 t371 t374 t377 t384 t387 t390 bt392.1 bt392.2.1 bt392.2.2)) = some r:=H
    have A9:=aM A90
    clear A90
    replace H:=Option.bind_eq_some_iff.mp H
    obtain ⟨⟨t392,t395,t398⟩,A100,H⟩:=H
    replace H : (laws_FnCells.l0 k ((⟨#[107,101,121]⟩ : ByteArray) ++ t383) 0 t371 t374 t377 t384 t387 t390 t392 t395 t398) = some r:=H
    have A10:=aM A100
    clear A100
    have H':=aM H
    clear H
    go_enter Try.func10,Try.ntmps10
    go_wp2_with (first|((with_reducible refine gate_callee (f:=16) rfl ?_);refine goesL_ (some 11) rfl rfl Try.func16 (by kernel_rfl) rfl #[.slice A0 l0.length c0] rfl (by (try simp only [List.map_toArray,List.map_cons,List.map_nil]);first|done|rfl|(simp only [List.length_drop,List.length_take];rfl)) ?_;(with_reducible refine (laws_big.calls _ _ l0 false _ ?side1 ?side2 A2.out).mono ?_);(case side1 => repeat (first|exact HR0.out|(with_reducible first|refine cA ?_ _|refine cN ?_ _|refine cD ?_)));(case side2 => exact HC0.out);rintro e w' ⟨rfl,⟨nd,rfl⟩⟩;refine ⟨_,rfl,?_⟩)|((with_reducible refine gate_callee (f:=32) rfl ?_);refine goesL_ (some 13) rfl rfl Try.func32 (by kernel_rfl) rfl #[.slice A0 l0.length c0] rfl (by (try simp only [List.map_toArray,List.map_cons,List.map_nil]);first|done|rfl|(simp only [List.length_drop,List.length_take];rfl)) ?_;(with_reducible refine (spec_DrawStore.calls k _ _ l0 t371 t374 t377 _ ?side1 ?side2 A4.out).mono ?_);(case side1 => repeat (first|exact HR0.out|(with_reducible first|refine cA ?_ _|refine cN ?_ _|refine cD ?_)));(case side2 => exact HC0.out);rintro e w11 ⟨v372,v375,rfl,ho0,ho1,hb⟩;refine ⟨_,rfl,?_⟩;have n0_:=aM (rL ho0 (lZ (by repeat (first|(with_reducible first|exact HB.out|apply lA|apply lN|apply lD)|exact HB.out))));have n1_:=aM (rL ho1 (lZ (by repeat (first|(with_reducible first|exact HB.out|apply lA|apply lN|apply lD)|exact HB.out))));have n2_:=aM (lQ HB.out hb);clear HB;have HO373:=n0_;have HO376:=n1_;have HB:=n2_;clear n0_ n1_ n2_;(try clear hb);(try clear hb2);(try clear hk);(try clear hi);(try clear ho0);(try clear ho1))|((with_reducible refine gate_dst (N:=3) rfl ?_);(try (refine gate_guard (by rfl) ?_;dsimp only));refine box_event ?hg (N:=3) ?hd (cs:=#[.slice none 0 0,.slice none 0 0,.string (⟨#[]⟩ : ByteArray)]) (t:=38) ?hr ?_;(case hd => rfl);(case hg => rfl);(case hr => first|(go_simp;done)|(go_simp;rfl));intro gb378 hg w12 hbox hb;have n0_:=aM (rH HO373.out hb);have n1_:=aM (rH HO376.out hb);have n2_:=aM (lQ HB.out hb);have n3_:=aM (hbox);have n4_:=aM ((sQ hg HB.out : w.heap.size ≤ gb378));have n5_:=n4_;clear HO373 HO376 HB;have HO373:=n0_;have HO376:=n1_;have HB:=n2_;have BK378:=n3_;have GW378:=n4_;have GE378:=n5_;clear n0_ n1_ n2_ n3_ n4_ n5_ hb hbox hg;obtain ⟨Ao13,co13,eo13⟩:=Kd.R_slice HO373.out;subst eo13;obtain ⟨⟨hcz14_0,hcz14_1,hcz14_2⟩,hfz14_0,hfz14_1,hfz14_2⟩:=bC3 BK378.out;obtain ⟨Ao15,co15,eo15⟩:=Kd.R_slice HO376.out;subst eo15)|((with_reducible refine gate_callee (f:=33) rfl ?_);refine goesL_ (some 15) rfl rfl Try.func33 (by kernel_rfl) rfl #[.slice A0 l0.length c0] rfl (by (try simp only [List.map_toArray,List.map_cons,List.map_nil]);first|done|rfl|(simp only [List.length_drop,List.length_take];rfl)) ?_;(with_reducible refine (spec_DrawPlaces.calls k _ _ l0 t379 _ ?side1 ?side2 A5.out).mono ?_);(case side1 => exact cB HR0.out (by repeat (first|(with_reducible first|exact HB.out|apply lA|apply lN|apply lD|refine lS ?_ GE378.out)|exact HB.out)));(case side2 => exact HC0.out);rintro e w16 ⟨v380,rfl,ho0,hb⟩;refine ⟨_,rfl,?_⟩;have n0_:=aM (rB (by (with_reducible repeat (first|apply rA|apply rN|apply rD));exact (Kd.R_mono (rF (rF (rF (rY HO373.out BK378.out (by decide)) (fun _ hk => hk.2) _) (fun _ hk => hk.2) _) (fun _ hk => hk.2) _) (fun _ h_ => h_.1))) hb);have n1_:=aM (rB (by (with_reducible repeat (first|apply rA|apply rN|apply rD));exact (Kd.R_mono (rF (rF (rF (rY HO376.out BK378.out (by decide)) (fun _ hk => hk.2) _) (fun _ hk => hk.2) _) (fun _ hk => hk.2) _) (fun _ h_ => h_.1))) hb);have n2_:=aM (rL ho0 (lZ (by repeat (first|(with_reducible first|exact HB.out|apply lA|apply lN|apply lD|refine lS ?_ GE378.out)|exact HB.out))));have n3_:=aM (bB (g:=gb378) (o:=.cells #[.slice Ao13 t371.length co13,.slice Ao15 t374.length co15,.string t377] 38 (0,0)) (by (with_reducible repeat (first|refine bN ?_ _|refine bD ?_|refine bA ?_ _));refine blk_put (cs:=#[.slice Ao13 t371.length co13,.slice Ao15 t374.length co15,.string (⟨#[]⟩ : ByteArray)]) ?_ 2 _ rfl;(with_reducible repeat (first|refine bN ?_ _|refine bD ?_|refine bA ?_ _));refine blk_put (cs:=#[.slice Ao13 t371.length co13,.slice none 0 0,.string (⟨#[]⟩ : ByteArray)]) ?_ 1 _ rfl;(with_reducible repeat (first|refine bN ?_ _|refine bD ?_|refine bA ?_ _));refine blk_put (cs:=#[.slice none 0 0,.slice none 0 0,.string (⟨#[]⟩ : ByteArray)]) ?_ 0 _ rfl;(with_reducible repeat (first|refine bN ?_ _|refine bD ?_|refine bA ?_ _));exact BK378.out) hb);have n4_:=aM (lQ HB.out hb);clear HO373 HO376 BK378 HB;have HO373:=n0_;have HO376:=n1_;have HO381:=n2_;have BK378:=n3_;have HB:=n4_;clear n0_ n1_ n2_ n3_ n4_;(try clear hb);(try clear hb2);(try clear hk);(try clear hi);(try clear ho0);obtain ⟨Ao17,co17,eo17⟩:=Kd.R_slice HO381.out;subst eo17;have p382 : 0 ≤ (0 : Int):=(by omega);have q382 : 0 < (t379.length : Int):=of_decide_eq_true (by first|(with_reducible assumption)|assumption);obtain ⟨ad382,e382,hx382_0⟩:=Kd.at_int (rR HO381.out).2.2 0 p382 q382;cases e382;have qi382 : (0 < t379.length) = True:=eq_true (by omega);(try rw [show ((0 : Int)).toNat = 0 from rfl] at hx382_0);(try rw [Addr.add_zero'] at hx382_0);replace p382:=eq_true p382;replace q382:=eq_true q382)|((with_reducible refine gate_callee (f:=34) rfl ?_);refine goesL_ (some 20) rfl rfl Try.func34 (by kernel_rfl) rfl #[.int .i64 (Int.tmod (rd t379 0) 5)] rfl (by (try simp only [List.map_toArray,List.map_cons,List.map_nil]);first|done|rfl|(simp only [List.length_drop,List.length_take];rfl)) ?_;(with_reducible refine (spec_Decimal.calls k (Int.tmod (rd t379 0) 5) t383 _ A7.out).mono ?_);rintro e w18 ⟨rfl,hb⟩;refine ⟨_,rfl,?_⟩;have n0_:=aM (rH HO373.out hb);have n1_:=aM (rH HO376.out hb);have n2_:=aM (rH HO381.out hb);have n3_:=aM (bH BK378.out hb);have n4_:=aM (lQ HB.out hb);clear HO373 HO376 HO381 BK378 HB;have HO373:=n0_;have HO376:=n1_;have HO381:=n2_;have BK378:=n3_;have HB:=n4_;clear n0_ n1_ n2_ n3_ n4_;(try clear hb);(try clear hb2);(try clear hk);(try clear hi);obtain ⟨⟨hcz19_0,hcz19_1,hcz19_2⟩,hfz19_0,hfz19_1,hfz19_2⟩:=bC3 BK378.out)|((with_reducible refine gate_callee (f:=31) rfl ?_);refine goesL_ (some 24) rfl rfl Try.func31 (by kernel_rfl) rfl #[.agg #[.slice Ao13 t371.length co13,.slice Ao15 t374.length co15,.string t377],.string (⟨#[116]⟩ : ByteArray),.string ((⟨#[107,101,121]⟩ : ByteArray) ++ t383),.string (⟨#[118]⟩ : ByteArray)] rfl (by (try simp only [List.map_toArray,List.map_cons,List.map_nil]);first|done|rfl|(simp only [List.length_drop,List.length_take];rfl)) ?_;(with_reducible refine (impl_SetCell.calls k _ _ t371 _ _ t374 t377 (⟨#[116]⟩ : ByteArray) ((⟨#[107,101,121]⟩ : ByteArray) ++ t383) (⟨#[118]⟩ : ByteArray) t384 t387 t390 _ ?side1 ?side2 ?side3 ?side4 A9.out).mono ?_);(case side1 => repeat (first|exact (rR HO373.out).2.2|(with_reducible first|refine cA ?_ _|refine cN ?_ _|refine cD ?_)));(case side2 => exact (rR HO373.out).2.1);(case side3 => repeat (first|exact (rR HO376.out).2.2|(with_reducible first|refine cA ?_ _|refine cN ?_ _|refine cD ?_)));(case side4 => exact (rR HO376.out).2.1);rintro e w20 ⟨v385,v388,rfl,ho0,ho1,hb⟩;refine ⟨_,rfl,?_⟩;have n0_:=aM (rE (rZ HO373.out) (rS ho0) hb);have n1_:=aM (rE (rZ HO376.out) (rS ho1) hb);have n2_:=aM (rH HO381.out hb);have n3_:=aM (rL (rW ho0 (rT (rZ HO373.out))) (lZ (by repeat (first|(with_reducible first|exact HB.out|apply lA|apply lN|apply lD|refine lS ?_ GE378.out)|exact HB.out))));have n4_:=aM (rL (rW ho1 (rT (rZ HO376.out))) (lZ (by repeat (first|(with_reducible first|exact HB.out|apply lA|apply lN|apply lD|refine lS ?_ GE378.out)|exact HB.out))));have n5_:=aM (bH BK378.out hb);have n6_:=aM (lQ HB.out hb);clear HO373 HO376 HO381 BK378 HB;have HO373:=n0_;have HO376:=n1_;have HO381:=n2_;have HO386:=n3_;have HO389:=n4_;have BK378:=n5_;have HB:=n6_;clear n0_ n1_ n2_ n3_ n4_ n5_ n6_;(try clear hb);(try clear hb2);(try clear hk);(try clear hi);(try clear ho0);(try clear ho1))|((with_reducible refine gate_dst (N:=6) rfl ?_);(try (refine gate_guard (by rfl) ?_;dsimp only));refine box_event ?hg (N:=6) ?hd (cs:=#[.slice none 0 0,.slice none 0 0,.string (⟨#[]⟩ : ByteArray)]) (t:=38) ?hr ?_;(case hd => rfl);(case hg => rfl);(case hr => first|(go_simp;done)|(go_simp;rfl));intro gb391 hg w21 hbox hb;have n0_:=aM (rH HO373.out hb);have n1_:=aM (rH HO376.out hb);have n2_:=aM (rH HO381.out hb);have n3_:=aM (rH HO386.out hb);have n4_:=aM (rH HO389.out hb);have n5_:=aM (bH BK378.out hb);have n6_:=aM (lQ HB.out hb);have n7_:=aM (hbox);have n8_:=aM ((sQ hg HB.out : w.heap.size ≤ gb391));have n9_:=n8_;have n10_:=aM ((nL hg BK378.out : gb378 ≠ gb391));have n11_:=aM ((nG hg BK378.out : gb391 ≠ gb378));clear HO373 HO376 HO381 HO386 HO389 BK378 HB;have HO373:=n0_;have HO376:=n1_;have HO381:=n2_;have HO386:=n3_;have HO389:=n4_;have BK378:=n5_;have HB:=n6_;have BK391:=n7_;have GW391:=n8_;have GE391:=n9_;have NB378_391:=n10_;have NB391_378:=n11_;clear n0_ n1_ n2_ n3_ n4_ n5_ n6_ n7_ n8_ n9_ n10_ n11_ hb hbox hg;obtain ⟨Ao22,co22,eo22⟩:=Kd.R_slice HO386.out;subst eo22;have hnb23:=NB391_378.out;have hnc23:=NB378_391.out;obtain ⟨⟨hcz24_0,hcz24_1,hcz24_2⟩,hfz24_0,hfz24_1,hfz24_2⟩:=bC3 BK391.out;obtain ⟨Ao25,co25,eo25⟩:=Kd.R_slice HO389.out;subst eo25)|((with_reducible refine gate_callee (f:=31) rfl ?_);refine goesL_ (some 27) rfl rfl Try.func31 (by kernel_rfl) rfl #[.agg #[.slice Ao22 t384.length co22,.slice Ao25 t387.length co25,.string t390],.string (⟨#[116]⟩ : ByteArray),.string ((⟨#[107,101,121]⟩ : ByteArray) ++ t383),.string (⟨#[119]⟩ : ByteArray)] rfl (by (try simp only [List.map_toArray,List.map_cons,List.map_nil]);first|done|rfl|(simp only [List.length_drop,List.length_take];rfl)) ?_;(with_reducible refine (impl_SetCell.calls k _ _ t384 _ _ t387 t390 (⟨#[116]⟩ : ByteArray) ((⟨#[107,101,121]⟩ : ByteArray) ++ t383) (⟨#[119]⟩ : ByteArray) t392 t395 t398 _ ?side1 ?side2 ?side3 ?side4 A10.out).mono ?_);(case side1 => refine (rR (e:=53) (base:=w.heap.size) (ok:=fun k_ => (True ∧ some k_ ≠ (.slice Ao13 t371.length co13 : Value).ownBlock)) (n:=t384.length) (c:=co22) ?_).2.2;exact (by (with_reducible repeat (first|apply rA|apply rN|apply rD));exact (Kd.R_mono (rF (rF (rF (rY HO386.out BK391.out (by decide)) (fun _ hk => hk.2) _) (fun _ hk => hk.2) _) (fun _ hk => hk.2) _) (fun _ h_ => h_.1))));(case side2 => exact (rR HO386.out).2.1);(case side3 => refine (rR (e:=57) (base:=w.heap.size) (ok:=fun k_ => (True ∧ some k_ ≠ (.slice Ao15 t374.length co15 : Value).ownBlock)) (n:=t387.length) (c:=co25) ?_).2.2;exact (by (with_reducible repeat (first|apply rA|apply rN|apply rD));exact (Kd.R_mono (rF (rF (rF (rY HO389.out BK391.out (by decide)) (fun _ hk => hk.2) _) (fun _ hk => hk.2) _) (fun _ hk => hk.2) _) (fun _ h_ => h_.1))));(case side4 => exact (rR HO389.out).2.1);rintro e w26 ⟨v393,v396,rfl,ho0,ho1,hb⟩;refine ⟨_,rfl,?_⟩;have n0_:=aM (rE (by (with_reducible repeat (first|apply rA|apply rN|apply rD));exact (Kd.R_mono (rF (rF (rF (rY HO373.out BK391.out (by decide)) (fun _ hk => hk.2) _) (fun _ hk => hk.2) _) (fun _ hk => hk.2) _) (fun _ h_ => h_.1))) (rS ho0) hb);have n1_:=aM (rE (by (with_reducible repeat (first|apply rA|apply rN|apply rD));exact (Kd.R_mono (rF (rF (rF (rY HO376.out BK391.out (by decide)) (fun _ hk => hk.2) _) (fun _ hk => hk.2) _) (fun _ hk => hk.2) _) (fun _ h_ => h_.1))) (rS ho1) hb);have n2_:=aM (rB (by (with_reducible repeat (first|apply rA|apply rN|apply rD));exact (Kd.R_mono (rF (rF (rF (rY HO381.out BK391.out (by decide)) (fun _ hk => hk.2) _) (fun _ hk => hk.2) _) (fun _ hk => hk.2) _) (fun _ h_ => h_.1))) hb);have n3_:=aM (rE (by (with_reducible repeat (first|apply rA|apply rN|apply rD));exact (Kd.R_mono (rF (rF (rF (rY HO386.out BK391.out (by decide)) (fun _ hk => hk.2) _) (fun _ hk => hk.2) _) (fun _ hk => hk.2) _) (fun _ h_ => h_.1))) (rS ho0) hb);have n4_:=aM (rE (by (with_reducible repeat (first|apply rA|apply rN|apply rD));exact (Kd.R_mono (rF (rF (rF (rY HO389.out BK391.out (by decide)) (fun _ hk => hk.2) _) (fun _ hk => hk.2) _) (fun _ hk => hk.2) _) (fun _ h_ => h_.1))) (rS ho1) hb);have n5_:=aM (rL (rW (rW ho0 (rT (by (with_reducible repeat (first|apply rA|apply rN|apply rD));exact (Kd.R_mono (rF (rF (rF (rY HO373.out BK391.out (by decide)) (fun _ hk => hk.2) _) (fun _ hk => hk.2) _) (fun _ hk => hk.2) _) (fun _ h_ => h_.1))))) (rT (by (with_reducible repeat (first|apply rA|apply rN|apply rD));exact (Kd.R_mono (rF (rF (rF (rY HO386.out BK391.out (by decide)) (fun _ hk => hk.2) _) (fun _ hk => hk.2) _) (fun _ hk => hk.2) _) (fun _ h_ => h_.1))))) (lZ (by repeat (first|(with_reducible first|exact HB.out|apply lA|apply lN|apply lD|refine lS ?_ GE378.out|refine lS ?_ GE391.out)|exact HB.out))));have n6_:=aM (rL (rW (rW ho1 (rT (by (with_reducible repeat (first|apply rA|apply rN|apply rD));exact (Kd.R_mono (rF (rF (rF (rY HO376.out BK391.out (by decide)) (fun _ hk => hk.2) _) (fun _ hk => hk.2) _) (fun _ hk => hk.2) _) (fun _ h_ => h_.1))))) (rT (by (with_reducible repeat (first|apply rA|apply rN|apply rD));exact (Kd.R_mono (rF (rF (rF (rY HO389.out BK391.out (by decide)) (fun _ hk => hk.2) _) (fun _ hk => hk.2) _) (fun _ hk => hk.2) _) (fun _ h_ => h_.1))))) (lZ (by repeat (first|(with_reducible first|exact HB.out|apply lA|apply lN|apply lD|refine lS ?_ GE378.out|refine lS ?_ GE391.out)|exact HB.out))));have n7_:=aM (bB (g:=gb378) (o:=.cells #[.slice Ao13 t371.length co13,.slice Ao15 t374.length co15,.string t377] 38 (0,0)) (by (with_reducible repeat (first|refine bN ?_ _|refine bD ?_|refine bA ?_ _));refine blk_far ?_ NB378_391.out _;(with_reducible repeat (first|refine bN ?_ _|refine bD ?_|refine bA ?_ _));refine blk_far ?_ NB378_391.out _;(with_reducible repeat (first|refine bN ?_ _|refine bD ?_|refine bA ?_ _));refine blk_far ?_ NB378_391.out _;(with_reducible repeat (first|refine bN ?_ _|refine bD ?_|refine bA ?_ _));exact BK378.out) hb);have n8_:=aM (bB (g:=gb391) (o:=.cells #[.slice Ao22 t384.length co22,.slice Ao25 t387.length co25,.string t390] 38 (0,0)) (by (with_reducible repeat (first|refine bN ?_ _|refine bD ?_|refine bA ?_ _));refine blk_put (cs:=#[.slice Ao22 t384.length co22,.slice Ao25 t387.length co25,.string (⟨#[]⟩ : ByteArray)]) ?_ 2 _ rfl;(with_reducible repeat (first|refine bN ?_ _|refine bD ?_|refine bA ?_ _));refine blk_put (cs:=#[.slice Ao22 t384.length co22,.slice none 0 0,.string (⟨#[]⟩ : ByteArray)]) ?_ 1 _ rfl;(with_reducible repeat (first|refine bN ?_ _|refine bD ?_|refine bA ?_ _));refine blk_put (cs:=#[.slice none 0 0,.slice none 0 0,.string (⟨#[]⟩ : ByteArray)]) ?_ 0 _ rfl;(with_reducible repeat (first|refine bN ?_ _|refine bD ?_|refine bA ?_ _));exact BK391.out) hb);have n9_:=aM (lQ HB.out hb);clear HO373 HO376 HO381 HO386 HO389 BK378 BK391 HB;have HO373:=n0_;have HO376:=n1_;have HO381:=n2_;have HO386:=n3_;have HO389:=n4_;have HO394:=n5_;have HO397:=n6_;have BK378:=n7_;have BK391:=n8_;have HB:=n9_;clear n0_ n1_ n2_ n3_ n4_ n5_ n6_ n7_ n8_ n9_;(try clear hb);(try clear hb2);(try clear hk);(try clear hi);(try clear ho0);(try clear ho1))|((with_reducible refine gate_dst (N:=7) rfl ?_);(try (refine gate_guard (by rfl) ?_;dsimp only));refine box_event ?hg (N:=7) ?hd (cs:=#[.slice none 0 0,.slice none 0 0,.string (⟨#[]⟩ : ByteArray)]) (t:=38) ?hr ?_;(case hd => rfl);(case hg => rfl);(case hr => first|(go_simp;done)|(go_simp;rfl));intro gb399 hg w27 hbox hb;have n0_:=aM (rH HO373.out hb);have n1_:=aM (rH HO376.out hb);have n2_:=aM (rH HO381.out hb);have n3_:=aM (rH HO386.out hb);have n4_:=aM (rH HO389.out hb);have n5_:=aM (rH HO394.out hb);have n6_:=aM (rH HO397.out hb);have n7_:=aM (bH BK378.out hb);have n8_:=aM (bH BK391.out hb);have n9_:=aM (lQ HB.out hb);have n10_:=aM (hbox);have n11_:=aM ((sQ hg HB.out : w.heap.size ≤ gb399));have n12_:=n11_;have n13_:=aM ((nL hg BK378.out : gb378 ≠ gb399));have n14_:=aM ((nG hg BK378.out : gb399 ≠ gb378));have n15_:=aM ((nL hg BK391.out : gb391 ≠ gb399));have n16_:=aM ((nG hg BK391.out : gb399 ≠ gb391));clear HO373 HO376 HO381 HO386 HO389 HO394 HO397 BK378 BK391 HB;have HO373:=n0_;have HO376:=n1_;have HO381:=n2_;have HO386:=n3_;have HO389:=n4_;have HO394:=n5_;have HO397:=n6_;have BK378:=n7_;have BK391:=n8_;have HB:=n9_;have BK399:=n10_;have GW399:=n11_;have GE399:=n12_;have NB378_399:=n13_;have NB399_378:=n14_;have NB391_399:=n15_;have NB399_391:=n16_;clear n0_ n1_ n2_ n3_ n4_ n5_ n6_ n7_ n8_ n9_ n10_ n11_ n12_ n13_ n14_ n15_ n16_ hb hbox hg;obtain ⟨Ao28,co28,eo28⟩:=Kd.R_slice HO394.out;subst eo28;have hnb29:=NB399_378.out;have hnc29:=NB378_399.out;have hnb30:=NB399_391.out;have hnc30:=NB391_399.out;obtain ⟨⟨hcz31_0,hcz31_1,hcz31_2⟩,hfz31_0,hfz31_1,hfz31_2⟩:=bC3 BK399.out;obtain ⟨Ao32,co32,eo32⟩:=Kd.R_slice HO397.out;subst eo32))
    go_loopg [8] k (fun kq v8 w' => ∃ (x8_1 : Int),v8 = .int .i64 x8_1 ∧ Aside0 (laws_FnCells.l0 kq ((⟨#[107,101,121]⟩ : ByteArray) ++ t383) x8_1 t371 t374 t377 t384 t387 t390 t392 t395 t398 = some r) ∧ Aside0 (kq ≤ k) ∧ Aside0 (Kd.R k53 53 w' w.heap.size (fun k_ => some k_ ≠ ((.slice Ao22 t384.length co22) : Value).ownBlock ∧ some k_ ≠ ((.slice Ao28 t392.length co28) : Value).ownBlock) (.slice Ao13 t371.length co13) t371) ∧ Aside0 (Kd.R k57 57 w' w.heap.size (fun k_ => some k_ ≠ ((.slice Ao25 t387.length co25) : Value).ownBlock ∧ some k_ ≠ ((.slice Ao32 t395.length co32) : Value).ownBlock) (.slice Ao15 t374.length co15) t374) ∧ Aside0 (Kd.R k53 53 w' w.heap.size (fun k_ => some k_ ≠ ((.slice Ao13 t371.length co13) : Value).ownBlock ∧ some k_ ≠ ((.slice Ao28 t392.length co28) : Value).ownBlock) (.slice Ao22 t384.length co22) t384) ∧ Aside0 (Kd.R k57 57 w' w.heap.size (fun k_ => some k_ ≠ ((.slice Ao15 t374.length co15) : Value).ownBlock ∧ some k_ ≠ ((.slice Ao32 t395.length co32) : Value).ownBlock) (.slice Ao25 t387.length co25) t387) ∧ Aside0 (Kd.R k53 53 w' w.heap.size (fun k_ => some k_ ≠ ((.slice Ao13 t371.length co13) : Value).ownBlock ∧ some k_ ≠ ((.slice Ao22 t384.length co22) : Value).ownBlock) (.slice Ao28 t392.length co28) t392) ∧ Aside0 (Kd.R k57 57 w' w.heap.size (fun k_ => some k_ ≠ ((.slice Ao15 t374.length co15) : Value).ownBlock ∧ some k_ ≠ ((.slice Ao25 t387.length co25) : Value).ownBlock) (.slice Ao32 t395.length co32) t395) ∧ Aside0 (w'.heap[gb378]? = some (.cells #[(.slice Ao13 t371.length co13),(.slice Ao15 t374.length co15),.string t377] 38 (0,0))) ∧ Aside0 (w'.heap[gb391]? = some (.cells #[(.slice Ao22 t384.length co22),(.slice Ao25 t387.length co25),.string t390] 38 (0,0))) ∧ Aside0 (w'.heap[gb399]? = some (.cells #[(.slice Ao28 t392.length co28),(.slice Ao32 t395.length co32),.string t398] 38 (0,0))) ∧ Aside0 (Below w.heap.size w w'))
    case atStart => exact ⟨(0),(by first|rfl|(simp;done)|(simp [*];done)),H',⟨Nat.le_refl _⟩,⟨by (with_reducible repeat (first|apply rA|apply rN|apply rD));exact Kd.R_mono (rF (rF (rF (rY HO373.out BK399.out (by decide)) (fun _ hk => hk.2) _) (fun _ hk => hk.2) _) (fun _ hk => hk.2) _) (fun _ hk => ⟨hk.1.1.2,hk.1.2⟩)⟩,⟨by (with_reducible repeat (first|apply rA|apply rN|apply rD));exact Kd.R_mono (rF (rF (rF (rY HO376.out BK399.out (by decide)) (fun _ hk => hk.2) _) (fun _ hk => hk.2) _) (fun _ hk => hk.2) _) (fun _ hk => ⟨hk.1.1.2,hk.1.2⟩)⟩,⟨by (with_reducible repeat (first|apply rA|apply rN|apply rD));exact Kd.R_mono (rF (rF (rF (rY HO386.out BK399.out (by decide)) (fun _ hk => hk.2) _) (fun _ hk => hk.2) _) (fun _ hk => hk.2) _) (fun _ hk => ⟨hk.1.1.2,hk.1.2⟩)⟩,⟨by (with_reducible repeat (first|apply rA|apply rN|apply rD));exact Kd.R_mono (rF (rF (rF (rY HO389.out BK399.out (by decide)) (fun _ hk => hk.2) _) (fun _ hk => hk.2) _) (fun _ hk => hk.2) _) (fun _ hk => ⟨hk.1.1.2,hk.1.2⟩)⟩,⟨by (with_reducible repeat (first|apply rA|apply rN|apply rD));exact Kd.R_mono (rF (rF (rF (rY HO394.out BK399.out (by decide)) (fun _ hk => hk.2) _) (fun _ hk => hk.2) _) (fun _ hk => hk.2) _) (fun _ hk => ⟨hk.1.1.2,hk.1.2⟩)⟩,⟨by (with_reducible repeat (first|apply rA|apply rN|apply rD));exact Kd.R_mono (rF (rF (rF (rY HO397.out BK399.out (by decide)) (fun _ hk => hk.2) _) (fun _ hk => hk.2) _) (fun _ hk => hk.2) _) (fun _ hk => ⟨hk.1.1.2,hk.1.2⟩)⟩,⟨by (with_reducible repeat (first|refine bN ?_ _|refine bD ?_|refine bA ?_ _));refine blk_far ?_ NB378_399.out _;(with_reducible repeat (first|refine bN ?_ _|refine bD ?_|refine bA ?_ _));refine blk_far ?_ NB378_399.out _;(with_reducible repeat (first|refine bN ?_ _|refine bD ?_|refine bA ?_ _));refine blk_far ?_ NB378_399.out _;(with_reducible repeat (first|refine bN ?_ _|refine bD ?_|refine bA ?_ _));exact BK378.out⟩,⟨by (with_reducible repeat (first|refine bN ?_ _|refine bD ?_|refine bA ?_ _));refine blk_far ?_ NB391_399.out _;(with_reducible repeat (first|refine bN ?_ _|refine bD ?_|refine bA ?_ _));refine blk_far ?_ NB391_399.out _;(with_reducible repeat (first|refine bN ?_ _|refine bD ?_|refine bA ?_ _));refine blk_far ?_ NB391_399.out _;(with_reducible repeat (first|refine bN ?_ _|refine bD ?_|refine bA ?_ _));exact BK391.out⟩,⟨by (with_reducible repeat (first|refine bN ?_ _|refine bD ?_|refine bA ?_ _));refine blk_put (cs:=#[.slice Ao28 t392.length co28,.slice Ao32 t395.length co32,.string (⟨#[]⟩ : ByteArray)]) ?_ 2 _ rfl;(with_reducible repeat (first|refine bN ?_ _|refine bD ?_|refine bA ?_ _));refine blk_put (cs:=#[.slice Ao28 t392.length co28,.slice none 0 0,.string (⟨#[]⟩ : ByteArray)]) ?_ 1 _ rfl;(with_reducible repeat (first|refine bN ?_ _|refine bD ?_|refine bA ?_ _));refine blk_put (cs:=#[.slice none 0 0,.slice none 0 0,.string (⟨#[]⟩ : ByteArray)]) ?_ 0 _ rfl;(with_reducible repeat (first|refine bN ?_ _|refine bD ?_|refine bA ?_ _));exact BK399.out⟩,⟨by repeat (first|(with_reducible first|exact HB.out|apply lA|apply lN|apply lD|refine lS ?_ GE378.out|refine lS ?_ GE391.out|refine lS ?_ GE399.out)|exact HB.out)⟩⟩
    case round =>
     clear H'
     try clear c1
     try clear c2
     try clear p2
     try clear c3
     try clear p3
     try clear q3
     try clear hx3
     try clear qi3
     try clear c6
     try clear c6b0
     try clear c6b1
     try clear c8
     try clear c8b0
     try clear c8b1
     try clear c8b2
     try clear c10
     try clear c16
     try clear c23
     try clear c29
     try clear c30
     try clear c31
     try clear c32
     try clear hcz14_0
     try clear hcz14_1
     try clear hcz14_2
     try clear hcz19_0
     try clear hcz19_1
     try clear hcz19_2
     try clear hcz24_0
     try clear hcz24_1
     try clear hcz24_2
     try clear hcz31_0
     try clear hcz31_1
     try clear hcz31_2
     try clear hx382_0
     try clear p382
     try clear q382
     obtain ⟨x8_1,rfl,HA,HK1,HO_379000,HO_379001,HO_392000,HO_392001,HO_400000,HO_400001,BK378,BK391,BK399,HB⟩:=hrel
     cases gk with
     |zero => exact absurd HA.out (by simp [laws_FnCells.l0])
     |succ k1 =>
      have H:=HA.out
      clear HA
      simp only [laws_FnCells.l0] at H
      by_cases c33 : x8_1 < (t374.length : Int)
      ·rw [if_pos c33] at H
       have c33b0 : decide (x8_1 < (t374.length : Int)) = true:=decide_eq_true c33
       clear c33
       by_cases c34 : 0 ≤ x8_1
       ·rw [if_pos c34] at H
        have c34b0 : decide (0 ≤ x8_1) = true:=decide_eq_true c34
        clear c34
        by_cases c35 : ((rd_T57 t374 x8_1).f0).toList = ([116] : List UInt8)
        ·rw [if_pos c35] at H
         have c35b0 : (((rd_T57 t374 x8_1).f0).toList == ([116] : List UInt8)) = true:=beq_iff_eq.mpr c35
         have c35b1 : (((rd_T57 t374 x8_1).f0).toList != ([116] : List UInt8)) = false:=bne_eq_false_iff_eq.mpr c35
         clear c35
         by_cases c36 : ((rd_T57 t374 x8_1).f1).toList = ((⟨#[107,101,121]⟩ : ByteArray) ++ t383).toList
         ·rw [if_pos c36] at H
          have c36b0 : (((rd_T57 t374 x8_1).f1).toList == ((⟨#[107,101,121]⟩ : ByteArray) ++ t383).toList) = true:=beq_iff_eq.mpr c36
          have c36b1 : (((rd_T57 t374 x8_1).f1).toList != ((⟨#[107,101,121]⟩ : ByteArray) ++ t383).toList) = false:=bne_eq_false_iff_eq.mpr c36
          clear c36
          have H':=aM H
          clear H
          have hnb37:=NB378_391.out
          have hnc37:=NB391_378.out
          have hnb38:=NB378_399.out
          have hnc38:=NB399_378.out
          obtain ⟨⟨hcz39_0,hcz39_1,hcz39_2⟩,hfz39_0,hfz39_1,hfz39_2⟩:=bC3 BK378.out
          have p400 : 0 ≤ (x8_1 : Int):=of_decide_eq_true (by first|(with_reducible assumption)|assumption)
          have q400 : x8_1 < (t374.length : Int):=of_decide_eq_true (by first|(with_reducible assumption)|assumption)
          obtain ⟨ad400,e400,hx400_0,hx400_1,hx400_2⟩:=at_T57 (rR HO_379001.out).2.2 x8_1 p400 q400
          cases e400
          replace p400:=eq_true p400
          replace q400:=eq_true q400
          try go_wp2_with (first|((with_reducible refine gate_dst (N:=9) rfl ?_);(try (refine gate_guard (by rfl) ?_;dsimp only));refine box_event ?hg (N:=9) ?hd (cs:=#[.string (⟨#[]⟩ : ByteArray),.string (⟨#[]⟩ : ByteArray),.string (⟨#[]⟩ : ByteArray)]) (t:=57) ?hr ?_;(case hd => rfl);(case hg => rfl);(case hr => first|(go_simp;done)|(go_simp;rfl));intro gb401 hg w40 hbox hb;have n0_:=aM (rH HO_379000.out hb);have n1_:=aM (rB (Kd.R_elderB (rZ HO_379001.out) gb401 (Nat.le_of_eq hg.symm)) hb);have n2_:=aM (rH HO_392000.out hb);have n3_:=aM (rB (Kd.R_elderB (rZ HO_392001.out) gb401 (Nat.le_of_eq hg.symm)) hb);have n4_:=aM (rH HO_400000.out hb);have n5_:=aM (rB (Kd.R_elderB (rZ HO_400001.out) gb401 (Nat.le_of_eq hg.symm)) hb);have n6_:=aM (bH BK378.out hb);have n7_:=aM (bH BK391.out hb);have n8_:=aM (bH BK399.out hb);have n9_:=aM (lQ HB.out hb);have n10_:=aM (hbox);have n11_:=aM ((sQ hg HB.out : w.heap.size ≤ gb401));have n12_:=n11_;have n13_:=aM ((nL hg BK378.out : gb378 ≠ gb401));have n14_:=aM ((nG hg BK378.out : gb401 ≠ gb378));have n15_:=aM ((nL hg BK391.out : gb391 ≠ gb401));have n16_:=aM ((nG hg BK391.out : gb401 ≠ gb391));have n17_:=aM ((nL hg BK399.out : gb399 ≠ gb401));have n18_:=aM ((nG hg BK399.out : gb401 ≠ gb399));clear HO_379000 HO_379001 HO_392000 HO_392001 HO_400000 HO_400001 BK378 BK391 BK399 HB;have HO_379000:=n0_;have HO_379001:=n1_;have HO_392000:=n2_;have HO_392001:=n3_;have HO_400000:=n4_;have HO_400001:=n5_;have BK378:=n6_;have BK391:=n7_;have BK399:=n8_;have HB:=n9_;have BK401:=n10_;have GW401:=n11_;have GE401:=n12_;have NB378_401:=n13_;have NB401_378:=n14_;have NB391_401:=n15_;have NB401_391:=n16_;have NB399_401:=n17_;have NB401_399:=n18_;clear n0_ n1_ n2_ n3_ n4_ n5_ n6_ n7_ n8_ n9_ n10_ n11_ n12_ n13_ n14_ n15_ n16_ n17_ n18_ hb hbox hg;have hnb41:=NB401_378.out;have hnc41:=NB378_401.out;have hnb42:=NB401_391.out;have hnc42:=NB391_401.out;have hnb43:=NB401_399.out;have hnc43:=NB399_401.out;obtain ⟨⟨hcz44_0,hcz44_1,hcz44_2⟩,hfz44_0,hfz44_1,hfz44_2⟩:=bC3 BK401.out))
          have n0_ : Aside0 (Kd.R k53 53 (((w40.setCell ⟨gb401,0,none⟩ (.string ((rd_T57 t374 x8_1).f0))).setCell ⟨gb401,1,none⟩ (.string ((rd_T57 t374 x8_1).f1))).setCell ⟨gb401,2,none⟩ (.string ((rd_T57 t374 x8_1).f2))) w.heap.size (fun k_ => some k_ ≠ (.slice Ao22 t384.length co22 : Value).ownBlock ∧ some k_ ≠ (.slice Ao28 t392.length co28 : Value).ownBlock) (.slice Ao13 t371.length co13) t371):=⟨by (with_reducible repeat (first|apply rA|apply rN|apply rD));exact Kd.R_mono (rF (rF (rF (rY HO_379000.out BK401.out (by decide)) (fun _ hk => hk.2) _) (fun _ hk => hk.2) _) (fun _ hk => hk.2) _) (fun _ hk => ⟨hk.1.1,hk.1.2⟩)⟩
          have n1_ : Aside0 (Kd.R k57 57 (((w40.setCell ⟨gb401,0,none⟩ (.string ((rd_T57 t374 x8_1).f0))).setCell ⟨gb401,1,none⟩ (.string ((rd_T57 t374 x8_1).f1))).setCell ⟨gb401,2,none⟩ (.string ((rd_T57 t374 x8_1).f2))) w.heap.size (fun k_ => some k_ ≠ (.slice Ao25 t387.length co25 : Value).ownBlock ∧ some k_ ≠ (.slice Ao32 t395.length co32 : Value).ownBlock ∧ k_ ≠ gb401) (.slice (some ad400) t374.length co15) t374):=⟨by (with_reducible repeat (first|apply rA|apply rN|apply rD));exact Kd.R_mono (rF (rF (rF (Kd.R_mono HO_379001.out (fun k_ hk => (⟨hk,hk.2⟩ : _ ∧ k_ ≠ gb401))) (fun _ hk => hk.2) _) (fun _ hk => hk.2) _) (fun _ hk => hk.2) _) (fun _ hk => ⟨hk.1.1.1,⟨hk.1.1.2,hk.1.2⟩⟩)⟩
          have n2_ : Aside0 (Kd.R k53 53 (((w40.setCell ⟨gb401,0,none⟩ (.string ((rd_T57 t374 x8_1).f0))).setCell ⟨gb401,1,none⟩ (.string ((rd_T57 t374 x8_1).f1))).setCell ⟨gb401,2,none⟩ (.string ((rd_T57 t374 x8_1).f2))) w.heap.size (fun k_ => some k_ ≠ (.slice Ao13 t371.length co13 : Value).ownBlock ∧ some k_ ≠ (.slice Ao28 t392.length co28 : Value).ownBlock) (.slice Ao22 t384.length co22) t384):=⟨by (with_reducible repeat (first|apply rA|apply rN|apply rD));exact Kd.R_mono (rF (rF (rF (rY HO_392000.out BK401.out (by decide)) (fun _ hk => hk.2) _) (fun _ hk => hk.2) _) (fun _ hk => hk.2) _) (fun _ hk => ⟨hk.1.1,hk.1.2⟩)⟩
          have n3_ : Aside0 (Kd.R k57 57 (((w40.setCell ⟨gb401,0,none⟩ (.string ((rd_T57 t374 x8_1).f0))).setCell ⟨gb401,1,none⟩ (.string ((rd_T57 t374 x8_1).f1))).setCell ⟨gb401,2,none⟩ (.string ((rd_T57 t374 x8_1).f2))) w.heap.size (fun k_ => some k_ ≠ (.slice (some ad400) t374.length co15 : Value).ownBlock ∧ some k_ ≠ (.slice Ao32 t395.length co32 : Value).ownBlock ∧ k_ ≠ gb401) (.slice Ao25 t387.length co25) t387):=⟨by (with_reducible repeat (first|apply rA|apply rN|apply rD));exact Kd.R_mono (rF (rF (rF (Kd.R_mono HO_392001.out (fun k_ hk => (⟨hk,hk.2⟩ : _ ∧ k_ ≠ gb401))) (fun _ hk => hk.2) _) (fun _ hk => hk.2) _) (fun _ hk => hk.2) _) (fun _ hk => ⟨hk.1.1.1,⟨hk.1.1.2,hk.1.2⟩⟩)⟩
          have n4_ : Aside0 (Kd.R k53 53 (((w40.setCell ⟨gb401,0,none⟩ (.string ((rd_T57 t374 x8_1).f0))).setCell ⟨gb401,1,none⟩ (.string ((rd_T57 t374 x8_1).f1))).setCell ⟨gb401,2,none⟩ (.string ((rd_T57 t374 x8_1).f2))) w.heap.size (fun k_ => some k_ ≠ (.slice Ao13 t371.length co13 : Value).ownBlock ∧ some k_ ≠ (.slice Ao22 t384.length co22 : Value).ownBlock) (.slice Ao28 t392.length co28) t392):=⟨by (with_reducible repeat (first|apply rA|apply rN|apply rD));exact Kd.R_mono (rF (rF (rF (rY HO_400000.out BK401.out (by decide)) (fun _ hk => hk.2) _) (fun _ hk => hk.2) _) (fun _ hk => hk.2) _) (fun _ hk => ⟨hk.1.1,hk.1.2⟩)⟩
          have n5_ : Aside0 (Kd.R k57 57 (((w40.setCell ⟨gb401,0,none⟩ (.string ((rd_T57 t374 x8_1).f0))).setCell ⟨gb401,1,none⟩ (.string ((rd_T57 t374 x8_1).f1))).setCell ⟨gb401,2,none⟩ (.string ((rd_T57 t374 x8_1).f2))) w.heap.size (fun k_ => some k_ ≠ (.slice (some ad400) t374.length co15 : Value).ownBlock ∧ some k_ ≠ (.slice Ao25 t387.length co25 : Value).ownBlock ∧ k_ ≠ gb401) (.slice Ao32 t395.length co32) t395):=⟨by (with_reducible repeat (first|apply rA|apply rN|apply rD));exact Kd.R_mono (rF (rF (rF (Kd.R_mono HO_400001.out (fun k_ hk => (⟨hk,hk.2⟩ : _ ∧ k_ ≠ gb401))) (fun _ hk => hk.2) _) (fun _ hk => hk.2) _) (fun _ hk => hk.2) _) (fun _ hk => ⟨hk.1.1.1,⟨hk.1.1.2,hk.1.2⟩⟩)⟩
          have n6_ : Aside0 ((((w40.setCell ⟨gb401,0,none⟩ (.string ((rd_T57 t374 x8_1).f0))).setCell ⟨gb401,1,none⟩ (.string ((rd_T57 t374 x8_1).f1))).setCell ⟨gb401,2,none⟩ (.string ((rd_T57 t374 x8_1).f2))).heap[gb378]? = some (.cells #[.slice Ao13 t371.length co13,.slice (some ad400) t374.length co15,.string t377] 38 (0,0))):=⟨by (with_reducible repeat (first|refine bN ?_ _|refine bD ?_|refine bA ?_ _));refine blk_far ?_ NB378_401.out _;(with_reducible repeat (first|refine bN ?_ _|refine bD ?_|refine bA ?_ _));refine blk_far ?_ NB378_401.out _;(with_reducible repeat (first|refine bN ?_ _|refine bD ?_|refine bA ?_ _));refine blk_far ?_ NB378_401.out _;(with_reducible repeat (first|refine bN ?_ _|refine bD ?_|refine bA ?_ _));exact BK378.out⟩
          have n7_ : Aside0 ((((w40.setCell ⟨gb401,0,none⟩ (.string ((rd_T57 t374 x8_1).f0))).setCell ⟨gb401,1,none⟩ (.string ((rd_T57 t374 x8_1).f1))).setCell ⟨gb401,2,none⟩ (.string ((rd_T57 t374 x8_1).f2))).heap[gb391]? = some (.cells #[.slice Ao22 t384.length co22,.slice Ao25 t387.length co25,.string t390] 38 (0,0))):=⟨by (with_reducible repeat (first|refine bN ?_ _|refine bD ?_|refine bA ?_ _));refine blk_far ?_ NB391_401.out _;(with_reducible repeat (first|refine bN ?_ _|refine bD ?_|refine bA ?_ _));refine blk_far ?_ NB391_401.out _;(with_reducible repeat (first|refine bN ?_ _|refine bD ?_|refine bA ?_ _));refine blk_far ?_ NB391_401.out _;(with_reducible repeat (first|refine bN ?_ _|refine bD ?_|refine bA ?_ _));exact BK391.out⟩
          have n8_ : Aside0 ((((w40.setCell ⟨gb401,0,none⟩ (.string ((rd_T57 t374 x8_1).f0))).setCell ⟨gb401,1,none⟩ (.string ((rd_T57 t374 x8_1).f1))).setCell ⟨gb401,2,none⟩ (.string ((rd_T57 t374 x8_1).f2))).heap[gb399]? = some (.cells #[.slice Ao28 t392.length co28,.slice Ao32 t395.length co32,.string t398] 38 (0,0))):=⟨by (with_reducible repeat (first|refine bN ?_ _|refine bD ?_|refine bA ?_ _));refine blk_far ?_ NB399_401.out _;(with_reducible repeat (first|refine bN ?_ _|refine bD ?_|refine bA ?_ _));refine blk_far ?_ NB399_401.out _;(with_reducible repeat (first|refine bN ?_ _|refine bD ?_|refine bA ?_ _));refine blk_far ?_ NB399_401.out _;(with_reducible repeat (first|refine bN ?_ _|refine bD ?_|refine bA ?_ _));exact BK399.out⟩
          have n9_ : Aside0 ((((w40.setCell ⟨gb401,0,none⟩ (.string ((rd_T57 t374 x8_1).f0))).setCell ⟨gb401,1,none⟩ (.string ((rd_T57 t374 x8_1).f1))).setCell ⟨gb401,2,none⟩ (.string ((rd_T57 t374 x8_1).f2))).heap[gb401]? = some (.cells #[.string ((rd_T57 t374 x8_1).f0),.string ((rd_T57 t374 x8_1).f1),.string ((rd_T57 t374 x8_1).f2)] 57 (0,0))):=⟨by (with_reducible repeat (first|refine bN ?_ _|refine bD ?_|refine bA ?_ _));refine blk_put (cs:=#[.string ((rd_T57 t374 x8_1).f0),.string ((rd_T57 t374 x8_1).f1),.string (⟨#[]⟩ : ByteArray)]) ?_ 2 _ rfl;(with_reducible repeat (first|refine bN ?_ _|refine bD ?_|refine bA ?_ _));refine blk_put (cs:=#[.string ((rd_T57 t374 x8_1).f0),.string (⟨#[]⟩ : ByteArray),.string (⟨#[]⟩ : ByteArray)]) ?_ 1 _ rfl;(with_reducible repeat (first|refine bN ?_ _|refine bD ?_|refine bA ?_ _));refine blk_put (cs:=#[.string (⟨#[]⟩ : ByteArray),.string (⟨#[]⟩ : ByteArray),.string (⟨#[]⟩ : ByteArray)]) ?_ 0 _ rfl;(with_reducible repeat (first|refine bN ?_ _|refine bD ?_|refine bA ?_ _));exact BK401.out⟩
          have n10_ : Aside0 (Below w.heap.size w (((w40.setCell ⟨gb401,0,none⟩ (.string ((rd_T57 t374 x8_1).f0))).setCell ⟨gb401,1,none⟩ (.string ((rd_T57 t374 x8_1).f1))).setCell ⟨gb401,2,none⟩ (.string ((rd_T57 t374 x8_1).f2)))):=⟨by repeat (first|(with_reducible first|exact HB.out|apply lA|apply lN|apply lD|refine lS ?_ GE378.out|refine lS ?_ GE391.out|refine lS ?_ GE399.out|refine lS ?_ GE401.out)|exact HB.out)⟩
          (try clear HO_379000)
          (try clear HO_379001)
          (try clear HO_392000)
          (try clear HO_392001)
          (try clear HO_400000)
          (try clear HO_400001)
          (try clear BK378)
          (try clear BK391)
          (try clear BK399)
          (try clear BK401)
          (try clear HB)
          generalize (((w40.setCell ⟨gb401,0,none⟩ (.string ((rd_T57 t374 x8_1).f0))).setCell ⟨gb401,1,none⟩ (.string ((rd_T57 t374 x8_1).f1))).setCell ⟨gb401,2,none⟩ (.string ((rd_T57 t374 x8_1).f2))) = w45 at n0_ n1_ n2_ n3_ n4_ n5_ n6_ n7_ n8_ n9_ n10_ ⊢
          have HO_379000:=n0_
          have HO_379001:=n1_
          have HO_392000:=n2_
          have HO_392001:=n3_
          have HO_400000:=n4_
          have HO_400001:=n5_
          have BK378:=n6_
          have BK391:=n7_
          have BK399:=n8_
          have BK401:=n9_
          have HB:=n10_
          clear n0_ n1_ n2_ n3_ n4_ n5_ n6_ n7_ n8_ n9_ n10_
          have n0_:=aM (rD HO_379000.out)
          have n1_:=aM (rD HO_379001.out)
          have n2_:=aM (rD HO_392000.out)
          have n3_:=aM (rD HO_392001.out)
          have n4_:=aM (rD HO_400000.out)
          have n5_:=aM (rD HO_400001.out)
          have n6_:=aM (bD BK378.out)
          have n7_:=aM (bD BK391.out)
          have n8_:=aM (bD BK399.out)
          have n9_:=aM (bD BK401.out)
          have n10_:=aM (lD HB.out)
          clear HO_379000
          clear HO_379001
          clear HO_392000
          clear HO_392001
          clear HO_400000
          clear HO_400001
          clear BK378
          clear BK391
          clear BK399
          clear BK401
          clear HB
          have HO_379000:=n0_
          have HO_379001:=n1_
          have HO_392000:=n2_
          have HO_392001:=n3_
          have HO_400000:=n4_
          have HO_400001:=n5_
          have BK378:=n6_
          have BK391:=n7_
          have BK399:=n8_
          have BK401:=n9_
          have HB:=n10_
          clear n0_ n1_ n2_ n3_ n4_ n5_ n6_ n7_ n8_ n9_ n10_
          refine start_ (n:=20) (S:=fun w' => w'.cell? ⟨gb401,0,none⟩ = some (.string ((rd_T57 t374 x8_1).f0)) ∧ w'.cell? ⟨gb401,1,none⟩ = some (.string ((rd_T57 t374 x8_1).f1)) ∧ w'.cell? ⟨gb401,2,none⟩ = some (.string ((rd_T57 t374 x8_1).f2))) (ds:=[]) #[bf,bf,bf,bf,bf,bf,bf,bf,bf,bf,bf,bf,bf,bf,bf,bf,bf,bf,bf,bf] (by kernel_rfl) rfl rfl ⟨(bC BK401.out 0).trans rfl,(bC BK401.out 1).trans rfl,(bC BK401.out 2).trans rfl⟩ (fun hHeld => ?_);refine with_tabW laws_FnCells.tab12 laws_FnCells.bits12 (fun HT_ HW_ => ?_)
          generalize w45.drew = w46 at HO_379000 HO_379001 HO_392000 HO_392001 HO_400000 HO_400001 BK378 BK391 BK399 BK401 HB hHeld ⊢
          refine pQ (i:=0) (N:=some 40) (v:=?_) (a':=?_) #[bT,bf,bf,bf,bf,bf,bf,bf,bf,bf,bf,bf,bf,bf,bf,bf,bf,bf,bf,bf] (any_of HT_.out (by kernel_rfl)) ?_ ?_ ?_
          rotate_left
          ·intro w';go_simp;with_reducible rfl
          rotate_left
          ·simp only [Act.put,q_ia11,q_cz11,q_cs11,i64_w,i32_w];rfl
          refine take_ (i:=1) (N:=some 41) (v:=?_) (a':=?_) #[bT,bT,bf,bf,bf,bf,bf,bf,bf,bf,bf,bf,bf,bf,bf,bf,bf,bf,bf,bf] rfl rfl (take_ofW HT_.out HW_.out (by kernel_rfl)) (fun _ _ _ h => h) (Or.inl ⟨by rfl,?_⟩) hHeld ?_ ?_
          rotate_left
          ·rintro w' ⟨s0,s1,s2⟩
           go_simp
           with_reducible rfl
          rotate_left
          ·simp only [Act.put,q_ia11,q_cz11,q_cs11,i64_w,i32_w];rfl
          refine pQ (i:=2) (N:=some 42) (v:=?_) (a':=?_) #[bT,bT,bT,bf,bf,bf,bf,bf,bf,bf,bf,bf,bf,bf,bf,bf,bf,bf,bf,bf] (any_of HT_.out (by kernel_rfl)) ?_ ?_ ?_
          rotate_left
          ·intro w';go_simp;with_reducible rfl
          rotate_left
          ·simp only [Act.put,q_ia11,q_cz11,q_cs11,i64_w,i32_w];rfl
          refine pQ (i:=3) (N:=some 43) (v:=?_) (a':=?_) #[bT,bT,bT,bT,bf,bf,bf,bf,bf,bf,bf,bf,bf,bf,bf,bf,bf,bf,bf,bf] (any_of HT_.out (by kernel_rfl)) ?_ ?_ ?_
          rotate_left
          ·intro w';go_simp;with_reducible rfl
          rotate_left
          ·simp only [Act.put,q_ia11,q_cz11,q_cs11,i64_w,i32_w];rfl
          refine pQ (i:=4) (N:=some 44) (v:=?_) (a':=?_) #[bT,bT,bT,bT,bT,bf,bf,bf,bf,bf,bf,bf,bf,bf,bf,bf,bf,bf,bf,bf] (any_of HT_.out (by kernel_rfl)) ?_ ?_ ?_
          rotate_left
          ·intro w';go_simp;with_reducible rfl
          rotate_left
          ·simp only [Act.put,q_ia11,q_cz11,q_cs11,i64_w,i32_w];rfl
          refine pQ (i:=6) (N:=some 46) (v:=?_) (a':=?_) #[bT,bT,bT,bT,bT,bf,bT,bf,bf,bf,bf,bf,bf,bf,bf,bf,bf,bf,bf,bf] (any_of HT_.out (by kernel_rfl)) ?_ ?_ ?_
          rotate_left
          ·intro w';go_simp;with_reducible rfl
          rotate_left
          ·simp only [Act.put,q_ia11,q_cz11,q_cs11,i64_w,i32_w];rfl
          refine take_ (i:=5) (N:=some 45) (v:=?_) (a':=?_) #[bT,bT,bT,bT,bT,bT,bT,bf,bf,bf,bf,bf,bf,bf,bf,bf,bf,bf,bf,bf] rfl rfl (take_ofW HT_.out HW_.out (by kernel_rfl)) (fun _ _ _ h => h) (Or.inl ⟨by rfl,?_⟩) hHeld ?_ ?_
          rotate_left
          ·rintro w' ⟨s0,s1,s2⟩
           go_simp
           with_reducible rfl
          rotate_left
          ·simp only [Act.put,q_ia11,q_cz11,q_cs11,i64_w,i32_w];rfl
          refine pQ (i:=7) (N:=some 47) (v:=?_) (a':=?_) #[bT,bT,bT,bT,bT,bT,bT,bT,bf,bf,bf,bf,bf,bf,bf,bf,bf,bf,bf,bf] (any_of HT_.out (by kernel_rfl)) ?_ ?_ ?_
          rotate_left
          ·intro w';go_simp;with_reducible rfl
          rotate_left
          ·simp only [Act.put,q_ia11,q_cz11,q_cs11,i64_w,i32_w];rfl
          refine pQ (i:=8) (N:=some 48) (v:=?_) (a':=?_) #[bT,bT,bT,bT,bT,bT,bT,bT,bT,bf,bf,bf,bf,bf,bf,bf,bf,bf,bf,bf] (any_of HT_.out (by kernel_rfl)) ?_ ?_ ?_
          rotate_left
          ·intro w';go_simp;with_reducible rfl
          rotate_left
          ·simp only [Act.put,q_ia11,q_cz11,q_cs11,i64_w,i32_w];rfl
          refine pQ (i:=9) (N:=some 49) (v:=?_) (a':=?_) #[bT,bT,bT,bT,bT,bT,bT,bT,bT,bT,bf,bf,bf,bf,bf,bf,bf,bf,bf,bf] (any_of HT_.out (by kernel_rfl)) ?_ ?_ ?_
          rotate_left
          ·intro w';go_simp;with_reducible rfl
          rotate_left
          ·simp only [Act.put,q_ia11,q_cz11,q_cs11,i64_w,i32_w];rfl
          refine pure_ (i:=10) (N:=some 50) (v:=undef) (a':=?_) #[bT,bT,bT,bT,bT,bT,bT,bT,bT,bT,bT,bf,bf,bf,bf,bf,bf,bf,bf,bf] rfl rfl (any_of HT_.out (by kernel_rfl)) (fun _ _ _ h => h) (Or.inr ⟨by rfl,rfl⟩) ?_ ?_
          rotate_left
          ·simp only [Act.put,q_ia11,q_cz11,q_cs11,i64_w,i32_w];rfl
          refine pure_ (i:=11) (N:=some 51) (v:=undef) (a':=?_) #[bT,bT,bT,bT,bT,bT,bT,bT,bT,bT,bT,bT,bf,bf,bf,bf,bf,bf,bf,bf] rfl rfl (any_of HT_.out (by kernel_rfl)) (fun _ _ _ h => h) (Or.inr ⟨by rfl,rfl⟩) ?_ ?_
          rotate_left
          ·simp only [Act.put,q_ia11,q_cz11,q_cs11,i64_w,i32_w];rfl
          refine pure_ (i:=12) (N:=some 52) (v:=undef) (a':=?_) #[bT,bT,bT,bT,bT,bT,bT,bT,bT,bT,bT,bT,bT,bf,bf,bf,bf,bf,bf,bf] rfl rfl (any_of HT_.out (by kernel_rfl)) (fun _ _ _ h => h) (Or.inr ⟨by rfl,rfl⟩) ?_ ?_
          rotate_left
          ·simp only [Act.put,q_ia11,q_cz11,q_cs11,i64_w,i32_w];rfl
          refine pure_ (i:=13) (N:=some 53) (v:=undef) (a':=?_) #[bT,bT,bT,bT,bT,bT,bT,bT,bT,bT,bT,bT,bT,bT,bf,bf,bf,bf,bf,bf] rfl rfl (any_of HT_.out (by kernel_rfl)) (fun _ _ _ h => h) (Or.inr ⟨by rfl,rfl⟩) ?_ ?_
          rotate_left
          ·simp only [Act.put,q_ia11,q_cz11,q_cs11,i64_w,i32_w];rfl
          refine pure_ (i:=14) (N:=some 54) (v:=undef) (a':=?_) #[bT,bT,bT,bT,bT,bT,bT,bT,bT,bT,bT,bT,bT,bT,bT,bf,bf,bf,bf,bf] rfl rfl (any_of HT_.out (by kernel_rfl)) (fun _ _ _ h => h) (Or.inr ⟨by rfl,rfl⟩) ?_ ?_
          rotate_left
          ·simp only [Act.put,q_ia11,q_cz11,q_cs11,i64_w,i32_w];rfl
          refine pure_ (i:=15) (N:=some 55) (v:=undef) (a':=?_) #[bT,bT,bT,bT,bT,bT,bT,bT,bT,bT,bT,bT,bT,bT,bT,bT,bf,bf,bf,bf] rfl rfl (any_of HT_.out (by kernel_rfl)) (fun _ _ _ h => h) (Or.inr ⟨by rfl,rfl⟩) ?_ ?_
          rotate_left
          ·simp only [Act.put,q_ia11,q_cz11,q_cs11,i64_w,i32_w];rfl
          refine pure_ (i:=16) (N:=some 56) (v:=undef) (a':=?_) #[bT,bT,bT,bT,bT,bT,bT,bT,bT,bT,bT,bT,bT,bT,bT,bT,bT,bf,bf,bf] rfl rfl (any_of HT_.out (by kernel_rfl)) (fun _ _ _ h => h) (Or.inr ⟨by rfl,rfl⟩) ?_ ?_
          rotate_left
          ·simp only [Act.put,q_ia11,q_cz11,q_cs11,i64_w,i32_w];rfl
          refine pure_ (i:=17) (N:=some 57) (v:=undef) (a':=?_) #[bT,bT,bT,bT,bT,bT,bT,bT,bT,bT,bT,bT,bT,bT,bT,bT,bT,bT,bf,bf] rfl rfl (any_of HT_.out (by kernel_rfl)) (fun _ _ _ h => h) (Or.inr ⟨by rfl,rfl⟩) ?_ ?_
          rotate_left
          ·simp only [Act.put,q_ia11,q_cz11,q_cs11,i64_w,i32_w];rfl
          refine pure_ (i:=18) (N:=some 58) (v:=undef) (a':=?_) #[bT,bT,bT,bT,bT,bT,bT,bT,bT,bT,bT,bT,bT,bT,bT,bT,bT,bT,bT,bf] rfl rfl (any_of HT_.out (by kernel_rfl)) (fun _ _ _ h => h) (Or.inr ⟨by rfl,rfl⟩) ?_ ?_
          rotate_left
          ·simp only [Act.put,q_ia11,q_cz11,q_cs11,i64_w,i32_w];rfl
          refine pQ (i:=19) (N:=some 59) (v:=?_) (a':=?_) #[bT,bT,bT,bT,bT,bT,bT,bT,bT,bT,bT,bT,bT,bT,bT,bT,bT,bT,bT,bT] (any_of HT_.out (by kernel_rfl)) ?_ ?_ ?_
          rotate_left
          ·intro w';go_simp;with_reducible rfl
          rotate_left
          ·simp only [Act.put,q_ia11,q_cz11,q_cs11,i64_w,i32_w];rfl
          refine done_ (done_of HT_.out (by kernel_rfl)) ?_
          try go_wp2
          go_roundg k1
          case measure => have:=HK1.out;omega
          case rel => exact ⟨(wrap64 (x8_1 + 1)),(by first|rfl|(simp;done)|(simp [*];done)),H',⟨by have:=HK1.out;omega⟩,⟨by (with_reducible repeat (first|apply rA|apply rN|apply rD));exact HO_379000.out⟩,⟨by (with_reducible repeat (first|apply rA|apply rN|apply rD));exact Kd.R_mono HO_379001.out (fun _ hk => ⟨hk.1,hk.2.1⟩)⟩,⟨by (with_reducible repeat (first|apply rA|apply rN|apply rD));exact HO_392000.out⟩,⟨by (with_reducible repeat (first|apply rA|apply rN|apply rD));exact Kd.R_mono HO_392001.out (fun _ hk => ⟨hk.1,hk.2.1⟩)⟩,⟨by (with_reducible repeat (first|apply rA|apply rN|apply rD));exact HO_400000.out⟩,⟨by (with_reducible repeat (first|apply rA|apply rN|apply rD));exact Kd.R_mono HO_400001.out (fun _ hk => ⟨hk.1,hk.2.1⟩)⟩,⟨by (with_reducible repeat (first|refine bN ?_ _|refine bD ?_|refine bA ?_ _));exact BK378.out⟩,⟨by (with_reducible repeat (first|refine bN ?_ _|refine bD ?_|refine bA ?_ _));exact BK391.out⟩,⟨by (with_reducible repeat (first|refine bN ?_ _|refine bD ?_|refine bA ?_ _));exact BK399.out⟩,⟨by repeat (first|(with_reducible first|exact HB.out|apply lA|apply lN|apply lD|refine lS ?_ GE378.out|refine lS ?_ GE391.out|refine lS ?_ GE399.out|refine lS ?_ GE401.out)|exact HB.out)⟩⟩
         ·rw [if_neg c36] at H
          have c36b0 : (((rd_T57 t374 x8_1).f1).toList == ((⟨#[107,101,121]⟩ : ByteArray) ++ t383).toList) = false:=beq_eq_false_iff_ne.mpr c36
          have c36b1 : (((rd_T57 t374 x8_1).f1).toList != ((⟨#[107,101,121]⟩ : ByteArray) ++ t383).toList) = true:=bne_iff_ne.mpr c36
          replace H:=Option.bind_eq_some_iff.mp H
          obtain ⟨t402,A470,H⟩:=H
          replace H : (if t402.toList = ((rd_T57 t374 x8_1).f2).toList then (laws_FnCells.l0 k1 ((⟨#[107,101,121]⟩ : ByteArray) ++ t383) (wrap64 (x8_1 + 1)) t371 t374 t377 t384 t387 t390 t392 t395 t398) else (some false)) = some r:=H
          have A47:=aM A470
          clear A470
          by_cases c48 : t402.toList = ((rd_T57 t374 x8_1).f2).toList
          ·rw [if_pos c48] at H
           have c48b0 : (t402.toList == ((rd_T57 t374 x8_1).f2).toList) = true:=beq_iff_eq.mpr c48
           have c48b1 : (t402.toList != ((rd_T57 t374 x8_1).f2).toList) = false:=bne_eq_false_iff_eq.mpr c48
           clear c48
           have H':=aM H
           clear H
           have hnb49:=NB378_391.out
           have hnc49:=NB391_378.out
           have hnb50:=NB378_399.out
           have hnc50:=NB399_378.out
           obtain ⟨⟨hcz51_0,hcz51_1,hcz51_2⟩,hfz51_0,hfz51_1,hfz51_2⟩:=bC3 BK378.out
           have p400 : 0 ≤ (x8_1 : Int):=of_decide_eq_true (by first|(with_reducible assumption)|assumption)
           have q400 : x8_1 < (t374.length : Int):=of_decide_eq_true (by first|(with_reducible assumption)|assumption)
           obtain ⟨ad400,e400,hx400_0,hx400_1,hx400_2⟩:=at_T57 (rR HO_379001.out).2.2 x8_1 p400 q400
           cases e400
           replace p400:=eq_true p400
           replace q400:=eq_true q400
           try go_wp2_with (first|((with_reducible refine gate_dst (N:=9) rfl ?_);(try (refine gate_guard (by rfl) ?_;dsimp only));refine box_event ?hg (N:=9) ?hd (cs:=#[.string (⟨#[]⟩ : ByteArray),.string (⟨#[]⟩ : ByteArray),.string (⟨#[]⟩ : ByteArray)]) (t:=57) ?hr ?_;(case hd => rfl);(case hg => rfl);(case hr => first|(go_simp;done)|(go_simp;rfl));intro gb401 hg w52 hbox hb;have n0_:=aM (rH HO_379000.out hb);have n1_:=aM (rB (Kd.R_elderB (rZ HO_379001.out) gb401 (Nat.le_of_eq hg.symm)) hb);have n2_:=aM (rH HO_392000.out hb);have n3_:=aM (rB (Kd.R_elderB (rZ HO_392001.out) gb401 (Nat.le_of_eq hg.symm)) hb);have n4_:=aM (rH HO_400000.out hb);have n5_:=aM (rB (Kd.R_elderB (rZ HO_400001.out) gb401 (Nat.le_of_eq hg.symm)) hb);have n6_:=aM (bH BK378.out hb);have n7_:=aM (bH BK391.out hb);have n8_:=aM (bH BK399.out hb);have n9_:=aM (lQ HB.out hb);have n10_:=aM (hbox);have n11_:=aM ((sQ hg HB.out : w.heap.size ≤ gb401));have n12_:=n11_;have n13_:=aM ((nL hg BK378.out : gb378 ≠ gb401));have n14_:=aM ((nG hg BK378.out : gb401 ≠ gb378));have n15_:=aM ((nL hg BK391.out : gb391 ≠ gb401));have n16_:=aM ((nG hg BK391.out : gb401 ≠ gb391));have n17_:=aM ((nL hg BK399.out : gb399 ≠ gb401));have n18_:=aM ((nG hg BK399.out : gb401 ≠ gb399));clear HO_379000 HO_379001 HO_392000 HO_392001 HO_400000 HO_400001 BK378 BK391 BK399 HB;have HO_379000:=n0_;have HO_379001:=n1_;have HO_392000:=n2_;have HO_392001:=n3_;have HO_400000:=n4_;have HO_400001:=n5_;have BK378:=n6_;have BK391:=n7_;have BK399:=n8_;have HB:=n9_;have BK401:=n10_;have GW401:=n11_;have GE401:=n12_;have NB378_401:=n13_;have NB401_378:=n14_;have NB391_401:=n15_;have NB401_391:=n16_;have NB399_401:=n17_;have NB401_399:=n18_;clear n0_ n1_ n2_ n3_ n4_ n5_ n6_ n7_ n8_ n9_ n10_ n11_ n12_ n13_ n14_ n15_ n16_ n17_ n18_ hb hbox hg;have hnb53:=NB401_378.out;have hnc53:=NB378_401.out;have hnb54:=NB401_391.out;have hnc54:=NB391_401.out;have hnb55:=NB401_399.out;have hnc55:=NB399_401.out;obtain ⟨⟨hcz56_0,hcz56_1,hcz56_2⟩,hfz56_0,hfz56_1,hfz56_2⟩:=bC3 BK401.out))
           have n0_ : Aside0 (Kd.R k53 53 (((w52.setCell ⟨gb401,0,none⟩ (.string ((rd_T57 t374 x8_1).f0))).setCell ⟨gb401,1,none⟩ (.string ((rd_T57 t374 x8_1).f1))).setCell ⟨gb401,2,none⟩ (.string ((rd_T57 t374 x8_1).f2))) w.heap.size (fun k_ => some k_ ≠ (.slice Ao22 t384.length co22 : Value).ownBlock ∧ some k_ ≠ (.slice Ao28 t392.length co28 : Value).ownBlock) (.slice Ao13 t371.length co13) t371):=⟨by (with_reducible repeat (first|apply rA|apply rN|apply rD));exact Kd.R_mono (rF (rF (rF (rY HO_379000.out BK401.out (by decide)) (fun _ hk => hk.2) _) (fun _ hk => hk.2) _) (fun _ hk => hk.2) _) (fun _ hk => ⟨hk.1.1,hk.1.2⟩)⟩
           have n1_ : Aside0 (Kd.R k57 57 (((w52.setCell ⟨gb401,0,none⟩ (.string ((rd_T57 t374 x8_1).f0))).setCell ⟨gb401,1,none⟩ (.string ((rd_T57 t374 x8_1).f1))).setCell ⟨gb401,2,none⟩ (.string ((rd_T57 t374 x8_1).f2))) w.heap.size (fun k_ => some k_ ≠ (.slice Ao25 t387.length co25 : Value).ownBlock ∧ some k_ ≠ (.slice Ao32 t395.length co32 : Value).ownBlock ∧ k_ ≠ gb401) (.slice (some ad400) t374.length co15) t374):=⟨by (with_reducible repeat (first|apply rA|apply rN|apply rD));exact Kd.R_mono (rF (rF (rF (Kd.R_mono HO_379001.out (fun k_ hk => (⟨hk,hk.2⟩ : _ ∧ k_ ≠ gb401))) (fun _ hk => hk.2) _) (fun _ hk => hk.2) _) (fun _ hk => hk.2) _) (fun _ hk => ⟨hk.1.1.1,⟨hk.1.1.2,hk.1.2⟩⟩)⟩
           have n2_ : Aside0 (Kd.R k53 53 (((w52.setCell ⟨gb401,0,none⟩ (.string ((rd_T57 t374 x8_1).f0))).setCell ⟨gb401,1,none⟩ (.string ((rd_T57 t374 x8_1).f1))).setCell ⟨gb401,2,none⟩ (.string ((rd_T57 t374 x8_1).f2))) w.heap.size (fun k_ => some k_ ≠ (.slice Ao13 t371.length co13 : Value).ownBlock ∧ some k_ ≠ (.slice Ao28 t392.length co28 : Value).ownBlock) (.slice Ao22 t384.length co22) t384):=⟨by (with_reducible repeat (first|apply rA|apply rN|apply rD));exact Kd.R_mono (rF (rF (rF (rY HO_392000.out BK401.out (by decide)) (fun _ hk => hk.2) _) (fun _ hk => hk.2) _) (fun _ hk => hk.2) _) (fun _ hk => ⟨hk.1.1,hk.1.2⟩)⟩
           have n3_ : Aside0 (Kd.R k57 57 (((w52.setCell ⟨gb401,0,none⟩ (.string ((rd_T57 t374 x8_1).f0))).setCell ⟨gb401,1,none⟩ (.string ((rd_T57 t374 x8_1).f1))).setCell ⟨gb401,2,none⟩ (.string ((rd_T57 t374 x8_1).f2))) w.heap.size (fun k_ => some k_ ≠ (.slice (some ad400) t374.length co15 : Value).ownBlock ∧ some k_ ≠ (.slice Ao32 t395.length co32 : Value).ownBlock ∧ k_ ≠ gb401) (.slice Ao25 t387.length co25) t387):=⟨by (with_reducible repeat (first|apply rA|apply rN|apply rD));exact Kd.R_mono (rF (rF (rF (Kd.R_mono HO_392001.out (fun k_ hk => (⟨hk,hk.2⟩ : _ ∧ k_ ≠ gb401))) (fun _ hk => hk.2) _) (fun _ hk => hk.2) _) (fun _ hk => hk.2) _) (fun _ hk => ⟨hk.1.1.1,⟨hk.1.1.2,hk.1.2⟩⟩)⟩
           have n4_ : Aside0 (Kd.R k53 53 (((w52.setCell ⟨gb401,0,none⟩ (.string ((rd_T57 t374 x8_1).f0))).setCell ⟨gb401,1,none⟩ (.string ((rd_T57 t374 x8_1).f1))).setCell ⟨gb401,2,none⟩ (.string ((rd_T57 t374 x8_1).f2))) w.heap.size (fun k_ => some k_ ≠ (.slice Ao13 t371.length co13 : Value).ownBlock ∧ some k_ ≠ (.slice Ao22 t384.length co22 : Value).ownBlock) (.slice Ao28 t392.length co28) t392):=⟨by (with_reducible repeat (first|apply rA|apply rN|apply rD));exact Kd.R_mono (rF (rF (rF (rY HO_400000.out BK401.out (by decide)) (fun _ hk => hk.2) _) (fun _ hk => hk.2) _) (fun _ hk => hk.2) _) (fun _ hk => ⟨hk.1.1,hk.1.2⟩)⟩
           have n5_ : Aside0 (Kd.R k57 57 (((w52.setCell ⟨gb401,0,none⟩ (.string ((rd_T57 t374 x8_1).f0))).setCell ⟨gb401,1,none⟩ (.string ((rd_T57 t374 x8_1).f1))).setCell ⟨gb401,2,none⟩ (.string ((rd_T57 t374 x8_1).f2))) w.heap.size (fun k_ => some k_ ≠ (.slice (some ad400) t374.length co15 : Value).ownBlock ∧ some k_ ≠ (.slice Ao25 t387.length co25 : Value).ownBlock ∧ k_ ≠ gb401) (.slice Ao32 t395.length co32) t395):=⟨by (with_reducible repeat (first|apply rA|apply rN|apply rD));exact Kd.R_mono (rF (rF (rF (Kd.R_mono HO_400001.out (fun k_ hk => (⟨hk,hk.2⟩ : _ ∧ k_ ≠ gb401))) (fun _ hk => hk.2) _) (fun _ hk => hk.2) _) (fun _ hk => hk.2) _) (fun _ hk => ⟨hk.1.1.1,⟨hk.1.1.2,hk.1.2⟩⟩)⟩
           have n6_ : Aside0 ((((w52.setCell ⟨gb401,0,none⟩ (.string ((rd_T57 t374 x8_1).f0))).setCell ⟨gb401,1,none⟩ (.string ((rd_T57 t374 x8_1).f1))).setCell ⟨gb401,2,none⟩ (.string ((rd_T57 t374 x8_1).f2))).heap[gb378]? = some (.cells #[.slice Ao13 t371.length co13,.slice (some ad400) t374.length co15,.string t377] 38 (0,0))):=⟨by (with_reducible repeat (first|refine bN ?_ _|refine bD ?_|refine bA ?_ _));refine blk_far ?_ NB378_401.out _;(with_reducible repeat (first|refine bN ?_ _|refine bD ?_|refine bA ?_ _));refine blk_far ?_ NB378_401.out _;(with_reducible repeat (first|refine bN ?_ _|refine bD ?_|refine bA ?_ _));refine blk_far ?_ NB378_401.out _;(with_reducible repeat (first|refine bN ?_ _|refine bD ?_|refine bA ?_ _));exact BK378.out⟩
           have n7_ : Aside0 ((((w52.setCell ⟨gb401,0,none⟩ (.string ((rd_T57 t374 x8_1).f0))).setCell ⟨gb401,1,none⟩ (.string ((rd_T57 t374 x8_1).f1))).setCell ⟨gb401,2,none⟩ (.string ((rd_T57 t374 x8_1).f2))).heap[gb391]? = some (.cells #[.slice Ao22 t384.length co22,.slice Ao25 t387.length co25,.string t390] 38 (0,0))):=⟨by (with_reducible repeat (first|refine bN ?_ _|refine bD ?_|refine bA ?_ _));refine blk_far ?_ NB391_401.out _;(with_reducible repeat (first|refine bN ?_ _|refine bD ?_|refine bA ?_ _));refine blk_far ?_ NB391_401.out _;(with_reducible repeat (first|refine bN ?_ _|refine bD ?_|refine bA ?_ _));refine blk_far ?_ NB391_401.out _;(with_reducible repeat (first|refine bN ?_ _|refine bD ?_|refine bA ?_ _));exact BK391.out⟩
           have n8_ : Aside0 ((((w52.setCell ⟨gb401,0,none⟩ (.string ((rd_T57 t374 x8_1).f0))).setCell ⟨gb401,1,none⟩ (.string ((rd_T57 t374 x8_1).f1))).setCell ⟨gb401,2,none⟩ (.string ((rd_T57 t374 x8_1).f2))).heap[gb399]? = some (.cells #[.slice Ao28 t392.length co28,.slice Ao32 t395.length co32,.string t398] 38 (0,0))):=⟨by (with_reducible repeat (first|refine bN ?_ _|refine bD ?_|refine bA ?_ _));refine blk_far ?_ NB399_401.out _;(with_reducible repeat (first|refine bN ?_ _|refine bD ?_|refine bA ?_ _));refine blk_far ?_ NB399_401.out _;(with_reducible repeat (first|refine bN ?_ _|refine bD ?_|refine bA ?_ _));refine blk_far ?_ NB399_401.out _;(with_reducible repeat (first|refine bN ?_ _|refine bD ?_|refine bA ?_ _));exact BK399.out⟩
           have n9_ : Aside0 ((((w52.setCell ⟨gb401,0,none⟩ (.string ((rd_T57 t374 x8_1).f0))).setCell ⟨gb401,1,none⟩ (.string ((rd_T57 t374 x8_1).f1))).setCell ⟨gb401,2,none⟩ (.string ((rd_T57 t374 x8_1).f2))).heap[gb401]? = some (.cells #[.string ((rd_T57 t374 x8_1).f0),.string ((rd_T57 t374 x8_1).f1),.string ((rd_T57 t374 x8_1).f2)] 57 (0,0))):=⟨by (with_reducible repeat (first|refine bN ?_ _|refine bD ?_|refine bA ?_ _));refine blk_put (cs:=#[.string ((rd_T57 t374 x8_1).f0),.string ((rd_T57 t374 x8_1).f1),.string (⟨#[]⟩ : ByteArray)]) ?_ 2 _ rfl;(with_reducible repeat (first|refine bN ?_ _|refine bD ?_|refine bA ?_ _));refine blk_put (cs:=#[.string ((rd_T57 t374 x8_1).f0),.string (⟨#[]⟩ : ByteArray),.string (⟨#[]⟩ : ByteArray)]) ?_ 1 _ rfl;(with_reducible repeat (first|refine bN ?_ _|refine bD ?_|refine bA ?_ _));refine blk_put (cs:=#[.string (⟨#[]⟩ : ByteArray),.string (⟨#[]⟩ : ByteArray),.string (⟨#[]⟩ : ByteArray)]) ?_ 0 _ rfl;(with_reducible repeat (first|refine bN ?_ _|refine bD ?_|refine bA ?_ _));exact BK401.out⟩
           have n10_ : Aside0 (Below w.heap.size w (((w52.setCell ⟨gb401,0,none⟩ (.string ((rd_T57 t374 x8_1).f0))).setCell ⟨gb401,1,none⟩ (.string ((rd_T57 t374 x8_1).f1))).setCell ⟨gb401,2,none⟩ (.string ((rd_T57 t374 x8_1).f2)))):=⟨by repeat (first|(with_reducible first|exact HB.out|apply lA|apply lN|apply lD|refine lS ?_ GE378.out|refine lS ?_ GE391.out|refine lS ?_ GE399.out|refine lS ?_ GE401.out)|exact HB.out)⟩
           (try clear HO_379000)
           (try clear HO_379001)
           (try clear HO_392000)
           (try clear HO_392001)
           (try clear HO_400000)
           (try clear HO_400001)
           (try clear BK378)
           (try clear BK391)
           (try clear BK399)
           (try clear BK401)
           (try clear HB)
           generalize (((w52.setCell ⟨gb401,0,none⟩ (.string ((rd_T57 t374 x8_1).f0))).setCell ⟨gb401,1,none⟩ (.string ((rd_T57 t374 x8_1).f1))).setCell ⟨gb401,2,none⟩ (.string ((rd_T57 t374 x8_1).f2))) = w57 at n0_ n1_ n2_ n3_ n4_ n5_ n6_ n7_ n8_ n9_ n10_ ⊢
           have HO_379000:=n0_
           have HO_379001:=n1_
           have HO_392000:=n2_
           have HO_392001:=n3_
           have HO_400000:=n4_
           have HO_400001:=n5_
           have BK378:=n6_
           have BK391:=n7_
           have BK399:=n8_
           have BK401:=n9_
           have HB:=n10_
           clear n0_ n1_ n2_ n3_ n4_ n5_ n6_ n7_ n8_ n9_ n10_
           have n0_:=aM (rD HO_379000.out)
           have n1_:=aM (rD HO_379001.out)
           have n2_:=aM (rD HO_392000.out)
           have n3_:=aM (rD HO_392001.out)
           have n4_:=aM (rD HO_400000.out)
           have n5_:=aM (rD HO_400001.out)
           have n6_:=aM (bD BK378.out)
           have n7_:=aM (bD BK391.out)
           have n8_:=aM (bD BK399.out)
           have n9_:=aM (bD BK401.out)
           have n10_:=aM (lD HB.out)
           clear HO_379000
           clear HO_379001
           clear HO_392000
           clear HO_392001
           clear HO_400000
           clear HO_400001
           clear BK378
           clear BK391
           clear BK399
           clear BK401
           clear HB
           have HO_379000:=n0_
           have HO_379001:=n1_
           have HO_392000:=n2_
           have HO_392001:=n3_
           have HO_400000:=n4_
           have HO_400001:=n5_
           have BK378:=n6_
           have BK391:=n7_
           have BK399:=n8_
           have BK401:=n9_
           have HB:=n10_
           clear n0_ n1_ n2_ n3_ n4_ n5_ n6_ n7_ n8_ n9_ n10_
           refine start_ (n:=20) (S:=fun w' => w'.cell? ⟨gb401,0,none⟩ = some (.string ((rd_T57 t374 x8_1).f0)) ∧ w'.cell? ⟨gb401,1,none⟩ = some (.string ((rd_T57 t374 x8_1).f1)) ∧ w'.cell? ⟨gb401,2,none⟩ = some (.string ((rd_T57 t374 x8_1).f2)) ∧ w'.cell? ⟨gb399,0,none⟩ = some (.slice Ao28 t392.length co28) ∧ w'.cell? ⟨gb399,1,none⟩ = some (.slice Ao32 t395.length co32) ∧ w'.cell? ⟨gb399,2,none⟩ = some (.string t398)) (ds:=[]) #[bf,bf,bf,bf,bf,bf,bf,bf,bf,bf,bf,bf,bf,bf,bf,bf,bf,bf,bf,bf] (by kernel_rfl) rfl rfl ⟨(bC BK401.out 0).trans rfl,(bC BK401.out 1).trans rfl,(bC BK401.out 2).trans rfl,(bC BK399.out 0).trans rfl,(bC BK399.out 1).trans rfl,(bC BK399.out 2).trans rfl⟩ (fun hHeld => ?_);refine with_tabW laws_FnCells.tab12 laws_FnCells.bits12 (fun HT_ HW_ => ?_)
           generalize w57.drew = w58 at HO_379000 HO_379001 HO_392000 HO_392001 HO_400000 HO_400001 BK378 BK391 BK399 BK401 HB hHeld ⊢
           refine pQ (i:=0) (N:=some 40) (v:=?_) (a':=?_) #[bT,bf,bf,bf,bf,bf,bf,bf,bf,bf,bf,bf,bf,bf,bf,bf,bf,bf,bf,bf] (any_of HT_.out (by kernel_rfl)) ?_ ?_ ?_
           rotate_left
           ·intro w';go_simp;with_reducible rfl
           rotate_left
           ·simp only [Act.put,q_ia11,q_cz11,q_cs11,i64_w,i32_w];rfl
           refine take_ (i:=1) (N:=some 41) (v:=?_) (a':=?_) #[bT,bT,bf,bf,bf,bf,bf,bf,bf,bf,bf,bf,bf,bf,bf,bf,bf,bf,bf,bf] rfl rfl (take_ofW HT_.out HW_.out (by kernel_rfl)) (fun _ _ _ h => h) (Or.inl ⟨by rfl,?_⟩) hHeld ?_ ?_
           rotate_left
           ·rintro w' ⟨s0,s1,s2,s3,s4,s5⟩
            go_simp
            with_reducible rfl
           rotate_left
           ·simp only [Act.put,q_ia11,q_cz11,q_cs11,i64_w,i32_w];rfl
           refine pQ (i:=2) (N:=some 42) (v:=?_) (a':=?_) #[bT,bT,bT,bf,bf,bf,bf,bf,bf,bf,bf,bf,bf,bf,bf,bf,bf,bf,bf,bf] (any_of HT_.out (by kernel_rfl)) ?_ ?_ ?_
           rotate_left
           ·intro w';go_simp;with_reducible rfl
           rotate_left
           ·simp only [Act.put,q_ia11,q_cz11,q_cs11,i64_w,i32_w];rfl
           refine pQ (i:=3) (N:=some 43) (v:=?_) (a':=?_) #[bT,bT,bT,bT,bf,bf,bf,bf,bf,bf,bf,bf,bf,bf,bf,bf,bf,bf,bf,bf] (any_of HT_.out (by kernel_rfl)) ?_ ?_ ?_
           rotate_left
           ·intro w';go_simp;with_reducible rfl
           rotate_left
           ·simp only [Act.put,q_ia11,q_cz11,q_cs11,i64_w,i32_w];rfl
           refine pQ (i:=4) (N:=some 44) (v:=?_) (a':=?_) #[bT,bT,bT,bT,bT,bf,bf,bf,bf,bf,bf,bf,bf,bf,bf,bf,bf,bf,bf,bf] (any_of HT_.out (by kernel_rfl)) ?_ ?_ ?_
           rotate_left
           ·intro w';go_simp;with_reducible rfl
           rotate_left
           ·simp only [Act.put,q_ia11,q_cz11,q_cs11,i64_w,i32_w];rfl
           refine pQ (i:=6) (N:=some 46) (v:=?_) (a':=?_) #[bT,bT,bT,bT,bT,bf,bT,bf,bf,bf,bf,bf,bf,bf,bf,bf,bf,bf,bf,bf] (any_of HT_.out (by kernel_rfl)) ?_ ?_ ?_
           rotate_left
           ·intro w';go_simp;with_reducible rfl
           rotate_left
           ·simp only [Act.put,q_ia11,q_cz11,q_cs11,i64_w,i32_w];rfl
           refine take_ (i:=5) (N:=some 45) (v:=?_) (a':=?_) #[bT,bT,bT,bT,bT,bT,bT,bf,bf,bf,bf,bf,bf,bf,bf,bf,bf,bf,bf,bf] rfl rfl (take_ofW HT_.out HW_.out (by kernel_rfl)) (fun _ _ _ h => h) (Or.inl ⟨by rfl,?_⟩) hHeld ?_ ?_
           rotate_left
           ·rintro w' ⟨s0,s1,s2,s3,s4,s5⟩
            go_simp
            with_reducible rfl
           rotate_left
           ·simp only [Act.put,q_ia11,q_cz11,q_cs11,i64_w,i32_w];rfl
           refine pQ (i:=7) (N:=some 47) (v:=?_) (a':=?_) #[bT,bT,bT,bT,bT,bT,bT,bT,bf,bf,bf,bf,bf,bf,bf,bf,bf,bf,bf,bf] (any_of HT_.out (by kernel_rfl)) ?_ ?_ ?_
           rotate_left
           ·intro w';go_simp;with_reducible rfl
           rotate_left
           ·simp only [Act.put,q_ia11,q_cz11,q_cs11,i64_w,i32_w];rfl
           refine pQ (i:=8) (N:=some 48) (v:=?_) (a':=?_) #[bT,bT,bT,bT,bT,bT,bT,bT,bT,bf,bf,bf,bf,bf,bf,bf,bf,bf,bf,bf] (any_of HT_.out (by kernel_rfl)) ?_ ?_ ?_
           rotate_left
           ·intro w';go_simp;with_reducible rfl
           rotate_left
           ·simp only [Act.put,q_ia11,q_cz11,q_cs11,i64_w,i32_w];rfl
           refine pQ (i:=9) (N:=some 49) (v:=?_) (a':=?_) #[bT,bT,bT,bT,bT,bT,bT,bT,bT,bT,bf,bf,bf,bf,bf,bf,bf,bf,bf,bf] (any_of HT_.out (by kernel_rfl)) ?_ ?_ ?_
           rotate_left
           ·intro w';go_simp;with_reducible rfl
           rotate_left
           ·simp only [Act.put,q_ia11,q_cz11,q_cs11,i64_w,i32_w];rfl
           refine pQ (i:=11) (N:=some 51) (v:=?_) (a':=?_) #[bT,bT,bT,bT,bT,bT,bT,bT,bT,bT,bf,bT,bf,bf,bf,bf,bf,bf,bf,bf] (any_of HT_.out (by kernel_rfl)) ?_ ?_ ?_
           rotate_left
           ·intro w';go_simp;with_reducible rfl
           rotate_left
           ·simp only [Act.put,q_ia11,q_cz11,q_cs11,i64_w,i32_w];rfl
           refine pQ (i:=13) (N:=some 53) (v:=?_) (a':=?_) #[bT,bT,bT,bT,bT,bT,bT,bT,bT,bT,bf,bT,bf,bT,bf,bf,bf,bf,bf,bf] (any_of HT_.out (by kernel_rfl)) ?_ ?_ ?_
           rotate_left
           ·intro w';go_simp;with_reducible rfl
           rotate_left
           ·simp only [Act.put,q_ia11,q_cz11,q_cs11,i64_w,i32_w];rfl
           refine pQ (i:=16) (N:=some 56) (v:=?_) (a':=?_) #[bT,bT,bT,bT,bT,bT,bT,bT,bT,bT,bf,bT,bf,bT,bf,bf,bT,bf,bf,bf] (any_of HT_.out (by kernel_rfl)) ?_ ?_ ?_
           rotate_left
           ·intro w';go_simp;with_reducible rfl
           rotate_left
           ·simp only [Act.put,q_ia11,q_cz11,q_cs11,i64_w,i32_w];rfl
           refine take_ (i:=10) (N:=some 50) (v:=?_) (a':=?_) #[bT,bT,bT,bT,bT,bT,bT,bT,bT,bT,bT,bT,bf,bT,bf,bf,bT,bf,bf,bf] rfl rfl (take_ofW HT_.out HW_.out (by kernel_rfl)) (fun _ _ _ h => h) (Or.inl ⟨by rfl,?_⟩) hHeld ?_ ?_
           rotate_left
           ·rintro w' ⟨s0,s1,s2,s3,s4,s5⟩
            go_simp
            with_reducible rfl
           rotate_left
           ·simp only [Act.put,q_ia11,q_cz11,q_cs11,i64_w,i32_w];rfl
           refine take_ (i:=12) (N:=some 52) (v:=?_) (a':=?_) #[bT,bT,bT,bT,bT,bT,bT,bT,bT,bT,bT,bT,bT,bT,bf,bf,bT,bf,bf,bf] rfl rfl (take_ofW HT_.out HW_.out (by kernel_rfl)) (fun _ _ _ h => h) (Or.inl ⟨by rfl,?_⟩) hHeld ?_ ?_
           rotate_left
           ·rintro w' ⟨s0,s1,s2,s3,s4,s5⟩
            go_simp
            with_reducible rfl
           rotate_left
           ·simp only [Act.put,q_ia11,q_cz11,q_cs11,i64_w,i32_w];rfl
           refine take_ (i:=14) (N:=some 54) (v:=?_) (a':=?_) #[bT,bT,bT,bT,bT,bT,bT,bT,bT,bT,bT,bT,bT,bT,bT,bf,bT,bf,bf,bf] rfl rfl (take_ofW HT_.out HW_.out (by kernel_rfl)) (fun _ _ _ h => h) (Or.inl ⟨by rfl,?_⟩) hHeld ?_ ?_
           rotate_left
           ·rintro w' ⟨s0,s1,s2,s3,s4,s5⟩
            go_simp
            with_reducible rfl
           rotate_left
           ·simp only [Act.put,q_ia11,q_cz11,q_cs11,i64_w,i32_w];rfl
           refine take_ (i:=17) (N:=some 57) (v:=?_) (a':=?_) #[bT,bT,bT,bT,bT,bT,bT,bT,bT,bT,bT,bT,bT,bT,bT,bf,bT,bT,bf,bf] rfl rfl (take_ofW HT_.out HW_.out (by kernel_rfl)) (fun _ _ _ h => h) (Or.inl ⟨by rfl,?_⟩) hHeld ?_ ?_
           rotate_left
           ·rintro w' ⟨s0,s1,s2,s3,s4,s5⟩
            go_simp
            with_reducible rfl
           rotate_left
           ·simp only [Act.put,q_ia11,q_cz11,q_cs11,i64_w,i32_w];rfl
           refine one_ (i:=15) (N:=some 55) #[bT,bT,bT,bT,bT,bT,bT,bT,bT,bT,bT,bT,bT,bT,bT,bT,bT,bT,bf,bf] rfl rfl (one_of HT_.out (by kernel_rfl)) (by decide) (fun K hK => ?_)
           refine goes_ Try.func38 (by kernel_rfl) rfl #[.agg #[.slice Ao28 t392.length co28,.slice Ao32 t395.length co32,.string t398],.string ((rd_T57 t374 x8_1).f0),.string ((rd_T57 t374 x8_1).f1)] (by rfl) rfl rfl (by (try simp only [List.map_toArray,List.map_cons,List.map_nil]);first|done|rfl|(simp only [List.length_drop,List.length_take];rfl)) ?_
           with_reducible refine (impl_CellOf.calls k1 _ _ t392 _ _ t395 t398 ((rd_T57 t374 x8_1).f0) ((rd_T57 t374 x8_1).f1) t402 _ ?side1 ?side2 ?side3 ?side4 A47.out).mono ?_
           (case side1 => repeat (first|exact (rR HO_400000.out).2.2|(with_reducible first|refine cA ?_ _|refine cN ?_ _|refine cD ?_)))
           (case side2 => exact (rR HO_400000.out).2.1)
           (case side3 => repeat (first|exact (rR HO_400001.out).2.2|(with_reducible first|refine cA ?_ _|refine cN ?_ _|refine cD ?_)))
           (case side4 => exact (rR HO_400001.out).2.1)
           rintro e w59 ⟨rfl,hb⟩
           refine ⟨_,rfl,?_⟩
           have n0_:=aM (rH HO_379000.out hb)
           have n1_:=aM (rH HO_379001.out hb)
           have n2_:=aM (rH HO_392000.out hb)
           have n3_:=aM (rH HO_392001.out hb)
           have n4_:=aM (rH HO_400000.out hb)
           have n5_:=aM (rH HO_400001.out hb)
           have n6_:=aM (bH BK378.out hb)
           have n7_:=aM (bH BK391.out hb)
           have n8_:=aM (bH BK399.out hb)
           have n9_:=aM (bH BK401.out hb)
           have n10_:=aM (lQ HB.out hb)
           clear HO_379000
           clear HO_379001
           clear HO_392000
           clear HO_392001
           clear HO_400000
           clear HO_400001
           clear BK378
           clear BK391
           clear BK399
           clear BK401
           clear HB
           have HO_379000:=n0_
           have HO_379001:=n1_
           have HO_392000:=n2_
           have HO_392001:=n3_
           have HO_400000:=n4_
           have HO_400001:=n5_
           have BK378:=n6_
           have BK391:=n7_
           have BK399:=n8_
           have BK401:=n9_
           have HB:=n10_
           clear n0_ n1_ n2_ n3_ n4_ n5_ n6_ n7_ n8_ n9_ n10_
           (try clear hb)
           (try clear hb2)
           (try clear hk)
           (try clear hi)
           refine hK.out _ _ ⟨(bC BK401.out 0).trans rfl,(bC BK401.out 1).trans rfl,(bC BK401.out 2).trans rfl,(bC BK399.out 0).trans rfl,(bC BK399.out 1).trans rfl,(bC BK399.out 2).trans rfl⟩ (fun hHeld => ?_)
           clear hK K
           refine norm_ (a':=?_) ?_ ?_
           rotate_left
           ·show Act.put _ (some 55) _ = _
            simp only [Act.put,q_ia11,q_cz11,q_cs11,i64_w,i32_w]
            rfl
           refine pQ (i:=18) (N:=some 58) (v:=?_) (a':=?_) #[bT,bT,bT,bT,bT,bT,bT,bT,bT,bT,bT,bT,bT,bT,bT,bT,bT,bT,bT,bf] (any_of HT_.out (by kernel_rfl)) ?_ ?_ ?_
           rotate_left
           ·intro w';go_simp;with_reducible rfl
           rotate_left
           ·simp only [Act.put,q_ia11,q_cz11,q_cs11,i64_w,i32_w];rfl
           refine pQ (i:=19) (N:=some 59) (v:=?_) (a':=?_) #[bT,bT,bT,bT,bT,bT,bT,bT,bT,bT,bT,bT,bT,bT,bT,bT,bT,bT,bT,bT] (any_of HT_.out (by kernel_rfl)) ?_ ?_ ?_
           rotate_left
           ·intro w';go_simp;with_reducible rfl
           rotate_left
           ·simp only [Act.put,q_ia11,q_cz11,q_cs11,i64_w,i32_w];rfl
           refine done_ (done_of HT_.out (by kernel_rfl)) ?_
           try go_wp2
           go_roundg k1
           case measure => have:=HK1.out;omega
           case rel => exact ⟨(wrap64 (x8_1 + 1)),(by first|rfl|(simp;done)|(simp [*];done)),H',⟨by have:=HK1.out;omega⟩,⟨by (with_reducible repeat (first|apply rA|apply rN|apply rD));exact HO_379000.out⟩,⟨by (with_reducible repeat (first|apply rA|apply rN|apply rD));exact Kd.R_mono HO_379001.out (fun _ hk => ⟨hk.1,hk.2.1⟩)⟩,⟨by (with_reducible repeat (first|apply rA|apply rN|apply rD));exact HO_392000.out⟩,⟨by (with_reducible repeat (first|apply rA|apply rN|apply rD));exact Kd.R_mono HO_392001.out (fun _ hk => ⟨hk.1,hk.2.1⟩)⟩,⟨by (with_reducible repeat (first|apply rA|apply rN|apply rD));exact HO_400000.out⟩,⟨by (with_reducible repeat (first|apply rA|apply rN|apply rD));exact Kd.R_mono HO_400001.out (fun _ hk => ⟨hk.1,hk.2.1⟩)⟩,⟨by (with_reducible repeat (first|refine bN ?_ _|refine bD ?_|refine bA ?_ _));exact BK378.out⟩,⟨by (with_reducible repeat (first|refine bN ?_ _|refine bD ?_|refine bA ?_ _));exact BK391.out⟩,⟨by (with_reducible repeat (first|refine bN ?_ _|refine bD ?_|refine bA ?_ _));exact BK399.out⟩,⟨by repeat (first|(with_reducible first|exact HB.out|apply lA|apply lN|apply lD|refine lS ?_ GE378.out|refine lS ?_ GE391.out|refine lS ?_ GE399.out|refine lS ?_ GE401.out)|exact HB.out)⟩⟩
          ·rw [if_neg c48] at H
           have c48b0 : (t402.toList == ((rd_T57 t374 x8_1).f2).toList) = false:=beq_eq_false_iff_ne.mpr c48
           have c48b1 : (t402.toList != ((rd_T57 t374 x8_1).f2).toList) = true:=bne_iff_ne.mpr c48
           exact absurd (HR_.out.symm.trans (Option.some.inj H).symm) (by decide)
        ·rw [if_neg c35] at H
         have c35b0 : (((rd_T57 t374 x8_1).f0).toList == ([116] : List UInt8)) = false:=beq_eq_false_iff_ne.mpr c35
         have c35b1 : (((rd_T57 t374 x8_1).f0).toList != ([116] : List UInt8)) = true:=bne_iff_ne.mpr c35
         replace H:=Option.bind_eq_some_iff.mp H
         obtain ⟨t403,A600,H⟩:=H
         replace H : (if t403.toList = ((rd_T57 t374 x8_1).f2).toList then (laws_FnCells.l0 k1 ((⟨#[107,101,121]⟩ : ByteArray) ++ t383) (wrap64 (x8_1 + 1)) t371 t374 t377 t384 t387 t390 t392 t395 t398) else (some false)) = some r:=H
         have A60:=aM A600
         clear A600
         by_cases c61 : t403.toList = ((rd_T57 t374 x8_1).f2).toList
         ·rw [if_pos c61] at H
          have c61b0 : (t403.toList == ((rd_T57 t374 x8_1).f2).toList) = true:=beq_iff_eq.mpr c61
          have c61b1 : (t403.toList != ((rd_T57 t374 x8_1).f2).toList) = false:=bne_eq_false_iff_eq.mpr c61
          clear c61
          have H':=aM H
          clear H
          have hnb62:=NB378_391.out
          have hnc62:=NB391_378.out
          have hnb63:=NB378_399.out
          have hnc63:=NB399_378.out
          obtain ⟨⟨hcz64_0,hcz64_1,hcz64_2⟩,hfz64_0,hfz64_1,hfz64_2⟩:=bC3 BK378.out
          have p400 : 0 ≤ (x8_1 : Int):=of_decide_eq_true (by first|(with_reducible assumption)|assumption)
          have q400 : x8_1 < (t374.length : Int):=of_decide_eq_true (by first|(with_reducible assumption)|assumption)
          obtain ⟨ad400,e400,hx400_0,hx400_1,hx400_2⟩:=at_T57 (rR HO_379001.out).2.2 x8_1 p400 q400
          cases e400
          replace p400:=eq_true p400
          replace q400:=eq_true q400
          try go_wp2_with (first|((with_reducible refine gate_dst (N:=9) rfl ?_);(try (refine gate_guard (by rfl) ?_;dsimp only));refine box_event ?hg (N:=9) ?hd (cs:=#[.string (⟨#[]⟩ : ByteArray),.string (⟨#[]⟩ : ByteArray),.string (⟨#[]⟩ : ByteArray)]) (t:=57) ?hr ?_;(case hd => rfl);(case hg => rfl);(case hr => first|(go_simp;done)|(go_simp;rfl));intro gb401 hg w65 hbox hb;have n0_:=aM (rH HO_379000.out hb);have n1_:=aM (rB (Kd.R_elderB (rZ HO_379001.out) gb401 (Nat.le_of_eq hg.symm)) hb);have n2_:=aM (rH HO_392000.out hb);have n3_:=aM (rB (Kd.R_elderB (rZ HO_392001.out) gb401 (Nat.le_of_eq hg.symm)) hb);have n4_:=aM (rH HO_400000.out hb);have n5_:=aM (rB (Kd.R_elderB (rZ HO_400001.out) gb401 (Nat.le_of_eq hg.symm)) hb);have n6_:=aM (bH BK378.out hb);have n7_:=aM (bH BK391.out hb);have n8_:=aM (bH BK399.out hb);have n9_:=aM (lQ HB.out hb);have n10_:=aM (hbox);have n11_:=aM ((sQ hg HB.out : w.heap.size ≤ gb401));have n12_:=n11_;have n13_:=aM ((nL hg BK378.out : gb378 ≠ gb401));have n14_:=aM ((nG hg BK378.out : gb401 ≠ gb378));have n15_:=aM ((nL hg BK391.out : gb391 ≠ gb401));have n16_:=aM ((nG hg BK391.out : gb401 ≠ gb391));have n17_:=aM ((nL hg BK399.out : gb399 ≠ gb401));have n18_:=aM ((nG hg BK399.out : gb401 ≠ gb399));clear HO_379000 HO_379001 HO_392000 HO_392001 HO_400000 HO_400001 BK378 BK391 BK399 HB;have HO_379000:=n0_;have HO_379001:=n1_;have HO_392000:=n2_;have HO_392001:=n3_;have HO_400000:=n4_;have HO_400001:=n5_;have BK378:=n6_;have BK391:=n7_;have BK399:=n8_;have HB:=n9_;have BK401:=n10_;have GW401:=n11_;have GE401:=n12_;have NB378_401:=n13_;have NB401_378:=n14_;have NB391_401:=n15_;have NB401_391:=n16_;have NB399_401:=n17_;have NB401_399:=n18_;clear n0_ n1_ n2_ n3_ n4_ n5_ n6_ n7_ n8_ n9_ n10_ n11_ n12_ n13_ n14_ n15_ n16_ n17_ n18_ hb hbox hg;have hnb66:=NB401_378.out;have hnc66:=NB378_401.out;have hnb67:=NB401_391.out;have hnc67:=NB391_401.out;have hnb68:=NB401_399.out;have hnc68:=NB399_401.out;obtain ⟨⟨hcz69_0,hcz69_1,hcz69_2⟩,hfz69_0,hfz69_1,hfz69_2⟩:=bC3 BK401.out))
          have n0_ : Aside0 (Kd.R k53 53 (((w65.setCell ⟨gb401,0,none⟩ (.string ((rd_T57 t374 x8_1).f0))).setCell ⟨gb401,1,none⟩ (.string ((rd_T57 t374 x8_1).f1))).setCell ⟨gb401,2,none⟩ (.string ((rd_T57 t374 x8_1).f2))) w.heap.size (fun k_ => some k_ ≠ (.slice Ao22 t384.length co22 : Value).ownBlock ∧ some k_ ≠ (.slice Ao28 t392.length co28 : Value).ownBlock) (.slice Ao13 t371.length co13) t371):=⟨by (with_reducible repeat (first|apply rA|apply rN|apply rD));exact Kd.R_mono (rF (rF (rF (rY HO_379000.out BK401.out (by decide)) (fun _ hk => hk.2) _) (fun _ hk => hk.2) _) (fun _ hk => hk.2) _) (fun _ hk => ⟨hk.1.1,hk.1.2⟩)⟩
          have n1_ : Aside0 (Kd.R k57 57 (((w65.setCell ⟨gb401,0,none⟩ (.string ((rd_T57 t374 x8_1).f0))).setCell ⟨gb401,1,none⟩ (.string ((rd_T57 t374 x8_1).f1))).setCell ⟨gb401,2,none⟩ (.string ((rd_T57 t374 x8_1).f2))) w.heap.size (fun k_ => some k_ ≠ (.slice Ao25 t387.length co25 : Value).ownBlock ∧ some k_ ≠ (.slice Ao32 t395.length co32 : Value).ownBlock ∧ k_ ≠ gb401) (.slice (some ad400) t374.length co15) t374):=⟨by (with_reducible repeat (first|apply rA|apply rN|apply rD));exact Kd.R_mono (rF (rF (rF (Kd.R_mono HO_379001.out (fun k_ hk => (⟨hk,hk.2⟩ : _ ∧ k_ ≠ gb401))) (fun _ hk => hk.2) _) (fun _ hk => hk.2) _) (fun _ hk => hk.2) _) (fun _ hk => ⟨hk.1.1.1,⟨hk.1.1.2,hk.1.2⟩⟩)⟩
          have n2_ : Aside0 (Kd.R k53 53 (((w65.setCell ⟨gb401,0,none⟩ (.string ((rd_T57 t374 x8_1).f0))).setCell ⟨gb401,1,none⟩ (.string ((rd_T57 t374 x8_1).f1))).setCell ⟨gb401,2,none⟩ (.string ((rd_T57 t374 x8_1).f2))) w.heap.size (fun k_ => some k_ ≠ (.slice Ao13 t371.length co13 : Value).ownBlock ∧ some k_ ≠ (.slice Ao28 t392.length co28 : Value).ownBlock) (.slice Ao22 t384.length co22) t384):=⟨by (with_reducible repeat (first|apply rA|apply rN|apply rD));exact Kd.R_mono (rF (rF (rF (rY HO_392000.out BK401.out (by decide)) (fun _ hk => hk.2) _) (fun _ hk => hk.2) _) (fun _ hk => hk.2) _) (fun _ hk => ⟨hk.1.1,hk.1.2⟩)⟩
          have n3_ : Aside0 (Kd.R k57 57 (((w65.setCell ⟨gb401,0,none⟩ (.string ((rd_T57 t374 x8_1).f0))).setCell ⟨gb401,1,none⟩ (.string ((rd_T57 t374 x8_1).f1))).setCell ⟨gb401,2,none⟩ (.string ((rd_T57 t374 x8_1).f2))) w.heap.size (fun k_ => some k_ ≠ (.slice (some ad400) t374.length co15 : Value).ownBlock ∧ some k_ ≠ (.slice Ao32 t395.length co32 : Value).ownBlock ∧ k_ ≠ gb401) (.slice Ao25 t387.length co25) t387):=⟨by (with_reducible repeat (first|apply rA|apply rN|apply rD));exact Kd.R_mono (rF (rF (rF (Kd.R_mono HO_392001.out (fun k_ hk => (⟨hk,hk.2⟩ : _ ∧ k_ ≠ gb401))) (fun _ hk => hk.2) _) (fun _ hk => hk.2) _) (fun _ hk => hk.2) _) (fun _ hk => ⟨hk.1.1.1,⟨hk.1.1.2,hk.1.2⟩⟩)⟩
          have n4_ : Aside0 (Kd.R k53 53 (((w65.setCell ⟨gb401,0,none⟩ (.string ((rd_T57 t374 x8_1).f0))).setCell ⟨gb401,1,none⟩ (.string ((rd_T57 t374 x8_1).f1))).setCell ⟨gb401,2,none⟩ (.string ((rd_T57 t374 x8_1).f2))) w.heap.size (fun k_ => some k_ ≠ (.slice Ao13 t371.length co13 : Value).ownBlock ∧ some k_ ≠ (.slice Ao22 t384.length co22 : Value).ownBlock) (.slice Ao28 t392.length co28) t392):=⟨by (with_reducible repeat (first|apply rA|apply rN|apply rD));exact Kd.R_mono (rF (rF (rF (rY HO_400000.out BK401.out (by decide)) (fun _ hk => hk.2) _) (fun _ hk => hk.2) _) (fun _ hk => hk.2) _) (fun _ hk => ⟨hk.1.1,hk.1.2⟩)⟩
          have n5_ : Aside0 (Kd.R k57 57 (((w65.setCell ⟨gb401,0,none⟩ (.string ((rd_T57 t374 x8_1).f0))).setCell ⟨gb401,1,none⟩ (.string ((rd_T57 t374 x8_1).f1))).setCell ⟨gb401,2,none⟩ (.string ((rd_T57 t374 x8_1).f2))) w.heap.size (fun k_ => some k_ ≠ (.slice (some ad400) t374.length co15 : Value).ownBlock ∧ some k_ ≠ (.slice Ao25 t387.length co25 : Value).ownBlock ∧ k_ ≠ gb401) (.slice Ao32 t395.length co32) t395):=⟨by (with_reducible repeat (first|apply rA|apply rN|apply rD));exact Kd.R_mono (rF (rF (rF (Kd.R_mono HO_400001.out (fun k_ hk => (⟨hk,hk.2⟩ : _ ∧ k_ ≠ gb401))) (fun _ hk => hk.2) _) (fun _ hk => hk.2) _) (fun _ hk => hk.2) _) (fun _ hk => ⟨hk.1.1.1,⟨hk.1.1.2,hk.1.2⟩⟩)⟩
          have n6_ : Aside0 ((((w65.setCell ⟨gb401,0,none⟩ (.string ((rd_T57 t374 x8_1).f0))).setCell ⟨gb401,1,none⟩ (.string ((rd_T57 t374 x8_1).f1))).setCell ⟨gb401,2,none⟩ (.string ((rd_T57 t374 x8_1).f2))).heap[gb378]? = some (.cells #[.slice Ao13 t371.length co13,.slice (some ad400) t374.length co15,.string t377] 38 (0,0))):=⟨by (with_reducible repeat (first|refine bN ?_ _|refine bD ?_|refine bA ?_ _));refine blk_far ?_ NB378_401.out _;(with_reducible repeat (first|refine bN ?_ _|refine bD ?_|refine bA ?_ _));refine blk_far ?_ NB378_401.out _;(with_reducible repeat (first|refine bN ?_ _|refine bD ?_|refine bA ?_ _));refine blk_far ?_ NB378_401.out _;(with_reducible repeat (first|refine bN ?_ _|refine bD ?_|refine bA ?_ _));exact BK378.out⟩
          have n7_ : Aside0 ((((w65.setCell ⟨gb401,0,none⟩ (.string ((rd_T57 t374 x8_1).f0))).setCell ⟨gb401,1,none⟩ (.string ((rd_T57 t374 x8_1).f1))).setCell ⟨gb401,2,none⟩ (.string ((rd_T57 t374 x8_1).f2))).heap[gb391]? = some (.cells #[.slice Ao22 t384.length co22,.slice Ao25 t387.length co25,.string t390] 38 (0,0))):=⟨by (with_reducible repeat (first|refine bN ?_ _|refine bD ?_|refine bA ?_ _));refine blk_far ?_ NB391_401.out _;(with_reducible repeat (first|refine bN ?_ _|refine bD ?_|refine bA ?_ _));refine blk_far ?_ NB391_401.out _;(with_reducible repeat (first|refine bN ?_ _|refine bD ?_|refine bA ?_ _));refine blk_far ?_ NB391_401.out _;(with_reducible repeat (first|refine bN ?_ _|refine bD ?_|refine bA ?_ _));exact BK391.out⟩
          have n8_ : Aside0 ((((w65.setCell ⟨gb401,0,none⟩ (.string ((rd_T57 t374 x8_1).f0))).setCell ⟨gb401,1,none⟩ (.string ((rd_T57 t374 x8_1).f1))).setCell ⟨gb401,2,none⟩ (.string ((rd_T57 t374 x8_1).f2))).heap[gb399]? = some (.cells #[.slice Ao28 t392.length co28,.slice Ao32 t395.length co32,.string t398] 38 (0,0))):=⟨by (with_reducible repeat (first|refine bN ?_ _|refine bD ?_|refine bA ?_ _));refine blk_far ?_ NB399_401.out _;(with_reducible repeat (first|refine bN ?_ _|refine bD ?_|refine bA ?_ _));refine blk_far ?_ NB399_401.out _;(with_reducible repeat (first|refine bN ?_ _|refine bD ?_|refine bA ?_ _));refine blk_far ?_ NB399_401.out _;(with_reducible repeat (first|refine bN ?_ _|refine bD ?_|refine bA ?_ _));exact BK399.out⟩
          have n9_ : Aside0 ((((w65.setCell ⟨gb401,0,none⟩ (.string ((rd_T57 t374 x8_1).f0))).setCell ⟨gb401,1,none⟩ (.string ((rd_T57 t374 x8_1).f1))).setCell ⟨gb401,2,none⟩ (.string ((rd_T57 t374 x8_1).f2))).heap[gb401]? = some (.cells #[.string ((rd_T57 t374 x8_1).f0),.string ((rd_T57 t374 x8_1).f1),.string ((rd_T57 t374 x8_1).f2)] 57 (0,0))):=⟨by (with_reducible repeat (first|refine bN ?_ _|refine bD ?_|refine bA ?_ _));refine blk_put (cs:=#[.string ((rd_T57 t374 x8_1).f0),.string ((rd_T57 t374 x8_1).f1),.string (⟨#[]⟩ : ByteArray)]) ?_ 2 _ rfl;(with_reducible repeat (first|refine bN ?_ _|refine bD ?_|refine bA ?_ _));refine blk_put (cs:=#[.string ((rd_T57 t374 x8_1).f0),.string (⟨#[]⟩ : ByteArray),.string (⟨#[]⟩ : ByteArray)]) ?_ 1 _ rfl;(with_reducible repeat (first|refine bN ?_ _|refine bD ?_|refine bA ?_ _));refine blk_put (cs:=#[.string (⟨#[]⟩ : ByteArray),.string (⟨#[]⟩ : ByteArray),.string (⟨#[]⟩ : ByteArray)]) ?_ 0 _ rfl;(with_reducible repeat (first|refine bN ?_ _|refine bD ?_|refine bA ?_ _));exact BK401.out⟩
          have n10_ : Aside0 (Below w.heap.size w (((w65.setCell ⟨gb401,0,none⟩ (.string ((rd_T57 t374 x8_1).f0))).setCell ⟨gb401,1,none⟩ (.string ((rd_T57 t374 x8_1).f1))).setCell ⟨gb401,2,none⟩ (.string ((rd_T57 t374 x8_1).f2)))):=⟨by repeat (first|(with_reducible first|exact HB.out|apply lA|apply lN|apply lD|refine lS ?_ GE378.out|refine lS ?_ GE391.out|refine lS ?_ GE399.out|refine lS ?_ GE401.out)|exact HB.out)⟩
          (try clear HO_379000)
          (try clear HO_379001)
          (try clear HO_392000)
          (try clear HO_392001)
          (try clear HO_400000)
          (try clear HO_400001)
          (try clear BK378)
          (try clear BK391)
          (try clear BK399)
          (try clear BK401)
          (try clear HB)
          generalize (((w65.setCell ⟨gb401,0,none⟩ (.string ((rd_T57 t374 x8_1).f0))).setCell ⟨gb401,1,none⟩ (.string ((rd_T57 t374 x8_1).f1))).setCell ⟨gb401,2,none⟩ (.string ((rd_T57 t374 x8_1).f2))) = w70 at n0_ n1_ n2_ n3_ n4_ n5_ n6_ n7_ n8_ n9_ n10_ ⊢
          have HO_379000:=n0_
          have HO_379001:=n1_
          have HO_392000:=n2_
          have HO_392001:=n3_
          have HO_400000:=n4_
          have HO_400001:=n5_
          have BK378:=n6_
          have BK391:=n7_
          have BK399:=n8_
          have BK401:=n9_
          have HB:=n10_
          clear n0_ n1_ n2_ n3_ n4_ n5_ n6_ n7_ n8_ n9_ n10_
          have n0_:=aM (rD HO_379000.out)
          have n1_:=aM (rD HO_379001.out)
          have n2_:=aM (rD HO_392000.out)
          have n3_:=aM (rD HO_392001.out)
          have n4_:=aM (rD HO_400000.out)
          have n5_:=aM (rD HO_400001.out)
          have n6_:=aM (bD BK378.out)
          have n7_:=aM (bD BK391.out)
          have n8_:=aM (bD BK399.out)
          have n9_:=aM (bD BK401.out)
          have n10_:=aM (lD HB.out)
          clear HO_379000
          clear HO_379001
          clear HO_392000
          clear HO_392001
          clear HO_400000
          clear HO_400001
          clear BK378
          clear BK391
          clear BK399
          clear BK401
          clear HB
          have HO_379000:=n0_
          have HO_379001:=n1_
          have HO_392000:=n2_
          have HO_392001:=n3_
          have HO_400000:=n4_
          have HO_400001:=n5_
          have BK378:=n6_
          have BK391:=n7_
          have BK399:=n8_
          have BK401:=n9_
          have HB:=n10_
          clear n0_ n1_ n2_ n3_ n4_ n5_ n6_ n7_ n8_ n9_ n10_
          refine start_ (n:=20) (S:=fun w' => w'.cell? ⟨gb401,0,none⟩ = some (.string ((rd_T57 t374 x8_1).f0)) ∧ w'.cell? ⟨gb401,1,none⟩ = some (.string ((rd_T57 t374 x8_1).f1)) ∧ w'.cell? ⟨gb401,2,none⟩ = some (.string ((rd_T57 t374 x8_1).f2)) ∧ w'.cell? ⟨gb399,0,none⟩ = some (.slice Ao28 t392.length co28) ∧ w'.cell? ⟨gb399,1,none⟩ = some (.slice Ao32 t395.length co32) ∧ w'.cell? ⟨gb399,2,none⟩ = some (.string t398)) (ds:=[]) #[bf,bf,bf,bf,bf,bf,bf,bf,bf,bf,bf,bf,bf,bf,bf,bf,bf,bf,bf,bf] (by kernel_rfl) rfl rfl ⟨(bC BK401.out 0).trans rfl,(bC BK401.out 1).trans rfl,(bC BK401.out 2).trans rfl,(bC BK399.out 0).trans rfl,(bC BK399.out 1).trans rfl,(bC BK399.out 2).trans rfl⟩ (fun hHeld => ?_);refine with_tabW laws_FnCells.tab12 laws_FnCells.bits12 (fun HT_ HW_ => ?_)
          generalize w70.drew = w71 at HO_379000 HO_379001 HO_392000 HO_392001 HO_400000 HO_400001 BK378 BK391 BK399 BK401 HB hHeld ⊢
          refine pQ (i:=0) (N:=some 40) (v:=?_) (a':=?_) #[bT,bf,bf,bf,bf,bf,bf,bf,bf,bf,bf,bf,bf,bf,bf,bf,bf,bf,bf,bf] (any_of HT_.out (by kernel_rfl)) ?_ ?_ ?_
          rotate_left
          ·intro w';go_simp;with_reducible rfl
          rotate_left
          ·simp only [Act.put,q_ia11,q_cz11,q_cs11,i64_w,i32_w];rfl
          refine take_ (i:=1) (N:=some 41) (v:=?_) (a':=?_) #[bT,bT,bf,bf,bf,bf,bf,bf,bf,bf,bf,bf,bf,bf,bf,bf,bf,bf,bf,bf] rfl rfl (take_ofW HT_.out HW_.out (by kernel_rfl)) (fun _ _ _ h => h) (Or.inl ⟨by rfl,?_⟩) hHeld ?_ ?_
          rotate_left
          ·rintro w' ⟨s0,s1,s2,s3,s4,s5⟩
           go_simp
           with_reducible rfl
          rotate_left
          ·simp only [Act.put,q_ia11,q_cz11,q_cs11,i64_w,i32_w];rfl
          refine pQ (i:=2) (N:=some 42) (v:=?_) (a':=?_) #[bT,bT,bT,bf,bf,bf,bf,bf,bf,bf,bf,bf,bf,bf,bf,bf,bf,bf,bf,bf] (any_of HT_.out (by kernel_rfl)) ?_ ?_ ?_
          rotate_left
          ·intro w';go_simp;with_reducible rfl
          rotate_left
          ·simp only [Act.put,q_ia11,q_cz11,q_cs11,i64_w,i32_w];rfl
          refine pQ (i:=3) (N:=some 43) (v:=?_) (a':=?_) #[bT,bT,bT,bT,bf,bf,bf,bf,bf,bf,bf,bf,bf,bf,bf,bf,bf,bf,bf,bf] (any_of HT_.out (by kernel_rfl)) ?_ ?_ ?_
          rotate_left
          ·intro w';go_simp;with_reducible rfl
          rotate_left
          ·simp only [Act.put,q_ia11,q_cz11,q_cs11,i64_w,i32_w];rfl
          refine pure_ (i:=4) (N:=some 44) (v:=undef) (a':=?_) #[bT,bT,bT,bT,bT,bf,bf,bf,bf,bf,bf,bf,bf,bf,bf,bf,bf,bf,bf,bf] rfl rfl (any_of HT_.out (by kernel_rfl)) (fun _ _ _ h => h) (Or.inr ⟨by rfl,rfl⟩) ?_ ?_
          rotate_left
          ·simp only [Act.put,q_ia11,q_cz11,q_cs11,i64_w,i32_w];rfl
          refine pure_ (i:=5) (N:=some 45) (v:=undef) (a':=?_) #[bT,bT,bT,bT,bT,bT,bf,bf,bf,bf,bf,bf,bf,bf,bf,bf,bf,bf,bf,bf] rfl rfl (any_of HT_.out (by kernel_rfl)) (fun _ _ _ h => h) (Or.inr ⟨by rfl,rfl⟩) ?_ ?_
          rotate_left
          ·simp only [Act.put,q_ia11,q_cz11,q_cs11,i64_w,i32_w];rfl
          refine pure_ (i:=6) (N:=some 46) (v:=undef) (a':=?_) #[bT,bT,bT,bT,bT,bT,bT,bf,bf,bf,bf,bf,bf,bf,bf,bf,bf,bf,bf,bf] rfl rfl (any_of HT_.out (by kernel_rfl)) (fun _ _ _ h => h) (Or.inr ⟨by rfl,rfl⟩) ?_ ?_
          rotate_left
          ·simp only [Act.put,q_ia11,q_cz11,q_cs11,i64_w,i32_w];rfl
          refine pure_ (i:=7) (N:=some 47) (v:=undef) (a':=?_) #[bT,bT,bT,bT,bT,bT,bT,bT,bf,bf,bf,bf,bf,bf,bf,bf,bf,bf,bf,bf] rfl rfl (any_of HT_.out (by kernel_rfl)) (fun _ _ _ h => h) (Or.inr ⟨by rfl,rfl⟩) ?_ ?_
          rotate_left
          ·simp only [Act.put,q_ia11,q_cz11,q_cs11,i64_w,i32_w];rfl
          refine pQ (i:=8) (N:=some 48) (v:=?_) (a':=?_) #[bT,bT,bT,bT,bT,bT,bT,bT,bT,bf,bf,bf,bf,bf,bf,bf,bf,bf,bf,bf] (any_of HT_.out (by kernel_rfl)) ?_ ?_ ?_
          rotate_left
          ·intro w';go_simp;with_reducible rfl
          rotate_left
          ·simp only [Act.put,q_ia11,q_cz11,q_cs11,i64_w,i32_w];rfl
          refine pQ (i:=9) (N:=some 49) (v:=?_) (a':=?_) #[bT,bT,bT,bT,bT,bT,bT,bT,bT,bT,bf,bf,bf,bf,bf,bf,bf,bf,bf,bf] (any_of HT_.out (by kernel_rfl)) ?_ ?_ ?_
          rotate_left
          ·intro w';go_simp;with_reducible rfl
          rotate_left
          ·simp only [Act.put,q_ia11,q_cz11,q_cs11,i64_w,i32_w];rfl
          refine pQ (i:=11) (N:=some 51) (v:=?_) (a':=?_) #[bT,bT,bT,bT,bT,bT,bT,bT,bT,bT,bf,bT,bf,bf,bf,bf,bf,bf,bf,bf] (any_of HT_.out (by kernel_rfl)) ?_ ?_ ?_
          rotate_left
          ·intro w';go_simp;with_reducible rfl
          rotate_left
          ·simp only [Act.put,q_ia11,q_cz11,q_cs11,i64_w,i32_w];rfl
          refine pQ (i:=13) (N:=some 53) (v:=?_) (a':=?_) #[bT,bT,bT,bT,bT,bT,bT,bT,bT,bT,bf,bT,bf,bT,bf,bf,bf,bf,bf,bf] (any_of HT_.out (by kernel_rfl)) ?_ ?_ ?_
          rotate_left
          ·intro w';go_simp;with_reducible rfl
          rotate_left
          ·simp only [Act.put,q_ia11,q_cz11,q_cs11,i64_w,i32_w];rfl
          refine pQ (i:=16) (N:=some 56) (v:=?_) (a':=?_) #[bT,bT,bT,bT,bT,bT,bT,bT,bT,bT,bf,bT,bf,bT,bf,bf,bT,bf,bf,bf] (any_of HT_.out (by kernel_rfl)) ?_ ?_ ?_
          rotate_left
          ·intro w';go_simp;with_reducible rfl
          rotate_left
          ·simp only [Act.put,q_ia11,q_cz11,q_cs11,i64_w,i32_w];rfl
          refine take_ (i:=10) (N:=some 50) (v:=?_) (a':=?_) #[bT,bT,bT,bT,bT,bT,bT,bT,bT,bT,bT,bT,bf,bT,bf,bf,bT,bf,bf,bf] rfl rfl (take_ofW HT_.out HW_.out (by kernel_rfl)) (fun _ _ _ h => h) (Or.inl ⟨by rfl,?_⟩) hHeld ?_ ?_
          rotate_left
          ·rintro w' ⟨s0,s1,s2,s3,s4,s5⟩
           go_simp
           with_reducible rfl
          rotate_left
          ·simp only [Act.put,q_ia11,q_cz11,q_cs11,i64_w,i32_w];rfl
          refine take_ (i:=12) (N:=some 52) (v:=?_) (a':=?_) #[bT,bT,bT,bT,bT,bT,bT,bT,bT,bT,bT,bT,bT,bT,bf,bf,bT,bf,bf,bf] rfl rfl (take_ofW HT_.out HW_.out (by kernel_rfl)) (fun _ _ _ h => h) (Or.inl ⟨by rfl,?_⟩) hHeld ?_ ?_
          rotate_left
          ·rintro w' ⟨s0,s1,s2,s3,s4,s5⟩
           go_simp
           with_reducible rfl
          rotate_left
          ·simp only [Act.put,q_ia11,q_cz11,q_cs11,i64_w,i32_w];rfl
          refine take_ (i:=14) (N:=some 54) (v:=?_) (a':=?_) #[bT,bT,bT,bT,bT,bT,bT,bT,bT,bT,bT,bT,bT,bT,bT,bf,bT,bf,bf,bf] rfl rfl (take_ofW HT_.out HW_.out (by kernel_rfl)) (fun _ _ _ h => h) (Or.inl ⟨by rfl,?_⟩) hHeld ?_ ?_
          rotate_left
          ·rintro w' ⟨s0,s1,s2,s3,s4,s5⟩
           go_simp
           with_reducible rfl
          rotate_left
          ·simp only [Act.put,q_ia11,q_cz11,q_cs11,i64_w,i32_w];rfl
          refine take_ (i:=17) (N:=some 57) (v:=?_) (a':=?_) #[bT,bT,bT,bT,bT,bT,bT,bT,bT,bT,bT,bT,bT,bT,bT,bf,bT,bT,bf,bf] rfl rfl (take_ofW HT_.out HW_.out (by kernel_rfl)) (fun _ _ _ h => h) (Or.inl ⟨by rfl,?_⟩) hHeld ?_ ?_
          rotate_left
          ·rintro w' ⟨s0,s1,s2,s3,s4,s5⟩
           go_simp
           with_reducible rfl
          rotate_left
          ·simp only [Act.put,q_ia11,q_cz11,q_cs11,i64_w,i32_w];rfl
          refine one_ (i:=15) (N:=some 55) #[bT,bT,bT,bT,bT,bT,bT,bT,bT,bT,bT,bT,bT,bT,bT,bT,bT,bT,bf,bf] rfl rfl (one_of HT_.out (by kernel_rfl)) (by decide) (fun K hK => ?_)
          refine goes_ Try.func38 (by kernel_rfl) rfl #[.agg #[.slice Ao28 t392.length co28,.slice Ao32 t395.length co32,.string t398],.string ((rd_T57 t374 x8_1).f0),.string ((rd_T57 t374 x8_1).f1)] (by rfl) rfl rfl (by (try simp only [List.map_toArray,List.map_cons,List.map_nil]);first|done|rfl|(simp only [List.length_drop,List.length_take];rfl)) ?_
          with_reducible refine (impl_CellOf.calls k1 _ _ t392 _ _ t395 t398 ((rd_T57 t374 x8_1).f0) ((rd_T57 t374 x8_1).f1) t403 _ ?side1 ?side2 ?side3 ?side4 A60.out).mono ?_
          (case side1 => repeat (first|exact (rR HO_400000.out).2.2|(with_reducible first|refine cA ?_ _|refine cN ?_ _|refine cD ?_)))
          (case side2 => exact (rR HO_400000.out).2.1)
          (case side3 => repeat (first|exact (rR HO_400001.out).2.2|(with_reducible first|refine cA ?_ _|refine cN ?_ _|refine cD ?_)))
          (case side4 => exact (rR HO_400001.out).2.1)
          rintro e w72 ⟨rfl,hb⟩
          refine ⟨_,rfl,?_⟩
          have n0_:=aM (rH HO_379000.out hb)
          have n1_:=aM (rH HO_379001.out hb)
          have n2_:=aM (rH HO_392000.out hb)
          have n3_:=aM (rH HO_392001.out hb)
          have n4_:=aM (rH HO_400000.out hb)
          have n5_:=aM (rH HO_400001.out hb)
          have n6_:=aM (bH BK378.out hb)
          have n7_:=aM (bH BK391.out hb)
          have n8_:=aM (bH BK399.out hb)
          have n9_:=aM (bH BK401.out hb)
          have n10_:=aM (lQ HB.out hb)
          clear HO_379000
          clear HO_379001
          clear HO_392000
          clear HO_392001
          clear HO_400000
          clear HO_400001
          clear BK378
          clear BK391
          clear BK399
          clear BK401
          clear HB
          have HO_379000:=n0_
          have HO_379001:=n1_
          have HO_392000:=n2_
          have HO_392001:=n3_
          have HO_400000:=n4_
          have HO_400001:=n5_
          have BK378:=n6_
          have BK391:=n7_
          have BK399:=n8_
          have BK401:=n9_
          have HB:=n10_
          clear n0_ n1_ n2_ n3_ n4_ n5_ n6_ n7_ n8_ n9_ n10_
          (try clear hb)
          (try clear hb2)
          (try clear hk)
          (try clear hi)
          refine hK.out _ _ ⟨(bC BK401.out 0).trans rfl,(bC BK401.out 1).trans rfl,(bC BK401.out 2).trans rfl,(bC BK399.out 0).trans rfl,(bC BK399.out 1).trans rfl,(bC BK399.out 2).trans rfl⟩ (fun hHeld => ?_)
          clear hK K
          refine norm_ (a':=?_) ?_ ?_
          rotate_left
          ·show Act.put _ (some 55) _ = _
           simp only [Act.put,q_ia11,q_cz11,q_cs11,i64_w,i32_w]
           rfl
          refine pQ (i:=18) (N:=some 58) (v:=?_) (a':=?_) #[bT,bT,bT,bT,bT,bT,bT,bT,bT,bT,bT,bT,bT,bT,bT,bT,bT,bT,bT,bf] (any_of HT_.out (by kernel_rfl)) ?_ ?_ ?_
          rotate_left
          ·intro w';go_simp;with_reducible rfl
          rotate_left
          ·simp only [Act.put,q_ia11,q_cz11,q_cs11,i64_w,i32_w];rfl
          refine pQ (i:=19) (N:=some 59) (v:=?_) (a':=?_) #[bT,bT,bT,bT,bT,bT,bT,bT,bT,bT,bT,bT,bT,bT,bT,bT,bT,bT,bT,bT] (any_of HT_.out (by kernel_rfl)) ?_ ?_ ?_
          rotate_left
          ·intro w';go_simp;with_reducible rfl
          rotate_left
          ·simp only [Act.put,q_ia11,q_cz11,q_cs11,i64_w,i32_w];rfl
          refine done_ (done_of HT_.out (by kernel_rfl)) ?_
          try go_wp2
          go_roundg k1
          case measure => have:=HK1.out;omega
          case rel => exact ⟨(wrap64 (x8_1 + 1)),(by first|rfl|(simp;done)|(simp [*];done)),H',⟨by have:=HK1.out;omega⟩,⟨by (with_reducible repeat (first|apply rA|apply rN|apply rD));exact HO_379000.out⟩,⟨by (with_reducible repeat (first|apply rA|apply rN|apply rD));exact Kd.R_mono HO_379001.out (fun _ hk => ⟨hk.1,hk.2.1⟩)⟩,⟨by (with_reducible repeat (first|apply rA|apply rN|apply rD));exact HO_392000.out⟩,⟨by (with_reducible repeat (first|apply rA|apply rN|apply rD));exact Kd.R_mono HO_392001.out (fun _ hk => ⟨hk.1,hk.2.1⟩)⟩,⟨by (with_reducible repeat (first|apply rA|apply rN|apply rD));exact HO_400000.out⟩,⟨by (with_reducible repeat (first|apply rA|apply rN|apply rD));exact Kd.R_mono HO_400001.out (fun _ hk => ⟨hk.1,hk.2.1⟩)⟩,⟨by (with_reducible repeat (first|refine bN ?_ _|refine bD ?_|refine bA ?_ _));exact BK378.out⟩,⟨by (with_reducible repeat (first|refine bN ?_ _|refine bD ?_|refine bA ?_ _));exact BK391.out⟩,⟨by (with_reducible repeat (first|refine bN ?_ _|refine bD ?_|refine bA ?_ _));exact BK399.out⟩,⟨by repeat (first|(with_reducible first|exact HB.out|apply lA|apply lN|apply lD|refine lS ?_ GE378.out|refine lS ?_ GE391.out|refine lS ?_ GE399.out|refine lS ?_ GE401.out)|exact HB.out)⟩⟩
         ·rw [if_neg c61] at H
          have c61b0 : (t403.toList == ((rd_T57 t374 x8_1).f2).toList) = false:=beq_eq_false_iff_ne.mpr c61
          have c61b1 : (t403.toList != ((rd_T57 t374 x8_1).f2).toList) = true:=bne_iff_ne.mpr c61
          exact absurd (HR_.out.symm.trans (Option.some.inj H).symm) (by decide)
       ·rw [if_neg c34] at H
        exact absurd H (by simp)
      ·rw [if_neg c33] at H
       have c33b0 : decide (x8_1 < (t374.length : Int)) = false:=decide_eq_false c33
       clear c33
       replace H:=Option.bind_eq_some_iff.mp H
       obtain ⟨t404,A730,H⟩:=H
       replace H : (if t404 = true then ((impl_CellOf.f k1 t384 t387 t390 (⟨#[116]⟩ : ByteArray) ((⟨#[107,101,121]⟩ : ByteArray) ++ t383)).bind fun t405 => (if t405.toList = ([118] : List UInt8) then ((impl_CellOf.f k1 t392 t395 t398 (⟨#[116]⟩ : ByteArray) ((⟨#[107,101,121]⟩ : ByteArray) ++ t383)).bind fun t406 => (if t406.toList = ([119] : List UInt8) then (if (t395.length : Int) = (t387.length : Int) then ((impl_CellOf.f k1 t371 t374 t377 (⟨#[116]⟩ : ByteArray) (⟨#[110,111,110,101]⟩ : ByteArray)).bind fun t407 => (if t407.toList = ([] : List UInt8) then (if (t384.length : Int) = (t371.length : Int) then ((spec_SetCell.f k1 t371 t374 t377 (⟨#[116]⟩ : ByteArray) ((⟨#[107,101,121]⟩ : ByteArray) ++ t383) (⟨#[119]⟩ : ByteArray)).bind fun bt408 => ((spec_SameStore.f k1 t392 t395 t398 bt408.1 bt408.2.1 bt408.2.2).bind fun t415 => (some t415))) else (some false)) else (some false))) else (some false)) else (some false))) else (some false))) else (some false)) = some r:=H
       have A73:=aM A730
       clear A730
       by_cases c74 : t404 = true
       ·subst c74
        have H1 : ((impl_CellOf.f k1 t384 t387 t390 (⟨#[116]⟩ : ByteArray) ((⟨#[107,101,121]⟩ : ByteArray) ++ t383)).bind fun t405 => (if t405.toList = ([118] : List UInt8) then ((impl_CellOf.f k1 t392 t395 t398 (⟨#[116]⟩ : ByteArray) ((⟨#[107,101,121]⟩ : ByteArray) ++ t383)).bind fun t406 => (if t406.toList = ([119] : List UInt8) then (if (t395.length : Int) = (t387.length : Int) then ((impl_CellOf.f k1 t371 t374 t377 (⟨#[116]⟩ : ByteArray) (⟨#[110,111,110,101]⟩ : ByteArray)).bind fun t407 => (if t407.toList = ([] : List UInt8) then (if (t384.length : Int) = (t371.length : Int) then ((spec_SetCell.f k1 t371 t374 t377 (⟨#[116]⟩ : ByteArray) ((⟨#[107,101,121]⟩ : ByteArray) ++ t383) (⟨#[119]⟩ : ByteArray)).bind fun bt408 => ((spec_SameStore.f k1 t392 t395 t398 bt408.1 bt408.2.1 bt408.2.2).bind fun t415 => (some t415))) else (some false)) else (some false))) else (some false)) else (some false))) else (some false))) = some r:=by rw [if_pos rfl] at H;exact H
        clear H
        have H:=H1
        clear H1
        replace H:=Option.bind_eq_some_iff.mp H
        obtain ⟨t405,A750,H⟩:=H
        replace H : (if t405.toList = ([118] : List UInt8) then ((impl_CellOf.f k1 t392 t395 t398 (⟨#[116]⟩ : ByteArray) ((⟨#[107,101,121]⟩ : ByteArray) ++ t383)).bind fun t406 => (if t406.toList = ([119] : List UInt8) then (if (t395.length : Int) = (t387.length : Int) then ((impl_CellOf.f k1 t371 t374 t377 (⟨#[116]⟩ : ByteArray) (⟨#[110,111,110,101]⟩ : ByteArray)).bind fun t407 => (if t407.toList = ([] : List UInt8) then (if (t384.length : Int) = (t371.length : Int) then ((spec_SetCell.f k1 t371 t374 t377 (⟨#[116]⟩ : ByteArray) ((⟨#[107,101,121]⟩ : ByteArray) ++ t383) (⟨#[119]⟩ : ByteArray)).bind fun bt408 => ((spec_SameStore.f k1 t392 t395 t398 bt408.1 bt408.2.1 bt408.2.2).bind fun t415 => (some t415))) else (some false)) else (some false))) else (some false)) else (some false))) else (some false)) = some r:=H
        have A75:=aM A750
        clear A750
        by_cases c76 : t405.toList = ([118] : List UInt8)
        ·rw [if_pos c76] at H
         have c76b0 : (t405.toList == ([118] : List UInt8)) = true:=beq_iff_eq.mpr c76
         have c76b1 : (t405.toList != ([118] : List UInt8)) = false:=bne_eq_false_iff_eq.mpr c76
         clear c76
         replace H:=Option.bind_eq_some_iff.mp H
         obtain ⟨t406,A770,H⟩:=H
         replace H : (if t406.toList = ([119] : List UInt8) then (if (t395.length : Int) = (t387.length : Int) then ((impl_CellOf.f k1 t371 t374 t377 (⟨#[116]⟩ : ByteArray) (⟨#[110,111,110,101]⟩ : ByteArray)).bind fun t407 => (if t407.toList = ([] : List UInt8) then (if (t384.length : Int) = (t371.length : Int) then ((spec_SetCell.f k1 t371 t374 t377 (⟨#[116]⟩ : ByteArray) ((⟨#[107,101,121]⟩ : ByteArray) ++ t383) (⟨#[119]⟩ : ByteArray)).bind fun bt408 => ((spec_SameStore.f k1 t392 t395 t398 bt408.1 bt408.2.1 bt408.2.2).bind fun t415 => (some t415))) else (some false)) else (some false))) else (some false)) else (some false)) = some r:=H
         have A77:=aM A770
         clear A770
         by_cases c78 : t406.toList = ([119] : List UInt8)
         ·rw [if_pos c78] at H
          have c78b0 : (t406.toList == ([119] : List UInt8)) = true:=beq_iff_eq.mpr c78
          have c78b1 : (t406.toList != ([119] : List UInt8)) = false:=bne_eq_false_iff_eq.mpr c78
          clear c78
          by_cases c79 : (t395.length : Int) = (t387.length : Int)
          ·rw [if_pos c79] at H
           have c79b0 : ((t395.length : Int) == (t387.length : Int)) = true:=beq_iff_eq.mpr c79
           have c79b1 : ((t395.length : Int) != (t387.length : Int)) = false:=bne_eq_false_iff_eq.mpr c79
           have c79b2 : (t395.length == t387.length) = true:=by first|simpa using c79|(simp at c79 ⊢;omega)
           clear c79
           replace H:=Option.bind_eq_some_iff.mp H
           obtain ⟨t407,A800,H⟩:=H
           replace H : (if t407.toList = ([] : List UInt8) then (if (t384.length : Int) = (t371.length : Int) then ((spec_SetCell.f k1 t371 t374 t377 (⟨#[116]⟩ : ByteArray) ((⟨#[107,101,121]⟩ : ByteArray) ++ t383) (⟨#[119]⟩ : ByteArray)).bind fun bt408 => ((spec_SameStore.f k1 t392 t395 t398 bt408.1 bt408.2.1 bt408.2.2).bind fun t415 => (some t415))) else (some false)) else (some false)) = some r:=H
           have A80:=aM A800
           clear A800
           by_cases c81 : t407.toList = ([] : List UInt8)
           ·rw [if_pos c81] at H
            have c81b0 : (t407.toList == ([] : List UInt8)) = true:=beq_iff_eq.mpr c81
            have c81b1 : (t407.toList != ([] : List UInt8)) = false:=bne_eq_false_iff_eq.mpr c81
            clear c81
            by_cases c82 : (t384.length : Int) = (t371.length : Int)
            ·rw [if_pos c82] at H
             have c82b0 : ((t384.length : Int) == (t371.length : Int)) = true:=beq_iff_eq.mpr c82
             have c82b1 : ((t384.length : Int) != (t371.length : Int)) = false:=bne_eq_false_iff_eq.mpr c82
             have c82b2 : (t384.length == t371.length) = true:=by first|simpa using c82|(simp at c82 ⊢;omega)
             clear c82
             replace H:=Option.bind_eq_some_iff.mp H
             obtain ⟨⟨t408,t411,t414⟩,A830,H⟩:=H
             replace H : ((spec_SameStore.f k1 t392 t395 t398 t408 t411 t414).bind fun t415 => (some t415)) = some r:=H
             have A83:=aM A830
             clear A830
             replace H:=Option.bind_eq_some_iff.mp H
             obtain ⟨t415,A840,H⟩:=H
             replace H : (some t415) = some r:=H
             have A84:=aM A840
             clear A840
             obtain rfl:=Option.some.inj H
             have hnb85:=NB378_391.out
             have hnc85:=NB391_378.out
             have hnb86:=NB378_399.out
             have hnc86:=NB399_378.out
             obtain ⟨⟨hcz87_0,hcz87_1,hcz87_2⟩,hfz87_0,hfz87_1,hfz87_2⟩:=bC3 BK378.out
             try go_wp2
             have n0_:=aM (rD HO_379000.out)
             have n1_:=aM (rD HO_379001.out)
             have n2_:=aM (rD HO_392000.out)
             have n3_:=aM (rD HO_392001.out)
             have n4_:=aM (rD HO_400000.out)
             have n5_:=aM (rD HO_400001.out)
             have n6_:=aM (bD BK378.out)
             have n7_:=aM (bD BK391.out)
             have n8_:=aM (bD BK399.out)
             have n9_:=aM (lD HB.out)
             clear HO_379000
             clear HO_379001
             clear HO_392000
             clear HO_392001
             clear HO_400000
             clear HO_400001
             clear BK378
             clear BK391
             clear BK399
             clear HB
             have HO_379000:=n0_
             have HO_379001:=n1_
             have HO_392000:=n2_
             have HO_392001:=n3_
             have HO_400000:=n4_
             have HO_400001:=n5_
             have BK378:=n6_
             have BK391:=n7_
             have BK399:=n8_
             have HB:=n9_
             clear n0_ n1_ n2_ n3_ n4_ n5_ n6_ n7_ n8_ n9_
             refine start_ (n:=45) (S:=fun w' => w'.cell? ⟨gb391,0,none⟩ = some (.slice Ao22 t384.length co22) ∧ w'.cell? ⟨gb391,1,none⟩ = some (.slice Ao25 t387.length co25) ∧ w'.cell? ⟨gb391,2,none⟩ = some (.string t390) ∧ w'.cell? ⟨gb399,0,none⟩ = some (.slice Ao28 t392.length co28) ∧ w'.cell? ⟨gb399,1,none⟩ = some (.slice Ao32 t395.length co32) ∧ w'.cell? ⟨gb399,2,none⟩ = some (.string t398) ∧ w'.cell? ⟨gb378,0,none⟩ = some (.slice Ao13 t371.length co13) ∧ w'.cell? ⟨gb378,1,none⟩ = some (.slice Ao15 t374.length co15) ∧ w'.cell? ⟨gb378,2,none⟩ = some (.string t377)) (ds:=[]) #[bf,bf,bf,bf,bf,bf,bf,bf,bf,bf,bf,bf,bf,bf,bf,bf,bf,bf,bf,bf,bf,bf,bf,bf,bf,bf,bf,bf,bf,bf,bf,bf,bf,bf,bf,bf,bf,bf,bf,bf,bf,bf,bf,bf,bf] (by kernel_rfl) rfl rfl ⟨(bC BK391.out 0).trans rfl,(bC BK391.out 1).trans rfl,(bC BK391.out 2).trans rfl,(bC BK399.out 0).trans rfl,(bC BK399.out 1).trans rfl,(bC BK399.out 2).trans rfl,(bC BK378.out 0).trans rfl,(bC BK378.out 1).trans rfl,(bC BK378.out 2).trans rfl⟩ (fun hHeld => ?_);refine with_tabW laws_FnCells.tab14 laws_FnCells.bits14 (fun HT_ HW_ => ?_)
             generalize wr.drew = w88 at HO_379000 HO_379001 HO_392000 HO_392001 HO_400000 HO_400001 BK378 BK391 BK399 HB hHeld ⊢
             refine take_ (i:=0) (N:=some 60) (v:=?_) (a':=?_) #[bT,bf,bf,bf,bf,bf,bf,bf,bf,bf,bf,bf,bf,bf,bf,bf,bf,bf,bf,bf,bf,bf,bf,bf,bf,bf,bf,bf,bf,bf,bf,bf,bf,bf,bf,bf,bf,bf,bf,bf,bf,bf,bf,bf,bf] rfl rfl (take_ofW HT_.out HW_.out (by kernel_rfl)) (fun _ _ _ h => h) (Or.inl ⟨by rfl,?_⟩) hHeld ?_ ?_
             rotate_left
             ·rintro w' ⟨s0,s1,s2,s3,s4,s5,s6,s7,s8⟩
              go_simp
              with_reducible rfl
             rotate_left
             ·simp only [Act.put,q_ia11,q_cz11,q_cs11,i64_w,i32_w];rfl
             refine one_ (i:=1) (N:=some 61) #[bT,bT,bf,bf,bf,bf,bf,bf,bf,bf,bf,bf,bf,bf,bf,bf,bf,bf,bf,bf,bf,bf,bf,bf,bf,bf,bf,bf,bf,bf,bf,bf,bf,bf,bf,bf,bf,bf,bf,bf,bf,bf,bf,bf,bf] rfl rfl (one_of HT_.out (by kernel_rfl)) (by decide) (fun K hK => ?_)
             refine goes_ Try.func36 (by kernel_rfl) rfl #[.agg #[.slice Ao22 t384.length co22,.slice Ao25 t387.length co25,.string t390]] (by rfl) rfl rfl (by (try simp only [List.map_toArray,List.map_cons,List.map_nil]);first|done|rfl|(simp only [List.length_drop,List.length_take];rfl)) ?_
             with_reducible refine (impl_StoreOk.calls k1 _ _ t384 _ _ t387 t390 true _ ?side1 ?side2 ?side3 ?side4 A73.out).mono ?_
             (case side1 => repeat (first|exact (rR HO_392000.out).2.2|(with_reducible first|refine cA ?_ _|refine cN ?_ _|refine cD ?_)))
             (case side2 => exact (rR HO_392000.out).2.1)
             (case side3 => repeat (first|exact (rR HO_392001.out).2.2|(with_reducible first|refine cA ?_ _|refine cN ?_ _|refine cD ?_)))
             (case side4 => exact (rR HO_392001.out).2.1)
             rintro e w89 ⟨rfl,hb⟩
             refine ⟨_,rfl,?_⟩
             have n0_:=aM (rH HO_379000.out hb)
             have n1_:=aM (rH HO_379001.out hb)
             have n2_:=aM (rH HO_392000.out hb)
             have n3_:=aM (rH HO_392001.out hb)
             have n4_:=aM (rH HO_400000.out hb)
             have n5_:=aM (rH HO_400001.out hb)
             have n6_:=aM (bH BK378.out hb)
             have n7_:=aM (bH BK391.out hb)
             have n8_:=aM (bH BK399.out hb)
             have n9_:=aM (lQ HB.out hb)
             clear HO_379000
             clear HO_379001
             clear HO_392000
             clear HO_392001
             clear HO_400000
             clear HO_400001
             clear BK378
             clear BK391
             clear BK399
             clear HB
             have HO_379000:=n0_
             have HO_379001:=n1_
             have HO_392000:=n2_
             have HO_392001:=n3_
             have HO_400000:=n4_
             have HO_400001:=n5_
             have BK378:=n6_
             have BK391:=n7_
             have BK399:=n8_
             have HB:=n9_
             clear n0_ n1_ n2_ n3_ n4_ n5_ n6_ n7_ n8_ n9_
             (try clear hb)
             (try clear hb2)
             (try clear hk)
             (try clear hi)
             refine hK.out _ _ ⟨(bC BK391.out 0).trans rfl,(bC BK391.out 1).trans rfl,(bC BK391.out 2).trans rfl,(bC BK399.out 0).trans rfl,(bC BK399.out 1).trans rfl,(bC BK399.out 2).trans rfl,(bC BK378.out 0).trans rfl,(bC BK378.out 1).trans rfl,(bC BK378.out 2).trans rfl⟩ (fun hHeld => ?_)
             clear hK K
             refine norm_ (a':=?_) ?_ ?_
             rotate_left
             ·show Act.put _ (some 61) _ = _
              simp only [Act.put,q_ia11,q_cz11,q_cs11,i64_w,i32_w]
              rfl
             refine pQ (i:=2) (N:=some 62) (v:=?_) (a':=?_) #[bT,bT,bT,bf,bf,bf,bf,bf,bf,bf,bf,bf,bf,bf,bf,bf,bf,bf,bf,bf,bf,bf,bf,bf,bf,bf,bf,bf,bf,bf,bf,bf,bf,bf,bf,bf,bf,bf,bf,bf,bf,bf,bf,bf,bf] (any_of HT_.out (by kernel_rfl)) ?_ ?_ ?_
             rotate_left
             ·intro w';go_simp;with_reducible rfl
             rotate_left
             ·simp only [Act.put,q_ia11,q_cz11,q_cs11,i64_w,i32_w];rfl
             refine pQ (i:=4) (N:=some 64) (v:=?_) (a':=?_) #[bT,bT,bT,bf,bT,bf,bf,bf,bf,bf,bf,bf,bf,bf,bf,bf,bf,bf,bf,bf,bf,bf,bf,bf,bf,bf,bf,bf,bf,bf,bf,bf,bf,bf,bf,bf,bf,bf,bf,bf,bf,bf,bf,bf,bf] (any_of HT_.out (by kernel_rfl)) ?_ ?_ ?_
             rotate_left
             ·intro w';go_simp;with_reducible rfl
             rotate_left
             ·simp only [Act.put,q_ia11,q_cz11,q_cs11,i64_w,i32_w];rfl
             refine take_ (i:=3) (N:=some 63) (v:=?_) (a':=?_) #[bT,bT,bT,bT,bT,bf,bf,bf,bf,bf,bf,bf,bf,bf,bf,bf,bf,bf,bf,bf,bf,bf,bf,bf,bf,bf,bf,bf,bf,bf,bf,bf,bf,bf,bf,bf,bf,bf,bf,bf,bf,bf,bf,bf,bf] rfl rfl (take_ofW HT_.out HW_.out (by kernel_rfl)) (fun _ _ _ h => h) (Or.inl ⟨by rfl,?_⟩) hHeld ?_ ?_
             rotate_left
             ·rintro w' ⟨s0,s1,s2,s3,s4,s5,s6,s7,s8⟩
              go_simp
              with_reducible rfl
             rotate_left
             ·simp only [Act.put,q_ia11,q_cz11,q_cs11,i64_w,i32_w];rfl
             refine one_ (i:=5) (N:=some 65) #[bT,bT,bT,bT,bT,bT,bf,bf,bf,bf,bf,bf,bf,bf,bf,bf,bf,bf,bf,bf,bf,bf,bf,bf,bf,bf,bf,bf,bf,bf,bf,bf,bf,bf,bf,bf,bf,bf,bf,bf,bf,bf,bf,bf,bf] rfl rfl (one_of HT_.out (by kernel_rfl)) (by decide) (fun K hK => ?_)
             refine goes_ Try.func38 (by kernel_rfl) rfl #[.agg #[.slice Ao22 t384.length co22,.slice Ao25 t387.length co25,.string t390],.string (⟨#[116]⟩ : ByteArray),.string ((⟨#[107,101,121]⟩ : ByteArray) ++ t383)] (by rfl) rfl rfl (by (try simp only [List.map_toArray,List.map_cons,List.map_nil]);first|done|rfl|(simp only [List.length_drop,List.length_take];rfl)) ?_
             with_reducible refine (impl_CellOf.calls k1 _ _ t384 _ _ t387 t390 (⟨#[116]⟩ : ByteArray) ((⟨#[107,101,121]⟩ : ByteArray) ++ t383) t405 _ ?side1 ?side2 ?side3 ?side4 A75.out).mono ?_
             (case side1 => repeat (first|exact (rR HO_392000.out).2.2|(with_reducible first|refine cA ?_ _|refine cN ?_ _|refine cD ?_)))
             (case side2 => exact (rR HO_392000.out).2.1)
             (case side3 => repeat (first|exact (rR HO_392001.out).2.2|(with_reducible first|refine cA ?_ _|refine cN ?_ _|refine cD ?_)))
             (case side4 => exact (rR HO_392001.out).2.1)
             rintro e w90 ⟨rfl,hb⟩
             refine ⟨_,rfl,?_⟩
             have n0_:=aM (rH HO_379000.out hb)
             have n1_:=aM (rH HO_379001.out hb)
             have n2_:=aM (rH HO_392000.out hb)
             have n3_:=aM (rH HO_392001.out hb)
             have n4_:=aM (rH HO_400000.out hb)
             have n5_:=aM (rH HO_400001.out hb)
             have n6_:=aM (bH BK378.out hb)
             have n7_:=aM (bH BK391.out hb)
             have n8_:=aM (bH BK399.out hb)
             have n9_:=aM (lQ HB.out hb)
             clear HO_379000
             clear HO_379001
             clear HO_392000
             clear HO_392001
             clear HO_400000
             clear HO_400001
             clear BK378
             clear BK391
             clear BK399
             clear HB
             have HO_379000:=n0_
             have HO_379001:=n1_
             have HO_392000:=n2_
             have HO_392001:=n3_
             have HO_400000:=n4_
             have HO_400001:=n5_
             have BK378:=n6_
             have BK391:=n7_
             have BK399:=n8_
             have HB:=n9_
             clear n0_ n1_ n2_ n3_ n4_ n5_ n6_ n7_ n8_ n9_
             (try clear hb)
             (try clear hb2)
             (try clear hk)
             (try clear hi)
             refine hK.out _ _ ⟨(bC BK391.out 0).trans rfl,(bC BK391.out 1).trans rfl,(bC BK391.out 2).trans rfl,(bC BK399.out 0).trans rfl,(bC BK399.out 1).trans rfl,(bC BK399.out 2).trans rfl,(bC BK378.out 0).trans rfl,(bC BK378.out 1).trans rfl,(bC BK378.out 2).trans rfl⟩ (fun hHeld => ?_)
             clear hK K
             refine norm_ (a':=?_) ?_ ?_
             rotate_left
             ·show Act.put _ (some 65) _ = _
              simp only [Act.put,q_ia11,q_cz11,q_cs11,i64_w,i32_w]
              rfl
             refine pQ (i:=6) (N:=some 66) (v:=?_) (a':=?_) #[bT,bT,bT,bT,bT,bT,bT,bf,bf,bf,bf,bf,bf,bf,bf,bf,bf,bf,bf,bf,bf,bf,bf,bf,bf,bf,bf,bf,bf,bf,bf,bf,bf,bf,bf,bf,bf,bf,bf,bf,bf,bf,bf,bf,bf] (any_of HT_.out (by kernel_rfl)) ?_ ?_ ?_
             rotate_left
             ·intro w';go_simp;with_reducible rfl
             rotate_left
             ·simp only [Act.put,q_ia11,q_cz11,q_cs11,i64_w,i32_w];rfl
             refine pQ (i:=7) (N:=some 67) (v:=?_) (a':=?_) #[bT,bT,bT,bT,bT,bT,bT,bT,bf,bf,bf,bf,bf,bf,bf,bf,bf,bf,bf,bf,bf,bf,bf,bf,bf,bf,bf,bf,bf,bf,bf,bf,bf,bf,bf,bf,bf,bf,bf,bf,bf,bf,bf,bf,bf] (any_of HT_.out (by kernel_rfl)) ?_ ?_ ?_
             rotate_left
             ·intro w';go_simp;with_reducible rfl
             rotate_left
             ·simp only [Act.put,q_ia11,q_cz11,q_cs11,i64_w,i32_w];rfl
             refine pQ (i:=8) (N:=some 68) (v:=?_) (a':=?_) #[bT,bT,bT,bT,bT,bT,bT,bT,bT,bf,bf,bf,bf,bf,bf,bf,bf,bf,bf,bf,bf,bf,bf,bf,bf,bf,bf,bf,bf,bf,bf,bf,bf,bf,bf,bf,bf,bf,bf,bf,bf,bf,bf,bf,bf] (any_of HT_.out (by kernel_rfl)) ?_ ?_ ?_
             rotate_left
             ·intro w';go_simp;with_reducible rfl
             rotate_left
             ·simp only [Act.put,q_ia11,q_cz11,q_cs11,i64_w,i32_w];rfl
             refine pQ (i:=10) (N:=some 70) (v:=?_) (a':=?_) #[bT,bT,bT,bT,bT,bT,bT,bT,bT,bf,bT,bf,bf,bf,bf,bf,bf,bf,bf,bf,bf,bf,bf,bf,bf,bf,bf,bf,bf,bf,bf,bf,bf,bf,bf,bf,bf,bf,bf,bf,bf,bf,bf,bf,bf] (any_of HT_.out (by kernel_rfl)) ?_ ?_ ?_
             rotate_left
             ·intro w';go_simp;with_reducible rfl
             rotate_left
             ·simp only [Act.put,q_ia11,q_cz11,q_cs11,i64_w,i32_w];rfl
             refine take_ (i:=9) (N:=some 69) (v:=?_) (a':=?_) #[bT,bT,bT,bT,bT,bT,bT,bT,bT,bT,bT,bf,bf,bf,bf,bf,bf,bf,bf,bf,bf,bf,bf,bf,bf,bf,bf,bf,bf,bf,bf,bf,bf,bf,bf,bf,bf,bf,bf,bf,bf,bf,bf,bf,bf] rfl rfl (take_ofW HT_.out HW_.out (by kernel_rfl)) (fun _ _ _ h => h) (Or.inl ⟨by rfl,?_⟩) hHeld ?_ ?_
             rotate_left
             ·rintro w' ⟨s0,s1,s2,s3,s4,s5,s6,s7,s8⟩
              go_simp
              with_reducible rfl
             rotate_left
             ·simp only [Act.put,q_ia11,q_cz11,q_cs11,i64_w,i32_w];rfl
             refine one_ (i:=11) (N:=some 71) #[bT,bT,bT,bT,bT,bT,bT,bT,bT,bT,bT,bT,bf,bf,bf,bf,bf,bf,bf,bf,bf,bf,bf,bf,bf,bf,bf,bf,bf,bf,bf,bf,bf,bf,bf,bf,bf,bf,bf,bf,bf,bf,bf,bf,bf] rfl rfl (one_of HT_.out (by kernel_rfl)) (by decide) (fun K hK => ?_)
             refine goes_ Try.func38 (by kernel_rfl) rfl #[.agg #[.slice Ao28 t392.length co28,.slice Ao32 t395.length co32,.string t398],.string (⟨#[116]⟩ : ByteArray),.string ((⟨#[107,101,121]⟩ : ByteArray) ++ t383)] (by rfl) rfl rfl (by (try simp only [List.map_toArray,List.map_cons,List.map_nil]);first|done|rfl|(simp only [List.length_drop,List.length_take];rfl)) ?_
             with_reducible refine (impl_CellOf.calls k1 _ _ t392 _ _ t395 t398 (⟨#[116]⟩ : ByteArray) ((⟨#[107,101,121]⟩ : ByteArray) ++ t383) t406 _ ?side1 ?side2 ?side3 ?side4 A77.out).mono ?_
             (case side1 => repeat (first|exact (rR HO_400000.out).2.2|(with_reducible first|refine cA ?_ _|refine cN ?_ _|refine cD ?_)))
             (case side2 => exact (rR HO_400000.out).2.1)
             (case side3 => repeat (first|exact (rR HO_400001.out).2.2|(with_reducible first|refine cA ?_ _|refine cN ?_ _|refine cD ?_)))
             (case side4 => exact (rR HO_400001.out).2.1)
             rintro e w91 ⟨rfl,hb⟩
             refine ⟨_,rfl,?_⟩
             have n0_:=aM (rH HO_379000.out hb)
             have n1_:=aM (rH HO_379001.out hb)
             have n2_:=aM (rH HO_392000.out hb)
             have n3_:=aM (rH HO_392001.out hb)
             have n4_:=aM (rH HO_400000.out hb)
             have n5_:=aM (rH HO_400001.out hb)
             have n6_:=aM (bH BK378.out hb)
             have n7_:=aM (bH BK391.out hb)
             have n8_:=aM (bH BK399.out hb)
             have n9_:=aM (lQ HB.out hb)
             clear HO_379000
             clear HO_379001
             clear HO_392000
             clear HO_392001
             clear HO_400000
             clear HO_400001
             clear BK378
             clear BK391
             clear BK399
             clear HB
             have HO_379000:=n0_
             have HO_379001:=n1_
             have HO_392000:=n2_
             have HO_392001:=n3_
             have HO_400000:=n4_
             have HO_400001:=n5_
             have BK378:=n6_
             have BK391:=n7_
             have BK399:=n8_
             have HB:=n9_
             clear n0_ n1_ n2_ n3_ n4_ n5_ n6_ n7_ n8_ n9_
             (try clear hb)
             (try clear hb2)
             (try clear hk)
             (try clear hi)
             refine hK.out _ _ ⟨(bC BK391.out 0).trans rfl,(bC BK391.out 1).trans rfl,(bC BK391.out 2).trans rfl,(bC BK399.out 0).trans rfl,(bC BK399.out 1).trans rfl,(bC BK399.out 2).trans rfl,(bC BK378.out 0).trans rfl,(bC BK378.out 1).trans rfl,(bC BK378.out 2).trans rfl⟩ (fun hHeld => ?_)
             clear hK K
             refine norm_ (a':=?_) ?_ ?_
             rotate_left
             ·show Act.put _ (some 71) _ = _
              simp only [Act.put,q_ia11,q_cz11,q_cs11,i64_w,i32_w]
              rfl
             refine pQ (i:=12) (N:=some 72) (v:=?_) (a':=?_) #[bT,bT,bT,bT,bT,bT,bT,bT,bT,bT,bT,bT,bT,bf,bf,bf,bf,bf,bf,bf,bf,bf,bf,bf,bf,bf,bf,bf,bf,bf,bf,bf,bf,bf,bf,bf,bf,bf,bf,bf,bf,bf,bf,bf,bf] (any_of HT_.out (by kernel_rfl)) ?_ ?_ ?_
             rotate_left
             ·intro w';go_simp;with_reducible rfl
             rotate_left
             ·simp only [Act.put,q_ia11,q_cz11,q_cs11,i64_w,i32_w];rfl
             refine pQ (i:=13) (N:=some 73) (v:=?_) (a':=?_) #[bT,bT,bT,bT,bT,bT,bT,bT,bT,bT,bT,bT,bT,bT,bf,bf,bf,bf,bf,bf,bf,bf,bf,bf,bf,bf,bf,bf,bf,bf,bf,bf,bf,bf,bf,bf,bf,bf,bf,bf,bf,bf,bf,bf,bf] (any_of HT_.out (by kernel_rfl)) ?_ ?_ ?_
             rotate_left
             ·intro w';go_simp;with_reducible rfl
             rotate_left
             ·simp only [Act.put,q_ia11,q_cz11,q_cs11,i64_w,i32_w];rfl
             refine pQ (i:=14) (N:=some 74) (v:=?_) (a':=?_) #[bT,bT,bT,bT,bT,bT,bT,bT,bT,bT,bT,bT,bT,bT,bT,bf,bf,bf,bf,bf,bf,bf,bf,bf,bf,bf,bf,bf,bf,bf,bf,bf,bf,bf,bf,bf,bf,bf,bf,bf,bf,bf,bf,bf,bf] (any_of HT_.out (by kernel_rfl)) ?_ ?_ ?_
             rotate_left
             ·intro w';go_simp;with_reducible rfl
             rotate_left
             ·simp only [Act.put,q_ia11,q_cz11,q_cs11,i64_w,i32_w];rfl
             refine pQ (i:=15) (N:=some 75) (v:=?_) (a':=?_) #[bT,bT,bT,bT,bT,bT,bT,bT,bT,bT,bT,bT,bT,bT,bT,bT,bf,bf,bf,bf,bf,bf,bf,bf,bf,bf,bf,bf,bf,bf,bf,bf,bf,bf,bf,bf,bf,bf,bf,bf,bf,bf,bf,bf,bf] (any_of HT_.out (by kernel_rfl)) ?_ ?_ ?_
             rotate_left
             ·intro w';go_simp;with_reducible rfl
             rotate_left
             ·simp only [Act.put,q_ia11,q_cz11,q_cs11,i64_w,i32_w];rfl
             refine pQ (i:=18) (N:=some 78) (v:=?_) (a':=?_) #[bT,bT,bT,bT,bT,bT,bT,bT,bT,bT,bT,bT,bT,bT,bT,bT,bf,bf,bT,bf,bf,bf,bf,bf,bf,bf,bf,bf,bf,bf,bf,bf,bf,bf,bf,bf,bf,bf,bf,bf,bf,bf,bf,bf,bf] (any_of HT_.out (by kernel_rfl)) ?_ ?_ ?_
             rotate_left
             ·intro w';go_simp;with_reducible rfl
             rotate_left
             ·simp only [Act.put,q_ia11,q_cz11,q_cs11,i64_w,i32_w];rfl
             refine take_ (i:=16) (N:=some 76) (v:=?_) (a':=?_) #[bT,bT,bT,bT,bT,bT,bT,bT,bT,bT,bT,bT,bT,bT,bT,bT,bT,bf,bT,bf,bf,bf,bf,bf,bf,bf,bf,bf,bf,bf,bf,bf,bf,bf,bf,bf,bf,bf,bf,bf,bf,bf,bf,bf,bf] rfl rfl (take_ofW HT_.out HW_.out (by kernel_rfl)) (fun _ _ _ h => h) (Or.inl ⟨by rfl,?_⟩) hHeld ?_ ?_
             rotate_left
             ·rintro w' ⟨s0,s1,s2,s3,s4,s5,s6,s7,s8⟩
              go_simp
              with_reducible rfl
             rotate_left
             ·simp only [Act.put,q_ia11,q_cz11,q_cs11,i64_w,i32_w];rfl
             refine pQ (i:=17) (N:=some 77) (v:=?_) (a':=?_) #[bT,bT,bT,bT,bT,bT,bT,bT,bT,bT,bT,bT,bT,bT,bT,bT,bT,bT,bT,bf,bf,bf,bf,bf,bf,bf,bf,bf,bf,bf,bf,bf,bf,bf,bf,bf,bf,bf,bf,bf,bf,bf,bf,bf,bf] (any_of HT_.out (by kernel_rfl)) ?_ ?_ ?_
             rotate_left
             ·intro w';go_simp;with_reducible rfl
             rotate_left
             ·simp only [Act.put,q_ia11,q_cz11,q_cs11,i64_w,i32_w];rfl
             refine take_ (i:=19) (N:=some 79) (v:=?_) (a':=?_) #[bT,bT,bT,bT,bT,bT,bT,bT,bT,bT,bT,bT,bT,bT,bT,bT,bT,bT,bT,bT,bf,bf,bf,bf,bf,bf,bf,bf,bf,bf,bf,bf,bf,bf,bf,bf,bf,bf,bf,bf,bf,bf,bf,bf,bf] rfl rfl (take_ofW HT_.out HW_.out (by kernel_rfl)) (fun _ _ _ h => h) (Or.inl ⟨by rfl,?_⟩) hHeld ?_ ?_
             rotate_left
             ·rintro w' ⟨s0,s1,s2,s3,s4,s5,s6,s7,s8⟩
              go_simp
              with_reducible rfl
             rotate_left
             ·simp only [Act.put,q_ia11,q_cz11,q_cs11,i64_w,i32_w];rfl
             refine pQ (i:=20) (N:=some 80) (v:=?_) (a':=?_) #[bT,bT,bT,bT,bT,bT,bT,bT,bT,bT,bT,bT,bT,bT,bT,bT,bT,bT,bT,bT,bT,bf,bf,bf,bf,bf,bf,bf,bf,bf,bf,bf,bf,bf,bf,bf,bf,bf,bf,bf,bf,bf,bf,bf,bf] (any_of HT_.out (by kernel_rfl)) ?_ ?_ ?_
             rotate_left
             ·intro w';go_simp;with_reducible rfl
             rotate_left
             ·simp only [Act.put,q_ia11,q_cz11,q_cs11,i64_w,i32_w];rfl
             refine pQ (i:=21) (N:=some 81) (v:=?_) (a':=?_) #[bT,bT,bT,bT,bT,bT,bT,bT,bT,bT,bT,bT,bT,bT,bT,bT,bT,bT,bT,bT,bT,bT,bf,bf,bf,bf,bf,bf,bf,bf,bf,bf,bf,bf,bf,bf,bf,bf,bf,bf,bf,bf,bf,bf,bf] (any_of HT_.out (by kernel_rfl)) ?_ ?_ ?_
             rotate_left
             ·intro w';go_simp;with_reducible rfl
             rotate_left
             ·simp only [Act.put,q_ia11,q_cz11,q_cs11,i64_w,i32_w];rfl
             refine pQ (i:=22) (N:=some 82) (v:=?_) (a':=?_) #[bT,bT,bT,bT,bT,bT,bT,bT,bT,bT,bT,bT,bT,bT,bT,bT,bT,bT,bT,bT,bT,bT,bT,bf,bf,bf,bf,bf,bf,bf,bf,bf,bf,bf,bf,bf,bf,bf,bf,bf,bf,bf,bf,bf,bf] (any_of HT_.out (by kernel_rfl)) ?_ ?_ ?_
             rotate_left
             ·intro w';go_simp;with_reducible rfl
             rotate_left
             ·simp only [Act.put,q_ia11,q_cz11,q_cs11,i64_w,i32_w];rfl
             refine pQ (i:=23) (N:=some 83) (v:=?_) (a':=?_) #[bT,bT,bT,bT,bT,bT,bT,bT,bT,bT,bT,bT,bT,bT,bT,bT,bT,bT,bT,bT,bT,bT,bT,bT,bf,bf,bf,bf,bf,bf,bf,bf,bf,bf,bf,bf,bf,bf,bf,bf,bf,bf,bf,bf,bf] (any_of HT_.out (by kernel_rfl)) ?_ ?_ ?_
             rotate_left
             ·intro w';go_simp;with_reducible rfl
             rotate_left
             ·simp only [Act.put,q_ia11,q_cz11,q_cs11,i64_w,i32_w];rfl
             refine take_ (i:=24) (N:=some 84) (v:=?_) (a':=?_) #[bT,bT,bT,bT,bT,bT,bT,bT,bT,bT,bT,bT,bT,bT,bT,bT,bT,bT,bT,bT,bT,bT,bT,bT,bT,bf,bf,bf,bf,bf,bf,bf,bf,bf,bf,bf,bf,bf,bf,bf,bf,bf,bf,bf,bf] rfl rfl (take_ofW HT_.out HW_.out (by kernel_rfl)) (fun _ _ _ h => h) (Or.inl ⟨by rfl,?_⟩) hHeld ?_ ?_
             rotate_left
             ·rintro w' ⟨s0,s1,s2,s3,s4,s5,s6,s7,s8⟩
              go_simp
              with_reducible rfl
             rotate_left
             ·simp only [Act.put,q_ia11,q_cz11,q_cs11,i64_w,i32_w];rfl
             refine one_ (i:=25) (N:=some 85) #[bT,bT,bT,bT,bT,bT,bT,bT,bT,bT,bT,bT,bT,bT,bT,bT,bT,bT,bT,bT,bT,bT,bT,bT,bT,bT,bf,bf,bf,bf,bf,bf,bf,bf,bf,bf,bf,bf,bf,bf,bf,bf,bf,bf,bf] rfl rfl (one_of HT_.out (by kernel_rfl)) (by decide) (fun K hK => ?_)
             refine goes_ Try.func38 (by kernel_rfl) rfl #[.agg #[.slice Ao13 t371.length co13,.slice Ao15 t374.length co15,.string t377],.string (⟨#[116]⟩ : ByteArray),.string (⟨#[110,111,110,101]⟩ : ByteArray)] (by rfl) rfl rfl (by (try simp only [List.map_toArray,List.map_cons,List.map_nil]);first|done|rfl|(simp only [List.length_drop,List.length_take];rfl)) ?_
             with_reducible refine (impl_CellOf.calls k1 _ _ t371 _ _ t374 t377 (⟨#[116]⟩ : ByteArray) (⟨#[110,111,110,101]⟩ : ByteArray) t407 _ ?side1 ?side2 ?side3 ?side4 A80.out).mono ?_
             (case side1 => repeat (first|exact (rR HO_379000.out).2.2|(with_reducible first|refine cA ?_ _|refine cN ?_ _|refine cD ?_)))
             (case side2 => exact (rR HO_379000.out).2.1)
             (case side3 => repeat (first|exact (rR HO_379001.out).2.2|(with_reducible first|refine cA ?_ _|refine cN ?_ _|refine cD ?_)))
             (case side4 => exact (rR HO_379001.out).2.1)
             rintro e w92 ⟨rfl,hb⟩
             refine ⟨_,rfl,?_⟩
             have n0_:=aM (rH HO_379000.out hb)
             have n1_:=aM (rH HO_379001.out hb)
             have n2_:=aM (rH HO_392000.out hb)
             have n3_:=aM (rH HO_392001.out hb)
             have n4_:=aM (rH HO_400000.out hb)
             have n5_:=aM (rH HO_400001.out hb)
             have n6_:=aM (bH BK378.out hb)
             have n7_:=aM (bH BK391.out hb)
             have n8_:=aM (bH BK399.out hb)
             have n9_:=aM (lQ HB.out hb)
             clear HO_379000
             clear HO_379001
             clear HO_392000
             clear HO_392001
             clear HO_400000
             clear HO_400001
             clear BK378
             clear BK391
             clear BK399
             clear HB
             have HO_379000:=n0_
             have HO_379001:=n1_
             have HO_392000:=n2_
             have HO_392001:=n3_
             have HO_400000:=n4_
             have HO_400001:=n5_
             have BK378:=n6_
             have BK391:=n7_
             have BK399:=n8_
             have HB:=n9_
             clear n0_ n1_ n2_ n3_ n4_ n5_ n6_ n7_ n8_ n9_
             (try clear hb)
             (try clear hb2)
             (try clear hk)
             (try clear hi)
             refine hK.out _ _ ⟨(bC BK391.out 0).trans rfl,(bC BK391.out 1).trans rfl,(bC BK391.out 2).trans rfl,(bC BK399.out 0).trans rfl,(bC BK399.out 1).trans rfl,(bC BK399.out 2).trans rfl,(bC BK378.out 0).trans rfl,(bC BK378.out 1).trans rfl,(bC BK378.out 2).trans rfl⟩ (fun hHeld => ?_)
             clear hK K
             refine norm_ (a':=?_) ?_ ?_
             rotate_left
             ·show Act.put _ (some 85) _ = _
              simp only [Act.put,q_ia11,q_cz11,q_cs11,i64_w,i32_w]
              rfl
             refine pQ (i:=26) (N:=some 86) (v:=?_) (a':=?_) #[bT,bT,bT,bT,bT,bT,bT,bT,bT,bT,bT,bT,bT,bT,bT,bT,bT,bT,bT,bT,bT,bT,bT,bT,bT,bT,bT,bf,bf,bf,bf,bf,bf,bf,bf,bf,bf,bf,bf,bf,bf,bf,bf,bf,bf] (any_of HT_.out (by kernel_rfl)) ?_ ?_ ?_
             rotate_left
             ·intro w';go_simp;with_reducible rfl
             rotate_left
             ·simp only [Act.put,q_ia11,q_cz11,q_cs11,i64_w,i32_w];rfl
             refine pQ (i:=27) (N:=some 87) (v:=?_) (a':=?_) #[bT,bT,bT,bT,bT,bT,bT,bT,bT,bT,bT,bT,bT,bT,bT,bT,bT,bT,bT,bT,bT,bT,bT,bT,bT,bT,bT,bT,bf,bf,bf,bf,bf,bf,bf,bf,bf,bf,bf,bf,bf,bf,bf,bf,bf] (any_of HT_.out (by kernel_rfl)) ?_ ?_ ?_
             rotate_left
             ·intro w';go_simp;with_reducible rfl
             rotate_left
             ·simp only [Act.put,q_ia11,q_cz11,q_cs11,i64_w,i32_w];rfl
             refine pQ (i:=28) (N:=some 88) (v:=?_) (a':=?_) #[bT,bT,bT,bT,bT,bT,bT,bT,bT,bT,bT,bT,bT,bT,bT,bT,bT,bT,bT,bT,bT,bT,bT,bT,bT,bT,bT,bT,bT,bf,bf,bf,bf,bf,bf,bf,bf,bf,bf,bf,bf,bf,bf,bf,bf] (any_of HT_.out (by kernel_rfl)) ?_ ?_ ?_
             rotate_left
             ·intro w';go_simp;with_reducible rfl
             rotate_left
             ·simp only [Act.put,q_ia11,q_cz11,q_cs11,i64_w,i32_w];rfl
             refine pQ (i:=29) (N:=some 89) (v:=?_) (a':=?_) #[bT,bT,bT,bT,bT,bT,bT,bT,bT,bT,bT,bT,bT,bT,bT,bT,bT,bT,bT,bT,bT,bT,bT,bT,bT,bT,bT,bT,bT,bT,bf,bf,bf,bf,bf,bf,bf,bf,bf,bf,bf,bf,bf,bf,bf] (any_of HT_.out (by kernel_rfl)) ?_ ?_ ?_
             rotate_left
             ·intro w';go_simp;with_reducible rfl
             rotate_left
             ·simp only [Act.put,q_ia11,q_cz11,q_cs11,i64_w,i32_w];rfl
             refine pQ (i:=32) (N:=some 92) (v:=?_) (a':=?_) #[bT,bT,bT,bT,bT,bT,bT,bT,bT,bT,bT,bT,bT,bT,bT,bT,bT,bT,bT,bT,bT,bT,bT,bT,bT,bT,bT,bT,bT,bT,bf,bf,bT,bf,bf,bf,bf,bf,bf,bf,bf,bf,bf,bf,bf] (any_of HT_.out (by kernel_rfl)) ?_ ?_ ?_
             rotate_left
             ·intro w';go_simp;with_reducible rfl
             rotate_left
             ·simp only [Act.put,q_ia11,q_cz11,q_cs11,i64_w,i32_w];rfl
             refine take_ (i:=30) (N:=some 90) (v:=?_) (a':=?_) #[bT,bT,bT,bT,bT,bT,bT,bT,bT,bT,bT,bT,bT,bT,bT,bT,bT,bT,bT,bT,bT,bT,bT,bT,bT,bT,bT,bT,bT,bT,bT,bf,bT,bf,bf,bf,bf,bf,bf,bf,bf,bf,bf,bf,bf] rfl rfl (take_ofW HT_.out HW_.out (by kernel_rfl)) (fun _ _ _ h => h) (Or.inl ⟨by rfl,?_⟩) hHeld ?_ ?_
             rotate_left
             ·rintro w' ⟨s0,s1,s2,s3,s4,s5,s6,s7,s8⟩
              go_simp
              with_reducible rfl
             rotate_left
             ·simp only [Act.put,q_ia11,q_cz11,q_cs11,i64_w,i32_w];rfl
             refine pQ (i:=31) (N:=some 91) (v:=?_) (a':=?_) #[bT,bT,bT,bT,bT,bT,bT,bT,bT,bT,bT,bT,bT,bT,bT,bT,bT,bT,bT,bT,bT,bT,bT,bT,bT,bT,bT,bT,bT,bT,bT,bT,bT,bf,bf,bf,bf,bf,bf,bf,bf,bf,bf,bf,bf] (any_of HT_.out (by kernel_rfl)) ?_ ?_ ?_
             rotate_left
             ·intro w';go_simp;with_reducible rfl
             rotate_left
             ·simp only [Act.put,q_ia11,q_cz11,q_cs11,i64_w,i32_w];rfl
             refine take_ (i:=33) (N:=some 93) (v:=?_) (a':=?_) #[bT,bT,bT,bT,bT,bT,bT,bT,bT,bT,bT,bT,bT,bT,bT,bT,bT,bT,bT,bT,bT,bT,bT,bT,bT,bT,bT,bT,bT,bT,bT,bT,bT,bT,bf,bf,bf,bf,bf,bf,bf,bf,bf,bf,bf] rfl rfl (take_ofW HT_.out HW_.out (by kernel_rfl)) (fun _ _ _ h => h) (Or.inl ⟨by rfl,?_⟩) hHeld ?_ ?_
             rotate_left
             ·rintro w' ⟨s0,s1,s2,s3,s4,s5,s6,s7,s8⟩
              go_simp
              with_reducible rfl
             rotate_left
             ·simp only [Act.put,q_ia11,q_cz11,q_cs11,i64_w,i32_w];rfl
             refine pQ (i:=34) (N:=some 94) (v:=?_) (a':=?_) #[bT,bT,bT,bT,bT,bT,bT,bT,bT,bT,bT,bT,bT,bT,bT,bT,bT,bT,bT,bT,bT,bT,bT,bT,bT,bT,bT,bT,bT,bT,bT,bT,bT,bT,bT,bf,bf,bf,bf,bf,bf,bf,bf,bf,bf] (any_of HT_.out (by kernel_rfl)) ?_ ?_ ?_
             rotate_left
             ·intro w';go_simp;with_reducible rfl
             rotate_left
             ·simp only [Act.put,q_ia11,q_cz11,q_cs11,i64_w,i32_w];rfl
             refine pQ (i:=35) (N:=some 95) (v:=?_) (a':=?_) #[bT,bT,bT,bT,bT,bT,bT,bT,bT,bT,bT,bT,bT,bT,bT,bT,bT,bT,bT,bT,bT,bT,bT,bT,bT,bT,bT,bT,bT,bT,bT,bT,bT,bT,bT,bT,bf,bf,bf,bf,bf,bf,bf,bf,bf] (any_of HT_.out (by kernel_rfl)) ?_ ?_ ?_
             rotate_left
             ·intro w';go_simp;with_reducible rfl
             rotate_left
             ·simp only [Act.put,q_ia11,q_cz11,q_cs11,i64_w,i32_w];rfl
             refine pQ (i:=36) (N:=some 96) (v:=?_) (a':=?_) #[bT,bT,bT,bT,bT,bT,bT,bT,bT,bT,bT,bT,bT,bT,bT,bT,bT,bT,bT,bT,bT,bT,bT,bT,bT,bT,bT,bT,bT,bT,bT,bT,bT,bT,bT,bT,bT,bf,bf,bf,bf,bf,bf,bf,bf] (any_of HT_.out (by kernel_rfl)) ?_ ?_ ?_
             rotate_left
             ·intro w';go_simp;with_reducible rfl
             rotate_left
             ·simp only [Act.put,q_ia11,q_cz11,q_cs11,i64_w,i32_w];rfl
             refine pQ (i:=37) (N:=some 97) (v:=?_) (a':=?_) #[bT,bT,bT,bT,bT,bT,bT,bT,bT,bT,bT,bT,bT,bT,bT,bT,bT,bT,bT,bT,bT,bT,bT,bT,bT,bT,bT,bT,bT,bT,bT,bT,bT,bT,bT,bT,bT,bT,bf,bf,bf,bf,bf,bf,bf] (any_of HT_.out (by kernel_rfl)) ?_ ?_ ?_
             rotate_left
             ·intro w';go_simp;with_reducible rfl
             rotate_left
             ·simp only [Act.put,q_ia11,q_cz11,q_cs11,i64_w,i32_w];rfl
             refine pQ (i:=40) (N:=some 100) (v:=?_) (a':=?_) #[bT,bT,bT,bT,bT,bT,bT,bT,bT,bT,bT,bT,bT,bT,bT,bT,bT,bT,bT,bT,bT,bT,bT,bT,bT,bT,bT,bT,bT,bT,bT,bT,bT,bT,bT,bT,bT,bT,bf,bf,bT,bf,bf,bf,bf] (any_of HT_.out (by kernel_rfl)) ?_ ?_ ?_
             rotate_left
             ·intro w';go_simp;with_reducible rfl
             rotate_left
             ·simp only [Act.put,q_ia11,q_cz11,q_cs11,i64_w,i32_w];rfl
             refine take_ (i:=38) (N:=some 98) (v:=?_) (a':=?_) #[bT,bT,bT,bT,bT,bT,bT,bT,bT,bT,bT,bT,bT,bT,bT,bT,bT,bT,bT,bT,bT,bT,bT,bT,bT,bT,bT,bT,bT,bT,bT,bT,bT,bT,bT,bT,bT,bT,bT,bf,bT,bf,bf,bf,bf] rfl rfl (take_ofW HT_.out HW_.out (by kernel_rfl)) (fun _ _ _ h => h) (Or.inl ⟨by rfl,?_⟩) hHeld ?_ ?_
             rotate_left
             ·rintro w' ⟨s0,s1,s2,s3,s4,s5,s6,s7,s8⟩
              go_simp
              with_reducible rfl
             rotate_left
             ·simp only [Act.put,q_ia11,q_cz11,q_cs11,i64_w,i32_w];rfl
             refine take_ (i:=39) (N:=some 99) (v:=?_) (a':=?_) #[bT,bT,bT,bT,bT,bT,bT,bT,bT,bT,bT,bT,bT,bT,bT,bT,bT,bT,bT,bT,bT,bT,bT,bT,bT,bT,bT,bT,bT,bT,bT,bT,bT,bT,bT,bT,bT,bT,bT,bT,bT,bf,bf,bf,bf] rfl rfl (take_ofW HT_.out HW_.out (by kernel_rfl)) (fun _ _ _ h => h) (Or.inl ⟨by rfl,?_⟩) hHeld ?_ ?_
             rotate_left
             ·rintro w' ⟨s0,s1,s2,s3,s4,s5,s6,s7,s8⟩
              go_simp
              with_reducible rfl
             rotate_left
             ·simp only [Act.put,q_ia11,q_cz11,q_cs11,i64_w,i32_w];rfl
             refine one_ (i:=41) (N:=some 101) #[bT,bT,bT,bT,bT,bT,bT,bT,bT,bT,bT,bT,bT,bT,bT,bT,bT,bT,bT,bT,bT,bT,bT,bT,bT,bT,bT,bT,bT,bT,bT,bT,bT,bT,bT,bT,bT,bT,bT,bT,bT,bT,bf,bf,bf] rfl rfl (one_of HT_.out (by kernel_rfl)) (by decide) (fun K hK => ?_)
             refine goes_ Try.func30 (by kernel_rfl) rfl #[.agg #[.slice Ao13 t371.length co13,.slice Ao15 t374.length co15,.string t377],.string (⟨#[116]⟩ : ByteArray),.string ((⟨#[107,101,121]⟩ : ByteArray) ++ t383),.string (⟨#[119]⟩ : ByteArray)] (by rfl) rfl rfl (by (try simp only [List.map_toArray,List.map_cons,List.map_nil]);first|done|rfl|(simp only [List.length_drop,List.length_take];rfl)) ?_
             with_reducible refine (spec_SetCell.calls k1 _ _ t371 _ _ t374 t377 (⟨#[116]⟩ : ByteArray) ((⟨#[107,101,121]⟩ : ByteArray) ++ t383) (⟨#[119]⟩ : ByteArray) t408 t411 t414 _ ?side1 ?side2 ?side3 ?side4 A83.out).mono ?_
             (case side1 => repeat (first|exact (rR HO_379000.out).2.2|(with_reducible first|refine cA ?_ _|refine cN ?_ _|refine cD ?_)))
             (case side2 => exact (rR HO_379000.out).2.1)
             (case side3 => repeat (first|exact (rR HO_379001.out).2.2|(with_reducible first|refine cA ?_ _|refine cN ?_ _|refine cD ?_)))
             (case side4 => exact (rR HO_379001.out).2.1)
             rintro e w93 ⟨v409,v412,rfl,ho0,ho1,hb⟩
             refine ⟨_,rfl,?_⟩
             have n0_:=aM (rE (rZ HO_379000.out) (rS ho0) hb)
             have n1_:=aM (rE (rZ HO_379001.out) (rS ho1) hb)
             have n2_:=aM (rE (rZ HO_392000.out) (rS ho0) hb)
             have n3_:=aM (rE (rZ HO_392001.out) (rS ho1) hb)
             have n4_:=aM (rE (rZ HO_400000.out) (rS ho0) hb)
             have n5_:=aM (rE (rZ HO_400001.out) (rS ho1) hb)
             have n6_:=aM (rL (rW (rW (rW ho0 (rT (rZ HO_379000.out))) (rT (rZ HO_392000.out))) (rT (rZ HO_400000.out))) (lZ (by repeat (first|(with_reducible first|exact HB.out|apply lA|apply lN|apply lD|refine lS ?_ GE378.out|refine lS ?_ GE391.out|refine lS ?_ GE399.out)|exact HB.out))))
             have n7_:=aM (rL (rW (rW (rW ho1 (rT (rZ HO_379001.out))) (rT (rZ HO_392001.out))) (rT (rZ HO_400001.out))) (lZ (by repeat (first|(with_reducible first|exact HB.out|apply lA|apply lN|apply lD|refine lS ?_ GE378.out|refine lS ?_ GE391.out|refine lS ?_ GE399.out)|exact HB.out))))
             have n8_:=aM (bH BK378.out hb)
             have n9_:=aM (bH BK391.out hb)
             have n10_:=aM (bH BK399.out hb)
             have n11_:=aM (lQ HB.out hb)
             clear HO_379000
             clear HO_379001
             clear HO_392000
             clear HO_392001
             clear HO_400000
             clear HO_400001
             clear BK378
             clear BK391
             clear BK399
             clear HB
             have HO_379000:=n0_
             have HO_379001:=n1_
             have HO_392000:=n2_
             have HO_392001:=n3_
             have HO_400000:=n4_
             have HO_400001:=n5_
             have HO410:=n6_
             have HO413:=n7_
             have BK378:=n8_
             have BK391:=n9_
             have BK399:=n10_
             have HB:=n11_
             clear n0_ n1_ n2_ n3_ n4_ n5_ n6_ n7_ n8_ n9_ n10_ n11_
             (try clear hb)
             (try clear hb2)
             (try clear hk)
             (try clear hi)
             (try clear ho0)
             (try clear ho1)
             obtain ⟨Ao94,co94,eo94⟩:=Kd.R_slice HO410.out
             (first|subst eo94|(injection eo94 with f1_ f2_ f3_;have f4_:=f1_.symm;have f5_:=f3_.symm;clear f1_ f2_ f3_;subst f4_;subst f5_))
             obtain ⟨Ao95,co95,eo95⟩:=Kd.R_slice HO413.out
             (first|subst eo95|(injection eo95 with f1_ f2_ f3_;have f4_:=f1_.symm;have f5_:=f3_.symm;clear f1_ f2_ f3_;subst f4_;subst f5_))
             refine hK.out _ _ ⟨(bC BK391.out 0).trans rfl,(bC BK391.out 1).trans rfl,(bC BK391.out 2).trans rfl,(bC BK399.out 0).trans rfl,(bC BK399.out 1).trans rfl,(bC BK399.out 2).trans rfl,(bC BK378.out 0).trans rfl,(bC BK378.out 1).trans rfl,(bC BK378.out 2).trans rfl⟩ (fun hHeld => ?_)
             clear hK K
             refine norm_ (a':=?_) ?_ ?_
             rotate_left
             ·show Act.put _ (some 101) _ = _
              simp only [Act.put,q_ia11,q_cz11,q_cs11,i64_w,i32_w]
              rfl
             refine one_ (i:=42) (N:=some 102) #[bT,bT,bT,bT,bT,bT,bT,bT,bT,bT,bT,bT,bT,bT,bT,bT,bT,bT,bT,bT,bT,bT,bT,bT,bT,bT,bT,bT,bT,bT,bT,bT,bT,bT,bT,bT,bT,bT,bT,bT,bT,bT,bT,bf,bf] rfl rfl (one_of HT_.out (by kernel_rfl)) (by decide) (fun K hK => ?_)
             refine goes_ Try.func37 (by kernel_rfl) rfl #[.agg #[.slice Ao28 t392.length co28,.slice Ao32 t395.length co32,.string t398],.agg #[.slice Ao94 t408.length co94,.slice Ao95 t411.length co95,.string t414]] (by rfl) rfl rfl (by (try simp only [List.map_toArray,List.map_cons,List.map_nil]);first|done|rfl|(simp only [List.length_drop,List.length_take];rfl)) ?_
             with_reducible refine (spec_SameStore.calls k1 _ _ t392 _ _ t395 t398 _ _ t408 _ _ t411 t414 t415 _ ?side1 ?side2 ?side3 ?side4 ?side5 ?side6 ?side7 ?side8 A84.out).mono ?_
             (case side1 => repeat (first|exact (rR HO_400000.out).2.2|(with_reducible first|refine cA ?_ _|refine cN ?_ _|refine cD ?_)))
             (case side2 => exact (rR HO_400000.out).2.1)
             (case side3 => repeat (first|exact (rR HO_400001.out).2.2|(with_reducible first|refine cA ?_ _|refine cN ?_ _|refine cD ?_)))
             (case side4 => exact (rR HO_400001.out).2.1)
             (case side5 => repeat (first|exact (rR HO410.out).2.2|(with_reducible first|refine cA ?_ _|refine cN ?_ _|refine cD ?_)))
             (case side6 => exact (rR HO410.out).2.1)
             (case side7 => repeat (first|exact (rR HO413.out).2.2|(with_reducible first|refine cA ?_ _|refine cN ?_ _|refine cD ?_)))
             (case side8 => exact (rR HO413.out).2.1)
             rintro e w96 ⟨rfl,hb⟩
             refine ⟨_,rfl,?_⟩
             have n0_:=aM (rH HO_379000.out hb)
             have n1_:=aM (rH HO_379001.out hb)
             have n2_:=aM (rH HO_392000.out hb)
             have n3_:=aM (rH HO_392001.out hb)
             have n4_:=aM (rH HO_400000.out hb)
             have n5_:=aM (rH HO_400001.out hb)
             have n6_:=aM (rH HO410.out hb)
             have n7_:=aM (rH HO413.out hb)
             have n8_:=aM (bH BK378.out hb)
             have n9_:=aM (bH BK391.out hb)
             have n10_:=aM (bH BK399.out hb)
             have n11_:=aM (lQ HB.out hb)
             clear HO_379000
             clear HO_379001
             clear HO_392000
             clear HO_392001
             clear HO_400000
             clear HO_400001
             clear HO410
             clear HO413
             clear BK378
             clear BK391
             clear BK399
             clear HB
             have HO_379000:=n0_
             have HO_379001:=n1_
             have HO_392000:=n2_
             have HO_392001:=n3_
             have HO_400000:=n4_
             have HO_400001:=n5_
             have HO410:=n6_
             have HO413:=n7_
             have BK378:=n8_
             have BK391:=n9_
             have BK399:=n10_
             have HB:=n11_
             clear n0_ n1_ n2_ n3_ n4_ n5_ n6_ n7_ n8_ n9_ n10_ n11_
             (try clear hb)
             (try clear hb2)
             (try clear hk)
             (try clear hi)
             refine hK.out _ _ ⟨(bC BK391.out 0).trans rfl,(bC BK391.out 1).trans rfl,(bC BK391.out 2).trans rfl,(bC BK399.out 0).trans rfl,(bC BK399.out 1).trans rfl,(bC BK399.out 2).trans rfl,(bC BK378.out 0).trans rfl,(bC BK378.out 1).trans rfl,(bC BK378.out 2).trans rfl⟩ (fun hHeld => ?_)
             clear hK K
             refine norm_ (a':=?_) ?_ ?_
             rotate_left
             ·show Act.put _ (some 102) _ = _
              simp only [Act.put,q_ia11,q_cz11,q_cs11,i64_w,i32_w]
              rfl
             refine pQ (i:=43) (N:=some 103) (v:=?_) (a':=?_) #[bT,bT,bT,bT,bT,bT,bT,bT,bT,bT,bT,bT,bT,bT,bT,bT,bT,bT,bT,bT,bT,bT,bT,bT,bT,bT,bT,bT,bT,bT,bT,bT,bT,bT,bT,bT,bT,bT,bT,bT,bT,bT,bT,bT,bf] (any_of HT_.out (by kernel_rfl)) ?_ ?_ ?_
             rotate_left
             ·intro w';go_simp;with_reducible rfl
             rotate_left
             ·simp only [Act.put,q_ia11,q_cz11,q_cs11,i64_w,i32_w];rfl
             refine pQ (i:=44) (N:=some 2) (v:=?_) (a':=?_) #[bT,bT,bT,bT,bT,bT,bT,bT,bT,bT,bT,bT,bT,bT,bT,bT,bT,bT,bT,bT,bT,bT,bT,bT,bT,bT,bT,bT,bT,bT,bT,bT,bT,bT,bT,bT,bT,bT,bT,bT,bT,bT,bT,bT,bT] (any_of HT_.out (by kernel_rfl)) ?_ ?_ ?_
             rotate_left
             ·intro w';go_simp;with_reducible rfl
             rotate_left
             ·simp only [Act.put,q_ia11,q_cz11,q_cs11,i64_w,i32_w];rfl
             refine done_ (done_of HT_.out (by kernel_rfl)) ?_
             try go_wp2
             go_ret
             exact ⟨by first|rfl|(simp [errW_none,errW_some] <;> rfl)|(simp [*,errW_none,errW_some] <;> rfl),by repeat (first|(with_reducible first|exact HB.out|apply lA|apply lN|apply lD|refine lS ?_ GE378.out|refine lS ?_ GE391.out|refine lS ?_ GE399.out)|exact HB.out)⟩
            ·rw [if_neg c82] at H
             have c82b0 : ((t384.length : Int) == (t371.length : Int)) = false:=beq_eq_false_iff_ne.mpr c82
             have c82b1 : ((t384.length : Int) != (t371.length : Int)) = true:=bne_iff_ne.mpr c82
             have c82b2 : (t384.length == t371.length) = false:=by first|simpa using c82|(simp at c82 ⊢;omega)
             exact absurd (HR_.out.symm.trans (Option.some.inj H).symm) (by decide)
           ·rw [if_neg c81] at H
            have c81b0 : (t407.toList == ([] : List UInt8)) = false:=beq_eq_false_iff_ne.mpr c81
            have c81b8 : t407.toList.isEmpty = false:=by simpa using c81b0
            have c81b1 : (t407.toList != ([] : List UInt8)) = true:=bne_iff_ne.mpr c81
            exact absurd (HR_.out.symm.trans (Option.some.inj H).symm) (by decide)
          ·rw [if_neg c79] at H
           have c79b0 : ((t395.length : Int) == (t387.length : Int)) = false:=beq_eq_false_iff_ne.mpr c79
           have c79b1 : ((t395.length : Int) != (t387.length : Int)) = true:=bne_iff_ne.mpr c79
           have c79b2 : (t395.length == t387.length) = false:=by first|simpa using c79|(simp at c79 ⊢;omega)
           exact absurd (HR_.out.symm.trans (Option.some.inj H).symm) (by decide)
         ·rw [if_neg c78] at H
          have c78b0 : (t406.toList == ([119] : List UInt8)) = false:=beq_eq_false_iff_ne.mpr c78
          have c78b1 : (t406.toList != ([119] : List UInt8)) = true:=bne_iff_ne.mpr c78
          exact absurd (HR_.out.symm.trans (Option.some.inj H).symm) (by decide)
        ·rw [if_neg c76] at H
         have c76b0 : (t405.toList == ([118] : List UInt8)) = false:=beq_eq_false_iff_ne.mpr c76
         have c76b1 : (t405.toList != ([118] : List UInt8)) = true:=bne_iff_ne.mpr c76
         exact absurd (HR_.out.symm.trans (Option.some.inj H).symm) (by decide)
       ·replace c74:=Bool.eq_false_iff.mpr c74
        subst c74
        have H1 : (some false) = some r:=by rw [if_neg (show ¬ (false = true) by decide)] at H;exact H
        clear H
        have H:=H1
        clear H1
        exact absurd (HR_.out.symm.trans (Option.some.inj H).symm) (by decide)
   ·rw [if_neg c8] at H
    exact absurd H (by simp)
  ·rw [if_neg c6] at H
   exact absurd H (by simp)

/-- THE ONE PURE STATEMENT of laws_FnCells: yours. -/
def laws_FnCells.Pure : Prop:=∀ (l0 : List Int),l0.length ≤ maxLen → l0.length * 1 ≤ 140737488351232 → (∀ x ∈ l0,(Lit.int .u8 x).wf = true) → ∃ k,laws_FnCells.f k l0 = some true
theorem laws_FnCells.walk (P : laws_FnCells.Pure) (a0 : Option Addr) (len0 cap0 : Nat) (z0 : List Int) (w : World) (w0 : (a0 = none ∧ len0 = 0 ∧ cap0 = 0 ∧ z0 = []) ∨ ∃ x,a0 = some x ∧ len0 ≤ cap0 ∧ cap0 ≤ maxLen ∧ z0.length = cap0 ∧ (∀ i,i < z0.length → w.cell? (x.add i) = some (.int .u8 (z0.getD i 0))) ∧ ∀ n ∈ z0,(Lit.int .u8 n).wf = true) (y0 : len0 * 1 ≤ 140737488351232) :
  Calls Try.prog 10 #[.slice a0 len0 cap0] w fun e w' => e = .returned (.bool true) ∧ Below w.heap.size w w':=by
 obtain ⟨l0,rfl,hr0,hm0,hw0,hc0⟩:=ReadsInt.ofRowC w0
 obtain ⟨k,h⟩:=P l0 hm0 y0 hw0
 refine (laws_FnCells.calls k _ _ l0 true w (Kd.C_of_reads (d:=(0 : Int)) (h1:=fun _ => rfl) hr0) hc0 h rfl).mono ?_
 rintro e w' ⟨rfl,hd⟩
 exact ⟨rfl,hd⟩

end Go.Proofs.Ytodpkfidkilpdaa.QFnCells
