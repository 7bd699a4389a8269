-- A text of this session, made by wip/own_print.py (the kit's print with additions of ours).
import Derived.Test.YtodpkfidkilpdaaQFnVarsx0
import Derived.Test.YtodpkfidkilpdaaQFnVarsx3
import Derived.Test.YtodpkfidkilpdaaQFnVarsx4
import Derived.Test.YtodpkfidkilpdaaQFnVarsx6
import Derived.Test.YtodpkfidkilpdaaQFnVarsx10
import Derived.Test.YtodpkfidkilpdaaQFnVarsx11
import Derived.Test.YtodpkfidkilpdaaQFnVarsx12
namespace Go.Proofs.Ytodpkfidkilpdaa.QFnVars
open Go.RowKit Go.Proofs.YtodpkfidkilpdaaW.PrintWords Go.Proofs.YtodpkfidkilpdaaW.PrintLast Go.Proofs.YtodpkfidkilpdaaW.PrintMore
attribute [local go_sem] max2_int min2_int max_two min_two max_three min_three max_four min_four   -- for this text's walks alone
set_option linter.unusedVariables false
set_option linter.unusedSimpArgs false
open Bool renaming true → bT, false → bf
open Go.Proofs.YtodpkfidkilpdaaW.PrintWords.Kd renaming R_alloc → rA, R_drewN → rN, R_drew → rD, C_alloc → cA, C_drewN → cN, C_drew → cD, R_far → rF, R_below → rB, R_lower → rL, R_lt → rT, R_base → rS, C_below → cB, R_types → rY, R_elder' → rE, R_reads' → rR, R_new' → rW
open Go.Proofs.YtodpkfidkilpdaaW.PrintWords renaming blk_drewN → bN, blk_drew → bD, blk_alloc → bA, below_set → lS, pw_below_drewN → lN, below_drew1 → lD, below_alloc → lA, blk_cell → bC, blk_below → bB, below_size → lZ, below_step → lP, blk_lt → bL, blk_frozen → bF
open Go.Proofs.YtodpkfidkilpdaaW.PrintWords.Aside0 renaming mk → aM
theorem q_ia11 {α : Type} (l : List α) (i : Nat) (a : α) : l.toArray.setIfInBounds i a = (l.set i a).toArray := List.setIfInBounds_toArray ..
theorem q_cz11 {α : Type} (a b : α) (l : List α) : (a :: l).set 0 b = b :: l := rfl
theorem q_cs11 {α : Type} (a b : α) (l : List α) (n : Nat) : (a :: l).set (n + 1) b = a :: l.set n b := rfl

/-! ### laws_FnVars: function 9 -/
def laws_FnVars.l0 : Nat → ByteArray → ByteArray → Int → List (S53) → List (S57) → ByteArray → List (S53) → List (S57) → ByteArray → Option (Bool)
 | 0, _, _, _, _, _, _, _, _, _ => none
 | k + 1, x5, x6, x8, x381000, x381001, x381002, x399000, x399001, x399002 => if x8 < (x381000.length : Int) then (if 0 ≤ x8 then (if ((rd_T53 x381000 x8).f0).toList = x5.toList then (laws_FnVars.l0 k x5 x6 (wrap64 (x8 + 1)) x381000 x381001 x381002 x399000 x399001 x399002) else ((impl_VarOf.f k x399000 x399001 x399002 ((rd_T53 x381000 x8).f0)).bind fun t401 => (if t401.toList = ((rd_T53 x381000 x8).f1).toList then (laws_FnVars.l0 k x5 x6 (wrap64 (x8 + 1)) x381000 x381001 x381002 x399000 x399001 x399002) else (some false)))) else (none)) else (if x6.size + 40 ≤ 9223372036854775807 then ((impl_SetVar.f k x381000 x381001 x381002 x5 (x6 ++ (⟨#[48, 49, 50, 51, 52, 53, 54, 55, 56, 57, 48, 49, 50, 51, 52, 53, 54, 55, 56, 57, 48, 49, 50, 51, 52, 53, 54, 55, 56, 57, 48, 49, 50, 51, 52, 53, 54, 55, 56, 57]⟩ : ByteArray))).bind fun bt403 => ((impl_StoreOk.f k x381000 x381001 x381002).bind fun t411 => (if t411 = true then ((impl_StoreOk.f k x399000 x399001 x399002).bind fun t412 => (if t412 = true then ((impl_VarOf.f k x399000 x399001 x399002 x5).bind fun t413 => (if t413.toList = x6.toList then ((impl_VarOf.f k bt403.1 bt403.2.1 bt403.2.2 x5).bind fun t414 => (if (t414.size : Int) = 40 then (if x399002.toList = x381002.toList then (if (x399001.length : Int) = (x381001.length : Int) then ((impl_VarOf.f k x381000 x381001 x381002 (⟨#[110, 111, 110, 101]⟩ : ByteArray)).bind fun t415 => (if t415.toList = ([] : List UInt8) then ((spec_SetVar.f k x381000 x381001 x381002 x5 x6).bind fun bt416 => ((spec_SameStore.f k x399000 x399001 x399002 bt416.1 bt416.2.1 bt416.2.2).bind fun t423 => (some t423))) else (some false))) else (some false)) else (some false)) else (some false))) else (some false))) else (some false))) else (some false)))) else (none))
def laws_FnVars.f (k : Nat) (l0 : List Int) : Option (Bool) := (laws_big.f l0).bind fun t372 => (if t372 = true then (some true) else ((spec_DrawStore.f k l0).bind fun bt373 => ((spec_DrawPlaces.f k l0).bind fun t381 => ((some (([(⟨#[110]⟩ : ByteArray), (⟨#[115]⟩ : ByteArray), (⟨#[110, 101, 119]⟩ : ByteArray)] : List ByteArray) : List ByteArray)).bind fun y384 => (if 0 < (t381.length : Int) then (if 0 ≤ (Int.tmod (rd t381 0) 3) then (if (Int.tmod (rd t381 0) 3) < (y384.length : Int) then (if 1 < (t381.length : Int) then ((spec_Decimal.f k (rd t381 1)).bind fun t390 => (if 5 + t390.size ≤ 9223372036854775807 then ((impl_SetVar.f k bt373.1 bt373.2.1 bt373.2.2 (rdOf ByteArray.empty y384 (Int.tmod (rd t381 0) 3)) ((⟨#[118, 97, 108, 117, 101]⟩ : ByteArray) ++ t390)).bind fun bt391 => (laws_FnVars.l0 k (rdOf ByteArray.empty y384 (Int.tmod (rd t381 0) 3)) ((⟨#[118, 97, 108, 117, 101]⟩ : ByteArray) ++ t390) 0 bt373.1 bt373.2.1 bt373.2.2 bt391.1 bt391.2.1 bt391.2.2)) else (none))) else (none)) else (none)) else (none)) else (none))))))
theorem laws_FnVars.mono_l : ∀ k, (∀ y0 y1 y2 y3 y4 y5 y6 y7 y8, LeO (laws_FnVars.l0 k y0 y1 y2 y3 y4 y5 y6 y7 y8) (laws_FnVars.l0 (k + 1) y0 y1 y2 y3 y4 y5 y6 y7 y8))
 | 0 => fun _ _ _ _ _ _ _ _ _ r h => by simp [laws_FnVars.l0] at h
 | k + 1 => by
  have ih0 := laws_FnVars.mono_l k
  ·intro y0 y1 y2 y3 y4 y5 y6 y7 y8
   unfold laws_FnVars.l0
   repeat' first
   | (with_reducible exact ih0 _ _ _ _ _ _ _ _ _)
   | (with_reducible exact impl_SetVar.mono _ _ _ _ _ _)
   | (with_reducible exact impl_StoreOk.mono _ _ _ _)
   | (with_reducible exact impl_VarOf.mono _ _ _ _ _)
   | (with_reducible exact spec_Decimal.mono _ _)
   | (with_reducible exact spec_DrawPlaces.mono _ _)
   | (with_reducible exact spec_DrawStore.mono _ _)
   | (with_reducible exact spec_SameStore.mono _ _ _ _ _ _ _)
   | (with_reducible exact spec_SetVar.mono _ _ _ _ _ _)
   | (with_reducible exact LeO.refl _)
   | (with_reducible exact LeO.none _)
   | (with_reducible refine LeO.ite ?_ ?_)
   | (with_reducible refine LeO.bind ?_ (fun _ => ?_))
   | exact ih0 _ _ _ _ _ _ _ _ _
   | exact impl_SetVar.mono _ _ _ _ _ _
   | exact impl_StoreOk.mono _ _ _ _
   | exact impl_VarOf.mono _ _ _ _ _
   | exact spec_Decimal.mono _ _
   | exact spec_DrawPlaces.mono _ _
   | exact spec_DrawStore.mono _ _
   | exact spec_SameStore.mono _ _ _ _ _ _ _
   | exact spec_SetVar.mono _ _ _ _ _ _
   | exact LeO.none _
   | refine LeO.ite ?_ ?_
   | refine LeO.bind ?_ (fun _ => ?_)
theorem laws_FnVars.mono : ∀ a0 k, LeO (laws_FnVars.f k a0) (laws_FnVars.f (k + 1) a0) := by
 intro a0 k
 have ih0 := laws_FnVars.mono_l k
 unfold laws_FnVars.f
 repeat' first
   | (with_reducible exact ih0 _ _ _ _ _ _ _ _ _)
   | (with_reducible exact impl_SetVar.mono _ _ _ _ _ _)
   | (with_reducible exact impl_StoreOk.mono _ _ _ _)
   | (with_reducible exact impl_VarOf.mono _ _ _ _ _)
   | (with_reducible exact spec_Decimal.mono _ _)
   | (with_reducible exact spec_DrawPlaces.mono _ _)
   | (with_reducible exact spec_DrawStore.mono _ _)
   | (with_reducible exact spec_SameStore.mono _ _ _ _ _ _ _)
   | (with_reducible exact spec_SetVar.mono _ _ _ _ _ _)
   | (with_reducible exact LeO.refl _)
   | (with_reducible exact LeO.none _)
   | (with_reducible refine LeO.ite ?_ ?_)
   | (with_reducible refine LeO.bind ?_ (fun _ => ?_))
   | exact ih0 _ _ _ _ _ _ _ _ _
   | exact impl_SetVar.mono _ _ _ _ _ _
   | exact impl_StoreOk.mono _ _ _ _
   | exact impl_VarOf.mono _ _ _ _ _
   | exact spec_Decimal.mono _ _
   | exact spec_DrawPlaces.mono _ _
   | exact spec_DrawStore.mono _ _
   | exact spec_SameStore.mono _ _ _ _ _ _ _
   | exact spec_SetVar.mono _ _ _ _ _ _
   | exact LeO.none _
   | refine LeO.ite ?_ ?_
   | refine LeO.bind ?_ (fun _ => ?_)
def laws_FnVars.T11 : Bool × List (List Nat × List Nat) := (true, [([], []), ([0], [0]), ([], []), ([1, 2], [1, 2]), ([3], [3]), ([4], [4]), ([], []), ([5, 6], [5, 6]), ([7], [7]), ([8], [8]), ([8], [8]), ([10, 8], [8, 10]), ([8], [8]), ([11, 12, 8], [8, 11, 12]), ([13, 8], [8, 13]), ([14, 8], [8, 14]), ([9, 15, 8, 8], [8, 9, 15]), ([8], [8]), ([17, 8], [8, 17]), ([8], [8]), ([18, 19, 8], [8, 18, 19]), ([20, 8], [8, 20]), ([21, 8], [8, 21]), ([16, 22, 8], [8, 16, 22]), ([8, 23], [8, 23])])
def laws_FnVars.B11 : List Nat := [0, 1, 0, 7, 15, 31, 0, 127, 255, 511, 511, 1535, 511, 7679, 15871, 32255, 65535, 511, 131583, 511, 918015, 1966591, 4063743, 8388607, 16777215]
theorem laws_FnVars.tab11 : rtab .any (opsOf Try.f9 11) = laws_FnVars.T11 := by kernel_rfl
theorem laws_FnVars.bits11 : waitsOk laws_FnVars.T11.2 laws_FnVars.B11 = true := by kernel_rfl
def laws_FnVars.T14 : Bool × List (List Nat × List Nat) := (true, [([], []), ([0], [0]), ([1, 1], [1]), ([2], [2]), ([3, 2, 2], [2, 3]), ([2, 4], [2, 4]), ([5, 4], [5]), ([6], [6]), ([6], [6]), ([7, 8, 6, 6], [6, 7, 8]), ([6], [6]), ([9, 10, 6], [6, 9, 10]), ([6, 11], [6, 11]), ([12, 9], [12]), ([13], [13]), ([13], [13]), ([14, 15, 13, 13], [13, 14, 15]), ([16, 13], [13, 16]), ([17, 13], [13, 17]), ([13, 18], [13, 18]), ([19, 16], [19]), ([20], [20]), ([21, 20], [20, 21]), ([20], [20]), ([23, 20], [20, 23]), ([22, 24, 20], [20, 22, 24]), ([20, 25], [20, 25]), ([26, 20], [26]), ([27], [27]), ([28, 27], [27, 28]), ([29, 27], [27, 29]), ([27], [27]), ([31, 27], [27, 31]), ([32, 27], [27, 32]), ([30, 33, 27], [27, 30, 33]), ([27, 34], [27, 34]), ([35, 27], [35]), ([36], [36]), ([37, 36, 36], [36, 37]), ([38, 36], [36, 38]), ([36, 39], [36, 39]), ([40, 38], [40]), ([41], [41]), ([41], [41]), ([41], [41]), ([41], [41]), ([43, 44, 45, 41, 41], [41, 43, 44, 45]), ([42, 46, 46, 41], [41, 42, 46]), ([41, 47], [41, 47]), ([48, 47, 0, 1, 2, 3, 4, 5, 6, 7, 8, 9, 10, 11, 12, 13, 14, 15, 16, 17, 18, 19, 20, 21, 22, 23, 24, 25, 26, 27, 28, 29, 30, 31, 32, 33, 34, 35, 36, 37, 38, 39, 40, 41, 42, 43, 44, 45, 46, 47, 48], [48])])
def laws_FnVars.B14 : List Nat := [0, 1, 3, 7, 15, 31, 63, 127, 127, 511, 127, 2047, 4095, 8191, 16383, 16383, 65535, 131071, 262143, 524287, 1048575, 2097151, 4194303, 2097151, 10485759, 33554431, 67108863, 134217727, 268435455, 536870911, 1073741823, 268435455, 2415919103, 6710886399, 17179869183, 34359738367, 68719476735, 137438953471, 274877906943, 549755813887, 1099511627775, 2199023255551, 4398046511103, 4398046511103, 4398046511103, 4398046511103, 65970697666559, 140737488355327, 281474976710655, 562949953421311]
theorem laws_FnVars.tab14 : rtab .any (opsOf Try.f9 14) = laws_FnVars.T14 := by kernel_rfl
theorem laws_FnVars.bits14 : waitsOk laws_FnVars.T14.2 laws_FnVars.B14 = true := by kernel_rfl
set_option maxHeartbeats 8000000 in
set_option maxRecDepth 100000 in
theorem laws_FnVars.calls (k : Nat) (A0 : Option Addr) (c0 : Nat) (l0 : List Int) (r : Bool) (w : World) (hr0 : Kd.C (Kd.int .u8) w A0 l0.length l0) (hc0 : l0.length ≤ c0) (h : laws_FnVars.f k l0 = some r) (hr_ : r = true:=by first|rfl|assumption|exact Aside0.out (by assumption)) :
  Calls Try.prog 9 #[.slice A0 l0.length c0] w fun e w' => e = .returned (.bool r) ∧ Below w.heap.size w w':=by
 have hu38:=Try.underlying38
 have HR0:=aM hr0
 have HC0:=aM hc0
 clear hr0 hc0
 have HB:=aM (Below.refl w.heap.size w)
 have H : ((laws_big.f l0).bind fun t372 => (if t372 = true then (some true) else ((spec_DrawStore.f k l0).bind fun bt373 => ((spec_DrawPlaces.f k l0).bind fun t381 => ((some (([(⟨#[110]⟩ : ByteArray),(⟨#[115]⟩ : ByteArray),(⟨#[110,101,119]⟩ : ByteArray)] : List ByteArray) : List ByteArray)).bind fun y384 => (if 0 < (t381.length : Int) then (if 0 ≤ (Int.tmod (rd t381 0) 3) then (if (Int.tmod (rd t381 0) 3) < (y384.length : Int) then (if 1 < (t381.length : Int) then ((spec_Decimal.f k (rd t381 1)).bind fun t390 => (if 5 + t390.size ≤ 9223372036854775807 then ((impl_SetVar.f k bt373.1 bt373.2.1 bt373.2.2 (rdOf ByteArray.empty y384 (Int.tmod (rd t381 0) 3)) ((⟨#[118,97,108,117,101]⟩ : ByteArray) ++ t390)).bind fun bt391 => (laws_FnVars.l0 k (rdOf ByteArray.empty y384 (Int.tmod (rd t381 0) 3)) ((⟨#[118,97,108,117,101]⟩ : ByteArray) ++ t390) 0 bt373.1 bt373.2.1 bt373.2.2 bt391.1 bt391.2.1 bt391.2.2)) else (none))) else (none)) else (none)) else (none)) else (none))))))) = some r:=h
 clear h
 have HR_:=aM hr_
 clear hr_
 replace H:=Option.bind_eq_some_iff.mp H
 obtain ⟨t372,A20,H⟩:=H
 replace H : (if t372 = true then (some true) else ((spec_DrawStore.f k l0).bind fun bt373 => ((spec_DrawPlaces.f k l0).bind fun t381 => ((some (([(⟨#[110]⟩ : ByteArray),(⟨#[115]⟩ : ByteArray),(⟨#[110,101,119]⟩ : ByteArray)] : List ByteArray) : List ByteArray)).bind fun y384 => (if 0 < (t381.length : Int) then (if 0 ≤ (Int.tmod (rd t381 0) 3) then (if (Int.tmod (rd t381 0) 3) < (y384.length : Int) then (if 1 < (t381.length : Int) then ((spec_Decimal.f k (rd t381 1)).bind fun t390 => (if 5 + t390.size ≤ 9223372036854775807 then ((impl_SetVar.f k bt373.1 bt373.2.1 bt373.2.2 (rdOf ByteArray.empty y384 (Int.tmod (rd t381 0) 3)) ((⟨#[118,97,108,117,101]⟩ : ByteArray) ++ t390)).bind fun bt391 => (laws_FnVars.l0 k (rdOf ByteArray.empty y384 (Int.tmod (rd t381 0) 3)) ((⟨#[118,97,108,117,101]⟩ : ByteArray) ++ t390) 0 bt373.1 bt373.2.1 bt373.2.2 bt391.1 bt391.2.1 bt391.2.2)) else (none))) else (none)) else (none)) else (none)) else (none)))))) = some r:=H
 have A2:=aM A20
 clear A20
 by_cases c3 : t372 = true
 ·subst c3
  have H1 : (some true) = some r:=by rw [if_pos rfl] at H;exact H
  clear H
  have H:=H1
  clear H1
  obtain rfl:=Option.some.inj H
  go_enter Try.func9,Try.ntmps9
  go_wp2_with (first|((with_reducible refine gate_callee (f:=16) rfl ?_);refine goesL_ (some 11) rfl rfl Try.func16 (by kernel_rfl) rfl #[.slice A0 l0.length c0] rfl (by (try simp only [List.map_toArray,List.map_cons,List.map_nil]);first|done|rfl|(simp only [List.length_drop,List.length_take];rfl)) ?_;(with_reducible refine (laws_big.calls _ _ l0 true _ ?side1 ?side2 A2.out).mono ?_);(case side1 => repeat (first|exact HR0.out|(with_reducible first|refine cA ?_ _|refine cN ?_ _|refine cD ?_)));(case side2 => exact HC0.out);rintro e w' ⟨rfl,⟨nd,rfl⟩⟩;refine ⟨_,rfl,?_⟩))
  go_ret
  exact ⟨by first|rfl|(simp [errW_none,errW_some] <;> rfl)|(simp [*,errW_none,errW_some] <;> rfl),by repeat (first|(with_reducible first|exact HB.out|apply lA|apply lN|apply lD)|exact HB.out)⟩
 ·replace c3:=Bool.eq_false_iff.mpr c3
  subst c3
  have H1 : ((spec_DrawStore.f k l0).bind fun bt373 => ((spec_DrawPlaces.f k l0).bind fun t381 => ((some (([(⟨#[110]⟩ : ByteArray),(⟨#[115]⟩ : ByteArray),(⟨#[110,101,119]⟩ : ByteArray)] : List ByteArray) : List ByteArray)).bind fun y384 => (if 0 < (t381.length : Int) then (if 0 ≤ (Int.tmod (rd t381 0) 3) then (if (Int.tmod (rd t381 0) 3) < (y384.length : Int) then (if 1 < (t381.length : Int) then ((spec_Decimal.f k (rd t381 1)).bind fun t390 => (if 5 + t390.size ≤ 9223372036854775807 then ((impl_SetVar.f k bt373.1 bt373.2.1 bt373.2.2 (rdOf ByteArray.empty y384 (Int.tmod (rd t381 0) 3)) ((⟨#[118,97,108,117,101]⟩ : ByteArray) ++ t390)).bind fun bt391 => (laws_FnVars.l0 k (rdOf ByteArray.empty y384 (Int.tmod (rd t381 0) 3)) ((⟨#[118,97,108,117,101]⟩ : ByteArray) ++ t390) 0 bt373.1 bt373.2.1 bt373.2.2 bt391.1 bt391.2.1 bt391.2.2)) else (none))) else (none)) else (none)) else (none)) else (none))))) = some r:=by rw [if_neg (show ¬ (false = true) by decide)] at H;exact H
  clear H
  have H:=H1
  clear H1
  replace H:=Option.bind_eq_some_iff.mp H
  obtain ⟨⟨t373,t376,t379⟩,A40,H⟩:=H
  replace H : ((spec_DrawPlaces.f k l0).bind fun t381 => ((some (([(⟨#[110]⟩ : ByteArray),(⟨#[115]⟩ : ByteArray),(⟨#[110,101,119]⟩ : ByteArray)] : List ByteArray) : List ByteArray)).bind fun y384 => (if 0 < (t381.length : Int) then (if 0 ≤ (Int.tmod (rd t381 0) 3) then (if (Int.tmod (rd t381 0) 3) < (y384.length : Int) then (if 1 < (t381.length : Int) then ((spec_Decimal.f k (rd t381 1)).bind fun t390 => (if 5 + t390.size ≤ 9223372036854775807 then ((impl_SetVar.f k t373 t376 t379 (rdOf ByteArray.empty y384 (Int.tmod (rd t381 0) 3)) ((⟨#[118,97,108,117,101]⟩ : ByteArray) ++ t390)).bind fun bt391 => (laws_FnVars.l0 k (rdOf ByteArray.empty y384 (Int.tmod (rd t381 0) 3)) ((⟨#[118,97,108,117,101]⟩ : ByteArray) ++ t390) 0 t373 t376 t379 bt391.1 bt391.2.1 bt391.2.2)) else (none))) else (none)) else (none)) else (none)) else (none)))) = some r:=H
  have A4:=aM A40
  clear A40
  replace H:=Option.bind_eq_some_iff.mp H
  obtain ⟨t381,A50,H⟩:=H
  replace H : ((some (([(⟨#[110]⟩ : ByteArray),(⟨#[115]⟩ : ByteArray),(⟨#[110,101,119]⟩ : ByteArray)] : List ByteArray) : List ByteArray)).bind fun y384 => (if 0 < (t381.length : Int) then (if 0 ≤ (Int.tmod (rd t381 0) 3) then (if (Int.tmod (rd t381 0) 3) < (y384.length : Int) then (if 1 < (t381.length : Int) then ((spec_Decimal.f k (rd t381 1)).bind fun t390 => (if 5 + t390.size ≤ 9223372036854775807 then ((impl_SetVar.f k t373 t376 t379 (rdOf ByteArray.empty y384 (Int.tmod (rd t381 0) 3)) ((⟨#[118,97,108,117,101]⟩ : ByteArray) ++ t390)).bind fun bt391 => (laws_FnVars.l0 k (rdOf ByteArray.empty y384 (Int.tmod (rd t381 0) 3)) ((⟨#[118,97,108,117,101]⟩ : ByteArray) ++ t390) 0 t373 t376 t379 bt391.1 bt391.2.1 bt391.2.2)) else (none))) else (none)) else (none)) else (none)) else (none))) = some r:=H
  have A5:=aM A50
  clear A50
  obtain ⟨y384,hy384⟩ : ∃ y_ : List ByteArray,y_ = (([(⟨#[110]⟩ : ByteArray),(⟨#[115]⟩ : ByteArray),(⟨#[110,101,119]⟩ : ByteArray)] : List ByteArray)):=⟨_,rfl⟩
  replace H : (if 0 < (t381.length : Int) then (if 0 ≤ (Int.tmod (rd t381 0) 3) then (if (Int.tmod (rd t381 0) 3) < (y384.length : Int) then (if 1 < (t381.length : Int) then ((spec_Decimal.f k (rd t381 1)).bind fun t390 => (if 5 + t390.size ≤ 9223372036854775807 then ((impl_SetVar.f k t373 t376 t379 (rdOf ByteArray.empty y384 (Int.tmod (rd t381 0) 3)) ((⟨#[118,97,108,117,101]⟩ : ByteArray) ++ t390)).bind fun bt391 => (laws_FnVars.l0 k (rdOf ByteArray.empty y384 (Int.tmod (rd t381 0) 3)) ((⟨#[118,97,108,117,101]⟩ : ByteArray) ++ t390) 0 t373 t376 t379 bt391.1 bt391.2.1 bt391.2.2)) else (none))) else (none)) else (none)) else (none)) else (none)) = some r:=by first|(rw [hy384];with_reducible exact H)|(have H2_:=(Option.bind_some _ _).symm.trans H;rw [hy384];with_reducible exact H2_)|(have H2_:=(Option.bind_some _ _).symm.trans H;with_reducible exact H2_)|with_reducible exact H|(rw [hy384];exact H)|exact H
  have Ny384:=aM hy384
  clear hy384
  by_cases c6 : 0 < (t381.length : Int)
  ·rw [if_pos c6] at H
   have c6b0 : decide (0 < (t381.length : Int)) = true:=decide_eq_true c6
   have c6b1 : decide (0 < t381.length) = true:=decide_eq_true (by omega)
   clear c6
   obtain ⟨ji7,hji7⟩ : ∃ j_ : Int,(Int.tmod (rd t381 0) 3) = j_:=⟨_,rfl⟩
   replace H : (if 0 ≤ (ji7) then (if (ji7) < (y384.length : Int) then (if 1 < (t381.length : Int) then ((spec_Decimal.f k (rd t381 1)).bind fun t390 => (if 5 + t390.size ≤ 9223372036854775807 then ((impl_SetVar.f k t373 t376 t379 (rdOf ByteArray.empty y384 (ji7)) ((⟨#[118,97,108,117,101]⟩ : ByteArray) ++ t390)).bind fun bt391 => (laws_FnVars.l0 k (rdOf ByteArray.empty y384 (ji7)) ((⟨#[118,97,108,117,101]⟩ : ByteArray) ++ t390) 0 t373 t376 t379 bt391.1 bt391.2.1 bt391.2.2)) else (none))) else (none)) else (none)) else (none)) = some r:=by first|(rw [hji7] at H;exact H)|(simp only [hji7] at H ⊢;exact H)
   (try rw [hji7] at A2)
   (try rw [hji7] at A4)
   (try rw [hji7] at A5)
   by_cases c8 : 0 ≤ (ji7)
   ·rw [if_pos c8] at H
    have c8b0 : decide (0 ≤ (ji7)) = true:=decide_eq_true c8
    clear c8
    by_cases c9 : (ji7) < (y384.length : Int)
    ·rw [if_pos c9] at H
     have c9b0 : decide ((ji7) < (y384.length : Int)) = true:=decide_eq_true c9
     clear c9
     by_cases c10 : 1 < (t381.length : Int)
     ·rw [if_pos c10] at H
      have c10b0 : decide (1 < (t381.length : Int)) = true:=decide_eq_true c10
      have c10b1 : decide (1 < t381.length) = true:=decide_eq_true (by omega)
      clear c10
      replace H:=Option.bind_eq_some_iff.mp H
      obtain ⟨t390,A110,H⟩:=H
      replace H : (if 5 + t390.size ≤ 9223372036854775807 then ((impl_SetVar.f k t373 t376 t379 (rdOf ByteArray.empty y384 (ji7)) ((⟨#[118,97,108,117,101]⟩ : ByteArray) ++ t390)).bind fun bt391 => (laws_FnVars.l0 k (rdOf ByteArray.empty y384 (ji7)) ((⟨#[118,97,108,117,101]⟩ : ByteArray) ++ t390) 0 t373 t376 t379 bt391.1 bt391.2.1 bt391.2.2)) else (none)) = some r:=H
      have A11:=aM A110
      clear A110
      by_cases c12 : 5 + t390.size ≤ 9223372036854775807
      ·rw [if_pos c12] at H
       have c12b0:=eq_true c12
       have c12b1 : decide (5 + t390.size ≤ 9223372036854775807) = true:=decide_eq_true c12
       try have c12b2 : (9223372036854775807 < 5 + t390.size) = False:=eq_false (Nat.not_lt.2 c12)
       replace H:=Option.bind_eq_some_iff.mp H
       obtain ⟨⟨t391,t394,t397⟩,A130,H⟩:=H
       replace H : (laws_FnVars.l0 k (rdOf ByteArray.empty y384 (ji7)) ((⟨#[118,97,108,117,101]⟩ : ByteArray) ++ t390) 0 t373 t376 t379 t391 t394 t397) = some r:=H
       have A13:=aM A130
       clear A130
       have H':=aM H
       clear H
       go_enter Try.func9,Try.ntmps9
       go_wp2_with (first|((with_reducible refine gate_callee (f:=16) rfl ?_);refine goesL_ (some 11) rfl rfl Try.func16 (by kernel_rfl) rfl #[.slice A0 l0.length c0] rfl (by (try simp only [List.map_toArray,List.map_cons,List.map_nil]);first|done|rfl|(simp only [List.length_drop,List.length_take];rfl)) ?_;(with_reducible refine (laws_big.calls _ _ l0 false _ ?side1 ?side2 A2.out).mono ?_);(case side1 => repeat (first|exact HR0.out|(with_reducible first|refine cA ?_ _|refine cN ?_ _|refine cD ?_)));(case side2 => exact HC0.out);rintro e w' ⟨rfl,⟨nd,rfl⟩⟩;refine ⟨_,rfl,?_⟩)|((with_reducible refine gate_callee (f:=32) rfl ?_);refine goesL_ (some 13) rfl rfl Try.func32 (by kernel_rfl) rfl #[.slice A0 l0.length c0] rfl (by (try simp only [List.map_toArray,List.map_cons,List.map_nil]);first|done|rfl|(simp only [List.length_drop,List.length_take];rfl)) ?_;(with_reducible refine (spec_DrawStore.calls k _ _ l0 t373 t376 t379 _ ?side1 ?side2 A4.out).mono ?_);(case side1 => repeat (first|exact HR0.out|(with_reducible first|refine cA ?_ _|refine cN ?_ _|refine cD ?_)));(case side2 => exact HC0.out);rintro e w14 ⟨v374,v377,rfl,ho0,ho1,hb⟩;refine ⟨_,rfl,?_⟩;have n0_:=aM (rL ho0 (lZ (by repeat (first|(with_reducible first|exact HB.out|apply lA|apply lN|apply lD)|exact HB.out))));have n1_:=aM (rL ho1 (lZ (by repeat (first|(with_reducible first|exact HB.out|apply lA|apply lN|apply lD)|exact HB.out))));have n2_:=aM (lQ HB.out hb);clear HB;have HO375:=n0_;have HO378:=n1_;have HB:=n2_;clear n0_ n1_ n2_;(try clear hb);(try clear hb2);(try clear hk);(try clear hi);(try clear ho0);(try clear ho1))|((with_reducible refine gate_dst (N:=3) rfl ?_);(try (refine gate_guard (by rfl) ?_;dsimp only));refine box_event ?hg (N:=3) ?hd (cs:=#[.slice none 0 0,.slice none 0 0,.string (⟨#[]⟩ : ByteArray)]) (t:=38) ?hr ?_;(case hd => rfl);(case hg => rfl);(case hr => first|(go_simp;done)|(go_simp;rfl));intro gb380 hg w15 hbox hb;have n0_:=aM (rH HO375.out hb);have n1_:=aM (rH HO378.out hb);have n2_:=aM (lQ HB.out hb);have n3_:=aM (hbox);have n4_:=aM ((sQ hg HB.out : w.heap.size ≤ gb380));have n5_:=n4_;clear HO375 HO378 HB;have HO375:=n0_;have HO378:=n1_;have HB:=n2_;have BK380:=n3_;have GW380:=n4_;have GE380:=n5_;clear n0_ n1_ n2_ n3_ n4_ n5_ hb hbox hg;obtain ⟨Ao16,co16,eo16⟩:=Kd.R_slice HO375.out;subst eo16;obtain ⟨⟨hcz17_0,hcz17_1,hcz17_2⟩,hfz17_0,hfz17_1,hfz17_2⟩:=bC3 BK380.out;obtain ⟨Ao18,co18,eo18⟩:=Kd.R_slice HO378.out;subst eo18)|((with_reducible refine gate_callee (f:=33) rfl ?_);refine goesL_ (some 15) rfl rfl Try.func33 (by kernel_rfl) rfl #[.slice A0 l0.length c0] rfl (by (try simp only [List.map_toArray,List.map_cons,List.map_nil]);first|done|rfl|(simp only [List.length_drop,List.length_take];rfl)) ?_;(with_reducible refine (spec_DrawPlaces.calls k _ _ l0 t381 _ ?side1 ?side2 A5.out).mono ?_);(case side1 => exact cB HR0.out (by repeat (first|(with_reducible first|exact HB.out|apply lA|apply lN|apply lD|refine lS ?_ GE380.out)|exact HB.out)));(case side2 => exact HC0.out);rintro e w19 ⟨v382,rfl,ho0,hb⟩;refine ⟨_,rfl,?_⟩;have n0_:=aM (rB (by (with_reducible repeat (first|apply rA|apply rN|apply rD));exact (Kd.R_mono (rF (rF (rF (rY HO375.out BK380.out (by decide)) (fun _ hk => hk.2) _) (fun _ hk => hk.2) _) (fun _ hk => hk.2) _) (fun _ h_ => h_.1))) hb);have n1_:=aM (rB (by (with_reducible repeat (first|apply rA|apply rN|apply rD));exact (Kd.R_mono (rF (rF (rF (rY HO378.out BK380.out (by decide)) (fun _ hk => hk.2) _) (fun _ hk => hk.2) _) (fun _ hk => hk.2) _) (fun _ h_ => h_.1))) hb);have n2_:=aM (rL ho0 (lZ (by repeat (first|(with_reducible first|exact HB.out|apply lA|apply lN|apply lD|refine lS ?_ GE380.out)|exact HB.out))));have n3_:=aM (bB (g:=gb380) (o:=.cells #[.slice Ao16 t373.length co16,.slice Ao18 t376.length co18,.string t379] 38 (0,0)) (by (with_reducible repeat (first|refine bN ?_ _|refine bD ?_|refine bA ?_ _));refine blk_put (cs:=#[.slice Ao16 t373.length co16,.slice Ao18 t376.length co18,.string (⟨#[]⟩ : ByteArray)]) ?_ 2 _ rfl;(with_reducible repeat (first|refine bN ?_ _|refine bD ?_|refine bA ?_ _));refine blk_put (cs:=#[.slice Ao16 t373.length co16,.slice none 0 0,.string (⟨#[]⟩ : ByteArray)]) ?_ 1 _ rfl;(with_reducible repeat (first|refine bN ?_ _|refine bD ?_|refine bA ?_ _));refine blk_put (cs:=#[.slice none 0 0,.slice none 0 0,.string (⟨#[]⟩ : ByteArray)]) ?_ 0 _ rfl;(with_reducible repeat (first|refine bN ?_ _|refine bD ?_|refine bA ?_ _));exact BK380.out) hb);have n4_:=aM (lQ HB.out hb);clear HO375 HO378 BK380 HB;have HO375:=n0_;have HO378:=n1_;have HO383:=n2_;have BK380:=n3_;have HB:=n4_;clear n0_ n1_ n2_ n3_ n4_;(try clear hb);(try clear hb2);(try clear hk);(try clear hi);(try clear ho0))|((with_reducible refine gate_dst (N:=16) rfl ?_);(try (refine gate_guard (by rfl) ?_;dsimp only));refine Kd.R_lit Kd.string _ 9 ?hg (N:=16) ?hd (xs:=([(⟨#[110]⟩ : ByteArray),(⟨#[115]⟩ : ByteArray),(⟨#[110,101,119]⟩ : ByteArray)] : List ByteArray)) (inner:=[.string (⟨#[110]⟩ : ByteArray),.string (⟨#[115]⟩ : ByteArray),.string (⟨#[110,101,119]⟩ : ByteArray)]) (ok:=fun _ => True) (okp:=fun _ => True) ?hr ?hp (fun _ hk => hk) trivial (Below.refl _ _) (Nat.le_refl _) (by simp) ?_;(case hd => rfl);(case hg => rfl);(case hr => first|(go_simp;done)|(go_simp;rfl));(case hp => exact (Reps.one (show Kd.M Kd.string _ _ _ (⟨#[110]⟩ : ByteArray) [.string (⟨#[110]⟩ : ByteArray)] from rfl) (Reps.one (show Kd.M Kd.string _ _ _ (⟨#[115]⟩ : ByteArray) [.string (⟨#[115]⟩ : ByteArray)] from rfl) (Reps.one (show Kd.M Kd.string _ _ _ (⟨#[110,101,119]⟩ : ByteArray) [.string (⟨#[110,101,119]⟩ : ByteArray)] from rfl) (Reps.none _ _)))));intro v385 w20 ho21 hb hg_ hnew_;clear hg_ hnew_;(first|rw [← Ny384.out] at ho21|(simp only [Int.reduceToNat] at ho21;rw [← Ny384.out] at ho21));have n0_:=aM (rH HO375.out hb);have n1_:=aM (rH HO378.out hb);have n2_:=aM (rH HO383.out hb);have n3_:=aM (rL ho21 (lZ (by repeat (first|(with_reducible first|exact HB.out|apply lA|apply lN|apply lD|refine lS ?_ GE380.out)|exact HB.out))));have n4_:=aM (bH BK380.out hb);have n5_:=aM (lQ HB.out hb);clear HO375 HO378 HO383 BK380 HB;have HO375:=n0_;have HO378:=n1_;have HO383:=n2_;have HO386:=n3_;have BK380:=n4_;have HB:=n5_;clear n0_ n1_ n2_ n3_ n4_ n5_ hb ho21;obtain ⟨Ao22,co22,eo22⟩:=Kd.R_slice HO383.out;subst eo22;have p387 : 0 ≤ (0 : Int):=(by omega);have q387 : 0 < (t381.length : Int):=of_decide_eq_true (by first|(with_reducible assumption)|assumption);obtain ⟨ad387,e387,hx387_0⟩:=Kd.at_int (rR HO383.out).2.2 0 p387 q387;cases e387;have qi387 : (0 < t381.length) = True:=eq_true (by omega);(try rw [show ((0 : Int)).toNat = 0 from rfl] at hx387_0);(try rw [Addr.add_zero'] at hx387_0);replace p387:=eq_true p387;replace q387:=eq_true q387;obtain ⟨Ao23,co23,eo23⟩:=Kd.R_slice HO386.out;subst eo23;have p388 : 0 ≤ ((ji7) : Int):=of_decide_eq_true (by first|(with_reducible assumption)|assumption);have q388 : (ji7) < (y384.length : Int):=of_decide_eq_true (by first|(with_reducible assumption)|assumption);obtain ⟨ad388,e388,hx388_0⟩:=Kd.at_string (rR HO386.out).2.2 (ji7) p388 q388;cases e388;replace p388:=eq_true p388;replace q388:=eq_true q388;have p389 : 0 ≤ (1 : Int):=(by omega);have q389 : 1 < (t381.length : Int):=of_decide_eq_true (by first|(with_reducible assumption)|assumption);obtain ⟨ad389,e389,hx389_0⟩:=Kd.at_int (rR HO383.out).2.2 1 p389 q389;obtain rfl : ad387 = ad389:=(by injection e389);(try simp only [show (1 : Int).toNat = 1 from rfl,Nat.reduceMul,Nat.reduceEqDiff,Go.Addr.add,↓reduceIte] at hx389_0);have qi389 : (1 < t381.length) = True:=eq_true (by omega);(try rw [show ((1 : Int)).toNat = 1 from rfl] at hx389_0);replace p389:=eq_true p389;replace q389:=eq_true q389)|((with_reducible refine gate_callee (f:=34) rfl ?_);refine goesL_ (some 26) rfl rfl Try.func34 (by kernel_rfl) rfl #[.int .i64 (rd t381 1)] rfl (by (try simp only [List.map_toArray,List.map_cons,List.map_nil]);first|done|rfl|(simp only [List.length_drop,List.length_take];rfl)) ?_;(with_reducible refine (spec_Decimal.calls k (rd t381 1) t390 _ A11.out).mono ?_);rintro e w24 ⟨rfl,hb⟩;refine ⟨_,rfl,?_⟩;have n0_:=aM (rH HO375.out hb);have n1_:=aM (rH HO378.out hb);have n2_:=aM (rH HO383.out hb);have n3_:=aM (rH HO386.out hb);have n4_:=aM (bH BK380.out hb);have n5_:=aM (lQ HB.out hb);clear HO375 HO378 HO383 HO386 BK380 HB;have HO375:=n0_;have HO378:=n1_;have HO383:=n2_;have HO386:=n3_;have BK380:=n4_;have HB:=n5_;clear n0_ n1_ n2_ n3_ n4_ n5_;(try clear hb);(try clear hb2);(try clear hk);(try clear hi);obtain ⟨⟨hcz25_0,hcz25_1,hcz25_2⟩,hfz25_0,hfz25_1,hfz25_2⟩:=bC3 BK380.out)|((with_reducible refine gate_callee (f:=29) rfl ?_);refine goesL_ (some 31) rfl rfl Try.func29 (by kernel_rfl) rfl #[.agg #[.slice Ao16 t373.length co16,.slice Ao18 t376.length co18,.string t379],.string (rdOf ByteArray.empty y384 (ji7)),.string ((⟨#[118,97,108,117,101]⟩ : ByteArray) ++ t390)] rfl (by (try simp only [List.map_toArray,List.map_cons,List.map_nil]);first|done|(simp only [hji7];rfl)|rfl|(simp only [List.length_drop,List.length_take];rfl)) ?_;(with_reducible refine (impl_SetVar.calls k _ _ t373 _ _ t376 t379 (rdOf ByteArray.empty y384 (ji7)) ((⟨#[118,97,108,117,101]⟩ : ByteArray) ++ t390) t391 t394 t397 _ ?side1 ?side2 ?side3 ?side4 A13.out).mono ?_);(case side1 => repeat (first|exact (rR HO375.out).2.2|(with_reducible first|refine cA ?_ _|refine cN ?_ _|refine cD ?_)));(case side2 => exact (rR HO375.out).2.1);(case side3 => repeat (first|exact (rR HO378.out).2.2|(with_reducible first|refine cA ?_ _|refine cN ?_ _|refine cD ?_)));(case side4 => exact (rR HO378.out).2.1);rintro e w26 ⟨v392,v395,rfl,ho0,ho1,hb⟩;refine ⟨_,rfl,?_⟩;have n0_:=aM (rE (rZ HO375.out) (rS ho0) hb);have n1_:=aM (rE (rZ HO378.out) (rS ho1) hb);have n2_:=aM (rH HO383.out hb);have n3_:=aM (rH HO386.out hb);have n4_:=aM (rL (rW ho0 (rT (rZ HO375.out))) (lZ (by repeat (first|(with_reducible first|exact HB.out|apply lA|apply lN|apply lD|refine lS ?_ GE380.out)|exact HB.out))));have n5_:=aM (rL (rW ho1 (rT (rZ HO378.out))) (lZ (by repeat (first|(with_reducible first|exact HB.out|apply lA|apply lN|apply lD|refine lS ?_ GE380.out)|exact HB.out))));have n6_:=aM (bH BK380.out hb);have n7_:=aM (lQ HB.out hb);clear HO375 HO378 HO383 HO386 BK380 HB;have HO375:=n0_;have HO378:=n1_;have HO383:=n2_;have HO386:=n3_;have HO393:=n4_;have HO396:=n5_;have BK380:=n6_;have HB:=n7_;clear n0_ n1_ n2_ n3_ n4_ n5_ n6_ n7_;(try clear hb);(try clear hb2);(try clear hk);(try clear hi);(try clear ho0);(try clear ho1))|((with_reducible refine gate_dst (N:=7) rfl ?_);(try (refine gate_guard (by rfl) ?_;dsimp only));refine box_event ?hg (N:=7) ?hd (cs:=#[.slice none 0 0,.slice none 0 0,.string (⟨#[]⟩ : ByteArray)]) (t:=38) ?hr ?_;(case hd => rfl);(case hg => rfl);(case hr => first|(go_simp;done)|(go_simp;rfl));intro gb398 hg w27 hbox hb;have n0_:=aM (rH HO375.out hb);have n1_:=aM (rH HO378.out hb);have n2_:=aM (rH HO383.out hb);have n3_:=aM (rH HO386.out hb);have n4_:=aM (rH HO393.out hb);have n5_:=aM (rH HO396.out hb);have n6_:=aM (bH BK380.out hb);have n7_:=aM (lQ HB.out hb);have n8_:=aM (hbox);have n9_:=aM ((sQ hg HB.out : w.heap.size ≤ gb398));have n10_:=n9_;have n11_:=aM ((nL hg BK380.out : gb380 ≠ gb398));have n12_:=aM ((nG hg BK380.out : gb398 ≠ gb380));clear HO375 HO378 HO383 HO386 HO393 HO396 BK380 HB;have HO375:=n0_;have HO378:=n1_;have HO383:=n2_;have HO386:=n3_;have HO393:=n4_;have HO396:=n5_;have BK380:=n6_;have HB:=n7_;have BK398:=n8_;have GW398:=n9_;have GE398:=n10_;have NB380_398:=n11_;have NB398_380:=n12_;clear n0_ n1_ n2_ n3_ n4_ n5_ n6_ n7_ n8_ n9_ n10_ n11_ n12_ hb hbox hg;obtain ⟨Ao28,co28,eo28⟩:=Kd.R_slice HO393.out;subst eo28;have hnb29:=NB398_380.out;have hnc29:=NB380_398.out;obtain ⟨⟨hcz30_0,hcz30_1,hcz30_2⟩,hfz30_0,hfz30_1,hfz30_2⟩:=bC3 BK398.out;obtain ⟨Ao31,co31,eo31⟩:=Kd.R_slice HO396.out;subst eo31))
       go_loopg [8] k (fun kq v8 w' => ∃ (x8_1 : Int),v8 = .int .i64 x8_1 ∧ Aside0 (laws_FnVars.l0 kq (rdOf ByteArray.empty y384 (ji7)) ((⟨#[118,97,108,117,101]⟩ : ByteArray) ++ t390) x8_1 t373 t376 t379 t391 t394 t397 = some r) ∧ Aside0 (kq ≤ k) ∧ Aside0 (Kd.R k53 53 w' w.heap.size (fun k_ => some k_ ≠ ((.slice Ao28 t391.length co28) : Value).ownBlock) (.slice Ao16 t373.length co16) t373) ∧ Aside0 (Kd.R k57 57 w' w.heap.size (fun k_ => some k_ ≠ ((.slice Ao31 t394.length co31) : Value).ownBlock) (.slice Ao18 t376.length co18) t376) ∧ Aside0 (Kd.R k53 53 w' w.heap.size (fun k_ => some k_ ≠ ((.slice Ao16 t373.length co16) : Value).ownBlock) (.slice Ao28 t391.length co28) t391) ∧ Aside0 (Kd.R k57 57 w' w.heap.size (fun k_ => some k_ ≠ ((.slice Ao18 t376.length co18) : Value).ownBlock) (.slice Ao31 t394.length co31) t394) ∧ Aside0 (w'.heap[gb380]? = some (.cells #[(.slice Ao16 t373.length co16),(.slice Ao18 t376.length co18),.string t379] 38 (0,0))) ∧ Aside0 (w'.heap[gb398]? = some (.cells #[(.slice Ao28 t391.length co28),(.slice Ao31 t394.length co31),.string t397] 38 (0,0))) ∧ Aside0 (Below w.heap.size w w'))
       case atStart => exact ⟨(0),(by first|rfl|(simp;done)|(simp [*];done)),H',⟨Nat.le_refl _⟩,⟨by (with_reducible repeat (first|apply rA|apply rN|apply rD));exact Kd.R_mono (rF (rF (rF (rY HO375.out BK398.out (by decide)) (fun _ hk => hk.2) _) (fun _ hk => hk.2) _) (fun _ hk => hk.2) _) (fun _ hk => hk.1.2)⟩,⟨by (with_reducible repeat (first|apply rA|apply rN|apply rD));exact Kd.R_mono (rF (rF (rF (rY HO378.out BK398.out (by decide)) (fun _ hk => hk.2) _) (fun _ hk => hk.2) _) (fun _ hk => hk.2) _) (fun _ hk => hk.1.2)⟩,⟨by (with_reducible repeat (first|apply rA|apply rN|apply rD));exact Kd.R_mono (rF (rF (rF (rY HO393.out BK398.out (by decide)) (fun _ hk => hk.2) _) (fun _ hk => hk.2) _) (fun _ hk => hk.2) _) (fun _ hk => hk.1.2)⟩,⟨by (with_reducible repeat (first|apply rA|apply rN|apply rD));exact Kd.R_mono (rF (rF (rF (rY HO396.out BK398.out (by decide)) (fun _ hk => hk.2) _) (fun _ hk => hk.2) _) (fun _ hk => hk.2) _) (fun _ hk => hk.1.2)⟩,⟨by (with_reducible repeat (first|refine bN ?_ _|refine bD ?_|refine bA ?_ _));refine blk_far ?_ NB380_398.out _;(with_reducible repeat (first|refine bN ?_ _|refine bD ?_|refine bA ?_ _));refine blk_far ?_ NB380_398.out _;(with_reducible repeat (first|refine bN ?_ _|refine bD ?_|refine bA ?_ _));refine blk_far ?_ NB380_398.out _;(with_reducible repeat (first|refine bN ?_ _|refine bD ?_|refine bA ?_ _));exact BK380.out⟩,⟨by (with_reducible repeat (first|refine bN ?_ _|refine bD ?_|refine bA ?_ _));refine blk_put (cs:=#[.slice Ao28 t391.length co28,.slice Ao31 t394.length co31,.string (⟨#[]⟩ : ByteArray)]) ?_ 2 _ rfl;(with_reducible repeat (first|refine bN ?_ _|refine bD ?_|refine bA ?_ _));refine blk_put (cs:=#[.slice Ao28 t391.length co28,.slice none 0 0,.string (⟨#[]⟩ : ByteArray)]) ?_ 1 _ rfl;(with_reducible repeat (first|refine bN ?_ _|refine bD ?_|refine bA ?_ _));refine blk_put (cs:=#[.slice none 0 0,.slice none 0 0,.string (⟨#[]⟩ : ByteArray)]) ?_ 0 _ rfl;(with_reducible repeat (first|refine bN ?_ _|refine bD ?_|refine bA ?_ _));exact BK398.out⟩,⟨by repeat (first|(with_reducible first|exact HB.out|apply lA|apply lN|apply lD|refine lS ?_ GE380.out|refine lS ?_ GE398.out)|exact HB.out)⟩⟩
       case round =>
        clear H'
        try clear c1
        try clear c2
        try clear p2
        try clear c3
        try clear p3
        try clear q3
        try clear hx3
        try clear qi3
        try clear c6
        try clear c6b0
        try clear c6b1
        try clear c8
        try clear c8b0
        try clear c9
        try clear c9b0
        try clear c10
        try clear c10b0
        try clear c10b1
        try clear c12
        try clear c12b0
        try clear c12b1
        try clear c12b2
        try clear c16
        try clear c29
        try clear hcz17_0
        try clear hcz17_1
        try clear hcz17_2
        try clear hcz25_0
        try clear hcz25_1
        try clear hcz25_2
        try clear hcz30_0
        try clear hcz30_1
        try clear hcz30_2
        try clear hx387_0
        try clear hx388_0
        try clear hx389_0
        try clear p387
        try clear p388
        try clear p389
        try clear q387
        try clear q388
        try clear q389
        obtain ⟨x8_1,rfl,HA,HK1,HO_381000,HO_381001,HO_399000,HO_399001,BK380,BK398,HB⟩:=hrel
        cases gk with
        |zero => exact absurd HA.out (by simp [laws_FnVars.l0])
        |succ k1 =>
         have H:=HA.out
         clear HA
         simp only [laws_FnVars.l0] at H
         by_cases c32 : x8_1 < (t373.length : Int)
         ·rw [if_pos c32] at H
          have c32b0 : decide (x8_1 < (t373.length : Int)) = true:=decide_eq_true c32
          clear c32
          by_cases c33 : 0 ≤ x8_1
          ·rw [if_pos c33] at H
           have c33b0 : decide (0 ≤ x8_1) = true:=decide_eq_true c33
           clear c33
           by_cases c34 : ((rd_T53 t373 x8_1).f0).toList = (rdOf ByteArray.empty y384 (ji7)).toList
           ·rw [if_pos c34] at H
            have c34b0 : (((rd_T53 t373 x8_1).f0).toList == (rdOf ByteArray.empty y384 (ji7)).toList) = true:=beq_iff_eq.mpr c34
            have c34b1 : (((rd_T53 t373 x8_1).f0).toList != (rdOf ByteArray.empty y384 (ji7)).toList) = false:=bne_eq_false_iff_eq.mpr c34
            clear c34
            have H':=aM H
            clear H
            have hnb35:=NB380_398.out
            have hnc35:=NB398_380.out
            obtain ⟨⟨hcz36_0,hcz36_1,hcz36_2⟩,hfz36_0,hfz36_1,hfz36_2⟩:=bC3 BK380.out
            try go_wp2
            have n0_:=aM (rD HO_381000.out)
            have n1_:=aM (rD HO_381001.out)
            have n2_:=aM (rD HO_399000.out)
            have n3_:=aM (rD HO_399001.out)
            have n4_:=aM (bD BK380.out)
            have n5_:=aM (bD BK398.out)
            have n6_:=aM (lD HB.out)
            clear HO_381000
            clear HO_381001
            clear HO_399000
            clear HO_399001
            clear BK380
            clear BK398
            clear HB
            have HO_381000:=n0_
            have HO_381001:=n1_
            have HO_399000:=n2_
            have HO_399001:=n3_
            have BK380:=n4_
            have BK398:=n5_
            have HB:=n6_
            clear n0_ n1_ n2_ n3_ n4_ n5_ n6_
            have p399 : 0 ≤ (x8_1 : Int):=of_decide_eq_true (by first|(with_reducible assumption)|assumption)
            have q399 : x8_1 < (t373.length : Int):=of_decide_eq_true (by first|(with_reducible assumption)|assumption)
            obtain ⟨ad399,e399,hx399_0,hx399_1⟩:=at_T53 (rR HO_381000.out).2.2 x8_1 p399 q399
            cases e399
            replace p399:=eq_true p399
            replace q399:=eq_true q399
            refine start_ (n:=25) (S:=fun w' => w'.cell? ⟨gb380,0,none⟩ = some (.slice (some ad399) t373.length co16) ∧ w'.cell? ⟨gb380,1,none⟩ = some (.slice Ao18 t376.length co18) ∧ w'.cell? ⟨gb380,2,none⟩ = some (.string t379) ∧ w'.cell? (ad399.add ((x8_1).toNat * 2)) = some (.string ((rd_T53 t373 x8_1).f0)) ∧ w'.cell? ⟨(ad399.add ((x8_1).toNat * 2)).block,(ad399.add ((x8_1).toNat * 2)).off + 1,none⟩ = some (.string ((rd_T53 t373 x8_1).f1))) (ds:=[]) #[bf,bf,bf,bf,bf,bf,bf,bf,bf,bf,bf,bf,bf,bf,bf,bf,bf,bf,bf,bf,bf,bf,bf,bf,bf] (by kernel_rfl) rfl rfl ⟨(bC BK380.out 0).trans rfl,(bC BK380.out 1).trans rfl,(bC BK380.out 2).trans rfl,hx399_0,hx399_1⟩ (fun hHeld => ?_);refine with_tabW laws_FnVars.tab11 laws_FnVars.bits11 (fun HT_ HW_ => ?_)
            generalize wr.drew = w37 at HO_381000 HO_381001 HO_399000 HO_399001 BK380 BK398 HB hx399_0 hx399_1 hHeld ⊢
            refine pQ (i:=0) (N:=some 39) (v:=?_) (a':=?_) #[bT,bf,bf,bf,bf,bf,bf,bf,bf,bf,bf,bf,bf,bf,bf,bf,bf,bf,bf,bf,bf,bf,bf,bf,bf] (any_of HT_.out (by kernel_rfl)) ?_ ?_ ?_
            rotate_left
            ·intro w';go_simp;with_reducible rfl
            rotate_left
            ·simp only [Act.put,q_ia11,q_cz11,q_cs11,i64_w,i32_w];rfl
            refine pQ (i:=2) (N:=some 41) (v:=?_) (a':=?_) #[bT,bf,bT,bf,bf,bf,bf,bf,bf,bf,bf,bf,bf,bf,bf,bf,bf,bf,bf,bf,bf,bf,bf,bf,bf] (any_of HT_.out (by kernel_rfl)) ?_ ?_ ?_
            rotate_left
            ·intro w';go_simp;with_reducible rfl
            rotate_left
            ·simp only [Act.put,q_ia11,q_cz11,q_cs11,i64_w,i32_w];rfl
            refine pQ (i:=6) (N:=some 45) (v:=?_) (a':=?_) #[bT,bf,bT,bf,bf,bf,bT,bf,bf,bf,bf,bf,bf,bf,bf,bf,bf,bf,bf,bf,bf,bf,bf,bf,bf] (any_of HT_.out (by kernel_rfl)) ?_ ?_ ?_
            rotate_left
            ·intro w';go_simp;with_reducible rfl
            rotate_left
            ·simp only [Act.put,q_ia11,q_cz11,q_cs11,i64_w,i32_w];rfl
            refine take_ (i:=1) (N:=some 40) (v:=?_) (a':=?_) #[bT,bT,bT,bf,bf,bf,bT,bf,bf,bf,bf,bf,bf,bf,bf,bf,bf,bf,bf,bf,bf,bf,bf,bf,bf] rfl rfl (take_ofW HT_.out HW_.out (by kernel_rfl)) (fun _ _ _ h => h) (Or.inl ⟨by rfl,?_⟩) hHeld ?_ ?_
            rotate_left
            ·rintro w' ⟨s0,s1,s2,s3,s4⟩
             go_simp
             with_reducible rfl
            rotate_left
            ·simp only [Act.put,q_ia11,q_cz11,q_cs11,i64_w,i32_w];rfl
            refine pQ (i:=3) (N:=some 42) (v:=?_) (a':=?_) #[bT,bT,bT,bT,bf,bf,bT,bf,bf,bf,bf,bf,bf,bf,bf,bf,bf,bf,bf,bf,bf,bf,bf,bf,bf] (any_of HT_.out (by kernel_rfl)) ?_ ?_ ?_
            rotate_left
            ·intro w';go_simp;with_reducible rfl
            rotate_left
            ·simp only [Act.put,q_ia11,q_cz11,q_cs11,i64_w,i32_w];rfl
            refine pQ (i:=4) (N:=some 43) (v:=?_) (a':=?_) #[bT,bT,bT,bT,bT,bf,bT,bf,bf,bf,bf,bf,bf,bf,bf,bf,bf,bf,bf,bf,bf,bf,bf,bf,bf] (any_of HT_.out (by kernel_rfl)) ?_ ?_ ?_
            rotate_left
            ·intro w';go_simp;with_reducible rfl
            rotate_left
            ·simp only [Act.put,q_ia11,q_cz11,q_cs11,i64_w,i32_w];rfl
            refine take_ (i:=5) (N:=some 44) (v:=?_) (a':=?_) #[bT,bT,bT,bT,bT,bT,bT,bf,bf,bf,bf,bf,bf,bf,bf,bf,bf,bf,bf,bf,bf,bf,bf,bf,bf] rfl rfl (take_ofW HT_.out HW_.out (by kernel_rfl)) (fun _ _ _ h => h) (Or.inl ⟨by rfl,?_⟩) hHeld ?_ ?_
            rotate_left
            ·rintro w' ⟨s0,s1,s2,s3,s4⟩
             go_simp
             with_reducible rfl
            rotate_left
            ·simp only [Act.put,q_ia11,q_cz11,q_cs11,i64_w,i32_w];rfl
            refine pQ (i:=7) (N:=some 46) (v:=?_) (a':=?_) #[bT,bT,bT,bT,bT,bT,bT,bT,bf,bf,bf,bf,bf,bf,bf,bf,bf,bf,bf,bf,bf,bf,bf,bf,bf] (any_of HT_.out (by kernel_rfl)) ?_ ?_ ?_
            rotate_left
            ·intro w';go_simp;with_reducible rfl
            rotate_left
            ·simp only [Act.put,q_ia11,q_cz11,q_cs11,i64_w,i32_w];rfl
            refine pQ (i:=8) (N:=some 47) (v:=?_) (a':=?_) #[bT,bT,bT,bT,bT,bT,bT,bT,bT,bf,bf,bf,bf,bf,bf,bf,bf,bf,bf,bf,bf,bf,bf,bf,bf] (any_of HT_.out (by kernel_rfl)) ?_ ?_ ?_
            rotate_left
            ·intro w';go_simp;with_reducible rfl
            rotate_left
            ·simp only [Act.put,q_ia11,q_cz11,q_cs11,i64_w,i32_w];rfl
            refine pure_ (i:=9) (N:=some 48) (v:=undef) (a':=?_) #[bT,bT,bT,bT,bT,bT,bT,bT,bT,bT,bf,bf,bf,bf,bf,bf,bf,bf,bf,bf,bf,bf,bf,bf,bf] rfl rfl (any_of HT_.out (by kernel_rfl)) (fun _ _ _ h => h) (Or.inr ⟨by rfl,rfl⟩) ?_ ?_
            rotate_left
            ·simp only [Act.put,q_ia11,q_cz11,q_cs11,i64_w,i32_w];rfl
            refine pure_ (i:=10) (N:=some 49) (v:=undef) (a':=?_) #[bT,bT,bT,bT,bT,bT,bT,bT,bT,bT,bT,bf,bf,bf,bf,bf,bf,bf,bf,bf,bf,bf,bf,bf,bf] rfl rfl (any_of HT_.out (by kernel_rfl)) (fun _ _ _ h => h) (Or.inr ⟨by rfl,rfl⟩) ?_ ?_
            rotate_left
            ·simp only [Act.put,q_ia11,q_cz11,q_cs11,i64_w,i32_w];rfl
            refine pure_ (i:=11) (N:=some 50) (v:=undef) (a':=?_) #[bT,bT,bT,bT,bT,bT,bT,bT,bT,bT,bT,bT,bf,bf,bf,bf,bf,bf,bf,bf,bf,bf,bf,bf,bf] rfl rfl (any_of HT_.out (by kernel_rfl)) (fun _ _ _ h => h) (Or.inr ⟨by rfl,rfl⟩) ?_ ?_
            rotate_left
            ·simp only [Act.put,q_ia11,q_cz11,q_cs11,i64_w,i32_w];rfl
            refine pure_ (i:=12) (N:=some 51) (v:=undef) (a':=?_) #[bT,bT,bT,bT,bT,bT,bT,bT,bT,bT,bT,bT,bT,bf,bf,bf,bf,bf,bf,bf,bf,bf,bf,bf,bf] rfl rfl (any_of HT_.out (by kernel_rfl)) (fun _ _ _ h => h) (Or.inr ⟨by rfl,rfl⟩) ?_ ?_
            rotate_left
            ·simp only [Act.put,q_ia11,q_cz11,q_cs11,i64_w,i32_w];rfl
            refine pure_ (i:=13) (N:=some 52) (v:=undef) (a':=?_) #[bT,bT,bT,bT,bT,bT,bT,bT,bT,bT,bT,bT,bT,bT,bf,bf,bf,bf,bf,bf,bf,bf,bf,bf,bf] rfl rfl (any_of HT_.out (by kernel_rfl)) (fun _ _ _ h => h) (Or.inr ⟨by rfl,rfl⟩) ?_ ?_
            rotate_left
            ·simp only [Act.put,q_ia11,q_cz11,q_cs11,i64_w,i32_w];rfl
            refine pure_ (i:=14) (N:=some 53) (v:=undef) (a':=?_) #[bT,bT,bT,bT,bT,bT,bT,bT,bT,bT,bT,bT,bT,bT,bT,bf,bf,bf,bf,bf,bf,bf,bf,bf,bf] rfl rfl (any_of HT_.out (by kernel_rfl)) (fun _ _ _ h => h) (Or.inr ⟨by rfl,rfl⟩) ?_ ?_
            rotate_left
            ·simp only [Act.put,q_ia11,q_cz11,q_cs11,i64_w,i32_w];rfl
            refine pure_ (i:=15) (N:=some 54) (v:=undef) (a':=?_) #[bT,bT,bT,bT,bT,bT,bT,bT,bT,bT,bT,bT,bT,bT,bT,bT,bf,bf,bf,bf,bf,bf,bf,bf,bf] rfl rfl (any_of HT_.out (by kernel_rfl)) (fun _ _ _ h => h) (Or.inr ⟨by rfl,rfl⟩) ?_ ?_
            rotate_left
            ·simp only [Act.put,q_ia11,q_cz11,q_cs11,i64_w,i32_w];rfl
            refine pure_ (i:=16) (N:=some 55) (v:=undef) (a':=?_) #[bT,bT,bT,bT,bT,bT,bT,bT,bT,bT,bT,bT,bT,bT,bT,bT,bT,bf,bf,bf,bf,bf,bf,bf,bf] rfl rfl (any_of HT_.out (by kernel_rfl)) (fun _ _ _ h => h) (Or.inr ⟨by rfl,rfl⟩) ?_ ?_
            rotate_left
            ·simp only [Act.put,q_ia11,q_cz11,q_cs11,i64_w,i32_w];rfl
            refine pure_ (i:=17) (N:=some 56) (v:=undef) (a':=?_) #[bT,bT,bT,bT,bT,bT,bT,bT,bT,bT,bT,bT,bT,bT,bT,bT,bT,bT,bf,bf,bf,bf,bf,bf,bf] rfl rfl (any_of HT_.out (by kernel_rfl)) (fun _ _ _ h => h) (Or.inr ⟨by rfl,rfl⟩) ?_ ?_
            rotate_left
            ·simp only [Act.put,q_ia11,q_cz11,q_cs11,i64_w,i32_w];rfl
            refine pure_ (i:=18) (N:=some 57) (v:=undef) (a':=?_) #[bT,bT,bT,bT,bT,bT,bT,bT,bT,bT,bT,bT,bT,bT,bT,bT,bT,bT,bT,bf,bf,bf,bf,bf,bf] rfl rfl (any_of HT_.out (by kernel_rfl)) (fun _ _ _ h => h) (Or.inr ⟨by rfl,rfl⟩) ?_ ?_
            rotate_left
            ·simp only [Act.put,q_ia11,q_cz11,q_cs11,i64_w,i32_w];rfl
            refine pure_ (i:=19) (N:=some 58) (v:=undef) (a':=?_) #[bT,bT,bT,bT,bT,bT,bT,bT,bT,bT,bT,bT,bT,bT,bT,bT,bT,bT,bT,bT,bf,bf,bf,bf,bf] rfl rfl (any_of HT_.out (by kernel_rfl)) (fun _ _ _ h => h) (Or.inr ⟨by rfl,rfl⟩) ?_ ?_
            rotate_left
            ·simp only [Act.put,q_ia11,q_cz11,q_cs11,i64_w,i32_w];rfl
            refine pure_ (i:=20) (N:=some 59) (v:=undef) (a':=?_) #[bT,bT,bT,bT,bT,bT,bT,bT,bT,bT,bT,bT,bT,bT,bT,bT,bT,bT,bT,bT,bT,bf,bf,bf,bf] rfl rfl (any_of HT_.out (by kernel_rfl)) (fun _ _ _ h => h) (Or.inr ⟨by rfl,rfl⟩) ?_ ?_
            rotate_left
            ·simp only [Act.put,q_ia11,q_cz11,q_cs11,i64_w,i32_w];rfl
            refine pure_ (i:=21) (N:=some 60) (v:=undef) (a':=?_) #[bT,bT,bT,bT,bT,bT,bT,bT,bT,bT,bT,bT,bT,bT,bT,bT,bT,bT,bT,bT,bT,bT,bf,bf,bf] rfl rfl (any_of HT_.out (by kernel_rfl)) (fun _ _ _ h => h) (Or.inr ⟨by rfl,rfl⟩) ?_ ?_
            rotate_left
            ·simp only [Act.put,q_ia11,q_cz11,q_cs11,i64_w,i32_w];rfl
            refine pure_ (i:=22) (N:=some 61) (v:=undef) (a':=?_) #[bT,bT,bT,bT,bT,bT,bT,bT,bT,bT,bT,bT,bT,bT,bT,bT,bT,bT,bT,bT,bT,bT,bT,bf,bf] rfl rfl (any_of HT_.out (by kernel_rfl)) (fun _ _ _ h => h) (Or.inr ⟨by rfl,rfl⟩) ?_ ?_
            rotate_left
            ·simp only [Act.put,q_ia11,q_cz11,q_cs11,i64_w,i32_w];rfl
            refine pure_ (i:=23) (N:=some 62) (v:=undef) (a':=?_) #[bT,bT,bT,bT,bT,bT,bT,bT,bT,bT,bT,bT,bT,bT,bT,bT,bT,bT,bT,bT,bT,bT,bT,bT,bf] rfl rfl (any_of HT_.out (by kernel_rfl)) (fun _ _ _ h => h) (Or.inr ⟨by rfl,rfl⟩) ?_ ?_
            rotate_left
            ·simp only [Act.put,q_ia11,q_cz11,q_cs11,i64_w,i32_w];rfl
            refine pQ (i:=24) (N:=some 63) (v:=?_) (a':=?_) #[bT,bT,bT,bT,bT,bT,bT,bT,bT,bT,bT,bT,bT,bT,bT,bT,bT,bT,bT,bT,bT,bT,bT,bT,bT] (any_of HT_.out (by kernel_rfl)) ?_ ?_ ?_
            rotate_left
            ·intro w';go_simp;with_reducible rfl
            rotate_left
            ·simp only [Act.put,q_ia11,q_cz11,q_cs11,i64_w,i32_w];rfl
            refine done_ (done_of HT_.out (by kernel_rfl)) ?_
            try go_wp2
            go_roundg k1
            case measure => have:=HK1.out;omega
            case rel => exact ⟨(wrap64 (x8_1 + 1)),(by first|rfl|(simp;done)|(simp [*];done)),H',⟨by have:=HK1.out;omega⟩,⟨by (with_reducible repeat (first|apply rA|apply rN|apply rD));exact HO_381000.out⟩,⟨by (with_reducible repeat (first|apply rA|apply rN|apply rD));exact HO_381001.out⟩,⟨by (with_reducible repeat (first|apply rA|apply rN|apply rD));exact HO_399000.out⟩,⟨by (with_reducible repeat (first|apply rA|apply rN|apply rD));exact HO_399001.out⟩,⟨by (with_reducible repeat (first|refine bN ?_ _|refine bD ?_|refine bA ?_ _));exact BK380.out⟩,⟨by (with_reducible repeat (first|refine bN ?_ _|refine bD ?_|refine bA ?_ _));exact BK398.out⟩,⟨by repeat (first|(with_reducible first|exact HB.out|apply lA|apply lN|apply lD|refine lS ?_ GE380.out|refine lS ?_ GE398.out)|exact HB.out)⟩⟩
           ·rw [if_neg c34] at H
            have c34b0 : (((rd_T53 t373 x8_1).f0).toList == (rdOf ByteArray.empty y384 (ji7)).toList) = false:=beq_eq_false_iff_ne.mpr c34
            have c34b1 : (((rd_T53 t373 x8_1).f0).toList != (rdOf ByteArray.empty y384 (ji7)).toList) = true:=bne_iff_ne.mpr c34
            replace H:=Option.bind_eq_some_iff.mp H
            obtain ⟨t401,A380,H⟩:=H
            replace H : (if t401.toList = ((rd_T53 t373 x8_1).f1).toList then (laws_FnVars.l0 k1 (rdOf ByteArray.empty y384 (ji7)) ((⟨#[118,97,108,117,101]⟩ : ByteArray) ++ t390) (wrap64 (x8_1 + 1)) t373 t376 t379 t391 t394 t397) else (some false)) = some r:=H
            have A38:=aM A380
            clear A380
            by_cases c39 : t401.toList = ((rd_T53 t373 x8_1).f1).toList
            ·rw [if_pos c39] at H
             have c39b0 : (t401.toList == ((rd_T53 t373 x8_1).f1).toList) = true:=beq_iff_eq.mpr c39
             have c39b1 : (t401.toList != ((rd_T53 t373 x8_1).f1).toList) = false:=bne_eq_false_iff_eq.mpr c39
             clear c39
             have H':=aM H
             clear H
             have hnb40:=NB380_398.out
             have hnc40:=NB398_380.out
             obtain ⟨⟨hcz41_0,hcz41_1,hcz41_2⟩,hfz41_0,hfz41_1,hfz41_2⟩:=bC3 BK380.out
             try go_wp2
             have n0_:=aM (rD HO_381000.out)
             have n1_:=aM (rD HO_381001.out)
             have n2_:=aM (rD HO_399000.out)
             have n3_:=aM (rD HO_399001.out)
             have n4_:=aM (bD BK380.out)
             have n5_:=aM (bD BK398.out)
             have n6_:=aM (lD HB.out)
             clear HO_381000
             clear HO_381001
             clear HO_399000
             clear HO_399001
             clear BK380
             clear BK398
             clear HB
             have HO_381000:=n0_
             have HO_381001:=n1_
             have HO_399000:=n2_
             have HO_399001:=n3_
             have BK380:=n4_
             have BK398:=n5_
             have HB:=n6_
             clear n0_ n1_ n2_ n3_ n4_ n5_ n6_
             have p399 : 0 ≤ (x8_1 : Int):=of_decide_eq_true (by first|(with_reducible assumption)|assumption)
             have q399 : x8_1 < (t373.length : Int):=of_decide_eq_true (by first|(with_reducible assumption)|assumption)
             obtain ⟨ad399,e399,hx399_0,hx399_1⟩:=at_T53 (rR HO_381000.out).2.2 x8_1 p399 q399
             cases e399
             replace p399:=eq_true p399
             replace q399:=eq_true q399
             have p400 : 0 ≤ (x8_1 : Int):=of_decide_eq_true (by first|(with_reducible assumption)|assumption)
             have q400 : x8_1 < (t373.length : Int):=of_decide_eq_true (by first|(with_reducible assumption)|assumption)
             obtain ⟨ad400,e400,hx400_0,hx400_1⟩:=at_T53 (rR HO_381000.out).2.2 x8_1 p400 q400
             obtain rfl : ad399 = ad400:=(by injection e400)
             replace p400:=eq_true p400
             replace q400:=eq_true q400
             have p402 : 0 ≤ (x8_1 : Int):=of_decide_eq_true (by first|(with_reducible assumption)|assumption)
             have q402 : x8_1 < (t373.length : Int):=of_decide_eq_true (by first|(with_reducible assumption)|assumption)
             obtain ⟨ad402,e402,hx402_0,hx402_1⟩:=at_T53 (rR HO_381000.out).2.2 x8_1 p402 q402
             obtain rfl : ad399 = ad402:=(by injection e402)
             replace p402:=eq_true p402
             replace q402:=eq_true q402
             refine start_ (n:=25) (S:=fun w' => w'.cell? ⟨gb380,0,none⟩ = some (.slice (some ad399) t373.length co16) ∧ w'.cell? ⟨gb380,1,none⟩ = some (.slice Ao18 t376.length co18) ∧ w'.cell? ⟨gb380,2,none⟩ = some (.string t379) ∧ w'.cell? ⟨gb398,0,none⟩ = some (.slice Ao28 t391.length co28) ∧ w'.cell? ⟨gb398,1,none⟩ = some (.slice Ao31 t394.length co31) ∧ w'.cell? ⟨gb398,2,none⟩ = some (.string t397) ∧ w'.cell? (ad399.add ((x8_1).toNat * 2)) = some (.string ((rd_T53 t373 x8_1).f0)) ∧ w'.cell? ⟨(ad399.add ((x8_1).toNat * 2)).block,(ad399.add ((x8_1).toNat * 2)).off + 1,none⟩ = some (.string ((rd_T53 t373 x8_1).f1)) ∧ w'.cell? (ad399.add ((x8_1).toNat * 2)) = some (.string ((rd_T53 t373 x8_1).f0)) ∧ w'.cell? ⟨(ad399.add ((x8_1).toNat * 2)).block,(ad399.add ((x8_1).toNat * 2)).off + 1,none⟩ = some (.string ((rd_T53 t373 x8_1).f1)) ∧ w'.cell? (ad399.add ((x8_1).toNat * 2)) = some (.string ((rd_T53 t373 x8_1).f0)) ∧ w'.cell? ⟨(ad399.add ((x8_1).toNat * 2)).block,(ad399.add ((x8_1).toNat * 2)).off + 1,none⟩ = some (.string ((rd_T53 t373 x8_1).f1))) (ds:=[]) #[bf,bf,bf,bf,bf,bf,bf,bf,bf,bf,bf,bf,bf,bf,bf,bf,bf,bf,bf,bf,bf,bf,bf,bf,bf] (by kernel_rfl) rfl rfl ⟨(bC BK380.out 0).trans rfl,(bC BK380.out 1).trans rfl,(bC BK380.out 2).trans rfl,(bC BK398.out 0).trans rfl,(bC BK398.out 1).trans rfl,(bC BK398.out 2).trans rfl,hx399_0,hx399_1,hx400_0,hx400_1,hx402_0,hx402_1⟩ (fun hHeld => ?_);refine with_tabW laws_FnVars.tab11 laws_FnVars.bits11 (fun HT_ HW_ => ?_)
             generalize wr.drew = w42 at HO_381000 HO_381001 HO_399000 HO_399001 BK380 BK398 HB hx399_0 hx399_1 hx400_0 hx400_1 hx402_0 hx402_1 hHeld ⊢
             refine pQ (i:=0) (N:=some 39) (v:=?_) (a':=?_) #[bT,bf,bf,bf,bf,bf,bf,bf,bf,bf,bf,bf,bf,bf,bf,bf,bf,bf,bf,bf,bf,bf,bf,bf,bf] (any_of HT_.out (by kernel_rfl)) ?_ ?_ ?_
             rotate_left
             ·intro w';go_simp;with_reducible rfl
             rotate_left
             ·simp only [Act.put,q_ia11,q_cz11,q_cs11,i64_w,i32_w];rfl
             refine pQ (i:=2) (N:=some 41) (v:=?_) (a':=?_) #[bT,bf,bT,bf,bf,bf,bf,bf,bf,bf,bf,bf,bf,bf,bf,bf,bf,bf,bf,bf,bf,bf,bf,bf,bf] (any_of HT_.out (by kernel_rfl)) ?_ ?_ ?_
             rotate_left
             ·intro w';go_simp;with_reducible rfl
             rotate_left
             ·simp only [Act.put,q_ia11,q_cz11,q_cs11,i64_w,i32_w];rfl
             refine pQ (i:=6) (N:=some 45) (v:=?_) (a':=?_) #[bT,bf,bT,bf,bf,bf,bT,bf,bf,bf,bf,bf,bf,bf,bf,bf,bf,bf,bf,bf,bf,bf,bf,bf,bf] (any_of HT_.out (by kernel_rfl)) ?_ ?_ ?_
             rotate_left
             ·intro w';go_simp;with_reducible rfl
             rotate_left
             ·simp only [Act.put,q_ia11,q_cz11,q_cs11,i64_w,i32_w];rfl
             refine take_ (i:=1) (N:=some 40) (v:=?_) (a':=?_) #[bT,bT,bT,bf,bf,bf,bT,bf,bf,bf,bf,bf,bf,bf,bf,bf,bf,bf,bf,bf,bf,bf,bf,bf,bf] rfl rfl (take_ofW HT_.out HW_.out (by kernel_rfl)) (fun _ _ _ h => h) (Or.inl ⟨by rfl,?_⟩) hHeld ?_ ?_
             rotate_left
             ·rintro w' ⟨s0,s1,s2,s3,s4,s5,s6,s7,s8,s9,s10,s11⟩
              go_simp
              with_reducible rfl
             rotate_left
             ·simp only [Act.put,q_ia11,q_cz11,q_cs11,i64_w,i32_w];rfl
             refine pQ (i:=3) (N:=some 42) (v:=?_) (a':=?_) #[bT,bT,bT,bT,bf,bf,bT,bf,bf,bf,bf,bf,bf,bf,bf,bf,bf,bf,bf,bf,bf,bf,bf,bf,bf] (any_of HT_.out (by kernel_rfl)) ?_ ?_ ?_
             rotate_left
             ·intro w';go_simp;with_reducible rfl
             rotate_left
             ·simp only [Act.put,q_ia11,q_cz11,q_cs11,i64_w,i32_w];rfl
             refine pQ (i:=4) (N:=some 43) (v:=?_) (a':=?_) #[bT,bT,bT,bT,bT,bf,bT,bf,bf,bf,bf,bf,bf,bf,bf,bf,bf,bf,bf,bf,bf,bf,bf,bf,bf] (any_of HT_.out (by kernel_rfl)) ?_ ?_ ?_
             rotate_left
             ·intro w';go_simp;with_reducible rfl
             rotate_left
             ·simp only [Act.put,q_ia11,q_cz11,q_cs11,i64_w,i32_w];rfl
             refine take_ (i:=5) (N:=some 44) (v:=?_) (a':=?_) #[bT,bT,bT,bT,bT,bT,bT,bf,bf,bf,bf,bf,bf,bf,bf,bf,bf,bf,bf,bf,bf,bf,bf,bf,bf] rfl rfl (take_ofW HT_.out HW_.out (by kernel_rfl)) (fun _ _ _ h => h) (Or.inl ⟨by rfl,?_⟩) hHeld ?_ ?_
             rotate_left
             ·rintro w' ⟨s0,s1,s2,s3,s4,s5,s6,s7,s8,s9,s10,s11⟩
              go_simp
              with_reducible rfl
             rotate_left
             ·simp only [Act.put,q_ia11,q_cz11,q_cs11,i64_w,i32_w];rfl
             refine pQ (i:=7) (N:=some 46) (v:=?_) (a':=?_) #[bT,bT,bT,bT,bT,bT,bT,bT,bf,bf,bf,bf,bf,bf,bf,bf,bf,bf,bf,bf,bf,bf,bf,bf,bf] (any_of HT_.out (by kernel_rfl)) ?_ ?_ ?_
             rotate_left
             ·intro w';go_simp;with_reducible rfl
             rotate_left
             ·simp only [Act.put,q_ia11,q_cz11,q_cs11,i64_w,i32_w];rfl
             refine pQ (i:=8) (N:=some 47) (v:=?_) (a':=?_) #[bT,bT,bT,bT,bT,bT,bT,bT,bT,bf,bf,bf,bf,bf,bf,bf,bf,bf,bf,bf,bf,bf,bf,bf,bf] (any_of HT_.out (by kernel_rfl)) ?_ ?_ ?_
             rotate_left
             ·intro w';go_simp;with_reducible rfl
             rotate_left
             ·simp only [Act.put,q_ia11,q_cz11,q_cs11,i64_w,i32_w];rfl
             refine pQ (i:=10) (N:=some 49) (v:=?_) (a':=?_) #[bT,bT,bT,bT,bT,bT,bT,bT,bT,bf,bT,bf,bf,bf,bf,bf,bf,bf,bf,bf,bf,bf,bf,bf,bf] (any_of HT_.out (by kernel_rfl)) ?_ ?_ ?_
             rotate_left
             ·intro w';go_simp;with_reducible rfl
             rotate_left
             ·simp only [Act.put,q_ia11,q_cz11,q_cs11,i64_w,i32_w];rfl
             refine pQ (i:=12) (N:=some 51) (v:=?_) (a':=?_) #[bT,bT,bT,bT,bT,bT,bT,bT,bT,bf,bT,bf,bT,bf,bf,bf,bf,bf,bf,bf,bf,bf,bf,bf,bf] (any_of HT_.out (by kernel_rfl)) ?_ ?_ ?_
             rotate_left
             ·intro w';go_simp;with_reducible rfl
             rotate_left
             ·simp only [Act.put,q_ia11,q_cz11,q_cs11,i64_w,i32_w];rfl
             refine pQ (i:=17) (N:=some 56) (v:=?_) (a':=?_) #[bT,bT,bT,bT,bT,bT,bT,bT,bT,bf,bT,bf,bT,bf,bf,bf,bf,bT,bf,bf,bf,bf,bf,bf,bf] (any_of HT_.out (by kernel_rfl)) ?_ ?_ ?_
             rotate_left
             ·intro w';go_simp;with_reducible rfl
             rotate_left
             ·simp only [Act.put,q_ia11,q_cz11,q_cs11,i64_w,i32_w];rfl
             refine pQ (i:=19) (N:=some 58) (v:=?_) (a':=?_) #[bT,bT,bT,bT,bT,bT,bT,bT,bT,bf,bT,bf,bT,bf,bf,bf,bf,bT,bf,bT,bf,bf,bf,bf,bf] (any_of HT_.out (by kernel_rfl)) ?_ ?_ ?_
             rotate_left
             ·intro w';go_simp;with_reducible rfl
             rotate_left
             ·simp only [Act.put,q_ia11,q_cz11,q_cs11,i64_w,i32_w];rfl
             refine take_ (i:=9) (N:=some 48) (v:=?_) (a':=?_) #[bT,bT,bT,bT,bT,bT,bT,bT,bT,bT,bT,bf,bT,bf,bf,bf,bf,bT,bf,bT,bf,bf,bf,bf,bf] rfl rfl (take_ofW HT_.out HW_.out (by kernel_rfl)) (fun _ _ _ h => h) (Or.inl ⟨by rfl,?_⟩) hHeld ?_ ?_
             rotate_left
             ·rintro w' ⟨s0,s1,s2,s3,s4,s5,s6,s7,s8,s9,s10,s11⟩
              go_simp
              with_reducible rfl
             rotate_left
             ·simp only [Act.put,q_ia11,q_cz11,q_cs11,i64_w,i32_w];rfl
             refine take_ (i:=11) (N:=some 50) (v:=?_) (a':=?_) #[bT,bT,bT,bT,bT,bT,bT,bT,bT,bT,bT,bT,bT,bf,bf,bf,bf,bT,bf,bT,bf,bf,bf,bf,bf] rfl rfl (take_ofW HT_.out HW_.out (by kernel_rfl)) (fun _ _ _ h => h) (Or.inl ⟨by rfl,?_⟩) hHeld ?_ ?_
             rotate_left
             ·rintro w' ⟨s0,s1,s2,s3,s4,s5,s6,s7,s8,s9,s10,s11⟩
              go_simp
              with_reducible rfl
             rotate_left
             ·simp only [Act.put,q_ia11,q_cz11,q_cs11,i64_w,i32_w];rfl
             refine pQ (i:=13) (N:=some 52) (v:=?_) (a':=?_) #[bT,bT,bT,bT,bT,bT,bT,bT,bT,bT,bT,bT,bT,bT,bf,bf,bf,bT,bf,bT,bf,bf,bf,bf,bf] (any_of HT_.out (by kernel_rfl)) ?_ ?_ ?_
             rotate_left
             ·intro w';go_simp;with_reducible rfl
             rotate_left
             ·simp only [Act.put,q_ia11,q_cz11,q_cs11,i64_w,i32_w];rfl
             refine pQ (i:=14) (N:=some 53) (v:=?_) (a':=?_) #[bT,bT,bT,bT,bT,bT,bT,bT,bT,bT,bT,bT,bT,bT,bT,bf,bf,bT,bf,bT,bf,bf,bf,bf,bf] (any_of HT_.out (by kernel_rfl)) ?_ ?_ ?_
             rotate_left
             ·intro w';go_simp;with_reducible rfl
             rotate_left
             ·simp only [Act.put,q_ia11,q_cz11,q_cs11,i64_w,i32_w];rfl
             refine take_ (i:=15) (N:=some 54) (v:=?_) (a':=?_) #[bT,bT,bT,bT,bT,bT,bT,bT,bT,bT,bT,bT,bT,bT,bT,bT,bf,bT,bf,bT,bf,bf,bf,bf,bf] rfl rfl (take_ofW HT_.out HW_.out (by kernel_rfl)) (fun _ _ _ h => h) (Or.inl ⟨by rfl,?_⟩) hHeld ?_ ?_
             rotate_left
             ·rintro w' ⟨s0,s1,s2,s3,s4,s5,s6,s7,s8,s9,s10,s11⟩
              go_simp
              with_reducible rfl
             rotate_left
             ·simp only [Act.put,q_ia11,q_cz11,q_cs11,i64_w,i32_w];rfl
             refine take_ (i:=18) (N:=some 57) (v:=?_) (a':=?_) #[bT,bT,bT,bT,bT,bT,bT,bT,bT,bT,bT,bT,bT,bT,bT,bT,bf,bT,bT,bT,bf,bf,bf,bf,bf] rfl rfl (take_ofW HT_.out HW_.out (by kernel_rfl)) (fun _ _ _ h => h) (Or.inl ⟨by rfl,?_⟩) hHeld ?_ ?_
             rotate_left
             ·rintro w' ⟨s0,s1,s2,s3,s4,s5,s6,s7,s8,s9,s10,s11⟩
              go_simp
              with_reducible rfl
             rotate_left
             ·simp only [Act.put,q_ia11,q_cz11,q_cs11,i64_w,i32_w];rfl
             refine pQ (i:=20) (N:=some 59) (v:=?_) (a':=?_) #[bT,bT,bT,bT,bT,bT,bT,bT,bT,bT,bT,bT,bT,bT,bT,bT,bf,bT,bT,bT,bT,bf,bf,bf,bf] (any_of HT_.out (by kernel_rfl)) ?_ ?_ ?_
             rotate_left
             ·intro w';go_simp;with_reducible rfl
             rotate_left
             ·simp only [Act.put,q_ia11,q_cz11,q_cs11,i64_w,i32_w];rfl
             refine pQ (i:=21) (N:=some 60) (v:=?_) (a':=?_) #[bT,bT,bT,bT,bT,bT,bT,bT,bT,bT,bT,bT,bT,bT,bT,bT,bf,bT,bT,bT,bT,bT,bf,bf,bf] (any_of HT_.out (by kernel_rfl)) ?_ ?_ ?_
             rotate_left
             ·intro w';go_simp;with_reducible rfl
             rotate_left
             ·simp only [Act.put,q_ia11,q_cz11,q_cs11,i64_w,i32_w];rfl
             refine take_ (i:=22) (N:=some 61) (v:=?_) (a':=?_) #[bT,bT,bT,bT,bT,bT,bT,bT,bT,bT,bT,bT,bT,bT,bT,bT,bf,bT,bT,bT,bT,bT,bT,bf,bf] rfl rfl (take_ofW HT_.out HW_.out (by kernel_rfl)) (fun _ _ _ h => h) (Or.inl ⟨by rfl,?_⟩) hHeld ?_ ?_
             rotate_left
             ·rintro w' ⟨s0,s1,s2,s3,s4,s5,s6,s7,s8,s9,s10,s11⟩
              go_simp
              with_reducible rfl
             rotate_left
             ·simp only [Act.put,q_ia11,q_cz11,q_cs11,i64_w,i32_w];rfl
             refine one_ (i:=16) (N:=some 55) #[bT,bT,bT,bT,bT,bT,bT,bT,bT,bT,bT,bT,bT,bT,bT,bT,bT,bT,bT,bT,bT,bT,bT,bf,bf] rfl rfl (one_of HT_.out (by kernel_rfl)) (by decide) (fun K hK => ?_)
             refine goes_ Try.func35 (by kernel_rfl) rfl #[.agg #[.slice Ao28 t391.length co28,.slice Ao31 t394.length co31,.string t397],.string ((rd_T53 t373 x8_1).f0)] (by rfl) rfl rfl (by (try simp only [List.map_toArray,List.map_cons,List.map_nil]);first|done|rfl|(simp only [List.length_drop,List.length_take];rfl)) ?_
             with_reducible refine (impl_VarOf.calls k1 _ _ t391 _ _ t394 t397 ((rd_T53 t373 x8_1).f0) t401 _ ?side1 ?side2 ?side3 ?side4 A38.out).mono ?_
             (case side1 => repeat (first|exact (rR HO_399000.out).2.2|(with_reducible first|refine cA ?_ _|refine cN ?_ _|refine cD ?_)))
             (case side2 => exact (rR HO_399000.out).2.1)
             (case side3 => repeat (first|exact (rR HO_399001.out).2.2|(with_reducible first|refine cA ?_ _|refine cN ?_ _|refine cD ?_)))
             (case side4 => exact (rR HO_399001.out).2.1)
             rintro e w43 ⟨rfl,hb⟩
             have HS6_:=(hb.cell (World.block_lt_of_cell? _ _ (hHeld.2.2.2.2.2.2.1))).trans (hHeld.2.2.2.2.2.2.1)
             have HS7_:=(hb.cell (World.block_lt_of_cell? _ _ (hHeld.2.2.2.2.2.2.2.1))).trans (hHeld.2.2.2.2.2.2.2.1)
             have HS8_:=(hb.cell (World.block_lt_of_cell? _ _ (hHeld.2.2.2.2.2.2.2.2.1))).trans (hHeld.2.2.2.2.2.2.2.2.1)
             have HS9_:=(hb.cell (World.block_lt_of_cell? _ _ (hHeld.2.2.2.2.2.2.2.2.2.1))).trans (hHeld.2.2.2.2.2.2.2.2.2.1)
             have HS10_:=(hb.cell (World.block_lt_of_cell? _ _ (hHeld.2.2.2.2.2.2.2.2.2.2.1))).trans (hHeld.2.2.2.2.2.2.2.2.2.2.1)
             have HS11_:=(hb.cell (World.block_lt_of_cell? _ _ (hHeld.2.2.2.2.2.2.2.2.2.2.2))).trans (hHeld.2.2.2.2.2.2.2.2.2.2.2)
             refine ⟨_,rfl,?_⟩
             have n0_:=aM (rH HO_381000.out hb)
             have n1_:=aM (rH HO_381001.out hb)
             have n2_:=aM (rH HO_399000.out hb)
             have n3_:=aM (rH HO_399001.out hb)
             have n4_:=aM (bH BK380.out hb)
             have n5_:=aM (bH BK398.out hb)
             have n6_:=aM (lQ HB.out hb)
             clear HO_381000
             clear HO_381001
             clear HO_399000
             clear HO_399001
             clear BK380
             clear BK398
             clear HB
             have HO_381000:=n0_
             have HO_381001:=n1_
             have HO_399000:=n2_
             have HO_399001:=n3_
             have BK380:=n4_
             have BK398:=n5_
             have HB:=n6_
             clear n0_ n1_ n2_ n3_ n4_ n5_ n6_
             (try clear hb)
             (try clear hb2)
             (try clear hk)
             (try clear hi)
             refine hK.out _ _ ⟨(bC BK380.out 0).trans rfl,(bC BK380.out 1).trans rfl,(bC BK380.out 2).trans rfl,(bC BK398.out 0).trans rfl,(bC BK398.out 1).trans rfl,(bC BK398.out 2).trans rfl,HS6_,HS7_,HS8_,HS9_,HS10_,HS11_⟩ (fun hHeld => ?_)
             clear hK K
             refine norm_ (a':=?_) ?_ ?_
             rotate_left
             ·show Act.put _ (some 55) _ = _
              simp only [Act.put,q_ia11,q_cz11,q_cs11,i64_w,i32_w]
              rfl
             refine pQ (i:=23) (N:=some 62) (v:=?_) (a':=?_) #[bT,bT,bT,bT,bT,bT,bT,bT,bT,bT,bT,bT,bT,bT,bT,bT,bT,bT,bT,bT,bT,bT,bT,bT,bf] (any_of HT_.out (by kernel_rfl)) ?_ ?_ ?_
             rotate_left
             ·intro w';go_simp;with_reducible rfl
             rotate_left
             ·simp only [Act.put,q_ia11,q_cz11,q_cs11,i64_w,i32_w];rfl
             refine pQ (i:=24) (N:=some 63) (v:=?_) (a':=?_) #[bT,bT,bT,bT,bT,bT,bT,bT,bT,bT,bT,bT,bT,bT,bT,bT,bT,bT,bT,bT,bT,bT,bT,bT,bT] (any_of HT_.out (by kernel_rfl)) ?_ ?_ ?_
             rotate_left
             ·intro w';go_simp;with_reducible rfl
             rotate_left
             ·simp only [Act.put,q_ia11,q_cz11,q_cs11,i64_w,i32_w];rfl
             refine done_ (done_of HT_.out (by kernel_rfl)) ?_
             try go_wp2
             go_roundg k1
             case measure => have:=HK1.out;omega
             case rel => exact ⟨(wrap64 (x8_1 + 1)),(by first|rfl|(simp;done)|(simp [*];done)),H',⟨by have:=HK1.out;omega⟩,⟨by (with_reducible repeat (first|apply rA|apply rN|apply rD));exact HO_381000.out⟩,⟨by (with_reducible repeat (first|apply rA|apply rN|apply rD));exact HO_381001.out⟩,⟨by (with_reducible repeat (first|apply rA|apply rN|apply rD));exact HO_399000.out⟩,⟨by (with_reducible repeat (first|apply rA|apply rN|apply rD));exact HO_399001.out⟩,⟨by (with_reducible repeat (first|refine bN ?_ _|refine bD ?_|refine bA ?_ _));exact BK380.out⟩,⟨by (with_reducible repeat (first|refine bN ?_ _|refine bD ?_|refine bA ?_ _));exact BK398.out⟩,⟨by repeat (first|(with_reducible first|exact HB.out|apply lA|apply lN|apply lD|refine lS ?_ GE380.out|refine lS ?_ GE398.out)|exact HB.out)⟩⟩
            ·rw [if_neg c39] at H
             have c39b0 : (t401.toList == ((rd_T53 t373 x8_1).f1).toList) = false:=beq_eq_false_iff_ne.mpr c39
             have c39b1 : (t401.toList != ((rd_T53 t373 x8_1).f1).toList) = true:=bne_iff_ne.mpr c39
             exact absurd (HR_.out.symm.trans (Option.some.inj H).symm) (by decide)
          ·rw [if_neg c33] at H
           exact absurd H (by simp)
         ·rw [if_neg c32] at H
          have c32b0 : decide (x8_1 < (t373.length : Int)) = false:=decide_eq_false c32
          clear c32
          by_cases c44 : ((⟨#[118,97,108,117,101]⟩ : ByteArray) ++ t390).size + 40 ≤ 9223372036854775807
          ·rw [if_pos c44] at H
           have c44b0:=eq_true c44
           have c44b1 : decide (((⟨#[118,97,108,117,101]⟩ : ByteArray) ++ t390).size + 40 ≤ 9223372036854775807) = true:=decide_eq_true c44
           try have c44b2 : (9223372036854775807 < ((⟨#[118,97,108,117,101]⟩ : ByteArray) ++ t390).size + 40) = False:=eq_false (Nat.not_lt.2 c44)
           try (have c44b7:=c44b2;simp only [ByteArray.size_append,show ((⟨#[118,97,108,117,101]⟩ : ByteArray)).size = 5 from rfl] at c44b7)
           replace H:=Option.bind_eq_some_iff.mp H
           obtain ⟨⟨t403,t406,t409⟩,A450,H⟩:=H
           replace H : ((impl_StoreOk.f k1 t373 t376 t379).bind fun t411 => (if t411 = true then ((impl_StoreOk.f k1 t391 t394 t397).bind fun t412 => (if t412 = true then ((impl_VarOf.f k1 t391 t394 t397 (rdOf ByteArray.empty y384 (ji7))).bind fun t413 => (if t413.toList = ((⟨#[118,97,108,117,101]⟩ : ByteArray) ++ t390).toList then ((impl_VarOf.f k1 t403 t406 t409 (rdOf ByteArray.empty y384 (ji7))).bind fun t414 => (if (t414.size : Int) = 40 then (if t397.toList = t379.toList then (if (t394.length : Int) = (t376.length : Int) then ((impl_VarOf.f k1 t373 t376 t379 (⟨#[110,111,110,101]⟩ : ByteArray)).bind fun t415 => (if t415.toList = ([] : List UInt8) then ((spec_SetVar.f k1 t373 t376 t379 (rdOf ByteArray.empty y384 (ji7)) ((⟨#[118,97,108,117,101]⟩ : ByteArray) ++ t390)).bind fun bt416 => ((spec_SameStore.f k1 t391 t394 t397 bt416.1 bt416.2.1 bt416.2.2).bind fun t423 => (some t423))) else (some false))) else (some false)) else (some false)) else (some false))) else (some false))) else (some false))) else (some false))) = some r:=H
           have A45:=aM A450
           clear A450
           replace H:=Option.bind_eq_some_iff.mp H
           obtain ⟨t411,A460,H⟩:=H
           replace H : (if t411 = true then ((impl_StoreOk.f k1 t391 t394 t397).bind fun t412 => (if t412 = true then ((impl_VarOf.f k1 t391 t394 t397 (rdOf ByteArray.empty y384 (ji7))).bind fun t413 => (if t413.toList = ((⟨#[118,97,108,117,101]⟩ : ByteArray) ++ t390).toList then ((impl_VarOf.f k1 t403 t406 t409 (rdOf ByteArray.empty y384 (ji7))).bind fun t414 => (if (t414.size : Int) = 40 then (if t397.toList = t379.toList then (if (t394.length : Int) = (t376.length : Int) then ((impl_VarOf.f k1 t373 t376 t379 (⟨#[110,111,110,101]⟩ : ByteArray)).bind fun t415 => (if t415.toList = ([] : List UInt8) then ((spec_SetVar.f k1 t373 t376 t379 (rdOf ByteArray.empty y384 (ji7)) ((⟨#[118,97,108,117,101]⟩ : ByteArray) ++ t390)).bind fun bt416 => ((spec_SameStore.f k1 t391 t394 t397 bt416.1 bt416.2.1 bt416.2.2).bind fun t423 => (some t423))) else (some false))) else (some false)) else (some false)) else (some false))) else (some false))) else (some false))) else (some false)) = some r:=H
           have A46:=aM A460
           clear A460
           by_cases c47 : t411 = true
           ·subst c47
            have H1 : ((impl_StoreOk.f k1 t391 t394 t397).bind fun t412 => (if t412 = true then ((impl_VarOf.f k1 t391 t394 t397 (rdOf ByteArray.empty y384 (ji7))).bind fun t413 => (if t413.toList = ((⟨#[118,97,108,117,101]⟩ : ByteArray) ++ t390).toList then ((impl_VarOf.f k1 t403 t406 t409 (rdOf ByteArray.empty y384 (ji7))).bind fun t414 => (if (t414.size : Int) = 40 then (if t397.toList = t379.toList then (if (t394.length : Int) = (t376.length : Int) then ((impl_VarOf.f k1 t373 t376 t379 (⟨#[110,111,110,101]⟩ : ByteArray)).bind fun t415 => (if t415.toList = ([] : List UInt8) then ((spec_SetVar.f k1 t373 t376 t379 (rdOf ByteArray.empty y384 (ji7)) ((⟨#[118,97,108,117,101]⟩ : ByteArray) ++ t390)).bind fun bt416 => ((spec_SameStore.f k1 t391 t394 t397 bt416.1 bt416.2.1 bt416.2.2).bind fun t423 => (some t423))) else (some false))) else (some false)) else (some false)) else (some false))) else (some false))) else (some false))) = some r:=by rw [if_pos rfl] at H;exact H
            clear H
            have H:=H1
            clear H1
            replace H:=Option.bind_eq_some_iff.mp H
            obtain ⟨t412,A480,H⟩:=H
            replace H : (if t412 = true then ((impl_VarOf.f k1 t391 t394 t397 (rdOf ByteArray.empty y384 (ji7))).bind fun t413 => (if t413.toList = ((⟨#[118,97,108,117,101]⟩ : ByteArray) ++ t390).toList then ((impl_VarOf.f k1 t403 t406 t409 (rdOf ByteArray.empty y384 (ji7))).bind fun t414 => (if (t414.size : Int) = 40 then (if t397.toList = t379.toList then (if (t394.length : Int) = (t376.length : Int) then ((impl_VarOf.f k1 t373 t376 t379 (⟨#[110,111,110,101]⟩ : ByteArray)).bind fun t415 => (if t415.toList = ([] : List UInt8) then ((spec_SetVar.f k1 t373 t376 t379 (rdOf ByteArray.empty y384 (ji7)) ((⟨#[118,97,108,117,101]⟩ : ByteArray) ++ t390)).bind fun bt416 => ((spec_SameStore.f k1 t391 t394 t397 bt416.1 bt416.2.1 bt416.2.2).bind fun t423 => (some t423))) else (some false))) else (some false)) else (some false)) else (some false))) else (some false))) else (some false)) = some r:=H
            have A48:=aM A480
            clear A480
            by_cases c49 : t412 = true
            ·subst c49
             have H1 : ((impl_VarOf.f k1 t391 t394 t397 (rdOf ByteArray.empty y384 (ji7))).bind fun t413 => (if t413.toList = ((⟨#[118,97,108,117,101]⟩ : ByteArray) ++ t390).toList then ((impl_VarOf.f k1 t403 t406 t409 (rdOf ByteArray.empty y384 (ji7))).bind fun t414 => (if (t414.size : Int) = 40 then (if t397.toList = t379.toList then (if (t394.length : Int) = (t376.length : Int) then ((impl_VarOf.f k1 t373 t376 t379 (⟨#[110,111,110,101]⟩ : ByteArray)).bind fun t415 => (if t415.toList = ([] : List UInt8) then ((spec_SetVar.f k1 t373 t376 t379 (rdOf ByteArray.empty y384 (ji7)) ((⟨#[118,97,108,117,101]⟩ : ByteArray) ++ t390)).bind fun bt416 => ((spec_SameStore.f k1 t391 t394 t397 bt416.1 bt416.2.1 bt416.2.2).bind fun t423 => (some t423))) else (some false))) else (some false)) else (some false)) else (some false))) else (some false))) = some r:=by rw [if_pos rfl] at H;exact H
             clear H
             have H:=H1
             clear H1
             replace H:=Option.bind_eq_some_iff.mp H
             obtain ⟨t413,A500,H⟩:=H
             replace H : (if t413.toList = ((⟨#[118,97,108,117,101]⟩ : ByteArray) ++ t390).toList then ((impl_VarOf.f k1 t403 t406 t409 (rdOf ByteArray.empty y384 (ji7))).bind fun t414 => (if (t414.size : Int) = 40 then (if t397.toList = t379.toList then (if (t394.length : Int) = (t376.length : Int) then ((impl_VarOf.f k1 t373 t376 t379 (⟨#[110,111,110,101]⟩ : ByteArray)).bind fun t415 => (if t415.toList = ([] : List UInt8) then ((spec_SetVar.f k1 t373 t376 t379 (rdOf ByteArray.empty y384 (ji7)) ((⟨#[118,97,108,117,101]⟩ : ByteArray) ++ t390)).bind fun bt416 => ((spec_SameStore.f k1 t391 t394 t397 bt416.1 bt416.2.1 bt416.2.2).bind fun t423 => (some t423))) else (some false))) else (some false)) else (some false)) else (some false))) else (some false)) = some r:=H
             have A50:=aM A500
             clear A500
             by_cases c51 : t413.toList = ((⟨#[118,97,108,117,101]⟩ : ByteArray) ++ t390).toList
             ·rw [if_pos c51] at H
              have c51b0 : (t413.toList == ((⟨#[118,97,108,117,101]⟩ : ByteArray) ++ t390).toList) = true:=beq_iff_eq.mpr c51
              have c51b1 : (t413.toList != ((⟨#[118,97,108,117,101]⟩ : ByteArray) ++ t390).toList) = false:=bne_eq_false_iff_eq.mpr c51
              clear c51
              replace H:=Option.bind_eq_some_iff.mp H
              obtain ⟨t414,A520,H⟩:=H
              replace H : (if (t414.size : Int) = 40 then (if t397.toList = t379.toList then (if (t394.length : Int) = (t376.length : Int) then ((impl_VarOf.f k1 t373 t376 t379 (⟨#[110,111,110,101]⟩ : ByteArray)).bind fun t415 => (if t415.toList = ([] : List UInt8) then ((spec_SetVar.f k1 t373 t376 t379 (rdOf ByteArray.empty y384 (ji7)) ((⟨#[118,97,108,117,101]⟩ : ByteArray) ++ t390)).bind fun bt416 => ((spec_SameStore.f k1 t391 t394 t397 bt416.1 bt416.2.1 bt416.2.2).bind fun t423 => (some t423))) else (some false))) else (some false)) else (some false)) else (some false)) = some r:=H
              have A52:=aM A520
              clear A520
              by_cases c53 : (t414.size : Int) = 40
              ·rw [if_pos c53] at H
               have c53b0 : ((t414.size : Int) == 40) = true:=beq_iff_eq.mpr c53
               have c53b1 : ((t414.size : Int) != 40) = false:=bne_eq_false_iff_eq.mpr c53
               clear c53
               by_cases c54 : t397.toList = t379.toList
               ·rw [if_pos c54] at H
                have c54b0 : (t397.toList == t379.toList) = true:=beq_iff_eq.mpr c54
                have c54b1 : (t397.toList != t379.toList) = false:=bne_eq_false_iff_eq.mpr c54
                clear c54
                by_cases c55 : (t394.length : Int) = (t376.length : Int)
                ·rw [if_pos c55] at H
                 have c55b0 : ((t394.length : Int) == (t376.length : Int)) = true:=beq_iff_eq.mpr c55
                 have c55b1 : ((t394.length : Int) != (t376.length : Int)) = false:=bne_eq_false_iff_eq.mpr c55
                 have c55b2 : (t394.length == t376.length) = true:=by first|simpa using c55|(simp at c55 ⊢;omega)
                 clear c55
                 replace H:=Option.bind_eq_some_iff.mp H
                 obtain ⟨t415,A560,H⟩:=H
                 replace H : (if t415.toList = ([] : List UInt8) then ((spec_SetVar.f k1 t373 t376 t379 (rdOf ByteArray.empty y384 (ji7)) ((⟨#[118,97,108,117,101]⟩ : ByteArray) ++ t390)).bind fun bt416 => ((spec_SameStore.f k1 t391 t394 t397 bt416.1 bt416.2.1 bt416.2.2).bind fun t423 => (some t423))) else (some false)) = some r:=H
                 have A56:=aM A560
                 clear A560
                 by_cases c57 : t415.toList = ([] : List UInt8)
                 ·rw [if_pos c57] at H
                  have c57b0 : (t415.toList == ([] : List UInt8)) = true:=beq_iff_eq.mpr c57
                  have c57b1 : (t415.toList != ([] : List UInt8)) = false:=bne_eq_false_iff_eq.mpr c57
                  clear c57
                  replace H:=Option.bind_eq_some_iff.mp H
                  obtain ⟨⟨t416,t419,t422⟩,A580,H⟩:=H
                  replace H : ((spec_SameStore.f k1 t391 t394 t397 t416 t419 t422).bind fun t423 => (some t423)) = some r:=H
                  have A58:=aM A580
                  clear A580
                  replace H:=Option.bind_eq_some_iff.mp H
                  obtain ⟨t423,A590,H⟩:=H
                  replace H : (some t423) = some r:=H
                  have A59:=aM A590
                  clear A590
                  obtain rfl:=Option.some.inj H
                  have hnb60:=NB380_398.out
                  have hnc60:=NB398_380.out
                  obtain ⟨⟨hcz61_0,hcz61_1,hcz61_2⟩,hfz61_0,hfz61_1,hfz61_2⟩:=bC3 BK380.out
                  try go_wp2_with (first|((with_reducible refine gate_callee (f:=29) rfl ?_);refine goesL_ (some 68) rfl rfl Try.func29 (by kernel_rfl) rfl #[.agg #[.slice Ao16 t373.length co16,.slice Ao18 t376.length co18,.string t379],.string (rdOf ByteArray.empty y384 (ji7)),.string (((⟨#[118,97,108,117,101]⟩ : ByteArray) ++ t390) ++ (⟨#[48,49,50,51,52,53,54,55,56,57,48,49,50,51,52,53,54,55,56,57,48,49,50,51,52,53,54,55,56,57,48,49,50,51,52,53,54,55,56,57]⟩ : ByteArray))] rfl (by (try simp only [List.map_toArray,List.map_cons,List.map_nil]);first|done|(simp only [hji7];rfl)|rfl|(simp only [List.length_drop,List.length_take];rfl)) ?_;(with_reducible refine (impl_SetVar.calls k1 _ _ t373 _ _ t376 t379 (rdOf ByteArray.empty y384 (ji7)) (((⟨#[118,97,108,117,101]⟩ : ByteArray) ++ t390) ++ (⟨#[48,49,50,51,52,53,54,55,56,57,48,49,50,51,52,53,54,55,56,57,48,49,50,51,52,53,54,55,56,57,48,49,50,51,52,53,54,55,56,57]⟩ : ByteArray)) t403 t406 t409 _ ?side1 ?side2 ?side3 ?side4 A45.out).mono ?_);(case side1 => repeat (first|exact (rR HO_381000.out).2.2|(with_reducible first|refine cA ?_ _|refine cN ?_ _|refine cD ?_)));(case side2 => exact (rR HO_381000.out).2.1);(case side3 => repeat (first|exact (rR HO_381001.out).2.2|(with_reducible first|refine cA ?_ _|refine cN ?_ _|refine cD ?_)));(case side4 => exact (rR HO_381001.out).2.1);rintro e w62 ⟨v404,v407,rfl,ho0,ho1,hb⟩;refine ⟨_,rfl,?_⟩;have n0_:=aM (rE (rZ HO_381000.out) (rS ho0) hb);have n1_:=aM (rE (rZ HO_381001.out) (rS ho1) hb);have n2_:=aM (rE (rZ HO_399000.out) (rS ho0) hb);have n3_:=aM (rE (rZ HO_399001.out) (rS ho1) hb);have n4_:=aM (rL (rW (rW ho0 (rT (rZ HO_381000.out))) (rT (rZ HO_399000.out))) (lZ (by repeat (first|(with_reducible first|exact HB.out|apply lA|apply lN|apply lD|refine lS ?_ GE380.out|refine lS ?_ GE398.out)|exact HB.out))));have n5_:=aM (rL (rW (rW ho1 (rT (rZ HO_381001.out))) (rT (rZ HO_399001.out))) (lZ (by repeat (first|(with_reducible first|exact HB.out|apply lA|apply lN|apply lD|refine lS ?_ GE380.out|refine lS ?_ GE398.out)|exact HB.out))));have n6_:=aM (bH BK380.out hb);have n7_:=aM (bH BK398.out hb);have n8_:=aM (lQ HB.out hb);clear HO_381000 HO_381001 HO_399000 HO_399001 BK380 BK398 HB;have HO_381000:=n0_;have HO_381001:=n1_;have HO_399000:=n2_;have HO_399001:=n3_;have HO405:=n4_;have HO408:=n5_;have BK380:=n6_;have BK398:=n7_;have HB:=n8_;clear n0_ n1_ n2_ n3_ n4_ n5_ n6_ n7_ n8_;(try clear hb);(try clear hb2);(try clear hk);(try clear hi);(try clear ho0);(try clear ho1))|((with_reducible refine gate_dst (N:=9) rfl ?_);(try (refine gate_guard (by rfl) ?_;dsimp only));refine box_event ?hg (N:=9) ?hd (cs:=#[.slice none 0 0,.slice none 0 0,.string (⟨#[]⟩ : ByteArray)]) (t:=38) ?hr ?_;(case hd => rfl);(case hg => rfl);(case hr => first|(go_simp;done)|(go_simp;rfl));intro gb410 hg w63 hbox hb;have n0_:=aM (rH HO_381000.out hb);have n1_:=aM (rH HO_381001.out hb);have n2_:=aM (rH HO_399000.out hb);have n3_:=aM (rH HO_399001.out hb);have n4_:=aM (rH HO405.out hb);have n5_:=aM (rH HO408.out hb);have n6_:=aM (bH BK380.out hb);have n7_:=aM (bH BK398.out hb);have n8_:=aM (lQ HB.out hb);have n9_:=aM (hbox);have n10_:=aM ((sQ hg HB.out : w.heap.size ≤ gb410));have n11_:=n10_;have n12_:=aM ((nL hg BK380.out : gb380 ≠ gb410));have n13_:=aM ((nG hg BK380.out : gb410 ≠ gb380));have n14_:=aM ((nL hg BK398.out : gb398 ≠ gb410));have n15_:=aM ((nG hg BK398.out : gb410 ≠ gb398));clear HO_381000 HO_381001 HO_399000 HO_399001 HO405 HO408 BK380 BK398 HB;have HO_381000:=n0_;have HO_381001:=n1_;have HO_399000:=n2_;have HO_399001:=n3_;have HO405:=n4_;have HO408:=n5_;have BK380:=n6_;have BK398:=n7_;have HB:=n8_;have BK410:=n9_;have GW410:=n10_;have GE410:=n11_;have NB380_410:=n12_;have NB410_380:=n13_;have NB398_410:=n14_;have NB410_398:=n15_;clear n0_ n1_ n2_ n3_ n4_ n5_ n6_ n7_ n8_ n9_ n10_ n11_ n12_ n13_ n14_ n15_ hb hbox hg;obtain ⟨Ao64,co64,eo64⟩:=Kd.R_slice HO405.out;subst eo64;have hnb65:=NB410_380.out;have hnc65:=NB380_410.out;have hnb66:=NB410_398.out;have hnc66:=NB398_410.out;obtain ⟨⟨hcz67_0,hcz67_1,hcz67_2⟩,hfz67_0,hfz67_1,hfz67_2⟩:=bC3 BK410.out;obtain ⟨Ao68,co68,eo68⟩:=Kd.R_slice HO408.out;subst eo68))
                  have n0_ : Aside0 (Kd.R k53 53 (((w63.setCell ⟨gb410,0,none⟩ (.slice Ao64 t403.length co64)).setCell ⟨gb410,1,none⟩ (.slice Ao68 t406.length co68)).setCell ⟨gb410,2,none⟩ (.string t409)) w.heap.size (fun k_ => some k_ ≠ (.slice Ao28 t391.length co28 : Value).ownBlock ∧ some k_ ≠ (.slice Ao64 t403.length co64 : Value).ownBlock) (.slice Ao16 t373.length co16) t373):=⟨by (with_reducible repeat (first|apply rA|apply rN|apply rD));exact Kd.R_mono (rF (rF (rF (rY HO_381000.out BK410.out (by decide)) (fun _ hk => hk.2) _) (fun _ hk => hk.2) _) (fun _ hk => hk.2) _) (fun _ hk => ⟨hk.1.1,hk.1.2⟩)⟩
                  have n1_ : Aside0 (Kd.R k57 57 (((w63.setCell ⟨gb410,0,none⟩ (.slice Ao64 t403.length co64)).setCell ⟨gb410,1,none⟩ (.slice Ao68 t406.length co68)).setCell ⟨gb410,2,none⟩ (.string t409)) w.heap.size (fun k_ => some k_ ≠ (.slice Ao31 t394.length co31 : Value).ownBlock ∧ some k_ ≠ (.slice Ao68 t406.length co68 : Value).ownBlock) (.slice Ao18 t376.length co18) t376):=⟨by (with_reducible repeat (first|apply rA|apply rN|apply rD));exact Kd.R_mono (rF (rF (rF (rY HO_381001.out BK410.out (by decide)) (fun _ hk => hk.2) _) (fun _ hk => hk.2) _) (fun _ hk => hk.2) _) (fun _ hk => ⟨hk.1.1,hk.1.2⟩)⟩
                  have n2_ : Aside0 (Kd.R k53 53 (((w63.setCell ⟨gb410,0,none⟩ (.slice Ao64 t403.length co64)).setCell ⟨gb410,1,none⟩ (.slice Ao68 t406.length co68)).setCell ⟨gb410,2,none⟩ (.string t409)) w.heap.size (fun k_ => some k_ ≠ (.slice Ao16 t373.length co16 : Value).ownBlock ∧ some k_ ≠ (.slice Ao64 t403.length co64 : Value).ownBlock) (.slice Ao28 t391.length co28) t391):=⟨by (with_reducible repeat (first|apply rA|apply rN|apply rD));exact Kd.R_mono (rF (rF (rF (rY HO_399000.out BK410.out (by decide)) (fun _ hk => hk.2) _) (fun _ hk => hk.2) _) (fun _ hk => hk.2) _) (fun _ hk => ⟨hk.1.1,hk.1.2⟩)⟩
                  have n3_ : Aside0 (Kd.R k57 57 (((w63.setCell ⟨gb410,0,none⟩ (.slice Ao64 t403.length co64)).setCell ⟨gb410,1,none⟩ (.slice Ao68 t406.length co68)).setCell ⟨gb410,2,none⟩ (.string t409)) w.heap.size (fun k_ => some k_ ≠ (.slice Ao18 t376.length co18 : Value).ownBlock ∧ some k_ ≠ (.slice Ao68 t406.length co68 : Value).ownBlock) (.slice Ao31 t394.length co31) t394):=⟨by (with_reducible repeat (first|apply rA|apply rN|apply rD));exact Kd.R_mono (rF (rF (rF (rY HO_399001.out BK410.out (by decide)) (fun _ hk => hk.2) _) (fun _ hk => hk.2) _) (fun _ hk => hk.2) _) (fun _ hk => ⟨hk.1.1,hk.1.2⟩)⟩
                  have n4_ : Aside0 (Kd.R k53 53 (((w63.setCell ⟨gb410,0,none⟩ (.slice Ao64 t403.length co64)).setCell ⟨gb410,1,none⟩ (.slice Ao68 t406.length co68)).setCell ⟨gb410,2,none⟩ (.string t409)) w.heap.size (fun k_ => some k_ ≠ (.slice Ao16 t373.length co16 : Value).ownBlock ∧ some k_ ≠ (.slice Ao28 t391.length co28 : Value).ownBlock) (.slice Ao64 t403.length co64) t403):=⟨by (with_reducible repeat (first|apply rA|apply rN|apply rD));exact Kd.R_mono (rF (rF (rF (rY HO405.out BK410.out (by decide)) (fun _ hk => hk.2) _) (fun _ hk => hk.2) _) (fun _ hk => hk.2) _) (fun _ hk => ⟨hk.1.1.2,hk.1.2⟩)⟩
                  have n5_ : Aside0 (Kd.R k57 57 (((w63.setCell ⟨gb410,0,none⟩ (.slice Ao64 t403.length co64)).setCell ⟨gb410,1,none⟩ (.slice Ao68 t406.length co68)).setCell ⟨gb410,2,none⟩ (.string t409)) w.heap.size (fun k_ => some k_ ≠ (.slice Ao18 t376.length co18 : Value).ownBlock ∧ some k_ ≠ (.slice Ao31 t394.length co31 : Value).ownBlock) (.slice Ao68 t406.length co68) t406):=⟨by (with_reducible repeat (first|apply rA|apply rN|apply rD));exact Kd.R_mono (rF (rF (rF (rY HO408.out BK410.out (by decide)) (fun _ hk => hk.2) _) (fun _ hk => hk.2) _) (fun _ hk => hk.2) _) (fun _ hk => ⟨hk.1.1.2,hk.1.2⟩)⟩
                  have n6_ : Aside0 ((((w63.setCell ⟨gb410,0,none⟩ (.slice Ao64 t403.length co64)).setCell ⟨gb410,1,none⟩ (.slice Ao68 t406.length co68)).setCell ⟨gb410,2,none⟩ (.string t409)).heap[gb380]? = some (.cells #[.slice Ao16 t373.length co16,.slice Ao18 t376.length co18,.string t379] 38 (0,0))):=⟨by (with_reducible repeat (first|refine bN ?_ _|refine bD ?_|refine bA ?_ _));refine blk_far ?_ NB380_410.out _;(with_reducible repeat (first|refine bN ?_ _|refine bD ?_|refine bA ?_ _));refine blk_far ?_ NB380_410.out _;(with_reducible repeat (first|refine bN ?_ _|refine bD ?_|refine bA ?_ _));refine blk_far ?_ NB380_410.out _;(with_reducible repeat (first|refine bN ?_ _|refine bD ?_|refine bA ?_ _));exact BK380.out⟩
                  have n7_ : Aside0 ((((w63.setCell ⟨gb410,0,none⟩ (.slice Ao64 t403.length co64)).setCell ⟨gb410,1,none⟩ (.slice Ao68 t406.length co68)).setCell ⟨gb410,2,none⟩ (.string t409)).heap[gb398]? = some (.cells #[.slice Ao28 t391.length co28,.slice Ao31 t394.length co31,.string t397] 38 (0,0))):=⟨by (with_reducible repeat (first|refine bN ?_ _|refine bD ?_|refine bA ?_ _));refine blk_far ?_ NB398_410.out _;(with_reducible repeat (first|refine bN ?_ _|refine bD ?_|refine bA ?_ _));refine blk_far ?_ NB398_410.out _;(with_reducible repeat (first|refine bN ?_ _|refine bD ?_|refine bA ?_ _));refine blk_far ?_ NB398_410.out _;(with_reducible repeat (first|refine bN ?_ _|refine bD ?_|refine bA ?_ _));exact BK398.out⟩
                  have n8_ : Aside0 ((((w63.setCell ⟨gb410,0,none⟩ (.slice Ao64 t403.length co64)).setCell ⟨gb410,1,none⟩ (.slice Ao68 t406.length co68)).setCell ⟨gb410,2,none⟩ (.string t409)).heap[gb410]? = some (.cells #[.slice Ao64 t403.length co64,.slice Ao68 t406.length co68,.string t409] 38 (0,0))):=⟨by (with_reducible repeat (first|refine bN ?_ _|refine bD ?_|refine bA ?_ _));refine blk_put (cs:=#[.slice Ao64 t403.length co64,.slice Ao68 t406.length co68,.string (⟨#[]⟩ : ByteArray)]) ?_ 2 _ rfl;(with_reducible repeat (first|refine bN ?_ _|refine bD ?_|refine bA ?_ _));refine blk_put (cs:=#[.slice Ao64 t403.length co64,.slice none 0 0,.string (⟨#[]⟩ : ByteArray)]) ?_ 1 _ rfl;(with_reducible repeat (first|refine bN ?_ _|refine bD ?_|refine bA ?_ _));refine blk_put (cs:=#[.slice none 0 0,.slice none 0 0,.string (⟨#[]⟩ : ByteArray)]) ?_ 0 _ rfl;(with_reducible repeat (first|refine bN ?_ _|refine bD ?_|refine bA ?_ _));exact BK410.out⟩
                  have n9_ : Aside0 (Below w.heap.size w (((w63.setCell ⟨gb410,0,none⟩ (.slice Ao64 t403.length co64)).setCell ⟨gb410,1,none⟩ (.slice Ao68 t406.length co68)).setCell ⟨gb410,2,none⟩ (.string t409))):=⟨by repeat (first|(with_reducible first|exact HB.out|apply lA|apply lN|apply lD|refine lS ?_ GE380.out|refine lS ?_ GE398.out|refine lS ?_ GE410.out)|exact HB.out)⟩
                  (try clear HO_381000)
                  (try clear HO_381001)
                  (try clear HO_399000)
                  (try clear HO_399001)
                  (try clear HO405)
                  (try clear HO408)
                  (try clear BK380)
                  (try clear BK398)
                  (try clear BK410)
                  (try clear HB)
                  generalize (((w63.setCell ⟨gb410,0,none⟩ (.slice Ao64 t403.length co64)).setCell ⟨gb410,1,none⟩ (.slice Ao68 t406.length co68)).setCell ⟨gb410,2,none⟩ (.string t409)) = w69 at n0_ n1_ n2_ n3_ n4_ n5_ n6_ n7_ n8_ n9_ ⊢
                  have HO_381000:=n0_
                  have HO_381001:=n1_
                  have HO_399000:=n2_
                  have HO_399001:=n3_
                  have HO405:=n4_
                  have HO408:=n5_
                  have BK380:=n6_
                  have BK398:=n7_
                  have BK410:=n8_
                  have HB:=n9_
                  clear n0_ n1_ n2_ n3_ n4_ n5_ n6_ n7_ n8_ n9_
                  have n0_:=aM (rD HO_381000.out)
                  have n1_:=aM (rD HO_381001.out)
                  have n2_:=aM (rD HO_399000.out)
                  have n3_:=aM (rD HO_399001.out)
                  have n4_:=aM (rD HO405.out)
                  have n5_:=aM (rD HO408.out)
                  have n6_:=aM (bD BK380.out)
                  have n7_:=aM (bD BK398.out)
                  have n8_:=aM (bD BK410.out)
                  have n9_:=aM (lD HB.out)
                  clear HO_381000
                  clear HO_381001
                  clear HO_399000
                  clear HO_399001
                  clear HO405
                  clear HO408
                  clear BK380
                  clear BK398
                  clear BK410
                  clear HB
                  have HO_381000:=n0_
                  have HO_381001:=n1_
                  have HO_399000:=n2_
                  have HO_399001:=n3_
                  have HO405:=n4_
                  have HO408:=n5_
                  have BK380:=n6_
                  have BK398:=n7_
                  have BK410:=n8_
                  have HB:=n9_
                  clear n0_ n1_ n2_ n3_ n4_ n5_ n6_ n7_ n8_ n9_
                  refine start_ (n:=50) (S:=fun w' => w'.cell? ⟨gb380,0,none⟩ = some (.slice Ao16 t373.length co16) ∧ w'.cell? ⟨gb380,1,none⟩ = some (.slice Ao18 t376.length co18) ∧ w'.cell? ⟨gb380,2,none⟩ = some (.string t379) ∧ w'.cell? ⟨gb398,0,none⟩ = some (.slice Ao28 t391.length co28) ∧ w'.cell? ⟨gb398,1,none⟩ = some (.slice Ao31 t394.length co31) ∧ w'.cell? ⟨gb398,2,none⟩ = some (.string t397) ∧ w'.cell? ⟨gb410,0,none⟩ = some (.slice Ao64 t403.length co64) ∧ w'.cell? ⟨gb410,1,none⟩ = some (.slice Ao68 t406.length co68) ∧ w'.cell? ⟨gb410,2,none⟩ = some (.string t409)) (ds:=[]) #[bf,bf,bf,bf,bf,bf,bf,bf,bf,bf,bf,bf,bf,bf,bf,bf,bf,bf,bf,bf,bf,bf,bf,bf,bf,bf,bf,bf,bf,bf,bf,bf,bf,bf,bf,bf,bf,bf,bf,bf,bf,bf,bf,bf,bf,bf,bf,bf,bf,bf] (by kernel_rfl) rfl rfl ⟨(bC BK380.out 0).trans rfl,(bC BK380.out 1).trans rfl,(bC BK380.out 2).trans rfl,(bC BK398.out 0).trans rfl,(bC BK398.out 1).trans rfl,(bC BK398.out 2).trans rfl,(bC BK410.out 0).trans rfl,(bC BK410.out 1).trans rfl,(bC BK410.out 2).trans rfl⟩ (fun hHeld => ?_);refine with_tabW laws_FnVars.tab14 laws_FnVars.bits14 (fun HT_ HW_ => ?_)
                  generalize w69.drew = w70 at HO_381000 HO_381001 HO_399000 HO_399001 HO405 HO408 BK380 BK398 BK410 HB hHeld ⊢
                  refine take_ (i:=0) (N:=some 69) (v:=?_) (a':=?_) #[bT,bf,bf,bf,bf,bf,bf,bf,bf,bf,bf,bf,bf,bf,bf,bf,bf,bf,bf,bf,bf,bf,bf,bf,bf,bf,bf,bf,bf,bf,bf,bf,bf,bf,bf,bf,bf,bf,bf,bf,bf,bf,bf,bf,bf,bf,bf,bf,bf,bf] rfl rfl (take_ofW HT_.out HW_.out (by kernel_rfl)) (fun _ _ _ h => h) (Or.inl ⟨by rfl,?_⟩) hHeld ?_ ?_
                  rotate_left
                  ·rintro w' ⟨s0,s1,s2,s3,s4,s5,s6,s7,s8⟩
                   go_simp
                   with_reducible rfl
                  rotate_left
                  ·simp only [Act.put,q_ia11,q_cz11,q_cs11,i64_w,i32_w];rfl
                  refine one_ (i:=1) (N:=some 70) #[bT,bT,bf,bf,bf,bf,bf,bf,bf,bf,bf,bf,bf,bf,bf,bf,bf,bf,bf,bf,bf,bf,bf,bf,bf,bf,bf,bf,bf,bf,bf,bf,bf,bf,bf,bf,bf,bf,bf,bf,bf,bf,bf,bf,bf,bf,bf,bf,bf,bf] rfl rfl (one_of HT_.out (by kernel_rfl)) (by decide) (fun K hK => ?_)
                  refine goes_ Try.func36 (by kernel_rfl) rfl #[.agg #[.slice Ao16 t373.length co16,.slice Ao18 t376.length co18,.string t379]] (by rfl) rfl rfl (by (try simp only [List.map_toArray,List.map_cons,List.map_nil]);first|done|rfl|(simp only [List.length_drop,List.length_take];rfl)) ?_
                  with_reducible refine (impl_StoreOk.calls k1 _ _ t373 _ _ t376 t379 true _ ?side1 ?side2 ?side3 ?side4 A46.out).mono ?_
                  (case side1 => repeat (first|exact (rR HO_381000.out).2.2|(with_reducible first|refine cA ?_ _|refine cN ?_ _|refine cD ?_)))
                  (case side2 => exact (rR HO_381000.out).2.1)
                  (case side3 => repeat (first|exact (rR HO_381001.out).2.2|(with_reducible first|refine cA ?_ _|refine cN ?_ _|refine cD ?_)))
                  (case side4 => exact (rR HO_381001.out).2.1)
                  rintro e w71 ⟨rfl,hb⟩
                  refine ⟨_,rfl,?_⟩
                  have n0_:=aM (rH HO_381000.out hb)
                  have n1_:=aM (rH HO_381001.out hb)
                  have n2_:=aM (rH HO_399000.out hb)
                  have n3_:=aM (rH HO_399001.out hb)
                  have n4_:=aM (rH HO405.out hb)
                  have n5_:=aM (rH HO408.out hb)
                  have n6_:=aM (bH BK380.out hb)
                  have n7_:=aM (bH BK398.out hb)
                  have n8_:=aM (bH BK410.out hb)
                  have n9_:=aM (lQ HB.out hb)
                  clear HO_381000
                  clear HO_381001
                  clear HO_399000
                  clear HO_399001
                  clear HO405
                  clear HO408
                  clear BK380
                  clear BK398
                  clear BK410
                  clear HB
                  have HO_381000:=n0_
                  have HO_381001:=n1_
                  have HO_399000:=n2_
                  have HO_399001:=n3_
                  have HO405:=n4_
                  have HO408:=n5_
                  have BK380:=n6_
                  have BK398:=n7_
                  have BK410:=n8_
                  have HB:=n9_
                  clear n0_ n1_ n2_ n3_ n4_ n5_ n6_ n7_ n8_ n9_
                  (try clear hb)
                  (try clear hb2)
                  (try clear hk)
                  (try clear hi)
                  refine hK.out _ _ ⟨(bC BK380.out 0).trans rfl,(bC BK380.out 1).trans rfl,(bC BK380.out 2).trans rfl,(bC BK398.out 0).trans rfl,(bC BK398.out 1).trans rfl,(bC BK398.out 2).trans rfl,(bC BK410.out 0).trans rfl,(bC BK410.out 1).trans rfl,(bC BK410.out 2).trans rfl⟩ (fun hHeld => ?_)
                  clear hK K
                  refine norm_ (a':=?_) ?_ ?_
                  rotate_left
                  ·show Act.put _ (some 70) _ = _
                   simp only [Act.put,q_ia11,q_cz11,q_cs11,i64_w,i32_w]
                   rfl
                  refine pQ (i:=2) (N:=some 71) (v:=?_) (a':=?_) #[bT,bT,bT,bf,bf,bf,bf,bf,bf,bf,bf,bf,bf,bf,bf,bf,bf,bf,bf,bf,bf,bf,bf,bf,bf,bf,bf,bf,bf,bf,bf,bf,bf,bf,bf,bf,bf,bf,bf,bf,bf,bf,bf,bf,bf,bf,bf,bf,bf,bf] (any_of HT_.out (by kernel_rfl)) ?_ ?_ ?_
                  rotate_left
                  ·intro w';go_simp;with_reducible rfl
                  rotate_left
                  ·simp only [Act.put,q_ia11,q_cz11,q_cs11,i64_w,i32_w];rfl
                  refine take_ (i:=3) (N:=some 72) (v:=?_) (a':=?_) #[bT,bT,bT,bT,bf,bf,bf,bf,bf,bf,bf,bf,bf,bf,bf,bf,bf,bf,bf,bf,bf,bf,bf,bf,bf,bf,bf,bf,bf,bf,bf,bf,bf,bf,bf,bf,bf,bf,bf,bf,bf,bf,bf,bf,bf,bf,bf,bf,bf,bf] rfl rfl (take_ofW HT_.out HW_.out (by kernel_rfl)) (fun _ _ _ h => h) (Or.inl ⟨by rfl,?_⟩) hHeld ?_ ?_
                  rotate_left
                  ·rintro w' ⟨s0,s1,s2,s3,s4,s5,s6,s7,s8⟩
                   go_simp
                   with_reducible rfl
                  rotate_left
                  ·simp only [Act.put,q_ia11,q_cz11,q_cs11,i64_w,i32_w];rfl
                  refine one_ (i:=4) (N:=some 73) #[bT,bT,bT,bT,bT,bf,bf,bf,bf,bf,bf,bf,bf,bf,bf,bf,bf,bf,bf,bf,bf,bf,bf,bf,bf,bf,bf,bf,bf,bf,bf,bf,bf,bf,bf,bf,bf,bf,bf,bf,bf,bf,bf,bf,bf,bf,bf,bf,bf,bf] rfl rfl (one_of HT_.out (by kernel_rfl)) (by decide) (fun K hK => ?_)
                  refine goes_ Try.func36 (by kernel_rfl) rfl #[.agg #[.slice Ao28 t391.length co28,.slice Ao31 t394.length co31,.string t397]] (by rfl) rfl rfl (by (try simp only [List.map_toArray,List.map_cons,List.map_nil]);first|done|rfl|(simp only [List.length_drop,List.length_take];rfl)) ?_
                  with_reducible refine (impl_StoreOk.calls k1 _ _ t391 _ _ t394 t397 true _ ?side1 ?side2 ?side3 ?side4 A48.out).mono ?_
                  (case side1 => repeat (first|exact (rR HO_399000.out).2.2|(with_reducible first|refine cA ?_ _|refine cN ?_ _|refine cD ?_)))
                  (case side2 => exact (rR HO_399000.out).2.1)
                  (case side3 => repeat (first|exact (rR HO_399001.out).2.2|(with_reducible first|refine cA ?_ _|refine cN ?_ _|refine cD ?_)))
                  (case side4 => exact (rR HO_399001.out).2.1)
                  rintro e w72 ⟨rfl,hb⟩
                  refine ⟨_,rfl,?_⟩
                  have n0_:=aM (rH HO_381000.out hb)
                  have n1_:=aM (rH HO_381001.out hb)
                  have n2_:=aM (rH HO_399000.out hb)
                  have n3_:=aM (rH HO_399001.out hb)
                  have n4_:=aM (rH HO405.out hb)
                  have n5_:=aM (rH HO408.out hb)
                  have n6_:=aM (bH BK380.out hb)
                  have n7_:=aM (bH BK398.out hb)
                  have n8_:=aM (bH BK410.out hb)
                  have n9_:=aM (lQ HB.out hb)
                  clear HO_381000
                  clear HO_381001
                  clear HO_399000
                  clear HO_399001
                  clear HO405
                  clear HO408
                  clear BK380
                  clear BK398
                  clear BK410
                  clear HB
                  have HO_381000:=n0_
                  have HO_381001:=n1_
                  have HO_399000:=n2_
                  have HO_399001:=n3_
                  have HO405:=n4_
                  have HO408:=n5_
                  have BK380:=n6_
                  have BK398:=n7_
                  have BK410:=n8_
                  have HB:=n9_
                  clear n0_ n1_ n2_ n3_ n4_ n5_ n6_ n7_ n8_ n9_
                  (try clear hb)
                  (try clear hb2)
                  (try clear hk)
                  (try clear hi)
                  refine hK.out _ _ ⟨(bC BK380.out 0).trans rfl,(bC BK380.out 1).trans rfl,(bC BK380.out 2).trans rfl,(bC BK398.out 0).trans rfl,(bC BK398.out 1).trans rfl,(bC BK398.out 2).trans rfl,(bC BK410.out 0).trans rfl,(bC BK410.out 1).trans rfl,(bC BK410.out 2).trans rfl⟩ (fun hHeld => ?_)
                  clear hK K
                  refine norm_ (a':=?_) ?_ ?_
                  rotate_left
                  ·show Act.put _ (some 73) _ = _
                   simp only [Act.put,q_ia11,q_cz11,q_cs11,i64_w,i32_w]
                   rfl
                  refine pQ (i:=5) (N:=some 74) (v:=?_) (a':=?_) #[bT,bT,bT,bT,bT,bT,bf,bf,bf,bf,bf,bf,bf,bf,bf,bf,bf,bf,bf,bf,bf,bf,bf,bf,bf,bf,bf,bf,bf,bf,bf,bf,bf,bf,bf,bf,bf,bf,bf,bf,bf,bf,bf,bf,bf,bf,bf,bf,bf,bf] (any_of HT_.out (by kernel_rfl)) ?_ ?_ ?_
                  rotate_left
                  ·intro w';go_simp;with_reducible rfl
                  rotate_left
                  ·simp only [Act.put,q_ia11,q_cz11,q_cs11,i64_w,i32_w];rfl
                  refine pQ (i:=6) (N:=some 75) (v:=?_) (a':=?_) #[bT,bT,bT,bT,bT,bT,bT,bf,bf,bf,bf,bf,bf,bf,bf,bf,bf,bf,bf,bf,bf,bf,bf,bf,bf,bf,bf,bf,bf,bf,bf,bf,bf,bf,bf,bf,bf,bf,bf,bf,bf,bf,bf,bf,bf,bf,bf,bf,bf,bf] (any_of HT_.out (by kernel_rfl)) ?_ ?_ ?_
                  rotate_left
                  ·intro w';go_simp;with_reducible rfl
                  rotate_left
                  ·simp only [Act.put,q_ia11,q_cz11,q_cs11,i64_w,i32_w];rfl
                  refine pQ (i:=8) (N:=some 77) (v:=?_) (a':=?_) #[bT,bT,bT,bT,bT,bT,bT,bf,bT,bf,bf,bf,bf,bf,bf,bf,bf,bf,bf,bf,bf,bf,bf,bf,bf,bf,bf,bf,bf,bf,bf,bf,bf,bf,bf,bf,bf,bf,bf,bf,bf,bf,bf,bf,bf,bf,bf,bf,bf,bf] (any_of HT_.out (by kernel_rfl)) ?_ ?_ ?_
                  rotate_left
                  ·intro w';go_simp;with_reducible rfl
                  rotate_left
                  ·simp only [Act.put,q_ia11,q_cz11,q_cs11,i64_w,i32_w];rfl
                  refine pQ (i:=10) (N:=some 79) (v:=?_) (a':=?_) #[bT,bT,bT,bT,bT,bT,bT,bf,bT,bf,bT,bf,bf,bf,bf,bf,bf,bf,bf,bf,bf,bf,bf,bf,bf,bf,bf,bf,bf,bf,bf,bf,bf,bf,bf,bf,bf,bf,bf,bf,bf,bf,bf,bf,bf,bf,bf,bf,bf,bf] (any_of HT_.out (by kernel_rfl)) ?_ ?_ ?_
                  rotate_left
                  ·intro w';go_simp;with_reducible rfl
                  rotate_left
                  ·simp only [Act.put,q_ia11,q_cz11,q_cs11,i64_w,i32_w];rfl
                  refine take_ (i:=7) (N:=some 76) (v:=?_) (a':=?_) #[bT,bT,bT,bT,bT,bT,bT,bT,bT,bf,bT,bf,bf,bf,bf,bf,bf,bf,bf,bf,bf,bf,bf,bf,bf,bf,bf,bf,bf,bf,bf,bf,bf,bf,bf,bf,bf,bf,bf,bf,bf,bf,bf,bf,bf,bf,bf,bf,bf,bf] rfl rfl (take_ofW HT_.out HW_.out (by kernel_rfl)) (fun _ _ _ h => h) (Or.inl ⟨by rfl,?_⟩) hHeld ?_ ?_
                  rotate_left
                  ·rintro w' ⟨s0,s1,s2,s3,s4,s5,s6,s7,s8⟩
                   go_simp
                   with_reducible rfl
                  rotate_left
                  ·simp only [Act.put,q_ia11,q_cz11,q_cs11,i64_w,i32_w];rfl
                  refine one_ (i:=9) (N:=some 78) #[bT,bT,bT,bT,bT,bT,bT,bT,bT,bT,bT,bf,bf,bf,bf,bf,bf,bf,bf,bf,bf,bf,bf,bf,bf,bf,bf,bf,bf,bf,bf,bf,bf,bf,bf,bf,bf,bf,bf,bf,bf,bf,bf,bf,bf,bf,bf,bf,bf,bf] rfl rfl (one_of HT_.out (by kernel_rfl)) (by decide) (fun K hK => ?_)
                  refine goes_ Try.func35 (by kernel_rfl) rfl #[.agg #[.slice Ao28 t391.length co28,.slice Ao31 t394.length co31,.string t397],.string (rdOf ByteArray.empty y384 (ji7))] (by rfl) rfl rfl (by (try simp only [List.map_toArray,List.map_cons,List.map_nil]);first|done|(simp only [hji7];rfl)|rfl|(simp only [List.length_drop,List.length_take];rfl)) ?_
                  with_reducible refine (impl_VarOf.calls k1 _ _ t391 _ _ t394 t397 (rdOf ByteArray.empty y384 (ji7)) t413 _ ?side1 ?side2 ?side3 ?side4 A50.out).mono ?_
                  (case side1 => repeat (first|exact (rR HO_399000.out).2.2|(with_reducible first|refine cA ?_ _|refine cN ?_ _|refine cD ?_)))
                  (case side2 => exact (rR HO_399000.out).2.1)
                  (case side3 => repeat (first|exact (rR HO_399001.out).2.2|(with_reducible first|refine cA ?_ _|refine cN ?_ _|refine cD ?_)))
                  (case side4 => exact (rR HO_399001.out).2.1)
                  rintro e w73 ⟨rfl,hb⟩
                  refine ⟨_,rfl,?_⟩
                  have n0_:=aM (rH HO_381000.out hb)
                  have n1_:=aM (rH HO_381001.out hb)
                  have n2_:=aM (rH HO_399000.out hb)
                  have n3_:=aM (rH HO_399001.out hb)
                  have n4_:=aM (rH HO405.out hb)
                  have n5_:=aM (rH HO408.out hb)
                  have n6_:=aM (bH BK380.out hb)
                  have n7_:=aM (bH BK398.out hb)
                  have n8_:=aM (bH BK410.out hb)
                  have n9_:=aM (lQ HB.out hb)
                  clear HO_381000
                  clear HO_381001
                  clear HO_399000
                  clear HO_399001
                  clear HO405
                  clear HO408
                  clear BK380
                  clear BK398
                  clear BK410
                  clear HB
                  have HO_381000:=n0_
                  have HO_381001:=n1_
                  have HO_399000:=n2_
                  have HO_399001:=n3_
                  have HO405:=n4_
                  have HO408:=n5_
                  have BK380:=n6_
                  have BK398:=n7_
                  have BK410:=n8_
                  have HB:=n9_
                  clear n0_ n1_ n2_ n3_ n4_ n5_ n6_ n7_ n8_ n9_
                  (try clear hb)
                  (try clear hb2)
                  (try clear hk)
                  (try clear hi)
                  refine hK.out _ _ ⟨(bC BK380.out 0).trans rfl,(bC BK380.out 1).trans rfl,(bC BK380.out 2).trans rfl,(bC BK398.out 0).trans rfl,(bC BK398.out 1).trans rfl,(bC BK398.out 2).trans rfl,(bC BK410.out 0).trans rfl,(bC BK410.out 1).trans rfl,(bC BK410.out 2).trans rfl⟩ (fun hHeld => ?_)
                  clear hK K
                  refine norm_ (a':=?_) ?_ ?_
                  rotate_left
                  ·show Act.put _ (some 78) _ = _
                   simp only [Act.put,q_ia11,q_cz11,q_cs11,i64_w,i32_w]
                   rfl
                  refine pQ (i:=11) (N:=some 80) (v:=?_) (a':=?_) #[bT,bT,bT,bT,bT,bT,bT,bT,bT,bT,bT,bT,bf,bf,bf,bf,bf,bf,bf,bf,bf,bf,bf,bf,bf,bf,bf,bf,bf,bf,bf,bf,bf,bf,bf,bf,bf,bf,bf,bf,bf,bf,bf,bf,bf,bf,bf,bf,bf,bf] (any_of HT_.out (by kernel_rfl)) ?_ ?_ ?_
                  rotate_left
                  ·intro w';go_simp;with_reducible rfl
                  rotate_left
                  ·simp only [Act.put,q_ia11,q_cz11,q_cs11,i64_w,i32_w];rfl
                  refine pQ (i:=12) (N:=some 81) (v:=?_) (a':=?_) #[bT,bT,bT,bT,bT,bT,bT,bT,bT,bT,bT,bT,bT,bf,bf,bf,bf,bf,bf,bf,bf,bf,bf,bf,bf,bf,bf,bf,bf,bf,bf,bf,bf,bf,bf,bf,bf,bf,bf,bf,bf,bf,bf,bf,bf,bf,bf,bf,bf,bf] (any_of HT_.out (by kernel_rfl)) ?_ ?_ ?_
                  rotate_left
                  ·intro w';go_simp;with_reducible rfl
                  rotate_left
                  ·simp only [Act.put,q_ia11,q_cz11,q_cs11,i64_w,i32_w];rfl
                  refine pQ (i:=13) (N:=some 82) (v:=?_) (a':=?_) #[bT,bT,bT,bT,bT,bT,bT,bT,bT,bT,bT,bT,bT,bT,bf,bf,bf,bf,bf,bf,bf,bf,bf,bf,bf,bf,bf,bf,bf,bf,bf,bf,bf,bf,bf,bf,bf,bf,bf,bf,bf,bf,bf,bf,bf,bf,bf,bf,bf,bf] (any_of HT_.out (by kernel_rfl)) ?_ ?_ ?_
                  rotate_left
                  ·intro w';go_simp;with_reducible rfl
                  rotate_left
                  ·simp only [Act.put,q_ia11,q_cz11,q_cs11,i64_w,i32_w];rfl
                  refine pQ (i:=15) (N:=some 84) (v:=?_) (a':=?_) #[bT,bT,bT,bT,bT,bT,bT,bT,bT,bT,bT,bT,bT,bT,bf,bT,bf,bf,bf,bf,bf,bf,bf,bf,bf,bf,bf,bf,bf,bf,bf,bf,bf,bf,bf,bf,bf,bf,bf,bf,bf,bf,bf,bf,bf,bf,bf,bf,bf,bf] (any_of HT_.out (by kernel_rfl)) ?_ ?_ ?_
                  rotate_left
                  ·intro w';go_simp;with_reducible rfl
                  rotate_left
                  ·simp only [Act.put,q_ia11,q_cz11,q_cs11,i64_w,i32_w];rfl
                  refine take_ (i:=14) (N:=some 83) (v:=?_) (a':=?_) #[bT,bT,bT,bT,bT,bT,bT,bT,bT,bT,bT,bT,bT,bT,bT,bT,bf,bf,bf,bf,bf,bf,bf,bf,bf,bf,bf,bf,bf,bf,bf,bf,bf,bf,bf,bf,bf,bf,bf,bf,bf,bf,bf,bf,bf,bf,bf,bf,bf,bf] rfl rfl (take_ofW HT_.out HW_.out (by kernel_rfl)) (fun _ _ _ h => h) (Or.inl ⟨by rfl,?_⟩) hHeld ?_ ?_
                  rotate_left
                  ·rintro w' ⟨s0,s1,s2,s3,s4,s5,s6,s7,s8⟩
                   go_simp
                   with_reducible rfl
                  rotate_left
                  ·simp only [Act.put,q_ia11,q_cz11,q_cs11,i64_w,i32_w];rfl
                  refine one_ (i:=16) (N:=some 85) #[bT,bT,bT,bT,bT,bT,bT,bT,bT,bT,bT,bT,bT,bT,bT,bT,bT,bf,bf,bf,bf,bf,bf,bf,bf,bf,bf,bf,bf,bf,bf,bf,bf,bf,bf,bf,bf,bf,bf,bf,bf,bf,bf,bf,bf,bf,bf,bf,bf,bf] rfl rfl (one_of HT_.out (by kernel_rfl)) (by decide) (fun K hK => ?_)
                  refine goes_ Try.func35 (by kernel_rfl) rfl #[.agg #[.slice Ao64 t403.length co64,.slice Ao68 t406.length co68,.string t409],.string (rdOf ByteArray.empty y384 (ji7))] (by rfl) rfl rfl (by (try simp only [List.map_toArray,List.map_cons,List.map_nil]);first|done|(simp only [hji7];rfl)|rfl|(simp only [List.length_drop,List.length_take];rfl)) ?_
                  with_reducible refine (impl_VarOf.calls k1 _ _ t403 _ _ t406 t409 (rdOf ByteArray.empty y384 (ji7)) t414 _ ?side1 ?side2 ?side3 ?side4 A52.out).mono ?_
                  (case side1 => repeat (first|exact (rR HO405.out).2.2|(with_reducible first|refine cA ?_ _|refine cN ?_ _|refine cD ?_)))
                  (case side2 => exact (rR HO405.out).2.1)
                  (case side3 => repeat (first|exact (rR HO408.out).2.2|(with_reducible first|refine cA ?_ _|refine cN ?_ _|refine cD ?_)))
                  (case side4 => exact (rR HO408.out).2.1)
                  rintro e w74 ⟨rfl,hb⟩
                  refine ⟨_,rfl,?_⟩
                  have n0_:=aM (rH HO_381000.out hb)
                  have n1_:=aM (rH HO_381001.out hb)
                  have n2_:=aM (rH HO_399000.out hb)
                  have n3_:=aM (rH HO_399001.out hb)
                  have n4_:=aM (rH HO405.out hb)
                  have n5_:=aM (rH HO408.out hb)
                  have n6_:=aM (bH BK380.out hb)
                  have n7_:=aM (bH BK398.out hb)
                  have n8_:=aM (bH BK410.out hb)
                  have n9_:=aM (lQ HB.out hb)
                  clear HO_381000
                  clear HO_381001
                  clear HO_399000
                  clear HO_399001
                  clear HO405
                  clear HO408
                  clear BK380
                  clear BK398
                  clear BK410
                  clear HB
                  have HO_381000:=n0_
                  have HO_381001:=n1_
                  have HO_399000:=n2_
                  have HO_399001:=n3_
                  have HO405:=n4_
                  have HO408:=n5_
                  have BK380:=n6_
                  have BK398:=n7_
                  have BK410:=n8_
                  have HB:=n9_
                  clear n0_ n1_ n2_ n3_ n4_ n5_ n6_ n7_ n8_ n9_
                  (try clear hb)
                  (try clear hb2)
                  (try clear hk)
                  (try clear hi)
                  refine hK.out _ _ ⟨(bC BK380.out 0).trans rfl,(bC BK380.out 1).trans rfl,(bC BK380.out 2).trans rfl,(bC BK398.out 0).trans rfl,(bC BK398.out 1).trans rfl,(bC BK398.out 2).trans rfl,(bC BK410.out 0).trans rfl,(bC BK410.out 1).trans rfl,(bC BK410.out 2).trans rfl⟩ (fun hHeld => ?_)
                  clear hK K
                  refine norm_ (a':=?_) ?_ ?_
                  rotate_left
                  ·show Act.put _ (some 85) _ = _
                   simp only [Act.put,q_ia11,q_cz11,q_cs11,i64_w,i32_w]
                   rfl
                  refine pQ (i:=17) (N:=some 86) (v:=?_) (a':=?_) #[bT,bT,bT,bT,bT,bT,bT,bT,bT,bT,bT,bT,bT,bT,bT,bT,bT,bT,bf,bf,bf,bf,bf,bf,bf,bf,bf,bf,bf,bf,bf,bf,bf,bf,bf,bf,bf,bf,bf,bf,bf,bf,bf,bf,bf,bf,bf,bf,bf,bf] (any_of HT_.out (by kernel_rfl)) ?_ ?_ ?_
                  rotate_left
                  ·intro w';go_simp;with_reducible rfl
                  rotate_left
                  ·simp only [Act.put,q_ia11,q_cz11,q_cs11,i64_w,i32_w];rfl
                  refine pQ (i:=18) (N:=some 87) (v:=?_) (a':=?_) #[bT,bT,bT,bT,bT,bT,bT,bT,bT,bT,bT,bT,bT,bT,bT,bT,bT,bT,bT,bf,bf,bf,bf,bf,bf,bf,bf,bf,bf,bf,bf,bf,bf,bf,bf,bf,bf,bf,bf,bf,bf,bf,bf,bf,bf,bf,bf,bf,bf,bf] (any_of HT_.out (by kernel_rfl)) ?_ ?_ ?_
                  rotate_left
                  ·intro w';go_simp;with_reducible rfl
                  rotate_left
                  ·simp only [Act.put,q_ia11,q_cz11,q_cs11,i64_w,i32_w];rfl
                  refine pQ (i:=19) (N:=some 88) (v:=?_) (a':=?_) #[bT,bT,bT,bT,bT,bT,bT,bT,bT,bT,bT,bT,bT,bT,bT,bT,bT,bT,bT,bT,bf,bf,bf,bf,bf,bf,bf,bf,bf,bf,bf,bf,bf,bf,bf,bf,bf,bf,bf,bf,bf,bf,bf,bf,bf,bf,bf,bf,bf,bf] (any_of HT_.out (by kernel_rfl)) ?_ ?_ ?_
                  rotate_left
                  ·intro w';go_simp;with_reducible rfl
                  rotate_left
                  ·simp only [Act.put,q_ia11,q_cz11,q_cs11,i64_w,i32_w];rfl
                  refine pQ (i:=20) (N:=some 89) (v:=?_) (a':=?_) #[bT,bT,bT,bT,bT,bT,bT,bT,bT,bT,bT,bT,bT,bT,bT,bT,bT,bT,bT,bT,bT,bf,bf,bf,bf,bf,bf,bf,bf,bf,bf,bf,bf,bf,bf,bf,bf,bf,bf,bf,bf,bf,bf,bf,bf,bf,bf,bf,bf,bf] (any_of HT_.out (by kernel_rfl)) ?_ ?_ ?_
                  rotate_left
                  ·intro w';go_simp;with_reducible rfl
                  rotate_left
                  ·simp only [Act.put,q_ia11,q_cz11,q_cs11,i64_w,i32_w];rfl
                  refine pQ (i:=21) (N:=some 90) (v:=?_) (a':=?_) #[bT,bT,bT,bT,bT,bT,bT,bT,bT,bT,bT,bT,bT,bT,bT,bT,bT,bT,bT,bT,bT,bT,bf,bf,bf,bf,bf,bf,bf,bf,bf,bf,bf,bf,bf,bf,bf,bf,bf,bf,bf,bf,bf,bf,bf,bf,bf,bf,bf,bf] (any_of HT_.out (by kernel_rfl)) ?_ ?_ ?_
                  rotate_left
                  ·intro w';go_simp;with_reducible rfl
                  rotate_left
                  ·simp only [Act.put,q_ia11,q_cz11,q_cs11,i64_w,i32_w];rfl
                  refine pQ (i:=23) (N:=some 92) (v:=?_) (a':=?_) #[bT,bT,bT,bT,bT,bT,bT,bT,bT,bT,bT,bT,bT,bT,bT,bT,bT,bT,bT,bT,bT,bT,bf,bT,bf,bf,bf,bf,bf,bf,bf,bf,bf,bf,bf,bf,bf,bf,bf,bf,bf,bf,bf,bf,bf,bf,bf,bf,bf,bf] (any_of HT_.out (by kernel_rfl)) ?_ ?_ ?_
                  rotate_left
                  ·intro w';go_simp;with_reducible rfl
                  rotate_left
                  ·simp only [Act.put,q_ia11,q_cz11,q_cs11,i64_w,i32_w];rfl
                  refine take_ (i:=22) (N:=some 91) (v:=?_) (a':=?_) #[bT,bT,bT,bT,bT,bT,bT,bT,bT,bT,bT,bT,bT,bT,bT,bT,bT,bT,bT,bT,bT,bT,bT,bT,bf,bf,bf,bf,bf,bf,bf,bf,bf,bf,bf,bf,bf,bf,bf,bf,bf,bf,bf,bf,bf,bf,bf,bf,bf,bf] rfl rfl (take_ofW HT_.out HW_.out (by kernel_rfl)) (fun _ _ _ h => h) (Or.inl ⟨by rfl,?_⟩) hHeld ?_ ?_
                  rotate_left
                  ·rintro w' ⟨s0,s1,s2,s3,s4,s5,s6,s7,s8⟩
                   go_simp
                   with_reducible rfl
                  rotate_left
                  ·simp only [Act.put,q_ia11,q_cz11,q_cs11,i64_w,i32_w];rfl
                  refine take_ (i:=24) (N:=some 93) (v:=?_) (a':=?_) #[bT,bT,bT,bT,bT,bT,bT,bT,bT,bT,bT,bT,bT,bT,bT,bT,bT,bT,bT,bT,bT,bT,bT,bT,bT,bf,bf,bf,bf,bf,bf,bf,bf,bf,bf,bf,bf,bf,bf,bf,bf,bf,bf,bf,bf,bf,bf,bf,bf,bf] rfl rfl (take_ofW HT_.out HW_.out (by kernel_rfl)) (fun _ _ _ h => h) (Or.inl ⟨by rfl,?_⟩) hHeld ?_ ?_
                  rotate_left
                  ·rintro w' ⟨s0,s1,s2,s3,s4,s5,s6,s7,s8⟩
                   go_simp
                   with_reducible rfl
                  rotate_left
                  ·simp only [Act.put,q_ia11,q_cz11,q_cs11,i64_w,i32_w];rfl
                  refine pQ (i:=25) (N:=some 94) (v:=?_) (a':=?_) #[bT,bT,bT,bT,bT,bT,bT,bT,bT,bT,bT,bT,bT,bT,bT,bT,bT,bT,bT,bT,bT,bT,bT,bT,bT,bT,bf,bf,bf,bf,bf,bf,bf,bf,bf,bf,bf,bf,bf,bf,bf,bf,bf,bf,bf,bf,bf,bf,bf,bf] (any_of HT_.out (by kernel_rfl)) ?_ ?_ ?_
                  rotate_left
                  ·intro w';go_simp;with_reducible rfl
                  rotate_left
                  ·simp only [Act.put,q_ia11,q_cz11,q_cs11,i64_w,i32_w];rfl
                  refine pQ (i:=26) (N:=some 95) (v:=?_) (a':=?_) #[bT,bT,bT,bT,bT,bT,bT,bT,bT,bT,bT,bT,bT,bT,bT,bT,bT,bT,bT,bT,bT,bT,bT,bT,bT,bT,bT,bf,bf,bf,bf,bf,bf,bf,bf,bf,bf,bf,bf,bf,bf,bf,bf,bf,bf,bf,bf,bf,bf,bf] (any_of HT_.out (by kernel_rfl)) ?_ ?_ ?_
                  rotate_left
                  ·intro w';go_simp;with_reducible rfl
                  rotate_left
                  ·simp only [Act.put,q_ia11,q_cz11,q_cs11,i64_w,i32_w];rfl
                  refine pQ (i:=27) (N:=some 96) (v:=?_) (a':=?_) #[bT,bT,bT,bT,bT,bT,bT,bT,bT,bT,bT,bT,bT,bT,bT,bT,bT,bT,bT,bT,bT,bT,bT,bT,bT,bT,bT,bT,bf,bf,bf,bf,bf,bf,bf,bf,bf,bf,bf,bf,bf,bf,bf,bf,bf,bf,bf,bf,bf,bf] (any_of HT_.out (by kernel_rfl)) ?_ ?_ ?_
                  rotate_left
                  ·intro w';go_simp;with_reducible rfl
                  rotate_left
                  ·simp only [Act.put,q_ia11,q_cz11,q_cs11,i64_w,i32_w];rfl
                  refine pQ (i:=28) (N:=some 97) (v:=?_) (a':=?_) #[bT,bT,bT,bT,bT,bT,bT,bT,bT,bT,bT,bT,bT,bT,bT,bT,bT,bT,bT,bT,bT,bT,bT,bT,bT,bT,bT,bT,bT,bf,bf,bf,bf,bf,bf,bf,bf,bf,bf,bf,bf,bf,bf,bf,bf,bf,bf,bf,bf,bf] (any_of HT_.out (by kernel_rfl)) ?_ ?_ ?_
                  rotate_left
                  ·intro w';go_simp;with_reducible rfl
                  rotate_left
                  ·simp only [Act.put,q_ia11,q_cz11,q_cs11,i64_w,i32_w];rfl
                  refine pQ (i:=31) (N:=some 100) (v:=?_) (a':=?_) #[bT,bT,bT,bT,bT,bT,bT,bT,bT,bT,bT,bT,bT,bT,bT,bT,bT,bT,bT,bT,bT,bT,bT,bT,bT,bT,bT,bT,bT,bf,bf,bT,bf,bf,bf,bf,bf,bf,bf,bf,bf,bf,bf,bf,bf,bf,bf,bf,bf,bf] (any_of HT_.out (by kernel_rfl)) ?_ ?_ ?_
                  rotate_left
                  ·intro w';go_simp;with_reducible rfl
                  rotate_left
                  ·simp only [Act.put,q_ia11,q_cz11,q_cs11,i64_w,i32_w];rfl
                  refine take_ (i:=29) (N:=some 98) (v:=?_) (a':=?_) #[bT,bT,bT,bT,bT,bT,bT,bT,bT,bT,bT,bT,bT,bT,bT,bT,bT,bT,bT,bT,bT,bT,bT,bT,bT,bT,bT,bT,bT,bT,bf,bT,bf,bf,bf,bf,bf,bf,bf,bf,bf,bf,bf,bf,bf,bf,bf,bf,bf,bf] rfl rfl (take_ofW HT_.out HW_.out (by kernel_rfl)) (fun _ _ _ h => h) (Or.inl ⟨by rfl,?_⟩) hHeld ?_ ?_
                  rotate_left
                  ·rintro w' ⟨s0,s1,s2,s3,s4,s5,s6,s7,s8⟩
                   go_simp
                   with_reducible rfl
                  rotate_left
                  ·simp only [Act.put,q_ia11,q_cz11,q_cs11,i64_w,i32_w];rfl
                  refine pQ (i:=30) (N:=some 99) (v:=?_) (a':=?_) #[bT,bT,bT,bT,bT,bT,bT,bT,bT,bT,bT,bT,bT,bT,bT,bT,bT,bT,bT,bT,bT,bT,bT,bT,bT,bT,bT,bT,bT,bT,bT,bT,bf,bf,bf,bf,bf,bf,bf,bf,bf,bf,bf,bf,bf,bf,bf,bf,bf,bf] (any_of HT_.out (by kernel_rfl)) ?_ ?_ ?_
                  rotate_left
                  ·intro w';go_simp;with_reducible rfl
                  rotate_left
                  ·simp only [Act.put,q_ia11,q_cz11,q_cs11,i64_w,i32_w];rfl
                  refine take_ (i:=32) (N:=some 101) (v:=?_) (a':=?_) #[bT,bT,bT,bT,bT,bT,bT,bT,bT,bT,bT,bT,bT,bT,bT,bT,bT,bT,bT,bT,bT,bT,bT,bT,bT,bT,bT,bT,bT,bT,bT,bT,bT,bf,bf,bf,bf,bf,bf,bf,bf,bf,bf,bf,bf,bf,bf,bf,bf,bf] rfl rfl (take_ofW HT_.out HW_.out (by kernel_rfl)) (fun _ _ _ h => h) (Or.inl ⟨by rfl,?_⟩) hHeld ?_ ?_
                  rotate_left
                  ·rintro w' ⟨s0,s1,s2,s3,s4,s5,s6,s7,s8⟩
                   go_simp
                   with_reducible rfl
                  rotate_left
                  ·simp only [Act.put,q_ia11,q_cz11,q_cs11,i64_w,i32_w];rfl
                  refine pQ (i:=33) (N:=some 102) (v:=?_) (a':=?_) #[bT,bT,bT,bT,bT,bT,bT,bT,bT,bT,bT,bT,bT,bT,bT,bT,bT,bT,bT,bT,bT,bT,bT,bT,bT,bT,bT,bT,bT,bT,bT,bT,bT,bT,bf,bf,bf,bf,bf,bf,bf,bf,bf,bf,bf,bf,bf,bf,bf,bf] (any_of HT_.out (by kernel_rfl)) ?_ ?_ ?_
                  rotate_left
                  ·intro w';go_simp;with_reducible rfl
                  rotate_left
                  ·simp only [Act.put,q_ia11,q_cz11,q_cs11,i64_w,i32_w];rfl
                  refine pQ (i:=34) (N:=some 103) (v:=?_) (a':=?_) #[bT,bT,bT,bT,bT,bT,bT,bT,bT,bT,bT,bT,bT,bT,bT,bT,bT,bT,bT,bT,bT,bT,bT,bT,bT,bT,bT,bT,bT,bT,bT,bT,bT,bT,bT,bf,bf,bf,bf,bf,bf,bf,bf,bf,bf,bf,bf,bf,bf,bf] (any_of HT_.out (by kernel_rfl)) ?_ ?_ ?_
                  rotate_left
                  ·intro w';go_simp;with_reducible rfl
                  rotate_left
                  ·simp only [Act.put,q_ia11,q_cz11,q_cs11,i64_w,i32_w];rfl
                  refine pQ (i:=35) (N:=some 104) (v:=?_) (a':=?_) #[bT,bT,bT,bT,bT,bT,bT,bT,bT,bT,bT,bT,bT,bT,bT,bT,bT,bT,bT,bT,bT,bT,bT,bT,bT,bT,bT,bT,bT,bT,bT,bT,bT,bT,bT,bT,bf,bf,bf,bf,bf,bf,bf,bf,bf,bf,bf,bf,bf,bf] (any_of HT_.out (by kernel_rfl)) ?_ ?_ ?_
                  rotate_left
                  ·intro w';go_simp;with_reducible rfl
                  rotate_left
                  ·simp only [Act.put,q_ia11,q_cz11,q_cs11,i64_w,i32_w];rfl
                  refine pQ (i:=36) (N:=some 105) (v:=?_) (a':=?_) #[bT,bT,bT,bT,bT,bT,bT,bT,bT,bT,bT,bT,bT,bT,bT,bT,bT,bT,bT,bT,bT,bT,bT,bT,bT,bT,bT,bT,bT,bT,bT,bT,bT,bT,bT,bT,bT,bf,bf,bf,bf,bf,bf,bf,bf,bf,bf,bf,bf,bf] (any_of HT_.out (by kernel_rfl)) ?_ ?_ ?_
                  rotate_left
                  ·intro w';go_simp;with_reducible rfl
                  rotate_left
                  ·simp only [Act.put,q_ia11,q_cz11,q_cs11,i64_w,i32_w];rfl
                  refine take_ (i:=37) (N:=some 106) (v:=?_) (a':=?_) #[bT,bT,bT,bT,bT,bT,bT,bT,bT,bT,bT,bT,bT,bT,bT,bT,bT,bT,bT,bT,bT,bT,bT,bT,bT,bT,bT,bT,bT,bT,bT,bT,bT,bT,bT,bT,bT,bT,bf,bf,bf,bf,bf,bf,bf,bf,bf,bf,bf,bf] rfl rfl (take_ofW HT_.out HW_.out (by kernel_rfl)) (fun _ _ _ h => h) (Or.inl ⟨by rfl,?_⟩) hHeld ?_ ?_
                  rotate_left
                  ·rintro w' ⟨s0,s1,s2,s3,s4,s5,s6,s7,s8⟩
                   go_simp
                   with_reducible rfl
                  rotate_left
                  ·simp only [Act.put,q_ia11,q_cz11,q_cs11,i64_w,i32_w];rfl
                  refine one_ (i:=38) (N:=some 107) #[bT,bT,bT,bT,bT,bT,bT,bT,bT,bT,bT,bT,bT,bT,bT,bT,bT,bT,bT,bT,bT,bT,bT,bT,bT,bT,bT,bT,bT,bT,bT,bT,bT,bT,bT,bT,bT,bT,bT,bf,bf,bf,bf,bf,bf,bf,bf,bf,bf,bf] rfl rfl (one_of HT_.out (by kernel_rfl)) (by decide) (fun K hK => ?_)
                  refine goes_ Try.func35 (by kernel_rfl) rfl #[.agg #[.slice Ao16 t373.length co16,.slice Ao18 t376.length co18,.string t379],.string (⟨#[110,111,110,101]⟩ : ByteArray)] (by rfl) rfl rfl (by (try simp only [List.map_toArray,List.map_cons,List.map_nil]);first|done|rfl|(simp only [List.length_drop,List.length_take];rfl)) ?_
                  with_reducible refine (impl_VarOf.calls k1 _ _ t373 _ _ t376 t379 (⟨#[110,111,110,101]⟩ : ByteArray) t415 _ ?side1 ?side2 ?side3 ?side4 A56.out).mono ?_
                  (case side1 => repeat (first|exact (rR HO_381000.out).2.2|(with_reducible first|refine cA ?_ _|refine cN ?_ _|refine cD ?_)))
                  (case side2 => exact (rR HO_381000.out).2.1)
                  (case side3 => repeat (first|exact (rR HO_381001.out).2.2|(with_reducible first|refine cA ?_ _|refine cN ?_ _|refine cD ?_)))
                  (case side4 => exact (rR HO_381001.out).2.1)
                  rintro e w75 ⟨rfl,hb⟩
                  refine ⟨_,rfl,?_⟩
                  have n0_:=aM (rH HO_381000.out hb)
                  have n1_:=aM (rH HO_381001.out hb)
                  have n2_:=aM (rH HO_399000.out hb)
                  have n3_:=aM (rH HO_399001.out hb)
                  have n4_:=aM (rH HO405.out hb)
                  have n5_:=aM (rH HO408.out hb)
                  have n6_:=aM (bH BK380.out hb)
                  have n7_:=aM (bH BK398.out hb)
                  have n8_:=aM (bH BK410.out hb)
                  have n9_:=aM (lQ HB.out hb)
                  clear HO_381000
                  clear HO_381001
                  clear HO_399000
                  clear HO_399001
                  clear HO405
                  clear HO408
                  clear BK380
                  clear BK398
                  clear BK410
                  clear HB
                  have HO_381000:=n0_
                  have HO_381001:=n1_
                  have HO_399000:=n2_
                  have HO_399001:=n3_
                  have HO405:=n4_
                  have HO408:=n5_
                  have BK380:=n6_
                  have BK398:=n7_
                  have BK410:=n8_
                  have HB:=n9_
                  clear n0_ n1_ n2_ n3_ n4_ n5_ n6_ n7_ n8_ n9_
                  (try clear hb)
                  (try clear hb2)
                  (try clear hk)
                  (try clear hi)
                  refine hK.out _ _ ⟨(bC BK380.out 0).trans rfl,(bC BK380.out 1).trans rfl,(bC BK380.out 2).trans rfl,(bC BK398.out 0).trans rfl,(bC BK398.out 1).trans rfl,(bC BK398.out 2).trans rfl,(bC BK410.out 0).trans rfl,(bC BK410.out 1).trans rfl,(bC BK410.out 2).trans rfl⟩ (fun hHeld => ?_)
                  clear hK K
                  refine norm_ (a':=?_) ?_ ?_
                  rotate_left
                  ·show Act.put _ (some 107) _ = _
                   simp only [Act.put,q_ia11,q_cz11,q_cs11,i64_w,i32_w]
                   rfl
                  refine pQ (i:=39) (N:=some 108) (v:=?_) (a':=?_) #[bT,bT,bT,bT,bT,bT,bT,bT,bT,bT,bT,bT,bT,bT,bT,bT,bT,bT,bT,bT,bT,bT,bT,bT,bT,bT,bT,bT,bT,bT,bT,bT,bT,bT,bT,bT,bT,bT,bT,bT,bf,bf,bf,bf,bf,bf,bf,bf,bf,bf] (any_of HT_.out (by kernel_rfl)) ?_ ?_ ?_
                  rotate_left
                  ·intro w';go_simp;with_reducible rfl
                  rotate_left
                  ·simp only [Act.put,q_ia11,q_cz11,q_cs11,i64_w,i32_w];rfl
                  refine pQ (i:=40) (N:=some 109) (v:=?_) (a':=?_) #[bT,bT,bT,bT,bT,bT,bT,bT,bT,bT,bT,bT,bT,bT,bT,bT,bT,bT,bT,bT,bT,bT,bT,bT,bT,bT,bT,bT,bT,bT,bT,bT,bT,bT,bT,bT,bT,bT,bT,bT,bT,bf,bf,bf,bf,bf,bf,bf,bf,bf] (any_of HT_.out (by kernel_rfl)) ?_ ?_ ?_
                  rotate_left
                  ·intro w';go_simp;with_reducible rfl
                  rotate_left
                  ·simp only [Act.put,q_ia11,q_cz11,q_cs11,i64_w,i32_w];rfl
                  refine pQ (i:=41) (N:=some 110) (v:=?_) (a':=?_) #[bT,bT,bT,bT,bT,bT,bT,bT,bT,bT,bT,bT,bT,bT,bT,bT,bT,bT,bT,bT,bT,bT,bT,bT,bT,bT,bT,bT,bT,bT,bT,bT,bT,bT,bT,bT,bT,bT,bT,bT,bT,bT,bf,bf,bf,bf,bf,bf,bf,bf] (any_of HT_.out (by kernel_rfl)) ?_ ?_ ?_
                  rotate_left
                  ·intro w';go_simp;with_reducible rfl
                  rotate_left
                  ·simp only [Act.put,q_ia11,q_cz11,q_cs11,i64_w,i32_w];rfl
                  refine pQ (i:=44) (N:=some 113) (v:=?_) (a':=?_) #[bT,bT,bT,bT,bT,bT,bT,bT,bT,bT,bT,bT,bT,bT,bT,bT,bT,bT,bT,bT,bT,bT,bT,bT,bT,bT,bT,bT,bT,bT,bT,bT,bT,bT,bT,bT,bT,bT,bT,bT,bT,bT,bf,bf,bT,bf,bf,bf,bf,bf] (any_of HT_.out (by kernel_rfl)) ?_ ?_ ?_
                  rotate_left
                  ·intro w';go_simp;with_reducible rfl
                  rotate_left
                  ·simp only [Act.put,q_ia11,q_cz11,q_cs11,i64_w,i32_w];rfl
                  refine pQ (i:=45) (N:=some 114) (v:=?_) (a':=?_) #[bT,bT,bT,bT,bT,bT,bT,bT,bT,bT,bT,bT,bT,bT,bT,bT,bT,bT,bT,bT,bT,bT,bT,bT,bT,bT,bT,bT,bT,bT,bT,bT,bT,bT,bT,bT,bT,bT,bT,bT,bT,bT,bf,bf,bT,bT,bf,bf,bf,bf] (any_of HT_.out (by kernel_rfl)) ?_ ?_ ?_
                  rotate_left
                  ·intro w';go_simp;with_reducible rfl
                  rotate_left
                  ·simp only [Act.put,q_ia11,q_cz11,q_cs11,i64_w,i32_w];rfl
                  refine take_ (i:=42) (N:=some 111) (v:=?_) (a':=?_) #[bT,bT,bT,bT,bT,bT,bT,bT,bT,bT,bT,bT,bT,bT,bT,bT,bT,bT,bT,bT,bT,bT,bT,bT,bT,bT,bT,bT,bT,bT,bT,bT,bT,bT,bT,bT,bT,bT,bT,bT,bT,bT,bT,bf,bT,bT,bf,bf,bf,bf] rfl rfl (take_ofW HT_.out HW_.out (by kernel_rfl)) (fun _ _ _ h => h) (Or.inl ⟨by rfl,?_⟩) hHeld ?_ ?_
                  rotate_left
                  ·rintro w' ⟨s0,s1,s2,s3,s4,s5,s6,s7,s8⟩
                   go_simp
                   with_reducible rfl
                  rotate_left
                  ·simp only [Act.put,q_ia11,q_cz11,q_cs11,i64_w,i32_w];rfl
                  refine take_ (i:=43) (N:=some 112) (v:=?_) (a':=?_) #[bT,bT,bT,bT,bT,bT,bT,bT,bT,bT,bT,bT,bT,bT,bT,bT,bT,bT,bT,bT,bT,bT,bT,bT,bT,bT,bT,bT,bT,bT,bT,bT,bT,bT,bT,bT,bT,bT,bT,bT,bT,bT,bT,bT,bT,bT,bf,bf,bf,bf] rfl rfl (take_ofW HT_.out HW_.out (by kernel_rfl)) (fun _ _ _ h => h) (Or.inl ⟨by rfl,?_⟩) hHeld ?_ ?_
                  rotate_left
                  ·rintro w' ⟨s0,s1,s2,s3,s4,s5,s6,s7,s8⟩
                   go_simp
                   with_reducible rfl
                  rotate_left
                  ·simp only [Act.put,q_ia11,q_cz11,q_cs11,i64_w,i32_w];rfl
                  refine one_ (i:=46) (N:=some 115) #[bT,bT,bT,bT,bT,bT,bT,bT,bT,bT,bT,bT,bT,bT,bT,bT,bT,bT,bT,bT,bT,bT,bT,bT,bT,bT,bT,bT,bT,bT,bT,bT,bT,bT,bT,bT,bT,bT,bT,bT,bT,bT,bT,bT,bT,bT,bT,bf,bf,bf] rfl rfl (one_of HT_.out (by kernel_rfl)) (by decide) (fun K hK => ?_)
                  refine goes_ Try.func28 (by kernel_rfl) rfl #[.agg #[.slice Ao16 t373.length co16,.slice Ao18 t376.length co18,.string t379],.string (rdOf ByteArray.empty y384 (ji7)),.string ((⟨#[118,97,108,117,101]⟩ : ByteArray) ++ t390)] (by rfl) rfl rfl (by (try simp only [List.map_toArray,List.map_cons,List.map_nil]);first|done|(simp only [hji7];rfl)|rfl|(simp only [List.length_drop,List.length_take];rfl)) ?_
                  with_reducible refine (spec_SetVar.calls k1 _ _ t373 _ _ t376 t379 (rdOf ByteArray.empty y384 (ji7)) ((⟨#[118,97,108,117,101]⟩ : ByteArray) ++ t390) t416 t419 t422 _ ?side1 ?side2 ?side3 ?side4 A58.out).mono ?_
                  (case side1 => repeat (first|exact (rR HO_381000.out).2.2|(with_reducible first|refine cA ?_ _|refine cN ?_ _|refine cD ?_)))
                  (case side2 => exact (rR HO_381000.out).2.1)
                  (case side3 => repeat (first|exact (rR HO_381001.out).2.2|(with_reducible first|refine cA ?_ _|refine cN ?_ _|refine cD ?_)))
                  (case side4 => exact (rR HO_381001.out).2.1)
                  rintro e w76 ⟨v417,v420,rfl,ho0,ho1,hb⟩
                  refine ⟨_,rfl,?_⟩
                  have n0_:=aM (rE (rZ HO_381000.out) (rS ho0) hb)
                  have n1_:=aM (rE (rZ HO_381001.out) (rS ho1) hb)
                  have n2_:=aM (rE (rZ HO_399000.out) (rS ho0) hb)
                  have n3_:=aM (rE (rZ HO_399001.out) (rS ho1) hb)
                  have n4_:=aM (rE (rZ HO405.out) (rS ho0) hb)
                  have n5_:=aM (rE (rZ HO408.out) (rS ho1) hb)
                  have n6_:=aM (rL (rW (rW (rW ho0 (rT (rZ HO_381000.out))) (rT (rZ HO_399000.out))) (rT (rZ HO405.out))) (lZ (by repeat (first|(with_reducible first|exact HB.out|apply lA|apply lN|apply lD|refine lS ?_ GE380.out|refine lS ?_ GE398.out|refine lS ?_ GE410.out)|exact HB.out))))
                  have n7_:=aM (rL (rW (rW (rW ho1 (rT (rZ HO_381001.out))) (rT (rZ HO_399001.out))) (rT (rZ HO408.out))) (lZ (by repeat (first|(with_reducible first|exact HB.out|apply lA|apply lN|apply lD|refine lS ?_ GE380.out|refine lS ?_ GE398.out|refine lS ?_ GE410.out)|exact HB.out))))
                  have n8_:=aM (bH BK380.out hb)
                  have n9_:=aM (bH BK398.out hb)
                  have n10_:=aM (bH BK410.out hb)
                  have n11_:=aM (lQ HB.out hb)
                  clear HO_381000
                  clear HO_381001
                  clear HO_399000
                  clear HO_399001
                  clear HO405
                  clear HO408
                  clear BK380
                  clear BK398
                  clear BK410
                  clear HB
                  have HO_381000:=n0_
                  have HO_381001:=n1_
                  have HO_399000:=n2_
                  have HO_399001:=n3_
                  have HO405:=n4_
                  have HO408:=n5_
                  have HO418:=n6_
                  have HO421:=n7_
                  have BK380:=n8_
                  have BK398:=n9_
                  have BK410:=n10_
                  have HB:=n11_
                  clear n0_ n1_ n2_ n3_ n4_ n5_ n6_ n7_ n8_ n9_ n10_ n11_
                  (try clear hb)
                  (try clear hb2)
                  (try clear hk)
                  (try clear hi)
                  (try clear ho0)
                  (try clear ho1)
                  obtain ⟨Ao77,co77,eo77⟩:=Kd.R_slice HO418.out
                  (first|subst eo77|(injection eo77 with f1_ f2_ f3_;have f4_:=f1_.symm;have f5_:=f3_.symm;clear f1_ f2_ f3_;subst f4_;subst f5_))
                  obtain ⟨Ao78,co78,eo78⟩:=Kd.R_slice HO421.out
                  (first|subst eo78|(injection eo78 with f1_ f2_ f3_;have f4_:=f1_.symm;have f5_:=f3_.symm;clear f1_ f2_ f3_;subst f4_;subst f5_))
                  refine hK.out _ _ ⟨(bC BK380.out 0).trans rfl,(bC BK380.out 1).trans rfl,(bC BK380.out 2).trans rfl,(bC BK398.out 0).trans rfl,(bC BK398.out 1).trans rfl,(bC BK398.out 2).trans rfl,(bC BK410.out 0).trans rfl,(bC BK410.out 1).trans rfl,(bC BK410.out 2).trans rfl⟩ (fun hHeld => ?_)
                  clear hK K
                  refine norm_ (a':=?_) ?_ ?_
                  rotate_left
                  ·show Act.put _ (some 115) _ = _
                   simp only [Act.put,q_ia11,q_cz11,q_cs11,i64_w,i32_w]
                   rfl
                  refine one_ (i:=47) (N:=some 116) #[bT,bT,bT,bT,bT,bT,bT,bT,bT,bT,bT,bT,bT,bT,bT,bT,bT,bT,bT,bT,bT,bT,bT,bT,bT,bT,bT,bT,bT,bT,bT,bT,bT,bT,bT,bT,bT,bT,bT,bT,bT,bT,bT,bT,bT,bT,bT,bT,bf,bf] rfl rfl (one_of HT_.out (by kernel_rfl)) (by decide) (fun K hK => ?_)
                  refine goes_ Try.func37 (by kernel_rfl) rfl #[.agg #[.slice Ao28 t391.length co28,.slice Ao31 t394.length co31,.string t397],.agg #[.slice Ao77 t416.length co77,.slice Ao78 t419.length co78,.string t422]] (by rfl) rfl rfl (by (try simp only [List.map_toArray,List.map_cons,List.map_nil]);first|done|rfl|(simp only [List.length_drop,List.length_take];rfl)) ?_
                  with_reducible refine (spec_SameStore.calls k1 _ _ t391 _ _ t394 t397 _ _ t416 _ _ t419 t422 t423 _ ?side1 ?side2 ?side3 ?side4 ?side5 ?side6 ?side7 ?side8 A59.out).mono ?_
                  (case side1 => repeat (first|exact (rR HO_399000.out).2.2|(with_reducible first|refine cA ?_ _|refine cN ?_ _|refine cD ?_)))
                  (case side2 => exact (rR HO_399000.out).2.1)
                  (case side3 => repeat (first|exact (rR HO_399001.out).2.2|(with_reducible first|refine cA ?_ _|refine cN ?_ _|refine cD ?_)))
                  (case side4 => exact (rR HO_399001.out).2.1)
                  (case side5 => repeat (first|exact (rR HO418.out).2.2|(with_reducible first|refine cA ?_ _|refine cN ?_ _|refine cD ?_)))
                  (case side6 => exact (rR HO418.out).2.1)
                  (case side7 => repeat (first|exact (rR HO421.out).2.2|(with_reducible first|refine cA ?_ _|refine cN ?_ _|refine cD ?_)))
                  (case side8 => exact (rR HO421.out).2.1)
                  rintro e w79 ⟨rfl,hb⟩
                  refine ⟨_,rfl,?_⟩
                  have n0_:=aM (rH HO_381000.out hb)
                  have n1_:=aM (rH HO_381001.out hb)
                  have n2_:=aM (rH HO_399000.out hb)
                  have n3_:=aM (rH HO_399001.out hb)
                  have n4_:=aM (rH HO405.out hb)
                  have n5_:=aM (rH HO408.out hb)
                  have n6_:=aM (rH HO418.out hb)
                  have n7_:=aM (rH HO421.out hb)
                  have n8_:=aM (bH BK380.out hb)
                  have n9_:=aM (bH BK398.out hb)
                  have n10_:=aM (bH BK410.out hb)
                  have n11_:=aM (lQ HB.out hb)
                  clear HO_381000
                  clear HO_381001
                  clear HO_399000
                  clear HO_399001
                  clear HO405
                  clear HO408
                  clear HO418
                  clear HO421
                  clear BK380
                  clear BK398
                  clear BK410
                  clear HB
                  have HO_381000:=n0_
                  have HO_381001:=n1_
                  have HO_399000:=n2_
                  have HO_399001:=n3_
                  have HO405:=n4_
                  have HO408:=n5_
                  have HO418:=n6_
                  have HO421:=n7_
                  have BK380:=n8_
                  have BK398:=n9_
                  have BK410:=n10_
                  have HB:=n11_
                  clear n0_ n1_ n2_ n3_ n4_ n5_ n6_ n7_ n8_ n9_ n10_ n11_
                  (try clear hb)
                  (try clear hb2)
                  (try clear hk)
                  (try clear hi)
                  refine hK.out _ _ ⟨(bC BK380.out 0).trans rfl,(bC BK380.out 1).trans rfl,(bC BK380.out 2).trans rfl,(bC BK398.out 0).trans rfl,(bC BK398.out 1).trans rfl,(bC BK398.out 2).trans rfl,(bC BK410.out 0).trans rfl,(bC BK410.out 1).trans rfl,(bC BK410.out 2).trans rfl⟩ (fun hHeld => ?_)
                  clear hK K
                  refine norm_ (a':=?_) ?_ ?_
                  rotate_left
                  ·show Act.put _ (some 116) _ = _
                   simp only [Act.put,q_ia11,q_cz11,q_cs11,i64_w,i32_w]
                   rfl
                  refine pQ (i:=48) (N:=some 117) (v:=?_) (a':=?_) #[bT,bT,bT,bT,bT,bT,bT,bT,bT,bT,bT,bT,bT,bT,bT,bT,bT,bT,bT,bT,bT,bT,bT,bT,bT,bT,bT,bT,bT,bT,bT,bT,bT,bT,bT,bT,bT,bT,bT,bT,bT,bT,bT,bT,bT,bT,bT,bT,bT,bf] (any_of HT_.out (by kernel_rfl)) ?_ ?_ ?_
                  rotate_left
                  ·intro w';go_simp;with_reducible rfl
                  rotate_left
                  ·simp only [Act.put,q_ia11,q_cz11,q_cs11,i64_w,i32_w];rfl
                  refine pQ (i:=49) (N:=some 2) (v:=?_) (a':=?_) #[bT,bT,bT,bT,bT,bT,bT,bT,bT,bT,bT,bT,bT,bT,bT,bT,bT,bT,bT,bT,bT,bT,bT,bT,bT,bT,bT,bT,bT,bT,bT,bT,bT,bT,bT,bT,bT,bT,bT,bT,bT,bT,bT,bT,bT,bT,bT,bT,bT,bT] (any_of HT_.out (by kernel_rfl)) ?_ ?_ ?_
                  rotate_left
                  ·intro w';go_simp;with_reducible rfl
                  rotate_left
                  ·simp only [Act.put,q_ia11,q_cz11,q_cs11,i64_w,i32_w];rfl
                  refine done_ (done_of HT_.out (by kernel_rfl)) ?_
                  try go_wp2
                  go_ret
                  exact ⟨by first|rfl|(simp [errW_none,errW_some] <;> rfl)|(simp only [← hji7];first|rfl|(simp [errW_none,errW_some] <;> rfl))|(simp [*,errW_none,errW_some] <;> rfl),by repeat (first|(with_reducible first|exact HB.out|apply lA|apply lN|apply lD|refine lS ?_ GE380.out|refine lS ?_ GE398.out|refine lS ?_ GE410.out)|exact HB.out)⟩
                 ·rw [if_neg c57] at H
                  have c57b0 : (t415.toList == ([] : List UInt8)) = false:=beq_eq_false_iff_ne.mpr c57
                  have c57b8 : t415.toList.isEmpty = false:=by simpa using c57b0
                  have c57b1 : (t415.toList != ([] : List UInt8)) = true:=bne_iff_ne.mpr c57
                  exact absurd (HR_.out.symm.trans (Option.some.inj H).symm) (by decide)
                ·rw [if_neg c55] at H
                 have c55b0 : ((t394.length : Int) == (t376.length : Int)) = false:=beq_eq_false_iff_ne.mpr c55
                 have c55b1 : ((t394.length : Int) != (t376.length : Int)) = true:=bne_iff_ne.mpr c55
                 have c55b2 : (t394.length == t376.length) = false:=by first|simpa using c55|(simp at c55 ⊢;omega)
                 exact absurd (HR_.out.symm.trans (Option.some.inj H).symm) (by decide)
               ·rw [if_neg c54] at H
                have c54b0 : (t397.toList == t379.toList) = false:=beq_eq_false_iff_ne.mpr c54
                have c54b1 : (t397.toList != t379.toList) = true:=bne_iff_ne.mpr c54
                exact absurd (HR_.out.symm.trans (Option.some.inj H).symm) (by decide)
              ·rw [if_neg c53] at H
               have c53b0 : ((t414.size : Int) == 40) = false:=beq_eq_false_iff_ne.mpr c53
               have c53b1 : ((t414.size : Int) != 40) = true:=bne_iff_ne.mpr c53
               exact absurd (HR_.out.symm.trans (Option.some.inj H).symm) (by decide)
             ·rw [if_neg c51] at H
              have c51b0 : (t413.toList == ((⟨#[118,97,108,117,101]⟩ : ByteArray) ++ t390).toList) = false:=beq_eq_false_iff_ne.mpr c51
              have c51b1 : (t413.toList != ((⟨#[118,97,108,117,101]⟩ : ByteArray) ++ t390).toList) = true:=bne_iff_ne.mpr c51
              exact absurd (HR_.out.symm.trans (Option.some.inj H).symm) (by decide)
            ·replace c49:=Bool.eq_false_iff.mpr c49
             subst c49
             have H1 : (some false) = some r:=by rw [if_neg (show ¬ (false = true) by decide)] at H;exact H
             clear H
             have H:=H1
             clear H1
             exact absurd (HR_.out.symm.trans (Option.some.inj H).symm) (by decide)
           ·replace c47:=Bool.eq_false_iff.mpr c47
            subst c47
            have H1 : (some false) = some r:=by rw [if_neg (show ¬ (false = true) by decide)] at H;exact H
            clear H
            have H:=H1
            clear H1
            exact absurd (HR_.out.symm.trans (Option.some.inj H).symm) (by decide)
          ·rw [if_neg c44] at H
           exact absurd H (by simp)
      ·rw [if_neg c12] at H
       exact absurd H (by simp)
     ·rw [if_neg c10] at H
      exact absurd H (by simp)
    ·rw [if_neg c9] at H
     exact absurd H (by simp)
   ·rw [if_neg c8] at H
    exact absurd H (by simp)
  ·rw [if_neg c6] at H
   exact absurd H (by simp)

/-- THE ONE PURE STATEMENT of laws_FnVars: yours. -/
def laws_FnVars.Pure : Prop:=∀ (l0 : List Int),l0.length ≤ maxLen → l0.length * 1 ≤ 140737488351232 → (∀ x ∈ l0,(Lit.int .u8 x).wf = true) → ∃ k,laws_FnVars.f k l0 = some true
theorem laws_FnVars.walk (P : laws_FnVars.Pure) (a0 : Option Addr) (len0 cap0 : Nat) (z0 : List Int) (w : World) (w0 : (a0 = none ∧ len0 = 0 ∧ cap0 = 0 ∧ z0 = []) ∨ ∃ x,a0 = some x ∧ len0 ≤ cap0 ∧ cap0 ≤ maxLen ∧ z0.length = cap0 ∧ (∀ i,i < z0.length → w.cell? (x.add i) = some (.int .u8 (z0.getD i 0))) ∧ ∀ n ∈ z0,(Lit.int .u8 n).wf = true) (y0 : len0 * 1 ≤ 140737488351232) :
  Calls Try.prog 9 #[.slice a0 len0 cap0] w fun e w' => e = .returned (.bool true) ∧ Below w.heap.size w w':=by
 obtain ⟨l0,rfl,hr0,hm0,hw0,hc0⟩:=ReadsInt.ofRowC w0
 obtain ⟨k,h⟩:=P l0 hm0 y0 hw0
 refine (laws_FnVars.calls k _ _ l0 true w (Kd.C_of_reads (d:=(0 : Int)) (h1:=fun _ => rfl) hr0) hc0 h rfl).mono ?_
 rintro e w' ⟨rfl,hd⟩
 exact ⟨rfl,hd⟩

end Go.Proofs.Ytodpkfidkilpdaa.QFnVars
