-- A text of this session, made by wip/own_print.py (the kit's print with additions of ours).
import Derived.Test.YtkgpokiglanjfaaDoorQFnOrdersx0
import Derived.Test.YtkgpokiglanjfaaDoorQFnOrdersx1
import Derived.Test.YtkgpokiglanjfaaDoorQFnOrdersx2
import Derived.Test.YtkgpokiglanjfaaDoorQFnOrdersx3
namespace Go.Proofs.YtkgpokiglanjfaaDoor.QFnOrders
open Go.RowKit Go.Proofs.YtkgpokiglanjfaaDoorW.PrintWords Go.Proofs.YtkgpokiglanjfaaDoorW.PrintLast Go.Proofs.YtkgpokiglanjfaaDoorW.PrintMore
attribute [local go_sem] max2_int min2_int max_two min_two max_three min_three max_four min_four   -- for this text's walks alone
set_option linter.unusedVariables false
set_option linter.unusedSimpArgs false
open Bool renaming true → bT, false → bf
open Go.Proofs.YtkgpokiglanjfaaDoorW.PrintWords.Kd renaming R_alloc → rA, R_drewN → rN, R_drew → rD, C_alloc → cA, C_drewN → cN, C_drew → cD, R_far → rF, R_below → rB, R_lower → rL, R_lt → rT, R_base → rS, C_below → cB, R_types → rY, R_elder' → rE, R_reads' → rR, R_new' → rW
open Go.Proofs.YtkgpokiglanjfaaDoorW.PrintWords renaming blk_drewN → bN, blk_drew → bD, blk_alloc → bA, below_set → lS, pw_below_drewN → lN, below_drew1 → lD, below_alloc → lA, blk_cell → bC, blk_below → bB, below_size → lZ, below_step → lP, blk_lt → bL, blk_frozen → bF
open Go.Proofs.YtkgpokiglanjfaaDoorW.PrintWords.Aside0 renaming mk → aM
theorem q_ia3 {α : Type} (l : List α) (i : Nat) (a : α) : l.toArray.setIfInBounds i a = (l.set i a).toArray := List.setIfInBounds_toArray ..
theorem q_cz3 {α : Type} (a b : α) (l : List α) : (a :: l).set 0 b = b :: l := rfl
theorem q_cs3 {α : Type} (a b : α) (l : List α) (n : Nat) : (a :: l).set (n + 1) b = a :: l.set n b := rfl

/-! ### laws_FnOrders: function 9 -/
mutual
def laws_FnOrders.j0 : Nat → ByteArray → ByteArray → List Int → Int → Option (Bool)
 | 0, _, _, _, _ => none
 | k + 1, x3, x4, x5, x6 => (impl_Less.f k x4 x3).bind fun t192 => (if t192 = true then (laws_FnOrders.j1 k x3 x4 x5 (wrap64 (x6 + 1))) else (laws_FnOrders.j1 k x3 x4 x5 x6))
def laws_FnOrders.j1 : Nat → ByteArray → ByteArray → List Int → Int → Option (Bool)
 | 0, _, _, _, _ => none
 | k + 1, x3, x4, x5, x6 => (impl_Same.f k x3 x4).bind fun t193 => (if t193 = true then (laws_FnOrders.j2 k x3 x4 x5 (wrap64 (x6 + 1))) else (laws_FnOrders.j2 k x3 x4 x5 x6))
def laws_FnOrders.j2 : Nat → ByteArray → ByteArray → List Int → Int → Option (Bool)
 | 0, _, _, _, _ => none
 | k + 1, x3, x4, x5, x6 => if 0 < (x5.length : Int) then ((spec_Decimal.f k (rd x5 0)).bind fun t195 => (if 1 < (x5.length : Int) then ((spec_Decimal.f k (rd x5 1)).bind fun t197 => (if x6 = 1 then ((impl_Less.f k x3 x4).bind fun t198 => ((spec_Less.f k x3 x4).bind fun t199 => (if (t198 == t199) = true then ((impl_Same.f k x3 x4).bind fun t200 => ((spec_Same.f k x3 x4).bind fun t201 => (if (t200 == t201) = true then ((impl_Less.f k t195 t197).bind fun t202 => (if (t202 == (decide ((rd x5 0) < (rd x5 1)))) = true then ((impl_Same.f k (⟨#[48, 48, 55]⟩ : ByteArray) (⟨#[55]⟩ : ByteArray)).bind fun t205 => (if t205 = true then ((impl_Same.f k (⟨#[97]⟩ : ByteArray) (⟨#[98]⟩ : ByteArray)).bind fun t206 => (if t206 = true then (some false) else ((impl_Same.f k x3 x3).bind fun t207 => (some t207)))) else (some false))) else (some false))) else (some false)))) else (some false)))) else (some false))) else (none))) else (none)
end
def laws_FnOrders.f (k : Nat) (l0 : List Int) : Option (Bool) := (laws_big.f l0).bind fun t185 => (if t185 = true then (some true) else ((spec_DrawLess.f k l0).bind fun bt186 => ((spec_DrawPlaces.f k l0).bind fun t188 => ((impl_Less.f k bt186.1 bt186.2).bind fun t191 => (if t191 = true then (laws_FnOrders.j0 k bt186.1 bt186.2 t188 (0 + 1)) else (laws_FnOrders.j0 k bt186.1 bt186.2 t188 0))))))
theorem laws_FnOrders.mono_l : ∀ k, (∀ y0 y1 y2 y3, LeO (laws_FnOrders.j0 k y0 y1 y2 y3) (laws_FnOrders.j0 (k + 1) y0 y1 y2 y3)) ∧ (∀ y0 y1 y2 y3, LeO (laws_FnOrders.j1 k y0 y1 y2 y3) (laws_FnOrders.j1 (k + 1) y0 y1 y2 y3)) ∧ (∀ y0 y1 y2 y3, LeO (laws_FnOrders.j2 k y0 y1 y2 y3) (laws_FnOrders.j2 (k + 1) y0 y1 y2 y3))
 | 0 => ⟨fun _ _ _ _ r h => by simp [laws_FnOrders.j0] at h, fun _ _ _ _ r h => by simp [laws_FnOrders.j1] at h, fun _ _ _ _ r h => by simp [laws_FnOrders.j2] at h⟩
 | k + 1 => by
  obtain ⟨ih0, ih1, ih2⟩ := laws_FnOrders.mono_l k
  refine ⟨?_, ?_, ?_⟩
  ·intro y0 y1 y2 y3
   unfold laws_FnOrders.j0
   repeat' first
   | (with_reducible exact ih0 _ _ _ _)
   | (with_reducible exact ih1 _ _ _ _)
   | (with_reducible exact ih2 _ _ _ _)
   | (with_reducible exact impl_Less.mono _ _ _)
   | (with_reducible exact impl_Same.mono _ _ _)
   | (with_reducible exact spec_Decimal.mono _ _)
   | (with_reducible exact spec_DrawLess.mono _ _)
   | (with_reducible exact spec_DrawPlaces.mono _ _)
   | (with_reducible exact spec_Less.mono _ _ _)
   | (with_reducible exact spec_Same.mono _ _ _)
   | (with_reducible exact LeO.refl _)
   | (with_reducible exact LeO.none _)
   | (with_reducible refine LeO.ite ?_ ?_)
   | (with_reducible refine LeO.bind ?_ (fun _ => ?_))
   | exact ih0 _ _ _ _
   | exact ih1 _ _ _ _
   | exact ih2 _ _ _ _
   | exact impl_Less.mono _ _ _
   | exact impl_Same.mono _ _ _
   | exact spec_Decimal.mono _ _
   | exact spec_DrawLess.mono _ _
   | exact spec_DrawPlaces.mono _ _
   | exact spec_Less.mono _ _ _
   | exact spec_Same.mono _ _ _
   | exact LeO.none _
   | refine LeO.ite ?_ ?_
   | refine LeO.bind ?_ (fun _ => ?_)
  ·intro y0 y1 y2 y3
   unfold laws_FnOrders.j1
   repeat' first
   | (with_reducible exact ih0 _ _ _ _)
   | (with_reducible exact ih1 _ _ _ _)
   | (with_reducible exact ih2 _ _ _ _)
   | (with_reducible exact impl_Less.mono _ _ _)
   | (with_reducible exact impl_Same.mono _ _ _)
   | (with_reducible exact spec_Decimal.mono _ _)
   | (with_reducible exact spec_DrawLess.mono _ _)
   | (with_reducible exact spec_DrawPlaces.mono _ _)
   | (with_reducible exact spec_Less.mono _ _ _)
   | (with_reducible exact spec_Same.mono _ _ _)
   | (with_reducible exact LeO.refl _)
   | (with_reducible exact LeO.none _)
   | (with_reducible refine LeO.ite ?_ ?_)
   | (with_reducible refine LeO.bind ?_ (fun _ => ?_))
   | exact ih0 _ _ _ _
   | exact ih1 _ _ _ _
   | exact ih2 _ _ _ _
   | exact impl_Less.mono _ _ _
   | exact impl_Same.mono _ _ _
   | exact spec_Decimal.mono _ _
   | exact spec_DrawLess.mono _ _
   | exact spec_DrawPlaces.mono _ _
   | exact spec_Less.mono _ _ _
   | exact spec_Same.mono _ _ _
   | exact LeO.none _
   | refine LeO.ite ?_ ?_
   | refine LeO.bind ?_ (fun _ => ?_)
  ·intro y0 y1 y2 y3
   unfold laws_FnOrders.j2
   repeat' first
   | (with_reducible exact ih0 _ _ _ _)
   | (with_reducible exact ih1 _ _ _ _)
   | (with_reducible exact ih2 _ _ _ _)
   | (with_reducible exact impl_Less.mono _ _ _)
   | (with_reducible exact impl_Same.mono _ _ _)
   | (with_reducible exact spec_Decimal.mono _ _)
   | (with_reducible exact spec_DrawLess.mono _ _)
   | (with_reducible exact spec_DrawPlaces.mono _ _)
   | (with_reducible exact spec_Less.mono _ _ _)
   | (with_reducible exact spec_Same.mono _ _ _)
   | (with_reducible exact LeO.refl _)
   | (with_reducible exact LeO.none _)
   | (with_reducible refine LeO.ite ?_ ?_)
   | (with_reducible refine LeO.bind ?_ (fun _ => ?_))
   | exact ih0 _ _ _ _
   | exact ih1 _ _ _ _
   | exact ih2 _ _ _ _
   | exact impl_Less.mono _ _ _
   | exact impl_Same.mono _ _ _
   | exact spec_Decimal.mono _ _
   | exact spec_DrawLess.mono _ _
   | exact spec_DrawPlaces.mono _ _
   | exact spec_Less.mono _ _ _
   | exact spec_Same.mono _ _ _
   | exact LeO.none _
   | refine LeO.ite ?_ ?_
   | refine LeO.bind ?_ (fun _ => ?_)
theorem laws_FnOrders.mono : ∀ a0 k, LeO (laws_FnOrders.f k a0) (laws_FnOrders.f (k + 1) a0) := by
 intro a0 k
 obtain ⟨ih0, ih1, ih2⟩ := laws_FnOrders.mono_l k
 unfold laws_FnOrders.f
 repeat' first
   | (with_reducible exact ih0 _ _ _ _)
   | (with_reducible exact ih1 _ _ _ _)
   | (with_reducible exact ih2 _ _ _ _)
   | (with_reducible exact impl_Less.mono _ _ _)
   | (with_reducible exact impl_Same.mono _ _ _)
   | (with_reducible exact spec_Decimal.mono _ _)
   | (with_reducible exact spec_DrawLess.mono _ _)
   | (with_reducible exact spec_DrawPlaces.mono _ _)
   | (with_reducible exact spec_Less.mono _ _ _)
   | (with_reducible exact spec_Same.mono _ _ _)
   | (with_reducible exact LeO.refl _)
   | (with_reducible exact LeO.none _)
   | (with_reducible refine LeO.ite ?_ ?_)
   | (with_reducible refine LeO.bind ?_ (fun _ => ?_))
   | exact ih0 _ _ _ _
   | exact ih1 _ _ _ _
   | exact ih2 _ _ _ _
   | exact impl_Less.mono _ _ _
   | exact impl_Same.mono _ _ _
   | exact spec_Decimal.mono _ _
   | exact spec_DrawLess.mono _ _
   | exact spec_DrawPlaces.mono _ _
   | exact spec_Less.mono _ _ _
   | exact spec_Same.mono _ _ _
   | exact LeO.none _
   | refine LeO.ite ?_ ?_
   | refine LeO.bind ?_ (fun _ => ?_)
def laws_FnOrders.T14 : Bool × List (List Nat × List Nat) := (true, [([], []), ([0], [0]), ([1], [1]), ([2], [2]), ([2], [2]), ([3, 4, 2, 2], [2, 3, 4]), ([2], [2]), ([2], [2]), ([6, 7, 5, 2], [2, 6, 7]), ([5, 8, 2], [2, 5, 8]), ([2, 9], [2, 9]), ([10, 8], [10]), ([11], [11]), ([11], [11]), ([12, 13, 11, 11], [11, 12, 13]), ([11], [11]), ([11], [11]), ([15, 16, 14, 11], [11, 15, 16]), ([14, 17, 11], [11, 14, 17]), ([11, 18], [11, 18]), ([19, 17], [19]), ([20], [20]), ([20], [20]), ([21, 22, 20, 20], [20, 21, 22]), ([20], [20]), ([24, 20], [20, 24]), ([25, 20], [20, 25]), ([20], [20]), ([27, 20], [20, 27]), ([28, 20], [20, 28]), ([26, 29, 20], [20, 26, 29]), ([23, 30, 20], [20, 23, 30]), ([20, 31], [20, 31]), ([32, 23], [32]), ([33, 33], [33]), ([33, 34], [33, 34]), ([35, 34], [35]), ([36, 36], [36]), ([37, 36], [36, 37]), ([36, 38], [36, 38]), ([39, 37], [39]), ([40], [40]), ([40], [40]), ([41, 42, 40, 40], [40, 41, 42]), ([40, 43], [40, 43]), ([44, 43, 0, 1, 2, 3, 4, 5, 6, 7, 8, 9, 10, 11, 12, 13, 14, 15, 16, 17, 18, 19, 20, 21, 22, 23, 24, 25, 26, 27, 28, 29, 30, 31, 32, 33, 34, 35, 36, 37, 38, 39, 40, 41, 42, 43, 44], [44])])
def laws_FnOrders.B14 : List Nat := [0, 1, 3, 7, 7, 31, 7, 7, 255, 511, 1023, 2047, 4095, 4095, 16383, 4095, 4095, 131071, 262143, 524287, 1048575, 2097151, 2097151, 8388607, 2097151, 18874367, 52428799, 2097151, 136314879, 404750335, 1059061759, 2147483647, 4294967295, 8589934591, 17179869183, 34359738367, 68719476735, 137438953471, 274877906943, 549755813887, 1099511627775, 2199023255551, 2199023255551, 8796093022207, 17592186044415, 35184372088831]
theorem laws_FnOrders.tab14 : rtab .any (opsOf Tryd.f9 14) = laws_FnOrders.T14 := by kernel_rfl
theorem laws_FnOrders.bits14 : waitsOk laws_FnOrders.T14.2 laws_FnOrders.B14 = true := by kernel_rfl
set_option maxHeartbeats 8000000 in
set_option maxRecDepth 100000 in
theorem laws_FnOrders.calls (k : Nat) (A0 : Option Addr) (c0 : Nat) (l0 : List Int) (r : Bool) (w : World) (hr0 : Kd.C (Kd.int .u8) w A0 l0.length l0) (hc0 : l0.length ≤ c0) (h : laws_FnOrders.f k l0 = some r) :
  Calls Tryd.prog 9 #[.slice A0 l0.length c0] w fun e w' => e = .returned (.bool r) ∧ Below w.heap.size w w':=by
 have HR0:=aM hr0
 have HC0:=aM hc0
 clear hr0 hc0
 have HB:=aM (Below.refl w.heap.size w)
 have H : ((laws_big.f l0).bind fun t185 => (if t185 = true then (some true) else ((spec_DrawLess.f k l0).bind fun bt186 => ((spec_DrawPlaces.f k l0).bind fun t188 => ((impl_Less.f k bt186.1 bt186.2).bind fun t191 => (if t191 = true then (laws_FnOrders.j0 k bt186.1 bt186.2 t188 (0 + 1)) else (laws_FnOrders.j0 k bt186.1 bt186.2 t188 0))))))) = some r:=h
 clear h
 replace H:=Option.bind_eq_some_iff.mp H
 obtain ⟨t185,A20,H⟩:=H
 replace H : (if t185 = true then (some true) else ((spec_DrawLess.f k l0).bind fun bt186 => ((spec_DrawPlaces.f k l0).bind fun t188 => ((impl_Less.f k bt186.1 bt186.2).bind fun t191 => (if t191 = true then (laws_FnOrders.j0 k bt186.1 bt186.2 t188 (0 + 1)) else (laws_FnOrders.j0 k bt186.1 bt186.2 t188 0)))))) = some r:=H
 have A2:=aM A20
 clear A20
 by_cases c3 : t185 = true
 ·subst c3
  have H1 : (some true) = some r:=by rw [if_pos rfl] at H;exact H
  clear H
  have H:=H1
  clear H1
  obtain rfl:=Option.some.inj H
  go_enter Tryd.func9,Tryd.ntmps9
  go_wp2_with (first|((with_reducible refine gate_callee (f:=24) rfl ?_);refine goesL_ (some 10) rfl rfl Tryd.func24 (by kernel_rfl) rfl #[.slice A0 l0.length c0] rfl (by (try simp only [List.map_toArray,List.map_cons,List.map_nil]);first|done|rfl|(simp only [List.length_drop,List.length_take];rfl)) ?_;(with_reducible refine (laws_big.calls _ _ l0 true _ ?side1 ?side2 A2.out).mono ?_);(case side1 => repeat (first|exact HR0.out|(with_reducible first|refine cA ?_ _|refine cN ?_ _|refine cD ?_)));(case side2 => exact HC0.out);rintro e w' ⟨rfl,⟨nd,rfl⟩⟩;refine ⟨_,rfl,?_⟩))
  go_ret
  exact ⟨by first|rfl|(simp [errW_none,errW_some] <;> rfl)|(simp [*,errW_none,errW_some] <;> rfl),by repeat (first|(with_reducible first|exact HB.out|apply lA|apply lN|apply lD)|exact HB.out)⟩
 ·replace c3:=Bool.eq_false_iff.mpr c3
  subst c3
  have H1 : ((spec_DrawLess.f k l0).bind fun bt186 => ((spec_DrawPlaces.f k l0).bind fun t188 => ((impl_Less.f k bt186.1 bt186.2).bind fun t191 => (if t191 = true then (laws_FnOrders.j0 k bt186.1 bt186.2 t188 (0 + 1)) else (laws_FnOrders.j0 k bt186.1 bt186.2 t188 0))))) = some r:=by rw [if_neg (show ¬ (false = true) by decide)] at H;exact H
  clear H
  have H:=H1
  clear H1
  replace H:=Option.bind_eq_some_iff.mp H
  obtain ⟨⟨t186,t187⟩,A40,H⟩:=H
  replace H : ((spec_DrawPlaces.f k l0).bind fun t188 => ((impl_Less.f k t186 t187).bind fun t191 => (if t191 = true then (laws_FnOrders.j0 k t186 t187 t188 (0 + 1)) else (laws_FnOrders.j0 k t186 t187 t188 0)))) = some r:=H
  have A4:=aM A40
  clear A40
  replace H:=Option.bind_eq_some_iff.mp H
  obtain ⟨t188,A50,H⟩:=H
  replace H : ((impl_Less.f k t186 t187).bind fun t191 => (if t191 = true then (laws_FnOrders.j0 k t186 t187 t188 (0 + 1)) else (laws_FnOrders.j0 k t186 t187 t188 0))) = some r:=H
  have A5:=aM A50
  clear A50
  replace H:=Option.bind_eq_some_iff.mp H
  obtain ⟨t191,A60,H⟩:=H
  replace H : (if t191 = true then (laws_FnOrders.j0 k t186 t187 t188 (0 + 1)) else (laws_FnOrders.j0 k t186 t187 t188 0)) = some r:=H
  have A6:=aM A60
  clear A60
  have HC7:=aM H
  clear H
  go_enter Tryd.func9,Tryd.ntmps9
  go_upto_if 20 with (first|((with_reducible refine gate_callee (f:=24) rfl ?_);refine goesL_ (some 10) rfl rfl Tryd.func24 (by kernel_rfl) rfl #[.slice A0 l0.length c0] rfl (by (try simp only [List.map_toArray,List.map_cons,List.map_nil]);first|done|rfl|(simp only [List.length_drop,List.length_take];rfl)) ?_;(with_reducible refine (laws_big.calls _ _ l0 false _ ?side1 ?side2 A2.out).mono ?_);(case side1 => repeat (first|exact HR0.out|(with_reducible first|refine cA ?_ _|refine cN ?_ _|refine cD ?_)));(case side2 => exact HC0.out);rintro e w' ⟨rfl,⟨nd,rfl⟩⟩;refine ⟨_,rfl,?_⟩)|((with_reducible refine gate_callee (f:=27) rfl ?_);refine goesL_ (some 13) rfl rfl Tryd.func27 (by kernel_rfl) rfl #[.slice A0 l0.length c0] rfl (by (try simp only [List.map_toArray,List.map_cons,List.map_nil]);first|done|rfl|(simp only [List.length_drop,List.length_take];rfl)) ?_;(with_reducible refine (spec_DrawLess.calls k _ _ l0 t186 t187 _ ?side1 ?side2 A4.out).mono ?_);(case side1 => repeat (first|exact HR0.out|(with_reducible first|refine cA ?_ _|refine cN ?_ _|refine cD ?_)));(case side2 => exact HC0.out);rintro e w8 ⟨rfl,hb⟩;refine ⟨_,rfl,?_⟩;have n0_:=aM (lQ HB.out hb);clear HB;have HB:=n0_;clear n0_;(try clear hb);(try clear hb2);(try clear hk);(try clear hi))|((with_reducible refine gate_callee (f:=25) rfl ?_);refine goesL_ (some 17) rfl rfl Tryd.func25 (by kernel_rfl) rfl #[.slice A0 l0.length c0] rfl (by (try simp only [List.map_toArray,List.map_cons,List.map_nil]);first|done|rfl|(simp only [List.length_drop,List.length_take];rfl)) ?_;(with_reducible refine (spec_DrawPlaces.calls k _ _ l0 t188 _ ?side1 ?side2 A5.out).mono ?_);(case side1 => repeat (first|exact (cB HR0.out HB.out)|(with_reducible first|refine cA ?_ _|refine cN ?_ _|refine cD ?_)));(case side2 => exact HC0.out);rintro e w9 ⟨v189,rfl,ho0,hb⟩;refine ⟨_,rfl,?_⟩;have n0_:=aM (rL ho0 (lZ (by repeat (first|(with_reducible first|exact HB.out|apply lA|apply lN|apply lD)|exact HB.out))));have n1_:=aM (lQ HB.out hb);clear HB;have HO190:=n0_;have HB:=n1_;clear n0_ n1_;(try clear hb);(try clear hb2);(try clear hk);(try clear hi);(try clear ho0))|((with_reducible refine gate_callee (f:=21) rfl ?_);refine goesL_ (some 20) rfl rfl Tryd.func21 (by kernel_rfl) rfl #[.string t186,.string t187] rfl (by (try simp only [List.map_toArray,List.map_cons,List.map_nil]);first|done|rfl|(simp only [List.length_drop,List.length_take];rfl)) ?_;(with_reducible refine (impl_Less.calls k t186 t187 t191 _ A6.out).mono ?_);rintro e w10 ⟨rfl,hb⟩;refine ⟨_,rfl,?_⟩;have n0_:=aM (rH HO190.out hb);have n1_:=aM (lQ HB.out hb);clear HO190 HB;have HO190:=n0_;have HB:=n1_;clear n0_ n1_;(try clear hb);(try clear hb2);(try clear hk);(try clear hi)))
  (try simp only [Act.put,q_ia3,q_cz3,q_cs3])
  go_cut [6] (fun v6 wc => ∃ (kq : Nat) (x6_6 : Int),v6 = .int .i64 x6_6 ∧ Aside0 (laws_FnOrders.j0 kq t186 t187 t188 x6_6 = some r) ∧ Aside0 (kq ≤ k) ∧ Aside0 (Kd.R (Kd.int .i64) 3 wc w.heap.size (fun _ => True) v189 t188) ∧ Aside0 (Below w.heap.size w wc))
  case first =>
   have H:=HC7.out
   clear HC7
   by_cases c11 : t191 = true
   ·subst c11
    have H1 : (laws_FnOrders.j0 k t186 t187 t188 (0 + 1)) = some r:=by rw [if_pos rfl] at H;exact H
    clear H
    have H:=H1
    clear H1
    have H':=aM H
    clear H
    go_wp2
    go_meet
    case rel => exact ⟨_,(0 + 1),(by first|rfl|(simp;done)|(simp [*];done)),H',⟨by first|omega|exact Nat.le_refl _⟩,⟨by (with_reducible repeat (first|apply rA|apply rN|apply rD));exact HO190.out⟩,⟨by repeat (first|(with_reducible first|exact HB.out|apply lA|apply lN|apply lD)|exact HB.out)⟩⟩
   ·replace c11:=Bool.eq_false_iff.mpr c11
    subst c11
    have H1 : (laws_FnOrders.j0 k t186 t187 t188 0) = some r:=by rw [if_neg (show ¬ (false = true) by decide)] at H;exact H
    clear H
    have H:=H1
    clear H1
    have H':=aM H
    clear H
    go_wp2
    go_meet
    case rel => exact ⟨_,(0),(by first|rfl|(simp;done)|(simp [*];done)),H',⟨by first|omega|exact Nat.le_refl _⟩,⟨by (with_reducible repeat (first|apply rA|apply rN|apply rD));exact HO190.out⟩,⟨by repeat (first|(with_reducible first|exact HB.out|apply lA|apply lN|apply lD)|exact HB.out)⟩⟩
  case rest =>
   clear HC7
   try clear c1
   try clear c2
   try clear p2
   try clear c3
   try clear c9
   try clear c11
   obtain ⟨kq,x6_6,rfl,HA,HJ6,HO_5,HB⟩:=hcut
   cases kq with
   |zero => exact absurd HA.out (by simp [laws_FnOrders.j0])
   |succ kj6 =>
    have H:=HA.out
    clear HA
    simp only [laws_FnOrders.j0] at H
    replace H:=Option.bind_eq_some_iff.mp H
    obtain ⟨t192,A120,H⟩:=H
    replace H : (if t192 = true then (laws_FnOrders.j1 kj6 t186 t187 t188 (wrap64 (x6_6 + 1))) else (laws_FnOrders.j1 kj6 t186 t187 t188 x6_6)) = some r:=H
    have A12:=aM A120
    clear A120
    have HC13:=aM H
    clear H
    go_upto_if 25 with (first|((with_reducible refine gate_callee (f:=21) rfl ?_);refine goesL_ (some 25) rfl rfl Tryd.func21 (by kernel_rfl) rfl #[.string t187,.string t186] rfl (by (try simp only [List.map_toArray,List.map_cons,List.map_nil]);first|done|rfl|(simp only [List.length_drop,List.length_take];rfl)) ?_;(with_reducible refine (impl_Less.calls kj6 t187 t186 t192 _ A12.out).mono ?_);rintro e w14 ⟨rfl,hb⟩;refine ⟨_,rfl,?_⟩;have n0_:=aM (rH HO_5.out hb);have n1_:=aM (lQ HB.out hb);clear HO_5 HB;have HO_5:=n0_;have HB:=n1_;clear n0_ n1_;(try clear hb);(try clear hb2);(try clear hk);(try clear hi)))
    (try simp only [Act.put,q_ia3,q_cz3,q_cs3])
    go_cut [6] (fun v6 wc => ∃ (kq : Nat) (x6_12 : Int),v6 = .int .i64 x6_12 ∧ Aside0 (laws_FnOrders.j1 kq t186 t187 t188 x6_12 = some r) ∧ Aside0 (kq ≤ kj6) ∧ Aside0 (Kd.R (Kd.int .i64) 3 wc w.heap.size (fun _ => True) v189 t188) ∧ Aside0 (Below w.heap.size w wc))
    case first =>
     have H:=HC13.out
     clear HC13
     by_cases c15 : t192 = true
     ·subst c15
      have H1 : (laws_FnOrders.j1 kj6 t186 t187 t188 (wrap64 (x6_6 + 1))) = some r:=by rw [if_pos rfl] at H;exact H
      clear H
      have H:=H1
      clear H1
      have H':=aM H
      clear H
      go_wp2
      go_meet
      case rel => exact ⟨_,(wrap64 (x6_6 + 1)),(by first|rfl|(simp;done)|(simp [*];done)),H',⟨by have:=HJ6.out;first|omega|exact Nat.le_refl _⟩,⟨by (with_reducible repeat (first|apply rA|apply rN|apply rD));exact HO_5.out⟩,⟨by repeat (first|(with_reducible first|exact HB.out|apply lA|apply lN|apply lD)|exact HB.out)⟩⟩
     ·replace c15:=Bool.eq_false_iff.mpr c15
      subst c15
      have H1 : (laws_FnOrders.j1 kj6 t186 t187 t188 x6_6) = some r:=by rw [if_neg (show ¬ (false = true) by decide)] at H;exact H
      clear H
      have H:=H1
      clear H1
      have H':=aM H
      clear H
      go_wp2
      go_meet
      case rel => exact ⟨_,(x6_6),(by first|rfl|(simp;done)|(simp [*];done)),H',⟨by have:=HJ6.out;first|omega|exact Nat.le_refl _⟩,⟨by (with_reducible repeat (first|apply rA|apply rN|apply rD));exact HO_5.out⟩,⟨by repeat (first|(with_reducible first|exact HB.out|apply lA|apply lN|apply lD)|exact HB.out)⟩⟩
    case rest =>
     clear HC13
     try clear c1
     try clear c2
     try clear p2
     try clear c3
     try clear p6
     try clear c9
     try clear c11
     try clear c15
     try clear p2
     obtain ⟨kq,x6_12,rfl,HA,HJ12,HO_5,HB⟩:=hcut
     cases kq with
     |zero => exact absurd HA.out (by simp [laws_FnOrders.j1])
     |succ kj12 =>
      have H:=HA.out
      clear HA
      simp only [laws_FnOrders.j1] at H
      replace H:=Option.bind_eq_some_iff.mp H
      obtain ⟨t193,A160,H⟩:=H
      replace H : (if t193 = true then (laws_FnOrders.j2 kj12 t186 t187 t188 (wrap64 (x6_12 + 1))) else (laws_FnOrders.j2 kj12 t186 t187 t188 x6_12)) = some r:=H
      have A16:=aM A160
      clear A160
      have HC17:=aM H
      clear H
      go_upto_if 30 with (first|((with_reducible refine gate_callee (f:=23) rfl ?_);refine goesL_ (some 30) rfl rfl Tryd.func23 (by kernel_rfl) rfl #[.string t186,.string t187] rfl (by (try simp only [List.map_toArray,List.map_cons,List.map_nil]);first|done|rfl|(simp only [List.length_drop,List.length_take];rfl)) ?_;(with_reducible refine (impl_Same.calls kj12 t186 t187 t193 _ A16.out).mono ?_);rintro e w18 ⟨rfl,hb⟩;refine ⟨_,rfl,?_⟩;have n0_:=aM (rH HO_5.out hb);have n1_:=aM (lQ HB.out hb);clear HO_5 HB;have HO_5:=n0_;have HB:=n1_;clear n0_ n1_;(try clear hb);(try clear hb2);(try clear hk);(try clear hi)))
      (try simp only [Act.put,q_ia3,q_cz3,q_cs3])
      go_cut [6] (fun v6 wc => ∃ (kq : Nat) (x6_16 : Int),v6 = .int .i64 x6_16 ∧ Aside0 (laws_FnOrders.j2 kq t186 t187 t188 x6_16 = some r) ∧ Aside0 (kq ≤ kj12) ∧ Aside0 (Kd.R (Kd.int .i64) 3 wc w.heap.size (fun _ => True) v189 t188) ∧ Aside0 (Below w.heap.size w wc))
      case first =>
       have H:=HC17.out
       clear HC17
       by_cases c19 : t193 = true
       ·subst c19
        have H1 : (laws_FnOrders.j2 kj12 t186 t187 t188 (wrap64 (x6_12 + 1))) = some r:=by rw [if_pos rfl] at H;exact H
        clear H
        have H:=H1
        clear H1
        have H':=aM H
        clear H
        go_wp2
        go_meet
        case rel => exact ⟨_,(wrap64 (x6_12 + 1)),(by first|rfl|(simp;done)|(simp [*];done)),H',⟨by have:=HJ6.out;have:=HJ12.out;first|omega|exact Nat.le_refl _⟩,⟨by (with_reducible repeat (first|apply rA|apply rN|apply rD));exact HO_5.out⟩,⟨by repeat (first|(with_reducible first|exact HB.out|apply lA|apply lN|apply lD)|exact HB.out)⟩⟩
       ·replace c19:=Bool.eq_false_iff.mpr c19
        subst c19
        have H1 : (laws_FnOrders.j2 kj12 t186 t187 t188 x6_12) = some r:=by rw [if_neg (show ¬ (false = true) by decide)] at H;exact H
        clear H
        have H:=H1
        clear H1
        have H':=aM H
        clear H
        go_wp2
        go_meet
        case rel => exact ⟨_,(x6_12),(by first|rfl|(simp;done)|(simp [*];done)),H',⟨by have:=HJ6.out;have:=HJ12.out;first|omega|exact Nat.le_refl _⟩,⟨by (with_reducible repeat (first|apply rA|apply rN|apply rD));exact HO_5.out⟩,⟨by repeat (first|(with_reducible first|exact HB.out|apply lA|apply lN|apply lD)|exact HB.out)⟩⟩
      case rest =>
       clear HC17
       try clear c1
       try clear c2
       try clear p2
       try clear c3
       try clear p6
       try clear c9
       try clear c11
       try clear c15
       try clear c19
       try clear p2
       try clear p6
       obtain ⟨kq,x6_16,rfl,HA,HJ16,HO_5,HB⟩:=hcut
       cases kq with
       |zero => exact absurd HA.out (by simp [laws_FnOrders.j2])
       |succ kj16 =>
        have H:=HA.out
        clear HA
        simp only [laws_FnOrders.j2] at H
        by_cases c20 : 0 < (t188.length : Int)
        ·rw [if_pos c20] at H
         have c20b0 : decide (0 < (t188.length : Int)) = true:=decide_eq_true c20
         have c20b1 : decide (0 < t188.length) = true:=decide_eq_true (by omega)
         clear c20
         replace H:=Option.bind_eq_some_iff.mp H
         obtain ⟨t195,A210,H⟩:=H
         replace H : (if 1 < (t188.length : Int) then ((spec_Decimal.f kj16 (rd t188 1)).bind fun t197 => (if x6_16 = 1 then ((impl_Less.f kj16 t186 t187).bind fun t198 => ((spec_Less.f kj16 t186 t187).bind fun t199 => (if (t198 == t199) = true then ((impl_Same.f kj16 t186 t187).bind fun t200 => ((spec_Same.f kj16 t186 t187).bind fun t201 => (if (t200 == t201) = true then ((impl_Less.f kj16 t195 t197).bind fun t202 => (if (t202 == (decide ((rd t188 0) < (rd t188 1)))) = true then ((impl_Same.f kj16 (⟨#[48,48,55]⟩ : ByteArray) (⟨#[55]⟩ : ByteArray)).bind fun t205 => (if t205 = true then ((impl_Same.f kj16 (⟨#[97]⟩ : ByteArray) (⟨#[98]⟩ : ByteArray)).bind fun t206 => (if t206 = true then (some false) else ((impl_Same.f kj16 t186 t186).bind fun t207 => (some t207)))) else (some false))) else (some false))) else (some false)))) else (some false)))) else (some false))) else (none)) = some r:=H
         have A21:=aM A210
         clear A210
         by_cases c22 : 1 < (t188.length : Int)
         ·rw [if_pos c22] at H
          have c22b0 : decide (1 < (t188.length : Int)) = true:=decide_eq_true c22
          have c22b1 : decide (1 < t188.length) = true:=decide_eq_true (by omega)
          clear c22
          replace H:=Option.bind_eq_some_iff.mp H
          obtain ⟨t197,A230,H⟩:=H
          replace H : (if x6_16 = 1 then ((impl_Less.f kj16 t186 t187).bind fun t198 => ((spec_Less.f kj16 t186 t187).bind fun t199 => (if (t198 == t199) = true then ((impl_Same.f kj16 t186 t187).bind fun t200 => ((spec_Same.f kj16 t186 t187).bind fun t201 => (if (t200 == t201) = true then ((impl_Less.f kj16 t195 t197).bind fun t202 => (if (t202 == (decide ((rd t188 0) < (rd t188 1)))) = true then ((impl_Same.f kj16 (⟨#[48,48,55]⟩ : ByteArray) (⟨#[55]⟩ : ByteArray)).bind fun t205 => (if t205 = true then ((impl_Same.f kj16 (⟨#[97]⟩ : ByteArray) (⟨#[98]⟩ : ByteArray)).bind fun t206 => (if t206 = true then (some false) else ((impl_Same.f kj16 t186 t186).bind fun t207 => (some t207)))) else (some false))) else (some false))) else (some false)))) else (some false)))) else (some false)) = some r:=H
          have A23:=aM A230
          clear A230
          by_cases c24 : x6_16 = 1
          ·rw [if_pos c24] at H
           have c24b0 : (x6_16 == 1) = true:=beq_iff_eq.mpr c24
           have c24b1 : (x6_16 != 1) = false:=bne_eq_false_iff_eq.mpr c24
           clear c24
           replace H:=Option.bind_eq_some_iff.mp H
           obtain ⟨t198,A250,H⟩:=H
           replace H : ((spec_Less.f kj16 t186 t187).bind fun t199 => (if (t198 == t199) = true then ((impl_Same.f kj16 t186 t187).bind fun t200 => ((spec_Same.f kj16 t186 t187).bind fun t201 => (if (t200 == t201) = true then ((impl_Less.f kj16 t195 t197).bind fun t202 => (if (t202 == (decide ((rd t188 0) < (rd t188 1)))) = true then ((impl_Same.f kj16 (⟨#[48,48,55]⟩ : ByteArray) (⟨#[55]⟩ : ByteArray)).bind fun t205 => (if t205 = true then ((impl_Same.f kj16 (⟨#[97]⟩ : ByteArray) (⟨#[98]⟩ : ByteArray)).bind fun t206 => (if t206 = true then (some false) else ((impl_Same.f kj16 t186 t186).bind fun t207 => (some t207)))) else (some false))) else (some false))) else (some false)))) else (some false))) = some r:=H
           have A25:=aM A250
           clear A250
           replace H:=Option.bind_eq_some_iff.mp H
           obtain ⟨t199,A260,H⟩:=H
           replace H : (if (t198 == t199) = true then ((impl_Same.f kj16 t186 t187).bind fun t200 => ((spec_Same.f kj16 t186 t187).bind fun t201 => (if (t200 == t201) = true then ((impl_Less.f kj16 t195 t197).bind fun t202 => (if (t202 == (decide ((rd t188 0) < (rd t188 1)))) = true then ((impl_Same.f kj16 (⟨#[48,48,55]⟩ : ByteArray) (⟨#[55]⟩ : ByteArray)).bind fun t205 => (if t205 = true then ((impl_Same.f kj16 (⟨#[97]⟩ : ByteArray) (⟨#[98]⟩ : ByteArray)).bind fun t206 => (if t206 = true then (some false) else ((impl_Same.f kj16 t186 t186).bind fun t207 => (some t207)))) else (some false))) else (some false))) else (some false)))) else (some false)) = some r:=H
           have A26:=aM A260
           clear A260
           by_cases c27 : (t198 == t199) = true
           ·rw [if_pos c27] at H
            have c27b0 : (t198 == t199) = true:=c27
            (try (have c27b1 : decide (t198 = t199) = true:=by simpa using c27))
            (try (have c27b2 : (t198 == t199) = true:=by simpa using c27))
            clear c27
            replace H:=Option.bind_eq_some_iff.mp H
            obtain ⟨t200,A280,H⟩:=H
            replace H : ((spec_Same.f kj16 t186 t187).bind fun t201 => (if (t200 == t201) = true then ((impl_Less.f kj16 t195 t197).bind fun t202 => (if (t202 == (decide ((rd t188 0) < (rd t188 1)))) = true then ((impl_Same.f kj16 (⟨#[48,48,55]⟩ : ByteArray) (⟨#[55]⟩ : ByteArray)).bind fun t205 => (if t205 = true then ((impl_Same.f kj16 (⟨#[97]⟩ : ByteArray) (⟨#[98]⟩ : ByteArray)).bind fun t206 => (if t206 = true then (some false) else ((impl_Same.f kj16 t186 t186).bind fun t207 => (some t207)))) else (some false))) else (some false))) else (some false))) = some r:=H
            have A28:=aM A280
            clear A280
            replace H:=Option.bind_eq_some_iff.mp H
            obtain ⟨t201,A290,H⟩:=H
            replace H : (if (t200 == t201) = true then ((impl_Less.f kj16 t195 t197).bind fun t202 => (if (t202 == (decide ((rd t188 0) < (rd t188 1)))) = true then ((impl_Same.f kj16 (⟨#[48,48,55]⟩ : ByteArray) (⟨#[55]⟩ : ByteArray)).bind fun t205 => (if t205 = true then ((impl_Same.f kj16 (⟨#[97]⟩ : ByteArray) (⟨#[98]⟩ : ByteArray)).bind fun t206 => (if t206 = true then (some false) else ((impl_Same.f kj16 t186 t186).bind fun t207 => (some t207)))) else (some false))) else (some false))) else (some false)) = some r:=H
            have A29:=aM A290
            clear A290
            by_cases c30 : (t200 == t201) = true
            ·rw [if_pos c30] at H
             have c30b0 : (t200 == t201) = true:=c30
             (try (have c30b1 : decide (t200 = t201) = true:=by simpa using c30))
             (try (have c30b2 : (t200 == t201) = true:=by simpa using c30))
             clear c30
             replace H:=Option.bind_eq_some_iff.mp H
             obtain ⟨t202,A310,H⟩:=H
             replace H : (if (t202 == (decide ((rd t188 0) < (rd t188 1)))) = true then ((impl_Same.f kj16 (⟨#[48,48,55]⟩ : ByteArray) (⟨#[55]⟩ : ByteArray)).bind fun t205 => (if t205 = true then ((impl_Same.f kj16 (⟨#[97]⟩ : ByteArray) (⟨#[98]⟩ : ByteArray)).bind fun t206 => (if t206 = true then (some false) else ((impl_Same.f kj16 t186 t186).bind fun t207 => (some t207)))) else (some false))) else (some false)) = some r:=H
             have A31:=aM A310
             clear A310
             by_cases c32 : (t202 == (decide ((rd t188 0) < (rd t188 1)))) = true
             ·rw [if_pos c32] at H
              have c32b0 : (t202 == (decide ((rd t188 0) < (rd t188 1)))) = true:=c32
              (try (have c32b1 : decide (t202 = (decide ((rd t188 0) < (rd t188 1)))) = true:=by simpa using c32))
              (try (have c32b2 : (t202 == (decide ((rd t188 0) < (rd t188 1)))) = true:=by simpa using c32))
              clear c32
              replace H:=Option.bind_eq_some_iff.mp H
              obtain ⟨t205,A330,H⟩:=H
              replace H : (if t205 = true then ((impl_Same.f kj16 (⟨#[97]⟩ : ByteArray) (⟨#[98]⟩ : ByteArray)).bind fun t206 => (if t206 = true then (some false) else ((impl_Same.f kj16 t186 t186).bind fun t207 => (some t207)))) else (some false)) = some r:=H
              have A33:=aM A330
              clear A330
              by_cases c34 : t205 = true
              ·subst c34
               have H1 : ((impl_Same.f kj16 (⟨#[97]⟩ : ByteArray) (⟨#[98]⟩ : ByteArray)).bind fun t206 => (if t206 = true then (some false) else ((impl_Same.f kj16 t186 t186).bind fun t207 => (some t207)))) = some r:=by rw [if_pos rfl] at H;exact H
               clear H
               have H:=H1
               clear H1
               replace H:=Option.bind_eq_some_iff.mp H
               obtain ⟨t206,A350,H⟩:=H
               replace H : (if t206 = true then (some false) else ((impl_Same.f kj16 t186 t186).bind fun t207 => (some t207))) = some r:=H
               have A35:=aM A350
               clear A350
               by_cases c36 : t206 = true
               ·subst c36
                have H1 : (some false) = some r:=by rw [if_pos rfl] at H;exact H
                clear H
                have H:=H1
                clear H1
                obtain rfl:=Option.some.inj H
                obtain ⟨Ao37,co37,eo37⟩:=Kd.R_slice HO_5.out
                subst eo37
                have p194 : 0 ≤ (0 : Int):=(by omega)
                have q194 : 0 < (t188.length : Int):=of_decide_eq_true (by first|(with_reducible assumption)|assumption)
                obtain ⟨ad194,e194,hx194_0⟩:=Kd.at_int (rR HO_5.out).2.2 0 p194 q194
                cases e194
                have qi194 : (0 < t188.length) = True:=eq_true (by omega)
                (try rw [show ((0 : Int)).toNat = 0 from rfl] at hx194_0)
                (try rw [Addr.add_zero'] at hx194_0)
                replace p194:=eq_true p194
                replace q194:=eq_true q194
                try go_wp2_with (first|((with_reducible refine gate_callee (f:=14) rfl ?_);refine goesL_ (some 36) rfl rfl Tryd.func14 (by kernel_rfl) rfl #[.int .i64 (rd t188 0)] rfl (by (try simp only [List.map_toArray,List.map_cons,List.map_nil]);first|done|rfl|(simp only [List.length_drop,List.length_take];rfl)) ?_;(with_reducible refine (spec_Decimal.calls kj16 (rd t188 0) t195 _ A21.out).mono ?_);rintro e w38 ⟨rfl,hb⟩;refine ⟨_,rfl,?_⟩;have n0_:=aM (rH HO_5.out hb);have n1_:=aM (lQ HB.out hb);clear HO_5 HB;have HO_5:=n0_;have HB:=n1_;clear n0_ n1_;(try clear hb);(try clear hb2);(try clear hk);(try clear hi);have p196 : 0 ≤ (1 : Int):=(by omega);have q196 : 1 < (t188.length : Int):=of_decide_eq_true (by first|(with_reducible assumption)|assumption);obtain ⟨ad196,e196,hx196_0⟩:=Kd.at_int (rR HO_5.out).2.2 1 p196 q196;obtain rfl : ad194 = ad196:=(by injection e196);(try simp only [show (1 : Int).toNat = 1 from rfl,Nat.reduceMul,Nat.reduceEqDiff,Go.Addr.add,↓reduceIte] at hx196_0);have qi196 : (1 < t188.length) = True:=eq_true (by omega);(try rw [show ((1 : Int)).toNat = 1 from rfl] at hx196_0);replace p196:=eq_true p196;replace q196:=eq_true q196)|((with_reducible refine gate_callee (f:=14) rfl ?_);refine goesL_ (some 40) rfl rfl Tryd.func14 (by kernel_rfl) rfl #[.int .i64 (rd t188 1)] rfl (by (try simp only [List.map_toArray,List.map_cons,List.map_nil]);first|done|rfl|(simp only [List.length_drop,List.length_take];rfl)) ?_;(with_reducible refine (spec_Decimal.calls kj16 (rd t188 1) t197 _ A23.out).mono ?_);rintro e w39 ⟨rfl,hb⟩;refine ⟨_,rfl,?_⟩;have n0_:=aM (rH HO_5.out hb);have n1_:=aM (lQ HB.out hb);clear HO_5 HB;have HO_5:=n0_;have HB:=n1_;clear n0_ n1_;(try clear hb);(try clear hb2);(try clear hk);(try clear hi)))
                have n0_:=aM (rD HO_5.out)
                have n1_:=aM (lD HB.out)
                clear HO_5
                clear HB
                have HO_5:=n0_
                have HB:=n1_
                clear n0_ n1_
                have p203 : 0 ≤ (0 : Int):=(by omega)
                have q203 : 0 < (t188.length : Int):=of_decide_eq_true (by first|(with_reducible assumption)|assumption)
                obtain ⟨ad203,e203,hx203_0⟩:=Kd.at_int (rR HO_5.out).2.2 0 p203 q203
                obtain rfl : ad194 = ad203:=(by injection e203)
                have qi203 : (0 < t188.length) = True:=eq_true (by omega)
                (try rw [show ((0 : Int)).toNat = 0 from rfl] at hx203_0)
                (try rw [Addr.add_zero'] at hx203_0)
                replace p203:=eq_true p203
                replace q203:=eq_true q203
                have p204 : 0 ≤ (1 : Int):=(by omega)
                have q204 : 1 < (t188.length : Int):=of_decide_eq_true (by first|(with_reducible assumption)|assumption)
                obtain ⟨ad204,e204,hx204_0⟩:=Kd.at_int (rR HO_5.out).2.2 1 p204 q204
                obtain rfl : ad194 = ad204:=(by injection e204)
                (try simp only [show (1 : Int).toNat = 1 from rfl,Nat.reduceMul,Nat.reduceEqDiff,Go.Addr.add,↓reduceIte] at hx204_0)
                have qi204 : (1 < t188.length) = True:=eq_true (by omega)
                (try rw [show ((1 : Int)).toNat = 1 from rfl] at hx204_0)
                replace p204:=eq_true p204
                replace q204:=eq_true q204
                refine start_ (n:=46) (S:=fun w' => w'.cell? ad194 = some (.int .i64 (rd t188 0)) ∧ w'.cell? ⟨ad194.block,ad194.off + 1,none⟩ = some (.int .i64 (rd t188 1))) (ds:=[]) #[bf,bf,bf,bf,bf,bf,bf,bf,bf,bf,bf,bf,bf,bf,bf,bf,bf,bf,bf,bf,bf,bf,bf,bf,bf,bf,bf,bf,bf,bf,bf,bf,bf,bf,bf,bf,bf,bf,bf,bf,bf,bf,bf,bf,bf,bf] (by kernel_rfl) rfl rfl ⟨hx203_0,hx204_0⟩ (fun hHeld => ?_);refine with_tabW laws_FnOrders.tab14 laws_FnOrders.bits14 (fun HT_ HW_ => ?_)
                generalize w39.drew = w40 at HO_5 HB hx203_0 hx204_0 hHeld ⊢
                refine pQ (i:=0) (N:=some 41) (v:=?_) (a':=?_) #[bT,bf,bf,bf,bf,bf,bf,bf,bf,bf,bf,bf,bf,bf,bf,bf,bf,bf,bf,bf,bf,bf,bf,bf,bf,bf,bf,bf,bf,bf,bf,bf,bf,bf,bf,bf,bf,bf,bf,bf,bf,bf,bf,bf,bf,bf] (any_of HT_.out (by kernel_rfl)) ?_ ?_ ?_
                rotate_left
                ·intro w';go_simp;with_reducible rfl
                rotate_left
                ·simp only [Act.put,q_ia3,q_cz3,q_cs3,i64_w,i32_w];rfl
                refine pQ (i:=1) (N:=some 42) (v:=?_) (a':=?_) #[bT,bT,bf,bf,bf,bf,bf,bf,bf,bf,bf,bf,bf,bf,bf,bf,bf,bf,bf,bf,bf,bf,bf,bf,bf,bf,bf,bf,bf,bf,bf,bf,bf,bf,bf,bf,bf,bf,bf,bf,bf,bf,bf,bf,bf,bf] (any_of HT_.out (by kernel_rfl)) ?_ ?_ ?_
                rotate_left
                ·intro w';go_simp;with_reducible rfl
                rotate_left
                ·simp only [Act.put,q_ia3,q_cz3,q_cs3,i64_w,i32_w];rfl
                refine pQ (i:=2) (N:=some 43) (v:=?_) (a':=?_) #[bT,bT,bT,bf,bf,bf,bf,bf,bf,bf,bf,bf,bf,bf,bf,bf,bf,bf,bf,bf,bf,bf,bf,bf,bf,bf,bf,bf,bf,bf,bf,bf,bf,bf,bf,bf,bf,bf,bf,bf,bf,bf,bf,bf,bf,bf] (any_of HT_.out (by kernel_rfl)) ?_ ?_ ?_
                rotate_left
                ·intro w';go_simp;with_reducible rfl
                rotate_left
                ·simp only [Act.put,q_ia3,q_cz3,q_cs3,i64_w,i32_w];rfl
                refine pQ (i:=3) (N:=some 44) (v:=?_) (a':=?_) #[bT,bT,bT,bT,bf,bf,bf,bf,bf,bf,bf,bf,bf,bf,bf,bf,bf,bf,bf,bf,bf,bf,bf,bf,bf,bf,bf,bf,bf,bf,bf,bf,bf,bf,bf,bf,bf,bf,bf,bf,bf,bf,bf,bf,bf,bf] (any_of HT_.out (by kernel_rfl)) ?_ ?_ ?_
                rotate_left
                ·intro w';go_simp;with_reducible rfl
                rotate_left
                ·simp only [Act.put,q_ia3,q_cz3,q_cs3,i64_w,i32_w];rfl
                refine pQ (i:=4) (N:=some 45) (v:=?_) (a':=?_) #[bT,bT,bT,bT,bT,bf,bf,bf,bf,bf,bf,bf,bf,bf,bf,bf,bf,bf,bf,bf,bf,bf,bf,bf,bf,bf,bf,bf,bf,bf,bf,bf,bf,bf,bf,bf,bf,bf,bf,bf,bf,bf,bf,bf,bf,bf] (any_of HT_.out (by kernel_rfl)) ?_ ?_ ?_
                rotate_left
                ·intro w';go_simp;with_reducible rfl
                rotate_left
                ·simp only [Act.put,q_ia3,q_cz3,q_cs3,i64_w,i32_w];rfl
                refine pQ (i:=6) (N:=some 47) (v:=?_) (a':=?_) #[bT,bT,bT,bT,bT,bf,bT,bf,bf,bf,bf,bf,bf,bf,bf,bf,bf,bf,bf,bf,bf,bf,bf,bf,bf,bf,bf,bf,bf,bf,bf,bf,bf,bf,bf,bf,bf,bf,bf,bf,bf,bf,bf,bf,bf,bf] (any_of HT_.out (by kernel_rfl)) ?_ ?_ ?_
                rotate_left
                ·intro w';go_simp;with_reducible rfl
                rotate_left
                ·simp only [Act.put,q_ia3,q_cz3,q_cs3,i64_w,i32_w];rfl
                refine pQ (i:=7) (N:=some 48) (v:=?_) (a':=?_) #[bT,bT,bT,bT,bT,bf,bT,bT,bf,bf,bf,bf,bf,bf,bf,bf,bf,bf,bf,bf,bf,bf,bf,bf,bf,bf,bf,bf,bf,bf,bf,bf,bf,bf,bf,bf,bf,bf,bf,bf,bf,bf,bf,bf,bf,bf] (any_of HT_.out (by kernel_rfl)) ?_ ?_ ?_
                rotate_left
                ·intro w';go_simp;with_reducible rfl
                rotate_left
                ·simp only [Act.put,q_ia3,q_cz3,q_cs3,i64_w,i32_w];rfl
                refine one_ (i:=5) (N:=some 46) #[bT,bT,bT,bT,bT,bT,bT,bT,bf,bf,bf,bf,bf,bf,bf,bf,bf,bf,bf,bf,bf,bf,bf,bf,bf,bf,bf,bf,bf,bf,bf,bf,bf,bf,bf,bf,bf,bf,bf,bf,bf,bf,bf,bf,bf,bf] rfl rfl (one_of HT_.out (by kernel_rfl)) (by decide) (fun K hK => ?_)
                refine goes_ Tryd.func21 (by kernel_rfl) rfl #[.string t186,.string t187] (by rfl) rfl rfl (by (try simp only [List.map_toArray,List.map_cons,List.map_nil]);first|done|rfl|(simp only [List.length_drop,List.length_take];rfl)) ?_
                with_reducible refine (impl_Less.calls kj16 t186 t187 t198 _ A25.out).mono ?_
                rintro e w41 ⟨rfl,hb⟩
                have HS0_:=(hb.cell (World.block_lt_of_cell? _ _ (hHeld.1))).trans (hHeld.1)
                have HS1_:=(hb.cell (World.block_lt_of_cell? _ _ (hHeld.2))).trans (hHeld.2)
                refine ⟨_,rfl,?_⟩
                have n0_:=aM (rH HO_5.out hb)
                have n1_:=aM (lQ HB.out hb)
                clear HO_5
                clear HB
                have HO_5:=n0_
                have HB:=n1_
                clear n0_ n1_
                (try clear hb)
                (try clear hb2)
                (try clear hk)
                (try clear hi)
                refine hK.out _ _ ⟨HS0_,HS1_⟩ (fun hHeld => ?_)
                clear hK K
                refine norm_ (a':=?_) ?_ ?_
                rotate_left
                ·show Act.put _ (some 46) _ = _
                 simp only [Act.put,q_ia3,q_cz3,q_cs3,i64_w,i32_w]
                 rfl
                refine one_ (i:=8) (N:=some 49) #[bT,bT,bT,bT,bT,bT,bT,bT,bT,bf,bf,bf,bf,bf,bf,bf,bf,bf,bf,bf,bf,bf,bf,bf,bf,bf,bf,bf,bf,bf,bf,bf,bf,bf,bf,bf,bf,bf,bf,bf,bf,bf,bf,bf,bf,bf] rfl rfl (one_of HT_.out (by kernel_rfl)) (by decide) (fun K hK => ?_)
                refine goes_ Tryd.func20 (by kernel_rfl) rfl #[.string t186,.string t187] (by rfl) rfl rfl (by (try simp only [List.map_toArray,List.map_cons,List.map_nil]);first|done|rfl|(simp only [List.length_drop,List.length_take];rfl)) ?_
                with_reducible refine (spec_Less.calls kj16 t186 t187 t199 _ A26.out).mono ?_
                rintro e w' ⟨rfl,⟨nd,rfl⟩⟩
                refine ⟨_,rfl,?_⟩
                refine hK.out _ _ ⟨hHeld.1,hHeld.2⟩ (fun hHeld => ?_)
                clear hK K
                refine norm_ (a':=?_) ?_ ?_
                rotate_left
                ·show Act.put _ (some 49) _ = _
                 simp only [Act.put,q_ia3,q_cz3,q_cs3,i64_w,i32_w]
                 rfl
                refine pQ (i:=9) (N:=some 50) (v:=?_) (a':=?_) #[bT,bT,bT,bT,bT,bT,bT,bT,bT,bT,bf,bf,bf,bf,bf,bf,bf,bf,bf,bf,bf,bf,bf,bf,bf,bf,bf,bf,bf,bf,bf,bf,bf,bf,bf,bf,bf,bf,bf,bf,bf,bf,bf,bf,bf,bf] (any_of HT_.out (by kernel_rfl)) ?_ ?_ ?_
                rotate_left
                ·intro w';go_simp;with_reducible rfl
                rotate_left
                ·simp only [Act.put,q_ia3,q_cz3,q_cs3,i64_w,i32_w];rfl
                refine pQ (i:=10) (N:=some 51) (v:=?_) (a':=?_) #[bT,bT,bT,bT,bT,bT,bT,bT,bT,bT,bT,bf,bf,bf,bf,bf,bf,bf,bf,bf,bf,bf,bf,bf,bf,bf,bf,bf,bf,bf,bf,bf,bf,bf,bf,bf,bf,bf,bf,bf,bf,bf,bf,bf,bf,bf] (any_of HT_.out (by kernel_rfl)) ?_ ?_ ?_
                rotate_left
                ·intro w';go_simp;with_reducible rfl
                rotate_left
                ·simp only [Act.put,q_ia3,q_cz3,q_cs3,i64_w,i32_w];rfl
                refine pQ (i:=11) (N:=some 52) (v:=?_) (a':=?_) #[bT,bT,bT,bT,bT,bT,bT,bT,bT,bT,bT,bT,bf,bf,bf,bf,bf,bf,bf,bf,bf,bf,bf,bf,bf,bf,bf,bf,bf,bf,bf,bf,bf,bf,bf,bf,bf,bf,bf,bf,bf,bf,bf,bf,bf,bf] (any_of HT_.out (by kernel_rfl)) ?_ ?_ ?_
                rotate_left
                ·intro w';go_simp;with_reducible rfl
                rotate_left
                ·simp only [Act.put,q_ia3,q_cz3,q_cs3,i64_w,i32_w];rfl
                refine pQ (i:=12) (N:=some 53) (v:=?_) (a':=?_) #[bT,bT,bT,bT,bT,bT,bT,bT,bT,bT,bT,bT,bT,bf,bf,bf,bf,bf,bf,bf,bf,bf,bf,bf,bf,bf,bf,bf,bf,bf,bf,bf,bf,bf,bf,bf,bf,bf,bf,bf,bf,bf,bf,bf,bf,bf] (any_of HT_.out (by kernel_rfl)) ?_ ?_ ?_
                rotate_left
                ·intro w';go_simp;with_reducible rfl
                rotate_left
                ·simp only [Act.put,q_ia3,q_cz3,q_cs3,i64_w,i32_w];rfl
                refine pQ (i:=13) (N:=some 54) (v:=?_) (a':=?_) #[bT,bT,bT,bT,bT,bT,bT,bT,bT,bT,bT,bT,bT,bT,bf,bf,bf,bf,bf,bf,bf,bf,bf,bf,bf,bf,bf,bf,bf,bf,bf,bf,bf,bf,bf,bf,bf,bf,bf,bf,bf,bf,bf,bf,bf,bf] (any_of HT_.out (by kernel_rfl)) ?_ ?_ ?_
                rotate_left
                ·intro w';go_simp;with_reducible rfl
                rotate_left
                ·simp only [Act.put,q_ia3,q_cz3,q_cs3,i64_w,i32_w];rfl
                refine pQ (i:=15) (N:=some 56) (v:=?_) (a':=?_) #[bT,bT,bT,bT,bT,bT,bT,bT,bT,bT,bT,bT,bT,bT,bf,bT,bf,bf,bf,bf,bf,bf,bf,bf,bf,bf,bf,bf,bf,bf,bf,bf,bf,bf,bf,bf,bf,bf,bf,bf,bf,bf,bf,bf,bf,bf] (any_of HT_.out (by kernel_rfl)) ?_ ?_ ?_
                rotate_left
                ·intro w';go_simp;with_reducible rfl
                rotate_left
                ·simp only [Act.put,q_ia3,q_cz3,q_cs3,i64_w,i32_w];rfl
                refine pQ (i:=16) (N:=some 57) (v:=?_) (a':=?_) #[bT,bT,bT,bT,bT,bT,bT,bT,bT,bT,bT,bT,bT,bT,bf,bT,bT,bf,bf,bf,bf,bf,bf,bf,bf,bf,bf,bf,bf,bf,bf,bf,bf,bf,bf,bf,bf,bf,bf,bf,bf,bf,bf,bf,bf,bf] (any_of HT_.out (by kernel_rfl)) ?_ ?_ ?_
                rotate_left
                ·intro w';go_simp;with_reducible rfl
                rotate_left
                ·simp only [Act.put,q_ia3,q_cz3,q_cs3,i64_w,i32_w];rfl
                refine one_ (i:=14) (N:=some 55) #[bT,bT,bT,bT,bT,bT,bT,bT,bT,bT,bT,bT,bT,bT,bT,bT,bT,bf,bf,bf,bf,bf,bf,bf,bf,bf,bf,bf,bf,bf,bf,bf,bf,bf,bf,bf,bf,bf,bf,bf,bf,bf,bf,bf,bf,bf] rfl rfl (one_of HT_.out (by kernel_rfl)) (by decide) (fun K hK => ?_)
                refine goes_ Tryd.func23 (by kernel_rfl) rfl #[.string t186,.string t187] (by rfl) rfl rfl (by (try simp only [List.map_toArray,List.map_cons,List.map_nil]);first|done|rfl|(simp only [List.length_drop,List.length_take];rfl)) ?_
                with_reducible refine (impl_Same.calls kj16 t186 t187 t200 _ A28.out).mono ?_
                rintro e w42 ⟨rfl,hb⟩
                have HS0_:=(hb.cell (World.block_lt_of_cell? _ _ (hHeld.1))).trans (hHeld.1)
                have HS1_:=(hb.cell (World.block_lt_of_cell? _ _ (hHeld.2))).trans (hHeld.2)
                refine ⟨_,rfl,?_⟩
                have n0_:=aM (rH HO_5.out hb)
                have n1_:=aM (lQ HB.out hb)
                clear HO_5
                clear HB
                have HO_5:=n0_
                have HB:=n1_
                clear n0_ n1_
                (try clear hb)
                (try clear hb2)
                (try clear hk)
                (try clear hi)
                refine hK.out _ _ ⟨HS0_,HS1_⟩ (fun hHeld => ?_)
                clear hK K
                refine norm_ (a':=?_) ?_ ?_
                rotate_left
                ·show Act.put _ (some 55) _ = _
                 simp only [Act.put,q_ia3,q_cz3,q_cs3,i64_w,i32_w]
                 rfl
                refine one_ (i:=17) (N:=some 58) #[bT,bT,bT,bT,bT,bT,bT,bT,bT,bT,bT,bT,bT,bT,bT,bT,bT,bT,bf,bf,bf,bf,bf,bf,bf,bf,bf,bf,bf,bf,bf,bf,bf,bf,bf,bf,bf,bf,bf,bf,bf,bf,bf,bf,bf,bf] rfl rfl (one_of HT_.out (by kernel_rfl)) (by decide) (fun K hK => ?_)
                refine goes_ Tryd.func22 (by kernel_rfl) rfl #[.string t186,.string t187] (by rfl) rfl rfl (by (try simp only [List.map_toArray,List.map_cons,List.map_nil]);first|done|rfl|(simp only [List.length_drop,List.length_take];rfl)) ?_
                with_reducible refine (spec_Same.calls kj16 t186 t187 t201 _ A29.out).mono ?_
                rintro e w' ⟨rfl,⟨nd,rfl⟩⟩
                refine ⟨_,rfl,?_⟩
                refine hK.out _ _ ⟨hHeld.1,hHeld.2⟩ (fun hHeld => ?_)
                clear hK K
                refine norm_ (a':=?_) ?_ ?_
                rotate_left
                ·show Act.put _ (some 58) _ = _
                 simp only [Act.put,q_ia3,q_cz3,q_cs3,i64_w,i32_w]
                 rfl
                refine pQ (i:=18) (N:=some 59) (v:=?_) (a':=?_) #[bT,bT,bT,bT,bT,bT,bT,bT,bT,bT,bT,bT,bT,bT,bT,bT,bT,bT,bT,bf,bf,bf,bf,bf,bf,bf,bf,bf,bf,bf,bf,bf,bf,bf,bf,bf,bf,bf,bf,bf,bf,bf,bf,bf,bf,bf] (any_of HT_.out (by kernel_rfl)) ?_ ?_ ?_
                rotate_left
                ·intro w';go_simp;with_reducible rfl
                rotate_left
                ·simp only [Act.put,q_ia3,q_cz3,q_cs3,i64_w,i32_w];rfl
                refine pQ (i:=19) (N:=some 60) (v:=?_) (a':=?_) #[bT,bT,bT,bT,bT,bT,bT,bT,bT,bT,bT,bT,bT,bT,bT,bT,bT,bT,bT,bT,bf,bf,bf,bf,bf,bf,bf,bf,bf,bf,bf,bf,bf,bf,bf,bf,bf,bf,bf,bf,bf,bf,bf,bf,bf,bf] (any_of HT_.out (by kernel_rfl)) ?_ ?_ ?_
                rotate_left
                ·intro w';go_simp;with_reducible rfl
                rotate_left
                ·simp only [Act.put,q_ia3,q_cz3,q_cs3,i64_w,i32_w];rfl
                refine pQ (i:=20) (N:=some 61) (v:=?_) (a':=?_) #[bT,bT,bT,bT,bT,bT,bT,bT,bT,bT,bT,bT,bT,bT,bT,bT,bT,bT,bT,bT,bT,bf,bf,bf,bf,bf,bf,bf,bf,bf,bf,bf,bf,bf,bf,bf,bf,bf,bf,bf,bf,bf,bf,bf,bf,bf] (any_of HT_.out (by kernel_rfl)) ?_ ?_ ?_
                rotate_left
                ·intro w';go_simp;with_reducible rfl
                rotate_left
                ·simp only [Act.put,q_ia3,q_cz3,q_cs3,i64_w,i32_w];rfl
                refine pQ (i:=21) (N:=some 62) (v:=?_) (a':=?_) #[bT,bT,bT,bT,bT,bT,bT,bT,bT,bT,bT,bT,bT,bT,bT,bT,bT,bT,bT,bT,bT,bT,bf,bf,bf,bf,bf,bf,bf,bf,bf,bf,bf,bf,bf,bf,bf,bf,bf,bf,bf,bf,bf,bf,bf,bf] (any_of HT_.out (by kernel_rfl)) ?_ ?_ ?_
                rotate_left
                ·intro w';go_simp;with_reducible rfl
                rotate_left
                ·simp only [Act.put,q_ia3,q_cz3,q_cs3,i64_w,i32_w];rfl
                refine pQ (i:=22) (N:=some 63) (v:=?_) (a':=?_) #[bT,bT,bT,bT,bT,bT,bT,bT,bT,bT,bT,bT,bT,bT,bT,bT,bT,bT,bT,bT,bT,bT,bT,bf,bf,bf,bf,bf,bf,bf,bf,bf,bf,bf,bf,bf,bf,bf,bf,bf,bf,bf,bf,bf,bf,bf] (any_of HT_.out (by kernel_rfl)) ?_ ?_ ?_
                rotate_left
                ·intro w';go_simp;with_reducible rfl
                rotate_left
                ·simp only [Act.put,q_ia3,q_cz3,q_cs3,i64_w,i32_w];rfl
                refine pQ (i:=24) (N:=some 65) (v:=?_) (a':=?_) #[bT,bT,bT,bT,bT,bT,bT,bT,bT,bT,bT,bT,bT,bT,bT,bT,bT,bT,bT,bT,bT,bT,bT,bf,bT,bf,bf,bf,bf,bf,bf,bf,bf,bf,bf,bf,bf,bf,bf,bf,bf,bf,bf,bf,bf,bf] (any_of HT_.out (by kernel_rfl)) ?_ ?_ ?_
                rotate_left
                ·intro w';go_simp;with_reducible rfl
                rotate_left
                ·simp only [Act.put,q_ia3,q_cz3,q_cs3,i64_w,i32_w];rfl
                refine pQ (i:=25) (N:=some 66) (v:=?_) (a':=?_) #[bT,bT,bT,bT,bT,bT,bT,bT,bT,bT,bT,bT,bT,bT,bT,bT,bT,bT,bT,bT,bT,bT,bT,bf,bT,bT,bf,bf,bf,bf,bf,bf,bf,bf,bf,bf,bf,bf,bf,bf,bf,bf,bf,bf,bf,bf] (any_of HT_.out (by kernel_rfl)) ?_ ?_ ?_
                rotate_left
                ·intro w';go_simp;with_reducible rfl
                rotate_left
                ·simp only [Act.put,q_ia3,q_cz3,q_cs3,i64_w,i32_w];rfl
                refine pQ (i:=27) (N:=some 68) (v:=?_) (a':=?_) #[bT,bT,bT,bT,bT,bT,bT,bT,bT,bT,bT,bT,bT,bT,bT,bT,bT,bT,bT,bT,bT,bT,bT,bf,bT,bT,bf,bT,bf,bf,bf,bf,bf,bf,bf,bf,bf,bf,bf,bf,bf,bf,bf,bf,bf,bf] (any_of HT_.out (by kernel_rfl)) ?_ ?_ ?_
                rotate_left
                ·intro w';go_simp;with_reducible rfl
                rotate_left
                ·simp only [Act.put,q_ia3,q_cz3,q_cs3,i64_w,i32_w];rfl
                refine pQ (i:=28) (N:=some 69) (v:=?_) (a':=?_) #[bT,bT,bT,bT,bT,bT,bT,bT,bT,bT,bT,bT,bT,bT,bT,bT,bT,bT,bT,bT,bT,bT,bT,bf,bT,bT,bf,bT,bT,bf,bf,bf,bf,bf,bf,bf,bf,bf,bf,bf,bf,bf,bf,bf,bf,bf] (any_of HT_.out (by kernel_rfl)) ?_ ?_ ?_
                rotate_left
                ·intro w';go_simp;with_reducible rfl
                rotate_left
                ·simp only [Act.put,q_ia3,q_cz3,q_cs3,i64_w,i32_w];rfl
                refine take_ (i:=26) (N:=some 67) (v:=?_) (a':=?_) #[bT,bT,bT,bT,bT,bT,bT,bT,bT,bT,bT,bT,bT,bT,bT,bT,bT,bT,bT,bT,bT,bT,bT,bf,bT,bT,bT,bT,bT,bf,bf,bf,bf,bf,bf,bf,bf,bf,bf,bf,bf,bf,bf,bf,bf,bf] rfl rfl (take_ofW HT_.out HW_.out (by kernel_rfl)) (fun _ _ _ h => h) (Or.inl ⟨by rfl,?_⟩) hHeld ?_ ?_
                rotate_left
                ·rintro w' ⟨s0,s1⟩
                 go_simp
                 with_reducible rfl
                rotate_left
                ·simp only [Act.put,q_ia3,q_cz3,q_cs3,i64_w,i32_w];rfl
                refine take_ (i:=29) (N:=some 70) (v:=?_) (a':=?_) #[bT,bT,bT,bT,bT,bT,bT,bT,bT,bT,bT,bT,bT,bT,bT,bT,bT,bT,bT,bT,bT,bT,bT,bf,bT,bT,bT,bT,bT,bT,bf,bf,bf,bf,bf,bf,bf,bf,bf,bf,bf,bf,bf,bf,bf,bf] rfl rfl (take_ofW HT_.out HW_.out (by kernel_rfl)) (fun _ _ _ h => h) (Or.inl ⟨by rfl,?_⟩) hHeld ?_ ?_
                rotate_left
                ·rintro w' ⟨s0,s1⟩
                 go_simp
                 with_reducible rfl
                rotate_left
                ·simp only [Act.put,q_ia3,q_cz3,q_cs3,i64_w,i32_w];rfl
                refine pQ (i:=30) (N:=some 71) (v:=?_) (a':=?_) #[bT,bT,bT,bT,bT,bT,bT,bT,bT,bT,bT,bT,bT,bT,bT,bT,bT,bT,bT,bT,bT,bT,bT,bf,bT,bT,bT,bT,bT,bT,bT,bf,bf,bf,bf,bf,bf,bf,bf,bf,bf,bf,bf,bf,bf,bf] (any_of HT_.out (by kernel_rfl)) ?_ ?_ ?_
                rotate_left
                ·intro w';go_simp;with_reducible rfl
                rotate_left
                ·simp only [Act.put,q_ia3,q_cz3,q_cs3,i64_w,i32_w];rfl
                refine one_ (i:=23) (N:=some 64) #[bT,bT,bT,bT,bT,bT,bT,bT,bT,bT,bT,bT,bT,bT,bT,bT,bT,bT,bT,bT,bT,bT,bT,bT,bT,bT,bT,bT,bT,bT,bT,bf,bf,bf,bf,bf,bf,bf,bf,bf,bf,bf,bf,bf,bf,bf] rfl rfl (one_of HT_.out (by kernel_rfl)) (by decide) (fun K hK => ?_)
                refine goes_ Tryd.func21 (by kernel_rfl) rfl #[.string t195,.string t197] (by rfl) rfl rfl (by (try simp only [List.map_toArray,List.map_cons,List.map_nil]);first|done|rfl|(simp only [List.length_drop,List.length_take];rfl)) ?_
                with_reducible refine (impl_Less.calls kj16 t195 t197 t202 _ A31.out).mono ?_
                rintro e w43 ⟨rfl,hb⟩
                have HS0_:=(hb.cell (World.block_lt_of_cell? _ _ (hHeld.1))).trans (hHeld.1)
                have HS1_:=(hb.cell (World.block_lt_of_cell? _ _ (hHeld.2))).trans (hHeld.2)
                refine ⟨_,rfl,?_⟩
                have n0_:=aM (rH HO_5.out hb)
                have n1_:=aM (lQ HB.out hb)
                clear HO_5
                clear HB
                have HO_5:=n0_
                have HB:=n1_
                clear n0_ n1_
                (try clear hb)
                (try clear hb2)
                (try clear hk)
                (try clear hi)
                refine hK.out _ _ ⟨HS0_,HS1_⟩ (fun hHeld => ?_)
                clear hK K
                refine norm_ (a':=?_) ?_ ?_
                rotate_left
                ·show Act.put _ (some 64) _ = _
                 simp only [Act.put,q_ia3,q_cz3,q_cs3,i64_w,i32_w]
                 rfl
                refine pQ (i:=31) (N:=some 72) (v:=?_) (a':=?_) #[bT,bT,bT,bT,bT,bT,bT,bT,bT,bT,bT,bT,bT,bT,bT,bT,bT,bT,bT,bT,bT,bT,bT,bT,bT,bT,bT,bT,bT,bT,bT,bT,bf,bf,bf,bf,bf,bf,bf,bf,bf,bf,bf,bf,bf,bf] (any_of HT_.out (by kernel_rfl)) ?_ ?_ ?_
                rotate_left
                ·intro w';go_simp;with_reducible rfl
                rotate_left
                ·simp only [Act.put,q_ia3,q_cz3,q_cs3,i64_w,i32_w];rfl
                refine pQ (i:=32) (N:=some 73) (v:=?_) (a':=?_) #[bT,bT,bT,bT,bT,bT,bT,bT,bT,bT,bT,bT,bT,bT,bT,bT,bT,bT,bT,bT,bT,bT,bT,bT,bT,bT,bT,bT,bT,bT,bT,bT,bT,bf,bf,bf,bf,bf,bf,bf,bf,bf,bf,bf,bf,bf] (any_of HT_.out (by kernel_rfl)) ?_ ?_ ?_
                rotate_left
                ·intro w';go_simp;with_reducible rfl
                rotate_left
                ·simp only [Act.put,q_ia3,q_cz3,q_cs3,i64_w,i32_w];rfl
                refine pQ (i:=33) (N:=some 74) (v:=?_) (a':=?_) #[bT,bT,bT,bT,bT,bT,bT,bT,bT,bT,bT,bT,bT,bT,bT,bT,bT,bT,bT,bT,bT,bT,bT,bT,bT,bT,bT,bT,bT,bT,bT,bT,bT,bT,bf,bf,bf,bf,bf,bf,bf,bf,bf,bf,bf,bf] (any_of HT_.out (by kernel_rfl)) ?_ ?_ ?_
                rotate_left
                ·intro w';go_simp;with_reducible rfl
                rotate_left
                ·simp only [Act.put,q_ia3,q_cz3,q_cs3,i64_w,i32_w];rfl
                refine one_ (i:=34) (N:=some 75) #[bT,bT,bT,bT,bT,bT,bT,bT,bT,bT,bT,bT,bT,bT,bT,bT,bT,bT,bT,bT,bT,bT,bT,bT,bT,bT,bT,bT,bT,bT,bT,bT,bT,bT,bT,bf,bf,bf,bf,bf,bf,bf,bf,bf,bf,bf] rfl rfl (one_of HT_.out (by kernel_rfl)) (by decide) (fun K hK => ?_)
                refine goes_ Tryd.func23 (by kernel_rfl) rfl #[.string (⟨#[48,48,55]⟩ : ByteArray),.string (⟨#[55]⟩ : ByteArray)] (by rfl) rfl rfl (by (try simp only [List.map_toArray,List.map_cons,List.map_nil]);first|done|rfl|(simp only [List.length_drop,List.length_take];rfl)) ?_
                with_reducible refine (impl_Same.calls kj16 (⟨#[48,48,55]⟩ : ByteArray) (⟨#[55]⟩ : ByteArray) true _ A33.out).mono ?_
                rintro e w44 ⟨rfl,hb⟩
                have HS0_:=(hb.cell (World.block_lt_of_cell? _ _ (hHeld.1))).trans (hHeld.1)
                have HS1_:=(hb.cell (World.block_lt_of_cell? _ _ (hHeld.2))).trans (hHeld.2)
                refine ⟨_,rfl,?_⟩
                have n0_:=aM (rH HO_5.out hb)
                have n1_:=aM (lQ HB.out hb)
                clear HO_5
                clear HB
                have HO_5:=n0_
                have HB:=n1_
                clear n0_ n1_
                (try clear hb)
                (try clear hb2)
                (try clear hk)
                (try clear hi)
                refine hK.out _ _ ⟨HS0_,HS1_⟩ (fun hHeld => ?_)
                clear hK K
                refine norm_ (a':=?_) ?_ ?_
                rotate_left
                ·show Act.put _ (some 75) _ = _
                 simp only [Act.put,q_ia3,q_cz3,q_cs3,i64_w,i32_w]
                 rfl
                refine pQ (i:=35) (N:=some 76) (v:=?_) (a':=?_) #[bT,bT,bT,bT,bT,bT,bT,bT,bT,bT,bT,bT,bT,bT,bT,bT,bT,bT,bT,bT,bT,bT,bT,bT,bT,bT,bT,bT,bT,bT,bT,bT,bT,bT,bT,bT,bf,bf,bf,bf,bf,bf,bf,bf,bf,bf] (any_of HT_.out (by kernel_rfl)) ?_ ?_ ?_
                rotate_left
                ·intro w';go_simp;with_reducible rfl
                rotate_left
                ·simp only [Act.put,q_ia3,q_cz3,q_cs3,i64_w,i32_w];rfl
                refine pQ (i:=36) (N:=some 77) (v:=?_) (a':=?_) #[bT,bT,bT,bT,bT,bT,bT,bT,bT,bT,bT,bT,bT,bT,bT,bT,bT,bT,bT,bT,bT,bT,bT,bT,bT,bT,bT,bT,bT,bT,bT,bT,bT,bT,bT,bT,bT,bf,bf,bf,bf,bf,bf,bf,bf,bf] (any_of HT_.out (by kernel_rfl)) ?_ ?_ ?_
                rotate_left
                ·intro w';go_simp;with_reducible rfl
                rotate_left
                ·simp only [Act.put,q_ia3,q_cz3,q_cs3,i64_w,i32_w];rfl
                refine one_ (i:=37) (N:=some 78) #[bT,bT,bT,bT,bT,bT,bT,bT,bT,bT,bT,bT,bT,bT,bT,bT,bT,bT,bT,bT,bT,bT,bT,bT,bT,bT,bT,bT,bT,bT,bT,bT,bT,bT,bT,bT,bT,bT,bf,bf,bf,bf,bf,bf,bf,bf] rfl rfl (one_of HT_.out (by kernel_rfl)) (by decide) (fun K hK => ?_)
                refine goes_ Tryd.func23 (by kernel_rfl) rfl #[.string (⟨#[97]⟩ : ByteArray),.string (⟨#[98]⟩ : ByteArray)] (by rfl) rfl rfl (by (try simp only [List.map_toArray,List.map_cons,List.map_nil]);first|done|rfl|(simp only [List.length_drop,List.length_take];rfl)) ?_
                with_reducible refine (impl_Same.calls kj16 (⟨#[97]⟩ : ByteArray) (⟨#[98]⟩ : ByteArray) true _ A35.out).mono ?_
                rintro e w45 ⟨rfl,hb⟩
                have HS0_:=(hb.cell (World.block_lt_of_cell? _ _ (hHeld.1))).trans (hHeld.1)
                have HS1_:=(hb.cell (World.block_lt_of_cell? _ _ (hHeld.2))).trans (hHeld.2)
                refine ⟨_,rfl,?_⟩
                have n0_:=aM (rH HO_5.out hb)
                have n1_:=aM (lQ HB.out hb)
                clear HO_5
                clear HB
                have HO_5:=n0_
                have HB:=n1_
                clear n0_ n1_
                (try clear hb)
                (try clear hb2)
                (try clear hk)
                (try clear hi)
                refine hK.out _ _ ⟨HS0_,HS1_⟩ (fun hHeld => ?_)
                clear hK K
                refine norm_ (a':=?_) ?_ ?_
                rotate_left
                ·show Act.put _ (some 78) _ = _
                 simp only [Act.put,q_ia3,q_cz3,q_cs3,i64_w,i32_w]
                 rfl
                refine pQ (i:=38) (N:=some 79) (v:=?_) (a':=?_) #[bT,bT,bT,bT,bT,bT,bT,bT,bT,bT,bT,bT,bT,bT,bT,bT,bT,bT,bT,bT,bT,bT,bT,bT,bT,bT,bT,bT,bT,bT,bT,bT,bT,bT,bT,bT,bT,bT,bT,bf,bf,bf,bf,bf,bf,bf] (any_of HT_.out (by kernel_rfl)) ?_ ?_ ?_
                rotate_left
                ·intro w';go_simp;with_reducible rfl
                rotate_left
                ·simp only [Act.put,q_ia3,q_cz3,q_cs3,i64_w,i32_w];rfl
                refine pQ (i:=39) (N:=some 80) (v:=?_) (a':=?_) #[bT,bT,bT,bT,bT,bT,bT,bT,bT,bT,bT,bT,bT,bT,bT,bT,bT,bT,bT,bT,bT,bT,bT,bT,bT,bT,bT,bT,bT,bT,bT,bT,bT,bT,bT,bT,bT,bT,bT,bT,bf,bf,bf,bf,bf,bf] (any_of HT_.out (by kernel_rfl)) ?_ ?_ ?_
                rotate_left
                ·intro w';go_simp;with_reducible rfl
                rotate_left
                ·simp only [Act.put,q_ia3,q_cz3,q_cs3,i64_w,i32_w];rfl
                refine pQ (i:=40) (N:=some 81) (v:=?_) (a':=?_) #[bT,bT,bT,bT,bT,bT,bT,bT,bT,bT,bT,bT,bT,bT,bT,bT,bT,bT,bT,bT,bT,bT,bT,bT,bT,bT,bT,bT,bT,bT,bT,bT,bT,bT,bT,bT,bT,bT,bT,bT,bT,bf,bf,bf,bf,bf] (any_of HT_.out (by kernel_rfl)) ?_ ?_ ?_
                rotate_left
                ·intro w';go_simp;with_reducible rfl
                rotate_left
                ·simp only [Act.put,q_ia3,q_cz3,q_cs3,i64_w,i32_w];rfl
                refine pure_ (i:=41) (N:=some 82) (v:=undef) (a':=?_) #[bT,bT,bT,bT,bT,bT,bT,bT,bT,bT,bT,bT,bT,bT,bT,bT,bT,bT,bT,bT,bT,bT,bT,bT,bT,bT,bT,bT,bT,bT,bT,bT,bT,bT,bT,bT,bT,bT,bT,bT,bT,bT,bf,bf,bf,bf] rfl rfl (any_of HT_.out (by kernel_rfl)) (fun _ _ _ h => h) (Or.inr ⟨by rfl,rfl⟩) ?_ ?_
                rotate_left
                ·simp only [Act.put,q_ia3,q_cz3,q_cs3,i64_w,i32_w];rfl
                refine pure_ (i:=42) (N:=some 83) (v:=undef) (a':=?_) #[bT,bT,bT,bT,bT,bT,bT,bT,bT,bT,bT,bT,bT,bT,bT,bT,bT,bT,bT,bT,bT,bT,bT,bT,bT,bT,bT,bT,bT,bT,bT,bT,bT,bT,bT,bT,bT,bT,bT,bT,bT,bT,bT,bf,bf,bf] rfl rfl (any_of HT_.out (by kernel_rfl)) (fun _ _ _ h => h) (Or.inr ⟨by rfl,rfl⟩) ?_ ?_
                rotate_left
                ·simp only [Act.put,q_ia3,q_cz3,q_cs3,i64_w,i32_w];rfl
                refine pure_ (i:=43) (N:=some 84) (v:=undef) (a':=?_) #[bT,bT,bT,bT,bT,bT,bT,bT,bT,bT,bT,bT,bT,bT,bT,bT,bT,bT,bT,bT,bT,bT,bT,bT,bT,bT,bT,bT,bT,bT,bT,bT,bT,bT,bT,bT,bT,bT,bT,bT,bT,bT,bT,bT,bf,bf] rfl rfl (any_of HT_.out (by kernel_rfl)) (fun _ _ _ h => h) (Or.inr ⟨by rfl,rfl⟩) ?_ ?_
                rotate_left
                ·simp only [Act.put,q_ia3,q_cz3,q_cs3,i64_w,i32_w];rfl
                refine pQ (i:=44) (N:=some 85) (v:=?_) (a':=?_) #[bT,bT,bT,bT,bT,bT,bT,bT,bT,bT,bT,bT,bT,bT,bT,bT,bT,bT,bT,bT,bT,bT,bT,bT,bT,bT,bT,bT,bT,bT,bT,bT,bT,bT,bT,bT,bT,bT,bT,bT,bT,bT,bT,bT,bT,bf] (any_of HT_.out (by kernel_rfl)) ?_ ?_ ?_
                rotate_left
                ·intro w';go_simp;with_reducible rfl
                rotate_left
                ·simp only [Act.put,q_ia3,q_cz3,q_cs3,i64_w,i32_w];rfl
                refine pQ (i:=45) (N:=some 2) (v:=?_) (a':=?_) #[bT,bT,bT,bT,bT,bT,bT,bT,bT,bT,bT,bT,bT,bT,bT,bT,bT,bT,bT,bT,bT,bT,bT,bT,bT,bT,bT,bT,bT,bT,bT,bT,bT,bT,bT,bT,bT,bT,bT,bT,bT,bT,bT,bT,bT,bT] (any_of HT_.out (by kernel_rfl)) ?_ ?_ ?_
                rotate_left
                ·intro w';go_simp;with_reducible rfl
                rotate_left
                ·simp only [Act.put,q_ia3,q_cz3,q_cs3,i64_w,i32_w];rfl
                refine done_ (done_of HT_.out (by kernel_rfl)) ?_
                try go_wp2
                go_ret
                exact ⟨by first|rfl|(simp [errW_none,errW_some] <;> rfl)|(simp [*,errW_none,errW_some] <;> rfl),by repeat (first|(with_reducible first|exact HB.out|apply lA|apply lN|apply lD)|exact HB.out)⟩
               ·replace c36:=Bool.eq_false_iff.mpr c36
                subst c36
                have H1 : ((impl_Same.f kj16 t186 t186).bind fun t207 => (some t207)) = some r:=by rw [if_neg (show ¬ (false = true) by decide)] at H;exact H
                clear H
                have H:=H1
                clear H1
                replace H:=Option.bind_eq_some_iff.mp H
                obtain ⟨t207,A460,H⟩:=H
                replace H : (some t207) = some r:=H
                have A46:=aM A460
                clear A460
                obtain rfl:=Option.some.inj H
                obtain ⟨Ao47,co47,eo47⟩:=Kd.R_slice HO_5.out
                subst eo47
                have p194 : 0 ≤ (0 : Int):=(by omega)
                have q194 : 0 < (t188.length : Int):=of_decide_eq_true (by first|(with_reducible assumption)|assumption)
                obtain ⟨ad194,e194,hx194_0⟩:=Kd.at_int (rR HO_5.out).2.2 0 p194 q194
                cases e194
                have qi194 : (0 < t188.length) = True:=eq_true (by omega)
                (try rw [show ((0 : Int)).toNat = 0 from rfl] at hx194_0)
                (try rw [Addr.add_zero'] at hx194_0)
                replace p194:=eq_true p194
                replace q194:=eq_true q194
                try go_wp2_with (first|((with_reducible refine gate_callee (f:=14) rfl ?_);refine goesL_ (some 36) rfl rfl Tryd.func14 (by kernel_rfl) rfl #[.int .i64 (rd t188 0)] rfl (by (try simp only [List.map_toArray,List.map_cons,List.map_nil]);first|done|rfl|(simp only [List.length_drop,List.length_take];rfl)) ?_;(with_reducible refine (spec_Decimal.calls kj16 (rd t188 0) t195 _ A21.out).mono ?_);rintro e w48 ⟨rfl,hb⟩;refine ⟨_,rfl,?_⟩;have n0_:=aM (rH HO_5.out hb);have n1_:=aM (lQ HB.out hb);clear HO_5 HB;have HO_5:=n0_;have HB:=n1_;clear n0_ n1_;(try clear hb);(try clear hb2);(try clear hk);(try clear hi);have p196 : 0 ≤ (1 : Int):=(by omega);have q196 : 1 < (t188.length : Int):=of_decide_eq_true (by first|(with_reducible assumption)|assumption);obtain ⟨ad196,e196,hx196_0⟩:=Kd.at_int (rR HO_5.out).2.2 1 p196 q196;obtain rfl : ad194 = ad196:=(by injection e196);(try simp only [show (1 : Int).toNat = 1 from rfl,Nat.reduceMul,Nat.reduceEqDiff,Go.Addr.add,↓reduceIte] at hx196_0);have qi196 : (1 < t188.length) = True:=eq_true (by omega);(try rw [show ((1 : Int)).toNat = 1 from rfl] at hx196_0);replace p196:=eq_true p196;replace q196:=eq_true q196)|((with_reducible refine gate_callee (f:=14) rfl ?_);refine goesL_ (some 40) rfl rfl Tryd.func14 (by kernel_rfl) rfl #[.int .i64 (rd t188 1)] rfl (by (try simp only [List.map_toArray,List.map_cons,List.map_nil]);first|done|rfl|(simp only [List.length_drop,List.length_take];rfl)) ?_;(with_reducible refine (spec_Decimal.calls kj16 (rd t188 1) t197 _ A23.out).mono ?_);rintro e w49 ⟨rfl,hb⟩;refine ⟨_,rfl,?_⟩;have n0_:=aM (rH HO_5.out hb);have n1_:=aM (lQ HB.out hb);clear HO_5 HB;have HO_5:=n0_;have HB:=n1_;clear n0_ n1_;(try clear hb);(try clear hb2);(try clear hk);(try clear hi)))
                have n0_:=aM (rD HO_5.out)
                have n1_:=aM (lD HB.out)
                clear HO_5
                clear HB
                have HO_5:=n0_
                have HB:=n1_
                clear n0_ n1_
                have p203 : 0 ≤ (0 : Int):=(by omega)
                have q203 : 0 < (t188.length : Int):=of_decide_eq_true (by first|(with_reducible assumption)|assumption)
                obtain ⟨ad203,e203,hx203_0⟩:=Kd.at_int (rR HO_5.out).2.2 0 p203 q203
                obtain rfl : ad194 = ad203:=(by injection e203)
                have qi203 : (0 < t188.length) = True:=eq_true (by omega)
                (try rw [show ((0 : Int)).toNat = 0 from rfl] at hx203_0)
                (try rw [Addr.add_zero'] at hx203_0)
                replace p203:=eq_true p203
                replace q203:=eq_true q203
                have p204 : 0 ≤ (1 : Int):=(by omega)
                have q204 : 1 < (t188.length : Int):=of_decide_eq_true (by first|(with_reducible assumption)|assumption)
                obtain ⟨ad204,e204,hx204_0⟩:=Kd.at_int (rR HO_5.out).2.2 1 p204 q204
                obtain rfl : ad194 = ad204:=(by injection e204)
                (try simp only [show (1 : Int).toNat = 1 from rfl,Nat.reduceMul,Nat.reduceEqDiff,Go.Addr.add,↓reduceIte] at hx204_0)
                have qi204 : (1 < t188.length) = True:=eq_true (by omega)
                (try rw [show ((1 : Int)).toNat = 1 from rfl] at hx204_0)
                replace p204:=eq_true p204
                replace q204:=eq_true q204
                refine start_ (n:=46) (S:=fun w' => w'.cell? ad194 = some (.int .i64 (rd t188 0)) ∧ w'.cell? ⟨ad194.block,ad194.off + 1,none⟩ = some (.int .i64 (rd t188 1))) (ds:=[]) #[bf,bf,bf,bf,bf,bf,bf,bf,bf,bf,bf,bf,bf,bf,bf,bf,bf,bf,bf,bf,bf,bf,bf,bf,bf,bf,bf,bf,bf,bf,bf,bf,bf,bf,bf,bf,bf,bf,bf,bf,bf,bf,bf,bf,bf,bf] (by kernel_rfl) rfl rfl ⟨hx203_0,hx204_0⟩ (fun hHeld => ?_);refine with_tabW laws_FnOrders.tab14 laws_FnOrders.bits14 (fun HT_ HW_ => ?_)
                generalize w49.drew = w50 at HO_5 HB hx203_0 hx204_0 hHeld ⊢
                refine pQ (i:=0) (N:=some 41) (v:=?_) (a':=?_) #[bT,bf,bf,bf,bf,bf,bf,bf,bf,bf,bf,bf,bf,bf,bf,bf,bf,bf,bf,bf,bf,bf,bf,bf,bf,bf,bf,bf,bf,bf,bf,bf,bf,bf,bf,bf,bf,bf,bf,bf,bf,bf,bf,bf,bf,bf] (any_of HT_.out (by kernel_rfl)) ?_ ?_ ?_
                rotate_left
                ·intro w';go_simp;with_reducible rfl
                rotate_left
                ·simp only [Act.put,q_ia3,q_cz3,q_cs3,i64_w,i32_w];rfl
                refine pQ (i:=1) (N:=some 42) (v:=?_) (a':=?_) #[bT,bT,bf,bf,bf,bf,bf,bf,bf,bf,bf,bf,bf,bf,bf,bf,bf,bf,bf,bf,bf,bf,bf,bf,bf,bf,bf,bf,bf,bf,bf,bf,bf,bf,bf,bf,bf,bf,bf,bf,bf,bf,bf,bf,bf,bf] (any_of HT_.out (by kernel_rfl)) ?_ ?_ ?_
                rotate_left
                ·intro w';go_simp;with_reducible rfl
                rotate_left
                ·simp only [Act.put,q_ia3,q_cz3,q_cs3,i64_w,i32_w];rfl
                refine pQ (i:=2) (N:=some 43) (v:=?_) (a':=?_) #[bT,bT,bT,bf,bf,bf,bf,bf,bf,bf,bf,bf,bf,bf,bf,bf,bf,bf,bf,bf,bf,bf,bf,bf,bf,bf,bf,bf,bf,bf,bf,bf,bf,bf,bf,bf,bf,bf,bf,bf,bf,bf,bf,bf,bf,bf] (any_of HT_.out (by kernel_rfl)) ?_ ?_ ?_
                rotate_left
                ·intro w';go_simp;with_reducible rfl
                rotate_left
                ·simp only [Act.put,q_ia3,q_cz3,q_cs3,i64_w,i32_w];rfl
                refine pQ (i:=3) (N:=some 44) (v:=?_) (a':=?_) #[bT,bT,bT,bT,bf,bf,bf,bf,bf,bf,bf,bf,bf,bf,bf,bf,bf,bf,bf,bf,bf,bf,bf,bf,bf,bf,bf,bf,bf,bf,bf,bf,bf,bf,bf,bf,bf,bf,bf,bf,bf,bf,bf,bf,bf,bf] (any_of HT_.out (by kernel_rfl)) ?_ ?_ ?_
                rotate_left
                ·intro w';go_simp;with_reducible rfl
                rotate_left
                ·simp only [Act.put,q_ia3,q_cz3,q_cs3,i64_w,i32_w];rfl
                refine pQ (i:=4) (N:=some 45) (v:=?_) (a':=?_) #[bT,bT,bT,bT,bT,bf,bf,bf,bf,bf,bf,bf,bf,bf,bf,bf,bf,bf,bf,bf,bf,bf,bf,bf,bf,bf,bf,bf,bf,bf,bf,bf,bf,bf,bf,bf,bf,bf,bf,bf,bf,bf,bf,bf,bf,bf] (any_of HT_.out (by kernel_rfl)) ?_ ?_ ?_
                rotate_left
                ·intro w';go_simp;with_reducible rfl
                rotate_left
                ·simp only [Act.put,q_ia3,q_cz3,q_cs3,i64_w,i32_w];rfl
                refine pQ (i:=6) (N:=some 47) (v:=?_) (a':=?_) #[bT,bT,bT,bT,bT,bf,bT,bf,bf,bf,bf,bf,bf,bf,bf,bf,bf,bf,bf,bf,bf,bf,bf,bf,bf,bf,bf,bf,bf,bf,bf,bf,bf,bf,bf,bf,bf,bf,bf,bf,bf,bf,bf,bf,bf,bf] (any_of HT_.out (by kernel_rfl)) ?_ ?_ ?_
                rotate_left
                ·intro w';go_simp;with_reducible rfl
                rotate_left
                ·simp only [Act.put,q_ia3,q_cz3,q_cs3,i64_w,i32_w];rfl
                refine pQ (i:=7) (N:=some 48) (v:=?_) (a':=?_) #[bT,bT,bT,bT,bT,bf,bT,bT,bf,bf,bf,bf,bf,bf,bf,bf,bf,bf,bf,bf,bf,bf,bf,bf,bf,bf,bf,bf,bf,bf,bf,bf,bf,bf,bf,bf,bf,bf,bf,bf,bf,bf,bf,bf,bf,bf] (any_of HT_.out (by kernel_rfl)) ?_ ?_ ?_
                rotate_left
                ·intro w';go_simp;with_reducible rfl
                rotate_left
                ·simp only [Act.put,q_ia3,q_cz3,q_cs3,i64_w,i32_w];rfl
                refine one_ (i:=5) (N:=some 46) #[bT,bT,bT,bT,bT,bT,bT,bT,bf,bf,bf,bf,bf,bf,bf,bf,bf,bf,bf,bf,bf,bf,bf,bf,bf,bf,bf,bf,bf,bf,bf,bf,bf,bf,bf,bf,bf,bf,bf,bf,bf,bf,bf,bf,bf,bf] rfl rfl (one_of HT_.out (by kernel_rfl)) (by decide) (fun K hK => ?_)
                refine goes_ Tryd.func21 (by kernel_rfl) rfl #[.string t186,.string t187] (by rfl) rfl rfl (by (try simp only [List.map_toArray,List.map_cons,List.map_nil]);first|done|rfl|(simp only [List.length_drop,List.length_take];rfl)) ?_
                with_reducible refine (impl_Less.calls kj16 t186 t187 t198 _ A25.out).mono ?_
                rintro e w51 ⟨rfl,hb⟩
                have HS0_:=(hb.cell (World.block_lt_of_cell? _ _ (hHeld.1))).trans (hHeld.1)
                have HS1_:=(hb.cell (World.block_lt_of_cell? _ _ (hHeld.2))).trans (hHeld.2)
                refine ⟨_,rfl,?_⟩
                have n0_:=aM (rH HO_5.out hb)
                have n1_:=aM (lQ HB.out hb)
                clear HO_5
                clear HB
                have HO_5:=n0_
                have HB:=n1_
                clear n0_ n1_
                (try clear hb)
                (try clear hb2)
                (try clear hk)
                (try clear hi)
                refine hK.out _ _ ⟨HS0_,HS1_⟩ (fun hHeld => ?_)
                clear hK K
                refine norm_ (a':=?_) ?_ ?_
                rotate_left
                ·show Act.put _ (some 46) _ = _
                 simp only [Act.put,q_ia3,q_cz3,q_cs3,i64_w,i32_w]
                 rfl
                refine one_ (i:=8) (N:=some 49) #[bT,bT,bT,bT,bT,bT,bT,bT,bT,bf,bf,bf,bf,bf,bf,bf,bf,bf,bf,bf,bf,bf,bf,bf,bf,bf,bf,bf,bf,bf,bf,bf,bf,bf,bf,bf,bf,bf,bf,bf,bf,bf,bf,bf,bf,bf] rfl rfl (one_of HT_.out (by kernel_rfl)) (by decide) (fun K hK => ?_)
                refine goes_ Tryd.func20 (by kernel_rfl) rfl #[.string t186,.string t187] (by rfl) rfl rfl (by (try simp only [List.map_toArray,List.map_cons,List.map_nil]);first|done|rfl|(simp only [List.length_drop,List.length_take];rfl)) ?_
                with_reducible refine (spec_Less.calls kj16 t186 t187 t199 _ A26.out).mono ?_
                rintro e w' ⟨rfl,⟨nd,rfl⟩⟩
                refine ⟨_,rfl,?_⟩
                refine hK.out _ _ ⟨hHeld.1,hHeld.2⟩ (fun hHeld => ?_)
                clear hK K
                refine norm_ (a':=?_) ?_ ?_
                rotate_left
                ·show Act.put _ (some 49) _ = _
                 simp only [Act.put,q_ia3,q_cz3,q_cs3,i64_w,i32_w]
                 rfl
                refine pQ (i:=9) (N:=some 50) (v:=?_) (a':=?_) #[bT,bT,bT,bT,bT,bT,bT,bT,bT,bT,bf,bf,bf,bf,bf,bf,bf,bf,bf,bf,bf,bf,bf,bf,bf,bf,bf,bf,bf,bf,bf,bf,bf,bf,bf,bf,bf,bf,bf,bf,bf,bf,bf,bf,bf,bf] (any_of HT_.out (by kernel_rfl)) ?_ ?_ ?_
                rotate_left
                ·intro w';go_simp;with_reducible rfl
                rotate_left
                ·simp only [Act.put,q_ia3,q_cz3,q_cs3,i64_w,i32_w];rfl
                refine pQ (i:=10) (N:=some 51) (v:=?_) (a':=?_) #[bT,bT,bT,bT,bT,bT,bT,bT,bT,bT,bT,bf,bf,bf,bf,bf,bf,bf,bf,bf,bf,bf,bf,bf,bf,bf,bf,bf,bf,bf,bf,bf,bf,bf,bf,bf,bf,bf,bf,bf,bf,bf,bf,bf,bf,bf] (any_of HT_.out (by kernel_rfl)) ?_ ?_ ?_
                rotate_left
                ·intro w';go_simp;with_reducible rfl
                rotate_left
                ·simp only [Act.put,q_ia3,q_cz3,q_cs3,i64_w,i32_w];rfl
                refine pQ (i:=11) (N:=some 52) (v:=?_) (a':=?_) #[bT,bT,bT,bT,bT,bT,bT,bT,bT,bT,bT,bT,bf,bf,bf,bf,bf,bf,bf,bf,bf,bf,bf,bf,bf,bf,bf,bf,bf,bf,bf,bf,bf,bf,bf,bf,bf,bf,bf,bf,bf,bf,bf,bf,bf,bf] (any_of HT_.out (by kernel_rfl)) ?_ ?_ ?_
                rotate_left
                ·intro w';go_simp;with_reducible rfl
                rotate_left
                ·simp only [Act.put,q_ia3,q_cz3,q_cs3,i64_w,i32_w];rfl
                refine pQ (i:=12) (N:=some 53) (v:=?_) (a':=?_) #[bT,bT,bT,bT,bT,bT,bT,bT,bT,bT,bT,bT,bT,bf,bf,bf,bf,bf,bf,bf,bf,bf,bf,bf,bf,bf,bf,bf,bf,bf,bf,bf,bf,bf,bf,bf,bf,bf,bf,bf,bf,bf,bf,bf,bf,bf] (any_of HT_.out (by kernel_rfl)) ?_ ?_ ?_
                rotate_left
                ·intro w';go_simp;with_reducible rfl
                rotate_left
                ·simp only [Act.put,q_ia3,q_cz3,q_cs3,i64_w,i32_w];rfl
                refine pQ (i:=13) (N:=some 54) (v:=?_) (a':=?_) #[bT,bT,bT,bT,bT,bT,bT,bT,bT,bT,bT,bT,bT,bT,bf,bf,bf,bf,bf,bf,bf,bf,bf,bf,bf,bf,bf,bf,bf,bf,bf,bf,bf,bf,bf,bf,bf,bf,bf,bf,bf,bf,bf,bf,bf,bf] (any_of HT_.out (by kernel_rfl)) ?_ ?_ ?_
                rotate_left
                ·intro w';go_simp;with_reducible rfl
                rotate_left
                ·simp only [Act.put,q_ia3,q_cz3,q_cs3,i64_w,i32_w];rfl
                refine pQ (i:=15) (N:=some 56) (v:=?_) (a':=?_) #[bT,bT,bT,bT,bT,bT,bT,bT,bT,bT,bT,bT,bT,bT,bf,bT,bf,bf,bf,bf,bf,bf,bf,bf,bf,bf,bf,bf,bf,bf,bf,bf,bf,bf,bf,bf,bf,bf,bf,bf,bf,bf,bf,bf,bf,bf] (any_of HT_.out (by kernel_rfl)) ?_ ?_ ?_
                rotate_left
                ·intro w';go_simp;with_reducible rfl
                rotate_left
                ·simp only [Act.put,q_ia3,q_cz3,q_cs3,i64_w,i32_w];rfl
                refine pQ (i:=16) (N:=some 57) (v:=?_) (a':=?_) #[bT,bT,bT,bT,bT,bT,bT,bT,bT,bT,bT,bT,bT,bT,bf,bT,bT,bf,bf,bf,bf,bf,bf,bf,bf,bf,bf,bf,bf,bf,bf,bf,bf,bf,bf,bf,bf,bf,bf,bf,bf,bf,bf,bf,bf,bf] (any_of HT_.out (by kernel_rfl)) ?_ ?_ ?_
                rotate_left
                ·intro w';go_simp;with_reducible rfl
                rotate_left
                ·simp only [Act.put,q_ia3,q_cz3,q_cs3,i64_w,i32_w];rfl
                refine one_ (i:=14) (N:=some 55) #[bT,bT,bT,bT,bT,bT,bT,bT,bT,bT,bT,bT,bT,bT,bT,bT,bT,bf,bf,bf,bf,bf,bf,bf,bf,bf,bf,bf,bf,bf,bf,bf,bf,bf,bf,bf,bf,bf,bf,bf,bf,bf,bf,bf,bf,bf] rfl rfl (one_of HT_.out (by kernel_rfl)) (by decide) (fun K hK => ?_)
                refine goes_ Tryd.func23 (by kernel_rfl) rfl #[.string t186,.string t187] (by rfl) rfl rfl (by (try simp only [List.map_toArray,List.map_cons,List.map_nil]);first|done|rfl|(simp only [List.length_drop,List.length_take];rfl)) ?_
                with_reducible refine (impl_Same.calls kj16 t186 t187 t200 _ A28.out).mono ?_
                rintro e w52 ⟨rfl,hb⟩
                have HS0_:=(hb.cell (World.block_lt_of_cell? _ _ (hHeld.1))).trans (hHeld.1)
                have HS1_:=(hb.cell (World.block_lt_of_cell? _ _ (hHeld.2))).trans (hHeld.2)
                refine ⟨_,rfl,?_⟩
                have n0_:=aM (rH HO_5.out hb)
                have n1_:=aM (lQ HB.out hb)
                clear HO_5
                clear HB
                have HO_5:=n0_
                have HB:=n1_
                clear n0_ n1_
                (try clear hb)
                (try clear hb2)
                (try clear hk)
                (try clear hi)
                refine hK.out _ _ ⟨HS0_,HS1_⟩ (fun hHeld => ?_)
                clear hK K
                refine norm_ (a':=?_) ?_ ?_
                rotate_left
                ·show Act.put _ (some 55) _ = _
                 simp only [Act.put,q_ia3,q_cz3,q_cs3,i64_w,i32_w]
                 rfl
                refine one_ (i:=17) (N:=some 58) #[bT,bT,bT,bT,bT,bT,bT,bT,bT,bT,bT,bT,bT,bT,bT,bT,bT,bT,bf,bf,bf,bf,bf,bf,bf,bf,bf,bf,bf,bf,bf,bf,bf,bf,bf,bf,bf,bf,bf,bf,bf,bf,bf,bf,bf,bf] rfl rfl (one_of HT_.out (by kernel_rfl)) (by decide) (fun K hK => ?_)
                refine goes_ Tryd.func22 (by kernel_rfl) rfl #[.string t186,.string t187] (by rfl) rfl rfl (by (try simp only [List.map_toArray,List.map_cons,List.map_nil]);first|done|rfl|(simp only [List.length_drop,List.length_take];rfl)) ?_
                with_reducible refine (spec_Same.calls kj16 t186 t187 t201 _ A29.out).mono ?_
                rintro e w' ⟨rfl,⟨nd,rfl⟩⟩
                refine ⟨_,rfl,?_⟩
                refine hK.out _ _ ⟨hHeld.1,hHeld.2⟩ (fun hHeld => ?_)
                clear hK K
                refine norm_ (a':=?_) ?_ ?_
                rotate_left
                ·show Act.put _ (some 58) _ = _
                 simp only [Act.put,q_ia3,q_cz3,q_cs3,i64_w,i32_w]
                 rfl
                refine pQ (i:=18) (N:=some 59) (v:=?_) (a':=?_) #[bT,bT,bT,bT,bT,bT,bT,bT,bT,bT,bT,bT,bT,bT,bT,bT,bT,bT,bT,bf,bf,bf,bf,bf,bf,bf,bf,bf,bf,bf,bf,bf,bf,bf,bf,bf,bf,bf,bf,bf,bf,bf,bf,bf,bf,bf] (any_of HT_.out (by kernel_rfl)) ?_ ?_ ?_
                rotate_left
                ·intro w';go_simp;with_reducible rfl
                rotate_left
                ·simp only [Act.put,q_ia3,q_cz3,q_cs3,i64_w,i32_w];rfl
                refine pQ (i:=19) (N:=some 60) (v:=?_) (a':=?_) #[bT,bT,bT,bT,bT,bT,bT,bT,bT,bT,bT,bT,bT,bT,bT,bT,bT,bT,bT,bT,bf,bf,bf,bf,bf,bf,bf,bf,bf,bf,bf,bf,bf,bf,bf,bf,bf,bf,bf,bf,bf,bf,bf,bf,bf,bf] (any_of HT_.out (by kernel_rfl)) ?_ ?_ ?_
                rotate_left
                ·intro w';go_simp;with_reducible rfl
                rotate_left
                ·simp only [Act.put,q_ia3,q_cz3,q_cs3,i64_w,i32_w];rfl
                refine pQ (i:=20) (N:=some 61) (v:=?_) (a':=?_) #[bT,bT,bT,bT,bT,bT,bT,bT,bT,bT,bT,bT,bT,bT,bT,bT,bT,bT,bT,bT,bT,bf,bf,bf,bf,bf,bf,bf,bf,bf,bf,bf,bf,bf,bf,bf,bf,bf,bf,bf,bf,bf,bf,bf,bf,bf] (any_of HT_.out (by kernel_rfl)) ?_ ?_ ?_
                rotate_left
                ·intro w';go_simp;with_reducible rfl
                rotate_left
                ·simp only [Act.put,q_ia3,q_cz3,q_cs3,i64_w,i32_w];rfl
                refine pQ (i:=21) (N:=some 62) (v:=?_) (a':=?_) #[bT,bT,bT,bT,bT,bT,bT,bT,bT,bT,bT,bT,bT,bT,bT,bT,bT,bT,bT,bT,bT,bT,bf,bf,bf,bf,bf,bf,bf,bf,bf,bf,bf,bf,bf,bf,bf,bf,bf,bf,bf,bf,bf,bf,bf,bf] (any_of HT_.out (by kernel_rfl)) ?_ ?_ ?_
                rotate_left
                ·intro w';go_simp;with_reducible rfl
                rotate_left
                ·simp only [Act.put,q_ia3,q_cz3,q_cs3,i64_w,i32_w];rfl
                refine pQ (i:=22) (N:=some 63) (v:=?_) (a':=?_) #[bT,bT,bT,bT,bT,bT,bT,bT,bT,bT,bT,bT,bT,bT,bT,bT,bT,bT,bT,bT,bT,bT,bT,bf,bf,bf,bf,bf,bf,bf,bf,bf,bf,bf,bf,bf,bf,bf,bf,bf,bf,bf,bf,bf,bf,bf] (any_of HT_.out (by kernel_rfl)) ?_ ?_ ?_
                rotate_left
                ·intro w';go_simp;with_reducible rfl
                rotate_left
                ·simp only [Act.put,q_ia3,q_cz3,q_cs3,i64_w,i32_w];rfl
                refine pQ (i:=24) (N:=some 65) (v:=?_) (a':=?_) #[bT,bT,bT,bT,bT,bT,bT,bT,bT,bT,bT,bT,bT,bT,bT,bT,bT,bT,bT,bT,bT,bT,bT,bf,bT,bf,bf,bf,bf,bf,bf,bf,bf,bf,bf,bf,bf,bf,bf,bf,bf,bf,bf,bf,bf,bf] (any_of HT_.out (by kernel_rfl)) ?_ ?_ ?_
                rotate_left
                ·intro w';go_simp;with_reducible rfl
                rotate_left
                ·simp only [Act.put,q_ia3,q_cz3,q_cs3,i64_w,i32_w];rfl
                refine pQ (i:=25) (N:=some 66) (v:=?_) (a':=?_) #[bT,bT,bT,bT,bT,bT,bT,bT,bT,bT,bT,bT,bT,bT,bT,bT,bT,bT,bT,bT,bT,bT,bT,bf,bT,bT,bf,bf,bf,bf,bf,bf,bf,bf,bf,bf,bf,bf,bf,bf,bf,bf,bf,bf,bf,bf] (any_of HT_.out (by kernel_rfl)) ?_ ?_ ?_
                rotate_left
                ·intro w';go_simp;with_reducible rfl
                rotate_left
                ·simp only [Act.put,q_ia3,q_cz3,q_cs3,i64_w,i32_w];rfl
                refine pQ (i:=27) (N:=some 68) (v:=?_) (a':=?_) #[bT,bT,bT,bT,bT,bT,bT,bT,bT,bT,bT,bT,bT,bT,bT,bT,bT,bT,bT,bT,bT,bT,bT,bf,bT,bT,bf,bT,bf,bf,bf,bf,bf,bf,bf,bf,bf,bf,bf,bf,bf,bf,bf,bf,bf,bf] (any_of HT_.out (by kernel_rfl)) ?_ ?_ ?_
                rotate_left
                ·intro w';go_simp;with_reducible rfl
                rotate_left
                ·simp only [Act.put,q_ia3,q_cz3,q_cs3,i64_w,i32_w];rfl
                refine pQ (i:=28) (N:=some 69) (v:=?_) (a':=?_) #[bT,bT,bT,bT,bT,bT,bT,bT,bT,bT,bT,bT,bT,bT,bT,bT,bT,bT,bT,bT,bT,bT,bT,bf,bT,bT,bf,bT,bT,bf,bf,bf,bf,bf,bf,bf,bf,bf,bf,bf,bf,bf,bf,bf,bf,bf] (any_of HT_.out (by kernel_rfl)) ?_ ?_ ?_
                rotate_left
                ·intro w';go_simp;with_reducible rfl
                rotate_left
                ·simp only [Act.put,q_ia3,q_cz3,q_cs3,i64_w,i32_w];rfl
                refine take_ (i:=26) (N:=some 67) (v:=?_) (a':=?_) #[bT,bT,bT,bT,bT,bT,bT,bT,bT,bT,bT,bT,bT,bT,bT,bT,bT,bT,bT,bT,bT,bT,bT,bf,bT,bT,bT,bT,bT,bf,bf,bf,bf,bf,bf,bf,bf,bf,bf,bf,bf,bf,bf,bf,bf,bf] rfl rfl (take_ofW HT_.out HW_.out (by kernel_rfl)) (fun _ _ _ h => h) (Or.inl ⟨by rfl,?_⟩) hHeld ?_ ?_
                rotate_left
                ·rintro w' ⟨s0,s1⟩
                 go_simp
                 with_reducible rfl
                rotate_left
                ·simp only [Act.put,q_ia3,q_cz3,q_cs3,i64_w,i32_w];rfl
                refine take_ (i:=29) (N:=some 70) (v:=?_) (a':=?_) #[bT,bT,bT,bT,bT,bT,bT,bT,bT,bT,bT,bT,bT,bT,bT,bT,bT,bT,bT,bT,bT,bT,bT,bf,bT,bT,bT,bT,bT,bT,bf,bf,bf,bf,bf,bf,bf,bf,bf,bf,bf,bf,bf,bf,bf,bf] rfl rfl (take_ofW HT_.out HW_.out (by kernel_rfl)) (fun _ _ _ h => h) (Or.inl ⟨by rfl,?_⟩) hHeld ?_ ?_
                rotate_left
                ·rintro w' ⟨s0,s1⟩
                 go_simp
                 with_reducible rfl
                rotate_left
                ·simp only [Act.put,q_ia3,q_cz3,q_cs3,i64_w,i32_w];rfl
                refine pQ (i:=30) (N:=some 71) (v:=?_) (a':=?_) #[bT,bT,bT,bT,bT,bT,bT,bT,bT,bT,bT,bT,bT,bT,bT,bT,bT,bT,bT,bT,bT,bT,bT,bf,bT,bT,bT,bT,bT,bT,bT,bf,bf,bf,bf,bf,bf,bf,bf,bf,bf,bf,bf,bf,bf,bf] (any_of HT_.out (by kernel_rfl)) ?_ ?_ ?_
                rotate_left
                ·intro w';go_simp;with_reducible rfl
                rotate_left
                ·simp only [Act.put,q_ia3,q_cz3,q_cs3,i64_w,i32_w];rfl
                refine one_ (i:=23) (N:=some 64) #[bT,bT,bT,bT,bT,bT,bT,bT,bT,bT,bT,bT,bT,bT,bT,bT,bT,bT,bT,bT,bT,bT,bT,bT,bT,bT,bT,bT,bT,bT,bT,bf,bf,bf,bf,bf,bf,bf,bf,bf,bf,bf,bf,bf,bf,bf] rfl rfl (one_of HT_.out (by kernel_rfl)) (by decide) (fun K hK => ?_)
                refine goes_ Tryd.func21 (by kernel_rfl) rfl #[.string t195,.string t197] (by rfl) rfl rfl (by (try simp only [List.map_toArray,List.map_cons,List.map_nil]);first|done|rfl|(simp only [List.length_drop,List.length_take];rfl)) ?_
                with_reducible refine (impl_Less.calls kj16 t195 t197 t202 _ A31.out).mono ?_
                rintro e w53 ⟨rfl,hb⟩
                have HS0_:=(hb.cell (World.block_lt_of_cell? _ _ (hHeld.1))).trans (hHeld.1)
                have HS1_:=(hb.cell (World.block_lt_of_cell? _ _ (hHeld.2))).trans (hHeld.2)
                refine ⟨_,rfl,?_⟩
                have n0_:=aM (rH HO_5.out hb)
                have n1_:=aM (lQ HB.out hb)
                clear HO_5
                clear HB
                have HO_5:=n0_
                have HB:=n1_
                clear n0_ n1_
                (try clear hb)
                (try clear hb2)
                (try clear hk)
                (try clear hi)
                refine hK.out _ _ ⟨HS0_,HS1_⟩ (fun hHeld => ?_)
                clear hK K
                refine norm_ (a':=?_) ?_ ?_
                rotate_left
                ·show Act.put _ (some 64) _ = _
                 simp only [Act.put,q_ia3,q_cz3,q_cs3,i64_w,i32_w]
                 rfl
                refine pQ (i:=31) (N:=some 72) (v:=?_) (a':=?_) #[bT,bT,bT,bT,bT,bT,bT,bT,bT,bT,bT,bT,bT,bT,bT,bT,bT,bT,bT,bT,bT,bT,bT,bT,bT,bT,bT,bT,bT,bT,bT,bT,bf,bf,bf,bf,bf,bf,bf,bf,bf,bf,bf,bf,bf,bf] (any_of HT_.out (by kernel_rfl)) ?_ ?_ ?_
                rotate_left
                ·intro w';go_simp;with_reducible rfl
                rotate_left
                ·simp only [Act.put,q_ia3,q_cz3,q_cs3,i64_w,i32_w];rfl
                refine pQ (i:=32) (N:=some 73) (v:=?_) (a':=?_) #[bT,bT,bT,bT,bT,bT,bT,bT,bT,bT,bT,bT,bT,bT,bT,bT,bT,bT,bT,bT,bT,bT,bT,bT,bT,bT,bT,bT,bT,bT,bT,bT,bT,bf,bf,bf,bf,bf,bf,bf,bf,bf,bf,bf,bf,bf] (any_of HT_.out (by kernel_rfl)) ?_ ?_ ?_
                rotate_left
                ·intro w';go_simp;with_reducible rfl
                rotate_left
                ·simp only [Act.put,q_ia3,q_cz3,q_cs3,i64_w,i32_w];rfl
                refine pQ (i:=33) (N:=some 74) (v:=?_) (a':=?_) #[bT,bT,bT,bT,bT,bT,bT,bT,bT,bT,bT,bT,bT,bT,bT,bT,bT,bT,bT,bT,bT,bT,bT,bT,bT,bT,bT,bT,bT,bT,bT,bT,bT,bT,bf,bf,bf,bf,bf,bf,bf,bf,bf,bf,bf,bf] (any_of HT_.out (by kernel_rfl)) ?_ ?_ ?_
                rotate_left
                ·intro w';go_simp;with_reducible rfl
                rotate_left
                ·simp only [Act.put,q_ia3,q_cz3,q_cs3,i64_w,i32_w];rfl
                refine one_ (i:=34) (N:=some 75) #[bT,bT,bT,bT,bT,bT,bT,bT,bT,bT,bT,bT,bT,bT,bT,bT,bT,bT,bT,bT,bT,bT,bT,bT,bT,bT,bT,bT,bT,bT,bT,bT,bT,bT,bT,bf,bf,bf,bf,bf,bf,bf,bf,bf,bf,bf] rfl rfl (one_of HT_.out (by kernel_rfl)) (by decide) (fun K hK => ?_)
                refine goes_ Tryd.func23 (by kernel_rfl) rfl #[.string (⟨#[48,48,55]⟩ : ByteArray),.string (⟨#[55]⟩ : ByteArray)] (by rfl) rfl rfl (by (try simp only [List.map_toArray,List.map_cons,List.map_nil]);first|done|rfl|(simp only [List.length_drop,List.length_take];rfl)) ?_
                with_reducible refine (impl_Same.calls kj16 (⟨#[48,48,55]⟩ : ByteArray) (⟨#[55]⟩ : ByteArray) true _ A33.out).mono ?_
                rintro e w54 ⟨rfl,hb⟩
                have HS0_:=(hb.cell (World.block_lt_of_cell? _ _ (hHeld.1))).trans (hHeld.1)
                have HS1_:=(hb.cell (World.block_lt_of_cell? _ _ (hHeld.2))).trans (hHeld.2)
                refine ⟨_,rfl,?_⟩
                have n0_:=aM (rH HO_5.out hb)
                have n1_:=aM (lQ HB.out hb)
                clear HO_5
                clear HB
                have HO_5:=n0_
                have HB:=n1_
                clear n0_ n1_
                (try clear hb)
                (try clear hb2)
                (try clear hk)
                (try clear hi)
                refine hK.out _ _ ⟨HS0_,HS1_⟩ (fun hHeld => ?_)
                clear hK K
                refine norm_ (a':=?_) ?_ ?_
                rotate_left
                ·show Act.put _ (some 75) _ = _
                 simp only [Act.put,q_ia3,q_cz3,q_cs3,i64_w,i32_w]
                 rfl
                refine pQ (i:=35) (N:=some 76) (v:=?_) (a':=?_) #[bT,bT,bT,bT,bT,bT,bT,bT,bT,bT,bT,bT,bT,bT,bT,bT,bT,bT,bT,bT,bT,bT,bT,bT,bT,bT,bT,bT,bT,bT,bT,bT,bT,bT,bT,bT,bf,bf,bf,bf,bf,bf,bf,bf,bf,bf] (any_of HT_.out (by kernel_rfl)) ?_ ?_ ?_
                rotate_left
                ·intro w';go_simp;with_reducible rfl
                rotate_left
                ·simp only [Act.put,q_ia3,q_cz3,q_cs3,i64_w,i32_w];rfl
                refine pQ (i:=36) (N:=some 77) (v:=?_) (a':=?_) #[bT,bT,bT,bT,bT,bT,bT,bT,bT,bT,bT,bT,bT,bT,bT,bT,bT,bT,bT,bT,bT,bT,bT,bT,bT,bT,bT,bT,bT,bT,bT,bT,bT,bT,bT,bT,bT,bf,bf,bf,bf,bf,bf,bf,bf,bf] (any_of HT_.out (by kernel_rfl)) ?_ ?_ ?_
                rotate_left
                ·intro w';go_simp;with_reducible rfl
                rotate_left
                ·simp only [Act.put,q_ia3,q_cz3,q_cs3,i64_w,i32_w];rfl
                refine one_ (i:=37) (N:=some 78) #[bT,bT,bT,bT,bT,bT,bT,bT,bT,bT,bT,bT,bT,bT,bT,bT,bT,bT,bT,bT,bT,bT,bT,bT,bT,bT,bT,bT,bT,bT,bT,bT,bT,bT,bT,bT,bT,bT,bf,bf,bf,bf,bf,bf,bf,bf] rfl rfl (one_of HT_.out (by kernel_rfl)) (by decide) (fun K hK => ?_)
                refine goes_ Tryd.func23 (by kernel_rfl) rfl #[.string (⟨#[97]⟩ : ByteArray),.string (⟨#[98]⟩ : ByteArray)] (by rfl) rfl rfl (by (try simp only [List.map_toArray,List.map_cons,List.map_nil]);first|done|rfl|(simp only [List.length_drop,List.length_take];rfl)) ?_
                with_reducible refine (impl_Same.calls kj16 (⟨#[97]⟩ : ByteArray) (⟨#[98]⟩ : ByteArray) false _ A35.out).mono ?_
                rintro e w55 ⟨rfl,hb⟩
                have HS0_:=(hb.cell (World.block_lt_of_cell? _ _ (hHeld.1))).trans (hHeld.1)
                have HS1_:=(hb.cell (World.block_lt_of_cell? _ _ (hHeld.2))).trans (hHeld.2)
                refine ⟨_,rfl,?_⟩
                have n0_:=aM (rH HO_5.out hb)
                have n1_:=aM (lQ HB.out hb)
                clear HO_5
                clear HB
                have HO_5:=n0_
                have HB:=n1_
                clear n0_ n1_
                (try clear hb)
                (try clear hb2)
                (try clear hk)
                (try clear hi)
                refine hK.out _ _ ⟨HS0_,HS1_⟩ (fun hHeld => ?_)
                clear hK K
                refine norm_ (a':=?_) ?_ ?_
                rotate_left
                ·show Act.put _ (some 78) _ = _
                 simp only [Act.put,q_ia3,q_cz3,q_cs3,i64_w,i32_w]
                 rfl
                refine pQ (i:=38) (N:=some 79) (v:=?_) (a':=?_) #[bT,bT,bT,bT,bT,bT,bT,bT,bT,bT,bT,bT,bT,bT,bT,bT,bT,bT,bT,bT,bT,bT,bT,bT,bT,bT,bT,bT,bT,bT,bT,bT,bT,bT,bT,bT,bT,bT,bT,bf,bf,bf,bf,bf,bf,bf] (any_of HT_.out (by kernel_rfl)) ?_ ?_ ?_
                rotate_left
                ·intro w';go_simp;with_reducible rfl
                rotate_left
                ·simp only [Act.put,q_ia3,q_cz3,q_cs3,i64_w,i32_w];rfl
                refine pQ (i:=39) (N:=some 80) (v:=?_) (a':=?_) #[bT,bT,bT,bT,bT,bT,bT,bT,bT,bT,bT,bT,bT,bT,bT,bT,bT,bT,bT,bT,bT,bT,bT,bT,bT,bT,bT,bT,bT,bT,bT,bT,bT,bT,bT,bT,bT,bT,bT,bT,bf,bf,bf,bf,bf,bf] (any_of HT_.out (by kernel_rfl)) ?_ ?_ ?_
                rotate_left
                ·intro w';go_simp;with_reducible rfl
                rotate_left
                ·simp only [Act.put,q_ia3,q_cz3,q_cs3,i64_w,i32_w];rfl
                refine pQ (i:=40) (N:=some 81) (v:=?_) (a':=?_) #[bT,bT,bT,bT,bT,bT,bT,bT,bT,bT,bT,bT,bT,bT,bT,bT,bT,bT,bT,bT,bT,bT,bT,bT,bT,bT,bT,bT,bT,bT,bT,bT,bT,bT,bT,bT,bT,bT,bT,bT,bT,bf,bf,bf,bf,bf] (any_of HT_.out (by kernel_rfl)) ?_ ?_ ?_
                rotate_left
                ·intro w';go_simp;with_reducible rfl
                rotate_left
                ·simp only [Act.put,q_ia3,q_cz3,q_cs3,i64_w,i32_w];rfl
                refine pQ (i:=41) (N:=some 82) (v:=?_) (a':=?_) #[bT,bT,bT,bT,bT,bT,bT,bT,bT,bT,bT,bT,bT,bT,bT,bT,bT,bT,bT,bT,bT,bT,bT,bT,bT,bT,bT,bT,bT,bT,bT,bT,bT,bT,bT,bT,bT,bT,bT,bT,bT,bT,bf,bf,bf,bf] (any_of HT_.out (by kernel_rfl)) ?_ ?_ ?_
                rotate_left
                ·intro w';go_simp;with_reducible rfl
                rotate_left
                ·simp only [Act.put,q_ia3,q_cz3,q_cs3,i64_w,i32_w];rfl
                refine pQ (i:=42) (N:=some 83) (v:=?_) (a':=?_) #[bT,bT,bT,bT,bT,bT,bT,bT,bT,bT,bT,bT,bT,bT,bT,bT,bT,bT,bT,bT,bT,bT,bT,bT,bT,bT,bT,bT,bT,bT,bT,bT,bT,bT,bT,bT,bT,bT,bT,bT,bT,bT,bT,bf,bf,bf] (any_of HT_.out (by kernel_rfl)) ?_ ?_ ?_
                rotate_left
                ·intro w';go_simp;with_reducible rfl
                rotate_left
                ·simp only [Act.put,q_ia3,q_cz3,q_cs3,i64_w,i32_w];rfl
                refine one_ (i:=43) (N:=some 84) #[bT,bT,bT,bT,bT,bT,bT,bT,bT,bT,bT,bT,bT,bT,bT,bT,bT,bT,bT,bT,bT,bT,bT,bT,bT,bT,bT,bT,bT,bT,bT,bT,bT,bT,bT,bT,bT,bT,bT,bT,bT,bT,bT,bT,bf,bf] rfl rfl (one_of HT_.out (by kernel_rfl)) (by decide) (fun K hK => ?_)
                refine goes_ Tryd.func23 (by kernel_rfl) rfl #[.string t186,.string t186] (by rfl) rfl rfl (by (try simp only [List.map_toArray,List.map_cons,List.map_nil]);first|done|rfl|(simp only [List.length_drop,List.length_take];rfl)) ?_
                with_reducible refine (impl_Same.calls kj16 t186 t186 t207 _ A46.out).mono ?_
                rintro e w56 ⟨rfl,hb⟩
                have HS0_:=(hb.cell (World.block_lt_of_cell? _ _ (hHeld.1))).trans (hHeld.1)
                have HS1_:=(hb.cell (World.block_lt_of_cell? _ _ (hHeld.2))).trans (hHeld.2)
                refine ⟨_,rfl,?_⟩
                have n0_:=aM (rH HO_5.out hb)
                have n1_:=aM (lQ HB.out hb)
                clear HO_5
                clear HB
                have HO_5:=n0_
                have HB:=n1_
                clear n0_ n1_
                (try clear hb)
                (try clear hb2)
                (try clear hk)
                (try clear hi)
                refine hK.out _ _ ⟨HS0_,HS1_⟩ (fun hHeld => ?_)
                clear hK K
                refine norm_ (a':=?_) ?_ ?_
                rotate_left
                ·show Act.put _ (some 84) _ = _
                 simp only [Act.put,q_ia3,q_cz3,q_cs3,i64_w,i32_w]
                 rfl
                refine pQ (i:=44) (N:=some 85) (v:=?_) (a':=?_) #[bT,bT,bT,bT,bT,bT,bT,bT,bT,bT,bT,bT,bT,bT,bT,bT,bT,bT,bT,bT,bT,bT,bT,bT,bT,bT,bT,bT,bT,bT,bT,bT,bT,bT,bT,bT,bT,bT,bT,bT,bT,bT,bT,bT,bT,bf] (any_of HT_.out (by kernel_rfl)) ?_ ?_ ?_
                rotate_left
                ·intro w';go_simp;with_reducible rfl
                rotate_left
                ·simp only [Act.put,q_ia3,q_cz3,q_cs3,i64_w,i32_w];rfl
                refine pQ (i:=45) (N:=some 2) (v:=?_) (a':=?_) #[bT,bT,bT,bT,bT,bT,bT,bT,bT,bT,bT,bT,bT,bT,bT,bT,bT,bT,bT,bT,bT,bT,bT,bT,bT,bT,bT,bT,bT,bT,bT,bT,bT,bT,bT,bT,bT,bT,bT,bT,bT,bT,bT,bT,bT,bT] (any_of HT_.out (by kernel_rfl)) ?_ ?_ ?_
                rotate_left
                ·intro w';go_simp;with_reducible rfl
                rotate_left
                ·simp only [Act.put,q_ia3,q_cz3,q_cs3,i64_w,i32_w];rfl
                refine done_ (done_of HT_.out (by kernel_rfl)) ?_
                try go_wp2
                go_ret
                exact ⟨by first|rfl|(simp [errW_none,errW_some] <;> rfl)|(simp [*,errW_none,errW_some] <;> rfl),by repeat (first|(with_reducible first|exact HB.out|apply lA|apply lN|apply lD)|exact HB.out)⟩
              ·replace c34:=Bool.eq_false_iff.mpr c34
               subst c34
               have H1 : (some false) = some r:=by rw [if_neg (show ¬ (false = true) by decide)] at H;exact H
               clear H
               have H:=H1
               clear H1
               obtain rfl:=Option.some.inj H
               obtain ⟨Ao57,co57,eo57⟩:=Kd.R_slice HO_5.out
               subst eo57
               have p194 : 0 ≤ (0 : Int):=(by omega)
               have q194 : 0 < (t188.length : Int):=of_decide_eq_true (by first|(with_reducible assumption)|assumption)
               obtain ⟨ad194,e194,hx194_0⟩:=Kd.at_int (rR HO_5.out).2.2 0 p194 q194
               cases e194
               have qi194 : (0 < t188.length) = True:=eq_true (by omega)
               (try rw [show ((0 : Int)).toNat = 0 from rfl] at hx194_0)
               (try rw [Addr.add_zero'] at hx194_0)
               replace p194:=eq_true p194
               replace q194:=eq_true q194
               try go_wp2_with (first|((with_reducible refine gate_callee (f:=14) rfl ?_);refine goesL_ (some 36) rfl rfl Tryd.func14 (by kernel_rfl) rfl #[.int .i64 (rd t188 0)] rfl (by (try simp only [List.map_toArray,List.map_cons,List.map_nil]);first|done|rfl|(simp only [List.length_drop,List.length_take];rfl)) ?_;(with_reducible refine (spec_Decimal.calls kj16 (rd t188 0) t195 _ A21.out).mono ?_);rintro e w58 ⟨rfl,hb⟩;refine ⟨_,rfl,?_⟩;have n0_:=aM (rH HO_5.out hb);have n1_:=aM (lQ HB.out hb);clear HO_5 HB;have HO_5:=n0_;have HB:=n1_;clear n0_ n1_;(try clear hb);(try clear hb2);(try clear hk);(try clear hi);have p196 : 0 ≤ (1 : Int):=(by omega);have q196 : 1 < (t188.length : Int):=of_decide_eq_true (by first|(with_reducible assumption)|assumption);obtain ⟨ad196,e196,hx196_0⟩:=Kd.at_int (rR HO_5.out).2.2 1 p196 q196;obtain rfl : ad194 = ad196:=(by injection e196);(try simp only [show (1 : Int).toNat = 1 from rfl,Nat.reduceMul,Nat.reduceEqDiff,Go.Addr.add,↓reduceIte] at hx196_0);have qi196 : (1 < t188.length) = True:=eq_true (by omega);(try rw [show ((1 : Int)).toNat = 1 from rfl] at hx196_0);replace p196:=eq_true p196;replace q196:=eq_true q196)|((with_reducible refine gate_callee (f:=14) rfl ?_);refine goesL_ (some 40) rfl rfl Tryd.func14 (by kernel_rfl) rfl #[.int .i64 (rd t188 1)] rfl (by (try simp only [List.map_toArray,List.map_cons,List.map_nil]);first|done|rfl|(simp only [List.length_drop,List.length_take];rfl)) ?_;(with_reducible refine (spec_Decimal.calls kj16 (rd t188 1) t197 _ A23.out).mono ?_);rintro e w59 ⟨rfl,hb⟩;refine ⟨_,rfl,?_⟩;have n0_:=aM (rH HO_5.out hb);have n1_:=aM (lQ HB.out hb);clear HO_5 HB;have HO_5:=n0_;have HB:=n1_;clear n0_ n1_;(try clear hb);(try clear hb2);(try clear hk);(try clear hi)))
               have n0_:=aM (rD HO_5.out)
               have n1_:=aM (lD HB.out)
               clear HO_5
               clear HB
               have HO_5:=n0_
               have HB:=n1_
               clear n0_ n1_
               have p203 : 0 ≤ (0 : Int):=(by omega)
               have q203 : 0 < (t188.length : Int):=of_decide_eq_true (by first|(with_reducible assumption)|assumption)
               obtain ⟨ad203,e203,hx203_0⟩:=Kd.at_int (rR HO_5.out).2.2 0 p203 q203
               obtain rfl : ad194 = ad203:=(by injection e203)
               have qi203 : (0 < t188.length) = True:=eq_true (by omega)
               (try rw [show ((0 : Int)).toNat = 0 from rfl] at hx203_0)
               (try rw [Addr.add_zero'] at hx203_0)
               replace p203:=eq_true p203
               replace q203:=eq_true q203
               have p204 : 0 ≤ (1 : Int):=(by omega)
               have q204 : 1 < (t188.length : Int):=of_decide_eq_true (by first|(with_reducible assumption)|assumption)
               obtain ⟨ad204,e204,hx204_0⟩:=Kd.at_int (rR HO_5.out).2.2 1 p204 q204
               obtain rfl : ad194 = ad204:=(by injection e204)
               (try simp only [show (1 : Int).toNat = 1 from rfl,Nat.reduceMul,Nat.reduceEqDiff,Go.Addr.add,↓reduceIte] at hx204_0)
               have qi204 : (1 < t188.length) = True:=eq_true (by omega)
               (try rw [show ((1 : Int)).toNat = 1 from rfl] at hx204_0)
               replace p204:=eq_true p204
               replace q204:=eq_true q204
               refine start_ (n:=46) (S:=fun w' => w'.cell? ad194 = some (.int .i64 (rd t188 0)) ∧ w'.cell? ⟨ad194.block,ad194.off + 1,none⟩ = some (.int .i64 (rd t188 1))) (ds:=[]) #[bf,bf,bf,bf,bf,bf,bf,bf,bf,bf,bf,bf,bf,bf,bf,bf,bf,bf,bf,bf,bf,bf,bf,bf,bf,bf,bf,bf,bf,bf,bf,bf,bf,bf,bf,bf,bf,bf,bf,bf,bf,bf,bf,bf,bf,bf] (by kernel_rfl) rfl rfl ⟨hx203_0,hx204_0⟩ (fun hHeld => ?_);refine with_tabW laws_FnOrders.tab14 laws_FnOrders.bits14 (fun HT_ HW_ => ?_)
               generalize w59.drew = w60 at HO_5 HB hx203_0 hx204_0 hHeld ⊢
               refine pQ (i:=0) (N:=some 41) (v:=?_) (a':=?_) #[bT,bf,bf,bf,bf,bf,bf,bf,bf,bf,bf,bf,bf,bf,bf,bf,bf,bf,bf,bf,bf,bf,bf,bf,bf,bf,bf,bf,bf,bf,bf,bf,bf,bf,bf,bf,bf,bf,bf,bf,bf,bf,bf,bf,bf,bf] (any_of HT_.out (by kernel_rfl)) ?_ ?_ ?_
               rotate_left
               ·intro w';go_simp;with_reducible rfl
               rotate_left
               ·simp only [Act.put,q_ia3,q_cz3,q_cs3,i64_w,i32_w];rfl
               refine pQ (i:=1) (N:=some 42) (v:=?_) (a':=?_) #[bT,bT,bf,bf,bf,bf,bf,bf,bf,bf,bf,bf,bf,bf,bf,bf,bf,bf,bf,bf,bf,bf,bf,bf,bf,bf,bf,bf,bf,bf,bf,bf,bf,bf,bf,bf,bf,bf,bf,bf,bf,bf,bf,bf,bf,bf] (any_of HT_.out (by kernel_rfl)) ?_ ?_ ?_
               rotate_left
               ·intro w';go_simp;with_reducible rfl
               rotate_left
               ·simp only [Act.put,q_ia3,q_cz3,q_cs3,i64_w,i32_w];rfl
               refine pQ (i:=2) (N:=some 43) (v:=?_) (a':=?_) #[bT,bT,bT,bf,bf,bf,bf,bf,bf,bf,bf,bf,bf,bf,bf,bf,bf,bf,bf,bf,bf,bf,bf,bf,bf,bf,bf,bf,bf,bf,bf,bf,bf,bf,bf,bf,bf,bf,bf,bf,bf,bf,bf,bf,bf,bf] (any_of HT_.out (by kernel_rfl)) ?_ ?_ ?_
               rotate_left
               ·intro w';go_simp;with_reducible rfl
               rotate_left
               ·simp only [Act.put,q_ia3,q_cz3,q_cs3,i64_w,i32_w];rfl
               refine pQ (i:=3) (N:=some 44) (v:=?_) (a':=?_) #[bT,bT,bT,bT,bf,bf,bf,bf,bf,bf,bf,bf,bf,bf,bf,bf,bf,bf,bf,bf,bf,bf,bf,bf,bf,bf,bf,bf,bf,bf,bf,bf,bf,bf,bf,bf,bf,bf,bf,bf,bf,bf,bf,bf,bf,bf] (any_of HT_.out (by kernel_rfl)) ?_ ?_ ?_
               rotate_left
               ·intro w';go_simp;with_reducible rfl
               rotate_left
               ·simp only [Act.put,q_ia3,q_cz3,q_cs3,i64_w,i32_w];rfl
               refine pQ (i:=4) (N:=some 45) (v:=?_) (a':=?_) #[bT,bT,bT,bT,bT,bf,bf,bf,bf,bf,bf,bf,bf,bf,bf,bf,bf,bf,bf,bf,bf,bf,bf,bf,bf,bf,bf,bf,bf,bf,bf,bf,bf,bf,bf,bf,bf,bf,bf,bf,bf,bf,bf,bf,bf,bf] (any_of HT_.out (by kernel_rfl)) ?_ ?_ ?_
               rotate_left
               ·intro w';go_simp;with_reducible rfl
               rotate_left
               ·simp only [Act.put,q_ia3,q_cz3,q_cs3,i64_w,i32_w];rfl
               refine pQ (i:=6) (N:=some 47) (v:=?_) (a':=?_) #[bT,bT,bT,bT,bT,bf,bT,bf,bf,bf,bf,bf,bf,bf,bf,bf,bf,bf,bf,bf,bf,bf,bf,bf,bf,bf,bf,bf,bf,bf,bf,bf,bf,bf,bf,bf,bf,bf,bf,bf,bf,bf,bf,bf,bf,bf] (any_of HT_.out (by kernel_rfl)) ?_ ?_ ?_
               rotate_left
               ·intro w';go_simp;with_reducible rfl
               rotate_left
               ·simp only [Act.put,q_ia3,q_cz3,q_cs3,i64_w,i32_w];rfl
               refine pQ (i:=7) (N:=some 48) (v:=?_) (a':=?_) #[bT,bT,bT,bT,bT,bf,bT,bT,bf,bf,bf,bf,bf,bf,bf,bf,bf,bf,bf,bf,bf,bf,bf,bf,bf,bf,bf,bf,bf,bf,bf,bf,bf,bf,bf,bf,bf,bf,bf,bf,bf,bf,bf,bf,bf,bf] (any_of HT_.out (by kernel_rfl)) ?_ ?_ ?_
               rotate_left
               ·intro w';go_simp;with_reducible rfl
               rotate_left
               ·simp only [Act.put,q_ia3,q_cz3,q_cs3,i64_w,i32_w];rfl
               refine one_ (i:=5) (N:=some 46) #[bT,bT,bT,bT,bT,bT,bT,bT,bf,bf,bf,bf,bf,bf,bf,bf,bf,bf,bf,bf,bf,bf,bf,bf,bf,bf,bf,bf,bf,bf,bf,bf,bf,bf,bf,bf,bf,bf,bf,bf,bf,bf,bf,bf,bf,bf] rfl rfl (one_of HT_.out (by kernel_rfl)) (by decide) (fun K hK => ?_)
               refine goes_ Tryd.func21 (by kernel_rfl) rfl #[.string t186,.string t187] (by rfl) rfl rfl (by (try simp only [List.map_toArray,List.map_cons,List.map_nil]);first|done|rfl|(simp only [List.length_drop,List.length_take];rfl)) ?_
               with_reducible refine (impl_Less.calls kj16 t186 t187 t198 _ A25.out).mono ?_
               rintro e w61 ⟨rfl,hb⟩
               have HS0_:=(hb.cell (World.block_lt_of_cell? _ _ (hHeld.1))).trans (hHeld.1)
               have HS1_:=(hb.cell (World.block_lt_of_cell? _ _ (hHeld.2))).trans (hHeld.2)
               refine ⟨_,rfl,?_⟩
               have n0_:=aM (rH HO_5.out hb)
               have n1_:=aM (lQ HB.out hb)
               clear HO_5
               clear HB
               have HO_5:=n0_
               have HB:=n1_
               clear n0_ n1_
               (try clear hb)
               (try clear hb2)
               (try clear hk)
               (try clear hi)
               refine hK.out _ _ ⟨HS0_,HS1_⟩ (fun hHeld => ?_)
               clear hK K
               refine norm_ (a':=?_) ?_ ?_
               rotate_left
               ·show Act.put _ (some 46) _ = _
                simp only [Act.put,q_ia3,q_cz3,q_cs3,i64_w,i32_w]
                rfl
               refine one_ (i:=8) (N:=some 49) #[bT,bT,bT,bT,bT,bT,bT,bT,bT,bf,bf,bf,bf,bf,bf,bf,bf,bf,bf,bf,bf,bf,bf,bf,bf,bf,bf,bf,bf,bf,bf,bf,bf,bf,bf,bf,bf,bf,bf,bf,bf,bf,bf,bf,bf,bf] rfl rfl (one_of HT_.out (by kernel_rfl)) (by decide) (fun K hK => ?_)
               refine goes_ Tryd.func20 (by kernel_rfl) rfl #[.string t186,.string t187] (by rfl) rfl rfl (by (try simp only [List.map_toArray,List.map_cons,List.map_nil]);first|done|rfl|(simp only [List.length_drop,List.length_take];rfl)) ?_
               with_reducible refine (spec_Less.calls kj16 t186 t187 t199 _ A26.out).mono ?_
               rintro e w' ⟨rfl,⟨nd,rfl⟩⟩
               refine ⟨_,rfl,?_⟩
               refine hK.out _ _ ⟨hHeld.1,hHeld.2⟩ (fun hHeld => ?_)
               clear hK K
               refine norm_ (a':=?_) ?_ ?_
               rotate_left
               ·show Act.put _ (some 49) _ = _
                simp only [Act.put,q_ia3,q_cz3,q_cs3,i64_w,i32_w]
                rfl
               refine pQ (i:=9) (N:=some 50) (v:=?_) (a':=?_) #[bT,bT,bT,bT,bT,bT,bT,bT,bT,bT,bf,bf,bf,bf,bf,bf,bf,bf,bf,bf,bf,bf,bf,bf,bf,bf,bf,bf,bf,bf,bf,bf,bf,bf,bf,bf,bf,bf,bf,bf,bf,bf,bf,bf,bf,bf] (any_of HT_.out (by kernel_rfl)) ?_ ?_ ?_
               rotate_left
               ·intro w';go_simp;with_reducible rfl
               rotate_left
               ·simp only [Act.put,q_ia3,q_cz3,q_cs3,i64_w,i32_w];rfl
               refine pQ (i:=10) (N:=some 51) (v:=?_) (a':=?_) #[bT,bT,bT,bT,bT,bT,bT,bT,bT,bT,bT,bf,bf,bf,bf,bf,bf,bf,bf,bf,bf,bf,bf,bf,bf,bf,bf,bf,bf,bf,bf,bf,bf,bf,bf,bf,bf,bf,bf,bf,bf,bf,bf,bf,bf,bf] (any_of HT_.out (by kernel_rfl)) ?_ ?_ ?_
               rotate_left
               ·intro w';go_simp;with_reducible rfl
               rotate_left
               ·simp only [Act.put,q_ia3,q_cz3,q_cs3,i64_w,i32_w];rfl
               refine pQ (i:=11) (N:=some 52) (v:=?_) (a':=?_) #[bT,bT,bT,bT,bT,bT,bT,bT,bT,bT,bT,bT,bf,bf,bf,bf,bf,bf,bf,bf,bf,bf,bf,bf,bf,bf,bf,bf,bf,bf,bf,bf,bf,bf,bf,bf,bf,bf,bf,bf,bf,bf,bf,bf,bf,bf] (any_of HT_.out (by kernel_rfl)) ?_ ?_ ?_
               rotate_left
               ·intro w';go_simp;with_reducible rfl
               rotate_left
               ·simp only [Act.put,q_ia3,q_cz3,q_cs3,i64_w,i32_w];rfl
               refine pQ (i:=12) (N:=some 53) (v:=?_) (a':=?_) #[bT,bT,bT,bT,bT,bT,bT,bT,bT,bT,bT,bT,bT,bf,bf,bf,bf,bf,bf,bf,bf,bf,bf,bf,bf,bf,bf,bf,bf,bf,bf,bf,bf,bf,bf,bf,bf,bf,bf,bf,bf,bf,bf,bf,bf,bf] (any_of HT_.out (by kernel_rfl)) ?_ ?_ ?_
               rotate_left
               ·intro w';go_simp;with_reducible rfl
               rotate_left
               ·simp only [Act.put,q_ia3,q_cz3,q_cs3,i64_w,i32_w];rfl
               refine pQ (i:=13) (N:=some 54) (v:=?_) (a':=?_) #[bT,bT,bT,bT,bT,bT,bT,bT,bT,bT,bT,bT,bT,bT,bf,bf,bf,bf,bf,bf,bf,bf,bf,bf,bf,bf,bf,bf,bf,bf,bf,bf,bf,bf,bf,bf,bf,bf,bf,bf,bf,bf,bf,bf,bf,bf] (any_of HT_.out (by kernel_rfl)) ?_ ?_ ?_
               rotate_left
               ·intro w';go_simp;with_reducible rfl
               rotate_left
               ·simp only [Act.put,q_ia3,q_cz3,q_cs3,i64_w,i32_w];rfl
               refine pQ (i:=15) (N:=some 56) (v:=?_) (a':=?_) #[bT,bT,bT,bT,bT,bT,bT,bT,bT,bT,bT,bT,bT,bT,bf,bT,bf,bf,bf,bf,bf,bf,bf,bf,bf,bf,bf,bf,bf,bf,bf,bf,bf,bf,bf,bf,bf,bf,bf,bf,bf,bf,bf,bf,bf,bf] (any_of HT_.out (by kernel_rfl)) ?_ ?_ ?_
               rotate_left
               ·intro w';go_simp;with_reducible rfl
               rotate_left
               ·simp only [Act.put,q_ia3,q_cz3,q_cs3,i64_w,i32_w];rfl
               refine pQ (i:=16) (N:=some 57) (v:=?_) (a':=?_) #[bT,bT,bT,bT,bT,bT,bT,bT,bT,bT,bT,bT,bT,bT,bf,bT,bT,bf,bf,bf,bf,bf,bf,bf,bf,bf,bf,bf,bf,bf,bf,bf,bf,bf,bf,bf,bf,bf,bf,bf,bf,bf,bf,bf,bf,bf] (any_of HT_.out (by kernel_rfl)) ?_ ?_ ?_
               rotate_left
               ·intro w';go_simp;with_reducible rfl
               rotate_left
               ·simp only [Act.put,q_ia3,q_cz3,q_cs3,i64_w,i32_w];rfl
               refine one_ (i:=14) (N:=some 55) #[bT,bT,bT,bT,bT,bT,bT,bT,bT,bT,bT,bT,bT,bT,bT,bT,bT,bf,bf,bf,bf,bf,bf,bf,bf,bf,bf,bf,bf,bf,bf,bf,bf,bf,bf,bf,bf,bf,bf,bf,bf,bf,bf,bf,bf,bf] rfl rfl (one_of HT_.out (by kernel_rfl)) (by decide) (fun K hK => ?_)
               refine goes_ Tryd.func23 (by kernel_rfl) rfl #[.string t186,.string t187] (by rfl) rfl rfl (by (try simp only [List.map_toArray,List.map_cons,List.map_nil]);first|done|rfl|(simp only [List.length_drop,List.length_take];rfl)) ?_
               with_reducible refine (impl_Same.calls kj16 t186 t187 t200 _ A28.out).mono ?_
               rintro e w62 ⟨rfl,hb⟩
               have HS0_:=(hb.cell (World.block_lt_of_cell? _ _ (hHeld.1))).trans (hHeld.1)
               have HS1_:=(hb.cell (World.block_lt_of_cell? _ _ (hHeld.2))).trans (hHeld.2)
               refine ⟨_,rfl,?_⟩
               have n0_:=aM (rH HO_5.out hb)
               have n1_:=aM (lQ HB.out hb)
               clear HO_5
               clear HB
               have HO_5:=n0_
               have HB:=n1_
               clear n0_ n1_
               (try clear hb)
               (try clear hb2)
               (try clear hk)
               (try clear hi)
               refine hK.out _ _ ⟨HS0_,HS1_⟩ (fun hHeld => ?_)
               clear hK K
               refine norm_ (a':=?_) ?_ ?_
               rotate_left
               ·show Act.put _ (some 55) _ = _
                simp only [Act.put,q_ia3,q_cz3,q_cs3,i64_w,i32_w]
                rfl
               refine one_ (i:=17) (N:=some 58) #[bT,bT,bT,bT,bT,bT,bT,bT,bT,bT,bT,bT,bT,bT,bT,bT,bT,bT,bf,bf,bf,bf,bf,bf,bf,bf,bf,bf,bf,bf,bf,bf,bf,bf,bf,bf,bf,bf,bf,bf,bf,bf,bf,bf,bf,bf] rfl rfl (one_of HT_.out (by kernel_rfl)) (by decide) (fun K hK => ?_)
               refine goes_ Tryd.func22 (by kernel_rfl) rfl #[.string t186,.string t187] (by rfl) rfl rfl (by (try simp only [List.map_toArray,List.map_cons,List.map_nil]);first|done|rfl|(simp only [List.length_drop,List.length_take];rfl)) ?_
               with_reducible refine (spec_Same.calls kj16 t186 t187 t201 _ A29.out).mono ?_
               rintro e w' ⟨rfl,⟨nd,rfl⟩⟩
               refine ⟨_,rfl,?_⟩
               refine hK.out _ _ ⟨hHeld.1,hHeld.2⟩ (fun hHeld => ?_)
               clear hK K
               refine norm_ (a':=?_) ?_ ?_
               rotate_left
               ·show Act.put _ (some 58) _ = _
                simp only [Act.put,q_ia3,q_cz3,q_cs3,i64_w,i32_w]
                rfl
               refine pQ (i:=18) (N:=some 59) (v:=?_) (a':=?_) #[bT,bT,bT,bT,bT,bT,bT,bT,bT,bT,bT,bT,bT,bT,bT,bT,bT,bT,bT,bf,bf,bf,bf,bf,bf,bf,bf,bf,bf,bf,bf,bf,bf,bf,bf,bf,bf,bf,bf,bf,bf,bf,bf,bf,bf,bf] (any_of HT_.out (by kernel_rfl)) ?_ ?_ ?_
               rotate_left
               ·intro w';go_simp;with_reducible rfl
               rotate_left
               ·simp only [Act.put,q_ia3,q_cz3,q_cs3,i64_w,i32_w];rfl
               refine pQ (i:=19) (N:=some 60) (v:=?_) (a':=?_) #[bT,bT,bT,bT,bT,bT,bT,bT,bT,bT,bT,bT,bT,bT,bT,bT,bT,bT,bT,bT,bf,bf,bf,bf,bf,bf,bf,bf,bf,bf,bf,bf,bf,bf,bf,bf,bf,bf,bf,bf,bf,bf,bf,bf,bf,bf] (any_of HT_.out (by kernel_rfl)) ?_ ?_ ?_
               rotate_left
               ·intro w';go_simp;with_reducible rfl
               rotate_left
               ·simp only [Act.put,q_ia3,q_cz3,q_cs3,i64_w,i32_w];rfl
               refine pQ (i:=20) (N:=some 61) (v:=?_) (a':=?_) #[bT,bT,bT,bT,bT,bT,bT,bT,bT,bT,bT,bT,bT,bT,bT,bT,bT,bT,bT,bT,bT,bf,bf,bf,bf,bf,bf,bf,bf,bf,bf,bf,bf,bf,bf,bf,bf,bf,bf,bf,bf,bf,bf,bf,bf,bf] (any_of HT_.out (by kernel_rfl)) ?_ ?_ ?_
               rotate_left
               ·intro w';go_simp;with_reducible rfl
               rotate_left
               ·simp only [Act.put,q_ia3,q_cz3,q_cs3,i64_w,i32_w];rfl
               refine pQ (i:=21) (N:=some 62) (v:=?_) (a':=?_) #[bT,bT,bT,bT,bT,bT,bT,bT,bT,bT,bT,bT,bT,bT,bT,bT,bT,bT,bT,bT,bT,bT,bf,bf,bf,bf,bf,bf,bf,bf,bf,bf,bf,bf,bf,bf,bf,bf,bf,bf,bf,bf,bf,bf,bf,bf] (any_of HT_.out (by kernel_rfl)) ?_ ?_ ?_
               rotate_left
               ·intro w';go_simp;with_reducible rfl
               rotate_left
               ·simp only [Act.put,q_ia3,q_cz3,q_cs3,i64_w,i32_w];rfl
               refine pQ (i:=22) (N:=some 63) (v:=?_) (a':=?_) #[bT,bT,bT,bT,bT,bT,bT,bT,bT,bT,bT,bT,bT,bT,bT,bT,bT,bT,bT,bT,bT,bT,bT,bf,bf,bf,bf,bf,bf,bf,bf,bf,bf,bf,bf,bf,bf,bf,bf,bf,bf,bf,bf,bf,bf,bf] (any_of HT_.out (by kernel_rfl)) ?_ ?_ ?_
               rotate_left
               ·intro w';go_simp;with_reducible rfl
               rotate_left
               ·simp only [Act.put,q_ia3,q_cz3,q_cs3,i64_w,i32_w];rfl
               refine pQ (i:=24) (N:=some 65) (v:=?_) (a':=?_) #[bT,bT,bT,bT,bT,bT,bT,bT,bT,bT,bT,bT,bT,bT,bT,bT,bT,bT,bT,bT,bT,bT,bT,bf,bT,bf,bf,bf,bf,bf,bf,bf,bf,bf,bf,bf,bf,bf,bf,bf,bf,bf,bf,bf,bf,bf] (any_of HT_.out (by kernel_rfl)) ?_ ?_ ?_
               rotate_left
               ·intro w';go_simp;with_reducible rfl
               rotate_left
               ·simp only [Act.put,q_ia3,q_cz3,q_cs3,i64_w,i32_w];rfl
               refine pQ (i:=25) (N:=some 66) (v:=?_) (a':=?_) #[bT,bT,bT,bT,bT,bT,bT,bT,bT,bT,bT,bT,bT,bT,bT,bT,bT,bT,bT,bT,bT,bT,bT,bf,bT,bT,bf,bf,bf,bf,bf,bf,bf,bf,bf,bf,bf,bf,bf,bf,bf,bf,bf,bf,bf,bf] (any_of HT_.out (by kernel_rfl)) ?_ ?_ ?_
               rotate_left
               ·intro w';go_simp;with_reducible rfl
               rotate_left
               ·simp only [Act.put,q_ia3,q_cz3,q_cs3,i64_w,i32_w];rfl
               refine pQ (i:=27) (N:=some 68) (v:=?_) (a':=?_) #[bT,bT,bT,bT,bT,bT,bT,bT,bT,bT,bT,bT,bT,bT,bT,bT,bT,bT,bT,bT,bT,bT,bT,bf,bT,bT,bf,bT,bf,bf,bf,bf,bf,bf,bf,bf,bf,bf,bf,bf,bf,bf,bf,bf,bf,bf] (any_of HT_.out (by kernel_rfl)) ?_ ?_ ?_
               rotate_left
               ·intro w';go_simp;with_reducible rfl
               rotate_left
               ·simp only [Act.put,q_ia3,q_cz3,q_cs3,i64_w,i32_w];rfl
               refine pQ (i:=28) (N:=some 69) (v:=?_) (a':=?_) #[bT,bT,bT,bT,bT,bT,bT,bT,bT,bT,bT,bT,bT,bT,bT,bT,bT,bT,bT,bT,bT,bT,bT,bf,bT,bT,bf,bT,bT,bf,bf,bf,bf,bf,bf,bf,bf,bf,bf,bf,bf,bf,bf,bf,bf,bf] (any_of HT_.out (by kernel_rfl)) ?_ ?_ ?_
               rotate_left
               ·intro w';go_simp;with_reducible rfl
               rotate_left
               ·simp only [Act.put,q_ia3,q_cz3,q_cs3,i64_w,i32_w];rfl
               refine take_ (i:=26) (N:=some 67) (v:=?_) (a':=?_) #[bT,bT,bT,bT,bT,bT,bT,bT,bT,bT,bT,bT,bT,bT,bT,bT,bT,bT,bT,bT,bT,bT,bT,bf,bT,bT,bT,bT,bT,bf,bf,bf,bf,bf,bf,bf,bf,bf,bf,bf,bf,bf,bf,bf,bf,bf] rfl rfl (take_ofW HT_.out HW_.out (by kernel_rfl)) (fun _ _ _ h => h) (Or.inl ⟨by rfl,?_⟩) hHeld ?_ ?_
               rotate_left
               ·rintro w' ⟨s0,s1⟩
                go_simp
                with_reducible rfl
               rotate_left
               ·simp only [Act.put,q_ia3,q_cz3,q_cs3,i64_w,i32_w];rfl
               refine take_ (i:=29) (N:=some 70) (v:=?_) (a':=?_) #[bT,bT,bT,bT,bT,bT,bT,bT,bT,bT,bT,bT,bT,bT,bT,bT,bT,bT,bT,bT,bT,bT,bT,bf,bT,bT,bT,bT,bT,bT,bf,bf,bf,bf,bf,bf,bf,bf,bf,bf,bf,bf,bf,bf,bf,bf] rfl rfl (take_ofW HT_.out HW_.out (by kernel_rfl)) (fun _ _ _ h => h) (Or.inl ⟨by rfl,?_⟩) hHeld ?_ ?_
               rotate_left
               ·rintro w' ⟨s0,s1⟩
                go_simp
                with_reducible rfl
               rotate_left
               ·simp only [Act.put,q_ia3,q_cz3,q_cs3,i64_w,i32_w];rfl
               refine pQ (i:=30) (N:=some 71) (v:=?_) (a':=?_) #[bT,bT,bT,bT,bT,bT,bT,bT,bT,bT,bT,bT,bT,bT,bT,bT,bT,bT,bT,bT,bT,bT,bT,bf,bT,bT,bT,bT,bT,bT,bT,bf,bf,bf,bf,bf,bf,bf,bf,bf,bf,bf,bf,bf,bf,bf] (any_of HT_.out (by kernel_rfl)) ?_ ?_ ?_
               rotate_left
               ·intro w';go_simp;with_reducible rfl
               rotate_left
               ·simp only [Act.put,q_ia3,q_cz3,q_cs3,i64_w,i32_w];rfl
               refine one_ (i:=23) (N:=some 64) #[bT,bT,bT,bT,bT,bT,bT,bT,bT,bT,bT,bT,bT,bT,bT,bT,bT,bT,bT,bT,bT,bT,bT,bT,bT,bT,bT,bT,bT,bT,bT,bf,bf,bf,bf,bf,bf,bf,bf,bf,bf,bf,bf,bf,bf,bf] rfl rfl (one_of HT_.out (by kernel_rfl)) (by decide) (fun K hK => ?_)
               refine goes_ Tryd.func21 (by kernel_rfl) rfl #[.string t195,.string t197] (by rfl) rfl rfl (by (try simp only [List.map_toArray,List.map_cons,List.map_nil]);first|done|rfl|(simp only [List.length_drop,List.length_take];rfl)) ?_
               with_reducible refine (impl_Less.calls kj16 t195 t197 t202 _ A31.out).mono ?_
               rintro e w63 ⟨rfl,hb⟩
               have HS0_:=(hb.cell (World.block_lt_of_cell? _ _ (hHeld.1))).trans (hHeld.1)
               have HS1_:=(hb.cell (World.block_lt_of_cell? _ _ (hHeld.2))).trans (hHeld.2)
               refine ⟨_,rfl,?_⟩
               have n0_:=aM (rH HO_5.out hb)
               have n1_:=aM (lQ HB.out hb)
               clear HO_5
               clear HB
               have HO_5:=n0_
               have HB:=n1_
               clear n0_ n1_
               (try clear hb)
               (try clear hb2)
               (try clear hk)
               (try clear hi)
               refine hK.out _ _ ⟨HS0_,HS1_⟩ (fun hHeld => ?_)
               clear hK K
               refine norm_ (a':=?_) ?_ ?_
               rotate_left
               ·show Act.put _ (some 64) _ = _
                simp only [Act.put,q_ia3,q_cz3,q_cs3,i64_w,i32_w]
                rfl
               refine pQ (i:=31) (N:=some 72) (v:=?_) (a':=?_) #[bT,bT,bT,bT,bT,bT,bT,bT,bT,bT,bT,bT,bT,bT,bT,bT,bT,bT,bT,bT,bT,bT,bT,bT,bT,bT,bT,bT,bT,bT,bT,bT,bf,bf,bf,bf,bf,bf,bf,bf,bf,bf,bf,bf,bf,bf] (any_of HT_.out (by kernel_rfl)) ?_ ?_ ?_
               rotate_left
               ·intro w';go_simp;with_reducible rfl
               rotate_left
               ·simp only [Act.put,q_ia3,q_cz3,q_cs3,i64_w,i32_w];rfl
               refine pQ (i:=32) (N:=some 73) (v:=?_) (a':=?_) #[bT,bT,bT,bT,bT,bT,bT,bT,bT,bT,bT,bT,bT,bT,bT,bT,bT,bT,bT,bT,bT,bT,bT,bT,bT,bT,bT,bT,bT,bT,bT,bT,bT,bf,bf,bf,bf,bf,bf,bf,bf,bf,bf,bf,bf,bf] (any_of HT_.out (by kernel_rfl)) ?_ ?_ ?_
               rotate_left
               ·intro w';go_simp;with_reducible rfl
               rotate_left
               ·simp only [Act.put,q_ia3,q_cz3,q_cs3,i64_w,i32_w];rfl
               refine pQ (i:=33) (N:=some 74) (v:=?_) (a':=?_) #[bT,bT,bT,bT,bT,bT,bT,bT,bT,bT,bT,bT,bT,bT,bT,bT,bT,bT,bT,bT,bT,bT,bT,bT,bT,bT,bT,bT,bT,bT,bT,bT,bT,bT,bf,bf,bf,bf,bf,bf,bf,bf,bf,bf,bf,bf] (any_of HT_.out (by kernel_rfl)) ?_ ?_ ?_
               rotate_left
               ·intro w';go_simp;with_reducible rfl
               rotate_left
               ·simp only [Act.put,q_ia3,q_cz3,q_cs3,i64_w,i32_w];rfl
               refine one_ (i:=34) (N:=some 75) #[bT,bT,bT,bT,bT,bT,bT,bT,bT,bT,bT,bT,bT,bT,bT,bT,bT,bT,bT,bT,bT,bT,bT,bT,bT,bT,bT,bT,bT,bT,bT,bT,bT,bT,bT,bf,bf,bf,bf,bf,bf,bf,bf,bf,bf,bf] rfl rfl (one_of HT_.out (by kernel_rfl)) (by decide) (fun K hK => ?_)
               refine goes_ Tryd.func23 (by kernel_rfl) rfl #[.string (⟨#[48,48,55]⟩ : ByteArray),.string (⟨#[55]⟩ : ByteArray)] (by rfl) rfl rfl (by (try simp only [List.map_toArray,List.map_cons,List.map_nil]);first|done|rfl|(simp only [List.length_drop,List.length_take];rfl)) ?_
               with_reducible refine (impl_Same.calls kj16 (⟨#[48,48,55]⟩ : ByteArray) (⟨#[55]⟩ : ByteArray) false _ A33.out).mono ?_
               rintro e w64 ⟨rfl,hb⟩
               have HS0_:=(hb.cell (World.block_lt_of_cell? _ _ (hHeld.1))).trans (hHeld.1)
               have HS1_:=(hb.cell (World.block_lt_of_cell? _ _ (hHeld.2))).trans (hHeld.2)
               refine ⟨_,rfl,?_⟩
               have n0_:=aM (rH HO_5.out hb)
               have n1_:=aM (lQ HB.out hb)
               clear HO_5
               clear HB
               have HO_5:=n0_
               have HB:=n1_
               clear n0_ n1_
               (try clear hb)
               (try clear hb2)
               (try clear hk)
               (try clear hi)
               refine hK.out _ _ ⟨HS0_,HS1_⟩ (fun hHeld => ?_)
               clear hK K
               refine norm_ (a':=?_) ?_ ?_
               rotate_left
               ·show Act.put _ (some 75) _ = _
                simp only [Act.put,q_ia3,q_cz3,q_cs3,i64_w,i32_w]
                rfl
               refine pQ (i:=35) (N:=some 76) (v:=?_) (a':=?_) #[bT,bT,bT,bT,bT,bT,bT,bT,bT,bT,bT,bT,bT,bT,bT,bT,bT,bT,bT,bT,bT,bT,bT,bT,bT,bT,bT,bT,bT,bT,bT,bT,bT,bT,bT,bT,bf,bf,bf,bf,bf,bf,bf,bf,bf,bf] (any_of HT_.out (by kernel_rfl)) ?_ ?_ ?_
               rotate_left
               ·intro w';go_simp;with_reducible rfl
               rotate_left
               ·simp only [Act.put,q_ia3,q_cz3,q_cs3,i64_w,i32_w];rfl
               refine pQ (i:=36) (N:=some 77) (v:=?_) (a':=?_) #[bT,bT,bT,bT,bT,bT,bT,bT,bT,bT,bT,bT,bT,bT,bT,bT,bT,bT,bT,bT,bT,bT,bT,bT,bT,bT,bT,bT,bT,bT,bT,bT,bT,bT,bT,bT,bT,bf,bf,bf,bf,bf,bf,bf,bf,bf] (any_of HT_.out (by kernel_rfl)) ?_ ?_ ?_
               rotate_left
               ·intro w';go_simp;with_reducible rfl
               rotate_left
               ·simp only [Act.put,q_ia3,q_cz3,q_cs3,i64_w,i32_w];rfl
               refine pure_ (i:=37) (N:=some 78) (v:=undef) (a':=?_) #[bT,bT,bT,bT,bT,bT,bT,bT,bT,bT,bT,bT,bT,bT,bT,bT,bT,bT,bT,bT,bT,bT,bT,bT,bT,bT,bT,bT,bT,bT,bT,bT,bT,bT,bT,bT,bT,bT,bf,bf,bf,bf,bf,bf,bf,bf] rfl rfl (any_of HT_.out (by kernel_rfl)) (fun _ _ _ h => h) (Or.inr ⟨by rfl,rfl⟩) ?_ ?_
               rotate_left
               ·simp only [Act.put,q_ia3,q_cz3,q_cs3,i64_w,i32_w];rfl
               refine pure_ (i:=38) (N:=some 79) (v:=undef) (a':=?_) #[bT,bT,bT,bT,bT,bT,bT,bT,bT,bT,bT,bT,bT,bT,bT,bT,bT,bT,bT,bT,bT,bT,bT,bT,bT,bT,bT,bT,bT,bT,bT,bT,bT,bT,bT,bT,bT,bT,bT,bf,bf,bf,bf,bf,bf,bf] rfl rfl (any_of HT_.out (by kernel_rfl)) (fun _ _ _ h => h) (Or.inr ⟨by rfl,rfl⟩) ?_ ?_
               rotate_left
               ·simp only [Act.put,q_ia3,q_cz3,q_cs3,i64_w,i32_w];rfl
               refine pQ (i:=39) (N:=some 80) (v:=?_) (a':=?_) #[bT,bT,bT,bT,bT,bT,bT,bT,bT,bT,bT,bT,bT,bT,bT,bT,bT,bT,bT,bT,bT,bT,bT,bT,bT,bT,bT,bT,bT,bT,bT,bT,bT,bT,bT,bT,bT,bT,bT,bT,bf,bf,bf,bf,bf,bf] (any_of HT_.out (by kernel_rfl)) ?_ ?_ ?_
               rotate_left
               ·intro w';go_simp;with_reducible rfl
               rotate_left
               ·simp only [Act.put,q_ia3,q_cz3,q_cs3,i64_w,i32_w];rfl
               refine pQ (i:=40) (N:=some 81) (v:=?_) (a':=?_) #[bT,bT,bT,bT,bT,bT,bT,bT,bT,bT,bT,bT,bT,bT,bT,bT,bT,bT,bT,bT,bT,bT,bT,bT,bT,bT,bT,bT,bT,bT,bT,bT,bT,bT,bT,bT,bT,bT,bT,bT,bT,bf,bf,bf,bf,bf] (any_of HT_.out (by kernel_rfl)) ?_ ?_ ?_
               rotate_left
               ·intro w';go_simp;with_reducible rfl
               rotate_left
               ·simp only [Act.put,q_ia3,q_cz3,q_cs3,i64_w,i32_w];rfl
               refine pure_ (i:=41) (N:=some 82) (v:=undef) (a':=?_) #[bT,bT,bT,bT,bT,bT,bT,bT,bT,bT,bT,bT,bT,bT,bT,bT,bT,bT,bT,bT,bT,bT,bT,bT,bT,bT,bT,bT,bT,bT,bT,bT,bT,bT,bT,bT,bT,bT,bT,bT,bT,bT,bf,bf,bf,bf] rfl rfl (any_of HT_.out (by kernel_rfl)) (fun _ _ _ h => h) (Or.inr ⟨by rfl,rfl⟩) ?_ ?_
               rotate_left
               ·simp only [Act.put,q_ia3,q_cz3,q_cs3,i64_w,i32_w];rfl
               refine pure_ (i:=42) (N:=some 83) (v:=undef) (a':=?_) #[bT,bT,bT,bT,bT,bT,bT,bT,bT,bT,bT,bT,bT,bT,bT,bT,bT,bT,bT,bT,bT,bT,bT,bT,bT,bT,bT,bT,bT,bT,bT,bT,bT,bT,bT,bT,bT,bT,bT,bT,bT,bT,bT,bf,bf,bf] rfl rfl (any_of HT_.out (by kernel_rfl)) (fun _ _ _ h => h) (Or.inr ⟨by rfl,rfl⟩) ?_ ?_
               rotate_left
               ·simp only [Act.put,q_ia3,q_cz3,q_cs3,i64_w,i32_w];rfl
               refine pure_ (i:=43) (N:=some 84) (v:=undef) (a':=?_) #[bT,bT,bT,bT,bT,bT,bT,bT,bT,bT,bT,bT,bT,bT,bT,bT,bT,bT,bT,bT,bT,bT,bT,bT,bT,bT,bT,bT,bT,bT,bT,bT,bT,bT,bT,bT,bT,bT,bT,bT,bT,bT,bT,bT,bf,bf] rfl rfl (any_of HT_.out (by kernel_rfl)) (fun _ _ _ h => h) (Or.inr ⟨by rfl,rfl⟩) ?_ ?_
               rotate_left
               ·simp only [Act.put,q_ia3,q_cz3,q_cs3,i64_w,i32_w];rfl
               refine pQ (i:=44) (N:=some 85) (v:=?_) (a':=?_) #[bT,bT,bT,bT,bT,bT,bT,bT,bT,bT,bT,bT,bT,bT,bT,bT,bT,bT,bT,bT,bT,bT,bT,bT,bT,bT,bT,bT,bT,bT,bT,bT,bT,bT,bT,bT,bT,bT,bT,bT,bT,bT,bT,bT,bT,bf] (any_of HT_.out (by kernel_rfl)) ?_ ?_ ?_
               rotate_left
               ·intro w';go_simp;with_reducible rfl
               rotate_left
               ·simp only [Act.put,q_ia3,q_cz3,q_cs3,i64_w,i32_w];rfl
               refine pQ (i:=45) (N:=some 2) (v:=?_) (a':=?_) #[bT,bT,bT,bT,bT,bT,bT,bT,bT,bT,bT,bT,bT,bT,bT,bT,bT,bT,bT,bT,bT,bT,bT,bT,bT,bT,bT,bT,bT,bT,bT,bT,bT,bT,bT,bT,bT,bT,bT,bT,bT,bT,bT,bT,bT,bT] (any_of HT_.out (by kernel_rfl)) ?_ ?_ ?_
               rotate_left
               ·intro w';go_simp;with_reducible rfl
               rotate_left
               ·simp only [Act.put,q_ia3,q_cz3,q_cs3,i64_w,i32_w];rfl
               refine done_ (done_of HT_.out (by kernel_rfl)) ?_
               try go_wp2
               go_ret
               exact ⟨by first|rfl|(simp [errW_none,errW_some] <;> rfl)|(simp [*,errW_none,errW_some] <;> rfl),by repeat (first|(with_reducible first|exact HB.out|apply lA|apply lN|apply lD)|exact HB.out)⟩
             ·rw [if_neg c32] at H
              have c32b0 : (t202 == (decide ((rd t188 0) < (rd t188 1)))) = false:=by simpa using c32
              (try (have c32b1 : decide (t202 = (decide ((rd t188 0) < (rd t188 1)))) = false:=by simpa using c32))
              (try (have c32b2 : (t202 == (decide ((rd t188 0) < (rd t188 1)))) = false:=by simpa using c32))
              (try (have c32b3 : ¬ (t202 = (decide ((rd t188 0) < (rd t188 1)))):=by simpa using c32))
              clear c32
              obtain rfl:=Option.some.inj H
              obtain ⟨Ao65,co65,eo65⟩:=Kd.R_slice HO_5.out
              subst eo65
              have p194 : 0 ≤ (0 : Int):=(by omega)
              have q194 : 0 < (t188.length : Int):=of_decide_eq_true (by first|(with_reducible assumption)|assumption)
              obtain ⟨ad194,e194,hx194_0⟩:=Kd.at_int (rR HO_5.out).2.2 0 p194 q194
              cases e194
              have qi194 : (0 < t188.length) = True:=eq_true (by omega)
              (try rw [show ((0 : Int)).toNat = 0 from rfl] at hx194_0)
              (try rw [Addr.add_zero'] at hx194_0)
              replace p194:=eq_true p194
              replace q194:=eq_true q194
              try go_wp2_with (first|((with_reducible refine gate_callee (f:=14) rfl ?_);refine goesL_ (some 36) rfl rfl Tryd.func14 (by kernel_rfl) rfl #[.int .i64 (rd t188 0)] rfl (by (try simp only [List.map_toArray,List.map_cons,List.map_nil]);first|done|rfl|(simp only [List.length_drop,List.length_take];rfl)) ?_;(with_reducible refine (spec_Decimal.calls kj16 (rd t188 0) t195 _ A21.out).mono ?_);rintro e w66 ⟨rfl,hb⟩;refine ⟨_,rfl,?_⟩;have n0_:=aM (rH HO_5.out hb);have n1_:=aM (lQ HB.out hb);clear HO_5 HB;have HO_5:=n0_;have HB:=n1_;clear n0_ n1_;(try clear hb);(try clear hb2);(try clear hk);(try clear hi);have p196 : 0 ≤ (1 : Int):=(by omega);have q196 : 1 < (t188.length : Int):=of_decide_eq_true (by first|(with_reducible assumption)|assumption);obtain ⟨ad196,e196,hx196_0⟩:=Kd.at_int (rR HO_5.out).2.2 1 p196 q196;obtain rfl : ad194 = ad196:=(by injection e196);(try simp only [show (1 : Int).toNat = 1 from rfl,Nat.reduceMul,Nat.reduceEqDiff,Go.Addr.add,↓reduceIte] at hx196_0);have qi196 : (1 < t188.length) = True:=eq_true (by omega);(try rw [show ((1 : Int)).toNat = 1 from rfl] at hx196_0);replace p196:=eq_true p196;replace q196:=eq_true q196)|((with_reducible refine gate_callee (f:=14) rfl ?_);refine goesL_ (some 40) rfl rfl Tryd.func14 (by kernel_rfl) rfl #[.int .i64 (rd t188 1)] rfl (by (try simp only [List.map_toArray,List.map_cons,List.map_nil]);first|done|rfl|(simp only [List.length_drop,List.length_take];rfl)) ?_;(with_reducible refine (spec_Decimal.calls kj16 (rd t188 1) t197 _ A23.out).mono ?_);rintro e w67 ⟨rfl,hb⟩;refine ⟨_,rfl,?_⟩;have n0_:=aM (rH HO_5.out hb);have n1_:=aM (lQ HB.out hb);clear HO_5 HB;have HO_5:=n0_;have HB:=n1_;clear n0_ n1_;(try clear hb);(try clear hb2);(try clear hk);(try clear hi)))
              have n0_:=aM (rD HO_5.out)
              have n1_:=aM (lD HB.out)
              clear HO_5
              clear HB
              have HO_5:=n0_
              have HB:=n1_
              clear n0_ n1_
              have p203 : 0 ≤ (0 : Int):=(by omega)
              have q203 : 0 < (t188.length : Int):=of_decide_eq_true (by first|(with_reducible assumption)|assumption)
              obtain ⟨ad203,e203,hx203_0⟩:=Kd.at_int (rR HO_5.out).2.2 0 p203 q203
              obtain rfl : ad194 = ad203:=(by injection e203)
              have qi203 : (0 < t188.length) = True:=eq_true (by omega)
              (try rw [show ((0 : Int)).toNat = 0 from rfl] at hx203_0)
              (try rw [Addr.add_zero'] at hx203_0)
              replace p203:=eq_true p203
              replace q203:=eq_true q203
              have p204 : 0 ≤ (1 : Int):=(by omega)
              have q204 : 1 < (t188.length : Int):=of_decide_eq_true (by first|(with_reducible assumption)|assumption)
              obtain ⟨ad204,e204,hx204_0⟩:=Kd.at_int (rR HO_5.out).2.2 1 p204 q204
              obtain rfl : ad194 = ad204:=(by injection e204)
              (try simp only [show (1 : Int).toNat = 1 from rfl,Nat.reduceMul,Nat.reduceEqDiff,Go.Addr.add,↓reduceIte] at hx204_0)
              have qi204 : (1 < t188.length) = True:=eq_true (by omega)
              (try rw [show ((1 : Int)).toNat = 1 from rfl] at hx204_0)
              replace p204:=eq_true p204
              replace q204:=eq_true q204
              refine start_ (n:=46) (S:=fun w' => w'.cell? ad194 = some (.int .i64 (rd t188 0)) ∧ w'.cell? ⟨ad194.block,ad194.off + 1,none⟩ = some (.int .i64 (rd t188 1))) (ds:=[]) #[bf,bf,bf,bf,bf,bf,bf,bf,bf,bf,bf,bf,bf,bf,bf,bf,bf,bf,bf,bf,bf,bf,bf,bf,bf,bf,bf,bf,bf,bf,bf,bf,bf,bf,bf,bf,bf,bf,bf,bf,bf,bf,bf,bf,bf,bf] (by kernel_rfl) rfl rfl ⟨hx203_0,hx204_0⟩ (fun hHeld => ?_);refine with_tabW laws_FnOrders.tab14 laws_FnOrders.bits14 (fun HT_ HW_ => ?_)
              generalize w67.drew = w68 at HO_5 HB hx203_0 hx204_0 hHeld ⊢
              refine pQ (i:=0) (N:=some 41) (v:=?_) (a':=?_) #[bT,bf,bf,bf,bf,bf,bf,bf,bf,bf,bf,bf,bf,bf,bf,bf,bf,bf,bf,bf,bf,bf,bf,bf,bf,bf,bf,bf,bf,bf,bf,bf,bf,bf,bf,bf,bf,bf,bf,bf,bf,bf,bf,bf,bf,bf] (any_of HT_.out (by kernel_rfl)) ?_ ?_ ?_
              rotate_left
              ·intro w';go_simp;with_reducible rfl
              rotate_left
              ·simp only [Act.put,q_ia3,q_cz3,q_cs3,i64_w,i32_w];rfl
              refine pQ (i:=1) (N:=some 42) (v:=?_) (a':=?_) #[bT,bT,bf,bf,bf,bf,bf,bf,bf,bf,bf,bf,bf,bf,bf,bf,bf,bf,bf,bf,bf,bf,bf,bf,bf,bf,bf,bf,bf,bf,bf,bf,bf,bf,bf,bf,bf,bf,bf,bf,bf,bf,bf,bf,bf,bf] (any_of HT_.out (by kernel_rfl)) ?_ ?_ ?_
              rotate_left
              ·intro w';go_simp;with_reducible rfl
              rotate_left
              ·simp only [Act.put,q_ia3,q_cz3,q_cs3,i64_w,i32_w];rfl
              refine pQ (i:=2) (N:=some 43) (v:=?_) (a':=?_) #[bT,bT,bT,bf,bf,bf,bf,bf,bf,bf,bf,bf,bf,bf,bf,bf,bf,bf,bf,bf,bf,bf,bf,bf,bf,bf,bf,bf,bf,bf,bf,bf,bf,bf,bf,bf,bf,bf,bf,bf,bf,bf,bf,bf,bf,bf] (any_of HT_.out (by kernel_rfl)) ?_ ?_ ?_
              rotate_left
              ·intro w';go_simp;with_reducible rfl
              rotate_left
              ·simp only [Act.put,q_ia3,q_cz3,q_cs3,i64_w,i32_w];rfl
              refine pQ (i:=3) (N:=some 44) (v:=?_) (a':=?_) #[bT,bT,bT,bT,bf,bf,bf,bf,bf,bf,bf,bf,bf,bf,bf,bf,bf,bf,bf,bf,bf,bf,bf,bf,bf,bf,bf,bf,bf,bf,bf,bf,bf,bf,bf,bf,bf,bf,bf,bf,bf,bf,bf,bf,bf,bf] (any_of HT_.out (by kernel_rfl)) ?_ ?_ ?_
              rotate_left
              ·intro w';go_simp;with_reducible rfl
              rotate_left
              ·simp only [Act.put,q_ia3,q_cz3,q_cs3,i64_w,i32_w];rfl
              refine pQ (i:=4) (N:=some 45) (v:=?_) (a':=?_) #[bT,bT,bT,bT,bT,bf,bf,bf,bf,bf,bf,bf,bf,bf,bf,bf,bf,bf,bf,bf,bf,bf,bf,bf,bf,bf,bf,bf,bf,bf,bf,bf,bf,bf,bf,bf,bf,bf,bf,bf,bf,bf,bf,bf,bf,bf] (any_of HT_.out (by kernel_rfl)) ?_ ?_ ?_
              rotate_left
              ·intro w';go_simp;with_reducible rfl
              rotate_left
              ·simp only [Act.put,q_ia3,q_cz3,q_cs3,i64_w,i32_w];rfl
              refine pQ (i:=6) (N:=some 47) (v:=?_) (a':=?_) #[bT,bT,bT,bT,bT,bf,bT,bf,bf,bf,bf,bf,bf,bf,bf,bf,bf,bf,bf,bf,bf,bf,bf,bf,bf,bf,bf,bf,bf,bf,bf,bf,bf,bf,bf,bf,bf,bf,bf,bf,bf,bf,bf,bf,bf,bf] (any_of HT_.out (by kernel_rfl)) ?_ ?_ ?_
              rotate_left
              ·intro w';go_simp;with_reducible rfl
              rotate_left
              ·simp only [Act.put,q_ia3,q_cz3,q_cs3,i64_w,i32_w];rfl
              refine pQ (i:=7) (N:=some 48) (v:=?_) (a':=?_) #[bT,bT,bT,bT,bT,bf,bT,bT,bf,bf,bf,bf,bf,bf,bf,bf,bf,bf,bf,bf,bf,bf,bf,bf,bf,bf,bf,bf,bf,bf,bf,bf,bf,bf,bf,bf,bf,bf,bf,bf,bf,bf,bf,bf,bf,bf] (any_of HT_.out (by kernel_rfl)) ?_ ?_ ?_
              rotate_left
              ·intro w';go_simp;with_reducible rfl
              rotate_left
              ·simp only [Act.put,q_ia3,q_cz3,q_cs3,i64_w,i32_w];rfl
              refine one_ (i:=5) (N:=some 46) #[bT,bT,bT,bT,bT,bT,bT,bT,bf,bf,bf,bf,bf,bf,bf,bf,bf,bf,bf,bf,bf,bf,bf,bf,bf,bf,bf,bf,bf,bf,bf,bf,bf,bf,bf,bf,bf,bf,bf,bf,bf,bf,bf,bf,bf,bf] rfl rfl (one_of HT_.out (by kernel_rfl)) (by decide) (fun K hK => ?_)
              refine goes_ Tryd.func21 (by kernel_rfl) rfl #[.string t186,.string t187] (by rfl) rfl rfl (by (try simp only [List.map_toArray,List.map_cons,List.map_nil]);first|done|rfl|(simp only [List.length_drop,List.length_take];rfl)) ?_
              with_reducible refine (impl_Less.calls kj16 t186 t187 t198 _ A25.out).mono ?_
              rintro e w69 ⟨rfl,hb⟩
              have HS0_:=(hb.cell (World.block_lt_of_cell? _ _ (hHeld.1))).trans (hHeld.1)
              have HS1_:=(hb.cell (World.block_lt_of_cell? _ _ (hHeld.2))).trans (hHeld.2)
              refine ⟨_,rfl,?_⟩
              have n0_:=aM (rH HO_5.out hb)
              have n1_:=aM (lQ HB.out hb)
              clear HO_5
              clear HB
              have HO_5:=n0_
              have HB:=n1_
              clear n0_ n1_
              (try clear hb)
              (try clear hb2)
              (try clear hk)
              (try clear hi)
              refine hK.out _ _ ⟨HS0_,HS1_⟩ (fun hHeld => ?_)
              clear hK K
              refine norm_ (a':=?_) ?_ ?_
              rotate_left
              ·show Act.put _ (some 46) _ = _
               simp only [Act.put,q_ia3,q_cz3,q_cs3,i64_w,i32_w]
               rfl
              refine one_ (i:=8) (N:=some 49) #[bT,bT,bT,bT,bT,bT,bT,bT,bT,bf,bf,bf,bf,bf,bf,bf,bf,bf,bf,bf,bf,bf,bf,bf,bf,bf,bf,bf,bf,bf,bf,bf,bf,bf,bf,bf,bf,bf,bf,bf,bf,bf,bf,bf,bf,bf] rfl rfl (one_of HT_.out (by kernel_rfl)) (by decide) (fun K hK => ?_)
              refine goes_ Tryd.func20 (by kernel_rfl) rfl #[.string t186,.string t187] (by rfl) rfl rfl (by (try simp only [List.map_toArray,List.map_cons,List.map_nil]);first|done|rfl|(simp only [List.length_drop,List.length_take];rfl)) ?_
              with_reducible refine (spec_Less.calls kj16 t186 t187 t199 _ A26.out).mono ?_
              rintro e w' ⟨rfl,⟨nd,rfl⟩⟩
              refine ⟨_,rfl,?_⟩
              refine hK.out _ _ ⟨hHeld.1,hHeld.2⟩ (fun hHeld => ?_)
              clear hK K
              refine norm_ (a':=?_) ?_ ?_
              rotate_left
              ·show Act.put _ (some 49) _ = _
               simp only [Act.put,q_ia3,q_cz3,q_cs3,i64_w,i32_w]
               rfl
              refine pQ (i:=9) (N:=some 50) (v:=?_) (a':=?_) #[bT,bT,bT,bT,bT,bT,bT,bT,bT,bT,bf,bf,bf,bf,bf,bf,bf,bf,bf,bf,bf,bf,bf,bf,bf,bf,bf,bf,bf,bf,bf,bf,bf,bf,bf,bf,bf,bf,bf,bf,bf,bf,bf,bf,bf,bf] (any_of HT_.out (by kernel_rfl)) ?_ ?_ ?_
              rotate_left
              ·intro w';go_simp;with_reducible rfl
              rotate_left
              ·simp only [Act.put,q_ia3,q_cz3,q_cs3,i64_w,i32_w];rfl
              refine pQ (i:=10) (N:=some 51) (v:=?_) (a':=?_) #[bT,bT,bT,bT,bT,bT,bT,bT,bT,bT,bT,bf,bf,bf,bf,bf,bf,bf,bf,bf,bf,bf,bf,bf,bf,bf,bf,bf,bf,bf,bf,bf,bf,bf,bf,bf,bf,bf,bf,bf,bf,bf,bf,bf,bf,bf] (any_of HT_.out (by kernel_rfl)) ?_ ?_ ?_
              rotate_left
              ·intro w';go_simp;with_reducible rfl
              rotate_left
              ·simp only [Act.put,q_ia3,q_cz3,q_cs3,i64_w,i32_w];rfl
              refine pQ (i:=11) (N:=some 52) (v:=?_) (a':=?_) #[bT,bT,bT,bT,bT,bT,bT,bT,bT,bT,bT,bT,bf,bf,bf,bf,bf,bf,bf,bf,bf,bf,bf,bf,bf,bf,bf,bf,bf,bf,bf,bf,bf,bf,bf,bf,bf,bf,bf,bf,bf,bf,bf,bf,bf,bf] (any_of HT_.out (by kernel_rfl)) ?_ ?_ ?_
              rotate_left
              ·intro w';go_simp;with_reducible rfl
              rotate_left
              ·simp only [Act.put,q_ia3,q_cz3,q_cs3,i64_w,i32_w];rfl
              refine pQ (i:=12) (N:=some 53) (v:=?_) (a':=?_) #[bT,bT,bT,bT,bT,bT,bT,bT,bT,bT,bT,bT,bT,bf,bf,bf,bf,bf,bf,bf,bf,bf,bf,bf,bf,bf,bf,bf,bf,bf,bf,bf,bf,bf,bf,bf,bf,bf,bf,bf,bf,bf,bf,bf,bf,bf] (any_of HT_.out (by kernel_rfl)) ?_ ?_ ?_
              rotate_left
              ·intro w';go_simp;with_reducible rfl
              rotate_left
              ·simp only [Act.put,q_ia3,q_cz3,q_cs3,i64_w,i32_w];rfl
              refine pQ (i:=13) (N:=some 54) (v:=?_) (a':=?_) #[bT,bT,bT,bT,bT,bT,bT,bT,bT,bT,bT,bT,bT,bT,bf,bf,bf,bf,bf,bf,bf,bf,bf,bf,bf,bf,bf,bf,bf,bf,bf,bf,bf,bf,bf,bf,bf,bf,bf,bf,bf,bf,bf,bf,bf,bf] (any_of HT_.out (by kernel_rfl)) ?_ ?_ ?_
              rotate_left
              ·intro w';go_simp;with_reducible rfl
              rotate_left
              ·simp only [Act.put,q_ia3,q_cz3,q_cs3,i64_w,i32_w];rfl
              refine pQ (i:=15) (N:=some 56) (v:=?_) (a':=?_) #[bT,bT,bT,bT,bT,bT,bT,bT,bT,bT,bT,bT,bT,bT,bf,bT,bf,bf,bf,bf,bf,bf,bf,bf,bf,bf,bf,bf,bf,bf,bf,bf,bf,bf,bf,bf,bf,bf,bf,bf,bf,bf,bf,bf,bf,bf] (any_of HT_.out (by kernel_rfl)) ?_ ?_ ?_
              rotate_left
              ·intro w';go_simp;with_reducible rfl
              rotate_left
              ·simp only [Act.put,q_ia3,q_cz3,q_cs3,i64_w,i32_w];rfl
              refine pQ (i:=16) (N:=some 57) (v:=?_) (a':=?_) #[bT,bT,bT,bT,bT,bT,bT,bT,bT,bT,bT,bT,bT,bT,bf,bT,bT,bf,bf,bf,bf,bf,bf,bf,bf,bf,bf,bf,bf,bf,bf,bf,bf,bf,bf,bf,bf,bf,bf,bf,bf,bf,bf,bf,bf,bf] (any_of HT_.out (by kernel_rfl)) ?_ ?_ ?_
              rotate_left
              ·intro w';go_simp;with_reducible rfl
              rotate_left
              ·simp only [Act.put,q_ia3,q_cz3,q_cs3,i64_w,i32_w];rfl
              refine one_ (i:=14) (N:=some 55) #[bT,bT,bT,bT,bT,bT,bT,bT,bT,bT,bT,bT,bT,bT,bT,bT,bT,bf,bf,bf,bf,bf,bf,bf,bf,bf,bf,bf,bf,bf,bf,bf,bf,bf,bf,bf,bf,bf,bf,bf,bf,bf,bf,bf,bf,bf] rfl rfl (one_of HT_.out (by kernel_rfl)) (by decide) (fun K hK => ?_)
              refine goes_ Tryd.func23 (by kernel_rfl) rfl #[.string t186,.string t187] (by rfl) rfl rfl (by (try simp only [List.map_toArray,List.map_cons,List.map_nil]);first|done|rfl|(simp only [List.length_drop,List.length_take];rfl)) ?_
              with_reducible refine (impl_Same.calls kj16 t186 t187 t200 _ A28.out).mono ?_
              rintro e w70 ⟨rfl,hb⟩
              have HS0_:=(hb.cell (World.block_lt_of_cell? _ _ (hHeld.1))).trans (hHeld.1)
              have HS1_:=(hb.cell (World.block_lt_of_cell? _ _ (hHeld.2))).trans (hHeld.2)
              refine ⟨_,rfl,?_⟩
              have n0_:=aM (rH HO_5.out hb)
              have n1_:=aM (lQ HB.out hb)
              clear HO_5
              clear HB
              have HO_5:=n0_
              have HB:=n1_
              clear n0_ n1_
              (try clear hb)
              (try clear hb2)
              (try clear hk)
              (try clear hi)
              refine hK.out _ _ ⟨HS0_,HS1_⟩ (fun hHeld => ?_)
              clear hK K
              refine norm_ (a':=?_) ?_ ?_
              rotate_left
              ·show Act.put _ (some 55) _ = _
               simp only [Act.put,q_ia3,q_cz3,q_cs3,i64_w,i32_w]
               rfl
              refine one_ (i:=17) (N:=some 58) #[bT,bT,bT,bT,bT,bT,bT,bT,bT,bT,bT,bT,bT,bT,bT,bT,bT,bT,bf,bf,bf,bf,bf,bf,bf,bf,bf,bf,bf,bf,bf,bf,bf,bf,bf,bf,bf,bf,bf,bf,bf,bf,bf,bf,bf,bf] rfl rfl (one_of HT_.out (by kernel_rfl)) (by decide) (fun K hK => ?_)
              refine goes_ Tryd.func22 (by kernel_rfl) rfl #[.string t186,.string t187] (by rfl) rfl rfl (by (try simp only [List.map_toArray,List.map_cons,List.map_nil]);first|done|rfl|(simp only [List.length_drop,List.length_take];rfl)) ?_
              with_reducible refine (spec_Same.calls kj16 t186 t187 t201 _ A29.out).mono ?_
              rintro e w' ⟨rfl,⟨nd,rfl⟩⟩
              refine ⟨_,rfl,?_⟩
              refine hK.out _ _ ⟨hHeld.1,hHeld.2⟩ (fun hHeld => ?_)
              clear hK K
              refine norm_ (a':=?_) ?_ ?_
              rotate_left
              ·show Act.put _ (some 58) _ = _
               simp only [Act.put,q_ia3,q_cz3,q_cs3,i64_w,i32_w]
               rfl
              refine pQ (i:=18) (N:=some 59) (v:=?_) (a':=?_) #[bT,bT,bT,bT,bT,bT,bT,bT,bT,bT,bT,bT,bT,bT,bT,bT,bT,bT,bT,bf,bf,bf,bf,bf,bf,bf,bf,bf,bf,bf,bf,bf,bf,bf,bf,bf,bf,bf,bf,bf,bf,bf,bf,bf,bf,bf] (any_of HT_.out (by kernel_rfl)) ?_ ?_ ?_
              rotate_left
              ·intro w';go_simp;with_reducible rfl
              rotate_left
              ·simp only [Act.put,q_ia3,q_cz3,q_cs3,i64_w,i32_w];rfl
              refine pQ (i:=19) (N:=some 60) (v:=?_) (a':=?_) #[bT,bT,bT,bT,bT,bT,bT,bT,bT,bT,bT,bT,bT,bT,bT,bT,bT,bT,bT,bT,bf,bf,bf,bf,bf,bf,bf,bf,bf,bf,bf,bf,bf,bf,bf,bf,bf,bf,bf,bf,bf,bf,bf,bf,bf,bf] (any_of HT_.out (by kernel_rfl)) ?_ ?_ ?_
              rotate_left
              ·intro w';go_simp;with_reducible rfl
              rotate_left
              ·simp only [Act.put,q_ia3,q_cz3,q_cs3,i64_w,i32_w];rfl
              refine pQ (i:=20) (N:=some 61) (v:=?_) (a':=?_) #[bT,bT,bT,bT,bT,bT,bT,bT,bT,bT,bT,bT,bT,bT,bT,bT,bT,bT,bT,bT,bT,bf,bf,bf,bf,bf,bf,bf,bf,bf,bf,bf,bf,bf,bf,bf,bf,bf,bf,bf,bf,bf,bf,bf,bf,bf] (any_of HT_.out (by kernel_rfl)) ?_ ?_ ?_
              rotate_left
              ·intro w';go_simp;with_reducible rfl
              rotate_left
              ·simp only [Act.put,q_ia3,q_cz3,q_cs3,i64_w,i32_w];rfl
              refine pQ (i:=21) (N:=some 62) (v:=?_) (a':=?_) #[bT,bT,bT,bT,bT,bT,bT,bT,bT,bT,bT,bT,bT,bT,bT,bT,bT,bT,bT,bT,bT,bT,bf,bf,bf,bf,bf,bf,bf,bf,bf,bf,bf,bf,bf,bf,bf,bf,bf,bf,bf,bf,bf,bf,bf,bf] (any_of HT_.out (by kernel_rfl)) ?_ ?_ ?_
              rotate_left
              ·intro w';go_simp;with_reducible rfl
              rotate_left
              ·simp only [Act.put,q_ia3,q_cz3,q_cs3,i64_w,i32_w];rfl
              refine pQ (i:=22) (N:=some 63) (v:=?_) (a':=?_) #[bT,bT,bT,bT,bT,bT,bT,bT,bT,bT,bT,bT,bT,bT,bT,bT,bT,bT,bT,bT,bT,bT,bT,bf,bf,bf,bf,bf,bf,bf,bf,bf,bf,bf,bf,bf,bf,bf,bf,bf,bf,bf,bf,bf,bf,bf] (any_of HT_.out (by kernel_rfl)) ?_ ?_ ?_
              rotate_left
              ·intro w';go_simp;with_reducible rfl
              rotate_left
              ·simp only [Act.put,q_ia3,q_cz3,q_cs3,i64_w,i32_w];rfl
              refine pQ (i:=24) (N:=some 65) (v:=?_) (a':=?_) #[bT,bT,bT,bT,bT,bT,bT,bT,bT,bT,bT,bT,bT,bT,bT,bT,bT,bT,bT,bT,bT,bT,bT,bf,bT,bf,bf,bf,bf,bf,bf,bf,bf,bf,bf,bf,bf,bf,bf,bf,bf,bf,bf,bf,bf,bf] (any_of HT_.out (by kernel_rfl)) ?_ ?_ ?_
              rotate_left
              ·intro w';go_simp;with_reducible rfl
              rotate_left
              ·simp only [Act.put,q_ia3,q_cz3,q_cs3,i64_w,i32_w];rfl
              refine pQ (i:=25) (N:=some 66) (v:=?_) (a':=?_) #[bT,bT,bT,bT,bT,bT,bT,bT,bT,bT,bT,bT,bT,bT,bT,bT,bT,bT,bT,bT,bT,bT,bT,bf,bT,bT,bf,bf,bf,bf,bf,bf,bf,bf,bf,bf,bf,bf,bf,bf,bf,bf,bf,bf,bf,bf] (any_of HT_.out (by kernel_rfl)) ?_ ?_ ?_
              rotate_left
              ·intro w';go_simp;with_reducible rfl
              rotate_left
              ·simp only [Act.put,q_ia3,q_cz3,q_cs3,i64_w,i32_w];rfl
              refine pQ (i:=27) (N:=some 68) (v:=?_) (a':=?_) #[bT,bT,bT,bT,bT,bT,bT,bT,bT,bT,bT,bT,bT,bT,bT,bT,bT,bT,bT,bT,bT,bT,bT,bf,bT,bT,bf,bT,bf,bf,bf,bf,bf,bf,bf,bf,bf,bf,bf,bf,bf,bf,bf,bf,bf,bf] (any_of HT_.out (by kernel_rfl)) ?_ ?_ ?_
              rotate_left
              ·intro w';go_simp;with_reducible rfl
              rotate_left
              ·simp only [Act.put,q_ia3,q_cz3,q_cs3,i64_w,i32_w];rfl
              refine pQ (i:=28) (N:=some 69) (v:=?_) (a':=?_) #[bT,bT,bT,bT,bT,bT,bT,bT,bT,bT,bT,bT,bT,bT,bT,bT,bT,bT,bT,bT,bT,bT,bT,bf,bT,bT,bf,bT,bT,bf,bf,bf,bf,bf,bf,bf,bf,bf,bf,bf,bf,bf,bf,bf,bf,bf] (any_of HT_.out (by kernel_rfl)) ?_ ?_ ?_
              rotate_left
              ·intro w';go_simp;with_reducible rfl
              rotate_left
              ·simp only [Act.put,q_ia3,q_cz3,q_cs3,i64_w,i32_w];rfl
              refine take_ (i:=26) (N:=some 67) (v:=?_) (a':=?_) #[bT,bT,bT,bT,bT,bT,bT,bT,bT,bT,bT,bT,bT,bT,bT,bT,bT,bT,bT,bT,bT,bT,bT,bf,bT,bT,bT,bT,bT,bf,bf,bf,bf,bf,bf,bf,bf,bf,bf,bf,bf,bf,bf,bf,bf,bf] rfl rfl (take_ofW HT_.out HW_.out (by kernel_rfl)) (fun _ _ _ h => h) (Or.inl ⟨by rfl,?_⟩) hHeld ?_ ?_
              rotate_left
              ·rintro w' ⟨s0,s1⟩
               go_simp
               with_reducible rfl
              rotate_left
              ·simp only [Act.put,q_ia3,q_cz3,q_cs3,i64_w,i32_w];rfl
              refine take_ (i:=29) (N:=some 70) (v:=?_) (a':=?_) #[bT,bT,bT,bT,bT,bT,bT,bT,bT,bT,bT,bT,bT,bT,bT,bT,bT,bT,bT,bT,bT,bT,bT,bf,bT,bT,bT,bT,bT,bT,bf,bf,bf,bf,bf,bf,bf,bf,bf,bf,bf,bf,bf,bf,bf,bf] rfl rfl (take_ofW HT_.out HW_.out (by kernel_rfl)) (fun _ _ _ h => h) (Or.inl ⟨by rfl,?_⟩) hHeld ?_ ?_
              rotate_left
              ·rintro w' ⟨s0,s1⟩
               go_simp
               with_reducible rfl
              rotate_left
              ·simp only [Act.put,q_ia3,q_cz3,q_cs3,i64_w,i32_w];rfl
              refine pQ (i:=30) (N:=some 71) (v:=?_) (a':=?_) #[bT,bT,bT,bT,bT,bT,bT,bT,bT,bT,bT,bT,bT,bT,bT,bT,bT,bT,bT,bT,bT,bT,bT,bf,bT,bT,bT,bT,bT,bT,bT,bf,bf,bf,bf,bf,bf,bf,bf,bf,bf,bf,bf,bf,bf,bf] (any_of HT_.out (by kernel_rfl)) ?_ ?_ ?_
              rotate_left
              ·intro w';go_simp;with_reducible rfl
              rotate_left
              ·simp only [Act.put,q_ia3,q_cz3,q_cs3,i64_w,i32_w];rfl
              refine one_ (i:=23) (N:=some 64) #[bT,bT,bT,bT,bT,bT,bT,bT,bT,bT,bT,bT,bT,bT,bT,bT,bT,bT,bT,bT,bT,bT,bT,bT,bT,bT,bT,bT,bT,bT,bT,bf,bf,bf,bf,bf,bf,bf,bf,bf,bf,bf,bf,bf,bf,bf] rfl rfl (one_of HT_.out (by kernel_rfl)) (by decide) (fun K hK => ?_)
              refine goes_ Tryd.func21 (by kernel_rfl) rfl #[.string t195,.string t197] (by rfl) rfl rfl (by (try simp only [List.map_toArray,List.map_cons,List.map_nil]);first|done|rfl|(simp only [List.length_drop,List.length_take];rfl)) ?_
              with_reducible refine (impl_Less.calls kj16 t195 t197 t202 _ A31.out).mono ?_
              rintro e w71 ⟨rfl,hb⟩
              have HS0_:=(hb.cell (World.block_lt_of_cell? _ _ (hHeld.1))).trans (hHeld.1)
              have HS1_:=(hb.cell (World.block_lt_of_cell? _ _ (hHeld.2))).trans (hHeld.2)
              refine ⟨_,rfl,?_⟩
              have n0_:=aM (rH HO_5.out hb)
              have n1_:=aM (lQ HB.out hb)
              clear HO_5
              clear HB
              have HO_5:=n0_
              have HB:=n1_
              clear n0_ n1_
              (try clear hb)
              (try clear hb2)
              (try clear hk)
              (try clear hi)
              refine hK.out _ _ ⟨HS0_,HS1_⟩ (fun hHeld => ?_)
              clear hK K
              refine norm_ (a':=?_) ?_ ?_
              rotate_left
              ·show Act.put _ (some 64) _ = _
               simp only [Act.put,q_ia3,q_cz3,q_cs3,i64_w,i32_w]
               rfl
              refine pQ (i:=31) (N:=some 72) (v:=?_) (a':=?_) #[bT,bT,bT,bT,bT,bT,bT,bT,bT,bT,bT,bT,bT,bT,bT,bT,bT,bT,bT,bT,bT,bT,bT,bT,bT,bT,bT,bT,bT,bT,bT,bT,bf,bf,bf,bf,bf,bf,bf,bf,bf,bf,bf,bf,bf,bf] (any_of HT_.out (by kernel_rfl)) ?_ ?_ ?_
              rotate_left
              ·intro w';go_simp;with_reducible rfl
              rotate_left
              ·simp only [Act.put,q_ia3,q_cz3,q_cs3,i64_w,i32_w];rfl
              refine pQ (i:=32) (N:=some 73) (v:=?_) (a':=?_) #[bT,bT,bT,bT,bT,bT,bT,bT,bT,bT,bT,bT,bT,bT,bT,bT,bT,bT,bT,bT,bT,bT,bT,bT,bT,bT,bT,bT,bT,bT,bT,bT,bT,bf,bf,bf,bf,bf,bf,bf,bf,bf,bf,bf,bf,bf] (any_of HT_.out (by kernel_rfl)) ?_ ?_ ?_
              rotate_left
              ·intro w';go_simp;with_reducible rfl
              rotate_left
              ·simp only [Act.put,q_ia3,q_cz3,q_cs3,i64_w,i32_w];rfl
              refine pQ (i:=33) (N:=some 74) (v:=?_) (a':=?_) #[bT,bT,bT,bT,bT,bT,bT,bT,bT,bT,bT,bT,bT,bT,bT,bT,bT,bT,bT,bT,bT,bT,bT,bT,bT,bT,bT,bT,bT,bT,bT,bT,bT,bT,bf,bf,bf,bf,bf,bf,bf,bf,bf,bf,bf,bf] (any_of HT_.out (by kernel_rfl)) ?_ ?_ ?_
              rotate_left
              ·intro w';go_simp;with_reducible rfl
              rotate_left
              ·simp only [Act.put,q_ia3,q_cz3,q_cs3,i64_w,i32_w];rfl
              refine pure_ (i:=34) (N:=some 75) (v:=undef) (a':=?_) #[bT,bT,bT,bT,bT,bT,bT,bT,bT,bT,bT,bT,bT,bT,bT,bT,bT,bT,bT,bT,bT,bT,bT,bT,bT,bT,bT,bT,bT,bT,bT,bT,bT,bT,bT,bf,bf,bf,bf,bf,bf,bf,bf,bf,bf,bf] rfl rfl (any_of HT_.out (by kernel_rfl)) (fun _ _ _ h => h) (Or.inr ⟨by rfl,rfl⟩) ?_ ?_
              rotate_left
              ·simp only [Act.put,q_ia3,q_cz3,q_cs3,i64_w,i32_w];rfl
              refine pQ (i:=35) (N:=some 76) (v:=?_) (a':=?_) #[bT,bT,bT,bT,bT,bT,bT,bT,bT,bT,bT,bT,bT,bT,bT,bT,bT,bT,bT,bT,bT,bT,bT,bT,bT,bT,bT,bT,bT,bT,bT,bT,bT,bT,bT,bT,bf,bf,bf,bf,bf,bf,bf,bf,bf,bf] (any_of HT_.out (by kernel_rfl)) ?_ ?_ ?_
              rotate_left
              ·intro w';go_simp;with_reducible rfl
              rotate_left
              ·simp only [Act.put,q_ia3,q_cz3,q_cs3,i64_w,i32_w];rfl
              refine pQ (i:=36) (N:=some 77) (v:=?_) (a':=?_) #[bT,bT,bT,bT,bT,bT,bT,bT,bT,bT,bT,bT,bT,bT,bT,bT,bT,bT,bT,bT,bT,bT,bT,bT,bT,bT,bT,bT,bT,bT,bT,bT,bT,bT,bT,bT,bT,bf,bf,bf,bf,bf,bf,bf,bf,bf] (any_of HT_.out (by kernel_rfl)) ?_ ?_ ?_
              rotate_left
              ·intro w';go_simp;with_reducible rfl
              rotate_left
              ·simp only [Act.put,q_ia3,q_cz3,q_cs3,i64_w,i32_w];rfl
              refine pure_ (i:=37) (N:=some 78) (v:=undef) (a':=?_) #[bT,bT,bT,bT,bT,bT,bT,bT,bT,bT,bT,bT,bT,bT,bT,bT,bT,bT,bT,bT,bT,bT,bT,bT,bT,bT,bT,bT,bT,bT,bT,bT,bT,bT,bT,bT,bT,bT,bf,bf,bf,bf,bf,bf,bf,bf] rfl rfl (any_of HT_.out (by kernel_rfl)) (fun _ _ _ h => h) (Or.inr ⟨by rfl,rfl⟩) ?_ ?_
              rotate_left
              ·simp only [Act.put,q_ia3,q_cz3,q_cs3,i64_w,i32_w];rfl
              refine pure_ (i:=38) (N:=some 79) (v:=undef) (a':=?_) #[bT,bT,bT,bT,bT,bT,bT,bT,bT,bT,bT,bT,bT,bT,bT,bT,bT,bT,bT,bT,bT,bT,bT,bT,bT,bT,bT,bT,bT,bT,bT,bT,bT,bT,bT,bT,bT,bT,bT,bf,bf,bf,bf,bf,bf,bf] rfl rfl (any_of HT_.out (by kernel_rfl)) (fun _ _ _ h => h) (Or.inr ⟨by rfl,rfl⟩) ?_ ?_
              rotate_left
              ·simp only [Act.put,q_ia3,q_cz3,q_cs3,i64_w,i32_w];rfl
              refine pQ (i:=39) (N:=some 80) (v:=?_) (a':=?_) #[bT,bT,bT,bT,bT,bT,bT,bT,bT,bT,bT,bT,bT,bT,bT,bT,bT,bT,bT,bT,bT,bT,bT,bT,bT,bT,bT,bT,bT,bT,bT,bT,bT,bT,bT,bT,bT,bT,bT,bT,bf,bf,bf,bf,bf,bf] (any_of HT_.out (by kernel_rfl)) ?_ ?_ ?_
              rotate_left
              ·intro w';go_simp;with_reducible rfl
              rotate_left
              ·simp only [Act.put,q_ia3,q_cz3,q_cs3,i64_w,i32_w];rfl
              refine pQ (i:=40) (N:=some 81) (v:=?_) (a':=?_) #[bT,bT,bT,bT,bT,bT,bT,bT,bT,bT,bT,bT,bT,bT,bT,bT,bT,bT,bT,bT,bT,bT,bT,bT,bT,bT,bT,bT,bT,bT,bT,bT,bT,bT,bT,bT,bT,bT,bT,bT,bT,bf,bf,bf,bf,bf] (any_of HT_.out (by kernel_rfl)) ?_ ?_ ?_
              rotate_left
              ·intro w';go_simp;with_reducible rfl
              rotate_left
              ·simp only [Act.put,q_ia3,q_cz3,q_cs3,i64_w,i32_w];rfl
              refine pure_ (i:=41) (N:=some 82) (v:=undef) (a':=?_) #[bT,bT,bT,bT,bT,bT,bT,bT,bT,bT,bT,bT,bT,bT,bT,bT,bT,bT,bT,bT,bT,bT,bT,bT,bT,bT,bT,bT,bT,bT,bT,bT,bT,bT,bT,bT,bT,bT,bT,bT,bT,bT,bf,bf,bf,bf] rfl rfl (any_of HT_.out (by kernel_rfl)) (fun _ _ _ h => h) (Or.inr ⟨by rfl,rfl⟩) ?_ ?_
              rotate_left
              ·simp only [Act.put,q_ia3,q_cz3,q_cs3,i64_w,i32_w];rfl
              refine pure_ (i:=42) (N:=some 83) (v:=undef) (a':=?_) #[bT,bT,bT,bT,bT,bT,bT,bT,bT,bT,bT,bT,bT,bT,bT,bT,bT,bT,bT,bT,bT,bT,bT,bT,bT,bT,bT,bT,bT,bT,bT,bT,bT,bT,bT,bT,bT,bT,bT,bT,bT,bT,bT,bf,bf,bf] rfl rfl (any_of HT_.out (by kernel_rfl)) (fun _ _ _ h => h) (Or.inr ⟨by rfl,rfl⟩) ?_ ?_
              rotate_left
              ·simp only [Act.put,q_ia3,q_cz3,q_cs3,i64_w,i32_w];rfl
              refine pure_ (i:=43) (N:=some 84) (v:=undef) (a':=?_) #[bT,bT,bT,bT,bT,bT,bT,bT,bT,bT,bT,bT,bT,bT,bT,bT,bT,bT,bT,bT,bT,bT,bT,bT,bT,bT,bT,bT,bT,bT,bT,bT,bT,bT,bT,bT,bT,bT,bT,bT,bT,bT,bT,bT,bf,bf] rfl rfl (any_of HT_.out (by kernel_rfl)) (fun _ _ _ h => h) (Or.inr ⟨by rfl,rfl⟩) ?_ ?_
              rotate_left
              ·simp only [Act.put,q_ia3,q_cz3,q_cs3,i64_w,i32_w];rfl
              refine pQ (i:=44) (N:=some 85) (v:=?_) (a':=?_) #[bT,bT,bT,bT,bT,bT,bT,bT,bT,bT,bT,bT,bT,bT,bT,bT,bT,bT,bT,bT,bT,bT,bT,bT,bT,bT,bT,bT,bT,bT,bT,bT,bT,bT,bT,bT,bT,bT,bT,bT,bT,bT,bT,bT,bT,bf] (any_of HT_.out (by kernel_rfl)) ?_ ?_ ?_
              rotate_left
              ·intro w';go_simp;with_reducible rfl
              rotate_left
              ·simp only [Act.put,q_ia3,q_cz3,q_cs3,i64_w,i32_w];rfl
              refine pQ (i:=45) (N:=some 2) (v:=?_) (a':=?_) #[bT,bT,bT,bT,bT,bT,bT,bT,bT,bT,bT,bT,bT,bT,bT,bT,bT,bT,bT,bT,bT,bT,bT,bT,bT,bT,bT,bT,bT,bT,bT,bT,bT,bT,bT,bT,bT,bT,bT,bT,bT,bT,bT,bT,bT,bT] (any_of HT_.out (by kernel_rfl)) ?_ ?_ ?_
              rotate_left
              ·intro w';go_simp;with_reducible rfl
              rotate_left
              ·simp only [Act.put,q_ia3,q_cz3,q_cs3,i64_w,i32_w];rfl
              refine done_ (done_of HT_.out (by kernel_rfl)) ?_
              try go_wp2
              go_ret
              exact ⟨by first|rfl|(simp [errW_none,errW_some] <;> rfl)|(simp [*,errW_none,errW_some] <;> rfl),by repeat (first|(with_reducible first|exact HB.out|apply lA|apply lN|apply lD)|exact HB.out)⟩
            ·rw [if_neg c30] at H
             have c30b0 : (t200 == t201) = false:=by simpa using c30
             (try (have c30b1 : decide (t200 = t201) = false:=by simpa using c30))
             (try (have c30b2 : (t200 == t201) = false:=by simpa using c30))
             (try (have c30b3 : ¬ (t200 = t201):=by simpa using c30))
             clear c30
             obtain rfl:=Option.some.inj H
             obtain ⟨Ao72,co72,eo72⟩:=Kd.R_slice HO_5.out
             subst eo72
             have p194 : 0 ≤ (0 : Int):=(by omega)
             have q194 : 0 < (t188.length : Int):=of_decide_eq_true (by first|(with_reducible assumption)|assumption)
             obtain ⟨ad194,e194,hx194_0⟩:=Kd.at_int (rR HO_5.out).2.2 0 p194 q194
             cases e194
             have qi194 : (0 < t188.length) = True:=eq_true (by omega)
             (try rw [show ((0 : Int)).toNat = 0 from rfl] at hx194_0)
             (try rw [Addr.add_zero'] at hx194_0)
             replace p194:=eq_true p194
             replace q194:=eq_true q194
             try go_wp2_with (first|((with_reducible refine gate_callee (f:=14) rfl ?_);refine goesL_ (some 36) rfl rfl Tryd.func14 (by kernel_rfl) rfl #[.int .i64 (rd t188 0)] rfl (by (try simp only [List.map_toArray,List.map_cons,List.map_nil]);first|done|rfl|(simp only [List.length_drop,List.length_take];rfl)) ?_;(with_reducible refine (spec_Decimal.calls kj16 (rd t188 0) t195 _ A21.out).mono ?_);rintro e w73 ⟨rfl,hb⟩;refine ⟨_,rfl,?_⟩;have n0_:=aM (rH HO_5.out hb);have n1_:=aM (lQ HB.out hb);clear HO_5 HB;have HO_5:=n0_;have HB:=n1_;clear n0_ n1_;(try clear hb);(try clear hb2);(try clear hk);(try clear hi);have p196 : 0 ≤ (1 : Int):=(by omega);have q196 : 1 < (t188.length : Int):=of_decide_eq_true (by first|(with_reducible assumption)|assumption);obtain ⟨ad196,e196,hx196_0⟩:=Kd.at_int (rR HO_5.out).2.2 1 p196 q196;obtain rfl : ad194 = ad196:=(by injection e196);(try simp only [show (1 : Int).toNat = 1 from rfl,Nat.reduceMul,Nat.reduceEqDiff,Go.Addr.add,↓reduceIte] at hx196_0);have qi196 : (1 < t188.length) = True:=eq_true (by omega);(try rw [show ((1 : Int)).toNat = 1 from rfl] at hx196_0);replace p196:=eq_true p196;replace q196:=eq_true q196)|((with_reducible refine gate_callee (f:=14) rfl ?_);refine goesL_ (some 40) rfl rfl Tryd.func14 (by kernel_rfl) rfl #[.int .i64 (rd t188 1)] rfl (by (try simp only [List.map_toArray,List.map_cons,List.map_nil]);first|done|rfl|(simp only [List.length_drop,List.length_take];rfl)) ?_;(with_reducible refine (spec_Decimal.calls kj16 (rd t188 1) t197 _ A23.out).mono ?_);rintro e w74 ⟨rfl,hb⟩;refine ⟨_,rfl,?_⟩;have n0_:=aM (rH HO_5.out hb);have n1_:=aM (lQ HB.out hb);clear HO_5 HB;have HO_5:=n0_;have HB:=n1_;clear n0_ n1_;(try clear hb);(try clear hb2);(try clear hk);(try clear hi)))
             have n0_:=aM (rD HO_5.out)
             have n1_:=aM (lD HB.out)
             clear HO_5
             clear HB
             have HO_5:=n0_
             have HB:=n1_
             clear n0_ n1_
             refine start_ (n:=46) (S:=fun w' => True) (ds:=[]) #[bf,bf,bf,bf,bf,bf,bf,bf,bf,bf,bf,bf,bf,bf,bf,bf,bf,bf,bf,bf,bf,bf,bf,bf,bf,bf,bf,bf,bf,bf,bf,bf,bf,bf,bf,bf,bf,bf,bf,bf,bf,bf,bf,bf,bf,bf] (by kernel_rfl) rfl rfl trivial (fun hHeld => ?_);refine with_tabW laws_FnOrders.tab14 laws_FnOrders.bits14 (fun HT_ HW_ => ?_)
             generalize w74.drew = w75 at HO_5 HB hHeld ⊢
             refine pQ (i:=0) (N:=some 41) (v:=?_) (a':=?_) #[bT,bf,bf,bf,bf,bf,bf,bf,bf,bf,bf,bf,bf,bf,bf,bf,bf,bf,bf,bf,bf,bf,bf,bf,bf,bf,bf,bf,bf,bf,bf,bf,bf,bf,bf,bf,bf,bf,bf,bf,bf,bf,bf,bf,bf,bf] (any_of HT_.out (by kernel_rfl)) ?_ ?_ ?_
             rotate_left
             ·intro w';go_simp;with_reducible rfl
             rotate_left
             ·simp only [Act.put,q_ia3,q_cz3,q_cs3,i64_w,i32_w];rfl
             refine pQ (i:=1) (N:=some 42) (v:=?_) (a':=?_) #[bT,bT,bf,bf,bf,bf,bf,bf,bf,bf,bf,bf,bf,bf,bf,bf,bf,bf,bf,bf,bf,bf,bf,bf,bf,bf,bf,bf,bf,bf,bf,bf,bf,bf,bf,bf,bf,bf,bf,bf,bf,bf,bf,bf,bf,bf] (any_of HT_.out (by kernel_rfl)) ?_ ?_ ?_
             rotate_left
             ·intro w';go_simp;with_reducible rfl
             rotate_left
             ·simp only [Act.put,q_ia3,q_cz3,q_cs3,i64_w,i32_w];rfl
             refine pQ (i:=2) (N:=some 43) (v:=?_) (a':=?_) #[bT,bT,bT,bf,bf,bf,bf,bf,bf,bf,bf,bf,bf,bf,bf,bf,bf,bf,bf,bf,bf,bf,bf,bf,bf,bf,bf,bf,bf,bf,bf,bf,bf,bf,bf,bf,bf,bf,bf,bf,bf,bf,bf,bf,bf,bf] (any_of HT_.out (by kernel_rfl)) ?_ ?_ ?_
             rotate_left
             ·intro w';go_simp;with_reducible rfl
             rotate_left
             ·simp only [Act.put,q_ia3,q_cz3,q_cs3,i64_w,i32_w];rfl
             refine pQ (i:=3) (N:=some 44) (v:=?_) (a':=?_) #[bT,bT,bT,bT,bf,bf,bf,bf,bf,bf,bf,bf,bf,bf,bf,bf,bf,bf,bf,bf,bf,bf,bf,bf,bf,bf,bf,bf,bf,bf,bf,bf,bf,bf,bf,bf,bf,bf,bf,bf,bf,bf,bf,bf,bf,bf] (any_of HT_.out (by kernel_rfl)) ?_ ?_ ?_
             rotate_left
             ·intro w';go_simp;with_reducible rfl
             rotate_left
             ·simp only [Act.put,q_ia3,q_cz3,q_cs3,i64_w,i32_w];rfl
             refine pQ (i:=4) (N:=some 45) (v:=?_) (a':=?_) #[bT,bT,bT,bT,bT,bf,bf,bf,bf,bf,bf,bf,bf,bf,bf,bf,bf,bf,bf,bf,bf,bf,bf,bf,bf,bf,bf,bf,bf,bf,bf,bf,bf,bf,bf,bf,bf,bf,bf,bf,bf,bf,bf,bf,bf,bf] (any_of HT_.out (by kernel_rfl)) ?_ ?_ ?_
             rotate_left
             ·intro w';go_simp;with_reducible rfl
             rotate_left
             ·simp only [Act.put,q_ia3,q_cz3,q_cs3,i64_w,i32_w];rfl
             refine pQ (i:=6) (N:=some 47) (v:=?_) (a':=?_) #[bT,bT,bT,bT,bT,bf,bT,bf,bf,bf,bf,bf,bf,bf,bf,bf,bf,bf,bf,bf,bf,bf,bf,bf,bf,bf,bf,bf,bf,bf,bf,bf,bf,bf,bf,bf,bf,bf,bf,bf,bf,bf,bf,bf,bf,bf] (any_of HT_.out (by kernel_rfl)) ?_ ?_ ?_
             rotate_left
             ·intro w';go_simp;with_reducible rfl
             rotate_left
             ·simp only [Act.put,q_ia3,q_cz3,q_cs3,i64_w,i32_w];rfl
             refine pQ (i:=7) (N:=some 48) (v:=?_) (a':=?_) #[bT,bT,bT,bT,bT,bf,bT,bT,bf,bf,bf,bf,bf,bf,bf,bf,bf,bf,bf,bf,bf,bf,bf,bf,bf,bf,bf,bf,bf,bf,bf,bf,bf,bf,bf,bf,bf,bf,bf,bf,bf,bf,bf,bf,bf,bf] (any_of HT_.out (by kernel_rfl)) ?_ ?_ ?_
             rotate_left
             ·intro w';go_simp;with_reducible rfl
             rotate_left
             ·simp only [Act.put,q_ia3,q_cz3,q_cs3,i64_w,i32_w];rfl
             refine one_ (i:=5) (N:=some 46) #[bT,bT,bT,bT,bT,bT,bT,bT,bf,bf,bf,bf,bf,bf,bf,bf,bf,bf,bf,bf,bf,bf,bf,bf,bf,bf,bf,bf,bf,bf,bf,bf,bf,bf,bf,bf,bf,bf,bf,bf,bf,bf,bf,bf,bf,bf] rfl rfl (one_of HT_.out (by kernel_rfl)) (by decide) (fun K hK => ?_)
             refine goes_ Tryd.func21 (by kernel_rfl) rfl #[.string t186,.string t187] (by rfl) rfl rfl (by (try simp only [List.map_toArray,List.map_cons,List.map_nil]);first|done|rfl|(simp only [List.length_drop,List.length_take];rfl)) ?_
             with_reducible refine (impl_Less.calls kj16 t186 t187 t198 _ A25.out).mono ?_
             rintro e w76 ⟨rfl,hb⟩
             refine ⟨_,rfl,?_⟩
             have n0_:=aM (rH HO_5.out hb)
             have n1_:=aM (lQ HB.out hb)
             clear HO_5
             clear HB
             have HO_5:=n0_
             have HB:=n1_
             clear n0_ n1_
             (try clear hb)
             (try clear hb2)
             (try clear hk)
             (try clear hi)
             refine hK.out _ _ trivial (fun hHeld => ?_)
             clear hK K
             refine norm_ (a':=?_) ?_ ?_
             rotate_left
             ·show Act.put _ (some 46) _ = _
              simp only [Act.put,q_ia3,q_cz3,q_cs3,i64_w,i32_w]
              rfl
             refine one_ (i:=8) (N:=some 49) #[bT,bT,bT,bT,bT,bT,bT,bT,bT,bf,bf,bf,bf,bf,bf,bf,bf,bf,bf,bf,bf,bf,bf,bf,bf,bf,bf,bf,bf,bf,bf,bf,bf,bf,bf,bf,bf,bf,bf,bf,bf,bf,bf,bf,bf,bf] rfl rfl (one_of HT_.out (by kernel_rfl)) (by decide) (fun K hK => ?_)
             refine goes_ Tryd.func20 (by kernel_rfl) rfl #[.string t186,.string t187] (by rfl) rfl rfl (by (try simp only [List.map_toArray,List.map_cons,List.map_nil]);first|done|rfl|(simp only [List.length_drop,List.length_take];rfl)) ?_
             with_reducible refine (spec_Less.calls kj16 t186 t187 t199 _ A26.out).mono ?_
             rintro e w' ⟨rfl,⟨nd,rfl⟩⟩
             refine ⟨_,rfl,?_⟩
             refine hK.out _ _ trivial (fun hHeld => ?_)
             clear hK K
             refine norm_ (a':=?_) ?_ ?_
             rotate_left
             ·show Act.put _ (some 49) _ = _
              simp only [Act.put,q_ia3,q_cz3,q_cs3,i64_w,i32_w]
              rfl
             refine pQ (i:=9) (N:=some 50) (v:=?_) (a':=?_) #[bT,bT,bT,bT,bT,bT,bT,bT,bT,bT,bf,bf,bf,bf,bf,bf,bf,bf,bf,bf,bf,bf,bf,bf,bf,bf,bf,bf,bf,bf,bf,bf,bf,bf,bf,bf,bf,bf,bf,bf,bf,bf,bf,bf,bf,bf] (any_of HT_.out (by kernel_rfl)) ?_ ?_ ?_
             rotate_left
             ·intro w';go_simp;with_reducible rfl
             rotate_left
             ·simp only [Act.put,q_ia3,q_cz3,q_cs3,i64_w,i32_w];rfl
             refine pQ (i:=10) (N:=some 51) (v:=?_) (a':=?_) #[bT,bT,bT,bT,bT,bT,bT,bT,bT,bT,bT,bf,bf,bf,bf,bf,bf,bf,bf,bf,bf,bf,bf,bf,bf,bf,bf,bf,bf,bf,bf,bf,bf,bf,bf,bf,bf,bf,bf,bf,bf,bf,bf,bf,bf,bf] (any_of HT_.out (by kernel_rfl)) ?_ ?_ ?_
             rotate_left
             ·intro w';go_simp;with_reducible rfl
             rotate_left
             ·simp only [Act.put,q_ia3,q_cz3,q_cs3,i64_w,i32_w];rfl
             refine pQ (i:=11) (N:=some 52) (v:=?_) (a':=?_) #[bT,bT,bT,bT,bT,bT,bT,bT,bT,bT,bT,bT,bf,bf,bf,bf,bf,bf,bf,bf,bf,bf,bf,bf,bf,bf,bf,bf,bf,bf,bf,bf,bf,bf,bf,bf,bf,bf,bf,bf,bf,bf,bf,bf,bf,bf] (any_of HT_.out (by kernel_rfl)) ?_ ?_ ?_
             rotate_left
             ·intro w';go_simp;with_reducible rfl
             rotate_left
             ·simp only [Act.put,q_ia3,q_cz3,q_cs3,i64_w,i32_w];rfl
             refine pQ (i:=12) (N:=some 53) (v:=?_) (a':=?_) #[bT,bT,bT,bT,bT,bT,bT,bT,bT,bT,bT,bT,bT,bf,bf,bf,bf,bf,bf,bf,bf,bf,bf,bf,bf,bf,bf,bf,bf,bf,bf,bf,bf,bf,bf,bf,bf,bf,bf,bf,bf,bf,bf,bf,bf,bf] (any_of HT_.out (by kernel_rfl)) ?_ ?_ ?_
             rotate_left
             ·intro w';go_simp;with_reducible rfl
             rotate_left
             ·simp only [Act.put,q_ia3,q_cz3,q_cs3,i64_w,i32_w];rfl
             refine pQ (i:=13) (N:=some 54) (v:=?_) (a':=?_) #[bT,bT,bT,bT,bT,bT,bT,bT,bT,bT,bT,bT,bT,bT,bf,bf,bf,bf,bf,bf,bf,bf,bf,bf,bf,bf,bf,bf,bf,bf,bf,bf,bf,bf,bf,bf,bf,bf,bf,bf,bf,bf,bf,bf,bf,bf] (any_of HT_.out (by kernel_rfl)) ?_ ?_ ?_
             rotate_left
             ·intro w';go_simp;with_reducible rfl
             rotate_left
             ·simp only [Act.put,q_ia3,q_cz3,q_cs3,i64_w,i32_w];rfl
             refine pQ (i:=15) (N:=some 56) (v:=?_) (a':=?_) #[bT,bT,bT,bT,bT,bT,bT,bT,bT,bT,bT,bT,bT,bT,bf,bT,bf,bf,bf,bf,bf,bf,bf,bf,bf,bf,bf,bf,bf,bf,bf,bf,bf,bf,bf,bf,bf,bf,bf,bf,bf,bf,bf,bf,bf,bf] (any_of HT_.out (by kernel_rfl)) ?_ ?_ ?_
             rotate_left
             ·intro w';go_simp;with_reducible rfl
             rotate_left
             ·simp only [Act.put,q_ia3,q_cz3,q_cs3,i64_w,i32_w];rfl
             refine pQ (i:=16) (N:=some 57) (v:=?_) (a':=?_) #[bT,bT,bT,bT,bT,bT,bT,bT,bT,bT,bT,bT,bT,bT,bf,bT,bT,bf,bf,bf,bf,bf,bf,bf,bf,bf,bf,bf,bf,bf,bf,bf,bf,bf,bf,bf,bf,bf,bf,bf,bf,bf,bf,bf,bf,bf] (any_of HT_.out (by kernel_rfl)) ?_ ?_ ?_
             rotate_left
             ·intro w';go_simp;with_reducible rfl
             rotate_left
             ·simp only [Act.put,q_ia3,q_cz3,q_cs3,i64_w,i32_w];rfl
             refine one_ (i:=14) (N:=some 55) #[bT,bT,bT,bT,bT,bT,bT,bT,bT,bT,bT,bT,bT,bT,bT,bT,bT,bf,bf,bf,bf,bf,bf,bf,bf,bf,bf,bf,bf,bf,bf,bf,bf,bf,bf,bf,bf,bf,bf,bf,bf,bf,bf,bf,bf,bf] rfl rfl (one_of HT_.out (by kernel_rfl)) (by decide) (fun K hK => ?_)
             refine goes_ Tryd.func23 (by kernel_rfl) rfl #[.string t186,.string t187] (by rfl) rfl rfl (by (try simp only [List.map_toArray,List.map_cons,List.map_nil]);first|done|rfl|(simp only [List.length_drop,List.length_take];rfl)) ?_
             with_reducible refine (impl_Same.calls kj16 t186 t187 t200 _ A28.out).mono ?_
             rintro e w77 ⟨rfl,hb⟩
             refine ⟨_,rfl,?_⟩
             have n0_:=aM (rH HO_5.out hb)
             have n1_:=aM (lQ HB.out hb)
             clear HO_5
             clear HB
             have HO_5:=n0_
             have HB:=n1_
             clear n0_ n1_
             (try clear hb)
             (try clear hb2)
             (try clear hk)
             (try clear hi)
             refine hK.out _ _ trivial (fun hHeld => ?_)
             clear hK K
             refine norm_ (a':=?_) ?_ ?_
             rotate_left
             ·show Act.put _ (some 55) _ = _
              simp only [Act.put,q_ia3,q_cz3,q_cs3,i64_w,i32_w]
              rfl
             refine one_ (i:=17) (N:=some 58) #[bT,bT,bT,bT,bT,bT,bT,bT,bT,bT,bT,bT,bT,bT,bT,bT,bT,bT,bf,bf,bf,bf,bf,bf,bf,bf,bf,bf,bf,bf,bf,bf,bf,bf,bf,bf,bf,bf,bf,bf,bf,bf,bf,bf,bf,bf] rfl rfl (one_of HT_.out (by kernel_rfl)) (by decide) (fun K hK => ?_)
             refine goes_ Tryd.func22 (by kernel_rfl) rfl #[.string t186,.string t187] (by rfl) rfl rfl (by (try simp only [List.map_toArray,List.map_cons,List.map_nil]);first|done|rfl|(simp only [List.length_drop,List.length_take];rfl)) ?_
             with_reducible refine (spec_Same.calls kj16 t186 t187 t201 _ A29.out).mono ?_
             rintro e w' ⟨rfl,⟨nd,rfl⟩⟩
             refine ⟨_,rfl,?_⟩
             refine hK.out _ _ trivial (fun hHeld => ?_)
             clear hK K
             refine norm_ (a':=?_) ?_ ?_
             rotate_left
             ·show Act.put _ (some 58) _ = _
              simp only [Act.put,q_ia3,q_cz3,q_cs3,i64_w,i32_w]
              rfl
             refine pQ (i:=18) (N:=some 59) (v:=?_) (a':=?_) #[bT,bT,bT,bT,bT,bT,bT,bT,bT,bT,bT,bT,bT,bT,bT,bT,bT,bT,bT,bf,bf,bf,bf,bf,bf,bf,bf,bf,bf,bf,bf,bf,bf,bf,bf,bf,bf,bf,bf,bf,bf,bf,bf,bf,bf,bf] (any_of HT_.out (by kernel_rfl)) ?_ ?_ ?_
             rotate_left
             ·intro w';go_simp;with_reducible rfl
             rotate_left
             ·simp only [Act.put,q_ia3,q_cz3,q_cs3,i64_w,i32_w];rfl
             refine pQ (i:=19) (N:=some 60) (v:=?_) (a':=?_) #[bT,bT,bT,bT,bT,bT,bT,bT,bT,bT,bT,bT,bT,bT,bT,bT,bT,bT,bT,bT,bf,bf,bf,bf,bf,bf,bf,bf,bf,bf,bf,bf,bf,bf,bf,bf,bf,bf,bf,bf,bf,bf,bf,bf,bf,bf] (any_of HT_.out (by kernel_rfl)) ?_ ?_ ?_
             rotate_left
             ·intro w';go_simp;with_reducible rfl
             rotate_left
             ·simp only [Act.put,q_ia3,q_cz3,q_cs3,i64_w,i32_w];rfl
             refine pQ (i:=20) (N:=some 61) (v:=?_) (a':=?_) #[bT,bT,bT,bT,bT,bT,bT,bT,bT,bT,bT,bT,bT,bT,bT,bT,bT,bT,bT,bT,bT,bf,bf,bf,bf,bf,bf,bf,bf,bf,bf,bf,bf,bf,bf,bf,bf,bf,bf,bf,bf,bf,bf,bf,bf,bf] (any_of HT_.out (by kernel_rfl)) ?_ ?_ ?_
             rotate_left
             ·intro w';go_simp;with_reducible rfl
             rotate_left
             ·simp only [Act.put,q_ia3,q_cz3,q_cs3,i64_w,i32_w];rfl
             refine pure_ (i:=21) (N:=some 62) (v:=undef) (a':=?_) #[bT,bT,bT,bT,bT,bT,bT,bT,bT,bT,bT,bT,bT,bT,bT,bT,bT,bT,bT,bT,bT,bT,bf,bf,bf,bf,bf,bf,bf,bf,bf,bf,bf,bf,bf,bf,bf,bf,bf,bf,bf,bf,bf,bf,bf,bf] rfl rfl (any_of HT_.out (by kernel_rfl)) (fun _ _ _ h => h) (Or.inr ⟨by rfl,rfl⟩) ?_ ?_
             rotate_left
             ·simp only [Act.put,q_ia3,q_cz3,q_cs3,i64_w,i32_w];rfl
             refine pure_ (i:=22) (N:=some 63) (v:=undef) (a':=?_) #[bT,bT,bT,bT,bT,bT,bT,bT,bT,bT,bT,bT,bT,bT,bT,bT,bT,bT,bT,bT,bT,bT,bT,bf,bf,bf,bf,bf,bf,bf,bf,bf,bf,bf,bf,bf,bf,bf,bf,bf,bf,bf,bf,bf,bf,bf] rfl rfl (any_of HT_.out (by kernel_rfl)) (fun _ _ _ h => h) (Or.inr ⟨by rfl,rfl⟩) ?_ ?_
             rotate_left
             ·simp only [Act.put,q_ia3,q_cz3,q_cs3,i64_w,i32_w];rfl
             refine pure_ (i:=23) (N:=some 64) (v:=undef) (a':=?_) #[bT,bT,bT,bT,bT,bT,bT,bT,bT,bT,bT,bT,bT,bT,bT,bT,bT,bT,bT,bT,bT,bT,bT,bT,bf,bf,bf,bf,bf,bf,bf,bf,bf,bf,bf,bf,bf,bf,bf,bf,bf,bf,bf,bf,bf,bf] rfl rfl (any_of HT_.out (by kernel_rfl)) (fun _ _ _ h => h) (Or.inr ⟨by rfl,rfl⟩) ?_ ?_
             rotate_left
             ·simp only [Act.put,q_ia3,q_cz3,q_cs3,i64_w,i32_w];rfl
             refine pure_ (i:=24) (N:=some 65) (v:=undef) (a':=?_) #[bT,bT,bT,bT,bT,bT,bT,bT,bT,bT,bT,bT,bT,bT,bT,bT,bT,bT,bT,bT,bT,bT,bT,bT,bT,bf,bf,bf,bf,bf,bf,bf,bf,bf,bf,bf,bf,bf,bf,bf,bf,bf,bf,bf,bf,bf] rfl rfl (any_of HT_.out (by kernel_rfl)) (fun _ _ _ h => h) (Or.inr ⟨by rfl,rfl⟩) ?_ ?_
             rotate_left
             ·simp only [Act.put,q_ia3,q_cz3,q_cs3,i64_w,i32_w];rfl
             refine pure_ (i:=25) (N:=some 66) (v:=undef) (a':=?_) #[bT,bT,bT,bT,bT,bT,bT,bT,bT,bT,bT,bT,bT,bT,bT,bT,bT,bT,bT,bT,bT,bT,bT,bT,bT,bT,bf,bf,bf,bf,bf,bf,bf,bf,bf,bf,bf,bf,bf,bf,bf,bf,bf,bf,bf,bf] rfl rfl (any_of HT_.out (by kernel_rfl)) (fun _ _ _ h => h) (Or.inr ⟨by rfl,rfl⟩) ?_ ?_
             rotate_left
             ·simp only [Act.put,q_ia3,q_cz3,q_cs3,i64_w,i32_w];rfl
             refine pure_ (i:=26) (N:=some 67) (v:=undef) (a':=?_) #[bT,bT,bT,bT,bT,bT,bT,bT,bT,bT,bT,bT,bT,bT,bT,bT,bT,bT,bT,bT,bT,bT,bT,bT,bT,bT,bT,bf,bf,bf,bf,bf,bf,bf,bf,bf,bf,bf,bf,bf,bf,bf,bf,bf,bf,bf] rfl rfl (any_of HT_.out (by kernel_rfl)) (fun _ _ _ h => h) (Or.inr ⟨by rfl,rfl⟩) ?_ ?_
             rotate_left
             ·simp only [Act.put,q_ia3,q_cz3,q_cs3,i64_w,i32_w];rfl
             refine pure_ (i:=27) (N:=some 68) (v:=undef) (a':=?_) #[bT,bT,bT,bT,bT,bT,bT,bT,bT,bT,bT,bT,bT,bT,bT,bT,bT,bT,bT,bT,bT,bT,bT,bT,bT,bT,bT,bT,bf,bf,bf,bf,bf,bf,bf,bf,bf,bf,bf,bf,bf,bf,bf,bf,bf,bf] rfl rfl (any_of HT_.out (by kernel_rfl)) (fun _ _ _ h => h) (Or.inr ⟨by rfl,rfl⟩) ?_ ?_
             rotate_left
             ·simp only [Act.put,q_ia3,q_cz3,q_cs3,i64_w,i32_w];rfl
             refine pure_ (i:=28) (N:=some 69) (v:=undef) (a':=?_) #[bT,bT,bT,bT,bT,bT,bT,bT,bT,bT,bT,bT,bT,bT,bT,bT,bT,bT,bT,bT,bT,bT,bT,bT,bT,bT,bT,bT,bT,bf,bf,bf,bf,bf,bf,bf,bf,bf,bf,bf,bf,bf,bf,bf,bf,bf] rfl rfl (any_of HT_.out (by kernel_rfl)) (fun _ _ _ h => h) (Or.inr ⟨by rfl,rfl⟩) ?_ ?_
             rotate_left
             ·simp only [Act.put,q_ia3,q_cz3,q_cs3,i64_w,i32_w];rfl
             refine pure_ (i:=29) (N:=some 70) (v:=undef) (a':=?_) #[bT,bT,bT,bT,bT,bT,bT,bT,bT,bT,bT,bT,bT,bT,bT,bT,bT,bT,bT,bT,bT,bT,bT,bT,bT,bT,bT,bT,bT,bT,bf,bf,bf,bf,bf,bf,bf,bf,bf,bf,bf,bf,bf,bf,bf,bf] rfl rfl (any_of HT_.out (by kernel_rfl)) (fun _ _ _ h => h) (Or.inr ⟨by rfl,rfl⟩) ?_ ?_
             rotate_left
             ·simp only [Act.put,q_ia3,q_cz3,q_cs3,i64_w,i32_w];rfl
             refine pure_ (i:=30) (N:=some 71) (v:=undef) (a':=?_) #[bT,bT,bT,bT,bT,bT,bT,bT,bT,bT,bT,bT,bT,bT,bT,bT,bT,bT,bT,bT,bT,bT,bT,bT,bT,bT,bT,bT,bT,bT,bT,bf,bf,bf,bf,bf,bf,bf,bf,bf,bf,bf,bf,bf,bf,bf] rfl rfl (any_of HT_.out (by kernel_rfl)) (fun _ _ _ h => h) (Or.inr ⟨by rfl,rfl⟩) ?_ ?_
             rotate_left
             ·simp only [Act.put,q_ia3,q_cz3,q_cs3,i64_w,i32_w];rfl
             refine pure_ (i:=31) (N:=some 72) (v:=undef) (a':=?_) #[bT,bT,bT,bT,bT,bT,bT,bT,bT,bT,bT,bT,bT,bT,bT,bT,bT,bT,bT,bT,bT,bT,bT,bT,bT,bT,bT,bT,bT,bT,bT,bT,bf,bf,bf,bf,bf,bf,bf,bf,bf,bf,bf,bf,bf,bf] rfl rfl (any_of HT_.out (by kernel_rfl)) (fun _ _ _ h => h) (Or.inr ⟨by rfl,rfl⟩) ?_ ?_
             rotate_left
             ·simp only [Act.put,q_ia3,q_cz3,q_cs3,i64_w,i32_w];rfl
             refine pQ (i:=32) (N:=some 73) (v:=?_) (a':=?_) #[bT,bT,bT,bT,bT,bT,bT,bT,bT,bT,bT,bT,bT,bT,bT,bT,bT,bT,bT,bT,bT,bT,bT,bT,bT,bT,bT,bT,bT,bT,bT,bT,bT,bf,bf,bf,bf,bf,bf,bf,bf,bf,bf,bf,bf,bf] (any_of HT_.out (by kernel_rfl)) ?_ ?_ ?_
             rotate_left
             ·intro w';go_simp;with_reducible rfl
             rotate_left
             ·simp only [Act.put,q_ia3,q_cz3,q_cs3,i64_w,i32_w];rfl
             refine pQ (i:=33) (N:=some 74) (v:=?_) (a':=?_) #[bT,bT,bT,bT,bT,bT,bT,bT,bT,bT,bT,bT,bT,bT,bT,bT,bT,bT,bT,bT,bT,bT,bT,bT,bT,bT,bT,bT,bT,bT,bT,bT,bT,bT,bf,bf,bf,bf,bf,bf,bf,bf,bf,bf,bf,bf] (any_of HT_.out (by kernel_rfl)) ?_ ?_ ?_
             rotate_left
             ·intro w';go_simp;with_reducible rfl
             rotate_left
             ·simp only [Act.put,q_ia3,q_cz3,q_cs3,i64_w,i32_w];rfl
             refine pure_ (i:=34) (N:=some 75) (v:=undef) (a':=?_) #[bT,bT,bT,bT,bT,bT,bT,bT,bT,bT,bT,bT,bT,bT,bT,bT,bT,bT,bT,bT,bT,bT,bT,bT,bT,bT,bT,bT,bT,bT,bT,bT,bT,bT,bT,bf,bf,bf,bf,bf,bf,bf,bf,bf,bf,bf] rfl rfl (any_of HT_.out (by kernel_rfl)) (fun _ _ _ h => h) (Or.inr ⟨by rfl,rfl⟩) ?_ ?_
             rotate_left
             ·simp only [Act.put,q_ia3,q_cz3,q_cs3,i64_w,i32_w];rfl
             refine pQ (i:=35) (N:=some 76) (v:=?_) (a':=?_) #[bT,bT,bT,bT,bT,bT,bT,bT,bT,bT,bT,bT,bT,bT,bT,bT,bT,bT,bT,bT,bT,bT,bT,bT,bT,bT,bT,bT,bT,bT,bT,bT,bT,bT,bT,bT,bf,bf,bf,bf,bf,bf,bf,bf,bf,bf] (any_of HT_.out (by kernel_rfl)) ?_ ?_ ?_
             rotate_left
             ·intro w';go_simp;with_reducible rfl
             rotate_left
             ·simp only [Act.put,q_ia3,q_cz3,q_cs3,i64_w,i32_w];rfl
             refine pQ (i:=36) (N:=some 77) (v:=?_) (a':=?_) #[bT,bT,bT,bT,bT,bT,bT,bT,bT,bT,bT,bT,bT,bT,bT,bT,bT,bT,bT,bT,bT,bT,bT,bT,bT,bT,bT,bT,bT,bT,bT,bT,bT,bT,bT,bT,bT,bf,bf,bf,bf,bf,bf,bf,bf,bf] (any_of HT_.out (by kernel_rfl)) ?_ ?_ ?_
             rotate_left
             ·intro w';go_simp;with_reducible rfl
             rotate_left
             ·simp only [Act.put,q_ia3,q_cz3,q_cs3,i64_w,i32_w];rfl
             refine pure_ (i:=37) (N:=some 78) (v:=undef) (a':=?_) #[bT,bT,bT,bT,bT,bT,bT,bT,bT,bT,bT,bT,bT,bT,bT,bT,bT,bT,bT,bT,bT,bT,bT,bT,bT,bT,bT,bT,bT,bT,bT,bT,bT,bT,bT,bT,bT,bT,bf,bf,bf,bf,bf,bf,bf,bf] rfl rfl (any_of HT_.out (by kernel_rfl)) (fun _ _ _ h => h) (Or.inr ⟨by rfl,rfl⟩) ?_ ?_
             rotate_left
             ·simp only [Act.put,q_ia3,q_cz3,q_cs3,i64_w,i32_w];rfl
             refine pure_ (i:=38) (N:=some 79) (v:=undef) (a':=?_) #[bT,bT,bT,bT,bT,bT,bT,bT,bT,bT,bT,bT,bT,bT,bT,bT,bT,bT,bT,bT,bT,bT,bT,bT,bT,bT,bT,bT,bT,bT,bT,bT,bT,bT,bT,bT,bT,bT,bT,bf,bf,bf,bf,bf,bf,bf] rfl rfl (any_of HT_.out (by kernel_rfl)) (fun _ _ _ h => h) (Or.inr ⟨by rfl,rfl⟩) ?_ ?_
             rotate_left
             ·simp only [Act.put,q_ia3,q_cz3,q_cs3,i64_w,i32_w];rfl
             refine pQ (i:=39) (N:=some 80) (v:=?_) (a':=?_) #[bT,bT,bT,bT,bT,bT,bT,bT,bT,bT,bT,bT,bT,bT,bT,bT,bT,bT,bT,bT,bT,bT,bT,bT,bT,bT,bT,bT,bT,bT,bT,bT,bT,bT,bT,bT,bT,bT,bT,bT,bf,bf,bf,bf,bf,bf] (any_of HT_.out (by kernel_rfl)) ?_ ?_ ?_
             rotate_left
             ·intro w';go_simp;with_reducible rfl
             rotate_left
             ·simp only [Act.put,q_ia3,q_cz3,q_cs3,i64_w,i32_w];rfl
             refine pQ (i:=40) (N:=some 81) (v:=?_) (a':=?_) #[bT,bT,bT,bT,bT,bT,bT,bT,bT,bT,bT,bT,bT,bT,bT,bT,bT,bT,bT,bT,bT,bT,bT,bT,bT,bT,bT,bT,bT,bT,bT,bT,bT,bT,bT,bT,bT,bT,bT,bT,bT,bf,bf,bf,bf,bf] (any_of HT_.out (by kernel_rfl)) ?_ ?_ ?_
             rotate_left
             ·intro w';go_simp;with_reducible rfl
             rotate_left
             ·simp only [Act.put,q_ia3,q_cz3,q_cs3,i64_w,i32_w];rfl
             refine pure_ (i:=41) (N:=some 82) (v:=undef) (a':=?_) #[bT,bT,bT,bT,bT,bT,bT,bT,bT,bT,bT,bT,bT,bT,bT,bT,bT,bT,bT,bT,bT,bT,bT,bT,bT,bT,bT,bT,bT,bT,bT,bT,bT,bT,bT,bT,bT,bT,bT,bT,bT,bT,bf,bf,bf,bf] rfl rfl (any_of HT_.out (by kernel_rfl)) (fun _ _ _ h => h) (Or.inr ⟨by rfl,rfl⟩) ?_ ?_
             rotate_left
             ·simp only [Act.put,q_ia3,q_cz3,q_cs3,i64_w,i32_w];rfl
             refine pure_ (i:=42) (N:=some 83) (v:=undef) (a':=?_) #[bT,bT,bT,bT,bT,bT,bT,bT,bT,bT,bT,bT,bT,bT,bT,bT,bT,bT,bT,bT,bT,bT,bT,bT,bT,bT,bT,bT,bT,bT,bT,bT,bT,bT,bT,bT,bT,bT,bT,bT,bT,bT,bT,bf,bf,bf] rfl rfl (any_of HT_.out (by kernel_rfl)) (fun _ _ _ h => h) (Or.inr ⟨by rfl,rfl⟩) ?_ ?_
             rotate_left
             ·simp only [Act.put,q_ia3,q_cz3,q_cs3,i64_w,i32_w];rfl
             refine pure_ (i:=43) (N:=some 84) (v:=undef) (a':=?_) #[bT,bT,bT,bT,bT,bT,bT,bT,bT,bT,bT,bT,bT,bT,bT,bT,bT,bT,bT,bT,bT,bT,bT,bT,bT,bT,bT,bT,bT,bT,bT,bT,bT,bT,bT,bT,bT,bT,bT,bT,bT,bT,bT,bT,bf,bf] rfl rfl (any_of HT_.out (by kernel_rfl)) (fun _ _ _ h => h) (Or.inr ⟨by rfl,rfl⟩) ?_ ?_
             rotate_left
             ·simp only [Act.put,q_ia3,q_cz3,q_cs3,i64_w,i32_w];rfl
             refine pQ (i:=44) (N:=some 85) (v:=?_) (a':=?_) #[bT,bT,bT,bT,bT,bT,bT,bT,bT,bT,bT,bT,bT,bT,bT,bT,bT,bT,bT,bT,bT,bT,bT,bT,bT,bT,bT,bT,bT,bT,bT,bT,bT,bT,bT,bT,bT,bT,bT,bT,bT,bT,bT,bT,bT,bf] (any_of HT_.out (by kernel_rfl)) ?_ ?_ ?_
             rotate_left
             ·intro w';go_simp;with_reducible rfl
             rotate_left
             ·simp only [Act.put,q_ia3,q_cz3,q_cs3,i64_w,i32_w];rfl
             refine pQ (i:=45) (N:=some 2) (v:=?_) (a':=?_) #[bT,bT,bT,bT,bT,bT,bT,bT,bT,bT,bT,bT,bT,bT,bT,bT,bT,bT,bT,bT,bT,bT,bT,bT,bT,bT,bT,bT,bT,bT,bT,bT,bT,bT,bT,bT,bT,bT,bT,bT,bT,bT,bT,bT,bT,bT] (any_of HT_.out (by kernel_rfl)) ?_ ?_ ?_
             rotate_left
             ·intro w';go_simp;with_reducible rfl
             rotate_left
             ·simp only [Act.put,q_ia3,q_cz3,q_cs3,i64_w,i32_w];rfl
             refine done_ (done_of HT_.out (by kernel_rfl)) ?_
             try go_wp2
             go_ret
             exact ⟨by first|rfl|(simp [errW_none,errW_some] <;> rfl)|(simp [*,errW_none,errW_some] <;> rfl),by repeat (first|(with_reducible first|exact HB.out|apply lA|apply lN|apply lD)|exact HB.out)⟩
           ·rw [if_neg c27] at H
            have c27b0 : (t198 == t199) = false:=by simpa using c27
            (try (have c27b1 : decide (t198 = t199) = false:=by simpa using c27))
            (try (have c27b2 : (t198 == t199) = false:=by simpa using c27))
            (try (have c27b3 : ¬ (t198 = t199):=by simpa using c27))
            clear c27
            obtain rfl:=Option.some.inj H
            obtain ⟨Ao78,co78,eo78⟩:=Kd.R_slice HO_5.out
            subst eo78
            have p194 : 0 ≤ (0 : Int):=(by omega)
            have q194 : 0 < (t188.length : Int):=of_decide_eq_true (by first|(with_reducible assumption)|assumption)
            obtain ⟨ad194,e194,hx194_0⟩:=Kd.at_int (rR HO_5.out).2.2 0 p194 q194
            cases e194
            have qi194 : (0 < t188.length) = True:=eq_true (by omega)
            (try rw [show ((0 : Int)).toNat = 0 from rfl] at hx194_0)
            (try rw [Addr.add_zero'] at hx194_0)
            replace p194:=eq_true p194
            replace q194:=eq_true q194
            try go_wp2_with (first|((with_reducible refine gate_callee (f:=14) rfl ?_);refine goesL_ (some 36) rfl rfl Tryd.func14 (by kernel_rfl) rfl #[.int .i64 (rd t188 0)] rfl (by (try simp only [List.map_toArray,List.map_cons,List.map_nil]);first|done|rfl|(simp only [List.length_drop,List.length_take];rfl)) ?_;(with_reducible refine (spec_Decimal.calls kj16 (rd t188 0) t195 _ A21.out).mono ?_);rintro e w79 ⟨rfl,hb⟩;refine ⟨_,rfl,?_⟩;have n0_:=aM (rH HO_5.out hb);have n1_:=aM (lQ HB.out hb);clear HO_5 HB;have HO_5:=n0_;have HB:=n1_;clear n0_ n1_;(try clear hb);(try clear hb2);(try clear hk);(try clear hi);have p196 : 0 ≤ (1 : Int):=(by omega);have q196 : 1 < (t188.length : Int):=of_decide_eq_true (by first|(with_reducible assumption)|assumption);obtain ⟨ad196,e196,hx196_0⟩:=Kd.at_int (rR HO_5.out).2.2 1 p196 q196;obtain rfl : ad194 = ad196:=(by injection e196);(try simp only [show (1 : Int).toNat = 1 from rfl,Nat.reduceMul,Nat.reduceEqDiff,Go.Addr.add,↓reduceIte] at hx196_0);have qi196 : (1 < t188.length) = True:=eq_true (by omega);(try rw [show ((1 : Int)).toNat = 1 from rfl] at hx196_0);replace p196:=eq_true p196;replace q196:=eq_true q196)|((with_reducible refine gate_callee (f:=14) rfl ?_);refine goesL_ (some 40) rfl rfl Tryd.func14 (by kernel_rfl) rfl #[.int .i64 (rd t188 1)] rfl (by (try simp only [List.map_toArray,List.map_cons,List.map_nil]);first|done|rfl|(simp only [List.length_drop,List.length_take];rfl)) ?_;(with_reducible refine (spec_Decimal.calls kj16 (rd t188 1) t197 _ A23.out).mono ?_);rintro e w80 ⟨rfl,hb⟩;refine ⟨_,rfl,?_⟩;have n0_:=aM (rH HO_5.out hb);have n1_:=aM (lQ HB.out hb);clear HO_5 HB;have HO_5:=n0_;have HB:=n1_;clear n0_ n1_;(try clear hb);(try clear hb2);(try clear hk);(try clear hi)))
            have n0_:=aM (rD HO_5.out)
            have n1_:=aM (lD HB.out)
            clear HO_5
            clear HB
            have HO_5:=n0_
            have HB:=n1_
            clear n0_ n1_
            refine start_ (n:=46) (S:=fun w' => True) (ds:=[]) #[bf,bf,bf,bf,bf,bf,bf,bf,bf,bf,bf,bf,bf,bf,bf,bf,bf,bf,bf,bf,bf,bf,bf,bf,bf,bf,bf,bf,bf,bf,bf,bf,bf,bf,bf,bf,bf,bf,bf,bf,bf,bf,bf,bf,bf,bf] (by kernel_rfl) rfl rfl trivial (fun hHeld => ?_);refine with_tabW laws_FnOrders.tab14 laws_FnOrders.bits14 (fun HT_ HW_ => ?_)
            generalize w80.drew = w81 at HO_5 HB hHeld ⊢
            refine pQ (i:=0) (N:=some 41) (v:=?_) (a':=?_) #[bT,bf,bf,bf,bf,bf,bf,bf,bf,bf,bf,bf,bf,bf,bf,bf,bf,bf,bf,bf,bf,bf,bf,bf,bf,bf,bf,bf,bf,bf,bf,bf,bf,bf,bf,bf,bf,bf,bf,bf,bf,bf,bf,bf,bf,bf] (any_of HT_.out (by kernel_rfl)) ?_ ?_ ?_
            rotate_left
            ·intro w';go_simp;with_reducible rfl
            rotate_left
            ·simp only [Act.put,q_ia3,q_cz3,q_cs3,i64_w,i32_w];rfl
            refine pQ (i:=1) (N:=some 42) (v:=?_) (a':=?_) #[bT,bT,bf,bf,bf,bf,bf,bf,bf,bf,bf,bf,bf,bf,bf,bf,bf,bf,bf,bf,bf,bf,bf,bf,bf,bf,bf,bf,bf,bf,bf,bf,bf,bf,bf,bf,bf,bf,bf,bf,bf,bf,bf,bf,bf,bf] (any_of HT_.out (by kernel_rfl)) ?_ ?_ ?_
            rotate_left
            ·intro w';go_simp;with_reducible rfl
            rotate_left
            ·simp only [Act.put,q_ia3,q_cz3,q_cs3,i64_w,i32_w];rfl
            refine pQ (i:=2) (N:=some 43) (v:=?_) (a':=?_) #[bT,bT,bT,bf,bf,bf,bf,bf,bf,bf,bf,bf,bf,bf,bf,bf,bf,bf,bf,bf,bf,bf,bf,bf,bf,bf,bf,bf,bf,bf,bf,bf,bf,bf,bf,bf,bf,bf,bf,bf,bf,bf,bf,bf,bf,bf] (any_of HT_.out (by kernel_rfl)) ?_ ?_ ?_
            rotate_left
            ·intro w';go_simp;with_reducible rfl
            rotate_left
            ·simp only [Act.put,q_ia3,q_cz3,q_cs3,i64_w,i32_w];rfl
            refine pQ (i:=3) (N:=some 44) (v:=?_) (a':=?_) #[bT,bT,bT,bT,bf,bf,bf,bf,bf,bf,bf,bf,bf,bf,bf,bf,bf,bf,bf,bf,bf,bf,bf,bf,bf,bf,bf,bf,bf,bf,bf,bf,bf,bf,bf,bf,bf,bf,bf,bf,bf,bf,bf,bf,bf,bf] (any_of HT_.out (by kernel_rfl)) ?_ ?_ ?_
            rotate_left
            ·intro w';go_simp;with_reducible rfl
            rotate_left
            ·simp only [Act.put,q_ia3,q_cz3,q_cs3,i64_w,i32_w];rfl
            refine pQ (i:=4) (N:=some 45) (v:=?_) (a':=?_) #[bT,bT,bT,bT,bT,bf,bf,bf,bf,bf,bf,bf,bf,bf,bf,bf,bf,bf,bf,bf,bf,bf,bf,bf,bf,bf,bf,bf,bf,bf,bf,bf,bf,bf,bf,bf,bf,bf,bf,bf,bf,bf,bf,bf,bf,bf] (any_of HT_.out (by kernel_rfl)) ?_ ?_ ?_
            rotate_left
            ·intro w';go_simp;with_reducible rfl
            rotate_left
            ·simp only [Act.put,q_ia3,q_cz3,q_cs3,i64_w,i32_w];rfl
            refine pQ (i:=6) (N:=some 47) (v:=?_) (a':=?_) #[bT,bT,bT,bT,bT,bf,bT,bf,bf,bf,bf,bf,bf,bf,bf,bf,bf,bf,bf,bf,bf,bf,bf,bf,bf,bf,bf,bf,bf,bf,bf,bf,bf,bf,bf,bf,bf,bf,bf,bf,bf,bf,bf,bf,bf,bf] (any_of HT_.out (by kernel_rfl)) ?_ ?_ ?_
            rotate_left
            ·intro w';go_simp;with_reducible rfl
            rotate_left
            ·simp only [Act.put,q_ia3,q_cz3,q_cs3,i64_w,i32_w];rfl
            refine pQ (i:=7) (N:=some 48) (v:=?_) (a':=?_) #[bT,bT,bT,bT,bT,bf,bT,bT,bf,bf,bf,bf,bf,bf,bf,bf,bf,bf,bf,bf,bf,bf,bf,bf,bf,bf,bf,bf,bf,bf,bf,bf,bf,bf,bf,bf,bf,bf,bf,bf,bf,bf,bf,bf,bf,bf] (any_of HT_.out (by kernel_rfl)) ?_ ?_ ?_
            rotate_left
            ·intro w';go_simp;with_reducible rfl
            rotate_left
            ·simp only [Act.put,q_ia3,q_cz3,q_cs3,i64_w,i32_w];rfl
            refine one_ (i:=5) (N:=some 46) #[bT,bT,bT,bT,bT,bT,bT,bT,bf,bf,bf,bf,bf,bf,bf,bf,bf,bf,bf,bf,bf,bf,bf,bf,bf,bf,bf,bf,bf,bf,bf,bf,bf,bf,bf,bf,bf,bf,bf,bf,bf,bf,bf,bf,bf,bf] rfl rfl (one_of HT_.out (by kernel_rfl)) (by decide) (fun K hK => ?_)
            refine goes_ Tryd.func21 (by kernel_rfl) rfl #[.string t186,.string t187] (by rfl) rfl rfl (by (try simp only [List.map_toArray,List.map_cons,List.map_nil]);first|done|rfl|(simp only [List.length_drop,List.length_take];rfl)) ?_
            with_reducible refine (impl_Less.calls kj16 t186 t187 t198 _ A25.out).mono ?_
            rintro e w82 ⟨rfl,hb⟩
            refine ⟨_,rfl,?_⟩
            have n0_:=aM (rH HO_5.out hb)
            have n1_:=aM (lQ HB.out hb)
            clear HO_5
            clear HB
            have HO_5:=n0_
            have HB:=n1_
            clear n0_ n1_
            (try clear hb)
            (try clear hb2)
            (try clear hk)
            (try clear hi)
            refine hK.out _ _ trivial (fun hHeld => ?_)
            clear hK K
            refine norm_ (a':=?_) ?_ ?_
            rotate_left
            ·show Act.put _ (some 46) _ = _
             simp only [Act.put,q_ia3,q_cz3,q_cs3,i64_w,i32_w]
             rfl
            refine one_ (i:=8) (N:=some 49) #[bT,bT,bT,bT,bT,bT,bT,bT,bT,bf,bf,bf,bf,bf,bf,bf,bf,bf,bf,bf,bf,bf,bf,bf,bf,bf,bf,bf,bf,bf,bf,bf,bf,bf,bf,bf,bf,bf,bf,bf,bf,bf,bf,bf,bf,bf] rfl rfl (one_of HT_.out (by kernel_rfl)) (by decide) (fun K hK => ?_)
            refine goes_ Tryd.func20 (by kernel_rfl) rfl #[.string t186,.string t187] (by rfl) rfl rfl (by (try simp only [List.map_toArray,List.map_cons,List.map_nil]);first|done|rfl|(simp only [List.length_drop,List.length_take];rfl)) ?_
            with_reducible refine (spec_Less.calls kj16 t186 t187 t199 _ A26.out).mono ?_
            rintro e w' ⟨rfl,⟨nd,rfl⟩⟩
            refine ⟨_,rfl,?_⟩
            refine hK.out _ _ trivial (fun hHeld => ?_)
            clear hK K
            refine norm_ (a':=?_) ?_ ?_
            rotate_left
            ·show Act.put _ (some 49) _ = _
             simp only [Act.put,q_ia3,q_cz3,q_cs3,i64_w,i32_w]
             rfl
            refine pQ (i:=9) (N:=some 50) (v:=?_) (a':=?_) #[bT,bT,bT,bT,bT,bT,bT,bT,bT,bT,bf,bf,bf,bf,bf,bf,bf,bf,bf,bf,bf,bf,bf,bf,bf,bf,bf,bf,bf,bf,bf,bf,bf,bf,bf,bf,bf,bf,bf,bf,bf,bf,bf,bf,bf,bf] (any_of HT_.out (by kernel_rfl)) ?_ ?_ ?_
            rotate_left
            ·intro w';go_simp;with_reducible rfl
            rotate_left
            ·simp only [Act.put,q_ia3,q_cz3,q_cs3,i64_w,i32_w];rfl
            refine pQ (i:=10) (N:=some 51) (v:=?_) (a':=?_) #[bT,bT,bT,bT,bT,bT,bT,bT,bT,bT,bT,bf,bf,bf,bf,bf,bf,bf,bf,bf,bf,bf,bf,bf,bf,bf,bf,bf,bf,bf,bf,bf,bf,bf,bf,bf,bf,bf,bf,bf,bf,bf,bf,bf,bf,bf] (any_of HT_.out (by kernel_rfl)) ?_ ?_ ?_
            rotate_left
            ·intro w';go_simp;with_reducible rfl
            rotate_left
            ·simp only [Act.put,q_ia3,q_cz3,q_cs3,i64_w,i32_w];rfl
            refine pQ (i:=11) (N:=some 52) (v:=?_) (a':=?_) #[bT,bT,bT,bT,bT,bT,bT,bT,bT,bT,bT,bT,bf,bf,bf,bf,bf,bf,bf,bf,bf,bf,bf,bf,bf,bf,bf,bf,bf,bf,bf,bf,bf,bf,bf,bf,bf,bf,bf,bf,bf,bf,bf,bf,bf,bf] (any_of HT_.out (by kernel_rfl)) ?_ ?_ ?_
            rotate_left
            ·intro w';go_simp;with_reducible rfl
            rotate_left
            ·simp only [Act.put,q_ia3,q_cz3,q_cs3,i64_w,i32_w];rfl
            refine pure_ (i:=12) (N:=some 53) (v:=undef) (a':=?_) #[bT,bT,bT,bT,bT,bT,bT,bT,bT,bT,bT,bT,bT,bf,bf,bf,bf,bf,bf,bf,bf,bf,bf,bf,bf,bf,bf,bf,bf,bf,bf,bf,bf,bf,bf,bf,bf,bf,bf,bf,bf,bf,bf,bf,bf,bf] rfl rfl (any_of HT_.out (by kernel_rfl)) (fun _ _ _ h => h) (Or.inr ⟨by rfl,rfl⟩) ?_ ?_
            rotate_left
            ·simp only [Act.put,q_ia3,q_cz3,q_cs3,i64_w,i32_w];rfl
            refine pure_ (i:=13) (N:=some 54) (v:=undef) (a':=?_) #[bT,bT,bT,bT,bT,bT,bT,bT,bT,bT,bT,bT,bT,bT,bf,bf,bf,bf,bf,bf,bf,bf,bf,bf,bf,bf,bf,bf,bf,bf,bf,bf,bf,bf,bf,bf,bf,bf,bf,bf,bf,bf,bf,bf,bf,bf] rfl rfl (any_of HT_.out (by kernel_rfl)) (fun _ _ _ h => h) (Or.inr ⟨by rfl,rfl⟩) ?_ ?_
            rotate_left
            ·simp only [Act.put,q_ia3,q_cz3,q_cs3,i64_w,i32_w];rfl
            refine pure_ (i:=14) (N:=some 55) (v:=undef) (a':=?_) #[bT,bT,bT,bT,bT,bT,bT,bT,bT,bT,bT,bT,bT,bT,bT,bf,bf,bf,bf,bf,bf,bf,bf,bf,bf,bf,bf,bf,bf,bf,bf,bf,bf,bf,bf,bf,bf,bf,bf,bf,bf,bf,bf,bf,bf,bf] rfl rfl (any_of HT_.out (by kernel_rfl)) (fun _ _ _ h => h) (Or.inr ⟨by rfl,rfl⟩) ?_ ?_
            rotate_left
            ·simp only [Act.put,q_ia3,q_cz3,q_cs3,i64_w,i32_w];rfl
            refine pure_ (i:=15) (N:=some 56) (v:=undef) (a':=?_) #[bT,bT,bT,bT,bT,bT,bT,bT,bT,bT,bT,bT,bT,bT,bT,bT,bf,bf,bf,bf,bf,bf,bf,bf,bf,bf,bf,bf,bf,bf,bf,bf,bf,bf,bf,bf,bf,bf,bf,bf,bf,bf,bf,bf,bf,bf] rfl rfl (any_of HT_.out (by kernel_rfl)) (fun _ _ _ h => h) (Or.inr ⟨by rfl,rfl⟩) ?_ ?_
            rotate_left
            ·simp only [Act.put,q_ia3,q_cz3,q_cs3,i64_w,i32_w];rfl
            refine pure_ (i:=16) (N:=some 57) (v:=undef) (a':=?_) #[bT,bT,bT,bT,bT,bT,bT,bT,bT,bT,bT,bT,bT,bT,bT,bT,bT,bf,bf,bf,bf,bf,bf,bf,bf,bf,bf,bf,bf,bf,bf,bf,bf,bf,bf,bf,bf,bf,bf,bf,bf,bf,bf,bf,bf,bf] rfl rfl (any_of HT_.out (by kernel_rfl)) (fun _ _ _ h => h) (Or.inr ⟨by rfl,rfl⟩) ?_ ?_
            rotate_left
            ·simp only [Act.put,q_ia3,q_cz3,q_cs3,i64_w,i32_w];rfl
            refine pure_ (i:=17) (N:=some 58) (v:=undef) (a':=?_) #[bT,bT,bT,bT,bT,bT,bT,bT,bT,bT,bT,bT,bT,bT,bT,bT,bT,bT,bf,bf,bf,bf,bf,bf,bf,bf,bf,bf,bf,bf,bf,bf,bf,bf,bf,bf,bf,bf,bf,bf,bf,bf,bf,bf,bf,bf] rfl rfl (any_of HT_.out (by kernel_rfl)) (fun _ _ _ h => h) (Or.inr ⟨by rfl,rfl⟩) ?_ ?_
            rotate_left
            ·simp only [Act.put,q_ia3,q_cz3,q_cs3,i64_w,i32_w];rfl
            refine pure_ (i:=18) (N:=some 59) (v:=undef) (a':=?_) #[bT,bT,bT,bT,bT,bT,bT,bT,bT,bT,bT,bT,bT,bT,bT,bT,bT,bT,bT,bf,bf,bf,bf,bf,bf,bf,bf,bf,bf,bf,bf,bf,bf,bf,bf,bf,bf,bf,bf,bf,bf,bf,bf,bf,bf,bf] rfl rfl (any_of HT_.out (by kernel_rfl)) (fun _ _ _ h => h) (Or.inr ⟨by rfl,rfl⟩) ?_ ?_
            rotate_left
            ·simp only [Act.put,q_ia3,q_cz3,q_cs3,i64_w,i32_w];rfl
            refine pQ (i:=19) (N:=some 60) (v:=?_) (a':=?_) #[bT,bT,bT,bT,bT,bT,bT,bT,bT,bT,bT,bT,bT,bT,bT,bT,bT,bT,bT,bT,bf,bf,bf,bf,bf,bf,bf,bf,bf,bf,bf,bf,bf,bf,bf,bf,bf,bf,bf,bf,bf,bf,bf,bf,bf,bf] (any_of HT_.out (by kernel_rfl)) ?_ ?_ ?_
            rotate_left
            ·intro w';go_simp;with_reducible rfl
            rotate_left
            ·simp only [Act.put,q_ia3,q_cz3,q_cs3,i64_w,i32_w];rfl
            refine pQ (i:=20) (N:=some 61) (v:=?_) (a':=?_) #[bT,bT,bT,bT,bT,bT,bT,bT,bT,bT,bT,bT,bT,bT,bT,bT,bT,bT,bT,bT,bT,bf,bf,bf,bf,bf,bf,bf,bf,bf,bf,bf,bf,bf,bf,bf,bf,bf,bf,bf,bf,bf,bf,bf,bf,bf] (any_of HT_.out (by kernel_rfl)) ?_ ?_ ?_
            rotate_left
            ·intro w';go_simp;with_reducible rfl
            rotate_left
            ·simp only [Act.put,q_ia3,q_cz3,q_cs3,i64_w,i32_w];rfl
            refine pure_ (i:=21) (N:=some 62) (v:=undef) (a':=?_) #[bT,bT,bT,bT,bT,bT,bT,bT,bT,bT,bT,bT,bT,bT,bT,bT,bT,bT,bT,bT,bT,bT,bf,bf,bf,bf,bf,bf,bf,bf,bf,bf,bf,bf,bf,bf,bf,bf,bf,bf,bf,bf,bf,bf,bf,bf] rfl rfl (any_of HT_.out (by kernel_rfl)) (fun _ _ _ h => h) (Or.inr ⟨by rfl,rfl⟩) ?_ ?_
            rotate_left
            ·simp only [Act.put,q_ia3,q_cz3,q_cs3,i64_w,i32_w];rfl
            refine pure_ (i:=22) (N:=some 63) (v:=undef) (a':=?_) #[bT,bT,bT,bT,bT,bT,bT,bT,bT,bT,bT,bT,bT,bT,bT,bT,bT,bT,bT,bT,bT,bT,bT,bf,bf,bf,bf,bf,bf,bf,bf,bf,bf,bf,bf,bf,bf,bf,bf,bf,bf,bf,bf,bf,bf,bf] rfl rfl (any_of HT_.out (by kernel_rfl)) (fun _ _ _ h => h) (Or.inr ⟨by rfl,rfl⟩) ?_ ?_
            rotate_left
            ·simp only [Act.put,q_ia3,q_cz3,q_cs3,i64_w,i32_w];rfl
            refine pure_ (i:=23) (N:=some 64) (v:=undef) (a':=?_) #[bT,bT,bT,bT,bT,bT,bT,bT,bT,bT,bT,bT,bT,bT,bT,bT,bT,bT,bT,bT,bT,bT,bT,bT,bf,bf,bf,bf,bf,bf,bf,bf,bf,bf,bf,bf,bf,bf,bf,bf,bf,bf,bf,bf,bf,bf] rfl rfl (any_of HT_.out (by kernel_rfl)) (fun _ _ _ h => h) (Or.inr ⟨by rfl,rfl⟩) ?_ ?_
            rotate_left
            ·simp only [Act.put,q_ia3,q_cz3,q_cs3,i64_w,i32_w];rfl
            refine pure_ (i:=24) (N:=some 65) (v:=undef) (a':=?_) #[bT,bT,bT,bT,bT,bT,bT,bT,bT,bT,bT,bT,bT,bT,bT,bT,bT,bT,bT,bT,bT,bT,bT,bT,bT,bf,bf,bf,bf,bf,bf,bf,bf,bf,bf,bf,bf,bf,bf,bf,bf,bf,bf,bf,bf,bf] rfl rfl (any_of HT_.out (by kernel_rfl)) (fun _ _ _ h => h) (Or.inr ⟨by rfl,rfl⟩) ?_ ?_
            rotate_left
            ·simp only [Act.put,q_ia3,q_cz3,q_cs3,i64_w,i32_w];rfl
            refine pure_ (i:=25) (N:=some 66) (v:=undef) (a':=?_) #[bT,bT,bT,bT,bT,bT,bT,bT,bT,bT,bT,bT,bT,bT,bT,bT,bT,bT,bT,bT,bT,bT,bT,bT,bT,bT,bf,bf,bf,bf,bf,bf,bf,bf,bf,bf,bf,bf,bf,bf,bf,bf,bf,bf,bf,bf] rfl rfl (any_of HT_.out (by kernel_rfl)) (fun _ _ _ h => h) (Or.inr ⟨by rfl,rfl⟩) ?_ ?_
            rotate_left
            ·simp only [Act.put,q_ia3,q_cz3,q_cs3,i64_w,i32_w];rfl
            refine pure_ (i:=26) (N:=some 67) (v:=undef) (a':=?_) #[bT,bT,bT,bT,bT,bT,bT,bT,bT,bT,bT,bT,bT,bT,bT,bT,bT,bT,bT,bT,bT,bT,bT,bT,bT,bT,bT,bf,bf,bf,bf,bf,bf,bf,bf,bf,bf,bf,bf,bf,bf,bf,bf,bf,bf,bf] rfl rfl (any_of HT_.out (by kernel_rfl)) (fun _ _ _ h => h) (Or.inr ⟨by rfl,rfl⟩) ?_ ?_
            rotate_left
            ·simp only [Act.put,q_ia3,q_cz3,q_cs3,i64_w,i32_w];rfl
            refine pure_ (i:=27) (N:=some 68) (v:=undef) (a':=?_) #[bT,bT,bT,bT,bT,bT,bT,bT,bT,bT,bT,bT,bT,bT,bT,bT,bT,bT,bT,bT,bT,bT,bT,bT,bT,bT,bT,bT,bf,bf,bf,bf,bf,bf,bf,bf,bf,bf,bf,bf,bf,bf,bf,bf,bf,bf] rfl rfl (any_of HT_.out (by kernel_rfl)) (fun _ _ _ h => h) (Or.inr ⟨by rfl,rfl⟩) ?_ ?_
            rotate_left
            ·simp only [Act.put,q_ia3,q_cz3,q_cs3,i64_w,i32_w];rfl
            refine pure_ (i:=28) (N:=some 69) (v:=undef) (a':=?_) #[bT,bT,bT,bT,bT,bT,bT,bT,bT,bT,bT,bT,bT,bT,bT,bT,bT,bT,bT,bT,bT,bT,bT,bT,bT,bT,bT,bT,bT,bf,bf,bf,bf,bf,bf,bf,bf,bf,bf,bf,bf,bf,bf,bf,bf,bf] rfl rfl (any_of HT_.out (by kernel_rfl)) (fun _ _ _ h => h) (Or.inr ⟨by rfl,rfl⟩) ?_ ?_
            rotate_left
            ·simp only [Act.put,q_ia3,q_cz3,q_cs3,i64_w,i32_w];rfl
            refine pure_ (i:=29) (N:=some 70) (v:=undef) (a':=?_) #[bT,bT,bT,bT,bT,bT,bT,bT,bT,bT,bT,bT,bT,bT,bT,bT,bT,bT,bT,bT,bT,bT,bT,bT,bT,bT,bT,bT,bT,bT,bf,bf,bf,bf,bf,bf,bf,bf,bf,bf,bf,bf,bf,bf,bf,bf] rfl rfl (any_of HT_.out (by kernel_rfl)) (fun _ _ _ h => h) (Or.inr ⟨by rfl,rfl⟩) ?_ ?_
            rotate_left
            ·simp only [Act.put,q_ia3,q_cz3,q_cs3,i64_w,i32_w];rfl
            refine pure_ (i:=30) (N:=some 71) (v:=undef) (a':=?_) #[bT,bT,bT,bT,bT,bT,bT,bT,bT,bT,bT,bT,bT,bT,bT,bT,bT,bT,bT,bT,bT,bT,bT,bT,bT,bT,bT,bT,bT,bT,bT,bf,bf,bf,bf,bf,bf,bf,bf,bf,bf,bf,bf,bf,bf,bf] rfl rfl (any_of HT_.out (by kernel_rfl)) (fun _ _ _ h => h) (Or.inr ⟨by rfl,rfl⟩) ?_ ?_
            rotate_left
            ·simp only [Act.put,q_ia3,q_cz3,q_cs3,i64_w,i32_w];rfl
            refine pure_ (i:=31) (N:=some 72) (v:=undef) (a':=?_) #[bT,bT,bT,bT,bT,bT,bT,bT,bT,bT,bT,bT,bT,bT,bT,bT,bT,bT,bT,bT,bT,bT,bT,bT,bT,bT,bT,bT,bT,bT,bT,bT,bf,bf,bf,bf,bf,bf,bf,bf,bf,bf,bf,bf,bf,bf] rfl rfl (any_of HT_.out (by kernel_rfl)) (fun _ _ _ h => h) (Or.inr ⟨by rfl,rfl⟩) ?_ ?_
            rotate_left
            ·simp only [Act.put,q_ia3,q_cz3,q_cs3,i64_w,i32_w];rfl
            refine pQ (i:=32) (N:=some 73) (v:=?_) (a':=?_) #[bT,bT,bT,bT,bT,bT,bT,bT,bT,bT,bT,bT,bT,bT,bT,bT,bT,bT,bT,bT,bT,bT,bT,bT,bT,bT,bT,bT,bT,bT,bT,bT,bT,bf,bf,bf,bf,bf,bf,bf,bf,bf,bf,bf,bf,bf] (any_of HT_.out (by kernel_rfl)) ?_ ?_ ?_
            rotate_left
            ·intro w';go_simp;with_reducible rfl
            rotate_left
            ·simp only [Act.put,q_ia3,q_cz3,q_cs3,i64_w,i32_w];rfl
            refine pQ (i:=33) (N:=some 74) (v:=?_) (a':=?_) #[bT,bT,bT,bT,bT,bT,bT,bT,bT,bT,bT,bT,bT,bT,bT,bT,bT,bT,bT,bT,bT,bT,bT,bT,bT,bT,bT,bT,bT,bT,bT,bT,bT,bT,bf,bf,bf,bf,bf,bf,bf,bf,bf,bf,bf,bf] (any_of HT_.out (by kernel_rfl)) ?_ ?_ ?_
            rotate_left
            ·intro w';go_simp;with_reducible rfl
            rotate_left
            ·simp only [Act.put,q_ia3,q_cz3,q_cs3,i64_w,i32_w];rfl
            refine pure_ (i:=34) (N:=some 75) (v:=undef) (a':=?_) #[bT,bT,bT,bT,bT,bT,bT,bT,bT,bT,bT,bT,bT,bT,bT,bT,bT,bT,bT,bT,bT,bT,bT,bT,bT,bT,bT,bT,bT,bT,bT,bT,bT,bT,bT,bf,bf,bf,bf,bf,bf,bf,bf,bf,bf,bf] rfl rfl (any_of HT_.out (by kernel_rfl)) (fun _ _ _ h => h) (Or.inr ⟨by rfl,rfl⟩) ?_ ?_
            rotate_left
            ·simp only [Act.put,q_ia3,q_cz3,q_cs3,i64_w,i32_w];rfl
            refine pQ (i:=35) (N:=some 76) (v:=?_) (a':=?_) #[bT,bT,bT,bT,bT,bT,bT,bT,bT,bT,bT,bT,bT,bT,bT,bT,bT,bT,bT,bT,bT,bT,bT,bT,bT,bT,bT,bT,bT,bT,bT,bT,bT,bT,bT,bT,bf,bf,bf,bf,bf,bf,bf,bf,bf,bf] (any_of HT_.out (by kernel_rfl)) ?_ ?_ ?_
            rotate_left
            ·intro w';go_simp;with_reducible rfl
            rotate_left
            ·simp only [Act.put,q_ia3,q_cz3,q_cs3,i64_w,i32_w];rfl
            refine pQ (i:=36) (N:=some 77) (v:=?_) (a':=?_) #[bT,bT,bT,bT,bT,bT,bT,bT,bT,bT,bT,bT,bT,bT,bT,bT,bT,bT,bT,bT,bT,bT,bT,bT,bT,bT,bT,bT,bT,bT,bT,bT,bT,bT,bT,bT,bT,bf,bf,bf,bf,bf,bf,bf,bf,bf] (any_of HT_.out (by kernel_rfl)) ?_ ?_ ?_
            rotate_left
            ·intro w';go_simp;with_reducible rfl
            rotate_left
            ·simp only [Act.put,q_ia3,q_cz3,q_cs3,i64_w,i32_w];rfl
            refine pure_ (i:=37) (N:=some 78) (v:=undef) (a':=?_) #[bT,bT,bT,bT,bT,bT,bT,bT,bT,bT,bT,bT,bT,bT,bT,bT,bT,bT,bT,bT,bT,bT,bT,bT,bT,bT,bT,bT,bT,bT,bT,bT,bT,bT,bT,bT,bT,bT,bf,bf,bf,bf,bf,bf,bf,bf] rfl rfl (any_of HT_.out (by kernel_rfl)) (fun _ _ _ h => h) (Or.inr ⟨by rfl,rfl⟩) ?_ ?_
            rotate_left
            ·simp only [Act.put,q_ia3,q_cz3,q_cs3,i64_w,i32_w];rfl
            refine pure_ (i:=38) (N:=some 79) (v:=undef) (a':=?_) #[bT,bT,bT,bT,bT,bT,bT,bT,bT,bT,bT,bT,bT,bT,bT,bT,bT,bT,bT,bT,bT,bT,bT,bT,bT,bT,bT,bT,bT,bT,bT,bT,bT,bT,bT,bT,bT,bT,bT,bf,bf,bf,bf,bf,bf,bf] rfl rfl (any_of HT_.out (by kernel_rfl)) (fun _ _ _ h => h) (Or.inr ⟨by rfl,rfl⟩) ?_ ?_
            rotate_left
            ·simp only [Act.put,q_ia3,q_cz3,q_cs3,i64_w,i32_w];rfl
            refine pQ (i:=39) (N:=some 80) (v:=?_) (a':=?_) #[bT,bT,bT,bT,bT,bT,bT,bT,bT,bT,bT,bT,bT,bT,bT,bT,bT,bT,bT,bT,bT,bT,bT,bT,bT,bT,bT,bT,bT,bT,bT,bT,bT,bT,bT,bT,bT,bT,bT,bT,bf,bf,bf,bf,bf,bf] (any_of HT_.out (by kernel_rfl)) ?_ ?_ ?_
            rotate_left
            ·intro w';go_simp;with_reducible rfl
            rotate_left
            ·simp only [Act.put,q_ia3,q_cz3,q_cs3,i64_w,i32_w];rfl
            refine pQ (i:=40) (N:=some 81) (v:=?_) (a':=?_) #[bT,bT,bT,bT,bT,bT,bT,bT,bT,bT,bT,bT,bT,bT,bT,bT,bT,bT,bT,bT,bT,bT,bT,bT,bT,bT,bT,bT,bT,bT,bT,bT,bT,bT,bT,bT,bT,bT,bT,bT,bT,bf,bf,bf,bf,bf] (any_of HT_.out (by kernel_rfl)) ?_ ?_ ?_
            rotate_left
            ·intro w';go_simp;with_reducible rfl
            rotate_left
            ·simp only [Act.put,q_ia3,q_cz3,q_cs3,i64_w,i32_w];rfl
            refine pure_ (i:=41) (N:=some 82) (v:=undef) (a':=?_) #[bT,bT,bT,bT,bT,bT,bT,bT,bT,bT,bT,bT,bT,bT,bT,bT,bT,bT,bT,bT,bT,bT,bT,bT,bT,bT,bT,bT,bT,bT,bT,bT,bT,bT,bT,bT,bT,bT,bT,bT,bT,bT,bf,bf,bf,bf] rfl rfl (any_of HT_.out (by kernel_rfl)) (fun _ _ _ h => h) (Or.inr ⟨by rfl,rfl⟩) ?_ ?_
            rotate_left
            ·simp only [Act.put,q_ia3,q_cz3,q_cs3,i64_w,i32_w];rfl
            refine pure_ (i:=42) (N:=some 83) (v:=undef) (a':=?_) #[bT,bT,bT,bT,bT,bT,bT,bT,bT,bT,bT,bT,bT,bT,bT,bT,bT,bT,bT,bT,bT,bT,bT,bT,bT,bT,bT,bT,bT,bT,bT,bT,bT,bT,bT,bT,bT,bT,bT,bT,bT,bT,bT,bf,bf,bf] rfl rfl (any_of HT_.out (by kernel_rfl)) (fun _ _ _ h => h) (Or.inr ⟨by rfl,rfl⟩) ?_ ?_
            rotate_left
            ·simp only [Act.put,q_ia3,q_cz3,q_cs3,i64_w,i32_w];rfl
            refine pure_ (i:=43) (N:=some 84) (v:=undef) (a':=?_) #[bT,bT,bT,bT,bT,bT,bT,bT,bT,bT,bT,bT,bT,bT,bT,bT,bT,bT,bT,bT,bT,bT,bT,bT,bT,bT,bT,bT,bT,bT,bT,bT,bT,bT,bT,bT,bT,bT,bT,bT,bT,bT,bT,bT,bf,bf] rfl rfl (any_of HT_.out (by kernel_rfl)) (fun _ _ _ h => h) (Or.inr ⟨by rfl,rfl⟩) ?_ ?_
            rotate_left
            ·simp only [Act.put,q_ia3,q_cz3,q_cs3,i64_w,i32_w];rfl
            refine pQ (i:=44) (N:=some 85) (v:=?_) (a':=?_) #[bT,bT,bT,bT,bT,bT,bT,bT,bT,bT,bT,bT,bT,bT,bT,bT,bT,bT,bT,bT,bT,bT,bT,bT,bT,bT,bT,bT,bT,bT,bT,bT,bT,bT,bT,bT,bT,bT,bT,bT,bT,bT,bT,bT,bT,bf] (any_of HT_.out (by kernel_rfl)) ?_ ?_ ?_
            rotate_left
            ·intro w';go_simp;with_reducible rfl
            rotate_left
            ·simp only [Act.put,q_ia3,q_cz3,q_cs3,i64_w,i32_w];rfl
            refine pQ (i:=45) (N:=some 2) (v:=?_) (a':=?_) #[bT,bT,bT,bT,bT,bT,bT,bT,bT,bT,bT,bT,bT,bT,bT,bT,bT,bT,bT,bT,bT,bT,bT,bT,bT,bT,bT,bT,bT,bT,bT,bT,bT,bT,bT,bT,bT,bT,bT,bT,bT,bT,bT,bT,bT,bT] (any_of HT_.out (by kernel_rfl)) ?_ ?_ ?_
            rotate_left
            ·intro w';go_simp;with_reducible rfl
            rotate_left
            ·simp only [Act.put,q_ia3,q_cz3,q_cs3,i64_w,i32_w];rfl
            refine done_ (done_of HT_.out (by kernel_rfl)) ?_
            try go_wp2
            go_ret
            exact ⟨by first|rfl|(simp [errW_none,errW_some] <;> rfl)|(simp [*,errW_none,errW_some] <;> rfl),by repeat (first|(with_reducible first|exact HB.out|apply lA|apply lN|apply lD)|exact HB.out)⟩
          ·rw [if_neg c24] at H
           have c24b0 : (x6_16 == 1) = false:=beq_eq_false_iff_ne.mpr c24
           have c24b1 : (x6_16 != 1) = true:=bne_iff_ne.mpr c24
           obtain rfl:=Option.some.inj H
           obtain ⟨Ao83,co83,eo83⟩:=Kd.R_slice HO_5.out
           subst eo83
           have p194 : 0 ≤ (0 : Int):=(by omega)
           have q194 : 0 < (t188.length : Int):=of_decide_eq_true (by first|(with_reducible assumption)|assumption)
           obtain ⟨ad194,e194,hx194_0⟩:=Kd.at_int (rR HO_5.out).2.2 0 p194 q194
           cases e194
           have qi194 : (0 < t188.length) = True:=eq_true (by omega)
           (try rw [show ((0 : Int)).toNat = 0 from rfl] at hx194_0)
           (try rw [Addr.add_zero'] at hx194_0)
           replace p194:=eq_true p194
           replace q194:=eq_true q194
           try go_wp2_with (first|((with_reducible refine gate_callee (f:=14) rfl ?_);refine goesL_ (some 36) rfl rfl Tryd.func14 (by kernel_rfl) rfl #[.int .i64 (rd t188 0)] rfl (by (try simp only [List.map_toArray,List.map_cons,List.map_nil]);first|done|rfl|(simp only [List.length_drop,List.length_take];rfl)) ?_;(with_reducible refine (spec_Decimal.calls kj16 (rd t188 0) t195 _ A21.out).mono ?_);rintro e w84 ⟨rfl,hb⟩;refine ⟨_,rfl,?_⟩;have n0_:=aM (rH HO_5.out hb);have n1_:=aM (lQ HB.out hb);clear HO_5 HB;have HO_5:=n0_;have HB:=n1_;clear n0_ n1_;(try clear hb);(try clear hb2);(try clear hk);(try clear hi);have p196 : 0 ≤ (1 : Int):=(by omega);have q196 : 1 < (t188.length : Int):=of_decide_eq_true (by first|(with_reducible assumption)|assumption);obtain ⟨ad196,e196,hx196_0⟩:=Kd.at_int (rR HO_5.out).2.2 1 p196 q196;obtain rfl : ad194 = ad196:=(by injection e196);(try simp only [show (1 : Int).toNat = 1 from rfl,Nat.reduceMul,Nat.reduceEqDiff,Go.Addr.add,↓reduceIte] at hx196_0);have qi196 : (1 < t188.length) = True:=eq_true (by omega);(try rw [show ((1 : Int)).toNat = 1 from rfl] at hx196_0);replace p196:=eq_true p196;replace q196:=eq_true q196)|((with_reducible refine gate_callee (f:=14) rfl ?_);refine goesL_ (some 40) rfl rfl Tryd.func14 (by kernel_rfl) rfl #[.int .i64 (rd t188 1)] rfl (by (try simp only [List.map_toArray,List.map_cons,List.map_nil]);first|done|rfl|(simp only [List.length_drop,List.length_take];rfl)) ?_;(with_reducible refine (spec_Decimal.calls kj16 (rd t188 1) t197 _ A23.out).mono ?_);rintro e w85 ⟨rfl,hb⟩;refine ⟨_,rfl,?_⟩;have n0_:=aM (rH HO_5.out hb);have n1_:=aM (lQ HB.out hb);clear HO_5 HB;have HO_5:=n0_;have HB:=n1_;clear n0_ n1_;(try clear hb);(try clear hb2);(try clear hk);(try clear hi)))
           have n0_:=aM (rD HO_5.out)
           have n1_:=aM (lD HB.out)
           clear HO_5
           clear HB
           have HO_5:=n0_
           have HB:=n1_
           clear n0_ n1_
           refine start_ (n:=46) (S:=fun w' => True) (ds:=[]) #[bf,bf,bf,bf,bf,bf,bf,bf,bf,bf,bf,bf,bf,bf,bf,bf,bf,bf,bf,bf,bf,bf,bf,bf,bf,bf,bf,bf,bf,bf,bf,bf,bf,bf,bf,bf,bf,bf,bf,bf,bf,bf,bf,bf,bf,bf] (by kernel_rfl) rfl rfl trivial (fun hHeld => ?_);refine with_tabW laws_FnOrders.tab14 laws_FnOrders.bits14 (fun HT_ HW_ => ?_)
           generalize w85.drew = w86 at HO_5 HB hHeld ⊢
           refine pQ (i:=0) (N:=some 41) (v:=?_) (a':=?_) #[bT,bf,bf,bf,bf,bf,bf,bf,bf,bf,bf,bf,bf,bf,bf,bf,bf,bf,bf,bf,bf,bf,bf,bf,bf,bf,bf,bf,bf,bf,bf,bf,bf,bf,bf,bf,bf,bf,bf,bf,bf,bf,bf,bf,bf,bf] (any_of HT_.out (by kernel_rfl)) ?_ ?_ ?_
           rotate_left
           ·intro w';go_simp;with_reducible rfl
           rotate_left
           ·simp only [Act.put,q_ia3,q_cz3,q_cs3,i64_w,i32_w];rfl
           refine pQ (i:=1) (N:=some 42) (v:=?_) (a':=?_) #[bT,bT,bf,bf,bf,bf,bf,bf,bf,bf,bf,bf,bf,bf,bf,bf,bf,bf,bf,bf,bf,bf,bf,bf,bf,bf,bf,bf,bf,bf,bf,bf,bf,bf,bf,bf,bf,bf,bf,bf,bf,bf,bf,bf,bf,bf] (any_of HT_.out (by kernel_rfl)) ?_ ?_ ?_
           rotate_left
           ·intro w';go_simp;with_reducible rfl
           rotate_left
           ·simp only [Act.put,q_ia3,q_cz3,q_cs3,i64_w,i32_w];rfl
           refine pQ (i:=2) (N:=some 43) (v:=?_) (a':=?_) #[bT,bT,bT,bf,bf,bf,bf,bf,bf,bf,bf,bf,bf,bf,bf,bf,bf,bf,bf,bf,bf,bf,bf,bf,bf,bf,bf,bf,bf,bf,bf,bf,bf,bf,bf,bf,bf,bf,bf,bf,bf,bf,bf,bf,bf,bf] (any_of HT_.out (by kernel_rfl)) ?_ ?_ ?_
           rotate_left
           ·intro w';go_simp;with_reducible rfl
           rotate_left
           ·simp only [Act.put,q_ia3,q_cz3,q_cs3,i64_w,i32_w];rfl
           refine pure_ (i:=3) (N:=some 44) (v:=undef) (a':=?_) #[bT,bT,bT,bT,bf,bf,bf,bf,bf,bf,bf,bf,bf,bf,bf,bf,bf,bf,bf,bf,bf,bf,bf,bf,bf,bf,bf,bf,bf,bf,bf,bf,bf,bf,bf,bf,bf,bf,bf,bf,bf,bf,bf,bf,bf,bf] rfl rfl (any_of HT_.out (by kernel_rfl)) (fun _ _ _ h => h) (Or.inr ⟨by rfl,rfl⟩) ?_ ?_
           rotate_left
           ·simp only [Act.put,q_ia3,q_cz3,q_cs3,i64_w,i32_w];rfl
           refine pure_ (i:=4) (N:=some 45) (v:=undef) (a':=?_) #[bT,bT,bT,bT,bT,bf,bf,bf,bf,bf,bf,bf,bf,bf,bf,bf,bf,bf,bf,bf,bf,bf,bf,bf,bf,bf,bf,bf,bf,bf,bf,bf,bf,bf,bf,bf,bf,bf,bf,bf,bf,bf,bf,bf,bf,bf] rfl rfl (any_of HT_.out (by kernel_rfl)) (fun _ _ _ h => h) (Or.inr ⟨by rfl,rfl⟩) ?_ ?_
           rotate_left
           ·simp only [Act.put,q_ia3,q_cz3,q_cs3,i64_w,i32_w];rfl
           refine pure_ (i:=5) (N:=some 46) (v:=undef) (a':=?_) #[bT,bT,bT,bT,bT,bT,bf,bf,bf,bf,bf,bf,bf,bf,bf,bf,bf,bf,bf,bf,bf,bf,bf,bf,bf,bf,bf,bf,bf,bf,bf,bf,bf,bf,bf,bf,bf,bf,bf,bf,bf,bf,bf,bf,bf,bf] rfl rfl (any_of HT_.out (by kernel_rfl)) (fun _ _ _ h => h) (Or.inr ⟨by rfl,rfl⟩) ?_ ?_
           rotate_left
           ·simp only [Act.put,q_ia3,q_cz3,q_cs3,i64_w,i32_w];rfl
           refine pure_ (i:=6) (N:=some 47) (v:=undef) (a':=?_) #[bT,bT,bT,bT,bT,bT,bT,bf,bf,bf,bf,bf,bf,bf,bf,bf,bf,bf,bf,bf,bf,bf,bf,bf,bf,bf,bf,bf,bf,bf,bf,bf,bf,bf,bf,bf,bf,bf,bf,bf,bf,bf,bf,bf,bf,bf] rfl rfl (any_of HT_.out (by kernel_rfl)) (fun _ _ _ h => h) (Or.inr ⟨by rfl,rfl⟩) ?_ ?_
           rotate_left
           ·simp only [Act.put,q_ia3,q_cz3,q_cs3,i64_w,i32_w];rfl
           refine pure_ (i:=7) (N:=some 48) (v:=undef) (a':=?_) #[bT,bT,bT,bT,bT,bT,bT,bT,bf,bf,bf,bf,bf,bf,bf,bf,bf,bf,bf,bf,bf,bf,bf,bf,bf,bf,bf,bf,bf,bf,bf,bf,bf,bf,bf,bf,bf,bf,bf,bf,bf,bf,bf,bf,bf,bf] rfl rfl (any_of HT_.out (by kernel_rfl)) (fun _ _ _ h => h) (Or.inr ⟨by rfl,rfl⟩) ?_ ?_
           rotate_left
           ·simp only [Act.put,q_ia3,q_cz3,q_cs3,i64_w,i32_w];rfl
           refine pure_ (i:=8) (N:=some 49) (v:=undef) (a':=?_) #[bT,bT,bT,bT,bT,bT,bT,bT,bT,bf,bf,bf,bf,bf,bf,bf,bf,bf,bf,bf,bf,bf,bf,bf,bf,bf,bf,bf,bf,bf,bf,bf,bf,bf,bf,bf,bf,bf,bf,bf,bf,bf,bf,bf,bf,bf] rfl rfl (any_of HT_.out (by kernel_rfl)) (fun _ _ _ h => h) (Or.inr ⟨by rfl,rfl⟩) ?_ ?_
           rotate_left
           ·simp only [Act.put,q_ia3,q_cz3,q_cs3,i64_w,i32_w];rfl
           refine pure_ (i:=9) (N:=some 50) (v:=undef) (a':=?_) #[bT,bT,bT,bT,bT,bT,bT,bT,bT,bT,bf,bf,bf,bf,bf,bf,bf,bf,bf,bf,bf,bf,bf,bf,bf,bf,bf,bf,bf,bf,bf,bf,bf,bf,bf,bf,bf,bf,bf,bf,bf,bf,bf,bf,bf,bf] rfl rfl (any_of HT_.out (by kernel_rfl)) (fun _ _ _ h => h) (Or.inr ⟨by rfl,rfl⟩) ?_ ?_
           rotate_left
           ·simp only [Act.put,q_ia3,q_cz3,q_cs3,i64_w,i32_w];rfl
           refine pQ (i:=10) (N:=some 51) (v:=?_) (a':=?_) #[bT,bT,bT,bT,bT,bT,bT,bT,bT,bT,bT,bf,bf,bf,bf,bf,bf,bf,bf,bf,bf,bf,bf,bf,bf,bf,bf,bf,bf,bf,bf,bf,bf,bf,bf,bf,bf,bf,bf,bf,bf,bf,bf,bf,bf,bf] (any_of HT_.out (by kernel_rfl)) ?_ ?_ ?_
           rotate_left
           ·intro w';go_simp;with_reducible rfl
           rotate_left
           ·simp only [Act.put,q_ia3,q_cz3,q_cs3,i64_w,i32_w];rfl
           refine pQ (i:=11) (N:=some 52) (v:=?_) (a':=?_) #[bT,bT,bT,bT,bT,bT,bT,bT,bT,bT,bT,bT,bf,bf,bf,bf,bf,bf,bf,bf,bf,bf,bf,bf,bf,bf,bf,bf,bf,bf,bf,bf,bf,bf,bf,bf,bf,bf,bf,bf,bf,bf,bf,bf,bf,bf] (any_of HT_.out (by kernel_rfl)) ?_ ?_ ?_
           rotate_left
           ·intro w';go_simp;with_reducible rfl
           rotate_left
           ·simp only [Act.put,q_ia3,q_cz3,q_cs3,i64_w,i32_w];rfl
           refine pure_ (i:=12) (N:=some 53) (v:=undef) (a':=?_) #[bT,bT,bT,bT,bT,bT,bT,bT,bT,bT,bT,bT,bT,bf,bf,bf,bf,bf,bf,bf,bf,bf,bf,bf,bf,bf,bf,bf,bf,bf,bf,bf,bf,bf,bf,bf,bf,bf,bf,bf,bf,bf,bf,bf,bf,bf] rfl rfl (any_of HT_.out (by kernel_rfl)) (fun _ _ _ h => h) (Or.inr ⟨by rfl,rfl⟩) ?_ ?_
           rotate_left
           ·simp only [Act.put,q_ia3,q_cz3,q_cs3,i64_w,i32_w];rfl
           refine pure_ (i:=13) (N:=some 54) (v:=undef) (a':=?_) #[bT,bT,bT,bT,bT,bT,bT,bT,bT,bT,bT,bT,bT,bT,bf,bf,bf,bf,bf,bf,bf,bf,bf,bf,bf,bf,bf,bf,bf,bf,bf,bf,bf,bf,bf,bf,bf,bf,bf,bf,bf,bf,bf,bf,bf,bf] rfl rfl (any_of HT_.out (by kernel_rfl)) (fun _ _ _ h => h) (Or.inr ⟨by rfl,rfl⟩) ?_ ?_
           rotate_left
           ·simp only [Act.put,q_ia3,q_cz3,q_cs3,i64_w,i32_w];rfl
           refine pure_ (i:=14) (N:=some 55) (v:=undef) (a':=?_) #[bT,bT,bT,bT,bT,bT,bT,bT,bT,bT,bT,bT,bT,bT,bT,bf,bf,bf,bf,bf,bf,bf,bf,bf,bf,bf,bf,bf,bf,bf,bf,bf,bf,bf,bf,bf,bf,bf,bf,bf,bf,bf,bf,bf,bf,bf] rfl rfl (any_of HT_.out (by kernel_rfl)) (fun _ _ _ h => h) (Or.inr ⟨by rfl,rfl⟩) ?_ ?_
           rotate_left
           ·simp only [Act.put,q_ia3,q_cz3,q_cs3,i64_w,i32_w];rfl
           refine pure_ (i:=15) (N:=some 56) (v:=undef) (a':=?_) #[bT,bT,bT,bT,bT,bT,bT,bT,bT,bT,bT,bT,bT,bT,bT,bT,bf,bf,bf,bf,bf,bf,bf,bf,bf,bf,bf,bf,bf,bf,bf,bf,bf,bf,bf,bf,bf,bf,bf,bf,bf,bf,bf,bf,bf,bf] rfl rfl (any_of HT_.out (by kernel_rfl)) (fun _ _ _ h => h) (Or.inr ⟨by rfl,rfl⟩) ?_ ?_
           rotate_left
           ·simp only [Act.put,q_ia3,q_cz3,q_cs3,i64_w,i32_w];rfl
           refine pure_ (i:=16) (N:=some 57) (v:=undef) (a':=?_) #[bT,bT,bT,bT,bT,bT,bT,bT,bT,bT,bT,bT,bT,bT,bT,bT,bT,bf,bf,bf,bf,bf,bf,bf,bf,bf,bf,bf,bf,bf,bf,bf,bf,bf,bf,bf,bf,bf,bf,bf,bf,bf,bf,bf,bf,bf] rfl rfl (any_of HT_.out (by kernel_rfl)) (fun _ _ _ h => h) (Or.inr ⟨by rfl,rfl⟩) ?_ ?_
           rotate_left
           ·simp only [Act.put,q_ia3,q_cz3,q_cs3,i64_w,i32_w];rfl
           refine pure_ (i:=17) (N:=some 58) (v:=undef) (a':=?_) #[bT,bT,bT,bT,bT,bT,bT,bT,bT,bT,bT,bT,bT,bT,bT,bT,bT,bT,bf,bf,bf,bf,bf,bf,bf,bf,bf,bf,bf,bf,bf,bf,bf,bf,bf,bf,bf,bf,bf,bf,bf,bf,bf,bf,bf,bf] rfl rfl (any_of HT_.out (by kernel_rfl)) (fun _ _ _ h => h) (Or.inr ⟨by rfl,rfl⟩) ?_ ?_
           rotate_left
           ·simp only [Act.put,q_ia3,q_cz3,q_cs3,i64_w,i32_w];rfl
           refine pure_ (i:=18) (N:=some 59) (v:=undef) (a':=?_) #[bT,bT,bT,bT,bT,bT,bT,bT,bT,bT,bT,bT,bT,bT,bT,bT,bT,bT,bT,bf,bf,bf,bf,bf,bf,bf,bf,bf,bf,bf,bf,bf,bf,bf,bf,bf,bf,bf,bf,bf,bf,bf,bf,bf,bf,bf] rfl rfl (any_of HT_.out (by kernel_rfl)) (fun _ _ _ h => h) (Or.inr ⟨by rfl,rfl⟩) ?_ ?_
           rotate_left
           ·simp only [Act.put,q_ia3,q_cz3,q_cs3,i64_w,i32_w];rfl
           refine pQ (i:=19) (N:=some 60) (v:=?_) (a':=?_) #[bT,bT,bT,bT,bT,bT,bT,bT,bT,bT,bT,bT,bT,bT,bT,bT,bT,bT,bT,bT,bf,bf,bf,bf,bf,bf,bf,bf,bf,bf,bf,bf,bf,bf,bf,bf,bf,bf,bf,bf,bf,bf,bf,bf,bf,bf] (any_of HT_.out (by kernel_rfl)) ?_ ?_ ?_
           rotate_left
           ·intro w';go_simp;with_reducible rfl
           rotate_left
           ·simp only [Act.put,q_ia3,q_cz3,q_cs3,i64_w,i32_w];rfl
           refine pQ (i:=20) (N:=some 61) (v:=?_) (a':=?_) #[bT,bT,bT,bT,bT,bT,bT,bT,bT,bT,bT,bT,bT,bT,bT,bT,bT,bT,bT,bT,bT,bf,bf,bf,bf,bf,bf,bf,bf,bf,bf,bf,bf,bf,bf,bf,bf,bf,bf,bf,bf,bf,bf,bf,bf,bf] (any_of HT_.out (by kernel_rfl)) ?_ ?_ ?_
           rotate_left
           ·intro w';go_simp;with_reducible rfl
           rotate_left
           ·simp only [Act.put,q_ia3,q_cz3,q_cs3,i64_w,i32_w];rfl
           refine pure_ (i:=21) (N:=some 62) (v:=undef) (a':=?_) #[bT,bT,bT,bT,bT,bT,bT,bT,bT,bT,bT,bT,bT,bT,bT,bT,bT,bT,bT,bT,bT,bT,bf,bf,bf,bf,bf,bf,bf,bf,bf,bf,bf,bf,bf,bf,bf,bf,bf,bf,bf,bf,bf,bf,bf,bf] rfl rfl (any_of HT_.out (by kernel_rfl)) (fun _ _ _ h => h) (Or.inr ⟨by rfl,rfl⟩) ?_ ?_
           rotate_left
           ·simp only [Act.put,q_ia3,q_cz3,q_cs3,i64_w,i32_w];rfl
           refine pure_ (i:=22) (N:=some 63) (v:=undef) (a':=?_) #[bT,bT,bT,bT,bT,bT,bT,bT,bT,bT,bT,bT,bT,bT,bT,bT,bT,bT,bT,bT,bT,bT,bT,bf,bf,bf,bf,bf,bf,bf,bf,bf,bf,bf,bf,bf,bf,bf,bf,bf,bf,bf,bf,bf,bf,bf] rfl rfl (any_of HT_.out (by kernel_rfl)) (fun _ _ _ h => h) (Or.inr ⟨by rfl,rfl⟩) ?_ ?_
           rotate_left
           ·simp only [Act.put,q_ia3,q_cz3,q_cs3,i64_w,i32_w];rfl
           refine pure_ (i:=23) (N:=some 64) (v:=undef) (a':=?_) #[bT,bT,bT,bT,bT,bT,bT,bT,bT,bT,bT,bT,bT,bT,bT,bT,bT,bT,bT,bT,bT,bT,bT,bT,bf,bf,bf,bf,bf,bf,bf,bf,bf,bf,bf,bf,bf,bf,bf,bf,bf,bf,bf,bf,bf,bf] rfl rfl (any_of HT_.out (by kernel_rfl)) (fun _ _ _ h => h) (Or.inr ⟨by rfl,rfl⟩) ?_ ?_
           rotate_left
           ·simp only [Act.put,q_ia3,q_cz3,q_cs3,i64_w,i32_w];rfl
           refine pure_ (i:=24) (N:=some 65) (v:=undef) (a':=?_) #[bT,bT,bT,bT,bT,bT,bT,bT,bT,bT,bT,bT,bT,bT,bT,bT,bT,bT,bT,bT,bT,bT,bT,bT,bT,bf,bf,bf,bf,bf,bf,bf,bf,bf,bf,bf,bf,bf,bf,bf,bf,bf,bf,bf,bf,bf] rfl rfl (any_of HT_.out (by kernel_rfl)) (fun _ _ _ h => h) (Or.inr ⟨by rfl,rfl⟩) ?_ ?_
           rotate_left
           ·simp only [Act.put,q_ia3,q_cz3,q_cs3,i64_w,i32_w];rfl
           refine pure_ (i:=25) (N:=some 66) (v:=undef) (a':=?_) #[bT,bT,bT,bT,bT,bT,bT,bT,bT,bT,bT,bT,bT,bT,bT,bT,bT,bT,bT,bT,bT,bT,bT,bT,bT,bT,bf,bf,bf,bf,bf,bf,bf,bf,bf,bf,bf,bf,bf,bf,bf,bf,bf,bf,bf,bf] rfl rfl (any_of HT_.out (by kernel_rfl)) (fun _ _ _ h => h) (Or.inr ⟨by rfl,rfl⟩) ?_ ?_
           rotate_left
           ·simp only [Act.put,q_ia3,q_cz3,q_cs3,i64_w,i32_w];rfl
           refine pure_ (i:=26) (N:=some 67) (v:=undef) (a':=?_) #[bT,bT,bT,bT,bT,bT,bT,bT,bT,bT,bT,bT,bT,bT,bT,bT,bT,bT,bT,bT,bT,bT,bT,bT,bT,bT,bT,bf,bf,bf,bf,bf,bf,bf,bf,bf,bf,bf,bf,bf,bf,bf,bf,bf,bf,bf] rfl rfl (any_of HT_.out (by kernel_rfl)) (fun _ _ _ h => h) (Or.inr ⟨by rfl,rfl⟩) ?_ ?_
           rotate_left
           ·simp only [Act.put,q_ia3,q_cz3,q_cs3,i64_w,i32_w];rfl
           refine pure_ (i:=27) (N:=some 68) (v:=undef) (a':=?_) #[bT,bT,bT,bT,bT,bT,bT,bT,bT,bT,bT,bT,bT,bT,bT,bT,bT,bT,bT,bT,bT,bT,bT,bT,bT,bT,bT,bT,bf,bf,bf,bf,bf,bf,bf,bf,bf,bf,bf,bf,bf,bf,bf,bf,bf,bf] rfl rfl (any_of HT_.out (by kernel_rfl)) (fun _ _ _ h => h) (Or.inr ⟨by rfl,rfl⟩) ?_ ?_
           rotate_left
           ·simp only [Act.put,q_ia3,q_cz3,q_cs3,i64_w,i32_w];rfl
           refine pure_ (i:=28) (N:=some 69) (v:=undef) (a':=?_) #[bT,bT,bT,bT,bT,bT,bT,bT,bT,bT,bT,bT,bT,bT,bT,bT,bT,bT,bT,bT,bT,bT,bT,bT,bT,bT,bT,bT,bT,bf,bf,bf,bf,bf,bf,bf,bf,bf,bf,bf,bf,bf,bf,bf,bf,bf] rfl rfl (any_of HT_.out (by kernel_rfl)) (fun _ _ _ h => h) (Or.inr ⟨by rfl,rfl⟩) ?_ ?_
           rotate_left
           ·simp only [Act.put,q_ia3,q_cz3,q_cs3,i64_w,i32_w];rfl
           refine pure_ (i:=29) (N:=some 70) (v:=undef) (a':=?_) #[bT,bT,bT,bT,bT,bT,bT,bT,bT,bT,bT,bT,bT,bT,bT,bT,bT,bT,bT,bT,bT,bT,bT,bT,bT,bT,bT,bT,bT,bT,bf,bf,bf,bf,bf,bf,bf,bf,bf,bf,bf,bf,bf,bf,bf,bf] rfl rfl (any_of HT_.out (by kernel_rfl)) (fun _ _ _ h => h) (Or.inr ⟨by rfl,rfl⟩) ?_ ?_
           rotate_left
           ·simp only [Act.put,q_ia3,q_cz3,q_cs3,i64_w,i32_w];rfl
           refine pure_ (i:=30) (N:=some 71) (v:=undef) (a':=?_) #[bT,bT,bT,bT,bT,bT,bT,bT,bT,bT,bT,bT,bT,bT,bT,bT,bT,bT,bT,bT,bT,bT,bT,bT,bT,bT,bT,bT,bT,bT,bT,bf,bf,bf,bf,bf,bf,bf,bf,bf,bf,bf,bf,bf,bf,bf] rfl rfl (any_of HT_.out (by kernel_rfl)) (fun _ _ _ h => h) (Or.inr ⟨by rfl,rfl⟩) ?_ ?_
           rotate_left
           ·simp only [Act.put,q_ia3,q_cz3,q_cs3,i64_w,i32_w];rfl
           refine pure_ (i:=31) (N:=some 72) (v:=undef) (a':=?_) #[bT,bT,bT,bT,bT,bT,bT,bT,bT,bT,bT,bT,bT,bT,bT,bT,bT,bT,bT,bT,bT,bT,bT,bT,bT,bT,bT,bT,bT,bT,bT,bT,bf,bf,bf,bf,bf,bf,bf,bf,bf,bf,bf,bf,bf,bf] rfl rfl (any_of HT_.out (by kernel_rfl)) (fun _ _ _ h => h) (Or.inr ⟨by rfl,rfl⟩) ?_ ?_
           rotate_left
           ·simp only [Act.put,q_ia3,q_cz3,q_cs3,i64_w,i32_w];rfl
           refine pQ (i:=32) (N:=some 73) (v:=?_) (a':=?_) #[bT,bT,bT,bT,bT,bT,bT,bT,bT,bT,bT,bT,bT,bT,bT,bT,bT,bT,bT,bT,bT,bT,bT,bT,bT,bT,bT,bT,bT,bT,bT,bT,bT,bf,bf,bf,bf,bf,bf,bf,bf,bf,bf,bf,bf,bf] (any_of HT_.out (by kernel_rfl)) ?_ ?_ ?_
           rotate_left
           ·intro w';go_simp;with_reducible rfl
           rotate_left
           ·simp only [Act.put,q_ia3,q_cz3,q_cs3,i64_w,i32_w];rfl
           refine pQ (i:=33) (N:=some 74) (v:=?_) (a':=?_) #[bT,bT,bT,bT,bT,bT,bT,bT,bT,bT,bT,bT,bT,bT,bT,bT,bT,bT,bT,bT,bT,bT,bT,bT,bT,bT,bT,bT,bT,bT,bT,bT,bT,bT,bf,bf,bf,bf,bf,bf,bf,bf,bf,bf,bf,bf] (any_of HT_.out (by kernel_rfl)) ?_ ?_ ?_
           rotate_left
           ·intro w';go_simp;with_reducible rfl
           rotate_left
           ·simp only [Act.put,q_ia3,q_cz3,q_cs3,i64_w,i32_w];rfl
           refine pure_ (i:=34) (N:=some 75) (v:=undef) (a':=?_) #[bT,bT,bT,bT,bT,bT,bT,bT,bT,bT,bT,bT,bT,bT,bT,bT,bT,bT,bT,bT,bT,bT,bT,bT,bT,bT,bT,bT,bT,bT,bT,bT,bT,bT,bT,bf,bf,bf,bf,bf,bf,bf,bf,bf,bf,bf] rfl rfl (any_of HT_.out (by kernel_rfl)) (fun _ _ _ h => h) (Or.inr ⟨by rfl,rfl⟩) ?_ ?_
           rotate_left
           ·simp only [Act.put,q_ia3,q_cz3,q_cs3,i64_w,i32_w];rfl
           refine pQ (i:=35) (N:=some 76) (v:=?_) (a':=?_) #[bT,bT,bT,bT,bT,bT,bT,bT,bT,bT,bT,bT,bT,bT,bT,bT,bT,bT,bT,bT,bT,bT,bT,bT,bT,bT,bT,bT,bT,bT,bT,bT,bT,bT,bT,bT,bf,bf,bf,bf,bf,bf,bf,bf,bf,bf] (any_of HT_.out (by kernel_rfl)) ?_ ?_ ?_
           rotate_left
           ·intro w';go_simp;with_reducible rfl
           rotate_left
           ·simp only [Act.put,q_ia3,q_cz3,q_cs3,i64_w,i32_w];rfl
           refine pQ (i:=36) (N:=some 77) (v:=?_) (a':=?_) #[bT,bT,bT,bT,bT,bT,bT,bT,bT,bT,bT,bT,bT,bT,bT,bT,bT,bT,bT,bT,bT,bT,bT,bT,bT,bT,bT,bT,bT,bT,bT,bT,bT,bT,bT,bT,bT,bf,bf,bf,bf,bf,bf,bf,bf,bf] (any_of HT_.out (by kernel_rfl)) ?_ ?_ ?_
           rotate_left
           ·intro w';go_simp;with_reducible rfl
           rotate_left
           ·simp only [Act.put,q_ia3,q_cz3,q_cs3,i64_w,i32_w];rfl
           refine pure_ (i:=37) (N:=some 78) (v:=undef) (a':=?_) #[bT,bT,bT,bT,bT,bT,bT,bT,bT,bT,bT,bT,bT,bT,bT,bT,bT,bT,bT,bT,bT,bT,bT,bT,bT,bT,bT,bT,bT,bT,bT,bT,bT,bT,bT,bT,bT,bT,bf,bf,bf,bf,bf,bf,bf,bf] rfl rfl (any_of HT_.out (by kernel_rfl)) (fun _ _ _ h => h) (Or.inr ⟨by rfl,rfl⟩) ?_ ?_
           rotate_left
           ·simp only [Act.put,q_ia3,q_cz3,q_cs3,i64_w,i32_w];rfl
           refine pure_ (i:=38) (N:=some 79) (v:=undef) (a':=?_) #[bT,bT,bT,bT,bT,bT,bT,bT,bT,bT,bT,bT,bT,bT,bT,bT,bT,bT,bT,bT,bT,bT,bT,bT,bT,bT,bT,bT,bT,bT,bT,bT,bT,bT,bT,bT,bT,bT,bT,bf,bf,bf,bf,bf,bf,bf] rfl rfl (any_of HT_.out (by kernel_rfl)) (fun _ _ _ h => h) (Or.inr ⟨by rfl,rfl⟩) ?_ ?_
           rotate_left
           ·simp only [Act.put,q_ia3,q_cz3,q_cs3,i64_w,i32_w];rfl
           refine pQ (i:=39) (N:=some 80) (v:=?_) (a':=?_) #[bT,bT,bT,bT,bT,bT,bT,bT,bT,bT,bT,bT,bT,bT,bT,bT,bT,bT,bT,bT,bT,bT,bT,bT,bT,bT,bT,bT,bT,bT,bT,bT,bT,bT,bT,bT,bT,bT,bT,bT,bf,bf,bf,bf,bf,bf] (any_of HT_.out (by kernel_rfl)) ?_ ?_ ?_
           rotate_left
           ·intro w';go_simp;with_reducible rfl
           rotate_left
           ·simp only [Act.put,q_ia3,q_cz3,q_cs3,i64_w,i32_w];rfl
           refine pQ (i:=40) (N:=some 81) (v:=?_) (a':=?_) #[bT,bT,bT,bT,bT,bT,bT,bT,bT,bT,bT,bT,bT,bT,bT,bT,bT,bT,bT,bT,bT,bT,bT,bT,bT,bT,bT,bT,bT,bT,bT,bT,bT,bT,bT,bT,bT,bT,bT,bT,bT,bf,bf,bf,bf,bf] (any_of HT_.out (by kernel_rfl)) ?_ ?_ ?_
           rotate_left
           ·intro w';go_simp;with_reducible rfl
           rotate_left
           ·simp only [Act.put,q_ia3,q_cz3,q_cs3,i64_w,i32_w];rfl
           refine pure_ (i:=41) (N:=some 82) (v:=undef) (a':=?_) #[bT,bT,bT,bT,bT,bT,bT,bT,bT,bT,bT,bT,bT,bT,bT,bT,bT,bT,bT,bT,bT,bT,bT,bT,bT,bT,bT,bT,bT,bT,bT,bT,bT,bT,bT,bT,bT,bT,bT,bT,bT,bT,bf,bf,bf,bf] rfl rfl (any_of HT_.out (by kernel_rfl)) (fun _ _ _ h => h) (Or.inr ⟨by rfl,rfl⟩) ?_ ?_
           rotate_left
           ·simp only [Act.put,q_ia3,q_cz3,q_cs3,i64_w,i32_w];rfl
           refine pure_ (i:=42) (N:=some 83) (v:=undef) (a':=?_) #[bT,bT,bT,bT,bT,bT,bT,bT,bT,bT,bT,bT,bT,bT,bT,bT,bT,bT,bT,bT,bT,bT,bT,bT,bT,bT,bT,bT,bT,bT,bT,bT,bT,bT,bT,bT,bT,bT,bT,bT,bT,bT,bT,bf,bf,bf] rfl rfl (any_of HT_.out (by kernel_rfl)) (fun _ _ _ h => h) (Or.inr ⟨by rfl,rfl⟩) ?_ ?_
           rotate_left
           ·simp only [Act.put,q_ia3,q_cz3,q_cs3,i64_w,i32_w];rfl
           refine pure_ (i:=43) (N:=some 84) (v:=undef) (a':=?_) #[bT,bT,bT,bT,bT,bT,bT,bT,bT,bT,bT,bT,bT,bT,bT,bT,bT,bT,bT,bT,bT,bT,bT,bT,bT,bT,bT,bT,bT,bT,bT,bT,bT,bT,bT,bT,bT,bT,bT,bT,bT,bT,bT,bT,bf,bf] rfl rfl (any_of HT_.out (by kernel_rfl)) (fun _ _ _ h => h) (Or.inr ⟨by rfl,rfl⟩) ?_ ?_
           rotate_left
           ·simp only [Act.put,q_ia3,q_cz3,q_cs3,i64_w,i32_w];rfl
           refine pQ (i:=44) (N:=some 85) (v:=?_) (a':=?_) #[bT,bT,bT,bT,bT,bT,bT,bT,bT,bT,bT,bT,bT,bT,bT,bT,bT,bT,bT,bT,bT,bT,bT,bT,bT,bT,bT,bT,bT,bT,bT,bT,bT,bT,bT,bT,bT,bT,bT,bT,bT,bT,bT,bT,bT,bf] (any_of HT_.out (by kernel_rfl)) ?_ ?_ ?_
           rotate_left
           ·intro w';go_simp;with_reducible rfl
           rotate_left
           ·simp only [Act.put,q_ia3,q_cz3,q_cs3,i64_w,i32_w];rfl
           refine pQ (i:=45) (N:=some 2) (v:=?_) (a':=?_) #[bT,bT,bT,bT,bT,bT,bT,bT,bT,bT,bT,bT,bT,bT,bT,bT,bT,bT,bT,bT,bT,bT,bT,bT,bT,bT,bT,bT,bT,bT,bT,bT,bT,bT,bT,bT,bT,bT,bT,bT,bT,bT,bT,bT,bT,bT] (any_of HT_.out (by kernel_rfl)) ?_ ?_ ?_
           rotate_left
           ·intro w';go_simp;with_reducible rfl
           rotate_left
           ·simp only [Act.put,q_ia3,q_cz3,q_cs3,i64_w,i32_w];rfl
           refine done_ (done_of HT_.out (by kernel_rfl)) ?_
           try go_wp2
           go_ret
           exact ⟨by first|rfl|(simp [errW_none,errW_some] <;> rfl)|(simp [*,errW_none,errW_some] <;> rfl),by repeat (first|(with_reducible first|exact HB.out|apply lA|apply lN|apply lD)|exact HB.out)⟩
         ·rw [if_neg c22] at H
          exact absurd H (by simp)
        ·rw [if_neg c20] at H
         exact absurd H (by simp)

/-- THE ONE PURE STATEMENT of laws_FnOrders: yours. -/
def laws_FnOrders.Pure : Prop:=∀ (l0 : List Int),l0.length ≤ maxLen → l0.length * 1 ≤ 140737488351232 → (∀ x ∈ l0,(Lit.int .u8 x).wf = true) → ∃ k,laws_FnOrders.f k l0 = some true
theorem laws_FnOrders.walk (P : laws_FnOrders.Pure) (a0 : Option Addr) (len0 cap0 : Nat) (z0 : List Int) (w : World) (w0 : (a0 = none ∧ len0 = 0 ∧ cap0 = 0 ∧ z0 = []) ∨ ∃ x,a0 = some x ∧ len0 ≤ cap0 ∧ cap0 ≤ maxLen ∧ z0.length = cap0 ∧ (∀ i,i < z0.length → w.cell? (x.add i) = some (.int .u8 (z0.getD i 0))) ∧ ∀ n ∈ z0,(Lit.int .u8 n).wf = true) (y0 : len0 * 1 ≤ 140737488351232) :
  Calls Tryd.prog 9 #[.slice a0 len0 cap0] w fun e w' => e = .returned (.bool true) ∧ Below w.heap.size w w':=by
 obtain ⟨l0,rfl,hr0,hm0,hw0,hc0⟩:=ReadsInt.ofRowC w0
 obtain ⟨k,h⟩:=P l0 hm0 y0 hw0
 refine (laws_FnOrders.calls k _ _ l0 true w (Kd.C_of_reads (d:=(0 : Int)) (h1:=fun _ => rfl) hr0) hc0 h).mono ?_
 rintro e w' ⟨rfl,hd⟩
 exact ⟨rfl,hd⟩

end Go.Proofs.YtkgpokiglanjfaaDoor.QFnOrders
