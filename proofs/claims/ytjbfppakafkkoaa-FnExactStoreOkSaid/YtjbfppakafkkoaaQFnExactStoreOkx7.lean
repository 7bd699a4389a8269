-- A text of this session, made by wip/own_print.py (the kit's print with additions of ours).
import Derived.Test.YtjbfppakafkkoaaQFnExactStoreOkx0
import Derived.Test.YtjbfppakafkkoaaQFnExactStoreOkx1
import Derived.Test.YtjbfppakafkkoaaQFnExactStoreOkx3
import Derived.Test.YtjbfppakafkkoaaQFnExactStoreOkx4
import Derived.Test.YtjbfppakafkkoaaQFnExactStoreOkx6
namespace Go.Proofs.Ytjbfppakafkkoaa.QFnExactStoreOk
open Go.RowKit Go.Proofs.YtjbfppakafkkoaaW.PrintWords Go.Proofs.YtjbfppakafkkoaaW.PrintLast Go.Proofs.YtjbfppakafkkoaaW.PrintMore
attribute [local go_sem] max2_int min2_int max_two min_two max_three min_three max_four min_four   -- for this text's walks alone
set_option linter.unusedVariables false
set_option linter.unusedSimpArgs false
open Bool renaming true → bT, false → bf
open Go.Proofs.YtjbfppakafkkoaaW.PrintWords.Kd renaming R_alloc → rA, R_drewN → rN, R_drew → rD, C_alloc → cA, C_drewN → cN, C_drew → cD, R_far → rF, R_below → rB, R_lower → rL, R_lt → rT, R_base → rS, C_below → cB, R_types → rY, R_elder' → rE, R_reads' → rR, R_new' → rW
open Go.Proofs.YtjbfppakafkkoaaW.PrintWords renaming blk_drewN → bN, blk_drew → bD, blk_alloc → bA, below_set → lS, pw_below_drewN → lN, below_drew1 → lD, below_alloc → lA, blk_cell → bC, blk_below → bB, below_size → lZ, below_step → lP, blk_lt → bL, blk_frozen → bF
open Go.Proofs.YtjbfppakafkkoaaW.PrintWords.Aside0 renaming mk → aM
theorem q_ia6 {α : Type} (l : List α) (i : Nat) (a : α) : l.toArray.setIfInBounds i a = (l.set i a).toArray := List.setIfInBounds_toArray ..
theorem q_cz6 {α : Type} (a b : α) (l : List α) : (a :: l).set 0 b = b :: l := rfl
theorem q_cs6 {α : Type} (a b : α) (l : List α) (n : Nat) : (a :: l).set (n + 1) b = a :: l.set n b := rfl

/-! ### laws_FnExactStoreOk: function 14 -/
def laws_FnExactStoreOk.f (k : Nat) (l0_0 : List (S141)) (l0_1 : List (S143)) (a0_2 : ByteArray) : Option (Bool) := (laws_szStore.f k l0_0 l0_1 a0_2 1048576).bind fun t187 => (if t187 < 0 then (some true) else ((laws_toStore.f k l0_0 l0_1 a0_2).bind fun bt188 => ((spec_StoreOk.f k bt188.1 bt188.2.1 bt188.2.2).bind fun t195 => ((laws_toStore.f k l0_0 l0_1 a0_2).bind fun bt196 => ((impl_StoreOk.f k bt196.1 bt196.2.1 bt196.2.2).bind fun t204 => (if (t204 != t195) = true then (some false) else ((laws_toStore.f k l0_0 l0_1 a0_2).bind fun bt205 => ((laws_eqStore.f k bt196.1 bt196.2.1 bt196.2.2 bt205.1 bt205.2.1 bt205.2.2).bind fun t212 => (if t212 = true then (some true) else (some false))))))))))
theorem laws_FnExactStoreOk.mono : ∀ a0 a1 a2 k, LeO (laws_FnExactStoreOk.f k a0 a1 a2) (laws_FnExactStoreOk.f (k + 1) a0 a1 a2) := by
 intro a0 a1 a2 k
 unfold laws_FnExactStoreOk.f
 repeat' first
   | (with_reducible exact impl_StoreOk.mono _ _ _ _)
   | (with_reducible exact laws_eqStore.mono _ _ _ _ _ _ _)
   | (with_reducible exact laws_szStore.mono _ _ _ _ _)
   | (with_reducible exact laws_toStore.mono _ _ _ _)
   | (with_reducible exact spec_StoreOk.mono _ _ _ _)
   | (with_reducible exact LeO.refl _)
   | (with_reducible exact LeO.none _)
   | (with_reducible refine LeO.ite ?_ ?_)
   | (with_reducible refine LeO.bind ?_ (fun _ => ?_))
   | exact impl_StoreOk.mono _ _ _ _
   | exact laws_eqStore.mono _ _ _ _ _ _ _
   | exact laws_szStore.mono _ _ _ _ _
   | exact laws_toStore.mono _ _ _ _
   | exact spec_StoreOk.mono _ _ _ _
   | exact LeO.none _
   | refine LeO.ite ?_ ?_
   | refine LeO.bind ?_ (fun _ => ?_)
set_option maxHeartbeats 8000000 in
set_option maxRecDepth 100000 in
theorem laws_FnExactStoreOk.calls (k : Nat) (A0_0 : Option Addr) (c0_0 : Nat) (l0_0 : List (S141)) (A0_1 : Option Addr) (c0_1 : Nat) (l0_1 : List (S143)) (a0_2 : ByteArray) (r : Bool) (w : World) (hr0_0 : Kd.C k141 w A0_0 l0_0.length l0_0) (hc0_0 : l0_0.length ≤ c0_0) (hr0_1 : Kd.C k143 w A0_1 l0_1.length l0_1) (hc0_1 : l0_1.length ≤ c0_1) (h : laws_FnExactStoreOk.f k l0_0 l0_1 a0_2 = some r) :
  Calls Try.prog 14 #[.agg #[.slice A0_0 l0_0.length c0_0,.slice A0_1 l0_1.length c0_1,.string a0_2]] w fun e w' => e = .returned (.bool r) ∧ Below w.heap.size w w':=by
 have hu48:=Try.underlying48
 have hu54:=Try.underlying54
 have HR0_0:=aM hr0_0
 have HC0_0:=aM hc0_0
 clear hr0_0 hc0_0
 have HR0_1:=aM hr0_1
 have HC0_1:=aM hc0_1
 clear hr0_1 hc0_1
 have HB:=aM (Below.refl w.heap.size w)
 have H : ((laws_szStore.f k l0_0 l0_1 a0_2 1048576).bind fun t187 => (if t187 < 0 then (some true) else ((laws_toStore.f k l0_0 l0_1 a0_2).bind fun bt188 => ((spec_StoreOk.f k bt188.1 bt188.2.1 bt188.2.2).bind fun t195 => ((laws_toStore.f k l0_0 l0_1 a0_2).bind fun bt196 => ((impl_StoreOk.f k bt196.1 bt196.2.1 bt196.2.2).bind fun t204 => (if (t204 != t195) = true then (some false) else ((laws_toStore.f k l0_0 l0_1 a0_2).bind fun bt205 => ((laws_eqStore.f k bt196.1 bt196.2.1 bt196.2.2 bt205.1 bt205.2.1 bt205.2.2).bind fun t212 => (if t212 = true then (some true) else (some false))))))))))) = some r:=h
 clear h
 replace H:=Option.bind_eq_some_iff.mp H
 obtain ⟨t187,A20,H⟩:=H
 replace H : (if t187 < 0 then (some true) else ((laws_toStore.f k l0_0 l0_1 a0_2).bind fun bt188 => ((spec_StoreOk.f k bt188.1 bt188.2.1 bt188.2.2).bind fun t195 => ((laws_toStore.f k l0_0 l0_1 a0_2).bind fun bt196 => ((impl_StoreOk.f k bt196.1 bt196.2.1 bt196.2.2).bind fun t204 => (if (t204 != t195) = true then (some false) else ((laws_toStore.f k l0_0 l0_1 a0_2).bind fun bt205 => ((laws_eqStore.f k bt196.1 bt196.2.1 bt196.2.2 bt205.1 bt205.2.1 bt205.2.2).bind fun t212 => (if t212 = true then (some true) else (some false)))))))))) = some r:=H
 have A2:=aM A20
 clear A20
 by_cases c3 : t187 < 0
 ·rw [if_pos c3] at H
  have c3b0 : decide (t187 < 0) = true:=decide_eq_true c3
  clear c3
  obtain rfl:=Option.some.inj H
  go_enter Try.func14,Try.ntmps14
  go_wp2_with (first|((with_reducible refine gate_dst (N:=1) rfl ?_);refine box_event ?hg (N:=1) ?hd (cs:=#[.slice A0_0 l0_0.length c0_0,.slice A0_1 l0_1.length c0_1,.string a0_2]) (t:=48) ?hr ?_;(case hd => rfl);(case hg => rfl);(case hr => first|(go_simp;done)|(go_simp;rfl));intro gb186 hg w4 hbox hb;have n0_:=aM (lP (by repeat (first|(with_reducible first|exact HB.out|apply lA|apply lN|apply lD)|exact HB.out)) hb);have n1_:=aM (hbox);have n2_:=aM ((by rw [hg];exact (lZ (by repeat (first|(with_reducible first|exact HB.out|apply lA|apply lN|apply lD)|exact HB.out))) : w.heap.size ≤ gb186));have n3_:=aM ((by rw [hg];exact (lZ (by repeat (first|(with_reducible first|exact HB.out|apply lA|apply lN|apply lD)|exact HB.out))) : w.heap.size ≤ gb186));clear HB;have HB:=n0_;have BK186:=n1_;have GW186:=n2_;have GE186:=n3_;clear n0_ n1_ n2_ n3_ hb hbox hg;have hcz5_0 : w4.cell? ⟨gb186,0,none⟩ = some (.slice A0_0 l0_0.length c0_0):=(bC BK186.out 0).trans rfl;have hcz5_1 : w4.cell? ⟨gb186,1,none⟩ = some (.slice A0_1 l0_1.length c0_1):=(bC BK186.out 1).trans rfl;have hcz5_2 : w4.cell? ⟨gb186,2,none⟩ = some (.string a0_2):=(bC BK186.out 2).trans rfl;have hfz5_0:=bF BK186.out 0;have hfz5_1:=bF BK186.out 1;have hfz5_2:=bF BK186.out 2)|((with_reducible refine gate_callee (f:=34) rfl ?_);refine goesL_ (some 9) rfl rfl Try.func34 (by kernel_rfl) rfl #[.agg #[.slice A0_0 l0_0.length c0_0,.slice A0_1 l0_1.length c0_1,.string a0_2],.int .i64 1048576] rfl (by (try simp only [List.map_toArray,List.map_cons,List.map_nil]);first|done|rfl|(simp only [List.length_drop,List.length_take];rfl)) ?_;(with_reducible refine (laws_szStore.calls k _ _ l0_0 _ _ l0_1 a0_2 1048576 t187 _ ?side1 ?side2 ?side3 ?side4 A2.out).mono ?_);(case side1 => repeat (first|exact (cB HR0_0.out HB.out)|(with_reducible first|refine cA ?_ _|refine cN ?_ _|refine cD ?_)));(case side2 => exact HC0_0.out);(case side3 => repeat (first|exact (cB HR0_1.out HB.out)|(with_reducible first|refine cA ?_ _|refine cN ?_ _|refine cD ?_)));(case side4 => exact HC0_1.out);rintro e w6 ⟨rfl,hb⟩;refine ⟨_,rfl,?_⟩;have n0_:=aM (bB (g:=gb186) (o:=.cells #[.slice A0_0 l0_0.length c0_0,.slice A0_1 l0_1.length c0_1,.string a0_2] 48 (0,0)) (by (with_reducible repeat (first|refine bN ?_ _|refine bD ?_|refine bA ?_ _));exact BK186.out) hb);have n1_:=aM (lP (by repeat (first|(with_reducible first|exact HB.out|apply lA|apply lN|apply lD|refine lS ?_ GE186.out)|exact HB.out)) hb);clear BK186 HB;have BK186:=n0_;have HB:=n1_;clear n0_ n1_;(try clear hb);(try clear hb2);(try clear hk);(try clear hi)))
  go_ret
  exact ⟨by first|rfl|(simp [errW_none,errW_some] <;> rfl)|(simp [*,errW_none,errW_some] <;> rfl),by repeat (first|(with_reducible first|exact HB.out|apply lA|apply lN|apply lD|refine lS ?_ GE186.out)|exact HB.out)⟩
 ·rw [if_neg c3] at H
  have c3b0 : decide (t187 < 0) = false:=decide_eq_false c3
  clear c3
  replace H:=Option.bind_eq_some_iff.mp H
  obtain ⟨⟨t188,t191,t194⟩,A70,H⟩:=H
  replace H : ((spec_StoreOk.f k t188 t191 t194).bind fun t195 => ((laws_toStore.f k l0_0 l0_1 a0_2).bind fun bt196 => ((impl_StoreOk.f k bt196.1 bt196.2.1 bt196.2.2).bind fun t204 => (if (t204 != t195) = true then (some false) else ((laws_toStore.f k l0_0 l0_1 a0_2).bind fun bt205 => ((laws_eqStore.f k bt196.1 bt196.2.1 bt196.2.2 bt205.1 bt205.2.1 bt205.2.2).bind fun t212 => (if t212 = true then (some true) else (some false)))))))) = some r:=H
  have A7:=aM A70
  clear A70
  replace H:=Option.bind_eq_some_iff.mp H
  obtain ⟨t195,A80,H⟩:=H
  replace H : ((laws_toStore.f k l0_0 l0_1 a0_2).bind fun bt196 => ((impl_StoreOk.f k bt196.1 bt196.2.1 bt196.2.2).bind fun t204 => (if (t204 != t195) = true then (some false) else ((laws_toStore.f k l0_0 l0_1 a0_2).bind fun bt205 => ((laws_eqStore.f k bt196.1 bt196.2.1 bt196.2.2 bt205.1 bt205.2.1 bt205.2.2).bind fun t212 => (if t212 = true then (some true) else (some false))))))) = some r:=H
  have A8:=aM A80
  clear A80
  replace H:=Option.bind_eq_some_iff.mp H
  obtain ⟨⟨t196,t199,t202⟩,A90,H⟩:=H
  replace H : ((impl_StoreOk.f k t196 t199 t202).bind fun t204 => (if (t204 != t195) = true then (some false) else ((laws_toStore.f k l0_0 l0_1 a0_2).bind fun bt205 => ((laws_eqStore.f k t196 t199 t202 bt205.1 bt205.2.1 bt205.2.2).bind fun t212 => (if t212 = true then (some true) else (some false)))))) = some r:=H
  have A9:=aM A90
  clear A90
  replace H:=Option.bind_eq_some_iff.mp H
  obtain ⟨t204,A100,H⟩:=H
  replace H : (if (t204 != t195) = true then (some false) else ((laws_toStore.f k l0_0 l0_1 a0_2).bind fun bt205 => ((laws_eqStore.f k t196 t199 t202 bt205.1 bt205.2.1 bt205.2.2).bind fun t212 => (if t212 = true then (some true) else (some false))))) = some r:=H
  have A10:=aM A100
  clear A100
  by_cases c11 : (t204 != t195) = true
  ·rw [if_pos c11] at H
   have c11b0 : (t204 != t195) = true:=c11
   (try (have c11b1 : decide (t204 = t195) = false:=by simpa using c11))
   (try (have c11b2 : (t204 == t195) = false:=by simpa using c11))
   (try (have c11b3 : ¬ (t204 = t195):=by simpa using c11))
   clear c11
   obtain rfl:=Option.some.inj H
   go_enter Try.func14,Try.ntmps14
   go_wp2_with (first|((with_reducible refine gate_dst (N:=1) rfl ?_);refine box_event ?hg (N:=1) ?hd (cs:=#[.slice A0_0 l0_0.length c0_0,.slice A0_1 l0_1.length c0_1,.string a0_2]) (t:=48) ?hr ?_;(case hd => rfl);(case hg => rfl);(case hr => first|(go_simp;done)|(go_simp;rfl));intro gb186 hg w12 hbox hb;have n0_:=aM (lP (by repeat (first|(with_reducible first|exact HB.out|apply lA|apply lN|apply lD)|exact HB.out)) hb);have n1_:=aM (hbox);have n2_:=aM ((by rw [hg];exact (lZ (by repeat (first|(with_reducible first|exact HB.out|apply lA|apply lN|apply lD)|exact HB.out))) : w.heap.size ≤ gb186));have n3_:=aM ((by rw [hg];exact (lZ (by repeat (first|(with_reducible first|exact HB.out|apply lA|apply lN|apply lD)|exact HB.out))) : w.heap.size ≤ gb186));clear HB;have HB:=n0_;have BK186:=n1_;have GW186:=n2_;have GE186:=n3_;clear n0_ n1_ n2_ n3_ hb hbox hg;have hcz13_0 : w12.cell? ⟨gb186,0,none⟩ = some (.slice A0_0 l0_0.length c0_0):=(bC BK186.out 0).trans rfl;have hcz13_1 : w12.cell? ⟨gb186,1,none⟩ = some (.slice A0_1 l0_1.length c0_1):=(bC BK186.out 1).trans rfl;have hcz13_2 : w12.cell? ⟨gb186,2,none⟩ = some (.string a0_2):=(bC BK186.out 2).trans rfl;have hfz13_0:=bF BK186.out 0;have hfz13_1:=bF BK186.out 1;have hfz13_2:=bF BK186.out 2)|((with_reducible refine gate_callee (f:=34) rfl ?_);refine goesL_ (some 9) rfl rfl Try.func34 (by kernel_rfl) rfl #[.agg #[.slice A0_0 l0_0.length c0_0,.slice A0_1 l0_1.length c0_1,.string a0_2],.int .i64 1048576] rfl (by (try simp only [List.map_toArray,List.map_cons,List.map_nil]);first|done|rfl|(simp only [List.length_drop,List.length_take];rfl)) ?_;(with_reducible refine (laws_szStore.calls k _ _ l0_0 _ _ l0_1 a0_2 1048576 t187 _ ?side1 ?side2 ?side3 ?side4 A2.out).mono ?_);(case side1 => repeat (first|exact (cB HR0_0.out HB.out)|(with_reducible first|refine cA ?_ _|refine cN ?_ _|refine cD ?_)));(case side2 => exact HC0_0.out);(case side3 => repeat (first|exact (cB HR0_1.out HB.out)|(with_reducible first|refine cA ?_ _|refine cN ?_ _|refine cD ?_)));(case side4 => exact HC0_1.out);rintro e w14 ⟨rfl,hb⟩;refine ⟨_,rfl,?_⟩;have n0_:=aM (bB (g:=gb186) (o:=.cells #[.slice A0_0 l0_0.length c0_0,.slice A0_1 l0_1.length c0_1,.string a0_2] 48 (0,0)) (by (with_reducible repeat (first|refine bN ?_ _|refine bD ?_|refine bA ?_ _));exact BK186.out) hb);have n1_:=aM (lP (by repeat (first|(with_reducible first|exact HB.out|apply lA|apply lN|apply lD|refine lS ?_ GE186.out)|exact HB.out)) hb);clear BK186 HB;have BK186:=n0_;have HB:=n1_;clear n0_ n1_;(try clear hb);(try clear hb2);(try clear hk);(try clear hi);have hcz15_0 : w14.cell? ⟨gb186,0,none⟩ = some (.slice A0_0 l0_0.length c0_0):=(bC BK186.out 0).trans rfl;have hcz15_1 : w14.cell? ⟨gb186,1,none⟩ = some (.slice A0_1 l0_1.length c0_1):=(bC BK186.out 1).trans rfl;have hcz15_2 : w14.cell? ⟨gb186,2,none⟩ = some (.string a0_2):=(bC BK186.out 2).trans rfl;have hfz15_0:=bF BK186.out 0;have hfz15_1:=bF BK186.out 1;have hfz15_2:=bF BK186.out 2)|((with_reducible refine gate_callee (f:=36) rfl ?_);refine goesL_ (some 13) rfl rfl Try.func36 (by kernel_rfl) rfl #[.agg #[.slice A0_0 l0_0.length c0_0,.slice A0_1 l0_1.length c0_1,.string a0_2]] rfl (by (try simp only [List.map_toArray,List.map_cons,List.map_nil]);first|done|rfl|(simp only [List.length_drop,List.length_take];rfl)) ?_;(with_reducible refine (laws_toStore.calls k _ _ l0_0 _ _ l0_1 a0_2 t188 t191 t194 _ ?side1 ?side2 ?side3 ?side4 A7.out).mono ?_);(case side1 => repeat (first|exact (cB HR0_0.out HB.out)|(with_reducible first|refine cA ?_ _|refine cN ?_ _|refine cD ?_)));(case side2 => exact HC0_0.out);(case side3 => repeat (first|exact (cB HR0_1.out HB.out)|(with_reducible first|refine cA ?_ _|refine cN ?_ _|refine cD ?_)));(case side4 => exact HC0_1.out);rintro e w16 ⟨v189,v192,rfl,ho0,ho1,hb⟩;refine ⟨_,rfl,?_⟩;have n0_:=aM (rL ho0 (lZ (by repeat (first|(with_reducible first|exact HB.out|apply lA|apply lN|apply lD|refine lS ?_ GE186.out)|exact HB.out))));have n1_:=aM (rL ho1 (lZ (by repeat (first|(with_reducible first|exact HB.out|apply lA|apply lN|apply lD|refine lS ?_ GE186.out)|exact HB.out))));have n2_:=aM (bB (g:=gb186) (o:=.cells #[.slice A0_0 l0_0.length c0_0,.slice A0_1 l0_1.length c0_1,.string a0_2] 48 (0,0)) (by (with_reducible repeat (first|refine bN ?_ _|refine bD ?_|refine bA ?_ _));exact BK186.out) hb);have n3_:=aM (lP (by repeat (first|(with_reducible first|exact HB.out|apply lA|apply lN|apply lD|refine lS ?_ GE186.out)|exact HB.out)) hb);clear BK186 HB;have HO190:=n0_;have HO193:=n1_;have BK186:=n2_;have HB:=n3_;clear n0_ n1_ n2_ n3_;(try clear hb);(try clear hb2);(try clear hk);(try clear hi);(try clear ho0);(try clear ho1);obtain ⟨Ao17,co17,eo17⟩:=Kd.R_slice HO190.out;subst eo17;obtain ⟨Ao18,co18,eo18⟩:=Kd.R_slice HO193.out;subst eo18)|((with_reducible refine gate_callee (f:=56) rfl ?_);refine goesL_ (some 14) rfl rfl Try.func56 (by kernel_rfl) rfl #[.agg #[.slice Ao17 t188.length co17,.slice Ao18 t191.length co18,.string t194]] rfl (by (try simp only [List.map_toArray,List.map_cons,List.map_nil]);first|done|rfl|(simp only [List.length_drop,List.length_take];rfl)) ?_;(with_reducible refine (spec_StoreOk.calls k _ _ t188 _ _ t191 t194 t195 _ ?side1 ?side2 ?side3 ?side4 A8.out).mono ?_);(case side1 => repeat (first|exact (rR HO190.out).2.2|(with_reducible first|refine cA ?_ _|refine cN ?_ _|refine cD ?_)));(case side2 => exact (rR HO190.out).2.1);(case side3 => repeat (first|exact (rR HO193.out).2.2|(with_reducible first|refine cA ?_ _|refine cN ?_ _|refine cD ?_)));(case side4 => exact (rR HO193.out).2.1);rintro e w19 ⟨rfl,hb⟩;refine ⟨_,rfl,?_⟩;have n0_:=aM (rB (by (with_reducible repeat (first|apply rA|apply rN|apply rD));exact HO190.out) hb);have n1_:=aM (rB (by (with_reducible repeat (first|apply rA|apply rN|apply rD));exact HO193.out) hb);have n2_:=aM (bB (g:=gb186) (o:=.cells #[.slice A0_0 l0_0.length c0_0,.slice A0_1 l0_1.length c0_1,.string a0_2] 48 (0,0)) (by (with_reducible repeat (first|refine bN ?_ _|refine bD ?_|refine bA ?_ _));exact BK186.out) hb);have n3_:=aM (lP (by repeat (first|(with_reducible first|exact HB.out|apply lA|apply lN|apply lD|refine lS ?_ GE186.out)|exact HB.out)) hb);clear HO190 HO193 BK186 HB;have HO190:=n0_;have HO193:=n1_;have BK186:=n2_;have HB:=n3_;clear n0_ n1_ n2_ n3_;(try clear hb);(try clear hb2);(try clear hk);(try clear hi);have hcz20_0 : w19.cell? ⟨gb186,0,none⟩ = some (.slice A0_0 l0_0.length c0_0):=(bC BK186.out 0).trans rfl;have hcz20_1 : w19.cell? ⟨gb186,1,none⟩ = some (.slice A0_1 l0_1.length c0_1):=(bC BK186.out 1).trans rfl;have hcz20_2 : w19.cell? ⟨gb186,2,none⟩ = some (.string a0_2):=(bC BK186.out 2).trans rfl;have hfz20_0:=bF BK186.out 0;have hfz20_1:=bF BK186.out 1;have hfz20_2:=bF BK186.out 2)|((with_reducible refine gate_callee (f:=36) rfl ?_);refine goesL_ (some 16) rfl rfl Try.func36 (by kernel_rfl) rfl #[.agg #[.slice A0_0 l0_0.length c0_0,.slice A0_1 l0_1.length c0_1,.string a0_2]] rfl (by (try simp only [List.map_toArray,List.map_cons,List.map_nil]);first|done|rfl|(simp only [List.length_drop,List.length_take];rfl)) ?_;(with_reducible refine (laws_toStore.calls k _ _ l0_0 _ _ l0_1 a0_2 t196 t199 t202 _ ?side1 ?side2 ?side3 ?side4 A9.out).mono ?_);(case side1 => repeat (first|exact (cB HR0_0.out HB.out)|(with_reducible first|refine cA ?_ _|refine cN ?_ _|refine cD ?_)));(case side2 => exact HC0_0.out);(case side3 => repeat (first|exact (cB HR0_1.out HB.out)|(with_reducible first|refine cA ?_ _|refine cN ?_ _|refine cD ?_)));(case side4 => exact HC0_1.out);rintro e w21 ⟨v197,v200,rfl,ho0,ho1,hb⟩;refine ⟨_,rfl,?_⟩;have n0_:=aM (rE (by (with_reducible repeat (first|apply rA|apply rN|apply rD));exact HO190.out) (rS ho0) hb);have n1_:=aM (rE (by (with_reducible repeat (first|apply rA|apply rN|apply rD));exact HO193.out) (rS ho1) hb);have n2_:=aM (rL (rW ho0 (rT (by (with_reducible repeat (first|apply rA|apply rN|apply rD));exact HO190.out))) (lZ (by repeat (first|(with_reducible first|exact HB.out|apply lA|apply lN|apply lD|refine lS ?_ GE186.out)|exact HB.out))));have n3_:=aM (rL (rW ho1 (rT (by (with_reducible repeat (first|apply rA|apply rN|apply rD));exact HO193.out))) (lZ (by repeat (first|(with_reducible first|exact HB.out|apply lA|apply lN|apply lD|refine lS ?_ GE186.out)|exact HB.out))));have n4_:=aM (bB (g:=gb186) (o:=.cells #[.slice A0_0 l0_0.length c0_0,.slice A0_1 l0_1.length c0_1,.string a0_2] 48 (0,0)) (by (with_reducible repeat (first|refine bN ?_ _|refine bD ?_|refine bA ?_ _));exact BK186.out) hb);have n5_:=aM (lP (by repeat (first|(with_reducible first|exact HB.out|apply lA|apply lN|apply lD|refine lS ?_ GE186.out)|exact HB.out)) hb);clear HO190 HO193 BK186 HB;have HO190:=n0_;have HO193:=n1_;have HO198:=n2_;have HO201:=n3_;have BK186:=n4_;have HB:=n5_;clear n0_ n1_ n2_ n3_ n4_ n5_;(try clear hb);(try clear hb2);(try clear hk);(try clear hi);(try clear ho0);(try clear ho1))|((with_reducible refine gate_dst (N:=5) rfl ?_);refine box_event ?hg (N:=5) ?hd (cs:=#[.slice none 0 0,.slice none 0 0,.string (⟨#[]⟩ : ByteArray)]) (t:=54) ?hr ?_;(case hd => rfl);(case hg => rfl);(case hr => first|(go_simp;done)|(go_simp;rfl));intro gb203 hg w22 hbox hb;have n0_:=aM (rB (by (with_reducible repeat (first|apply rA|apply rN|apply rD));exact HO190.out) hb);have n1_:=aM (rB (by (with_reducible repeat (first|apply rA|apply rN|apply rD));exact HO193.out) hb);have n2_:=aM (rB (by (with_reducible repeat (first|apply rA|apply rN|apply rD));exact HO198.out) hb);have n3_:=aM (rB (by (with_reducible repeat (first|apply rA|apply rN|apply rD));exact HO201.out) hb);have n4_:=aM (bB (g:=gb186) (o:=.cells #[.slice A0_0 l0_0.length c0_0,.slice A0_1 l0_1.length c0_1,.string a0_2] 48 (0,0)) (by (with_reducible repeat (first|refine bN ?_ _|refine bD ?_|refine bA ?_ _));exact BK186.out) hb);have n5_:=aM (lP (by repeat (first|(with_reducible first|exact HB.out|apply lA|apply lN|apply lD|refine lS ?_ GE186.out)|exact HB.out)) hb);have n6_:=aM (hbox);have n7_:=aM ((by rw [hg];exact (lZ (by repeat (first|(with_reducible first|exact HB.out|apply lA|apply lN|apply lD|refine lS ?_ GE186.out)|exact HB.out))) : w.heap.size ≤ gb203));have n8_:=aM ((by rw [hg];exact (lZ (by repeat (first|(with_reducible first|exact HB.out|apply lA|apply lN|apply lD|refine lS ?_ GE186.out)|exact HB.out))) : w.heap.size ≤ gb203));have n9_:=aM ((by rw [hg];exact Nat.ne_of_lt (bL (g:=gb186) (o:=.cells #[.slice A0_0 l0_0.length c0_0,.slice A0_1 l0_1.length c0_1,.string a0_2] 48 (0,0)) (by (with_reducible repeat (first|refine bN ?_ _|refine bD ?_|refine bA ?_ _));exact BK186.out)) : gb186 ≠ gb203));have n10_:=aM ((by rw [hg];exact Nat.ne_of_gt (bL (g:=gb186) (o:=.cells #[.slice A0_0 l0_0.length c0_0,.slice A0_1 l0_1.length c0_1,.string a0_2] 48 (0,0)) (by (with_reducible repeat (first|refine bN ?_ _|refine bD ?_|refine bA ?_ _));exact BK186.out)) : gb203 ≠ gb186));clear HO190 HO193 HO198 HO201 BK186 HB;have HO190:=n0_;have HO193:=n1_;have HO198:=n2_;have HO201:=n3_;have BK186:=n4_;have HB:=n5_;have BK203:=n6_;have GW203:=n7_;have GE203:=n8_;have NB186_203:=n9_;have NB203_186:=n10_;clear n0_ n1_ n2_ n3_ n4_ n5_ n6_ n7_ n8_ n9_ n10_ hb hbox hg;obtain ⟨Ao23,co23,eo23⟩:=Kd.R_slice HO198.out;subst eo23;have hnb24:=NB203_186.out;have hnc24:=NB186_203.out;have hcz25_0 : w22.cell? ⟨gb203,0,none⟩ = some (.slice none 0 0):=(bC BK203.out 0).trans rfl;have hcz25_1 : w22.cell? ⟨gb203,1,none⟩ = some (.slice none 0 0):=(bC BK203.out 1).trans rfl;have hcz25_2 : w22.cell? ⟨gb203,2,none⟩ = some (.string (⟨#[]⟩ : ByteArray)):=(bC BK203.out 2).trans rfl;have hfz25_0:=bF BK203.out 0;have hfz25_1:=bF BK203.out 1;have hfz25_2:=bF BK203.out 2;obtain ⟨Ao26,co26,eo26⟩:=Kd.R_slice HO201.out;subst eo26)|((with_reducible refine gate_callee (f:=57) rfl ?_);refine goesL_ (some 18) rfl rfl Try.func57 (by kernel_rfl) rfl #[.agg #[.slice Ao23 t196.length co23,.slice Ao26 t199.length co26,.string t202]] rfl (by (try simp only [List.map_toArray,List.map_cons,List.map_nil]);first|done|rfl|(simp only [List.length_drop,List.length_take];rfl)) ?_;(with_reducible refine (impl_StoreOk.calls k _ _ t196 _ _ t199 t202 t204 _ ?side1 ?side2 ?side3 ?side4 A10.out).mono ?_);(case side1 => refine (rR (e:=105) (base:=w.heap.size) (ok:=fun k_ => (True ∧ some k_ ≠ (.slice Ao17 t188.length co17 : Value).ownBlock)) (n:=t196.length) (c:=co23) ?_).2.2;exact (by (with_reducible repeat (first|apply rA|apply rN|apply rD));exact (Kd.R_mono (rF (p:=⟨gb203,2,none⟩) (rF (p:=⟨gb203,1,none⟩) (rF (p:=⟨gb203,0,none⟩) (rY HO198.out BK203.out (by decide)) (fun _ hk => hk.2) (.slice Ao23 t196.length co23)) (fun _ hk => hk.2) (.slice Ao26 t199.length co26)) (fun _ hk => hk.2) (.string t202)) (fun _ h_ => h_.1))));(case side2 => exact (rR HO198.out).2.1);(case side3 => refine (rR (e:=61) (base:=w.heap.size) (ok:=fun k_ => (True ∧ some k_ ≠ (.slice Ao18 t191.length co18 : Value).ownBlock)) (n:=t199.length) (c:=co26) ?_).2.2;exact (by (with_reducible repeat (first|apply rA|apply rN|apply rD));exact (Kd.R_mono (rF (p:=⟨gb203,2,none⟩) (rF (p:=⟨gb203,1,none⟩) (rF (p:=⟨gb203,0,none⟩) (rY HO201.out BK203.out (by decide)) (fun _ hk => hk.2) (.slice Ao23 t196.length co23)) (fun _ hk => hk.2) (.slice Ao26 t199.length co26)) (fun _ hk => hk.2) (.string t202)) (fun _ h_ => h_.1))));(case side4 => exact (rR HO201.out).2.1);rintro e w27 ⟨rfl,hb⟩;refine ⟨_,rfl,?_⟩;have n0_:=aM (rB (by (with_reducible repeat (first|apply rA|apply rN|apply rD));exact (Kd.R_mono (rF (p:=⟨gb203,2,none⟩) (rF (p:=⟨gb203,1,none⟩) (rF (p:=⟨gb203,0,none⟩) (rY HO190.out BK203.out (by decide)) (fun _ hk => hk.2) (.slice Ao23 t196.length co23)) (fun _ hk => hk.2) (.slice Ao26 t199.length co26)) (fun _ hk => hk.2) (.string t202)) (fun _ h_ => h_.1))) hb);have n1_:=aM (rB (by (with_reducible repeat (first|apply rA|apply rN|apply rD));exact (Kd.R_mono (rF (p:=⟨gb203,2,none⟩) (rF (p:=⟨gb203,1,none⟩) (rF (p:=⟨gb203,0,none⟩) (rY HO193.out BK203.out (by decide)) (fun _ hk => hk.2) (.slice Ao23 t196.length co23)) (fun _ hk => hk.2) (.slice Ao26 t199.length co26)) (fun _ hk => hk.2) (.string t202)) (fun _ h_ => h_.1))) hb);have n2_:=aM (rB (by (with_reducible repeat (first|apply rA|apply rN|apply rD));exact (Kd.R_mono (rF (p:=⟨gb203,2,none⟩) (rF (p:=⟨gb203,1,none⟩) (rF (p:=⟨gb203,0,none⟩) (rY HO198.out BK203.out (by decide)) (fun _ hk => hk.2) (.slice Ao23 t196.length co23)) (fun _ hk => hk.2) (.slice Ao26 t199.length co26)) (fun _ hk => hk.2) (.string t202)) (fun _ h_ => h_.1))) hb);have n3_:=aM (rB (by (with_reducible repeat (first|apply rA|apply rN|apply rD));exact (Kd.R_mono (rF (p:=⟨gb203,2,none⟩) (rF (p:=⟨gb203,1,none⟩) (rF (p:=⟨gb203,0,none⟩) (rY HO201.out BK203.out (by decide)) (fun _ hk => hk.2) (.slice Ao23 t196.length co23)) (fun _ hk => hk.2) (.slice Ao26 t199.length co26)) (fun _ hk => hk.2) (.string t202)) (fun _ h_ => h_.1))) hb);have n4_:=aM (bB (g:=gb186) (o:=.cells #[.slice A0_0 l0_0.length c0_0,.slice A0_1 l0_1.length c0_1,.string a0_2] 48 (0,0)) (by (with_reducible repeat (first|refine bN ?_ _|refine bD ?_|refine bA ?_ _));refine blk_far ?_ NB186_203.out _;(with_reducible repeat (first|refine bN ?_ _|refine bD ?_|refine bA ?_ _));refine blk_far ?_ NB186_203.out _;(with_reducible repeat (first|refine bN ?_ _|refine bD ?_|refine bA ?_ _));refine blk_far ?_ NB186_203.out _;(with_reducible repeat (first|refine bN ?_ _|refine bD ?_|refine bA ?_ _));exact BK186.out) hb);have n5_:=aM (bB (g:=gb203) (o:=.cells #[.slice Ao23 t196.length co23,.slice Ao26 t199.length co26,.string t202] 54 (0,0)) (by (with_reducible repeat (first|refine bN ?_ _|refine bD ?_|refine bA ?_ _));refine blk_put (cs:=#[.slice Ao23 t196.length co23,.slice Ao26 t199.length co26,.string (⟨#[]⟩ : ByteArray)]) ?_ 2 _ rfl;(with_reducible repeat (first|refine bN ?_ _|refine bD ?_|refine bA ?_ _));refine blk_put (cs:=#[.slice Ao23 t196.length co23,.slice none 0 0,.string (⟨#[]⟩ : ByteArray)]) ?_ 1 _ rfl;(with_reducible repeat (first|refine bN ?_ _|refine bD ?_|refine bA ?_ _));refine blk_put (cs:=#[.slice none 0 0,.slice none 0 0,.string (⟨#[]⟩ : ByteArray)]) ?_ 0 _ rfl;(with_reducible repeat (first|refine bN ?_ _|refine bD ?_|refine bA ?_ _));exact BK203.out) hb);have n6_:=aM (lP (by repeat (first|(with_reducible first|exact HB.out|apply lA|apply lN|apply lD|refine lS ?_ GE186.out|refine lS ?_ GE203.out)|exact HB.out)) hb);clear HO190 HO193 HO198 HO201 BK186 BK203 HB;have HO190:=n0_;have HO193:=n1_;have HO198:=n2_;have HO201:=n3_;have BK186:=n4_;have BK203:=n5_;have HB:=n6_;clear n0_ n1_ n2_ n3_ n4_ n5_ n6_;(try clear hb);(try clear hb2);(try clear hk);(try clear hi)))
   go_ret
   exact ⟨by first|rfl|(simp [errW_none,errW_some] <;> rfl)|(simp [*,errW_none,errW_some] <;> rfl),by repeat (first|(with_reducible first|exact HB.out|apply lA|apply lN|apply lD|refine lS ?_ GE186.out|refine lS ?_ GE203.out)|exact HB.out)⟩
  ·rw [if_neg c11] at H
   have c11b0 : (t204 != t195) = false:=by simpa using c11
   (try (have c11b1 : decide (t204 = t195) = true:=by simpa using c11))
   (try (have c11b2 : (t204 == t195) = true:=by simpa using c11))
   clear c11
   replace H:=Option.bind_eq_some_iff.mp H
   obtain ⟨⟨t205,t208,t211⟩,A280,H⟩:=H
   replace H : ((laws_eqStore.f k t196 t199 t202 t205 t208 t211).bind fun t212 => (if t212 = true then (some true) else (some false))) = some r:=H
   have A28:=aM A280
   clear A280
   replace H:=Option.bind_eq_some_iff.mp H
   obtain ⟨t212,A290,H⟩:=H
   replace H : (if t212 = true then (some true) else (some false)) = some r:=H
   have A29:=aM A290
   clear A290
   by_cases c30 : t212 = true
   ·subst c30
    have H1 : (some true) = some r:=by rw [if_pos rfl] at H;exact H
    clear H
    have H:=H1
    clear H1
    obtain rfl:=Option.some.inj H
    go_enter Try.func14,Try.ntmps14
    try go_wp2_with (first|((with_reducible refine gate_dst (N:=1) rfl ?_);refine box_event ?hg (N:=1) ?hd (cs:=#[.slice A0_0 l0_0.length c0_0,.slice A0_1 l0_1.length c0_1,.string a0_2]) (t:=48) ?hr ?_;(case hd => rfl);(case hg => rfl);(case hr => first|(go_simp;done)|(go_simp;rfl));intro gb186 hg w31 hbox hb;have n0_:=aM (lP (by repeat (first|(with_reducible first|exact HB.out|apply lA|apply lN|apply lD)|exact HB.out)) hb);have n1_:=aM (hbox);have n2_:=aM ((by rw [hg];exact (lZ (by repeat (first|(with_reducible first|exact HB.out|apply lA|apply lN|apply lD)|exact HB.out))) : w.heap.size ≤ gb186));have n3_:=aM ((by rw [hg];exact (lZ (by repeat (first|(with_reducible first|exact HB.out|apply lA|apply lN|apply lD)|exact HB.out))) : w.heap.size ≤ gb186));clear HB;have HB:=n0_;have BK186:=n1_;have GW186:=n2_;have GE186:=n3_;clear n0_ n1_ n2_ n3_ hb hbox hg;have hcz32_0 : w31.cell? ⟨gb186,0,none⟩ = some (.slice A0_0 l0_0.length c0_0):=(bC BK186.out 0).trans rfl;have hcz32_1 : w31.cell? ⟨gb186,1,none⟩ = some (.slice A0_1 l0_1.length c0_1):=(bC BK186.out 1).trans rfl;have hcz32_2 : w31.cell? ⟨gb186,2,none⟩ = some (.string a0_2):=(bC BK186.out 2).trans rfl;have hfz32_0:=bF BK186.out 0;have hfz32_1:=bF BK186.out 1;have hfz32_2:=bF BK186.out 2)|((with_reducible refine gate_callee (f:=34) rfl ?_);refine goesL_ (some 9) rfl rfl Try.func34 (by kernel_rfl) rfl #[.agg #[.slice A0_0 l0_0.length c0_0,.slice A0_1 l0_1.length c0_1,.string a0_2],.int .i64 1048576] rfl (by (try simp only [List.map_toArray,List.map_cons,List.map_nil]);first|done|rfl|(simp only [List.length_drop,List.length_take];rfl)) ?_;(with_reducible refine (laws_szStore.calls k _ _ l0_0 _ _ l0_1 a0_2 1048576 t187 _ ?side1 ?side2 ?side3 ?side4 A2.out).mono ?_);(case side1 => repeat (first|exact (cB HR0_0.out HB.out)|(with_reducible first|refine cA ?_ _|refine cN ?_ _|refine cD ?_)));(case side2 => exact HC0_0.out);(case side3 => repeat (first|exact (cB HR0_1.out HB.out)|(with_reducible first|refine cA ?_ _|refine cN ?_ _|refine cD ?_)));(case side4 => exact HC0_1.out);rintro e w33 ⟨rfl,hb⟩;refine ⟨_,rfl,?_⟩;have n0_:=aM (bB (g:=gb186) (o:=.cells #[.slice A0_0 l0_0.length c0_0,.slice A0_1 l0_1.length c0_1,.string a0_2] 48 (0,0)) (by (with_reducible repeat (first|refine bN ?_ _|refine bD ?_|refine bA ?_ _));exact BK186.out) hb);have n1_:=aM (lP (by repeat (first|(with_reducible first|exact HB.out|apply lA|apply lN|apply lD|refine lS ?_ GE186.out)|exact HB.out)) hb);clear BK186 HB;have BK186:=n0_;have HB:=n1_;clear n0_ n1_;(try clear hb);(try clear hb2);(try clear hk);(try clear hi);have hcz34_0 : w33.cell? ⟨gb186,0,none⟩ = some (.slice A0_0 l0_0.length c0_0):=(bC BK186.out 0).trans rfl;have hcz34_1 : w33.cell? ⟨gb186,1,none⟩ = some (.slice A0_1 l0_1.length c0_1):=(bC BK186.out 1).trans rfl;have hcz34_2 : w33.cell? ⟨gb186,2,none⟩ = some (.string a0_2):=(bC BK186.out 2).trans rfl;have hfz34_0:=bF BK186.out 0;have hfz34_1:=bF BK186.out 1;have hfz34_2:=bF BK186.out 2)|((with_reducible refine gate_callee (f:=36) rfl ?_);refine goesL_ (some 13) rfl rfl Try.func36 (by kernel_rfl) rfl #[.agg #[.slice A0_0 l0_0.length c0_0,.slice A0_1 l0_1.length c0_1,.string a0_2]] rfl (by (try simp only [List.map_toArray,List.map_cons,List.map_nil]);first|done|rfl|(simp only [List.length_drop,List.length_take];rfl)) ?_;(with_reducible refine (laws_toStore.calls k _ _ l0_0 _ _ l0_1 a0_2 t188 t191 t194 _ ?side1 ?side2 ?side3 ?side4 A7.out).mono ?_);(case side1 => repeat (first|exact (cB HR0_0.out HB.out)|(with_reducible first|refine cA ?_ _|refine cN ?_ _|refine cD ?_)));(case side2 => exact HC0_0.out);(case side3 => repeat (first|exact (cB HR0_1.out HB.out)|(with_reducible first|refine cA ?_ _|refine cN ?_ _|refine cD ?_)));(case side4 => exact HC0_1.out);rintro e w35 ⟨v189,v192,rfl,ho0,ho1,hb⟩;refine ⟨_,rfl,?_⟩;have n0_:=aM (rL ho0 (lZ (by repeat (first|(with_reducible first|exact HB.out|apply lA|apply lN|apply lD|refine lS ?_ GE186.out)|exact HB.out))));have n1_:=aM (rL ho1 (lZ (by repeat (first|(with_reducible first|exact HB.out|apply lA|apply lN|apply lD|refine lS ?_ GE186.out)|exact HB.out))));have n2_:=aM (bB (g:=gb186) (o:=.cells #[.slice A0_0 l0_0.length c0_0,.slice A0_1 l0_1.length c0_1,.string a0_2] 48 (0,0)) (by (with_reducible repeat (first|refine bN ?_ _|refine bD ?_|refine bA ?_ _));exact BK186.out) hb);have n3_:=aM (lP (by repeat (first|(with_reducible first|exact HB.out|apply lA|apply lN|apply lD|refine lS ?_ GE186.out)|exact HB.out)) hb);clear BK186 HB;have HO190:=n0_;have HO193:=n1_;have BK186:=n2_;have HB:=n3_;clear n0_ n1_ n2_ n3_;(try clear hb);(try clear hb2);(try clear hk);(try clear hi);(try clear ho0);(try clear ho1);obtain ⟨Ao36,co36,eo36⟩:=Kd.R_slice HO190.out;subst eo36;obtain ⟨Ao37,co37,eo37⟩:=Kd.R_slice HO193.out;subst eo37)|((with_reducible refine gate_callee (f:=56) rfl ?_);refine goesL_ (some 14) rfl rfl Try.func56 (by kernel_rfl) rfl #[.agg #[.slice Ao36 t188.length co36,.slice Ao37 t191.length co37,.string t194]] rfl (by (try simp only [List.map_toArray,List.map_cons,List.map_nil]);first|done|rfl|(simp only [List.length_drop,List.length_take];rfl)) ?_;(with_reducible refine (spec_StoreOk.calls k _ _ t188 _ _ t191 t194 t195 _ ?side1 ?side2 ?side3 ?side4 A8.out).mono ?_);(case side1 => repeat (first|exact (rR HO190.out).2.2|(with_reducible first|refine cA ?_ _|refine cN ?_ _|refine cD ?_)));(case side2 => exact (rR HO190.out).2.1);(case side3 => repeat (first|exact (rR HO193.out).2.2|(with_reducible first|refine cA ?_ _|refine cN ?_ _|refine cD ?_)));(case side4 => exact (rR HO193.out).2.1);rintro e w38 ⟨rfl,hb⟩;refine ⟨_,rfl,?_⟩;have n0_:=aM (rB (by (with_reducible repeat (first|apply rA|apply rN|apply rD));exact HO190.out) hb);have n1_:=aM (rB (by (with_reducible repeat (first|apply rA|apply rN|apply rD));exact HO193.out) hb);have n2_:=aM (bB (g:=gb186) (o:=.cells #[.slice A0_0 l0_0.length c0_0,.slice A0_1 l0_1.length c0_1,.string a0_2] 48 (0,0)) (by (with_reducible repeat (first|refine bN ?_ _|refine bD ?_|refine bA ?_ _));exact BK186.out) hb);have n3_:=aM (lP (by repeat (first|(with_reducible first|exact HB.out|apply lA|apply lN|apply lD|refine lS ?_ GE186.out)|exact HB.out)) hb);clear HO190 HO193 BK186 HB;have HO190:=n0_;have HO193:=n1_;have BK186:=n2_;have HB:=n3_;clear n0_ n1_ n2_ n3_;(try clear hb);(try clear hb2);(try clear hk);(try clear hi);have hcz39_0 : w38.cell? ⟨gb186,0,none⟩ = some (.slice A0_0 l0_0.length c0_0):=(bC BK186.out 0).trans rfl;have hcz39_1 : w38.cell? ⟨gb186,1,none⟩ = some (.slice A0_1 l0_1.length c0_1):=(bC BK186.out 1).trans rfl;have hcz39_2 : w38.cell? ⟨gb186,2,none⟩ = some (.string a0_2):=(bC BK186.out 2).trans rfl;have hfz39_0:=bF BK186.out 0;have hfz39_1:=bF BK186.out 1;have hfz39_2:=bF BK186.out 2)|((with_reducible refine gate_callee (f:=36) rfl ?_);refine goesL_ (some 16) rfl rfl Try.func36 (by kernel_rfl) rfl #[.agg #[.slice A0_0 l0_0.length c0_0,.slice A0_1 l0_1.length c0_1,.string a0_2]] rfl (by (try simp only [List.map_toArray,List.map_cons,List.map_nil]);first|done|rfl|(simp only [List.length_drop,List.length_take];rfl)) ?_;(with_reducible refine (laws_toStore.calls k _ _ l0_0 _ _ l0_1 a0_2 t196 t199 t202 _ ?side1 ?side2 ?side3 ?side4 A9.out).mono ?_);(case side1 => repeat (first|exact (cB HR0_0.out HB.out)|(with_reducible first|refine cA ?_ _|refine cN ?_ _|refine cD ?_)));(case side2 => exact HC0_0.out);(case side3 => repeat (first|exact (cB HR0_1.out HB.out)|(with_reducible first|refine cA ?_ _|refine cN ?_ _|refine cD ?_)));(case side4 => exact HC0_1.out);rintro e w40 ⟨v197,v200,rfl,ho0,ho1,hb⟩;refine ⟨_,rfl,?_⟩;have n0_:=aM (rE (by (with_reducible repeat (first|apply rA|apply rN|apply rD));exact HO190.out) (rS ho0) hb);have n1_:=aM (rE (by (with_reducible repeat (first|apply rA|apply rN|apply rD));exact HO193.out) (rS ho1) hb);have n2_:=aM (rL (rW ho0 (rT (by (with_reducible repeat (first|apply rA|apply rN|apply rD));exact HO190.out))) (lZ (by repeat (first|(with_reducible first|exact HB.out|apply lA|apply lN|apply lD|refine lS ?_ GE186.out)|exact HB.out))));have n3_:=aM (rL (rW ho1 (rT (by (with_reducible repeat (first|apply rA|apply rN|apply rD));exact HO193.out))) (lZ (by repeat (first|(with_reducible first|exact HB.out|apply lA|apply lN|apply lD|refine lS ?_ GE186.out)|exact HB.out))));have n4_:=aM (bB (g:=gb186) (o:=.cells #[.slice A0_0 l0_0.length c0_0,.slice A0_1 l0_1.length c0_1,.string a0_2] 48 (0,0)) (by (with_reducible repeat (first|refine bN ?_ _|refine bD ?_|refine bA ?_ _));exact BK186.out) hb);have n5_:=aM (lP (by repeat (first|(with_reducible first|exact HB.out|apply lA|apply lN|apply lD|refine lS ?_ GE186.out)|exact HB.out)) hb);clear HO190 HO193 BK186 HB;have HO190:=n0_;have HO193:=n1_;have HO198:=n2_;have HO201:=n3_;have BK186:=n4_;have HB:=n5_;clear n0_ n1_ n2_ n3_ n4_ n5_;(try clear hb);(try clear hb2);(try clear hk);(try clear hi);(try clear ho0);(try clear ho1))|((with_reducible refine gate_dst (N:=5) rfl ?_);refine box_event ?hg (N:=5) ?hd (cs:=#[.slice none 0 0,.slice none 0 0,.string (⟨#[]⟩ : ByteArray)]) (t:=54) ?hr ?_;(case hd => rfl);(case hg => rfl);(case hr => first|(go_simp;done)|(go_simp;rfl));intro gb203 hg w41 hbox hb;have n0_:=aM (rB (by (with_reducible repeat (first|apply rA|apply rN|apply rD));exact HO190.out) hb);have n1_:=aM (rB (by (with_reducible repeat (first|apply rA|apply rN|apply rD));exact HO193.out) hb);have n2_:=aM (rB (by (with_reducible repeat (first|apply rA|apply rN|apply rD));exact HO198.out) hb);have n3_:=aM (rB (by (with_reducible repeat (first|apply rA|apply rN|apply rD));exact HO201.out) hb);have n4_:=aM (bB (g:=gb186) (o:=.cells #[.slice A0_0 l0_0.length c0_0,.slice A0_1 l0_1.length c0_1,.string a0_2] 48 (0,0)) (by (with_reducible repeat (first|refine bN ?_ _|refine bD ?_|refine bA ?_ _));exact BK186.out) hb);have n5_:=aM (lP (by repeat (first|(with_reducible first|exact HB.out|apply lA|apply lN|apply lD|refine lS ?_ GE186.out)|exact HB.out)) hb);have n6_:=aM (hbox);have n7_:=aM ((by rw [hg];exact (lZ (by repeat (first|(with_reducible first|exact HB.out|apply lA|apply lN|apply lD|refine lS ?_ GE186.out)|exact HB.out))) : w.heap.size ≤ gb203));have n8_:=aM ((by rw [hg];exact (lZ (by repeat (first|(with_reducible first|exact HB.out|apply lA|apply lN|apply lD|refine lS ?_ GE186.out)|exact HB.out))) : w.heap.size ≤ gb203));have n9_:=aM ((by rw [hg];exact Nat.ne_of_lt (bL (g:=gb186) (o:=.cells #[.slice A0_0 l0_0.length c0_0,.slice A0_1 l0_1.length c0_1,.string a0_2] 48 (0,0)) (by (with_reducible repeat (first|refine bN ?_ _|refine bD ?_|refine bA ?_ _));exact BK186.out)) : gb186 ≠ gb203));have n10_:=aM ((by rw [hg];exact Nat.ne_of_gt (bL (g:=gb186) (o:=.cells #[.slice A0_0 l0_0.length c0_0,.slice A0_1 l0_1.length c0_1,.string a0_2] 48 (0,0)) (by (with_reducible repeat (first|refine bN ?_ _|refine bD ?_|refine bA ?_ _));exact BK186.out)) : gb203 ≠ gb186));clear HO190 HO193 HO198 HO201 BK186 HB;have HO190:=n0_;have HO193:=n1_;have HO198:=n2_;have HO201:=n3_;have BK186:=n4_;have HB:=n5_;have BK203:=n6_;have GW203:=n7_;have GE203:=n8_;have NB186_203:=n9_;have NB203_186:=n10_;clear n0_ n1_ n2_ n3_ n4_ n5_ n6_ n7_ n8_ n9_ n10_ hb hbox hg;obtain ⟨Ao42,co42,eo42⟩:=Kd.R_slice HO198.out;subst eo42;have hnb43:=NB203_186.out;have hnc43:=NB186_203.out;have hcz44_0 : w41.cell? ⟨gb203,0,none⟩ = some (.slice none 0 0):=(bC BK203.out 0).trans rfl;have hcz44_1 : w41.cell? ⟨gb203,1,none⟩ = some (.slice none 0 0):=(bC BK203.out 1).trans rfl;have hcz44_2 : w41.cell? ⟨gb203,2,none⟩ = some (.string (⟨#[]⟩ : ByteArray)):=(bC BK203.out 2).trans rfl;have hfz44_0:=bF BK203.out 0;have hfz44_1:=bF BK203.out 1;have hfz44_2:=bF BK203.out 2;obtain ⟨Ao45,co45,eo45⟩:=Kd.R_slice HO201.out;subst eo45)|((with_reducible refine gate_callee (f:=57) rfl ?_);refine goesL_ (some 18) rfl rfl Try.func57 (by kernel_rfl) rfl #[.agg #[.slice Ao42 t196.length co42,.slice Ao45 t199.length co45,.string t202]] rfl (by (try simp only [List.map_toArray,List.map_cons,List.map_nil]);first|done|rfl|(simp only [List.length_drop,List.length_take];rfl)) ?_;(with_reducible refine (impl_StoreOk.calls k _ _ t196 _ _ t199 t202 t204 _ ?side1 ?side2 ?side3 ?side4 A10.out).mono ?_);(case side1 => refine (rR (e:=105) (base:=w.heap.size) (ok:=fun k_ => (True ∧ some k_ ≠ (.slice Ao36 t188.length co36 : Value).ownBlock)) (n:=t196.length) (c:=co42) ?_).2.2;exact (by (with_reducible repeat (first|apply rA|apply rN|apply rD));exact (Kd.R_mono (rF (p:=⟨gb203,2,none⟩) (rF (p:=⟨gb203,1,none⟩) (rF (p:=⟨gb203,0,none⟩) (rY HO198.out BK203.out (by decide)) (fun _ hk => hk.2) (.slice Ao42 t196.length co42)) (fun _ hk => hk.2) (.slice Ao45 t199.length co45)) (fun _ hk => hk.2) (.string t202)) (fun _ h_ => h_.1))));(case side2 => exact (rR HO198.out).2.1);(case side3 => refine (rR (e:=61) (base:=w.heap.size) (ok:=fun k_ => (True ∧ some k_ ≠ (.slice Ao37 t191.length co37 : Value).ownBlock)) (n:=t199.length) (c:=co45) ?_).2.2;exact (by (with_reducible repeat (first|apply rA|apply rN|apply rD));exact (Kd.R_mono (rF (p:=⟨gb203,2,none⟩) (rF (p:=⟨gb203,1,none⟩) (rF (p:=⟨gb203,0,none⟩) (rY HO201.out BK203.out (by decide)) (fun _ hk => hk.2) (.slice Ao42 t196.length co42)) (fun _ hk => hk.2) (.slice Ao45 t199.length co45)) (fun _ hk => hk.2) (.string t202)) (fun _ h_ => h_.1))));(case side4 => exact (rR HO201.out).2.1);rintro e w46 ⟨rfl,hb⟩;refine ⟨_,rfl,?_⟩;have n0_:=aM (rB (by (with_reducible repeat (first|apply rA|apply rN|apply rD));exact (Kd.R_mono (rF (p:=⟨gb203,2,none⟩) (rF (p:=⟨gb203,1,none⟩) (rF (p:=⟨gb203,0,none⟩) (rY HO190.out BK203.out (by decide)) (fun _ hk => hk.2) (.slice Ao42 t196.length co42)) (fun _ hk => hk.2) (.slice Ao45 t199.length co45)) (fun _ hk => hk.2) (.string t202)) (fun _ h_ => h_.1))) hb);have n1_:=aM (rB (by (with_reducible repeat (first|apply rA|apply rN|apply rD));exact (Kd.R_mono (rF (p:=⟨gb203,2,none⟩) (rF (p:=⟨gb203,1,none⟩) (rF (p:=⟨gb203,0,none⟩) (rY HO193.out BK203.out (by decide)) (fun _ hk => hk.2) (.slice Ao42 t196.length co42)) (fun _ hk => hk.2) (.slice Ao45 t199.length co45)) (fun _ hk => hk.2) (.string t202)) (fun _ h_ => h_.1))) hb);have n2_:=aM (rB (by (with_reducible repeat (first|apply rA|apply rN|apply rD));exact (Kd.R_mono (rF (p:=⟨gb203,2,none⟩) (rF (p:=⟨gb203,1,none⟩) (rF (p:=⟨gb203,0,none⟩) (rY HO198.out BK203.out (by decide)) (fun _ hk => hk.2) (.slice Ao42 t196.length co42)) (fun _ hk => hk.2) (.slice Ao45 t199.length co45)) (fun _ hk => hk.2) (.string t202)) (fun _ h_ => h_.1))) hb);have n3_:=aM (rB (by (with_reducible repeat (first|apply rA|apply rN|apply rD));exact (Kd.R_mono (rF (p:=⟨gb203,2,none⟩) (rF (p:=⟨gb203,1,none⟩) (rF (p:=⟨gb203,0,none⟩) (rY HO201.out BK203.out (by decide)) (fun _ hk => hk.2) (.slice Ao42 t196.length co42)) (fun _ hk => hk.2) (.slice Ao45 t199.length co45)) (fun _ hk => hk.2) (.string t202)) (fun _ h_ => h_.1))) hb);have n4_:=aM (bB (g:=gb186) (o:=.cells #[.slice A0_0 l0_0.length c0_0,.slice A0_1 l0_1.length c0_1,.string a0_2] 48 (0,0)) (by (with_reducible repeat (first|refine bN ?_ _|refine bD ?_|refine bA ?_ _));refine blk_far ?_ NB186_203.out _;(with_reducible repeat (first|refine bN ?_ _|refine bD ?_|refine bA ?_ _));refine blk_far ?_ NB186_203.out _;(with_reducible repeat (first|refine bN ?_ _|refine bD ?_|refine bA ?_ _));refine blk_far ?_ NB186_203.out _;(with_reducible repeat (first|refine bN ?_ _|refine bD ?_|refine bA ?_ _));exact BK186.out) hb);have n5_:=aM (bB (g:=gb203) (o:=.cells #[.slice Ao42 t196.length co42,.slice Ao45 t199.length co45,.string t202] 54 (0,0)) (by (with_reducible repeat (first|refine bN ?_ _|refine bD ?_|refine bA ?_ _));refine blk_put (cs:=#[.slice Ao42 t196.length co42,.slice Ao45 t199.length co45,.string (⟨#[]⟩ : ByteArray)]) ?_ 2 _ rfl;(with_reducible repeat (first|refine bN ?_ _|refine bD ?_|refine bA ?_ _));refine blk_put (cs:=#[.slice Ao42 t196.length co42,.slice none 0 0,.string (⟨#[]⟩ : ByteArray)]) ?_ 1 _ rfl;(with_reducible repeat (first|refine bN ?_ _|refine bD ?_|refine bA ?_ _));refine blk_put (cs:=#[.slice none 0 0,.slice none 0 0,.string (⟨#[]⟩ : ByteArray)]) ?_ 0 _ rfl;(with_reducible repeat (first|refine bN ?_ _|refine bD ?_|refine bA ?_ _));exact BK203.out) hb);have n6_:=aM (lP (by repeat (first|(with_reducible first|exact HB.out|apply lA|apply lN|apply lD|refine lS ?_ GE186.out|refine lS ?_ GE203.out)|exact HB.out)) hb);clear HO190 HO193 HO198 HO201 BK186 BK203 HB;have HO190:=n0_;have HO193:=n1_;have HO198:=n2_;have HO201:=n3_;have BK186:=n4_;have BK203:=n5_;have HB:=n6_;clear n0_ n1_ n2_ n3_ n4_ n5_ n6_;(try clear hb);(try clear hb2);(try clear hk);(try clear hi)))
    have n0_:=aM (rD HO190.out)
    have n1_:=aM (rD HO193.out)
    have n2_:=aM (rD HO198.out)
    have n3_:=aM (rD HO201.out)
    have n4_:=aM (bD BK186.out)
    have n5_:=aM (bD BK203.out)
    have n6_:=aM (lD HB.out)
    clear HO190
    clear HO193
    clear HO198
    clear HO201
    clear BK186
    clear BK203
    clear HB
    have HO190:=n0_
    have HO193:=n1_
    have HO198:=n2_
    have HO201:=n3_
    have BK186:=n4_
    have BK203:=n5_
    have HB:=n6_
    clear n0_ n1_ n2_ n3_ n4_ n5_ n6_
    refine start_ (n:=5) (S:=fun w' => w'.cell? ⟨gb203,0,none⟩ = some (.slice Ao42 t196.length co42) ∧ w'.cell? ⟨gb203,1,none⟩ = some (.slice Ao45 t199.length co45) ∧ w'.cell? ⟨gb203,2,none⟩ = some (.string t202) ∧ w'.cell? ⟨gb186,0,none⟩ = some (.slice A0_0 l0_0.length c0_0) ∧ w'.cell? ⟨gb186,1,none⟩ = some (.slice A0_1 l0_1.length c0_1) ∧ w'.cell? ⟨gb186,2,none⟩ = some (.string a0_2)) (ds:=[]) #[bf,bf,bf,bf,bf] (by kernel_rfl) rfl rfl ⟨(bC BK203.out 0).trans rfl,(bC BK203.out 1).trans rfl,(bC BK203.out 2).trans rfl,(bC BK186.out 0).trans rfl,(bC BK186.out 1).trans rfl,(bC BK186.out 2).trans rfl⟩ (fun hHeld => ?_)
    generalize w46.drew = w47 at HO190 HO193 HO198 HO201 BK186 BK203 HB hHeld ⊢
    refine take_ (i:=0) (N:=some 22) (v:=?_) (a':=?_) #[bT,bf,bf,bf,bf] rfl rfl (by kernel_rfl) (fun _ _ _ h => h) (Or.inl ⟨by rfl,?_⟩) hHeld ?_ ?_
    rotate_left
    ·rintro w' ⟨s0,s1,s2,s3,s4,s5⟩
     go_simp
     with_reducible rfl
    rotate_left
    ·simp only [Act.put,q_ia6,q_cz6,q_cs6,i64_w,i32_w];rfl
    refine take_ (i:=1) (N:=some 23) (v:=?_) (a':=?_) #[bT,bT,bf,bf,bf] rfl rfl (by kernel_rfl) (fun _ _ _ h => h) (Or.inl ⟨by rfl,?_⟩) hHeld ?_ ?_
    rotate_left
    ·rintro w' ⟨s0,s1,s2,s3,s4,s5⟩
     go_simp
     with_reducible rfl
    rotate_left
    ·simp only [Act.put,q_ia6,q_cz6,q_cs6,i64_w,i32_w];rfl
    refine one_ (i:=2) (N:=some 24) #[bT,bT,bT,bf,bf] rfl rfl (by kernel_rfl) (by decide) (fun K hK => ?_)
    refine goes_ Try.func36 (by kernel_rfl) rfl #[.agg #[.slice A0_0 l0_0.length c0_0,.slice A0_1 l0_1.length c0_1,.string a0_2]] (by rfl) rfl rfl (by (try simp only [List.map_toArray,List.map_cons,List.map_nil]);first|done|rfl|(simp only [List.length_drop,List.length_take];rfl)) ?_
    with_reducible refine (laws_toStore.calls k _ _ l0_0 _ _ l0_1 a0_2 t205 t208 t211 _ ?side1 ?side2 ?side3 ?side4 A28.out).mono ?_
    (case side1 => repeat (first|exact (cB HR0_0.out HB.out)|(with_reducible first|refine cA ?_ _|refine cN ?_ _|refine cD ?_)))
    (case side2 => exact HC0_0.out)
    (case side3 => repeat (first|exact (cB HR0_1.out HB.out)|(with_reducible first|refine cA ?_ _|refine cN ?_ _|refine cD ?_)))
    (case side4 => exact HC0_1.out)
    rintro e w48 ⟨v206,v209,rfl,ho0,ho1,hb⟩
    refine ⟨_,rfl,?_⟩
    have n0_:=aM (rE (by (with_reducible repeat (first|apply rA|apply rN|apply rD));exact HO190.out) (rS ho0) hb)
    have n1_:=aM (rE (by (with_reducible repeat (first|apply rA|apply rN|apply rD));exact HO193.out) (rS ho1) hb)
    have n2_:=aM (rE (by (with_reducible repeat (first|apply rA|apply rN|apply rD));exact HO198.out) (rS ho0) hb)
    have n3_:=aM (rE (by (with_reducible repeat (first|apply rA|apply rN|apply rD));exact HO201.out) (rS ho1) hb)
    have n4_:=aM (rL (rW (rW ho0 (rT (by (with_reducible repeat (first|apply rA|apply rN|apply rD));exact HO190.out))) (rT (by (with_reducible repeat (first|apply rA|apply rN|apply rD));exact HO198.out))) (lZ (by repeat (first|(with_reducible first|exact HB.out|apply lA|apply lN|apply lD|refine lS ?_ GE186.out|refine lS ?_ GE203.out)|exact HB.out))))
    have n5_:=aM (rL (rW (rW ho1 (rT (by (with_reducible repeat (first|apply rA|apply rN|apply rD));exact HO193.out))) (rT (by (with_reducible repeat (first|apply rA|apply rN|apply rD));exact HO201.out))) (lZ (by repeat (first|(with_reducible first|exact HB.out|apply lA|apply lN|apply lD|refine lS ?_ GE186.out|refine lS ?_ GE203.out)|exact HB.out))))
    have n6_:=aM (bB (g:=gb186) (o:=.cells #[.slice A0_0 l0_0.length c0_0,.slice A0_1 l0_1.length c0_1,.string a0_2] 48 (0,0)) (by (with_reducible repeat (first|refine bN ?_ _|refine bD ?_|refine bA ?_ _));exact BK186.out) hb)
    have n7_:=aM (bB (g:=gb203) (o:=.cells #[.slice Ao42 t196.length co42,.slice Ao45 t199.length co45,.string t202] 54 (0,0)) (by (with_reducible repeat (first|refine bN ?_ _|refine bD ?_|refine bA ?_ _));exact BK203.out) hb)
    have n8_:=aM (lP (by repeat (first|(with_reducible first|exact HB.out|apply lA|apply lN|apply lD|refine lS ?_ GE186.out|refine lS ?_ GE203.out)|exact HB.out)) hb)
    clear HO190
    clear HO193
    clear HO198
    clear HO201
    clear BK186
    clear BK203
    clear HB
    have HO190:=n0_
    have HO193:=n1_
    have HO198:=n2_
    have HO201:=n3_
    have HO207:=n4_
    have HO210:=n5_
    have BK186:=n6_
    have BK203:=n7_
    have HB:=n8_
    clear n0_ n1_ n2_ n3_ n4_ n5_ n6_ n7_ n8_
    (try clear hb)
    (try clear hb2)
    (try clear hk)
    (try clear hi)
    (try clear ho0)
    (try clear ho1)
    obtain ⟨Ao49,co49,eo49⟩:=Kd.R_slice HO207.out
    (first|subst eo49|(injection eo49 with f1_ f2_ f3_;have f4_:=f1_.symm;have f5_:=f3_.symm;clear f1_ f2_ f3_;subst f4_;subst f5_))
    obtain ⟨Ao50,co50,eo50⟩:=Kd.R_slice HO210.out
    (first|subst eo50|(injection eo50 with f1_ f2_ f3_;have f4_:=f1_.symm;have f5_:=f3_.symm;clear f1_ f2_ f3_;subst f4_;subst f5_))
    refine hK.out _ _ ⟨(bC BK203.out 0).trans rfl,(bC BK203.out 1).trans rfl,(bC BK203.out 2).trans rfl,(bC BK186.out 0).trans rfl,(bC BK186.out 1).trans rfl,(bC BK186.out 2).trans rfl⟩ (fun hHeld => ?_)
    clear hK K
    refine norm_ (a':=?_) ?_ ?_
    rotate_left
    ·show Act.put _ (some 24) _ = _
     simp only [Act.put,q_ia6,q_cz6,q_cs6,i64_w,i32_w]
     rfl
    refine one_ (i:=3) (N:=some 25) #[bT,bT,bT,bT,bf] rfl rfl (by kernel_rfl) (by decide) (fun K hK => ?_)
    refine goes_ Try.func38 (by kernel_rfl) rfl #[.agg #[.slice Ao42 t196.length co42,.slice Ao45 t199.length co45,.string t202],.agg #[.slice Ao49 t205.length co49,.slice Ao50 t208.length co50,.string t211]] (by rfl) rfl rfl (by (try simp only [List.map_toArray,List.map_cons,List.map_nil]);first|done|rfl|(simp only [List.length_drop,List.length_take];rfl)) ?_
    with_reducible refine (laws_eqStore.calls k _ _ t196 _ _ t199 t202 _ _ t205 _ _ t208 t211 true _ ?side1 ?side2 ?side3 ?side4 ?side5 ?side6 ?side7 ?side8 A29.out).mono ?_
    (case side1 => repeat (first|exact (rR HO198.out).2.2|(with_reducible first|refine cA ?_ _|refine cN ?_ _|refine cD ?_)))
    (case side2 => exact (rR HO198.out).2.1)
    (case side3 => repeat (first|exact (rR HO201.out).2.2|(with_reducible first|refine cA ?_ _|refine cN ?_ _|refine cD ?_)))
    (case side4 => exact (rR HO201.out).2.1)
    (case side5 => repeat (first|exact (rR HO207.out).2.2|(with_reducible first|refine cA ?_ _|refine cN ?_ _|refine cD ?_)))
    (case side6 => exact (rR HO207.out).2.1)
    (case side7 => repeat (first|exact (rR HO210.out).2.2|(with_reducible first|refine cA ?_ _|refine cN ?_ _|refine cD ?_)))
    (case side8 => exact (rR HO210.out).2.1)
    rintro e w51 ⟨rfl,hb⟩
    refine ⟨_,rfl,?_⟩
    have n0_:=aM (rB (by (with_reducible repeat (first|apply rA|apply rN|apply rD));exact HO190.out) hb)
    have n1_:=aM (rB (by (with_reducible repeat (first|apply rA|apply rN|apply rD));exact HO193.out) hb)
    have n2_:=aM (rB (by (with_reducible repeat (first|apply rA|apply rN|apply rD));exact HO198.out) hb)
    have n3_:=aM (rB (by (with_reducible repeat (first|apply rA|apply rN|apply rD));exact HO201.out) hb)
    have n4_:=aM (rB (by (with_reducible repeat (first|apply rA|apply rN|apply rD));exact HO207.out) hb)
    have n5_:=aM (rB (by (with_reducible repeat (first|apply rA|apply rN|apply rD));exact HO210.out) hb)
    have n6_:=aM (bB (g:=gb186) (o:=.cells #[.slice A0_0 l0_0.length c0_0,.slice A0_1 l0_1.length c0_1,.string a0_2] 48 (0,0)) (by (with_reducible repeat (first|refine bN ?_ _|refine bD ?_|refine bA ?_ _));exact BK186.out) hb)
    have n7_:=aM (bB (g:=gb203) (o:=.cells #[.slice Ao42 t196.length co42,.slice Ao45 t199.length co45,.string t202] 54 (0,0)) (by (with_reducible repeat (first|refine bN ?_ _|refine bD ?_|refine bA ?_ _));exact BK203.out) hb)
    have n8_:=aM (lP (by repeat (first|(with_reducible first|exact HB.out|apply lA|apply lN|apply lD|refine lS ?_ GE186.out|refine lS ?_ GE203.out)|exact HB.out)) hb)
    clear HO190
    clear HO193
    clear HO198
    clear HO201
    clear HO207
    clear HO210
    clear BK186
    clear BK203
    clear HB
    have HO190:=n0_
    have HO193:=n1_
    have HO198:=n2_
    have HO201:=n3_
    have HO207:=n4_
    have HO210:=n5_
    have BK186:=n6_
    have BK203:=n7_
    have HB:=n8_
    clear n0_ n1_ n2_ n3_ n4_ n5_ n6_ n7_ n8_
    (try clear hb)
    (try clear hb2)
    (try clear hk)
    (try clear hi)
    refine hK.out _ _ ⟨(bC BK203.out 0).trans rfl,(bC BK203.out 1).trans rfl,(bC BK203.out 2).trans rfl,(bC BK186.out 0).trans rfl,(bC BK186.out 1).trans rfl,(bC BK186.out 2).trans rfl⟩ (fun hHeld => ?_)
    clear hK K
    refine norm_ (a':=?_) ?_ ?_
    rotate_left
    ·show Act.put _ (some 25) _ = _
     simp only [Act.put,q_ia6,q_cz6,q_cs6,i64_w,i32_w]
     rfl
    refine pure_ (i:=4) (N:=some 26) (v:=?_) (a':=?_) #[bT,bT,bT,bT,bT] rfl rfl (by kernel_rfl) (fun _ _ _ h => h) (Or.inl ⟨by rfl,?_⟩) ?_ ?_
    rotate_left
    ·intro w';go_simp;with_reducible rfl
    rotate_left
    ·simp only [Act.put,q_ia6,q_cz6,q_cs6,i64_w,i32_w];rfl
    refine done_ (by kernel_rfl) ?_
    try go_wp2
    go_ret
    exact ⟨by first|rfl|(simp [errW_none,errW_some] <;> rfl)|(simp [*,errW_none,errW_some] <;> rfl),by repeat (first|(with_reducible first|exact HB.out|apply lA|apply lN|apply lD|refine lS ?_ GE186.out|refine lS ?_ GE203.out)|exact HB.out)⟩
   ·replace c30:=Bool.eq_false_iff.mpr c30
    subst c30
    have H1 : (some false) = some r:=by rw [if_neg (show ¬ (false = true) by decide)] at H;exact H
    clear H
    have H:=H1
    clear H1
    obtain rfl:=Option.some.inj H
    go_enter Try.func14,Try.ntmps14
    try go_wp2_with (first|((with_reducible refine gate_dst (N:=1) rfl ?_);refine box_event ?hg (N:=1) ?hd (cs:=#[.slice A0_0 l0_0.length c0_0,.slice A0_1 l0_1.length c0_1,.string a0_2]) (t:=48) ?hr ?_;(case hd => rfl);(case hg => rfl);(case hr => first|(go_simp;done)|(go_simp;rfl));intro gb186 hg w52 hbox hb;have n0_:=aM (lP (by repeat (first|(with_reducible first|exact HB.out|apply lA|apply lN|apply lD)|exact HB.out)) hb);have n1_:=aM (hbox);have n2_:=aM ((by rw [hg];exact (lZ (by repeat (first|(with_reducible first|exact HB.out|apply lA|apply lN|apply lD)|exact HB.out))) : w.heap.size ≤ gb186));have n3_:=aM ((by rw [hg];exact (lZ (by repeat (first|(with_reducible first|exact HB.out|apply lA|apply lN|apply lD)|exact HB.out))) : w.heap.size ≤ gb186));clear HB;have HB:=n0_;have BK186:=n1_;have GW186:=n2_;have GE186:=n3_;clear n0_ n1_ n2_ n3_ hb hbox hg;have hcz53_0 : w52.cell? ⟨gb186,0,none⟩ = some (.slice A0_0 l0_0.length c0_0):=(bC BK186.out 0).trans rfl;have hcz53_1 : w52.cell? ⟨gb186,1,none⟩ = some (.slice A0_1 l0_1.length c0_1):=(bC BK186.out 1).trans rfl;have hcz53_2 : w52.cell? ⟨gb186,2,none⟩ = some (.string a0_2):=(bC BK186.out 2).trans rfl;have hfz53_0:=bF BK186.out 0;have hfz53_1:=bF BK186.out 1;have hfz53_2:=bF BK186.out 2)|((with_reducible refine gate_callee (f:=34) rfl ?_);refine goesL_ (some 9) rfl rfl Try.func34 (by kernel_rfl) rfl #[.agg #[.slice A0_0 l0_0.length c0_0,.slice A0_1 l0_1.length c0_1,.string a0_2],.int .i64 1048576] rfl (by (try simp only [List.map_toArray,List.map_cons,List.map_nil]);first|done|rfl|(simp only [List.length_drop,List.length_take];rfl)) ?_;(with_reducible refine (laws_szStore.calls k _ _ l0_0 _ _ l0_1 a0_2 1048576 t187 _ ?side1 ?side2 ?side3 ?side4 A2.out).mono ?_);(case side1 => repeat (first|exact (cB HR0_0.out HB.out)|(with_reducible first|refine cA ?_ _|refine cN ?_ _|refine cD ?_)));(case side2 => exact HC0_0.out);(case side3 => repeat (first|exact (cB HR0_1.out HB.out)|(with_reducible first|refine cA ?_ _|refine cN ?_ _|refine cD ?_)));(case side4 => exact HC0_1.out);rintro e w54 ⟨rfl,hb⟩;refine ⟨_,rfl,?_⟩;have n0_:=aM (bB (g:=gb186) (o:=.cells #[.slice A0_0 l0_0.length c0_0,.slice A0_1 l0_1.length c0_1,.string a0_2] 48 (0,0)) (by (with_reducible repeat (first|refine bN ?_ _|refine bD ?_|refine bA ?_ _));exact BK186.out) hb);have n1_:=aM (lP (by repeat (first|(with_reducible first|exact HB.out|apply lA|apply lN|apply lD|refine lS ?_ GE186.out)|exact HB.out)) hb);clear BK186 HB;have BK186:=n0_;have HB:=n1_;clear n0_ n1_;(try clear hb);(try clear hb2);(try clear hk);(try clear hi);have hcz55_0 : w54.cell? ⟨gb186,0,none⟩ = some (.slice A0_0 l0_0.length c0_0):=(bC BK186.out 0).trans rfl;have hcz55_1 : w54.cell? ⟨gb186,1,none⟩ = some (.slice A0_1 l0_1.length c0_1):=(bC BK186.out 1).trans rfl;have hcz55_2 : w54.cell? ⟨gb186,2,none⟩ = some (.string a0_2):=(bC BK186.out 2).trans rfl;have hfz55_0:=bF BK186.out 0;have hfz55_1:=bF BK186.out 1;have hfz55_2:=bF BK186.out 2)|((with_reducible refine gate_callee (f:=36) rfl ?_);refine goesL_ (some 13) rfl rfl Try.func36 (by kernel_rfl) rfl #[.agg #[.slice A0_0 l0_0.length c0_0,.slice A0_1 l0_1.length c0_1,.string a0_2]] rfl (by (try simp only [List.map_toArray,List.map_cons,List.map_nil]);first|done|rfl|(simp only [List.length_drop,List.length_take];rfl)) ?_;(with_reducible refine (laws_toStore.calls k _ _ l0_0 _ _ l0_1 a0_2 t188 t191 t194 _ ?side1 ?side2 ?side3 ?side4 A7.out).mono ?_);(case side1 => repeat (first|exact (cB HR0_0.out HB.out)|(with_reducible first|refine cA ?_ _|refine cN ?_ _|refine cD ?_)));(case side2 => exact HC0_0.out);(case side3 => repeat (first|exact (cB HR0_1.out HB.out)|(with_reducible first|refine cA ?_ _|refine cN ?_ _|refine cD ?_)));(case side4 => exact HC0_1.out);rintro e w56 ⟨v189,v192,rfl,ho0,ho1,hb⟩;refine ⟨_,rfl,?_⟩;have n0_:=aM (rL ho0 (lZ (by repeat (first|(with_reducible first|exact HB.out|apply lA|apply lN|apply lD|refine lS ?_ GE186.out)|exact HB.out))));have n1_:=aM (rL ho1 (lZ (by repeat (first|(with_reducible first|exact HB.out|apply lA|apply lN|apply lD|refine lS ?_ GE186.out)|exact HB.out))));have n2_:=aM (bB (g:=gb186) (o:=.cells #[.slice A0_0 l0_0.length c0_0,.slice A0_1 l0_1.length c0_1,.string a0_2] 48 (0,0)) (by (with_reducible repeat (first|refine bN ?_ _|refine bD ?_|refine bA ?_ _));exact BK186.out) hb);have n3_:=aM (lP (by repeat (first|(with_reducible first|exact HB.out|apply lA|apply lN|apply lD|refine lS ?_ GE186.out)|exact HB.out)) hb);clear BK186 HB;have HO190:=n0_;have HO193:=n1_;have BK186:=n2_;have HB:=n3_;clear n0_ n1_ n2_ n3_;(try clear hb);(try clear hb2);(try clear hk);(try clear hi);(try clear ho0);(try clear ho1);obtain ⟨Ao57,co57,eo57⟩:=Kd.R_slice HO190.out;subst eo57;obtain ⟨Ao58,co58,eo58⟩:=Kd.R_slice HO193.out;subst eo58)|((with_reducible refine gate_callee (f:=56) rfl ?_);refine goesL_ (some 14) rfl rfl Try.func56 (by kernel_rfl) rfl #[.agg #[.slice Ao57 t188.length co57,.slice Ao58 t191.length co58,.string t194]] rfl (by (try simp only [List.map_toArray,List.map_cons,List.map_nil]);first|done|rfl|(simp only [List.length_drop,List.length_take];rfl)) ?_;(with_reducible refine (spec_StoreOk.calls k _ _ t188 _ _ t191 t194 t195 _ ?side1 ?side2 ?side3 ?side4 A8.out).mono ?_);(case side1 => repeat (first|exact (rR HO190.out).2.2|(with_reducible first|refine cA ?_ _|refine cN ?_ _|refine cD ?_)));(case side2 => exact (rR HO190.out).2.1);(case side3 => repeat (first|exact (rR HO193.out).2.2|(with_reducible first|refine cA ?_ _|refine cN ?_ _|refine cD ?_)));(case side4 => exact (rR HO193.out).2.1);rintro e w59 ⟨rfl,hb⟩;refine ⟨_,rfl,?_⟩;have n0_:=aM (rB (by (with_reducible repeat (first|apply rA|apply rN|apply rD));exact HO190.out) hb);have n1_:=aM (rB (by (with_reducible repeat (first|apply rA|apply rN|apply rD));exact HO193.out) hb);have n2_:=aM (bB (g:=gb186) (o:=.cells #[.slice A0_0 l0_0.length c0_0,.slice A0_1 l0_1.length c0_1,.string a0_2] 48 (0,0)) (by (with_reducible repeat (first|refine bN ?_ _|refine bD ?_|refine bA ?_ _));exact BK186.out) hb);have n3_:=aM (lP (by repeat (first|(with_reducible first|exact HB.out|apply lA|apply lN|apply lD|refine lS ?_ GE186.out)|exact HB.out)) hb);clear HO190 HO193 BK186 HB;have HO190:=n0_;have HO193:=n1_;have BK186:=n2_;have HB:=n3_;clear n0_ n1_ n2_ n3_;(try clear hb);(try clear hb2);(try clear hk);(try clear hi);have hcz60_0 : w59.cell? ⟨gb186,0,none⟩ = some (.slice A0_0 l0_0.length c0_0):=(bC BK186.out 0).trans rfl;have hcz60_1 : w59.cell? ⟨gb186,1,none⟩ = some (.slice A0_1 l0_1.length c0_1):=(bC BK186.out 1).trans rfl;have hcz60_2 : w59.cell? ⟨gb186,2,none⟩ = some (.string a0_2):=(bC BK186.out 2).trans rfl;have hfz60_0:=bF BK186.out 0;have hfz60_1:=bF BK186.out 1;have hfz60_2:=bF BK186.out 2)|((with_reducible refine gate_callee (f:=36) rfl ?_);refine goesL_ (some 16) rfl rfl Try.func36 (by kernel_rfl) rfl #[.agg #[.slice A0_0 l0_0.length c0_0,.slice A0_1 l0_1.length c0_1,.string a0_2]] rfl (by (try simp only [List.map_toArray,List.map_cons,List.map_nil]);first|done|rfl|(simp only [List.length_drop,List.length_take];rfl)) ?_;(with_reducible refine (laws_toStore.calls k _ _ l0_0 _ _ l0_1 a0_2 t196 t199 t202 _ ?side1 ?side2 ?side3 ?side4 A9.out).mono ?_);(case side1 => repeat (first|exact (cB HR0_0.out HB.out)|(with_reducible first|refine cA ?_ _|refine cN ?_ _|refine cD ?_)));(case side2 => exact HC0_0.out);(case side3 => repeat (first|exact (cB HR0_1.out HB.out)|(with_reducible first|refine cA ?_ _|refine cN ?_ _|refine cD ?_)));(case side4 => exact HC0_1.out);rintro e w61 ⟨v197,v200,rfl,ho0,ho1,hb⟩;refine ⟨_,rfl,?_⟩;have n0_:=aM (rE (by (with_reducible repeat (first|apply rA|apply rN|apply rD));exact HO190.out) (rS ho0) hb);have n1_:=aM (rE (by (with_reducible repeat (first|apply rA|apply rN|apply rD));exact HO193.out) (rS ho1) hb);have n2_:=aM (rL (rW ho0 (rT (by (with_reducible repeat (first|apply rA|apply rN|apply rD));exact HO190.out))) (lZ (by repeat (first|(with_reducible first|exact HB.out|apply lA|apply lN|apply lD|refine lS ?_ GE186.out)|exact HB.out))));have n3_:=aM (rL (rW ho1 (rT (by (with_reducible repeat (first|apply rA|apply rN|apply rD));exact HO193.out))) (lZ (by repeat (first|(with_reducible first|exact HB.out|apply lA|apply lN|apply lD|refine lS ?_ GE186.out)|exact HB.out))));have n4_:=aM (bB (g:=gb186) (o:=.cells #[.slice A0_0 l0_0.length c0_0,.slice A0_1 l0_1.length c0_1,.string a0_2] 48 (0,0)) (by (with_reducible repeat (first|refine bN ?_ _|refine bD ?_|refine bA ?_ _));exact BK186.out) hb);have n5_:=aM (lP (by repeat (first|(with_reducible first|exact HB.out|apply lA|apply lN|apply lD|refine lS ?_ GE186.out)|exact HB.out)) hb);clear HO190 HO193 BK186 HB;have HO190:=n0_;have HO193:=n1_;have HO198:=n2_;have HO201:=n3_;have BK186:=n4_;have HB:=n5_;clear n0_ n1_ n2_ n3_ n4_ n5_;(try clear hb);(try clear hb2);(try clear hk);(try clear hi);(try clear ho0);(try clear ho1))|((with_reducible refine gate_dst (N:=5) rfl ?_);refine box_event ?hg (N:=5) ?hd (cs:=#[.slice none 0 0,.slice none 0 0,.string (⟨#[]⟩ : ByteArray)]) (t:=54) ?hr ?_;(case hd => rfl);(case hg => rfl);(case hr => first|(go_simp;done)|(go_simp;rfl));intro gb203 hg w62 hbox hb;have n0_:=aM (rB (by (with_reducible repeat (first|apply rA|apply rN|apply rD));exact HO190.out) hb);have n1_:=aM (rB (by (with_reducible repeat (first|apply rA|apply rN|apply rD));exact HO193.out) hb);have n2_:=aM (rB (by (with_reducible repeat (first|apply rA|apply rN|apply rD));exact HO198.out) hb);have n3_:=aM (rB (by (with_reducible repeat (first|apply rA|apply rN|apply rD));exact HO201.out) hb);have n4_:=aM (bB (g:=gb186) (o:=.cells #[.slice A0_0 l0_0.length c0_0,.slice A0_1 l0_1.length c0_1,.string a0_2] 48 (0,0)) (by (with_reducible repeat (first|refine bN ?_ _|refine bD ?_|refine bA ?_ _));exact BK186.out) hb);have n5_:=aM (lP (by repeat (first|(with_reducible first|exact HB.out|apply lA|apply lN|apply lD|refine lS ?_ GE186.out)|exact HB.out)) hb);have n6_:=aM (hbox);have n7_:=aM ((by rw [hg];exact (lZ (by repeat (first|(with_reducible first|exact HB.out|apply lA|apply lN|apply lD|refine lS ?_ GE186.out)|exact HB.out))) : w.heap.size ≤ gb203));have n8_:=aM ((by rw [hg];exact (lZ (by repeat (first|(with_reducible first|exact HB.out|apply lA|apply lN|apply lD|refine lS ?_ GE186.out)|exact HB.out))) : w.heap.size ≤ gb203));have n9_:=aM ((by rw [hg];exact Nat.ne_of_lt (bL (g:=gb186) (o:=.cells #[.slice A0_0 l0_0.length c0_0,.slice A0_1 l0_1.length c0_1,.string a0_2] 48 (0,0)) (by (with_reducible repeat (first|refine bN ?_ _|refine bD ?_|refine bA ?_ _));exact BK186.out)) : gb186 ≠ gb203));have n10_:=aM ((by rw [hg];exact Nat.ne_of_gt (bL (g:=gb186) (o:=.cells #[.slice A0_0 l0_0.length c0_0,.slice A0_1 l0_1.length c0_1,.string a0_2] 48 (0,0)) (by (with_reducible repeat (first|refine bN ?_ _|refine bD ?_|refine bA ?_ _));exact BK186.out)) : gb203 ≠ gb186));clear HO190 HO193 HO198 HO201 BK186 HB;have HO190:=n0_;have HO193:=n1_;have HO198:=n2_;have HO201:=n3_;have BK186:=n4_;have HB:=n5_;have BK203:=n6_;have GW203:=n7_;have GE203:=n8_;have NB186_203:=n9_;have NB203_186:=n10_;clear n0_ n1_ n2_ n3_ n4_ n5_ n6_ n7_ n8_ n9_ n10_ hb hbox hg;obtain ⟨Ao63,co63,eo63⟩:=Kd.R_slice HO198.out;subst eo63;have hnb64:=NB203_186.out;have hnc64:=NB186_203.out;have hcz65_0 : w62.cell? ⟨gb203,0,none⟩ = some (.slice none 0 0):=(bC BK203.out 0).trans rfl;have hcz65_1 : w62.cell? ⟨gb203,1,none⟩ = some (.slice none 0 0):=(bC BK203.out 1).trans rfl;have hcz65_2 : w62.cell? ⟨gb203,2,none⟩ = some (.string (⟨#[]⟩ : ByteArray)):=(bC BK203.out 2).trans rfl;have hfz65_0:=bF BK203.out 0;have hfz65_1:=bF BK203.out 1;have hfz65_2:=bF BK203.out 2;obtain ⟨Ao66,co66,eo66⟩:=Kd.R_slice HO201.out;subst eo66)|((with_reducible refine gate_callee (f:=57) rfl ?_);refine goesL_ (some 18) rfl rfl Try.func57 (by kernel_rfl) rfl #[.agg #[.slice Ao63 t196.length co63,.slice Ao66 t199.length co66,.string t202]] rfl (by (try simp only [List.map_toArray,List.map_cons,List.map_nil]);first|done|rfl|(simp only [List.length_drop,List.length_take];rfl)) ?_;(with_reducible refine (impl_StoreOk.calls k _ _ t196 _ _ t199 t202 t204 _ ?side1 ?side2 ?side3 ?side4 A10.out).mono ?_);(case side1 => refine (rR (e:=105) (base:=w.heap.size) (ok:=fun k_ => (True ∧ some k_ ≠ (.slice Ao57 t188.length co57 : Value).ownBlock)) (n:=t196.length) (c:=co63) ?_).2.2;exact (by (with_reducible repeat (first|apply rA|apply rN|apply rD));exact (Kd.R_mono (rF (p:=⟨gb203,2,none⟩) (rF (p:=⟨gb203,1,none⟩) (rF (p:=⟨gb203,0,none⟩) (rY HO198.out BK203.out (by decide)) (fun _ hk => hk.2) (.slice Ao63 t196.length co63)) (fun _ hk => hk.2) (.slice Ao66 t199.length co66)) (fun _ hk => hk.2) (.string t202)) (fun _ h_ => h_.1))));(case side2 => exact (rR HO198.out).2.1);(case side3 => refine (rR (e:=61) (base:=w.heap.size) (ok:=fun k_ => (True ∧ some k_ ≠ (.slice Ao58 t191.length co58 : Value).ownBlock)) (n:=t199.length) (c:=co66) ?_).2.2;exact (by (with_reducible repeat (first|apply rA|apply rN|apply rD));exact (Kd.R_mono (rF (p:=⟨gb203,2,none⟩) (rF (p:=⟨gb203,1,none⟩) (rF (p:=⟨gb203,0,none⟩) (rY HO201.out BK203.out (by decide)) (fun _ hk => hk.2) (.slice Ao63 t196.length co63)) (fun _ hk => hk.2) (.slice Ao66 t199.length co66)) (fun _ hk => hk.2) (.string t202)) (fun _ h_ => h_.1))));(case side4 => exact (rR HO201.out).2.1);rintro e w67 ⟨rfl,hb⟩;refine ⟨_,rfl,?_⟩;have n0_:=aM (rB (by (with_reducible repeat (first|apply rA|apply rN|apply rD));exact (Kd.R_mono (rF (p:=⟨gb203,2,none⟩) (rF (p:=⟨gb203,1,none⟩) (rF (p:=⟨gb203,0,none⟩) (rY HO190.out BK203.out (by decide)) (fun _ hk => hk.2) (.slice Ao63 t196.length co63)) (fun _ hk => hk.2) (.slice Ao66 t199.length co66)) (fun _ hk => hk.2) (.string t202)) (fun _ h_ => h_.1))) hb);have n1_:=aM (rB (by (with_reducible repeat (first|apply rA|apply rN|apply rD));exact (Kd.R_mono (rF (p:=⟨gb203,2,none⟩) (rF (p:=⟨gb203,1,none⟩) (rF (p:=⟨gb203,0,none⟩) (rY HO193.out BK203.out (by decide)) (fun _ hk => hk.2) (.slice Ao63 t196.length co63)) (fun _ hk => hk.2) (.slice Ao66 t199.length co66)) (fun _ hk => hk.2) (.string t202)) (fun _ h_ => h_.1))) hb);have n2_:=aM (rB (by (with_reducible repeat (first|apply rA|apply rN|apply rD));exact (Kd.R_mono (rF (p:=⟨gb203,2,none⟩) (rF (p:=⟨gb203,1,none⟩) (rF (p:=⟨gb203,0,none⟩) (rY HO198.out BK203.out (by decide)) (fun _ hk => hk.2) (.slice Ao63 t196.length co63)) (fun _ hk => hk.2) (.slice Ao66 t199.length co66)) (fun _ hk => hk.2) (.string t202)) (fun _ h_ => h_.1))) hb);have n3_:=aM (rB (by (with_reducible repeat (first|apply rA|apply rN|apply rD));exact (Kd.R_mono (rF (p:=⟨gb203,2,none⟩) (rF (p:=⟨gb203,1,none⟩) (rF (p:=⟨gb203,0,none⟩) (rY HO201.out BK203.out (by decide)) (fun _ hk => hk.2) (.slice Ao63 t196.length co63)) (fun _ hk => hk.2) (.slice Ao66 t199.length co66)) (fun _ hk => hk.2) (.string t202)) (fun _ h_ => h_.1))) hb);have n4_:=aM (bB (g:=gb186) (o:=.cells #[.slice A0_0 l0_0.length c0_0,.slice A0_1 l0_1.length c0_1,.string a0_2] 48 (0,0)) (by (with_reducible repeat (first|refine bN ?_ _|refine bD ?_|refine bA ?_ _));refine blk_far ?_ NB186_203.out _;(with_reducible repeat (first|refine bN ?_ _|refine bD ?_|refine bA ?_ _));refine blk_far ?_ NB186_203.out _;(with_reducible repeat (first|refine bN ?_ _|refine bD ?_|refine bA ?_ _));refine blk_far ?_ NB186_203.out _;(with_reducible repeat (first|refine bN ?_ _|refine bD ?_|refine bA ?_ _));exact BK186.out) hb);have n5_:=aM (bB (g:=gb203) (o:=.cells #[.slice Ao63 t196.length co63,.slice Ao66 t199.length co66,.string t202] 54 (0,0)) (by (with_reducible repeat (first|refine bN ?_ _|refine bD ?_|refine bA ?_ _));refine blk_put (cs:=#[.slice Ao63 t196.length co63,.slice Ao66 t199.length co66,.string (⟨#[]⟩ : ByteArray)]) ?_ 2 _ rfl;(with_reducible repeat (first|refine bN ?_ _|refine bD ?_|refine bA ?_ _));refine blk_put (cs:=#[.slice Ao63 t196.length co63,.slice none 0 0,.string (⟨#[]⟩ : ByteArray)]) ?_ 1 _ rfl;(with_reducible repeat (first|refine bN ?_ _|refine bD ?_|refine bA ?_ _));refine blk_put (cs:=#[.slice none 0 0,.slice none 0 0,.string (⟨#[]⟩ : ByteArray)]) ?_ 0 _ rfl;(with_reducible repeat (first|refine bN ?_ _|refine bD ?_|refine bA ?_ _));exact BK203.out) hb);have n6_:=aM (lP (by repeat (first|(with_reducible first|exact HB.out|apply lA|apply lN|apply lD|refine lS ?_ GE186.out|refine lS ?_ GE203.out)|exact HB.out)) hb);clear HO190 HO193 HO198 HO201 BK186 BK203 HB;have HO190:=n0_;have HO193:=n1_;have HO198:=n2_;have HO201:=n3_;have BK186:=n4_;have BK203:=n5_;have HB:=n6_;clear n0_ n1_ n2_ n3_ n4_ n5_ n6_;(try clear hb);(try clear hb2);(try clear hk);(try clear hi)))
    have n0_:=aM (rD HO190.out)
    have n1_:=aM (rD HO193.out)
    have n2_:=aM (rD HO198.out)
    have n3_:=aM (rD HO201.out)
    have n4_:=aM (bD BK186.out)
    have n5_:=aM (bD BK203.out)
    have n6_:=aM (lD HB.out)
    clear HO190
    clear HO193
    clear HO198
    clear HO201
    clear BK186
    clear BK203
    clear HB
    have HO190:=n0_
    have HO193:=n1_
    have HO198:=n2_
    have HO201:=n3_
    have BK186:=n4_
    have BK203:=n5_
    have HB:=n6_
    clear n0_ n1_ n2_ n3_ n4_ n5_ n6_
    refine start_ (n:=5) (S:=fun w' => w'.cell? ⟨gb203,0,none⟩ = some (.slice Ao63 t196.length co63) ∧ w'.cell? ⟨gb203,1,none⟩ = some (.slice Ao66 t199.length co66) ∧ w'.cell? ⟨gb203,2,none⟩ = some (.string t202) ∧ w'.cell? ⟨gb186,0,none⟩ = some (.slice A0_0 l0_0.length c0_0) ∧ w'.cell? ⟨gb186,1,none⟩ = some (.slice A0_1 l0_1.length c0_1) ∧ w'.cell? ⟨gb186,2,none⟩ = some (.string a0_2)) (ds:=[]) #[bf,bf,bf,bf,bf] (by kernel_rfl) rfl rfl ⟨(bC BK203.out 0).trans rfl,(bC BK203.out 1).trans rfl,(bC BK203.out 2).trans rfl,(bC BK186.out 0).trans rfl,(bC BK186.out 1).trans rfl,(bC BK186.out 2).trans rfl⟩ (fun hHeld => ?_)
    generalize w67.drew = w68 at HO190 HO193 HO198 HO201 BK186 BK203 HB hHeld ⊢
    refine take_ (i:=0) (N:=some 22) (v:=?_) (a':=?_) #[bT,bf,bf,bf,bf] rfl rfl (by kernel_rfl) (fun _ _ _ h => h) (Or.inl ⟨by rfl,?_⟩) hHeld ?_ ?_
    rotate_left
    ·rintro w' ⟨s0,s1,s2,s3,s4,s5⟩
     go_simp
     with_reducible rfl
    rotate_left
    ·simp only [Act.put,q_ia6,q_cz6,q_cs6,i64_w,i32_w];rfl
    refine take_ (i:=1) (N:=some 23) (v:=?_) (a':=?_) #[bT,bT,bf,bf,bf] rfl rfl (by kernel_rfl) (fun _ _ _ h => h) (Or.inl ⟨by rfl,?_⟩) hHeld ?_ ?_
    rotate_left
    ·rintro w' ⟨s0,s1,s2,s3,s4,s5⟩
     go_simp
     with_reducible rfl
    rotate_left
    ·simp only [Act.put,q_ia6,q_cz6,q_cs6,i64_w,i32_w];rfl
    refine one_ (i:=2) (N:=some 24) #[bT,bT,bT,bf,bf] rfl rfl (by kernel_rfl) (by decide) (fun K hK => ?_)
    refine goes_ Try.func36 (by kernel_rfl) rfl #[.agg #[.slice A0_0 l0_0.length c0_0,.slice A0_1 l0_1.length c0_1,.string a0_2]] (by rfl) rfl rfl (by (try simp only [List.map_toArray,List.map_cons,List.map_nil]);first|done|rfl|(simp only [List.length_drop,List.length_take];rfl)) ?_
    with_reducible refine (laws_toStore.calls k _ _ l0_0 _ _ l0_1 a0_2 t205 t208 t211 _ ?side1 ?side2 ?side3 ?side4 A28.out).mono ?_
    (case side1 => repeat (first|exact (cB HR0_0.out HB.out)|(with_reducible first|refine cA ?_ _|refine cN ?_ _|refine cD ?_)))
    (case side2 => exact HC0_0.out)
    (case side3 => repeat (first|exact (cB HR0_1.out HB.out)|(with_reducible first|refine cA ?_ _|refine cN ?_ _|refine cD ?_)))
    (case side4 => exact HC0_1.out)
    rintro e w69 ⟨v206,v209,rfl,ho0,ho1,hb⟩
    refine ⟨_,rfl,?_⟩
    have n0_:=aM (rE (by (with_reducible repeat (first|apply rA|apply rN|apply rD));exact HO190.out) (rS ho0) hb)
    have n1_:=aM (rE (by (with_reducible repeat (first|apply rA|apply rN|apply rD));exact HO193.out) (rS ho1) hb)
    have n2_:=aM (rE (by (with_reducible repeat (first|apply rA|apply rN|apply rD));exact HO198.out) (rS ho0) hb)
    have n3_:=aM (rE (by (with_reducible repeat (first|apply rA|apply rN|apply rD));exact HO201.out) (rS ho1) hb)
    have n4_:=aM (rL (rW (rW ho0 (rT (by (with_reducible repeat (first|apply rA|apply rN|apply rD));exact HO190.out))) (rT (by (with_reducible repeat (first|apply rA|apply rN|apply rD));exact HO198.out))) (lZ (by repeat (first|(with_reducible first|exact HB.out|apply lA|apply lN|apply lD|refine lS ?_ GE186.out|refine lS ?_ GE203.out)|exact HB.out))))
    have n5_:=aM (rL (rW (rW ho1 (rT (by (with_reducible repeat (first|apply rA|apply rN|apply rD));exact HO193.out))) (rT (by (with_reducible repeat (first|apply rA|apply rN|apply rD));exact HO201.out))) (lZ (by repeat (first|(with_reducible first|exact HB.out|apply lA|apply lN|apply lD|refine lS ?_ GE186.out|refine lS ?_ GE203.out)|exact HB.out))))
    have n6_:=aM (bB (g:=gb186) (o:=.cells #[.slice A0_0 l0_0.length c0_0,.slice A0_1 l0_1.length c0_1,.string a0_2] 48 (0,0)) (by (with_reducible repeat (first|refine bN ?_ _|refine bD ?_|refine bA ?_ _));exact BK186.out) hb)
    have n7_:=aM (bB (g:=gb203) (o:=.cells #[.slice Ao63 t196.length co63,.slice Ao66 t199.length co66,.string t202] 54 (0,0)) (by (with_reducible repeat (first|refine bN ?_ _|refine bD ?_|refine bA ?_ _));exact BK203.out) hb)
    have n8_:=aM (lP (by repeat (first|(with_reducible first|exact HB.out|apply lA|apply lN|apply lD|refine lS ?_ GE186.out|refine lS ?_ GE203.out)|exact HB.out)) hb)
    clear HO190
    clear HO193
    clear HO198
    clear HO201
    clear BK186
    clear BK203
    clear HB
    have HO190:=n0_
    have HO193:=n1_
    have HO198:=n2_
    have HO201:=n3_
    have HO207:=n4_
    have HO210:=n5_
    have BK186:=n6_
    have BK203:=n7_
    have HB:=n8_
    clear n0_ n1_ n2_ n3_ n4_ n5_ n6_ n7_ n8_
    (try clear hb)
    (try clear hb2)
    (try clear hk)
    (try clear hi)
    (try clear ho0)
    (try clear ho1)
    obtain ⟨Ao70,co70,eo70⟩:=Kd.R_slice HO207.out
    (first|subst eo70|(injection eo70 with f1_ f2_ f3_;have f4_:=f1_.symm;have f5_:=f3_.symm;clear f1_ f2_ f3_;subst f4_;subst f5_))
    obtain ⟨Ao71,co71,eo71⟩:=Kd.R_slice HO210.out
    (first|subst eo71|(injection eo71 with f1_ f2_ f3_;have f4_:=f1_.symm;have f5_:=f3_.symm;clear f1_ f2_ f3_;subst f4_;subst f5_))
    refine hK.out _ _ ⟨(bC BK203.out 0).trans rfl,(bC BK203.out 1).trans rfl,(bC BK203.out 2).trans rfl,(bC BK186.out 0).trans rfl,(bC BK186.out 1).trans rfl,(bC BK186.out 2).trans rfl⟩ (fun hHeld => ?_)
    clear hK K
    refine norm_ (a':=?_) ?_ ?_
    rotate_left
    ·show Act.put _ (some 24) _ = _
     simp only [Act.put,q_ia6,q_cz6,q_cs6,i64_w,i32_w]
     rfl
    refine one_ (i:=3) (N:=some 25) #[bT,bT,bT,bT,bf] rfl rfl (by kernel_rfl) (by decide) (fun K hK => ?_)
    refine goes_ Try.func38 (by kernel_rfl) rfl #[.agg #[.slice Ao63 t196.length co63,.slice Ao66 t199.length co66,.string t202],.agg #[.slice Ao70 t205.length co70,.slice Ao71 t208.length co71,.string t211]] (by rfl) rfl rfl (by (try simp only [List.map_toArray,List.map_cons,List.map_nil]);first|done|rfl|(simp only [List.length_drop,List.length_take];rfl)) ?_
    with_reducible refine (laws_eqStore.calls k _ _ t196 _ _ t199 t202 _ _ t205 _ _ t208 t211 false _ ?side1 ?side2 ?side3 ?side4 ?side5 ?side6 ?side7 ?side8 A29.out).mono ?_
    (case side1 => repeat (first|exact (rR HO198.out).2.2|(with_reducible first|refine cA ?_ _|refine cN ?_ _|refine cD ?_)))
    (case side2 => exact (rR HO198.out).2.1)
    (case side3 => repeat (first|exact (rR HO201.out).2.2|(with_reducible first|refine cA ?_ _|refine cN ?_ _|refine cD ?_)))
    (case side4 => exact (rR HO201.out).2.1)
    (case side5 => repeat (first|exact (rR HO207.out).2.2|(with_reducible first|refine cA ?_ _|refine cN ?_ _|refine cD ?_)))
    (case side6 => exact (rR HO207.out).2.1)
    (case side7 => repeat (first|exact (rR HO210.out).2.2|(with_reducible first|refine cA ?_ _|refine cN ?_ _|refine cD ?_)))
    (case side8 => exact (rR HO210.out).2.1)
    rintro e w72 ⟨rfl,hb⟩
    refine ⟨_,rfl,?_⟩
    have n0_:=aM (rB (by (with_reducible repeat (first|apply rA|apply rN|apply rD));exact HO190.out) hb)
    have n1_:=aM (rB (by (with_reducible repeat (first|apply rA|apply rN|apply rD));exact HO193.out) hb)
    have n2_:=aM (rB (by (with_reducible repeat (first|apply rA|apply rN|apply rD));exact HO198.out) hb)
    have n3_:=aM (rB (by (with_reducible repeat (first|apply rA|apply rN|apply rD));exact HO201.out) hb)
    have n4_:=aM (rB (by (with_reducible repeat (first|apply rA|apply rN|apply rD));exact HO207.out) hb)
    have n5_:=aM (rB (by (with_reducible repeat (first|apply rA|apply rN|apply rD));exact HO210.out) hb)
    have n6_:=aM (bB (g:=gb186) (o:=.cells #[.slice A0_0 l0_0.length c0_0,.slice A0_1 l0_1.length c0_1,.string a0_2] 48 (0,0)) (by (with_reducible repeat (first|refine bN ?_ _|refine bD ?_|refine bA ?_ _));exact BK186.out) hb)
    have n7_:=aM (bB (g:=gb203) (o:=.cells #[.slice Ao63 t196.length co63,.slice Ao66 t199.length co66,.string t202] 54 (0,0)) (by (with_reducible repeat (first|refine bN ?_ _|refine bD ?_|refine bA ?_ _));exact BK203.out) hb)
    have n8_:=aM (lP (by repeat (first|(with_reducible first|exact HB.out|apply lA|apply lN|apply lD|refine lS ?_ GE186.out|refine lS ?_ GE203.out)|exact HB.out)) hb)
    clear HO190
    clear HO193
    clear HO198
    clear HO201
    clear HO207
    clear HO210
    clear BK186
    clear BK203
    clear HB
    have HO190:=n0_
    have HO193:=n1_
    have HO198:=n2_
    have HO201:=n3_
    have HO207:=n4_
    have HO210:=n5_
    have BK186:=n6_
    have BK203:=n7_
    have HB:=n8_
    clear n0_ n1_ n2_ n3_ n4_ n5_ n6_ n7_ n8_
    (try clear hb)
    (try clear hb2)
    (try clear hk)
    (try clear hi)
    refine hK.out _ _ ⟨(bC BK203.out 0).trans rfl,(bC BK203.out 1).trans rfl,(bC BK203.out 2).trans rfl,(bC BK186.out 0).trans rfl,(bC BK186.out 1).trans rfl,(bC BK186.out 2).trans rfl⟩ (fun hHeld => ?_)
    clear hK K
    refine norm_ (a':=?_) ?_ ?_
    rotate_left
    ·show Act.put _ (some 25) _ = _
     simp only [Act.put,q_ia6,q_cz6,q_cs6,i64_w,i32_w]
     rfl
    refine pure_ (i:=4) (N:=some 26) (v:=?_) (a':=?_) #[bT,bT,bT,bT,bT] rfl rfl (by kernel_rfl) (fun _ _ _ h => h) (Or.inl ⟨by rfl,?_⟩) ?_ ?_
    rotate_left
    ·intro w';go_simp;with_reducible rfl
    rotate_left
    ·simp only [Act.put,q_ia6,q_cz6,q_cs6,i64_w,i32_w];rfl
    refine done_ (by kernel_rfl) ?_
    try go_wp2
    go_ret
    exact ⟨by first|rfl|(simp [errW_none,errW_some] <;> rfl)|(simp [*,errW_none,errW_some] <;> rfl),by repeat (first|(with_reducible first|exact HB.out|apply lA|apply lN|apply lD|refine lS ?_ GE186.out|refine lS ?_ GE203.out)|exact HB.out)⟩

end Go.Proofs.Ytjbfppakafkkoaa.QFnExactStoreOk
