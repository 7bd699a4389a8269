-- A text of this session, made by wip/own_print.py (the kit's print with additions of ours).
import Derived.Test.YtjbfppakafkkoaaQFnExactSameProgramx0
import Derived.Test.YtjbfppakafkkoaaQFnExactSameProgramx2
import Derived.Test.YtjbfppakafkkoaaQFnExactSameProgramx3
import Derived.Test.YtjbfppakafkkoaaQFnExactSameProgramx4
import Derived.Test.YtjbfppakafkkoaaQFnExactSameProgramx5
import Derived.Test.YtjbfppakafkkoaaQFnExactSameProgramx7
namespace Go.Proofs.Ytjbfppakafkkoaa.QFnExactSameProgram
open Go.RowKit Go.Proofs.YtjbfppakafkkoaaW.PrintWords Go.Proofs.YtjbfppakafkkoaaW.PrintLast Go.Proofs.YtjbfppakafkkoaaW.PrintMore
attribute [local go_sem] max2_int min2_int max_two min_two max_three min_three max_four min_four   -- for this text's walks alone
set_option linter.unusedVariables false
set_option linter.unusedSimpArgs false
open Bool renaming true → bT, false → bf
open Go.Proofs.YtjbfppakafkkoaaW.PrintWords.Kd renaming R_alloc → rA, R_drewN → rN, R_drew → rD, C_alloc → cA, C_drewN → cN, C_drew → cD, R_far → rF, R_below → rB, R_lower → rL, R_lt → rT, R_base → rS, C_below → cB, R_types → rY, R_elder' → rE, R_reads' → rR, R_new' → rW
open Go.Proofs.YtjbfppakafkkoaaW.PrintWords renaming blk_drewN → bN, blk_drew → bD, blk_alloc → bA, below_set → lS, pw_below_drewN → lN, below_drew1 → lD, below_alloc → lA, blk_cell → bC, blk_below → bB, below_size → lZ, below_step → lP, blk_lt → bL, blk_frozen → bF
open Go.Proofs.YtjbfppakafkkoaaW.PrintWords.Aside0 renaming mk → aM
theorem q_ia {α : Type} (l : List α) (i : Nat) (a : α) : l.toArray.setIfInBounds i a = (l.set i a).toArray := List.setIfInBounds_toArray ..
theorem q_cz {α : Type} (a b : α) (l : List α) : (a :: l).set 0 b = b :: l := rfl
theorem q_cs {α : Type} (a b : α) (l : List α) (n : Nat) : (a :: l).set (n + 1) b = a :: l.set n b := rfl

/-! ### laws_FnExactSameProgram: function 13 -/
def laws_FnExactSameProgram.f (k : Nat) (l0_0 : List (S152)) (l0_1 : List (S155)) (l1_0 : List (S152)) (l1_1 : List (S155)) : Option (Bool) := (laws_szProgram.f k l0_0 l0_1 1048576).bind fun t194 => (if t194 < 0 then (some true) else ((laws_szProgram.f k l1_0 l1_1 t194).bind fun t195 => (if t195 < 0 then (some true) else ((laws_toProgram.f k l0_0 l0_1).bind fun bt196 => ((laws_toProgram.f k l1_0 l1_1).bind fun bt202 => ((spec_SameProgram.f k bt196.1 bt196.2 bt202.1 bt202.2).bind fun t208 => ((laws_toProgram.f k l0_0 l0_1).bind fun bt209 => ((laws_toProgram.f k l1_0 l1_1).bind fun bt216 => ((impl_SameProgram.f k bt209.1 bt209.2 bt216.1 bt216.2).bind fun t223 => (if (t223 != t208) = true then (some false) else ((laws_toProgram.f k l0_0 l0_1).bind fun bt224 => ((laws_eqProgram.f k bt209.1 bt209.2 bt224.1 bt224.2).bind fun t230 => (if t230 = true then ((laws_toProgram.f k l1_0 l1_1).bind fun bt231 => ((laws_eqProgram.f k bt216.1 bt216.2 bt231.1 bt231.2).bind fun t237 => (if t237 = true then (some true) else (some false)))) else (some false))))))))))))))
theorem laws_FnExactSameProgram.mono : ∀ a0 a1 a2 a3 k, LeO (laws_FnExactSameProgram.f k a0 a1 a2 a3) (laws_FnExactSameProgram.f (k + 1) a0 a1 a2 a3) := by
 intro a0 a1 a2 a3 k
 unfold laws_FnExactSameProgram.f
 repeat' first
   | (with_reducible exact impl_SameProgram.mono _ _ _ _ _)
   | (with_reducible exact laws_eqProgram.mono _ _ _ _ _)
   | (with_reducible exact laws_szProgram.mono _ _ _ _)
   | (with_reducible exact laws_toProgram.mono _ _ _)
   | (with_reducible exact spec_SameProgram.mono _ _ _ _ _)
   | (with_reducible exact LeO.refl _)
   | (with_reducible exact LeO.none _)
   | (with_reducible refine LeO.ite ?_ ?_)
   | (with_reducible refine LeO.bind ?_ (fun _ => ?_))
   | exact impl_SameProgram.mono _ _ _ _ _
   | exact laws_eqProgram.mono _ _ _ _ _
   | exact laws_szProgram.mono _ _ _ _
   | exact laws_toProgram.mono _ _ _
   | exact spec_SameProgram.mono _ _ _ _ _
   | exact LeO.none _
   | refine LeO.ite ?_ ?_
   | refine LeO.bind ?_ (fun _ => ?_)
set_option maxHeartbeats 8000000 in
set_option maxRecDepth 100000 in
theorem laws_FnExactSameProgram.calls (k : Nat) (A0_0 : Option Addr) (c0_0 : Nat) (l0_0 : List (S152)) (A0_1 : Option Addr) (c0_1 : Nat) (l0_1 : List (S155)) (A1_0 : Option Addr) (c1_0 : Nat) (l1_0 : List (S152)) (A1_1 : Option Addr) (c1_1 : Nat) (l1_1 : List (S155)) (r : Bool) (w : World) (hr0_0 : Kd.C k152 w A0_0 l0_0.length l0_0) (hc0_0 : l0_0.length ≤ c0_0) (hr0_1 : Kd.C k155 w A0_1 l0_1.length l0_1) (hc0_1 : l0_1.length ≤ c0_1) (hr1_0 : Kd.C k152 w A1_0 l1_0.length l1_0) (hc1_0 : l1_0.length ≤ c1_0) (hr1_1 : Kd.C k155 w A1_1 l1_1.length l1_1) (hc1_1 : l1_1.length ≤ c1_1) (h : laws_FnExactSameProgram.f k l0_0 l0_1 l1_0 l1_1 = some r) :
  Calls Try.prog 13 #[.agg #[.slice A0_0 l0_0.length c0_0,.slice A0_1 l0_1.length c0_1],.agg #[.slice A1_0 l1_0.length c1_0,.slice A1_1 l1_1.length c1_1]] w fun e w' => e = .returned (.bool r) ∧ Below w.heap.size w w':=by
 have hu72:=Try.underlying72
 have hu78:=Try.underlying78
 have HR0_0:=aM hr0_0
 have HC0_0:=aM hc0_0
 clear hr0_0 hc0_0
 have HR0_1:=aM hr0_1
 have HC0_1:=aM hc0_1
 clear hr0_1 hc0_1
 have HR1_0:=aM hr1_0
 have HC1_0:=aM hc1_0
 clear hr1_0 hc1_0
 have HR1_1:=aM hr1_1
 have HC1_1:=aM hc1_1
 clear hr1_1 hc1_1
 have HB:=aM (Below.refl w.heap.size w)
 have H : ((laws_szProgram.f k l0_0 l0_1 1048576).bind fun t194 => (if t194 < 0 then (some true) else ((laws_szProgram.f k l1_0 l1_1 t194).bind fun t195 => (if t195 < 0 then (some true) else ((laws_toProgram.f k l0_0 l0_1).bind fun bt196 => ((laws_toProgram.f k l1_0 l1_1).bind fun bt202 => ((spec_SameProgram.f k bt196.1 bt196.2 bt202.1 bt202.2).bind fun t208 => ((laws_toProgram.f k l0_0 l0_1).bind fun bt209 => ((laws_toProgram.f k l1_0 l1_1).bind fun bt216 => ((impl_SameProgram.f k bt209.1 bt209.2 bt216.1 bt216.2).bind fun t223 => (if (t223 != t208) = true then (some false) else ((laws_toProgram.f k l0_0 l0_1).bind fun bt224 => ((laws_eqProgram.f k bt209.1 bt209.2 bt224.1 bt224.2).bind fun t230 => (if t230 = true then ((laws_toProgram.f k l1_0 l1_1).bind fun bt231 => ((laws_eqProgram.f k bt216.1 bt216.2 bt231.1 bt231.2).bind fun t237 => (if t237 = true then (some true) else (some false)))) else (some false))))))))))))))) = some r:=h
 clear h
 replace H:=Option.bind_eq_some_iff.mp H
 obtain ⟨t194,A30,H⟩:=H
 replace H : (if t194 < 0 then (some true) else ((laws_szProgram.f k l1_0 l1_1 t194).bind fun t195 => (if t195 < 0 then (some true) else ((laws_toProgram.f k l0_0 l0_1).bind fun bt196 => ((laws_toProgram.f k l1_0 l1_1).bind fun bt202 => ((spec_SameProgram.f k bt196.1 bt196.2 bt202.1 bt202.2).bind fun t208 => ((laws_toProgram.f k l0_0 l0_1).bind fun bt209 => ((laws_toProgram.f k l1_0 l1_1).bind fun bt216 => ((impl_SameProgram.f k bt209.1 bt209.2 bt216.1 bt216.2).bind fun t223 => (if (t223 != t208) = true then (some false) else ((laws_toProgram.f k l0_0 l0_1).bind fun bt224 => ((laws_eqProgram.f k bt209.1 bt209.2 bt224.1 bt224.2).bind fun t230 => (if t230 = true then ((laws_toProgram.f k l1_0 l1_1).bind fun bt231 => ((laws_eqProgram.f k bt216.1 bt216.2 bt231.1 bt231.2).bind fun t237 => (if t237 = true then (some true) else (some false)))) else (some false)))))))))))))) = some r:=H
 have A3:=aM A30
 clear A30
 by_cases c4 : t194 < 0
 ·rw [if_pos c4] at H
  have c4b0 : decide (t194 < 0) = true:=decide_eq_true c4
  clear c4
  obtain rfl:=Option.some.inj H
  go_enter Try.func13,Try.ntmps13
  go_wp2_with (first|((with_reducible refine gate_dst (N:=2) rfl ?_);refine box_event ?hg (N:=2) ?hd (cs:=#[.slice A0_0 l0_0.length c0_0,.slice A0_1 l0_1.length c0_1]) (t:=72) ?hr ?_;(case hd => rfl);(case hg => rfl);(case hr => first|(go_simp;done)|(go_simp;rfl));intro gb192 hg w5 hbox hb;have n0_:=aM (lP (by repeat (first|(with_reducible first|exact HB.out|apply lA|apply lN|apply lD)|exact HB.out)) hb);have n1_:=aM (hbox);have n2_:=aM ((by rw [hg];exact (lZ (by repeat (first|(with_reducible first|exact HB.out|apply lA|apply lN|apply lD)|exact HB.out))) : w.heap.size ≤ gb192));have n3_:=aM ((by rw [hg];exact (lZ (by repeat (first|(with_reducible first|exact HB.out|apply lA|apply lN|apply lD)|exact HB.out))) : w.heap.size ≤ gb192));clear HB;have HB:=n0_;have BK192:=n1_;have GW192:=n2_;have GE192:=n3_;clear n0_ n1_ n2_ n3_ hb hbox hg)|((with_reducible refine gate_dst (N:=3) rfl ?_);refine box_event ?hg (N:=3) ?hd (cs:=#[.slice A1_0 l1_0.length c1_0,.slice A1_1 l1_1.length c1_1]) (t:=72) ?hr ?_;(case hd => rfl);(case hg => rfl);(case hr => first|(go_simp;done)|(go_simp;rfl));intro gb193 hg w6 hbox hb;have n0_:=aM (bB (g:=gb192) (o:=.cells #[.slice A0_0 l0_0.length c0_0,.slice A0_1 l0_1.length c0_1] 72 (0,0)) (by (with_reducible repeat (first|refine bN ?_ _|refine bD ?_|refine bA ?_ _));exact BK192.out) hb);have n1_:=aM (lP (by repeat (first|(with_reducible first|exact HB.out|apply lA|apply lN|apply lD|refine lS ?_ GE192.out)|exact HB.out)) hb);have n2_:=aM (hbox);have n3_:=aM ((by rw [hg];exact (lZ (by repeat (first|(with_reducible first|exact HB.out|apply lA|apply lN|apply lD|refine lS ?_ GE192.out)|exact HB.out))) : w.heap.size ≤ gb193));have n4_:=aM ((by rw [hg];exact (lZ (by repeat (first|(with_reducible first|exact HB.out|apply lA|apply lN|apply lD|refine lS ?_ GE192.out)|exact HB.out))) : w.heap.size ≤ gb193));have n5_:=aM ((by rw [hg];exact Nat.ne_of_lt (bL (g:=gb192) (o:=.cells #[.slice A0_0 l0_0.length c0_0,.slice A0_1 l0_1.length c0_1] 72 (0,0)) (by (with_reducible repeat (first|refine bN ?_ _|refine bD ?_|refine bA ?_ _));exact BK192.out)) : gb192 ≠ gb193));have n6_:=aM ((by rw [hg];exact Nat.ne_of_gt (bL (g:=gb192) (o:=.cells #[.slice A0_0 l0_0.length c0_0,.slice A0_1 l0_1.length c0_1] 72 (0,0)) (by (with_reducible repeat (first|refine bN ?_ _|refine bD ?_|refine bA ?_ _));exact BK192.out)) : gb193 ≠ gb192));clear BK192 HB;have BK192:=n0_;have HB:=n1_;have BK193:=n2_;have GW193:=n3_;have GE193:=n4_;have NB192_193:=n5_;have NB193_192:=n6_;clear n0_ n1_ n2_ n3_ n4_ n5_ n6_ hb hbox hg;have hnb7:=NB192_193.out;have hnc7:=NB193_192.out;have hcz8_0 : w6.cell? ⟨gb192,0,none⟩ = some (.slice A0_0 l0_0.length c0_0):=(bC BK192.out 0).trans rfl;have hcz8_1 : w6.cell? ⟨gb192,1,none⟩ = some (.slice A0_1 l0_1.length c0_1):=(bC BK192.out 1).trans rfl;have hfz8_0:=bF BK192.out 0;have hfz8_1:=bF BK192.out 1)|((with_reducible refine gate_callee (f:=51) rfl ?_);refine goesL_ (some 12) rfl rfl Try.func51 (by kernel_rfl) rfl #[.agg #[.slice A0_0 l0_0.length c0_0,.slice A0_1 l0_1.length c0_1],.int .i64 1048576] rfl (by (try simp only [List.map_toArray,List.map_cons,List.map_nil]);first|done|rfl|(simp only [List.length_drop,List.length_take];rfl)) ?_;(with_reducible refine (laws_szProgram.calls k _ _ l0_0 _ _ l0_1 1048576 t194 _ ?side1 ?side2 ?side3 ?side4 A3.out).mono ?_);(case side1 => repeat (first|exact (cB HR0_0.out HB.out)|(with_reducible first|refine cA ?_ _|refine cN ?_ _|refine cD ?_)));(case side2 => exact HC0_0.out);(case side3 => repeat (first|exact (cB HR0_1.out HB.out)|(with_reducible first|refine cA ?_ _|refine cN ?_ _|refine cD ?_)));(case side4 => exact HC0_1.out);rintro e w9 ⟨rfl,hb⟩;refine ⟨_,rfl,?_⟩;have n0_:=aM (bB (g:=gb192) (o:=.cells #[.slice A0_0 l0_0.length c0_0,.slice A0_1 l0_1.length c0_1] 72 (0,0)) (by (with_reducible repeat (first|refine bN ?_ _|refine bD ?_|refine bA ?_ _));exact BK192.out) hb);have n1_:=aM (bB (g:=gb193) (o:=.cells #[.slice A1_0 l1_0.length c1_0,.slice A1_1 l1_1.length c1_1] 72 (0,0)) (by (with_reducible repeat (first|refine bN ?_ _|refine bD ?_|refine bA ?_ _));exact BK193.out) hb);have n2_:=aM (lP (by repeat (first|(with_reducible first|exact HB.out|apply lA|apply lN|apply lD|refine lS ?_ GE192.out|refine lS ?_ GE193.out)|exact HB.out)) hb);clear BK192 BK193 HB;have BK192:=n0_;have BK193:=n1_;have HB:=n2_;clear n0_ n1_ n2_;(try clear hb);(try clear hb2);(try clear hk);(try clear hi)))
  go_ret
  exact ⟨by first|rfl|(simp [errW_none,errW_some] <;> rfl)|(simp [*,errW_none,errW_some] <;> rfl),by repeat (first|(with_reducible first|exact HB.out|apply lA|apply lN|apply lD|refine lS ?_ GE192.out|refine lS ?_ GE193.out)|exact HB.out)⟩
 ·rw [if_neg c4] at H
  have c4b0 : decide (t194 < 0) = false:=decide_eq_false c4
  clear c4
  replace H:=Option.bind_eq_some_iff.mp H
  obtain ⟨t195,A100,H⟩:=H
  replace H : (if t195 < 0 then (some true) else ((laws_toProgram.f k l0_0 l0_1).bind fun bt196 => ((laws_toProgram.f k l1_0 l1_1).bind fun bt202 => ((spec_SameProgram.f k bt196.1 bt196.2 bt202.1 bt202.2).bind fun t208 => ((laws_toProgram.f k l0_0 l0_1).bind fun bt209 => ((laws_toProgram.f k l1_0 l1_1).bind fun bt216 => ((impl_SameProgram.f k bt209.1 bt209.2 bt216.1 bt216.2).bind fun t223 => (if (t223 != t208) = true then (some false) else ((laws_toProgram.f k l0_0 l0_1).bind fun bt224 => ((laws_eqProgram.f k bt209.1 bt209.2 bt224.1 bt224.2).bind fun t230 => (if t230 = true then ((laws_toProgram.f k l1_0 l1_1).bind fun bt231 => ((laws_eqProgram.f k bt216.1 bt216.2 bt231.1 bt231.2).bind fun t237 => (if t237 = true then (some true) else (some false)))) else (some false)))))))))))) = some r:=H
  have A10:=aM A100
  clear A100
  by_cases c11 : t195 < 0
  ·rw [if_pos c11] at H
   have c11b0 : decide (t195 < 0) = true:=decide_eq_true c11
   clear c11
   obtain rfl:=Option.some.inj H
   go_enter Try.func13,Try.ntmps13
   go_wp2_with (first|((with_reducible refine gate_dst (N:=2) rfl ?_);refine box_event ?hg (N:=2) ?hd (cs:=#[.slice A0_0 l0_0.length c0_0,.slice A0_1 l0_1.length c0_1]) (t:=72) ?hr ?_;(case hd => rfl);(case hg => rfl);(case hr => first|(go_simp;done)|(go_simp;rfl));intro gb192 hg w12 hbox hb;have n0_:=aM (lP (by repeat (first|(with_reducible first|exact HB.out|apply lA|apply lN|apply lD)|exact HB.out)) hb);have n1_:=aM (hbox);have n2_:=aM ((by rw [hg];exact (lZ (by repeat (first|(with_reducible first|exact HB.out|apply lA|apply lN|apply lD)|exact HB.out))) : w.heap.size ≤ gb192));have n3_:=aM ((by rw [hg];exact (lZ (by repeat (first|(with_reducible first|exact HB.out|apply lA|apply lN|apply lD)|exact HB.out))) : w.heap.size ≤ gb192));clear HB;have HB:=n0_;have BK192:=n1_;have GW192:=n2_;have GE192:=n3_;clear n0_ n1_ n2_ n3_ hb hbox hg)|((with_reducible refine gate_dst (N:=3) rfl ?_);refine box_event ?hg (N:=3) ?hd (cs:=#[.slice A1_0 l1_0.length c1_0,.slice A1_1 l1_1.length c1_1]) (t:=72) ?hr ?_;(case hd => rfl);(case hg => rfl);(case hr => first|(go_simp;done)|(go_simp;rfl));intro gb193 hg w13 hbox hb;have n0_:=aM (bB (g:=gb192) (o:=.cells #[.slice A0_0 l0_0.length c0_0,.slice A0_1 l0_1.length c0_1] 72 (0,0)) (by (with_reducible repeat (first|refine bN ?_ _|refine bD ?_|refine bA ?_ _));exact BK192.out) hb);have n1_:=aM (lP (by repeat (first|(with_reducible first|exact HB.out|apply lA|apply lN|apply lD|refine lS ?_ GE192.out)|exact HB.out)) hb);have n2_:=aM (hbox);have n3_:=aM ((by rw [hg];exact (lZ (by repeat (first|(with_reducible first|exact HB.out|apply lA|apply lN|apply lD|refine lS ?_ GE192.out)|exact HB.out))) : w.heap.size ≤ gb193));have n4_:=aM ((by rw [hg];exact (lZ (by repeat (first|(with_reducible first|exact HB.out|apply lA|apply lN|apply lD|refine lS ?_ GE192.out)|exact HB.out))) : w.heap.size ≤ gb193));have n5_:=aM ((by rw [hg];exact Nat.ne_of_lt (bL (g:=gb192) (o:=.cells #[.slice A0_0 l0_0.length c0_0,.slice A0_1 l0_1.length c0_1] 72 (0,0)) (by (with_reducible repeat (first|refine bN ?_ _|refine bD ?_|refine bA ?_ _));exact BK192.out)) : gb192 ≠ gb193));have n6_:=aM ((by rw [hg];exact Nat.ne_of_gt (bL (g:=gb192) (o:=.cells #[.slice A0_0 l0_0.length c0_0,.slice A0_1 l0_1.length c0_1] 72 (0,0)) (by (with_reducible repeat (first|refine bN ?_ _|refine bD ?_|refine bA ?_ _));exact BK192.out)) : gb193 ≠ gb192));clear BK192 HB;have BK192:=n0_;have HB:=n1_;have BK193:=n2_;have GW193:=n3_;have GE193:=n4_;have NB192_193:=n5_;have NB193_192:=n6_;clear n0_ n1_ n2_ n3_ n4_ n5_ n6_ hb hbox hg;have hnb14:=NB192_193.out;have hnc14:=NB193_192.out;have hcz15_0 : w13.cell? ⟨gb192,0,none⟩ = some (.slice A0_0 l0_0.length c0_0):=(bC BK192.out 0).trans rfl;have hcz15_1 : w13.cell? ⟨gb192,1,none⟩ = some (.slice A0_1 l0_1.length c0_1):=(bC BK192.out 1).trans rfl;have hfz15_0:=bF BK192.out 0;have hfz15_1:=bF BK192.out 1)|((with_reducible refine gate_callee (f:=51) rfl ?_);refine goesL_ (some 12) rfl rfl Try.func51 (by kernel_rfl) rfl #[.agg #[.slice A0_0 l0_0.length c0_0,.slice A0_1 l0_1.length c0_1],.int .i64 1048576] rfl (by (try simp only [List.map_toArray,List.map_cons,List.map_nil]);first|done|rfl|(simp only [List.length_drop,List.length_take];rfl)) ?_;(with_reducible refine (laws_szProgram.calls k _ _ l0_0 _ _ l0_1 1048576 t194 _ ?side1 ?side2 ?side3 ?side4 A3.out).mono ?_);(case side1 => repeat (first|exact (cB HR0_0.out HB.out)|(with_reducible first|refine cA ?_ _|refine cN ?_ _|refine cD ?_)));(case side2 => exact HC0_0.out);(case side3 => repeat (first|exact (cB HR0_1.out HB.out)|(with_reducible first|refine cA ?_ _|refine cN ?_ _|refine cD ?_)));(case side4 => exact HC0_1.out);rintro e w16 ⟨rfl,hb⟩;refine ⟨_,rfl,?_⟩;have n0_:=aM (bB (g:=gb192) (o:=.cells #[.slice A0_0 l0_0.length c0_0,.slice A0_1 l0_1.length c0_1] 72 (0,0)) (by (with_reducible repeat (first|refine bN ?_ _|refine bD ?_|refine bA ?_ _));exact BK192.out) hb);have n1_:=aM (bB (g:=gb193) (o:=.cells #[.slice A1_0 l1_0.length c1_0,.slice A1_1 l1_1.length c1_1] 72 (0,0)) (by (with_reducible repeat (first|refine bN ?_ _|refine bD ?_|refine bA ?_ _));exact BK193.out) hb);have n2_:=aM (lP (by repeat (first|(with_reducible first|exact HB.out|apply lA|apply lN|apply lD|refine lS ?_ GE192.out|refine lS ?_ GE193.out)|exact HB.out)) hb);clear BK192 BK193 HB;have BK192:=n0_;have BK193:=n1_;have HB:=n2_;clear n0_ n1_ n2_;(try clear hb);(try clear hb2);(try clear hk);(try clear hi);have hcz17_0 : w16.cell? ⟨gb193,0,none⟩ = some (.slice A1_0 l1_0.length c1_0):=(bC BK193.out 0).trans rfl;have hcz17_1 : w16.cell? ⟨gb193,1,none⟩ = some (.slice A1_1 l1_1.length c1_1):=(bC BK193.out 1).trans rfl;have hfz17_0:=bF BK193.out 0;have hfz17_1:=bF BK193.out 1)|((with_reducible refine gate_callee (f:=51) rfl ?_);refine goesL_ (some 17) rfl rfl Try.func51 (by kernel_rfl) rfl #[.agg #[.slice A1_0 l1_0.length c1_0,.slice A1_1 l1_1.length c1_1],.int .i64 t194] rfl (by (try simp only [List.map_toArray,List.map_cons,List.map_nil]);first|done|rfl|(simp only [List.length_drop,List.length_take];rfl)) ?_;(with_reducible refine (laws_szProgram.calls k _ _ l1_0 _ _ l1_1 t194 t195 _ ?side1 ?side2 ?side3 ?side4 A10.out).mono ?_);(case side1 => repeat (first|exact (cB HR1_0.out HB.out)|(with_reducible first|refine cA ?_ _|refine cN ?_ _|refine cD ?_)));(case side2 => exact HC1_0.out);(case side3 => repeat (first|exact (cB HR1_1.out HB.out)|(with_reducible first|refine cA ?_ _|refine cN ?_ _|refine cD ?_)));(case side4 => exact HC1_1.out);rintro e w18 ⟨rfl,hb⟩;refine ⟨_,rfl,?_⟩;have n0_:=aM (bB (g:=gb192) (o:=.cells #[.slice A0_0 l0_0.length c0_0,.slice A0_1 l0_1.length c0_1] 72 (0,0)) (by (with_reducible repeat (first|refine bN ?_ _|refine bD ?_|refine bA ?_ _));exact BK192.out) hb);have n1_:=aM (bB (g:=gb193) (o:=.cells #[.slice A1_0 l1_0.length c1_0,.slice A1_1 l1_1.length c1_1] 72 (0,0)) (by (with_reducible repeat (first|refine bN ?_ _|refine bD ?_|refine bA ?_ _));exact BK193.out) hb);have n2_:=aM (lP (by repeat (first|(with_reducible first|exact HB.out|apply lA|apply lN|apply lD|refine lS ?_ GE192.out|refine lS ?_ GE193.out)|exact HB.out)) hb);clear BK192 BK193 HB;have BK192:=n0_;have BK193:=n1_;have HB:=n2_;clear n0_ n1_ n2_;(try clear hb);(try clear hb2);(try clear hk);(try clear hi)))
   go_ret
   exact ⟨by first|rfl|(simp [errW_none,errW_some] <;> rfl)|(simp [*,errW_none,errW_some] <;> rfl),by repeat (first|(with_reducible first|exact HB.out|apply lA|apply lN|apply lD|refine lS ?_ GE192.out|refine lS ?_ GE193.out)|exact HB.out)⟩
  ·rw [if_neg c11] at H
   have c11b0 : decide (t195 < 0) = false:=decide_eq_false c11
   clear c11
   replace H:=Option.bind_eq_some_iff.mp H
   obtain ⟨⟨t196,t199⟩,A190,H⟩:=H
   replace H : ((laws_toProgram.f k l1_0 l1_1).bind fun bt202 => ((spec_SameProgram.f k t196 t199 bt202.1 bt202.2).bind fun t208 => ((laws_toProgram.f k l0_0 l0_1).bind fun bt209 => ((laws_toProgram.f k l1_0 l1_1).bind fun bt216 => ((impl_SameProgram.f k bt209.1 bt209.2 bt216.1 bt216.2).bind fun t223 => (if (t223 != t208) = true then (some false) else ((laws_toProgram.f k l0_0 l0_1).bind fun bt224 => ((laws_eqProgram.f k bt209.1 bt209.2 bt224.1 bt224.2).bind fun t230 => (if t230 = true then ((laws_toProgram.f k l1_0 l1_1).bind fun bt231 => ((laws_eqProgram.f k bt216.1 bt216.2 bt231.1 bt231.2).bind fun t237 => (if t237 = true then (some true) else (some false)))) else (some false)))))))))) = some r:=H
   have A19:=aM A190
   clear A190
   replace H:=Option.bind_eq_some_iff.mp H
   obtain ⟨⟨t202,t205⟩,A200,H⟩:=H
   replace H : ((spec_SameProgram.f k t196 t199 t202 t205).bind fun t208 => ((laws_toProgram.f k l0_0 l0_1).bind fun bt209 => ((laws_toProgram.f k l1_0 l1_1).bind fun bt216 => ((impl_SameProgram.f k bt209.1 bt209.2 bt216.1 bt216.2).bind fun t223 => (if (t223 != t208) = true then (some false) else ((laws_toProgram.f k l0_0 l0_1).bind fun bt224 => ((laws_eqProgram.f k bt209.1 bt209.2 bt224.1 bt224.2).bind fun t230 => (if t230 = true then ((laws_toProgram.f k l1_0 l1_1).bind fun bt231 => ((laws_eqProgram.f k bt216.1 bt216.2 bt231.1 bt231.2).bind fun t237 => (if t237 = true then (some true) else (some false)))) else (some false))))))))) = some r:=H
   have A20:=aM A200
   clear A200
   replace H:=Option.bind_eq_some_iff.mp H
   obtain ⟨t208,A210,H⟩:=H
   replace H : ((laws_toProgram.f k l0_0 l0_1).bind fun bt209 => ((laws_toProgram.f k l1_0 l1_1).bind fun bt216 => ((impl_SameProgram.f k bt209.1 bt209.2 bt216.1 bt216.2).bind fun t223 => (if (t223 != t208) = true then (some false) else ((laws_toProgram.f k l0_0 l0_1).bind fun bt224 => ((laws_eqProgram.f k bt209.1 bt209.2 bt224.1 bt224.2).bind fun t230 => (if t230 = true then ((laws_toProgram.f k l1_0 l1_1).bind fun bt231 => ((laws_eqProgram.f k bt216.1 bt216.2 bt231.1 bt231.2).bind fun t237 => (if t237 = true then (some true) else (some false)))) else (some false)))))))) = some r:=H
   have A21:=aM A210
   clear A210
   replace H:=Option.bind_eq_some_iff.mp H
   obtain ⟨⟨t209,t212⟩,A220,H⟩:=H
   replace H : ((laws_toProgram.f k l1_0 l1_1).bind fun bt216 => ((impl_SameProgram.f k t209 t212 bt216.1 bt216.2).bind fun t223 => (if (t223 != t208) = true then (some false) else ((laws_toProgram.f k l0_0 l0_1).bind fun bt224 => ((laws_eqProgram.f k t209 t212 bt224.1 bt224.2).bind fun t230 => (if t230 = true then ((laws_toProgram.f k l1_0 l1_1).bind fun bt231 => ((laws_eqProgram.f k bt216.1 bt216.2 bt231.1 bt231.2).bind fun t237 => (if t237 = true then (some true) else (some false)))) else (some false))))))) = some r:=H
   have A22:=aM A220
   clear A220
   replace H:=Option.bind_eq_some_iff.mp H
   obtain ⟨⟨t216,t219⟩,A230,H⟩:=H
   replace H : ((impl_SameProgram.f k t209 t212 t216 t219).bind fun t223 => (if (t223 != t208) = true then (some false) else ((laws_toProgram.f k l0_0 l0_1).bind fun bt224 => ((laws_eqProgram.f k t209 t212 bt224.1 bt224.2).bind fun t230 => (if t230 = true then ((laws_toProgram.f k l1_0 l1_1).bind fun bt231 => ((laws_eqProgram.f k t216 t219 bt231.1 bt231.2).bind fun t237 => (if t237 = true then (some true) else (some false)))) else (some false)))))) = some r:=H
   have A23:=aM A230
   clear A230
   replace H:=Option.bind_eq_some_iff.mp H
   obtain ⟨t223,A240,H⟩:=H
   replace H : (if (t223 != t208) = true then (some false) else ((laws_toProgram.f k l0_0 l0_1).bind fun bt224 => ((laws_eqProgram.f k t209 t212 bt224.1 bt224.2).bind fun t230 => (if t230 = true then ((laws_toProgram.f k l1_0 l1_1).bind fun bt231 => ((laws_eqProgram.f k t216 t219 bt231.1 bt231.2).bind fun t237 => (if t237 = true then (some true) else (some false)))) else (some false))))) = some r:=H
   have A24:=aM A240
   clear A240
   by_cases c25 : (t223 != t208) = true
   ·rw [if_pos c25] at H
    have c25b0 : (t223 != t208) = true:=c25
    (try (have c25b1 : decide (t223 = t208) = false:=by simpa using c25))
    (try (have c25b2 : (t223 == t208) = false:=by simpa using c25))
    (try (have c25b3 : ¬ (t223 = t208):=by simpa using c25))
    clear c25
    obtain rfl:=Option.some.inj H
    go_enter Try.func13,Try.ntmps13
    try go_wp2_with (first|((with_reducible refine gate_dst (N:=2) rfl ?_);refine box_event ?hg (N:=2) ?hd (cs:=#[.slice A0_0 l0_0.length c0_0,.slice A0_1 l0_1.length c0_1]) (t:=72) ?hr ?_;(case hd => rfl);(case hg => rfl);(case hr => first|(go_simp;done)|(go_simp;rfl));intro gb192 hg w26 hbox hb;have n0_:=aM (lP (by repeat (first|(with_reducible first|exact HB.out|apply lA|apply lN|apply lD)|exact HB.out)) hb);have n1_:=aM (hbox);have n2_:=aM ((by rw [hg];exact (lZ (by repeat (first|(with_reducible first|exact HB.out|apply lA|apply lN|apply lD)|exact HB.out))) : w.heap.size ≤ gb192));have n3_:=aM ((by rw [hg];exact (lZ (by repeat (first|(with_reducible first|exact HB.out|apply lA|apply lN|apply lD)|exact HB.out))) : w.heap.size ≤ gb192));clear HB;have HB:=n0_;have BK192:=n1_;have GW192:=n2_;have GE192:=n3_;clear n0_ n1_ n2_ n3_ hb hbox hg)|((with_reducible refine gate_dst (N:=3) rfl ?_);refine box_event ?hg (N:=3) ?hd (cs:=#[.slice A1_0 l1_0.length c1_0,.slice A1_1 l1_1.length c1_1]) (t:=72) ?hr ?_;(case hd => rfl);(case hg => rfl);(case hr => first|(go_simp;done)|(go_simp;rfl));intro gb193 hg w27 hbox hb;have n0_:=aM (bB (g:=gb192) (o:=.cells #[.slice A0_0 l0_0.length c0_0,.slice A0_1 l0_1.length c0_1] 72 (0,0)) (by (with_reducible repeat (first|refine bN ?_ _|refine bD ?_|refine bA ?_ _));exact BK192.out) hb);have n1_:=aM (lP (by repeat (first|(with_reducible first|exact HB.out|apply lA|apply lN|apply lD|refine lS ?_ GE192.out)|exact HB.out)) hb);have n2_:=aM (hbox);have n3_:=aM ((by rw [hg];exact (lZ (by repeat (first|(with_reducible first|exact HB.out|apply lA|apply lN|apply lD|refine lS ?_ GE192.out)|exact HB.out))) : w.heap.size ≤ gb193));have n4_:=aM ((by rw [hg];exact (lZ (by repeat (first|(with_reducible first|exact HB.out|apply lA|apply lN|apply lD|refine lS ?_ GE192.out)|exact HB.out))) : w.heap.size ≤ gb193));have n5_:=aM ((by rw [hg];exact Nat.ne_of_lt (bL (g:=gb192) (o:=.cells #[.slice A0_0 l0_0.length c0_0,.slice A0_1 l0_1.length c0_1] 72 (0,0)) (by (with_reducible repeat (first|refine bN ?_ _|refine bD ?_|refine bA ?_ _));exact BK192.out)) : gb192 ≠ gb193));have n6_:=aM ((by rw [hg];exact Nat.ne_of_gt (bL (g:=gb192) (o:=.cells #[.slice A0_0 l0_0.length c0_0,.slice A0_1 l0_1.length c0_1] 72 (0,0)) (by (with_reducible repeat (first|refine bN ?_ _|refine bD ?_|refine bA ?_ _));exact BK192.out)) : gb193 ≠ gb192));clear BK192 HB;have BK192:=n0_;have HB:=n1_;have BK193:=n2_;have GW193:=n3_;have GE193:=n4_;have NB192_193:=n5_;have NB193_192:=n6_;clear n0_ n1_ n2_ n3_ n4_ n5_ n6_ hb hbox hg;have hnb28:=NB192_193.out;have hnc28:=NB193_192.out;have hcz29_0 : w27.cell? ⟨gb192,0,none⟩ = some (.slice A0_0 l0_0.length c0_0):=(bC BK192.out 0).trans rfl;have hcz29_1 : w27.cell? ⟨gb192,1,none⟩ = some (.slice A0_1 l0_1.length c0_1):=(bC BK192.out 1).trans rfl;have hfz29_0:=bF BK192.out 0;have hfz29_1:=bF BK192.out 1)|((with_reducible refine gate_callee (f:=51) rfl ?_);refine goesL_ (some 12) rfl rfl Try.func51 (by kernel_rfl) rfl #[.agg #[.slice A0_0 l0_0.length c0_0,.slice A0_1 l0_1.length c0_1],.int .i64 1048576] rfl (by (try simp only [List.map_toArray,List.map_cons,List.map_nil]);first|done|rfl|(simp only [List.length_drop,List.length_take];rfl)) ?_;(with_reducible refine (laws_szProgram.calls k _ _ l0_0 _ _ l0_1 1048576 t194 _ ?side1 ?side2 ?side3 ?side4 A3.out).mono ?_);(case side1 => repeat (first|exact (cB HR0_0.out HB.out)|(with_reducible first|refine cA ?_ _|refine cN ?_ _|refine cD ?_)));(case side2 => exact HC0_0.out);(case side3 => repeat (first|exact (cB HR0_1.out HB.out)|(with_reducible first|refine cA ?_ _|refine cN ?_ _|refine cD ?_)));(case side4 => exact HC0_1.out);rintro e w30 ⟨rfl,hb⟩;refine ⟨_,rfl,?_⟩;have n0_:=aM (bB (g:=gb192) (o:=.cells #[.slice A0_0 l0_0.length c0_0,.slice A0_1 l0_1.length c0_1] 72 (0,0)) (by (with_reducible repeat (first|refine bN ?_ _|refine bD ?_|refine bA ?_ _));exact BK192.out) hb);have n1_:=aM (bB (g:=gb193) (o:=.cells #[.slice A1_0 l1_0.length c1_0,.slice A1_1 l1_1.length c1_1] 72 (0,0)) (by (with_reducible repeat (first|refine bN ?_ _|refine bD ?_|refine bA ?_ _));exact BK193.out) hb);have n2_:=aM (lP (by repeat (first|(with_reducible first|exact HB.out|apply lA|apply lN|apply lD|refine lS ?_ GE192.out|refine lS ?_ GE193.out)|exact HB.out)) hb);clear BK192 BK193 HB;have BK192:=n0_;have BK193:=n1_;have HB:=n2_;clear n0_ n1_ n2_;(try clear hb);(try clear hb2);(try clear hk);(try clear hi);have hcz31_0 : w30.cell? ⟨gb193,0,none⟩ = some (.slice A1_0 l1_0.length c1_0):=(bC BK193.out 0).trans rfl;have hcz31_1 : w30.cell? ⟨gb193,1,none⟩ = some (.slice A1_1 l1_1.length c1_1):=(bC BK193.out 1).trans rfl;have hfz31_0:=bF BK193.out 0;have hfz31_1:=bF BK193.out 1)|((with_reducible refine gate_callee (f:=51) rfl ?_);refine goesL_ (some 17) rfl rfl Try.func51 (by kernel_rfl) rfl #[.agg #[.slice A1_0 l1_0.length c1_0,.slice A1_1 l1_1.length c1_1],.int .i64 t194] rfl (by (try simp only [List.map_toArray,List.map_cons,List.map_nil]);first|done|rfl|(simp only [List.length_drop,List.length_take];rfl)) ?_;(with_reducible refine (laws_szProgram.calls k _ _ l1_0 _ _ l1_1 t194 t195 _ ?side1 ?side2 ?side3 ?side4 A10.out).mono ?_);(case side1 => repeat (first|exact (cB HR1_0.out HB.out)|(with_reducible first|refine cA ?_ _|refine cN ?_ _|refine cD ?_)));(case side2 => exact HC1_0.out);(case side3 => repeat (first|exact (cB HR1_1.out HB.out)|(with_reducible first|refine cA ?_ _|refine cN ?_ _|refine cD ?_)));(case side4 => exact HC1_1.out);rintro e w32 ⟨rfl,hb⟩;refine ⟨_,rfl,?_⟩;have n0_:=aM (bB (g:=gb192) (o:=.cells #[.slice A0_0 l0_0.length c0_0,.slice A0_1 l0_1.length c0_1] 72 (0,0)) (by (with_reducible repeat (first|refine bN ?_ _|refine bD ?_|refine bA ?_ _));exact BK192.out) hb);have n1_:=aM (bB (g:=gb193) (o:=.cells #[.slice A1_0 l1_0.length c1_0,.slice A1_1 l1_1.length c1_1] 72 (0,0)) (by (with_reducible repeat (first|refine bN ?_ _|refine bD ?_|refine bA ?_ _));exact BK193.out) hb);have n2_:=aM (lP (by repeat (first|(with_reducible first|exact HB.out|apply lA|apply lN|apply lD|refine lS ?_ GE192.out|refine lS ?_ GE193.out)|exact HB.out)) hb);clear BK192 BK193 HB;have BK192:=n0_;have BK193:=n1_;have HB:=n2_;clear n0_ n1_ n2_;(try clear hb);(try clear hb2);(try clear hk);(try clear hi)))
    have n0_:=aM (bD BK192.out)
    have n1_:=aM (bD BK193.out)
    have n2_:=aM (lD HB.out)
    clear BK192
    clear BK193
    clear HB
    have BK192:=n0_
    have BK193:=n1_
    have HB:=n2_
    clear n0_ n1_ n2_
    refine start_ (n:=6) (S:=fun w' => w'.cell? ⟨gb192,0,none⟩ = some (.slice A0_0 l0_0.length c0_0) ∧ w'.cell? ⟨gb192,1,none⟩ = some (.slice A0_1 l0_1.length c0_1) ∧ w'.cell? ⟨gb193,0,none⟩ = some (.slice A1_0 l1_0.length c1_0) ∧ w'.cell? ⟨gb193,1,none⟩ = some (.slice A1_1 l1_1.length c1_1)) (ds:=[]) #[bf,bf,bf,bf,bf,bf] (by kernel_rfl) rfl rfl ⟨(bC BK192.out 0).trans rfl,(bC BK192.out 1).trans rfl,(bC BK193.out 0).trans rfl,(bC BK193.out 1).trans rfl⟩ (fun hHeld => ?_)
    generalize w32.drew = w33 at BK192 BK193 HB hHeld ⊢
    refine take_ (i:=0) (N:=some 20) (v:=?_) (a':=?_) #[bT,bf,bf,bf,bf,bf] rfl rfl (by kernel_rfl) (fun _ _ _ h => h) (Or.inl ⟨by rfl,?_⟩) hHeld ?_ ?_
    rotate_left
    ·rintro w' ⟨s0,s1,s2,s3⟩
     go_simp
     with_reducible rfl
    rotate_left
    ·simp only [Act.put,q_ia,q_cz,q_cs,i64_w,i32_w];rfl
    refine take_ (i:=2) (N:=some 22) (v:=?_) (a':=?_) #[bT,bf,bT,bf,bf,bf] rfl rfl (by kernel_rfl) (fun _ _ _ h => h) (Or.inl ⟨by rfl,?_⟩) hHeld ?_ ?_
    rotate_left
    ·rintro w' ⟨s0,s1,s2,s3⟩
     go_simp
     with_reducible rfl
    rotate_left
    ·simp only [Act.put,q_ia,q_cz,q_cs,i64_w,i32_w];rfl
    refine one_ (i:=1) (N:=some 21) #[bT,bT,bT,bf,bf,bf] rfl rfl (by kernel_rfl) (by decide) (fun K hK => ?_)
    refine goes_ Try.func53 (by kernel_rfl) rfl #[.agg #[.slice A0_0 l0_0.length c0_0,.slice A0_1 l0_1.length c0_1]] (by rfl) rfl rfl (by (try simp only [List.map_toArray,List.map_cons,List.map_nil]);first|done|rfl|(simp only [List.length_drop,List.length_take];rfl)) ?_
    with_reducible refine (laws_toProgram.calls k _ _ l0_0 _ _ l0_1 t196 t199 _ ?side1 ?side2 ?side3 ?side4 A19.out).mono ?_
    (case side1 => repeat (first|exact (cB HR0_0.out HB.out)|(with_reducible first|refine cA ?_ _|refine cN ?_ _|refine cD ?_)))
    (case side2 => exact HC0_0.out)
    (case side3 => repeat (first|exact (cB HR0_1.out HB.out)|(with_reducible first|refine cA ?_ _|refine cN ?_ _|refine cD ?_)))
    (case side4 => exact HC0_1.out)
    rintro e w34 ⟨v197,v200,rfl,ho0,ho1,hb⟩
    refine ⟨_,rfl,?_⟩
    have n0_:=aM (Kd.S_lower ho0 (lZ (by repeat (first|(with_reducible first|exact HB.out|apply lA|apply lN|apply lD|refine lS ?_ GE192.out|refine lS ?_ GE193.out)|exact HB.out))))
    have n1_:=aM (rL ho1 (lZ (by repeat (first|(with_reducible first|exact HB.out|apply lA|apply lN|apply lD|refine lS ?_ GE192.out|refine lS ?_ GE193.out)|exact HB.out))))
    have n2_:=aM (bB (g:=gb192) (o:=.cells #[.slice A0_0 l0_0.length c0_0,.slice A0_1 l0_1.length c0_1] 72 (0,0)) (by (with_reducible repeat (first|refine bN ?_ _|refine bD ?_|refine bA ?_ _));exact BK192.out) hb)
    have n3_:=aM (bB (g:=gb193) (o:=.cells #[.slice A1_0 l1_0.length c1_0,.slice A1_1 l1_1.length c1_1] 72 (0,0)) (by (with_reducible repeat (first|refine bN ?_ _|refine bD ?_|refine bA ?_ _));exact BK193.out) hb)
    have n4_:=aM (lP (by repeat (first|(with_reducible first|exact HB.out|apply lA|apply lN|apply lD|refine lS ?_ GE192.out|refine lS ?_ GE193.out)|exact HB.out)) hb)
    clear BK192
    clear BK193
    clear HB
    have HO198:=n0_
    have HO201:=n1_
    have BK192:=n2_
    have BK193:=n3_
    have HB:=n4_
    clear n0_ n1_ n2_ n3_ n4_
    (try clear hb)
    (try clear hb2)
    (try clear hk)
    (try clear hi)
    (try clear ho0)
    (try clear ho1)
    refine hK.out _ _ ⟨(bC BK192.out 0).trans rfl,(bC BK192.out 1).trans rfl,(bC BK193.out 0).trans rfl,(bC BK193.out 1).trans rfl⟩ (fun hHeld => ?_)
    clear hK K
    refine norm_ (a':=?_) ?_ ?_
    rotate_left
    ·show Act.put _ (some 21) _ = _
     simp only [Act.put,q_ia,q_cz,q_cs,i64_w,i32_w]
     rfl
    refine one_ (i:=3) (N:=some 23) #[bT,bT,bT,bT,bf,bf] rfl rfl (by kernel_rfl) (by decide) (fun K hK => ?_)
    refine goes_ Try.func53 (by kernel_rfl) rfl #[.agg #[.slice A1_0 l1_0.length c1_0,.slice A1_1 l1_1.length c1_1]] (by rfl) rfl rfl (by (try simp only [List.map_toArray,List.map_cons,List.map_nil]);first|done|rfl|(simp only [List.length_drop,List.length_take];rfl)) ?_
    with_reducible refine (laws_toProgram.calls k _ _ l1_0 _ _ l1_1 t202 t205 _ ?side1 ?side2 ?side3 ?side4 A20.out).mono ?_
    (case side1 => repeat (first|exact (cB HR1_0.out HB.out)|(with_reducible first|refine cA ?_ _|refine cN ?_ _|refine cD ?_)))
    (case side2 => exact HC1_0.out)
    (case side3 => repeat (first|exact (cB HR1_1.out HB.out)|(with_reducible first|refine cA ?_ _|refine cN ?_ _|refine cD ?_)))
    (case side4 => exact HC1_1.out)
    rintro e w35 ⟨v203,v206,rfl,ho0,ho1,hb⟩
    refine ⟨_,rfl,?_⟩
    have n0_:=aM (Kd.S_elder' (by (with_reducible repeat (first|apply Kd.S_alloc|apply Kd.S_drewN|apply Kd.S_drew));exact HO198.out) (Kd.S_base ho0) hb)
    have n1_:=aM (rE (by (with_reducible repeat (first|apply rA|apply rN|apply rD));exact HO201.out) (rS ho1) hb)
    have n2_:=aM (Kd.S_lower (Kd.S_new' ho0 (Kd.S_lt (by (with_reducible repeat (first|apply Kd.S_alloc|apply Kd.S_drewN|apply Kd.S_drew));exact HO198.out))) (lZ (by repeat (first|(with_reducible first|exact HB.out|apply lA|apply lN|apply lD|refine lS ?_ GE192.out|refine lS ?_ GE193.out)|exact HB.out))))
    have n3_:=aM (rL (rW ho1 (rT (by (with_reducible repeat (first|apply rA|apply rN|apply rD));exact HO201.out))) (lZ (by repeat (first|(with_reducible first|exact HB.out|apply lA|apply lN|apply lD|refine lS ?_ GE192.out|refine lS ?_ GE193.out)|exact HB.out))))
    have n4_:=aM (bB (g:=gb192) (o:=.cells #[.slice A0_0 l0_0.length c0_0,.slice A0_1 l0_1.length c0_1] 72 (0,0)) (by (with_reducible repeat (first|refine bN ?_ _|refine bD ?_|refine bA ?_ _));exact BK192.out) hb)
    have n5_:=aM (bB (g:=gb193) (o:=.cells #[.slice A1_0 l1_0.length c1_0,.slice A1_1 l1_1.length c1_1] 72 (0,0)) (by (with_reducible repeat (first|refine bN ?_ _|refine bD ?_|refine bA ?_ _));exact BK193.out) hb)
    have n6_:=aM (lP (by repeat (first|(with_reducible first|exact HB.out|apply lA|apply lN|apply lD|refine lS ?_ GE192.out|refine lS ?_ GE193.out)|exact HB.out)) hb)
    clear HO198
    clear HO201
    clear BK192
    clear BK193
    clear HB
    have HO198:=n0_
    have HO201:=n1_
    have HO204:=n2_
    have HO207:=n3_
    have BK192:=n4_
    have BK193:=n5_
    have HB:=n6_
    clear n0_ n1_ n2_ n3_ n4_ n5_ n6_
    (try clear hb)
    (try clear hb2)
    (try clear hk)
    (try clear hi)
    (try clear ho0)
    (try clear ho1)
    obtain ⟨Ao36,co36,eo36⟩:=Kd.S_slice HO198.out
    (first|subst eo36|(injection eo36 with f1_ f2_ f3_;have f4_:=f1_.symm;have f5_:=f3_.symm;clear f1_ f2_ f3_;subst f4_;subst f5_))
    obtain ⟨Ao37,co37,eo37⟩:=Kd.R_slice HO201.out
    (first|subst eo37|(injection eo37 with f1_ f2_ f3_;have f4_:=f1_.symm;have f5_:=f3_.symm;clear f1_ f2_ f3_;subst f4_;subst f5_))
    obtain ⟨Ao38,co38,eo38⟩:=Kd.S_slice HO204.out
    (first|subst eo38|(injection eo38 with f1_ f2_ f3_;have f4_:=f1_.symm;have f5_:=f3_.symm;clear f1_ f2_ f3_;subst f4_;subst f5_))
    obtain ⟨Ao39,co39,eo39⟩:=Kd.R_slice HO207.out
    (first|subst eo39|(injection eo39 with f1_ f2_ f3_;have f4_:=f1_.symm;have f5_:=f3_.symm;clear f1_ f2_ f3_;subst f4_;subst f5_))
    refine hK.out _ _ ⟨(bC BK192.out 0).trans rfl,(bC BK192.out 1).trans rfl,(bC BK193.out 0).trans rfl,(bC BK193.out 1).trans rfl⟩ (fun hHeld => ?_)
    clear hK K
    refine norm_ (a':=?_) ?_ ?_
    rotate_left
    ·show Act.put _ (some 23) _ = _
     simp only [Act.put,q_ia,q_cz,q_cs,i64_w,i32_w]
     rfl
    refine one_ (i:=4) (N:=some 24) #[bT,bT,bT,bT,bT,bf] rfl rfl (by kernel_rfl) (by decide) (fun K hK => ?_)
    refine goes_ Try.func52 (by kernel_rfl) rfl #[.agg #[.slice Ao36 t196.length co36,.slice Ao37 t199.length co37],.agg #[.slice Ao38 t202.length co38,.slice Ao39 t205.length co39]] (by rfl) rfl rfl (by (try simp only [List.map_toArray,List.map_cons,List.map_nil]);first|done|rfl|(simp only [List.length_drop,List.length_take];rfl)) ?_
    with_reducible refine (spec_SameProgram.calls k _ _ t196 _ _ t199 _ _ t202 _ _ t205 t208 _ ?side1 ?side2 ?side3 ?side4 ?side5 ?side6 ?side7 ?side8 A21.out).mono ?_
    (case side1 => repeat (first|exact (Kd.S_reads' HO198.out).2.2|(with_reducible first|refine cA ?_ _|refine cN ?_ _|refine cD ?_)))
    (case side2 => exact (Kd.S_reads' HO198.out).2.1)
    (case side3 => repeat (first|exact (rR HO201.out).2.2|(with_reducible first|refine cA ?_ _|refine cN ?_ _|refine cD ?_)))
    (case side4 => exact (rR HO201.out).2.1)
    (case side5 => repeat (first|exact (Kd.S_reads' HO204.out).2.2|(with_reducible first|refine cA ?_ _|refine cN ?_ _|refine cD ?_)))
    (case side6 => exact (Kd.S_reads' HO204.out).2.1)
    (case side7 => repeat (first|exact (rR HO207.out).2.2|(with_reducible first|refine cA ?_ _|refine cN ?_ _|refine cD ?_)))
    (case side8 => exact (rR HO207.out).2.1)
    rintro e w40 ⟨rfl,hb⟩
    refine ⟨_,rfl,?_⟩
    have n0_:=aM (Kd.S_below (by (with_reducible repeat (first|apply Kd.S_alloc|apply Kd.S_drewN|apply Kd.S_drew));exact HO198.out) hb)
    have n1_:=aM (rB (by (with_reducible repeat (first|apply rA|apply rN|apply rD));exact HO201.out) hb)
    have n2_:=aM (Kd.S_below (by (with_reducible repeat (first|apply Kd.S_alloc|apply Kd.S_drewN|apply Kd.S_drew));exact HO204.out) hb)
    have n3_:=aM (rB (by (with_reducible repeat (first|apply rA|apply rN|apply rD));exact HO207.out) hb)
    have n4_:=aM (bB (g:=gb192) (o:=.cells #[.slice A0_0 l0_0.length c0_0,.slice A0_1 l0_1.length c0_1] 72 (0,0)) (by (with_reducible repeat (first|refine bN ?_ _|refine bD ?_|refine bA ?_ _));exact BK192.out) hb)
    have n5_:=aM (bB (g:=gb193) (o:=.cells #[.slice A1_0 l1_0.length c1_0,.slice A1_1 l1_1.length c1_1] 72 (0,0)) (by (with_reducible repeat (first|refine bN ?_ _|refine bD ?_|refine bA ?_ _));exact BK193.out) hb)
    have n6_:=aM (lP (by repeat (first|(with_reducible first|exact HB.out|apply lA|apply lN|apply lD|refine lS ?_ GE192.out|refine lS ?_ GE193.out)|exact HB.out)) hb)
    clear HO198
    clear HO201
    clear HO204
    clear HO207
    clear BK192
    clear BK193
    clear HB
    have HO198:=n0_
    have HO201:=n1_
    have HO204:=n2_
    have HO207:=n3_
    have BK192:=n4_
    have BK193:=n5_
    have HB:=n6_
    clear n0_ n1_ n2_ n3_ n4_ n5_ n6_
    (try clear hb)
    (try clear hb2)
    (try clear hk)
    (try clear hi)
    refine hK.out _ _ ⟨(bC BK192.out 0).trans rfl,(bC BK192.out 1).trans rfl,(bC BK193.out 0).trans rfl,(bC BK193.out 1).trans rfl⟩ (fun hHeld => ?_)
    clear hK K
    refine norm_ (a':=?_) ?_ ?_
    rotate_left
    ·show Act.put _ (some 24) _ = _
     simp only [Act.put,q_ia,q_cz,q_cs,i64_w,i32_w]
     rfl
    refine pure_ (i:=5) (N:=some 6) (v:=?_) (a':=?_) #[bT,bT,bT,bT,bT,bT] rfl rfl (by kernel_rfl) (fun _ _ _ h => h) (Or.inl ⟨by rfl,?_⟩) ?_ ?_
    rotate_left
    ·intro w';go_simp;with_reducible rfl
    rotate_left
    ·simp only [Act.put,q_ia,q_cz,q_cs,i64_w,i32_w];rfl
    refine done_ (by kernel_rfl) ?_
    have hcz41_0 : w40.cell? ⟨gb192,0,none⟩ = some (.slice A0_0 l0_0.length c0_0):=(bC BK192.out 0).trans rfl
    have hcz41_1 : w40.cell? ⟨gb192,1,none⟩ = some (.slice A0_1 l0_1.length c0_1):=(bC BK192.out 1).trans rfl
    have hfz41_0:=bF BK192.out 0
    have hfz41_1:=bF BK192.out 1
    try go_wp2_with (first|((with_reducible refine gate_callee (f:=53) rfl ?_);refine goesL_ (some 26) rfl rfl Try.func53 (by kernel_rfl) rfl #[.agg #[.slice A0_0 l0_0.length c0_0,.slice A0_1 l0_1.length c0_1]] rfl (by (try simp only [List.map_toArray,List.map_cons,List.map_nil]);first|done|rfl|(simp only [List.length_drop,List.length_take];rfl)) ?_;(with_reducible refine (laws_toProgram.calls k _ _ l0_0 _ _ l0_1 t209 t212 _ ?side1 ?side2 ?side3 ?side4 A22.out).mono ?_);(case side1 => repeat (first|exact (cB HR0_0.out HB.out)|(with_reducible first|refine cA ?_ _|refine cN ?_ _|refine cD ?_)));(case side2 => exact HC0_0.out);(case side3 => repeat (first|exact (cB HR0_1.out HB.out)|(with_reducible first|refine cA ?_ _|refine cN ?_ _|refine cD ?_)));(case side4 => exact HC0_1.out);rintro e w42 ⟨v210,v213,rfl,ho0,ho1,hb⟩;refine ⟨_,rfl,?_⟩;have n0_:=aM (Kd.S_elder' (by (with_reducible repeat (first|apply Kd.S_alloc|apply Kd.S_drewN|apply Kd.S_drew));exact HO198.out) (Kd.S_base ho0) hb);have n1_:=aM (rE (by (with_reducible repeat (first|apply rA|apply rN|apply rD));exact HO201.out) (rS ho1) hb);have n2_:=aM (Kd.S_elder' (by (with_reducible repeat (first|apply Kd.S_alloc|apply Kd.S_drewN|apply Kd.S_drew));exact HO204.out) (Kd.S_base ho0) hb);have n3_:=aM (rE (by (with_reducible repeat (first|apply rA|apply rN|apply rD));exact HO207.out) (rS ho1) hb);have n4_:=aM (Kd.S_lower (Kd.S_new' (Kd.S_new' ho0 (Kd.S_lt (by (with_reducible repeat (first|apply Kd.S_alloc|apply Kd.S_drewN|apply Kd.S_drew));exact HO198.out))) (Kd.S_lt (by (with_reducible repeat (first|apply Kd.S_alloc|apply Kd.S_drewN|apply Kd.S_drew));exact HO204.out))) (lZ (by repeat (first|(with_reducible first|exact HB.out|apply lA|apply lN|apply lD|refine lS ?_ GE192.out|refine lS ?_ GE193.out)|exact HB.out))));have n5_:=aM (rL (rW (rW ho1 (rT (by (with_reducible repeat (first|apply rA|apply rN|apply rD));exact HO201.out))) (rT (by (with_reducible repeat (first|apply rA|apply rN|apply rD));exact HO207.out))) (lZ (by repeat (first|(with_reducible first|exact HB.out|apply lA|apply lN|apply lD|refine lS ?_ GE192.out|refine lS ?_ GE193.out)|exact HB.out))));have n6_:=aM (bB (g:=gb192) (o:=.cells #[.slice A0_0 l0_0.length c0_0,.slice A0_1 l0_1.length c0_1] 72 (0,0)) (by (with_reducible repeat (first|refine bN ?_ _|refine bD ?_|refine bA ?_ _));exact BK192.out) hb);have n7_:=aM (bB (g:=gb193) (o:=.cells #[.slice A1_0 l1_0.length c1_0,.slice A1_1 l1_1.length c1_1] 72 (0,0)) (by (with_reducible repeat (first|refine bN ?_ _|refine bD ?_|refine bA ?_ _));exact BK193.out) hb);have n8_:=aM (lP (by repeat (first|(with_reducible first|exact HB.out|apply lA|apply lN|apply lD|refine lS ?_ GE192.out|refine lS ?_ GE193.out)|exact HB.out)) hb);clear HO198 HO201 HO204 HO207 BK192 BK193 HB;have HO198:=n0_;have HO201:=n1_;have HO204:=n2_;have HO207:=n3_;have HO211:=n4_;have HO214:=n5_;have BK192:=n6_;have BK193:=n7_;have HB:=n8_;clear n0_ n1_ n2_ n3_ n4_ n5_ n6_ n7_ n8_;(try clear hb);(try clear hb2);(try clear hk);(try clear hi);(try clear ho0);(try clear ho1))|((with_reducible refine gate_dst (N:=7) rfl ?_);refine box_event ?hg (N:=7) ?hd (cs:=#[.slice none 0 0,.slice none 0 0]) (t:=78) ?hr ?_;(case hd => rfl);(case hg => rfl);(case hr => first|(go_simp;done)|(go_simp;rfl));intro gb215 hg w43 hbox hb;have n0_:=aM (Kd.S_below (by (with_reducible repeat (first|apply Kd.S_alloc|apply Kd.S_drewN|apply Kd.S_drew));exact HO198.out) hb);have n1_:=aM (rB (by (with_reducible repeat (first|apply rA|apply rN|apply rD));exact HO201.out) hb);have n2_:=aM (Kd.S_below (by (with_reducible repeat (first|apply Kd.S_alloc|apply Kd.S_drewN|apply Kd.S_drew));exact HO204.out) hb);have n3_:=aM (rB (by (with_reducible repeat (first|apply rA|apply rN|apply rD));exact HO207.out) hb);have n4_:=aM (Kd.S_below (by (with_reducible repeat (first|apply Kd.S_alloc|apply Kd.S_drewN|apply Kd.S_drew));exact HO211.out) hb);have n5_:=aM (rB (by (with_reducible repeat (first|apply rA|apply rN|apply rD));exact HO214.out) hb);have n6_:=aM (bB (g:=gb192) (o:=.cells #[.slice A0_0 l0_0.length c0_0,.slice A0_1 l0_1.length c0_1] 72 (0,0)) (by (with_reducible repeat (first|refine bN ?_ _|refine bD ?_|refine bA ?_ _));exact BK192.out) hb);have n7_:=aM (bB (g:=gb193) (o:=.cells #[.slice A1_0 l1_0.length c1_0,.slice A1_1 l1_1.length c1_1] 72 (0,0)) (by (with_reducible repeat (first|refine bN ?_ _|refine bD ?_|refine bA ?_ _));exact BK193.out) hb);have n8_:=aM (lP (by repeat (first|(with_reducible first|exact HB.out|apply lA|apply lN|apply lD|refine lS ?_ GE192.out|refine lS ?_ GE193.out)|exact HB.out)) hb);have n9_:=aM (hbox);have n10_:=aM ((by rw [hg];exact (lZ (by repeat (first|(with_reducible first|exact HB.out|apply lA|apply lN|apply lD|refine lS ?_ GE192.out|refine lS ?_ GE193.out)|exact HB.out))) : w.heap.size ≤ gb215));have n11_:=aM ((by rw [hg];exact (lZ (by repeat (first|(with_reducible first|exact HB.out|apply lA|apply lN|apply lD|refine lS ?_ GE192.out|refine lS ?_ GE193.out)|exact HB.out))) : w.heap.size ≤ gb215));have n12_:=aM ((by rw [hg];exact Nat.ne_of_lt (bL (g:=gb192) (o:=.cells #[.slice A0_0 l0_0.length c0_0,.slice A0_1 l0_1.length c0_1] 72 (0,0)) (by (with_reducible repeat (first|refine bN ?_ _|refine bD ?_|refine bA ?_ _));exact BK192.out)) : gb192 ≠ gb215));have n13_:=aM ((by rw [hg];exact Nat.ne_of_gt (bL (g:=gb192) (o:=.cells #[.slice A0_0 l0_0.length c0_0,.slice A0_1 l0_1.length c0_1] 72 (0,0)) (by (with_reducible repeat (first|refine bN ?_ _|refine bD ?_|refine bA ?_ _));exact BK192.out)) : gb215 ≠ gb192));have n14_:=aM ((by rw [hg];exact Nat.ne_of_lt (bL (g:=gb193) (o:=.cells #[.slice A1_0 l1_0.length c1_0,.slice A1_1 l1_1.length c1_1] 72 (0,0)) (by (with_reducible repeat (first|refine bN ?_ _|refine bD ?_|refine bA ?_ _));exact BK193.out)) : gb193 ≠ gb215));have n15_:=aM ((by rw [hg];exact Nat.ne_of_gt (bL (g:=gb193) (o:=.cells #[.slice A1_0 l1_0.length c1_0,.slice A1_1 l1_1.length c1_1] 72 (0,0)) (by (with_reducible repeat (first|refine bN ?_ _|refine bD ?_|refine bA ?_ _));exact BK193.out)) : gb215 ≠ gb193));clear HO198 HO201 HO204 HO207 HO211 HO214 BK192 BK193 HB;have HO198:=n0_;have HO201:=n1_;have HO204:=n2_;have HO207:=n3_;have HO211:=n4_;have HO214:=n5_;have BK192:=n6_;have BK193:=n7_;have HB:=n8_;have BK215:=n9_;have GW215:=n10_;have GE215:=n11_;have NB192_215:=n12_;have NB215_192:=n13_;have NB193_215:=n14_;have NB215_193:=n15_;clear n0_ n1_ n2_ n3_ n4_ n5_ n6_ n7_ n8_ n9_ n10_ n11_ n12_ n13_ n14_ n15_ hb hbox hg;obtain ⟨Ao44,co44,eo44⟩:=Kd.S_slice HO211.out;subst eo44;have hnb45:=NB215_192.out;have hnc45:=NB192_215.out;have hnb46:=NB215_193.out;have hnc46:=NB193_215.out;have hcz47_0 : w43.cell? ⟨gb215,0,none⟩ = some (.slice none 0 0):=(bC BK215.out 0).trans rfl;have hcz47_1 : w43.cell? ⟨gb215,1,none⟩ = some (.slice none 0 0):=(bC BK215.out 1).trans rfl;have hfz47_0:=bF BK215.out 0;have hfz47_1:=bF BK215.out 1;obtain ⟨Ao48,co48,eo48⟩:=Kd.R_slice HO214.out;subst eo48;have hcz49_0 : w43.cell? ⟨gb193,0,none⟩ = some (.slice A1_0 l1_0.length c1_0):=(bC BK193.out 0).trans rfl;have hcz49_1 : w43.cell? ⟨gb193,1,none⟩ = some (.slice A1_1 l1_1.length c1_1):=(bC BK193.out 1).trans rfl;have hfz49_0:=bF BK193.out 0;have hfz49_1:=bF BK193.out 1)|((with_reducible refine gate_callee (f:=53) rfl ?_);refine goesL_ (some 28) rfl rfl Try.func53 (by kernel_rfl) rfl #[.agg #[.slice A1_0 l1_0.length c1_0,.slice A1_1 l1_1.length c1_1]] rfl (by (try simp only [List.map_toArray,List.map_cons,List.map_nil]);first|done|rfl|(simp only [List.length_drop,List.length_take];rfl)) ?_;(with_reducible refine (laws_toProgram.calls k _ _ l1_0 _ _ l1_1 t216 t219 _ ?side1 ?side2 ?side3 ?side4 A23.out).mono ?_);(case side1 => exact cB HR1_0.out (by repeat (first|(with_reducible first|exact HB.out|apply lA|apply lN|apply lD|refine lS ?_ GE192.out|refine lS ?_ GE193.out|refine lS ?_ GE215.out)|exact HB.out)));(case side2 => exact HC1_0.out);(case side3 => exact cB HR1_1.out (by repeat (first|(with_reducible first|exact HB.out|apply lA|apply lN|apply lD|refine lS ?_ GE192.out|refine lS ?_ GE193.out|refine lS ?_ GE215.out)|exact HB.out)));(case side4 => exact HC1_1.out);rintro e w50 ⟨v217,v220,rfl,ho0,ho1,hb⟩;refine ⟨_,rfl,?_⟩;have n0_:=aM (Kd.S_elder' (by (with_reducible repeat (first|apply Kd.S_alloc|apply Kd.S_drewN|apply Kd.S_drew));exact (Kd.S_mono (Kd.S_far (p:=⟨gb215,1,none⟩) (Kd.S_far (p:=⟨gb215,0,none⟩) (Kd.S_types HO198.out BK215.out (by decide)) (fun _ hk => hk.2) (.slice Ao44 t209.length co44)) (fun _ hk => hk.2) (.slice Ao48 t212.length co48)) (fun _ h_ => h_.1))) (Kd.S_base ho0) hb);have n1_:=aM (rE (by (with_reducible repeat (first|apply rA|apply rN|apply rD));exact (Kd.R_mono (rF (p:=⟨gb215,1,none⟩) (rF (p:=⟨gb215,0,none⟩) (rY HO201.out BK215.out (by decide)) (fun _ hk => hk.2) (.slice Ao44 t209.length co44)) (fun _ hk => hk.2) (.slice Ao48 t212.length co48)) (fun _ h_ => h_.1))) (rS ho1) hb);have n2_:=aM (Kd.S_elder' (by (with_reducible repeat (first|apply Kd.S_alloc|apply Kd.S_drewN|apply Kd.S_drew));exact (Kd.S_mono (Kd.S_far (p:=⟨gb215,1,none⟩) (Kd.S_far (p:=⟨gb215,0,none⟩) (Kd.S_types HO204.out BK215.out (by decide)) (fun _ hk => hk.2) (.slice Ao44 t209.length co44)) (fun _ hk => hk.2) (.slice Ao48 t212.length co48)) (fun _ h_ => h_.1))) (Kd.S_base ho0) hb);have n3_:=aM (rE (by (with_reducible repeat (first|apply rA|apply rN|apply rD));exact (Kd.R_mono (rF (p:=⟨gb215,1,none⟩) (rF (p:=⟨gb215,0,none⟩) (rY HO207.out BK215.out (by decide)) (fun _ hk => hk.2) (.slice Ao44 t209.length co44)) (fun _ hk => hk.2) (.slice Ao48 t212.length co48)) (fun _ h_ => h_.1))) (rS ho1) hb);have n4_:=aM (Kd.S_elder' (by (with_reducible repeat (first|apply Kd.S_alloc|apply Kd.S_drewN|apply Kd.S_drew));exact (Kd.S_mono (Kd.S_far (p:=⟨gb215,1,none⟩) (Kd.S_far (p:=⟨gb215,0,none⟩) (Kd.S_types HO211.out BK215.out (by decide)) (fun _ hk => hk.2) (.slice Ao44 t209.length co44)) (fun _ hk => hk.2) (.slice Ao48 t212.length co48)) (fun _ h_ => h_.1))) (Kd.S_base ho0) hb);have n5_:=aM (rE (by (with_reducible repeat (first|apply rA|apply rN|apply rD));exact (Kd.R_mono (rF (p:=⟨gb215,1,none⟩) (rF (p:=⟨gb215,0,none⟩) (rY HO214.out BK215.out (by decide)) (fun _ hk => hk.2) (.slice Ao44 t209.length co44)) (fun _ hk => hk.2) (.slice Ao48 t212.length co48)) (fun _ h_ => h_.1))) (rS ho1) hb);have n6_:=aM (Kd.S_lower (Kd.S_new' (Kd.S_new' (Kd.S_new' ho0 (Kd.S_lt (by (with_reducible repeat (first|apply Kd.S_alloc|apply Kd.S_drewN|apply Kd.S_drew));exact (Kd.S_mono (Kd.S_far (p:=⟨gb215,1,none⟩) (Kd.S_far (p:=⟨gb215,0,none⟩) (Kd.S_types HO198.out BK215.out (by decide)) (fun _ hk => hk.2) (.slice Ao44 t209.length co44)) (fun _ hk => hk.2) (.slice Ao48 t212.length co48)) (fun _ h_ => h_.1))))) (Kd.S_lt (by (with_reducible repeat (first|apply Kd.S_alloc|apply Kd.S_drewN|apply Kd.S_drew));exact (Kd.S_mono (Kd.S_far (p:=⟨gb215,1,none⟩) (Kd.S_far (p:=⟨gb215,0,none⟩) (Kd.S_types HO204.out BK215.out (by decide)) (fun _ hk => hk.2) (.slice Ao44 t209.length co44)) (fun _ hk => hk.2) (.slice Ao48 t212.length co48)) (fun _ h_ => h_.1))))) (Kd.S_lt (by (with_reducible repeat (first|apply Kd.S_alloc|apply Kd.S_drewN|apply Kd.S_drew));exact (Kd.S_mono (Kd.S_far (p:=⟨gb215,1,none⟩) (Kd.S_far (p:=⟨gb215,0,none⟩) (Kd.S_types HO211.out BK215.out (by decide)) (fun _ hk => hk.2) (.slice Ao44 t209.length co44)) (fun _ hk => hk.2) (.slice Ao48 t212.length co48)) (fun _ h_ => h_.1))))) (lZ (by repeat (first|(with_reducible first|exact HB.out|apply lA|apply lN|apply lD|refine lS ?_ GE192.out|refine lS ?_ GE193.out|refine lS ?_ GE215.out)|exact HB.out))));have n7_:=aM (rL (rW (rW (rW ho1 (rT (by (with_reducible repeat (first|apply rA|apply rN|apply rD));exact (Kd.R_mono (rF (p:=⟨gb215,1,none⟩) (rF (p:=⟨gb215,0,none⟩) (rY HO201.out BK215.out (by decide)) (fun _ hk => hk.2) (.slice Ao44 t209.length co44)) (fun _ hk => hk.2) (.slice Ao48 t212.length co48)) (fun _ h_ => h_.1))))) (rT (by (with_reducible repeat (first|apply rA|apply rN|apply rD));exact (Kd.R_mono (rF (p:=⟨gb215,1,none⟩) (rF (p:=⟨gb215,0,none⟩) (rY HO207.out BK215.out (by decide)) (fun _ hk => hk.2) (.slice Ao44 t209.length co44)) (fun _ hk => hk.2) (.slice Ao48 t212.length co48)) (fun _ h_ => h_.1))))) (rT (by (with_reducible repeat (first|apply rA|apply rN|apply rD));exact (Kd.R_mono (rF (p:=⟨gb215,1,none⟩) (rF (p:=⟨gb215,0,none⟩) (rY HO214.out BK215.out (by decide)) (fun _ hk => hk.2) (.slice Ao44 t209.length co44)) (fun _ hk => hk.2) (.slice Ao48 t212.length co48)) (fun _ h_ => h_.1))))) (lZ (by repeat (first|(with_reducible first|exact HB.out|apply lA|apply lN|apply lD|refine lS ?_ GE192.out|refine lS ?_ GE193.out|refine lS ?_ GE215.out)|exact HB.out))));have n8_:=aM (bB (g:=gb192) (o:=.cells #[.slice A0_0 l0_0.length c0_0,.slice A0_1 l0_1.length c0_1] 72 (0,0)) (by (with_reducible repeat (first|refine bN ?_ _|refine bD ?_|refine bA ?_ _));refine blk_far ?_ NB192_215.out _;(with_reducible repeat (first|refine bN ?_ _|refine bD ?_|refine bA ?_ _));refine blk_far ?_ NB192_215.out _;(with_reducible repeat (first|refine bN ?_ _|refine bD ?_|refine bA ?_ _));exact BK192.out) hb);have n9_:=aM (bB (g:=gb193) (o:=.cells #[.slice A1_0 l1_0.length c1_0,.slice A1_1 l1_1.length c1_1] 72 (0,0)) (by (with_reducible repeat (first|refine bN ?_ _|refine bD ?_|refine bA ?_ _));refine blk_far ?_ NB193_215.out _;(with_reducible repeat (first|refine bN ?_ _|refine bD ?_|refine bA ?_ _));refine blk_far ?_ NB193_215.out _;(with_reducible repeat (first|refine bN ?_ _|refine bD ?_|refine bA ?_ _));exact BK193.out) hb);have n10_:=aM (bB (g:=gb215) (o:=.cells #[.slice Ao44 t209.length co44,.slice Ao48 t212.length co48] 78 (0,0)) (by (with_reducible repeat (first|refine bN ?_ _|refine bD ?_|refine bA ?_ _));refine blk_put (cs:=#[.slice Ao44 t209.length co44,.slice none 0 0]) ?_ 1 _ rfl;(with_reducible repeat (first|refine bN ?_ _|refine bD ?_|refine bA ?_ _));refine blk_put (cs:=#[.slice none 0 0,.slice none 0 0]) ?_ 0 _ rfl;(with_reducible repeat (first|refine bN ?_ _|refine bD ?_|refine bA ?_ _));exact BK215.out) hb);have n11_:=aM (lP (by repeat (first|(with_reducible first|exact HB.out|apply lA|apply lN|apply lD|refine lS ?_ GE192.out|refine lS ?_ GE193.out|refine lS ?_ GE215.out)|exact HB.out)) hb);clear HO198 HO201 HO204 HO207 HO211 HO214 BK192 BK193 BK215 HB;have HO198:=n0_;have HO201:=n1_;have HO204:=n2_;have HO207:=n3_;have HO211:=n4_;have HO214:=n5_;have HO218:=n6_;have HO221:=n7_;have BK192:=n8_;have BK193:=n9_;have BK215:=n10_;have HB:=n11_;clear n0_ n1_ n2_ n3_ n4_ n5_ n6_ n7_ n8_ n9_ n10_ n11_;(try clear hb);(try clear hb2);(try clear hk);(try clear hi);(try clear ho0);(try clear ho1))|((with_reducible refine gate_dst (N:=8) rfl ?_);refine box_event ?hg (N:=8) ?hd (cs:=#[.slice none 0 0,.slice none 0 0]) (t:=78) ?hr ?_;(case hd => rfl);(case hg => rfl);(case hr => first|(go_simp;done)|(go_simp;rfl));intro gb222 hg w51 hbox hb;have n0_:=aM (Kd.S_below (by (with_reducible repeat (first|apply Kd.S_alloc|apply Kd.S_drewN|apply Kd.S_drew));exact HO198.out) hb);have n1_:=aM (rB (by (with_reducible repeat (first|apply rA|apply rN|apply rD));exact HO201.out) hb);have n2_:=aM (Kd.S_below (by (with_reducible repeat (first|apply Kd.S_alloc|apply Kd.S_drewN|apply Kd.S_drew));exact HO204.out) hb);have n3_:=aM (rB (by (with_reducible repeat (first|apply rA|apply rN|apply rD));exact HO207.out) hb);have n4_:=aM (Kd.S_below (by (with_reducible repeat (first|apply Kd.S_alloc|apply Kd.S_drewN|apply Kd.S_drew));exact HO211.out) hb);have n5_:=aM (rB (by (with_reducible repeat (first|apply rA|apply rN|apply rD));exact HO214.out) hb);have n6_:=aM (Kd.S_below (by (with_reducible repeat (first|apply Kd.S_alloc|apply Kd.S_drewN|apply Kd.S_drew));exact HO218.out) hb);have n7_:=aM (rB (by (with_reducible repeat (first|apply rA|apply rN|apply rD));exact HO221.out) hb);have n8_:=aM (bB (g:=gb192) (o:=.cells #[.slice A0_0 l0_0.length c0_0,.slice A0_1 l0_1.length c0_1] 72 (0,0)) (by (with_reducible repeat (first|refine bN ?_ _|refine bD ?_|refine bA ?_ _));exact BK192.out) hb);have n9_:=aM (bB (g:=gb193) (o:=.cells #[.slice A1_0 l1_0.length c1_0,.slice A1_1 l1_1.length c1_1] 72 (0,0)) (by (with_reducible repeat (first|refine bN ?_ _|refine bD ?_|refine bA ?_ _));exact BK193.out) hb);have n10_:=aM (bB (g:=gb215) (o:=.cells #[.slice Ao44 t209.length co44,.slice Ao48 t212.length co48] 78 (0,0)) (by (with_reducible repeat (first|refine bN ?_ _|refine bD ?_|refine bA ?_ _));exact BK215.out) hb);have n11_:=aM (lP (by repeat (first|(with_reducible first|exact HB.out|apply lA|apply lN|apply lD|refine lS ?_ GE192.out|refine lS ?_ GE193.out|refine lS ?_ GE215.out)|exact HB.out)) hb);have n12_:=aM (hbox);have n13_:=aM ((by rw [hg];exact (lZ (by repeat (first|(with_reducible first|exact HB.out|apply lA|apply lN|apply lD|refine lS ?_ GE192.out|refine lS ?_ GE193.out|refine lS ?_ GE215.out)|exact HB.out))) : w.heap.size ≤ gb222));have n14_:=aM ((by rw [hg];exact (lZ (by repeat (first|(with_reducible first|exact HB.out|apply lA|apply lN|apply lD|refine lS ?_ GE192.out|refine lS ?_ GE193.out|refine lS ?_ GE215.out)|exact HB.out))) : w.heap.size ≤ gb222));have n15_:=aM ((by rw [hg];exact Nat.ne_of_lt (bL (g:=gb192) (o:=.cells #[.slice A0_0 l0_0.length c0_0,.slice A0_1 l0_1.length c0_1] 72 (0,0)) (by (with_reducible repeat (first|refine bN ?_ _|refine bD ?_|refine bA ?_ _));exact BK192.out)) : gb192 ≠ gb222));have n16_:=aM ((by rw [hg];exact Nat.ne_of_gt (bL (g:=gb192) (o:=.cells #[.slice A0_0 l0_0.length c0_0,.slice A0_1 l0_1.length c0_1] 72 (0,0)) (by (with_reducible repeat (first|refine bN ?_ _|refine bD ?_|refine bA ?_ _));exact BK192.out)) : gb222 ≠ gb192));have n17_:=aM ((by rw [hg];exact Nat.ne_of_lt (bL (g:=gb193) (o:=.cells #[.slice A1_0 l1_0.length c1_0,.slice A1_1 l1_1.length c1_1] 72 (0,0)) (by (with_reducible repeat (first|refine bN ?_ _|refine bD ?_|refine bA ?_ _));exact BK193.out)) : gb193 ≠ gb222));have n18_:=aM ((by rw [hg];exact Nat.ne_of_gt (bL (g:=gb193) (o:=.cells #[.slice A1_0 l1_0.length c1_0,.slice A1_1 l1_1.length c1_1] 72 (0,0)) (by (with_reducible repeat (first|refine bN ?_ _|refine bD ?_|refine bA ?_ _));exact BK193.out)) : gb222 ≠ gb193));have n19_:=aM ((by rw [hg];exact Nat.ne_of_lt (bL (g:=gb215) (o:=.cells #[.slice Ao44 t209.length co44,.slice Ao48 t212.length co48] 78 (0,0)) (by (with_reducible repeat (first|refine bN ?_ _|refine bD ?_|refine bA ?_ _));exact BK215.out)) : gb215 ≠ gb222));have n20_:=aM ((by rw [hg];exact Nat.ne_of_gt (bL (g:=gb215) (o:=.cells #[.slice Ao44 t209.length co44,.slice Ao48 t212.length co48] 78 (0,0)) (by (with_reducible repeat (first|refine bN ?_ _|refine bD ?_|refine bA ?_ _));exact BK215.out)) : gb222 ≠ gb215));clear HO198 HO201 HO204 HO207 HO211 HO214 HO218 HO221 BK192 BK193 BK215 HB;have HO198:=n0_;have HO201:=n1_;have HO204:=n2_;have HO207:=n3_;have HO211:=n4_;have HO214:=n5_;have HO218:=n6_;have HO221:=n7_;have BK192:=n8_;have BK193:=n9_;have BK215:=n10_;have HB:=n11_;have BK222:=n12_;have GW222:=n13_;have GE222:=n14_;have NB192_222:=n15_;have NB222_192:=n16_;have NB193_222:=n17_;have NB222_193:=n18_;have NB215_222:=n19_;have NB222_215:=n20_;clear n0_ n1_ n2_ n3_ n4_ n5_ n6_ n7_ n8_ n9_ n10_ n11_ n12_ n13_ n14_ n15_ n16_ n17_ n18_ n19_ n20_ hb hbox hg;obtain ⟨Ao52,co52,eo52⟩:=Kd.S_slice HO218.out;subst eo52;have hnb53:=NB222_192.out;have hnc53:=NB192_222.out;have hnb54:=NB222_193.out;have hnc54:=NB193_222.out;have hnb55:=NB222_215.out;have hnc55:=NB215_222.out;have hcz56_0 : w51.cell? ⟨gb222,0,none⟩ = some (.slice none 0 0):=(bC BK222.out 0).trans rfl;have hcz56_1 : w51.cell? ⟨gb222,1,none⟩ = some (.slice none 0 0):=(bC BK222.out 1).trans rfl;have hfz56_0:=bF BK222.out 0;have hfz56_1:=bF BK222.out 1;obtain ⟨Ao57,co57,eo57⟩:=Kd.R_slice HO221.out;subst eo57;have hcz58_0 : w51.cell? ⟨gb215,0,none⟩ = some (.slice Ao44 t209.length co44):=(bC BK215.out 0).trans rfl;have hcz58_1 : w51.cell? ⟨gb215,1,none⟩ = some (.slice Ao48 t212.length co48):=(bC BK215.out 1).trans rfl;have hfz58_0:=bF BK215.out 0;have hfz58_1:=bF BK215.out 1)|((with_reducible refine gate_callee (f:=54) rfl ?_);refine goesL_ (some 31) rfl rfl Try.func54 (by kernel_rfl) rfl #[.agg #[.slice Ao44 t209.length co44,.slice Ao48 t212.length co48],.agg #[.slice Ao52 t216.length co52,.slice Ao57 t219.length co57]] rfl (by (try simp only [List.map_toArray,List.map_cons,List.map_nil]);first|done|rfl|(simp only [List.length_drop,List.length_take];rfl)) ?_;(with_reducible refine (impl_SameProgram.calls k _ _ t209 _ _ t212 _ _ t216 _ _ t219 t223 _ ?side1 ?side2 ?side3 ?side4 ?side5 ?side6 ?side7 ?side8 A24.out).mono ?_);(case side1 => refine (Kd.S_reads' (e:=119) (base:=w.heap.size) (ok:=fun k_ => (((True ∧ some k_ ≠ (.slice Ao36 t196.length co36 : Value).ownBlock) ∧ some k_ ≠ (.slice Ao38 t202.length co38 : Value).ownBlock) ∧ some k_ ≠ (.slice Ao52 t216.length co52 : Value).ownBlock)) (n:=t209.length) (c:=co44) ?_).2.2;exact (by (with_reducible repeat (first|apply Kd.S_alloc|apply Kd.S_drewN|apply Kd.S_drew));exact (Kd.S_mono (Kd.S_far (p:=⟨gb222,1,none⟩) (Kd.S_far (p:=⟨gb222,0,none⟩) (Kd.S_types HO211.out BK222.out (by decide)) (fun _ hk => hk.2) (.slice Ao52 t216.length co52)) (fun _ hk => hk.2) (.slice Ao57 t219.length co57)) (fun _ h_ => h_.1))));(case side2 => exact (Kd.S_reads' HO211.out).2.1);(case side3 => refine (rR (e:=121) (base:=w.heap.size) (ok:=fun k_ => (((True ∧ some k_ ≠ (.slice Ao37 t199.length co37 : Value).ownBlock) ∧ some k_ ≠ (.slice Ao39 t205.length co39 : Value).ownBlock) ∧ some k_ ≠ (.slice Ao57 t219.length co57 : Value).ownBlock)) (n:=t212.length) (c:=co48) ?_).2.2;exact (by (with_reducible repeat (first|apply rA|apply rN|apply rD));exact (Kd.R_mono (rF (p:=⟨gb222,1,none⟩) (rF (p:=⟨gb222,0,none⟩) (rY HO214.out BK222.out (by decide)) (fun _ hk => hk.2) (.slice Ao52 t216.length co52)) (fun _ hk => hk.2) (.slice Ao57 t219.length co57)) (fun _ h_ => h_.1))));(case side4 => exact (rR HO214.out).2.1);(case side5 => refine (Kd.S_reads' (e:=119) (base:=w.heap.size) (ok:=fun k_ => (((True ∧ some k_ ≠ (.slice Ao36 t196.length co36 : Value).ownBlock) ∧ some k_ ≠ (.slice Ao38 t202.length co38 : Value).ownBlock) ∧ some k_ ≠ (.slice Ao44 t209.length co44 : Value).ownBlock)) (n:=t216.length) (c:=co52) ?_).2.2;exact (by (with_reducible repeat (first|apply Kd.S_alloc|apply Kd.S_drewN|apply Kd.S_drew));exact (Kd.S_mono (Kd.S_far (p:=⟨gb222,1,none⟩) (Kd.S_far (p:=⟨gb222,0,none⟩) (Kd.S_types HO218.out BK222.out (by decide)) (fun _ hk => hk.2) (.slice Ao52 t216.length co52)) (fun _ hk => hk.2) (.slice Ao57 t219.length co57)) (fun _ h_ => h_.1))));(case side6 => exact (Kd.S_reads' HO218.out).2.1);(case side7 => refine (rR (e:=121) (base:=w.heap.size) (ok:=fun k_ => (((True ∧ some k_ ≠ (.slice Ao37 t199.length co37 : Value).ownBlock) ∧ some k_ ≠ (.slice Ao39 t205.length co39 : Value).ownBlock) ∧ some k_ ≠ (.slice Ao48 t212.length co48 : Value).ownBlock)) (n:=t219.length) (c:=co57) ?_).2.2;exact (by (with_reducible repeat (first|apply rA|apply rN|apply rD));exact (Kd.R_mono (rF (p:=⟨gb222,1,none⟩) (rF (p:=⟨gb222,0,none⟩) (rY HO221.out BK222.out (by decide)) (fun _ hk => hk.2) (.slice Ao52 t216.length co52)) (fun _ hk => hk.2) (.slice Ao57 t219.length co57)) (fun _ h_ => h_.1))));(case side8 => exact (rR HO221.out).2.1);rintro e w59 ⟨rfl,hb⟩;refine ⟨_,rfl,?_⟩;have n0_:=aM (Kd.S_below (by (with_reducible repeat (first|apply Kd.S_alloc|apply Kd.S_drewN|apply Kd.S_drew));exact (Kd.S_mono (Kd.S_far (p:=⟨gb222,1,none⟩) (Kd.S_far (p:=⟨gb222,0,none⟩) (Kd.S_types HO198.out BK222.out (by decide)) (fun _ hk => hk.2) (.slice Ao52 t216.length co52)) (fun _ hk => hk.2) (.slice Ao57 t219.length co57)) (fun _ h_ => h_.1))) hb);have n1_:=aM (rB (by (with_reducible repeat (first|apply rA|apply rN|apply rD));exact (Kd.R_mono (rF (p:=⟨gb222,1,none⟩) (rF (p:=⟨gb222,0,none⟩) (rY HO201.out BK222.out (by decide)) (fun _ hk => hk.2) (.slice Ao52 t216.length co52)) (fun _ hk => hk.2) (.slice Ao57 t219.length co57)) (fun _ h_ => h_.1))) hb);have n2_:=aM (Kd.S_below (by (with_reducible repeat (first|apply Kd.S_alloc|apply Kd.S_drewN|apply Kd.S_drew));exact (Kd.S_mono (Kd.S_far (p:=⟨gb222,1,none⟩) (Kd.S_far (p:=⟨gb222,0,none⟩) (Kd.S_types HO204.out BK222.out (by decide)) (fun _ hk => hk.2) (.slice Ao52 t216.length co52)) (fun _ hk => hk.2) (.slice Ao57 t219.length co57)) (fun _ h_ => h_.1))) hb);have n3_:=aM (rB (by (with_reducible repeat (first|apply rA|apply rN|apply rD));exact (Kd.R_mono (rF (p:=⟨gb222,1,none⟩) (rF (p:=⟨gb222,0,none⟩) (rY HO207.out BK222.out (by decide)) (fun _ hk => hk.2) (.slice Ao52 t216.length co52)) (fun _ hk => hk.2) (.slice Ao57 t219.length co57)) (fun _ h_ => h_.1))) hb);have n4_:=aM (Kd.S_below (by (with_reducible repeat (first|apply Kd.S_alloc|apply Kd.S_drewN|apply Kd.S_drew));exact (Kd.S_mono (Kd.S_far (p:=⟨gb222,1,none⟩) (Kd.S_far (p:=⟨gb222,0,none⟩) (Kd.S_types HO211.out BK222.out (by decide)) (fun _ hk => hk.2) (.slice Ao52 t216.length co52)) (fun _ hk => hk.2) (.slice Ao57 t219.length co57)) (fun _ h_ => h_.1))) hb);have n5_:=aM (rB (by (with_reducible repeat (first|apply rA|apply rN|apply rD));exact (Kd.R_mono (rF (p:=⟨gb222,1,none⟩) (rF (p:=⟨gb222,0,none⟩) (rY HO214.out BK222.out (by decide)) (fun _ hk => hk.2) (.slice Ao52 t216.length co52)) (fun _ hk => hk.2) (.slice Ao57 t219.length co57)) (fun _ h_ => h_.1))) hb);have n6_:=aM (Kd.S_below (by (with_reducible repeat (first|apply Kd.S_alloc|apply Kd.S_drewN|apply Kd.S_drew));exact (Kd.S_mono (Kd.S_far (p:=⟨gb222,1,none⟩) (Kd.S_far (p:=⟨gb222,0,none⟩) (Kd.S_types HO218.out BK222.out (by decide)) (fun _ hk => hk.2) (.slice Ao52 t216.length co52)) (fun _ hk => hk.2) (.slice Ao57 t219.length co57)) (fun _ h_ => h_.1))) hb);have n7_:=aM (rB (by (with_reducible repeat (first|apply rA|apply rN|apply rD));exact (Kd.R_mono (rF (p:=⟨gb222,1,none⟩) (rF (p:=⟨gb222,0,none⟩) (rY HO221.out BK222.out (by decide)) (fun _ hk => hk.2) (.slice Ao52 t216.length co52)) (fun _ hk => hk.2) (.slice Ao57 t219.length co57)) (fun _ h_ => h_.1))) hb);have n8_:=aM (bB (g:=gb192) (o:=.cells #[.slice A0_0 l0_0.length c0_0,.slice A0_1 l0_1.length c0_1] 72 (0,0)) (by (with_reducible repeat (first|refine bN ?_ _|refine bD ?_|refine bA ?_ _));refine blk_far ?_ NB192_222.out _;(with_reducible repeat (first|refine bN ?_ _|refine bD ?_|refine bA ?_ _));refine blk_far ?_ NB192_222.out _;(with_reducible repeat (first|refine bN ?_ _|refine bD ?_|refine bA ?_ _));exact BK192.out) hb);have n9_:=aM (bB (g:=gb193) (o:=.cells #[.slice A1_0 l1_0.length c1_0,.slice A1_1 l1_1.length c1_1] 72 (0,0)) (by (with_reducible repeat (first|refine bN ?_ _|refine bD ?_|refine bA ?_ _));refine blk_far ?_ NB193_222.out _;(with_reducible repeat (first|refine bN ?_ _|refine bD ?_|refine bA ?_ _));refine blk_far ?_ NB193_222.out _;(with_reducible repeat (first|refine bN ?_ _|refine bD ?_|refine bA ?_ _));exact BK193.out) hb);have n10_:=aM (bB (g:=gb215) (o:=.cells #[.slice Ao44 t209.length co44,.slice Ao48 t212.length co48] 78 (0,0)) (by (with_reducible repeat (first|refine bN ?_ _|refine bD ?_|refine bA ?_ _));refine blk_far ?_ NB215_222.out _;(with_reducible repeat (first|refine bN ?_ _|refine bD ?_|refine bA ?_ _));refine blk_far ?_ NB215_222.out _;(with_reducible repeat (first|refine bN ?_ _|refine bD ?_|refine bA ?_ _));exact BK215.out) hb);have n11_:=aM (bB (g:=gb222) (o:=.cells #[.slice Ao52 t216.length co52,.slice Ao57 t219.length co57] 78 (0,0)) (by (with_reducible repeat (first|refine bN ?_ _|refine bD ?_|refine bA ?_ _));refine blk_put (cs:=#[.slice Ao52 t216.length co52,.slice none 0 0]) ?_ 1 _ rfl;(with_reducible repeat (first|refine bN ?_ _|refine bD ?_|refine bA ?_ _));refine blk_put (cs:=#[.slice none 0 0,.slice none 0 0]) ?_ 0 _ rfl;(with_reducible repeat (first|refine bN ?_ _|refine bD ?_|refine bA ?_ _));exact BK222.out) hb);have n12_:=aM (lP (by repeat (first|(with_reducible first|exact HB.out|apply lA|apply lN|apply lD|refine lS ?_ GE192.out|refine lS ?_ GE193.out|refine lS ?_ GE215.out|refine lS ?_ GE222.out)|exact HB.out)) hb);clear HO198 HO201 HO204 HO207 HO211 HO214 HO218 HO221 BK192 BK193 BK215 BK222 HB;have HO198:=n0_;have HO201:=n1_;have HO204:=n2_;have HO207:=n3_;have HO211:=n4_;have HO214:=n5_;have HO218:=n6_;have HO221:=n7_;have BK192:=n8_;have BK193:=n9_;have BK215:=n10_;have BK222:=n11_;have HB:=n12_;clear n0_ n1_ n2_ n3_ n4_ n5_ n6_ n7_ n8_ n9_ n10_ n11_ n12_;(try clear hb);(try clear hb2);(try clear hk);(try clear hi)))
    go_ret
    exact ⟨by first|rfl|(simp [errW_none,errW_some] <;> rfl)|(simp [*,errW_none,errW_some] <;> rfl),by repeat (first|(with_reducible first|exact HB.out|apply lA|apply lN|apply lD|refine lS ?_ GE192.out|refine lS ?_ GE193.out|refine lS ?_ GE215.out|refine lS ?_ GE222.out)|exact HB.out)⟩
   ·rw [if_neg c25] at H
    have c25b0 : (t223 != t208) = false:=by simpa using c25
    (try (have c25b1 : decide (t223 = t208) = true:=by simpa using c25))
    (try (have c25b2 : (t223 == t208) = true:=by simpa using c25))
    clear c25
    replace H:=Option.bind_eq_some_iff.mp H
    obtain ⟨⟨t224,t227⟩,A600,H⟩:=H
    replace H : ((laws_eqProgram.f k t209 t212 t224 t227).bind fun t230 => (if t230 = true then ((laws_toProgram.f k l1_0 l1_1).bind fun bt231 => ((laws_eqProgram.f k t216 t219 bt231.1 bt231.2).bind fun t237 => (if t237 = true then (some true) else (some false)))) else (some false))) = some r:=H
    have A60:=aM A600
    clear A600
    replace H:=Option.bind_eq_some_iff.mp H
    obtain ⟨t230,A610,H⟩:=H
    replace H : (if t230 = true then ((laws_toProgram.f k l1_0 l1_1).bind fun bt231 => ((laws_eqProgram.f k t216 t219 bt231.1 bt231.2).bind fun t237 => (if t237 = true then (some true) else (some false)))) else (some false)) = some r:=H
    have A61:=aM A610
    clear A610
    by_cases c62 : t230 = true
    ·subst c62
     have H1 : ((laws_toProgram.f k l1_0 l1_1).bind fun bt231 => ((laws_eqProgram.f k t216 t219 bt231.1 bt231.2).bind fun t237 => (if t237 = true then (some true) else (some false)))) = some r:=by rw [if_pos rfl] at H;exact H
     clear H
     have H:=H1
     clear H1
     replace H:=Option.bind_eq_some_iff.mp H
     obtain ⟨⟨t231,t234⟩,A630,H⟩:=H
     replace H : ((laws_eqProgram.f k t216 t219 t231 t234).bind fun t237 => (if t237 = true then (some true) else (some false))) = some r:=H
     have A63:=aM A630
     clear A630
     replace H:=Option.bind_eq_some_iff.mp H
     obtain ⟨t237,A640,H⟩:=H
     replace H : (if t237 = true then (some true) else (some false)) = some r:=H
     have A64:=aM A640
     clear A640
     by_cases c65 : t237 = true
     ·subst c65
      have H1 : (some true) = some r:=by rw [if_pos rfl] at H;exact H
      clear H
      have H:=H1
      clear H1
      obtain rfl:=Option.some.inj H
      go_enter Try.func13,Try.ntmps13
      try go_wp2_with (first|((with_reducible refine gate_dst (N:=2) rfl ?_);refine box_event ?hg (N:=2) ?hd (cs:=#[.slice A0_0 l0_0.length c0_0,.slice A0_1 l0_1.length c0_1]) (t:=72) ?hr ?_;(case hd => rfl);(case hg => rfl);(case hr => first|(go_simp;done)|(go_simp;rfl));intro gb192 hg w66 hbox hb;have n0_:=aM (lP (by repeat (first|(with_reducible first|exact HB.out|apply lA|apply lN|apply lD)|exact HB.out)) hb);have n1_:=aM (hbox);have n2_:=aM ((by rw [hg];exact (lZ (by repeat (first|(with_reducible first|exact HB.out|apply lA|apply lN|apply lD)|exact HB.out))) : w.heap.size ≤ gb192));have n3_:=aM ((by rw [hg];exact (lZ (by repeat (first|(with_reducible first|exact HB.out|apply lA|apply lN|apply lD)|exact HB.out))) : w.heap.size ≤ gb192));clear HB;have HB:=n0_;have BK192:=n1_;have GW192:=n2_;have GE192:=n3_;clear n0_ n1_ n2_ n3_ hb hbox hg)|((with_reducible refine gate_dst (N:=3) rfl ?_);refine box_event ?hg (N:=3) ?hd (cs:=#[.slice A1_0 l1_0.length c1_0,.slice A1_1 l1_1.length c1_1]) (t:=72) ?hr ?_;(case hd => rfl);(case hg => rfl);(case hr => first|(go_simp;done)|(go_simp;rfl));intro gb193 hg w67 hbox hb;have n0_:=aM (bB (g:=gb192) (o:=.cells #[.slice A0_0 l0_0.length c0_0,.slice A0_1 l0_1.length c0_1] 72 (0,0)) (by (with_reducible repeat (first|refine bN ?_ _|refine bD ?_|refine bA ?_ _));exact BK192.out) hb);have n1_:=aM (lP (by repeat (first|(with_reducible first|exact HB.out|apply lA|apply lN|apply lD|refine lS ?_ GE192.out)|exact HB.out)) hb);have n2_:=aM (hbox);have n3_:=aM ((by rw [hg];exact (lZ (by repeat (first|(with_reducible first|exact HB.out|apply lA|apply lN|apply lD|refine lS ?_ GE192.out)|exact HB.out))) : w.heap.size ≤ gb193));have n4_:=aM ((by rw [hg];exact (lZ (by repeat (first|(with_reducible first|exact HB.out|apply lA|apply lN|apply lD|refine lS ?_ GE192.out)|exact HB.out))) : w.heap.size ≤ gb193));have n5_:=aM ((by rw [hg];exact Nat.ne_of_lt (bL (g:=gb192) (o:=.cells #[.slice A0_0 l0_0.length c0_0,.slice A0_1 l0_1.length c0_1] 72 (0,0)) (by (with_reducible repeat (first|refine bN ?_ _|refine bD ?_|refine bA ?_ _));exact BK192.out)) : gb192 ≠ gb193));have n6_:=aM ((by rw [hg];exact Nat.ne_of_gt (bL (g:=gb192) (o:=.cells #[.slice A0_0 l0_0.length c0_0,.slice A0_1 l0_1.length c0_1] 72 (0,0)) (by (with_reducible repeat (first|refine bN ?_ _|refine bD ?_|refine bA ?_ _));exact BK192.out)) : gb193 ≠ gb192));clear BK192 HB;have BK192:=n0_;have HB:=n1_;have BK193:=n2_;have GW193:=n3_;have GE193:=n4_;have NB192_193:=n5_;have NB193_192:=n6_;clear n0_ n1_ n2_ n3_ n4_ n5_ n6_ hb hbox hg;have hnb68:=NB192_193.out;have hnc68:=NB193_192.out;have hcz69_0 : w67.cell? ⟨gb192,0,none⟩ = some (.slice A0_0 l0_0.length c0_0):=(bC BK192.out 0).trans rfl;have hcz69_1 : w67.cell? ⟨gb192,1,none⟩ = some (.slice A0_1 l0_1.length c0_1):=(bC BK192.out 1).trans rfl;have hfz69_0:=bF BK192.out 0;have hfz69_1:=bF BK192.out 1)|((with_reducible refine gate_callee (f:=51) rfl ?_);refine goesL_ (some 12) rfl rfl Try.func51 (by kernel_rfl) rfl #[.agg #[.slice A0_0 l0_0.length c0_0,.slice A0_1 l0_1.length c0_1],.int .i64 1048576] rfl (by (try simp only [List.map_toArray,List.map_cons,List.map_nil]);first|done|rfl|(simp only [List.length_drop,List.length_take];rfl)) ?_;(with_reducible refine (laws_szProgram.calls k _ _ l0_0 _ _ l0_1 1048576 t194 _ ?side1 ?side2 ?side3 ?side4 A3.out).mono ?_);(case side1 => repeat (first|exact (cB HR0_0.out HB.out)|(with_reducible first|refine cA ?_ _|refine cN ?_ _|refine cD ?_)));(case side2 => exact HC0_0.out);(case side3 => repeat (first|exact (cB HR0_1.out HB.out)|(with_reducible first|refine cA ?_ _|refine cN ?_ _|refine cD ?_)));(case side4 => exact HC0_1.out);rintro e w70 ⟨rfl,hb⟩;refine ⟨_,rfl,?_⟩;have n0_:=aM (bB (g:=gb192) (o:=.cells #[.slice A0_0 l0_0.length c0_0,.slice A0_1 l0_1.length c0_1] 72 (0,0)) (by (with_reducible repeat (first|refine bN ?_ _|refine bD ?_|refine bA ?_ _));exact BK192.out) hb);have n1_:=aM (bB (g:=gb193) (o:=.cells #[.slice A1_0 l1_0.length c1_0,.slice A1_1 l1_1.length c1_1] 72 (0,0)) (by (with_reducible repeat (first|refine bN ?_ _|refine bD ?_|refine bA ?_ _));exact BK193.out) hb);have n2_:=aM (lP (by repeat (first|(with_reducible first|exact HB.out|apply lA|apply lN|apply lD|refine lS ?_ GE192.out|refine lS ?_ GE193.out)|exact HB.out)) hb);clear BK192 BK193 HB;have BK192:=n0_;have BK193:=n1_;have HB:=n2_;clear n0_ n1_ n2_;(try clear hb);(try clear hb2);(try clear hk);(try clear hi);have hcz71_0 : w70.cell? ⟨gb193,0,none⟩ = some (.slice A1_0 l1_0.length c1_0):=(bC BK193.out 0).trans rfl;have hcz71_1 : w70.cell? ⟨gb193,1,none⟩ = some (.slice A1_1 l1_1.length c1_1):=(bC BK193.out 1).trans rfl;have hfz71_0:=bF BK193.out 0;have hfz71_1:=bF BK193.out 1)|((with_reducible refine gate_callee (f:=51) rfl ?_);refine goesL_ (some 17) rfl rfl Try.func51 (by kernel_rfl) rfl #[.agg #[.slice A1_0 l1_0.length c1_0,.slice A1_1 l1_1.length c1_1],.int .i64 t194] rfl (by (try simp only [List.map_toArray,List.map_cons,List.map_nil]);first|done|rfl|(simp only [List.length_drop,List.length_take];rfl)) ?_;(with_reducible refine (laws_szProgram.calls k _ _ l1_0 _ _ l1_1 t194 t195 _ ?side1 ?side2 ?side3 ?side4 A10.out).mono ?_);(case side1 => repeat (first|exact (cB HR1_0.out HB.out)|(with_reducible first|refine cA ?_ _|refine cN ?_ _|refine cD ?_)));(case side2 => exact HC1_0.out);(case side3 => repeat (first|exact (cB HR1_1.out HB.out)|(with_reducible first|refine cA ?_ _|refine cN ?_ _|refine cD ?_)));(case side4 => exact HC1_1.out);rintro e w72 ⟨rfl,hb⟩;refine ⟨_,rfl,?_⟩;have n0_:=aM (bB (g:=gb192) (o:=.cells #[.slice A0_0 l0_0.length c0_0,.slice A0_1 l0_1.length c0_1] 72 (0,0)) (by (with_reducible repeat (first|refine bN ?_ _|refine bD ?_|refine bA ?_ _));exact BK192.out) hb);have n1_:=aM (bB (g:=gb193) (o:=.cells #[.slice A1_0 l1_0.length c1_0,.slice A1_1 l1_1.length c1_1] 72 (0,0)) (by (with_reducible repeat (first|refine bN ?_ _|refine bD ?_|refine bA ?_ _));exact BK193.out) hb);have n2_:=aM (lP (by repeat (first|(with_reducible first|exact HB.out|apply lA|apply lN|apply lD|refine lS ?_ GE192.out|refine lS ?_ GE193.out)|exact HB.out)) hb);clear BK192 BK193 HB;have BK192:=n0_;have BK193:=n1_;have HB:=n2_;clear n0_ n1_ n2_;(try clear hb);(try clear hb2);(try clear hk);(try clear hi)))
      have n0_:=aM (bD BK192.out)
      have n1_:=aM (bD BK193.out)
      have n2_:=aM (lD HB.out)
      clear BK192
      clear BK193
      clear HB
      have BK192:=n0_
      have BK193:=n1_
      have HB:=n2_
      clear n0_ n1_ n2_
      refine start_ (n:=6) (S:=fun w' => w'.cell? ⟨gb192,0,none⟩ = some (.slice A0_0 l0_0.length c0_0) ∧ w'.cell? ⟨gb192,1,none⟩ = some (.slice A0_1 l0_1.length c0_1) ∧ w'.cell? ⟨gb193,0,none⟩ = some (.slice A1_0 l1_0.length c1_0) ∧ w'.cell? ⟨gb193,1,none⟩ = some (.slice A1_1 l1_1.length c1_1)) (ds:=[]) #[bf,bf,bf,bf,bf,bf] (by kernel_rfl) rfl rfl ⟨(bC BK192.out 0).trans rfl,(bC BK192.out 1).trans rfl,(bC BK193.out 0).trans rfl,(bC BK193.out 1).trans rfl⟩ (fun hHeld => ?_)
      generalize w72.drew = w73 at BK192 BK193 HB hHeld ⊢
      refine take_ (i:=0) (N:=some 20) (v:=?_) (a':=?_) #[bT,bf,bf,bf,bf,bf] rfl rfl (by kernel_rfl) (fun _ _ _ h => h) (Or.inl ⟨by rfl,?_⟩) hHeld ?_ ?_
      rotate_left
      ·rintro w' ⟨s0,s1,s2,s3⟩
       go_simp
       with_reducible rfl
      rotate_left
      ·simp only [Act.put,q_ia,q_cz,q_cs,i64_w,i32_w];rfl
      refine take_ (i:=2) (N:=some 22) (v:=?_) (a':=?_) #[bT,bf,bT,bf,bf,bf] rfl rfl (by kernel_rfl) (fun _ _ _ h => h) (Or.inl ⟨by rfl,?_⟩) hHeld ?_ ?_
      rotate_left
      ·rintro w' ⟨s0,s1,s2,s3⟩
       go_simp
       with_reducible rfl
      rotate_left
      ·simp only [Act.put,q_ia,q_cz,q_cs,i64_w,i32_w];rfl
      refine one_ (i:=1) (N:=some 21) #[bT,bT,bT,bf,bf,bf] rfl rfl (by kernel_rfl) (by decide) (fun K hK => ?_)
      refine goes_ Try.func53 (by kernel_rfl) rfl #[.agg #[.slice A0_0 l0_0.length c0_0,.slice A0_1 l0_1.length c0_1]] (by rfl) rfl rfl (by (try simp only [List.map_toArray,List.map_cons,List.map_nil]);first|done|rfl|(simp only [List.length_drop,List.length_take];rfl)) ?_
      with_reducible refine (laws_toProgram.calls k _ _ l0_0 _ _ l0_1 t196 t199 _ ?side1 ?side2 ?side3 ?side4 A19.out).mono ?_
      (case side1 => repeat (first|exact (cB HR0_0.out HB.out)|(with_reducible first|refine cA ?_ _|refine cN ?_ _|refine cD ?_)))
      (case side2 => exact HC0_0.out)
      (case side3 => repeat (first|exact (cB HR0_1.out HB.out)|(with_reducible first|refine cA ?_ _|refine cN ?_ _|refine cD ?_)))
      (case side4 => exact HC0_1.out)
      rintro e w74 ⟨v197,v200,rfl,ho0,ho1,hb⟩
      refine ⟨_,rfl,?_⟩
      have n0_:=aM (Kd.S_lower ho0 (lZ (by repeat (first|(with_reducible first|exact HB.out|apply lA|apply lN|apply lD|refine lS ?_ GE192.out|refine lS ?_ GE193.out)|exact HB.out))))
      have n1_:=aM (rL ho1 (lZ (by repeat (first|(with_reducible first|exact HB.out|apply lA|apply lN|apply lD|refine lS ?_ GE192.out|refine lS ?_ GE193.out)|exact HB.out))))
      have n2_:=aM (bB (g:=gb192) (o:=.cells #[.slice A0_0 l0_0.length c0_0,.slice A0_1 l0_1.length c0_1] 72 (0,0)) (by (with_reducible repeat (first|refine bN ?_ _|refine bD ?_|refine bA ?_ _));exact BK192.out) hb)
      have n3_:=aM (bB (g:=gb193) (o:=.cells #[.slice A1_0 l1_0.length c1_0,.slice A1_1 l1_1.length c1_1] 72 (0,0)) (by (with_reducible repeat (first|refine bN ?_ _|refine bD ?_|refine bA ?_ _));exact BK193.out) hb)
      have n4_:=aM (lP (by repeat (first|(with_reducible first|exact HB.out|apply lA|apply lN|apply lD|refine lS ?_ GE192.out|refine lS ?_ GE193.out)|exact HB.out)) hb)
      clear BK192
      clear BK193
      clear HB
      have HO198:=n0_
      have HO201:=n1_
      have BK192:=n2_
      have BK193:=n3_
      have HB:=n4_
      clear n0_ n1_ n2_ n3_ n4_
      (try clear hb)
      (try clear hb2)
      (try clear hk)
      (try clear hi)
      (try clear ho0)
      (try clear ho1)
      refine hK.out _ _ ⟨(bC BK192.out 0).trans rfl,(bC BK192.out 1).trans rfl,(bC BK193.out 0).trans rfl,(bC BK193.out 1).trans rfl⟩ (fun hHeld => ?_)
      clear hK K
      refine norm_ (a':=?_) ?_ ?_
      rotate_left
      ·show Act.put _ (some 21) _ = _
       simp only [Act.put,q_ia,q_cz,q_cs,i64_w,i32_w]
       rfl
      refine one_ (i:=3) (N:=some 23) #[bT,bT,bT,bT,bf,bf] rfl rfl (by kernel_rfl) (by decide) (fun K hK => ?_)
      refine goes_ Try.func53 (by kernel_rfl) rfl #[.agg #[.slice A1_0 l1_0.length c1_0,.slice A1_1 l1_1.length c1_1]] (by rfl) rfl rfl (by (try simp only [List.map_toArray,List.map_cons,List.map_nil]);first|done|rfl|(simp only [List.length_drop,List.length_take];rfl)) ?_
      with_reducible refine (laws_toProgram.calls k _ _ l1_0 _ _ l1_1 t202 t205 _ ?side1 ?side2 ?side3 ?side4 A20.out).mono ?_
      (case side1 => repeat (first|exact (cB HR1_0.out HB.out)|(with_reducible first|refine cA ?_ _|refine cN ?_ _|refine cD ?_)))
      (case side2 => exact HC1_0.out)
      (case side3 => repeat (first|exact (cB HR1_1.out HB.out)|(with_reducible first|refine cA ?_ _|refine cN ?_ _|refine cD ?_)))
      (case side4 => exact HC1_1.out)
      rintro e w75 ⟨v203,v206,rfl,ho0,ho1,hb⟩
      refine ⟨_,rfl,?_⟩
      have n0_:=aM (Kd.S_elder' (by (with_reducible repeat (first|apply Kd.S_alloc|apply Kd.S_drewN|apply Kd.S_drew));exact HO198.out) (Kd.S_base ho0) hb)
      have n1_:=aM (rE (by (with_reducible repeat (first|apply rA|apply rN|apply rD));exact HO201.out) (rS ho1) hb)
      have n2_:=aM (Kd.S_lower (Kd.S_new' ho0 (Kd.S_lt (by (with_reducible repeat (first|apply Kd.S_alloc|apply Kd.S_drewN|apply Kd.S_drew));exact HO198.out))) (lZ (by repeat (first|(with_reducible first|exact HB.out|apply lA|apply lN|apply lD|refine lS ?_ GE192.out|refine lS ?_ GE193.out)|exact HB.out))))
      have n3_:=aM (rL (rW ho1 (rT (by (with_reducible repeat (first|apply rA|apply rN|apply rD));exact HO201.out))) (lZ (by repeat (first|(with_reducible first|exact HB.out|apply lA|apply lN|apply lD|refine lS ?_ GE192.out|refine lS ?_ GE193.out)|exact HB.out))))
      have n4_:=aM (bB (g:=gb192) (o:=.cells #[.slice A0_0 l0_0.length c0_0,.slice A0_1 l0_1.length c0_1] 72 (0,0)) (by (with_reducible repeat (first|refine bN ?_ _|refine bD ?_|refine bA ?_ _));exact BK192.out) hb)
      have n5_:=aM (bB (g:=gb193) (o:=.cells #[.slice A1_0 l1_0.length c1_0,.slice A1_1 l1_1.length c1_1] 72 (0,0)) (by (with_reducible repeat (first|refine bN ?_ _|refine bD ?_|refine bA ?_ _));exact BK193.out) hb)
      have n6_:=aM (lP (by repeat (first|(with_reducible first|exact HB.out|apply lA|apply lN|apply lD|refine lS ?_ GE192.out|refine lS ?_ GE193.out)|exact HB.out)) hb)
      clear HO198
      clear HO201
      clear BK192
      clear BK193
      clear HB
      have HO198:=n0_
      have HO201:=n1_
      have HO204:=n2_
      have HO207:=n3_
      have BK192:=n4_
      have BK193:=n5_
      have HB:=n6_
      clear n0_ n1_ n2_ n3_ n4_ n5_ n6_
      (try clear hb)
      (try clear hb2)
      (try clear hk)
      (try clear hi)
      (try clear ho0)
      (try clear ho1)
      obtain ⟨Ao76,co76,eo76⟩:=Kd.S_slice HO198.out
      (first|subst eo76|(injection eo76 with f1_ f2_ f3_;have f4_:=f1_.symm;have f5_:=f3_.symm;clear f1_ f2_ f3_;subst f4_;subst f5_))
      obtain ⟨Ao77,co77,eo77⟩:=Kd.R_slice HO201.out
      (first|subst eo77|(injection eo77 with f1_ f2_ f3_;have f4_:=f1_.symm;have f5_:=f3_.symm;clear f1_ f2_ f3_;subst f4_;subst f5_))
      obtain ⟨Ao78,co78,eo78⟩:=Kd.S_slice HO204.out
      (first|subst eo78|(injection eo78 with f1_ f2_ f3_;have f4_:=f1_.symm;have f5_:=f3_.symm;clear f1_ f2_ f3_;subst f4_;subst f5_))
      obtain ⟨Ao79,co79,eo79⟩:=Kd.R_slice HO207.out
      (first|subst eo79|(injection eo79 with f1_ f2_ f3_;have f4_:=f1_.symm;have f5_:=f3_.symm;clear f1_ f2_ f3_;subst f4_;subst f5_))
      refine hK.out _ _ ⟨(bC BK192.out 0).trans rfl,(bC BK192.out 1).trans rfl,(bC BK193.out 0).trans rfl,(bC BK193.out 1).trans rfl⟩ (fun hHeld => ?_)
      clear hK K
      refine norm_ (a':=?_) ?_ ?_
      rotate_left
      ·show Act.put _ (some 23) _ = _
       simp only [Act.put,q_ia,q_cz,q_cs,i64_w,i32_w]
       rfl
      refine one_ (i:=4) (N:=some 24) #[bT,bT,bT,bT,bT,bf] rfl rfl (by kernel_rfl) (by decide) (fun K hK => ?_)
      refine goes_ Try.func52 (by kernel_rfl) rfl #[.agg #[.slice Ao76 t196.length co76,.slice Ao77 t199.length co77],.agg #[.slice Ao78 t202.length co78,.slice Ao79 t205.length co79]] (by rfl) rfl rfl (by (try simp only [List.map_toArray,List.map_cons,List.map_nil]);first|done|rfl|(simp only [List.length_drop,List.length_take];rfl)) ?_
      with_reducible refine (spec_SameProgram.calls k _ _ t196 _ _ t199 _ _ t202 _ _ t205 t208 _ ?side1 ?side2 ?side3 ?side4 ?side5 ?side6 ?side7 ?side8 A21.out).mono ?_
      (case side1 => repeat (first|exact (Kd.S_reads' HO198.out).2.2|(with_reducible first|refine cA ?_ _|refine cN ?_ _|refine cD ?_)))
      (case side2 => exact (Kd.S_reads' HO198.out).2.1)
      (case side3 => repeat (first|exact (rR HO201.out).2.2|(with_reducible first|refine cA ?_ _|refine cN ?_ _|refine cD ?_)))
      (case side4 => exact (rR HO201.out).2.1)
      (case side5 => repeat (first|exact (Kd.S_reads' HO204.out).2.2|(with_reducible first|refine cA ?_ _|refine cN ?_ _|refine cD ?_)))
      (case side6 => exact (Kd.S_reads' HO204.out).2.1)
      (case side7 => repeat (first|exact (rR HO207.out).2.2|(with_reducible first|refine cA ?_ _|refine cN ?_ _|refine cD ?_)))
      (case side8 => exact (rR HO207.out).2.1)
      rintro e w80 ⟨rfl,hb⟩
      refine ⟨_,rfl,?_⟩
      have n0_:=aM (Kd.S_below (by (with_reducible repeat (first|apply Kd.S_alloc|apply Kd.S_drewN|apply Kd.S_drew));exact HO198.out) hb)
      have n1_:=aM (rB (by (with_reducible repeat (first|apply rA|apply rN|apply rD));exact HO201.out) hb)
      have n2_:=aM (Kd.S_below (by (with_reducible repeat (first|apply Kd.S_alloc|apply Kd.S_drewN|apply Kd.S_drew));exact HO204.out) hb)
      have n3_:=aM (rB (by (with_reducible repeat (first|apply rA|apply rN|apply rD));exact HO207.out) hb)
      have n4_:=aM (bB (g:=gb192) (o:=.cells #[.slice A0_0 l0_0.length c0_0,.slice A0_1 l0_1.length c0_1] 72 (0,0)) (by (with_reducible repeat (first|refine bN ?_ _|refine bD ?_|refine bA ?_ _));exact BK192.out) hb)
      have n5_:=aM (bB (g:=gb193) (o:=.cells #[.slice A1_0 l1_0.length c1_0,.slice A1_1 l1_1.length c1_1] 72 (0,0)) (by (with_reducible repeat (first|refine bN ?_ _|refine bD ?_|refine bA ?_ _));exact BK193.out) hb)
      have n6_:=aM (lP (by repeat (first|(with_reducible first|exact HB.out|apply lA|apply lN|apply lD|refine lS ?_ GE192.out|refine lS ?_ GE193.out)|exact HB.out)) hb)
      clear HO198
      clear HO201
      clear HO204
      clear HO207
      clear BK192
      clear BK193
      clear HB
      have HO198:=n0_
      have HO201:=n1_
      have HO204:=n2_
      have HO207:=n3_
      have BK192:=n4_
      have BK193:=n5_
      have HB:=n6_
      clear n0_ n1_ n2_ n3_ n4_ n5_ n6_
      (try clear hb)
      (try clear hb2)
      (try clear hk)
      (try clear hi)
      refine hK.out _ _ ⟨(bC BK192.out 0).trans rfl,(bC BK192.out 1).trans rfl,(bC BK193.out 0).trans rfl,(bC BK193.out 1).trans rfl⟩ (fun hHeld => ?_)
      clear hK K
      refine norm_ (a':=?_) ?_ ?_
      rotate_left
      ·show Act.put _ (some 24) _ = _
       simp only [Act.put,q_ia,q_cz,q_cs,i64_w,i32_w]
       rfl
      refine pure_ (i:=5) (N:=some 6) (v:=?_) (a':=?_) #[bT,bT,bT,bT,bT,bT] rfl rfl (by kernel_rfl) (fun _ _ _ h => h) (Or.inl ⟨by rfl,?_⟩) ?_ ?_
      rotate_left
      ·intro w';go_simp;with_reducible rfl
      rotate_left
      ·simp only [Act.put,q_ia,q_cz,q_cs,i64_w,i32_w];rfl
      refine done_ (by kernel_rfl) ?_
      have hcz81_0 : w80.cell? ⟨gb192,0,none⟩ = some (.slice A0_0 l0_0.length c0_0):=(bC BK192.out 0).trans rfl
      have hcz81_1 : w80.cell? ⟨gb192,1,none⟩ = some (.slice A0_1 l0_1.length c0_1):=(bC BK192.out 1).trans rfl
      have hfz81_0:=bF BK192.out 0
      have hfz81_1:=bF BK192.out 1
      try go_wp2_with (first|((with_reducible refine gate_callee (f:=53) rfl ?_);refine goesL_ (some 26) rfl rfl Try.func53 (by kernel_rfl) rfl #[.agg #[.slice A0_0 l0_0.length c0_0,.slice A0_1 l0_1.length c0_1]] rfl (by (try simp only [List.map_toArray,List.map_cons,List.map_nil]);first|done|rfl|(simp only [List.length_drop,List.length_take];rfl)) ?_;(with_reducible refine (laws_toProgram.calls k _ _ l0_0 _ _ l0_1 t209 t212 _ ?side1 ?side2 ?side3 ?side4 A22.out).mono ?_);(case side1 => repeat (first|exact (cB HR0_0.out HB.out)|(with_reducible first|refine cA ?_ _|refine cN ?_ _|refine cD ?_)));(case side2 => exact HC0_0.out);(case side3 => repeat (first|exact (cB HR0_1.out HB.out)|(with_reducible first|refine cA ?_ _|refine cN ?_ _|refine cD ?_)));(case side4 => exact HC0_1.out);rintro e w82 ⟨v210,v213,rfl,ho0,ho1,hb⟩;refine ⟨_,rfl,?_⟩;have n0_:=aM (Kd.S_elder' (by (with_reducible repeat (first|apply Kd.S_alloc|apply Kd.S_drewN|apply Kd.S_drew));exact HO198.out) (Kd.S_base ho0) hb);have n1_:=aM (rE (by (with_reducible repeat (first|apply rA|apply rN|apply rD));exact HO201.out) (rS ho1) hb);have n2_:=aM (Kd.S_elder' (by (with_reducible repeat (first|apply Kd.S_alloc|apply Kd.S_drewN|apply Kd.S_drew));exact HO204.out) (Kd.S_base ho0) hb);have n3_:=aM (rE (by (with_reducible repeat (first|apply rA|apply rN|apply rD));exact HO207.out) (rS ho1) hb);have n4_:=aM (Kd.S_lower (Kd.S_new' (Kd.S_new' ho0 (Kd.S_lt (by (with_reducible repeat (first|apply Kd.S_alloc|apply Kd.S_drewN|apply Kd.S_drew));exact HO198.out))) (Kd.S_lt (by (with_reducible repeat (first|apply Kd.S_alloc|apply Kd.S_drewN|apply Kd.S_drew));exact HO204.out))) (lZ (by repeat (first|(with_reducible first|exact HB.out|apply lA|apply lN|apply lD|refine lS ?_ GE192.out|refine lS ?_ GE193.out)|exact HB.out))));have n5_:=aM (rL (rW (rW ho1 (rT (by (with_reducible repeat (first|apply rA|apply rN|apply rD));exact HO201.out))) (rT (by (with_reducible repeat (first|apply rA|apply rN|apply rD));exact HO207.out))) (lZ (by repeat (first|(with_reducible first|exact HB.out|apply lA|apply lN|apply lD|refine lS ?_ GE192.out|refine lS ?_ GE193.out)|exact HB.out))));have n6_:=aM (bB (g:=gb192) (o:=.cells #[.slice A0_0 l0_0.length c0_0,.slice A0_1 l0_1.length c0_1] 72 (0,0)) (by (with_reducible repeat (first|refine bN ?_ _|refine bD ?_|refine bA ?_ _));exact BK192.out) hb);have n7_:=aM (bB (g:=gb193) (o:=.cells #[.slice A1_0 l1_0.length c1_0,.slice A1_1 l1_1.length c1_1] 72 (0,0)) (by (with_reducible repeat (first|refine bN ?_ _|refine bD ?_|refine bA ?_ _));exact BK193.out) hb);have n8_:=aM (lP (by repeat (first|(with_reducible first|exact HB.out|apply lA|apply lN|apply lD|refine lS ?_ GE192.out|refine lS ?_ GE193.out)|exact HB.out)) hb);clear HO198 HO201 HO204 HO207 BK192 BK193 HB;have HO198:=n0_;have HO201:=n1_;have HO204:=n2_;have HO207:=n3_;have HO211:=n4_;have HO214:=n5_;have BK192:=n6_;have BK193:=n7_;have HB:=n8_;clear n0_ n1_ n2_ n3_ n4_ n5_ n6_ n7_ n8_;(try clear hb);(try clear hb2);(try clear hk);(try clear hi);(try clear ho0);(try clear ho1))|((with_reducible refine gate_dst (N:=7) rfl ?_);refine box_event ?hg (N:=7) ?hd (cs:=#[.slice none 0 0,.slice none 0 0]) (t:=78) ?hr ?_;(case hd => rfl);(case hg => rfl);(case hr => first|(go_simp;done)|(go_simp;rfl));intro gb215 hg w83 hbox hb;have n0_:=aM (Kd.S_below (by (with_reducible repeat (first|apply Kd.S_alloc|apply Kd.S_drewN|apply Kd.S_drew));exact HO198.out) hb);have n1_:=aM (rB (by (with_reducible repeat (first|apply rA|apply rN|apply rD));exact HO201.out) hb);have n2_:=aM (Kd.S_below (by (with_reducible repeat (first|apply Kd.S_alloc|apply Kd.S_drewN|apply Kd.S_drew));exact HO204.out) hb);have n3_:=aM (rB (by (with_reducible repeat (first|apply rA|apply rN|apply rD));exact HO207.out) hb);have n4_:=aM (Kd.S_below (by (with_reducible repeat (first|apply Kd.S_alloc|apply Kd.S_drewN|apply Kd.S_drew));exact HO211.out) hb);have n5_:=aM (rB (by (with_reducible repeat (first|apply rA|apply rN|apply rD));exact HO214.out) hb);have n6_:=aM (bB (g:=gb192) (o:=.cells #[.slice A0_0 l0_0.length c0_0,.slice A0_1 l0_1.length c0_1] 72 (0,0)) (by (with_reducible repeat (first|refine bN ?_ _|refine bD ?_|refine bA ?_ _));exact BK192.out) hb);have n7_:=aM (bB (g:=gb193) (o:=.cells #[.slice A1_0 l1_0.length c1_0,.slice A1_1 l1_1.length c1_1] 72 (0,0)) (by (with_reducible repeat (first|refine bN ?_ _|refine bD ?_|refine bA ?_ _));exact BK193.out) hb);have n8_:=aM (lP (by repeat (first|(with_reducible first|exact HB.out|apply lA|apply lN|apply lD|refine lS ?_ GE192.out|refine lS ?_ GE193.out)|exact HB.out)) hb);have n9_:=aM (hbox);have n10_:=aM ((by rw [hg];exact (lZ (by repeat (first|(with_reducible first|exact HB.out|apply lA|apply lN|apply lD|refine lS ?_ GE192.out|refine lS ?_ GE193.out)|exact HB.out))) : w.heap.size ≤ gb215));have n11_:=aM ((by rw [hg];exact (lZ (by repeat (first|(with_reducible first|exact HB.out|apply lA|apply lN|apply lD|refine lS ?_ GE192.out|refine lS ?_ GE193.out)|exact HB.out))) : w.heap.size ≤ gb215));have n12_:=aM ((by rw [hg];exact Nat.ne_of_lt (bL (g:=gb192) (o:=.cells #[.slice A0_0 l0_0.length c0_0,.slice A0_1 l0_1.length c0_1] 72 (0,0)) (by (with_reducible repeat (first|refine bN ?_ _|refine bD ?_|refine bA ?_ _));exact BK192.out)) : gb192 ≠ gb215));have n13_:=aM ((by rw [hg];exact Nat.ne_of_gt (bL (g:=gb192) (o:=.cells #[.slice A0_0 l0_0.length c0_0,.slice A0_1 l0_1.length c0_1] 72 (0,0)) (by (with_reducible repeat (first|refine bN ?_ _|refine bD ?_|refine bA ?_ _));exact BK192.out)) : gb215 ≠ gb192));have n14_:=aM ((by rw [hg];exact Nat.ne_of_lt (bL (g:=gb193) (o:=.cells #[.slice A1_0 l1_0.length c1_0,.slice A1_1 l1_1.length c1_1] 72 (0,0)) (by (with_reducible repeat (first|refine bN ?_ _|refine bD ?_|refine bA ?_ _));exact BK193.out)) : gb193 ≠ gb215));have n15_:=aM ((by rw [hg];exact Nat.ne_of_gt (bL (g:=gb193) (o:=.cells #[.slice A1_0 l1_0.length c1_0,.slice A1_1 l1_1.length c1_1] 72 (0,0)) (by (with_reducible repeat (first|refine bN ?_ _|refine bD ?_|refine bA ?_ _));exact BK193.out)) : gb215 ≠ gb193));clear HO198 HO201 HO204 HO207 HO211 HO214 BK192 BK193 HB;have HO198:=n0_;have HO201:=n1_;have HO204:=n2_;have HO207:=n3_;have HO211:=n4_;have HO214:=n5_;have BK192:=n6_;have BK193:=n7_;have HB:=n8_;have BK215:=n9_;have GW215:=n10_;have GE215:=n11_;have NB192_215:=n12_;have NB215_192:=n13_;have NB193_215:=n14_;have NB215_193:=n15_;clear n0_ n1_ n2_ n3_ n4_ n5_ n6_ n7_ n8_ n9_ n10_ n11_ n12_ n13_ n14_ n15_ hb hbox hg;obtain ⟨Ao84,co84,eo84⟩:=Kd.S_slice HO211.out;subst eo84;have hnb85:=NB215_192.out;have hnc85:=NB192_215.out;have hnb86:=NB215_193.out;have hnc86:=NB193_215.out;have hcz87_0 : w83.cell? ⟨gb215,0,none⟩ = some (.slice none 0 0):=(bC BK215.out 0).trans rfl;have hcz87_1 : w83.cell? ⟨gb215,1,none⟩ = some (.slice none 0 0):=(bC BK215.out 1).trans rfl;have hfz87_0:=bF BK215.out 0;have hfz87_1:=bF BK215.out 1;obtain ⟨Ao88,co88,eo88⟩:=Kd.R_slice HO214.out;subst eo88;have hcz89_0 : w83.cell? ⟨gb193,0,none⟩ = some (.slice A1_0 l1_0.length c1_0):=(bC BK193.out 0).trans rfl;have hcz89_1 : w83.cell? ⟨gb193,1,none⟩ = some (.slice A1_1 l1_1.length c1_1):=(bC BK193.out 1).trans rfl;have hfz89_0:=bF BK193.out 0;have hfz89_1:=bF BK193.out 1)|((with_reducible refine gate_callee (f:=53) rfl ?_);refine goesL_ (some 28) rfl rfl Try.func53 (by kernel_rfl) rfl #[.agg #[.slice A1_0 l1_0.length c1_0,.slice A1_1 l1_1.length c1_1]] rfl (by (try simp only [List.map_toArray,List.map_cons,List.map_nil]);first|done|rfl|(simp only [List.length_drop,List.length_take];rfl)) ?_;(with_reducible refine (laws_toProgram.calls k _ _ l1_0 _ _ l1_1 t216 t219 _ ?side1 ?side2 ?side3 ?side4 A23.out).mono ?_);(case side1 => exact cB HR1_0.out (by repeat (first|(with_reducible first|exact HB.out|apply lA|apply lN|apply lD|refine lS ?_ GE192.out|refine lS ?_ GE193.out|refine lS ?_ GE215.out)|exact HB.out)));(case side2 => exact HC1_0.out);(case side3 => exact cB HR1_1.out (by repeat (first|(with_reducible first|exact HB.out|apply lA|apply lN|apply lD|refine lS ?_ GE192.out|refine lS ?_ GE193.out|refine lS ?_ GE215.out)|exact HB.out)));(case side4 => exact HC1_1.out);rintro e w90 ⟨v217,v220,rfl,ho0,ho1,hb⟩;refine ⟨_,rfl,?_⟩;have n0_:=aM (Kd.S_elder' (by (with_reducible repeat (first|apply Kd.S_alloc|apply Kd.S_drewN|apply Kd.S_drew));exact (Kd.S_mono (Kd.S_far (p:=⟨gb215,1,none⟩) (Kd.S_far (p:=⟨gb215,0,none⟩) (Kd.S_types HO198.out BK215.out (by decide)) (fun _ hk => hk.2) (.slice Ao84 t209.length co84)) (fun _ hk => hk.2) (.slice Ao88 t212.length co88)) (fun _ h_ => h_.1))) (Kd.S_base ho0) hb);have n1_:=aM (rE (by (with_reducible repeat (first|apply rA|apply rN|apply rD));exact (Kd.R_mono (rF (p:=⟨gb215,1,none⟩) (rF (p:=⟨gb215,0,none⟩) (rY HO201.out BK215.out (by decide)) (fun _ hk => hk.2) (.slice Ao84 t209.length co84)) (fun _ hk => hk.2) (.slice Ao88 t212.length co88)) (fun _ h_ => h_.1))) (rS ho1) hb);have n2_:=aM (Kd.S_elder' (by (with_reducible repeat (first|apply Kd.S_alloc|apply Kd.S_drewN|apply Kd.S_drew));exact (Kd.S_mono (Kd.S_far (p:=⟨gb215,1,none⟩) (Kd.S_far (p:=⟨gb215,0,none⟩) (Kd.S_types HO204.out BK215.out (by decide)) (fun _ hk => hk.2) (.slice Ao84 t209.length co84)) (fun _ hk => hk.2) (.slice Ao88 t212.length co88)) (fun _ h_ => h_.1))) (Kd.S_base ho0) hb);have n3_:=aM (rE (by (with_reducible repeat (first|apply rA|apply rN|apply rD));exact (Kd.R_mono (rF (p:=⟨gb215,1,none⟩) (rF (p:=⟨gb215,0,none⟩) (rY HO207.out BK215.out (by decide)) (fun _ hk => hk.2) (.slice Ao84 t209.length co84)) (fun _ hk => hk.2) (.slice Ao88 t212.length co88)) (fun _ h_ => h_.1))) (rS ho1) hb);have n4_:=aM (Kd.S_elder' (by (with_reducible repeat (first|apply Kd.S_alloc|apply Kd.S_drewN|apply Kd.S_drew));exact (Kd.S_mono (Kd.S_far (p:=⟨gb215,1,none⟩) (Kd.S_far (p:=⟨gb215,0,none⟩) (Kd.S_types HO211.out BK215.out (by decide)) (fun _ hk => hk.2) (.slice Ao84 t209.length co84)) (fun _ hk => hk.2) (.slice Ao88 t212.length co88)) (fun _ h_ => h_.1))) (Kd.S_base ho0) hb);have n5_:=aM (rE (by (with_reducible repeat (first|apply rA|apply rN|apply rD));exact (Kd.R_mono (rF (p:=⟨gb215,1,none⟩) (rF (p:=⟨gb215,0,none⟩) (rY HO214.out BK215.out (by decide)) (fun _ hk => hk.2) (.slice Ao84 t209.length co84)) (fun _ hk => hk.2) (.slice Ao88 t212.length co88)) (fun _ h_ => h_.1))) (rS ho1) hb);have n6_:=aM (Kd.S_lower (Kd.S_new' (Kd.S_new' (Kd.S_new' ho0 (Kd.S_lt (by (with_reducible repeat (first|apply Kd.S_alloc|apply Kd.S_drewN|apply Kd.S_drew));exact (Kd.S_mono (Kd.S_far (p:=⟨gb215,1,none⟩) (Kd.S_far (p:=⟨gb215,0,none⟩) (Kd.S_types HO198.out BK215.out (by decide)) (fun _ hk => hk.2) (.slice Ao84 t209.length co84)) (fun _ hk => hk.2) (.slice Ao88 t212.length co88)) (fun _ h_ => h_.1))))) (Kd.S_lt (by (with_reducible repeat (first|apply Kd.S_alloc|apply Kd.S_drewN|apply Kd.S_drew));exact (Kd.S_mono (Kd.S_far (p:=⟨gb215,1,none⟩) (Kd.S_far (p:=⟨gb215,0,none⟩) (Kd.S_types HO204.out BK215.out (by decide)) (fun _ hk => hk.2) (.slice Ao84 t209.length co84)) (fun _ hk => hk.2) (.slice Ao88 t212.length co88)) (fun _ h_ => h_.1))))) (Kd.S_lt (by (with_reducible repeat (first|apply Kd.S_alloc|apply Kd.S_drewN|apply Kd.S_drew));exact (Kd.S_mono (Kd.S_far (p:=⟨gb215,1,none⟩) (Kd.S_far (p:=⟨gb215,0,none⟩) (Kd.S_types HO211.out BK215.out (by decide)) (fun _ hk => hk.2) (.slice Ao84 t209.length co84)) (fun _ hk => hk.2) (.slice Ao88 t212.length co88)) (fun _ h_ => h_.1))))) (lZ (by repeat (first|(with_reducible first|exact HB.out|apply lA|apply lN|apply lD|refine lS ?_ GE192.out|refine lS ?_ GE193.out|refine lS ?_ GE215.out)|exact HB.out))));have n7_:=aM (rL (rW (rW (rW ho1 (rT (by (with_reducible repeat (first|apply rA|apply rN|apply rD));exact (Kd.R_mono (rF (p:=⟨gb215,1,none⟩) (rF (p:=⟨gb215,0,none⟩) (rY HO201.out BK215.out (by decide)) (fun _ hk => hk.2) (.slice Ao84 t209.length co84)) (fun _ hk => hk.2) (.slice Ao88 t212.length co88)) (fun _ h_ => h_.1))))) (rT (by (with_reducible repeat (first|apply rA|apply rN|apply rD));exact (Kd.R_mono (rF (p:=⟨gb215,1,none⟩) (rF (p:=⟨gb215,0,none⟩) (rY HO207.out BK215.out (by decide)) (fun _ hk => hk.2) (.slice Ao84 t209.length co84)) (fun _ hk => hk.2) (.slice Ao88 t212.length co88)) (fun _ h_ => h_.1))))) (rT (by (with_reducible repeat (first|apply rA|apply rN|apply rD));exact (Kd.R_mono (rF (p:=⟨gb215,1,none⟩) (rF (p:=⟨gb215,0,none⟩) (rY HO214.out BK215.out (by decide)) (fun _ hk => hk.2) (.slice Ao84 t209.length co84)) (fun _ hk => hk.2) (.slice Ao88 t212.length co88)) (fun _ h_ => h_.1))))) (lZ (by repeat (first|(with_reducible first|exact HB.out|apply lA|apply lN|apply lD|refine lS ?_ GE192.out|refine lS ?_ GE193.out|refine lS ?_ GE215.out)|exact HB.out))));have n8_:=aM (bB (g:=gb192) (o:=.cells #[.slice A0_0 l0_0.length c0_0,.slice A0_1 l0_1.length c0_1] 72 (0,0)) (by (with_reducible repeat (first|refine bN ?_ _|refine bD ?_|refine bA ?_ _));refine blk_far ?_ NB192_215.out _;(with_reducible repeat (first|refine bN ?_ _|refine bD ?_|refine bA ?_ _));refine blk_far ?_ NB192_215.out _;(with_reducible repeat (first|refine bN ?_ _|refine bD ?_|refine bA ?_ _));exact BK192.out) hb);have n9_:=aM (bB (g:=gb193) (o:=.cells #[.slice A1_0 l1_0.length c1_0,.slice A1_1 l1_1.length c1_1] 72 (0,0)) (by (with_reducible repeat (first|refine bN ?_ _|refine bD ?_|refine bA ?_ _));refine blk_far ?_ NB193_215.out _;(with_reducible repeat (first|refine bN ?_ _|refine bD ?_|refine bA ?_ _));refine blk_far ?_ NB193_215.out _;(with_reducible repeat (first|refine bN ?_ _|refine bD ?_|refine bA ?_ _));exact BK193.out) hb);have n10_:=aM (bB (g:=gb215) (o:=.cells #[.slice Ao84 t209.length co84,.slice Ao88 t212.length co88] 78 (0,0)) (by (with_reducible repeat (first|refine bN ?_ _|refine bD ?_|refine bA ?_ _));refine blk_put (cs:=#[.slice Ao84 t209.length co84,.slice none 0 0]) ?_ 1 _ rfl;(with_reducible repeat (first|refine bN ?_ _|refine bD ?_|refine bA ?_ _));refine blk_put (cs:=#[.slice none 0 0,.slice none 0 0]) ?_ 0 _ rfl;(with_reducible repeat (first|refine bN ?_ _|refine bD ?_|refine bA ?_ _));exact BK215.out) hb);have n11_:=aM (lP (by repeat (first|(with_reducible first|exact HB.out|apply lA|apply lN|apply lD|refine lS ?_ GE192.out|refine lS ?_ GE193.out|refine lS ?_ GE215.out)|exact HB.out)) hb);clear HO198 HO201 HO204 HO207 HO211 HO214 BK192 BK193 BK215 HB;have HO198:=n0_;have HO201:=n1_;have HO204:=n2_;have HO207:=n3_;have HO211:=n4_;have HO214:=n5_;have HO218:=n6_;have HO221:=n7_;have BK192:=n8_;have BK193:=n9_;have BK215:=n10_;have HB:=n11_;clear n0_ n1_ n2_ n3_ n4_ n5_ n6_ n7_ n8_ n9_ n10_ n11_;(try clear hb);(try clear hb2);(try clear hk);(try clear hi);(try clear ho0);(try clear ho1))|((with_reducible refine gate_dst (N:=8) rfl ?_);refine box_event ?hg (N:=8) ?hd (cs:=#[.slice none 0 0,.slice none 0 0]) (t:=78) ?hr ?_;(case hd => rfl);(case hg => rfl);(case hr => first|(go_simp;done)|(go_simp;rfl));intro gb222 hg w91 hbox hb;have n0_:=aM (Kd.S_below (by (with_reducible repeat (first|apply Kd.S_alloc|apply Kd.S_drewN|apply Kd.S_drew));exact HO198.out) hb);have n1_:=aM (rB (by (with_reducible repeat (first|apply rA|apply rN|apply rD));exact HO201.out) hb);have n2_:=aM (Kd.S_below (by (with_reducible repeat (first|apply Kd.S_alloc|apply Kd.S_drewN|apply Kd.S_drew));exact HO204.out) hb);have n3_:=aM (rB (by (with_reducible repeat (first|apply rA|apply rN|apply rD));exact HO207.out) hb);have n4_:=aM (Kd.S_below (by (with_reducible repeat (first|apply Kd.S_alloc|apply Kd.S_drewN|apply Kd.S_drew));exact HO211.out) hb);have n5_:=aM (rB (by (with_reducible repeat (first|apply rA|apply rN|apply rD));exact HO214.out) hb);have n6_:=aM (Kd.S_below (by (with_reducible repeat (first|apply Kd.S_alloc|apply Kd.S_drewN|apply Kd.S_drew));exact HO218.out) hb);have n7_:=aM (rB (by (with_reducible repeat (first|apply rA|apply rN|apply rD));exact HO221.out) hb);have n8_:=aM (bB (g:=gb192) (o:=.cells #[.slice A0_0 l0_0.length c0_0,.slice A0_1 l0_1.length c0_1] 72 (0,0)) (by (with_reducible repeat (first|refine bN ?_ _|refine bD ?_|refine bA ?_ _));exact BK192.out) hb);have n9_:=aM (bB (g:=gb193) (o:=.cells #[.slice A1_0 l1_0.length c1_0,.slice A1_1 l1_1.length c1_1] 72 (0,0)) (by (with_reducible repeat (first|refine bN ?_ _|refine bD ?_|refine bA ?_ _));exact BK193.out) hb);have n10_:=aM (bB (g:=gb215) (o:=.cells #[.slice Ao84 t209.length co84,.slice Ao88 t212.length co88] 78 (0,0)) (by (with_reducible repeat (first|refine bN ?_ _|refine bD ?_|refine bA ?_ _));exact BK215.out) hb);have n11_:=aM (lP (by repeat (first|(with_reducible first|exact HB.out|apply lA|apply lN|apply lD|refine lS ?_ GE192.out|refine lS ?_ GE193.out|refine lS ?_ GE215.out)|exact HB.out)) hb);have n12_:=aM (hbox);have n13_:=aM ((by rw [hg];exact (lZ (by repeat (first|(with_reducible first|exact HB.out|apply lA|apply lN|apply lD|refine lS ?_ GE192.out|refine lS ?_ GE193.out|refine lS ?_ GE215.out)|exact HB.out))) : w.heap.size ≤ gb222));have n14_:=aM ((by rw [hg];exact (lZ (by repeat (first|(with_reducible first|exact HB.out|apply lA|apply lN|apply lD|refine lS ?_ GE192.out|refine lS ?_ GE193.out|refine lS ?_ GE215.out)|exact HB.out))) : w.heap.size ≤ gb222));have n15_:=aM ((by rw [hg];exact Nat.ne_of_lt (bL (g:=gb192) (o:=.cells #[.slice A0_0 l0_0.length c0_0,.slice A0_1 l0_1.length c0_1] 72 (0,0)) (by (with_reducible repeat (first|refine bN ?_ _|refine bD ?_|refine bA ?_ _));exact BK192.out)) : gb192 ≠ gb222));have n16_:=aM ((by rw [hg];exact Nat.ne_of_gt (bL (g:=gb192) (o:=.cells #[.slice A0_0 l0_0.length c0_0,.slice A0_1 l0_1.length c0_1] 72 (0,0)) (by (with_reducible repeat (first|refine bN ?_ _|refine bD ?_|refine bA ?_ _));exact BK192.out)) : gb222 ≠ gb192));have n17_:=aM ((by rw [hg];exact Nat.ne_of_lt (bL (g:=gb193) (o:=.cells #[.slice A1_0 l1_0.length c1_0,.slice A1_1 l1_1.length c1_1] 72 (0,0)) (by (with_reducible repeat (first|refine bN ?_ _|refine bD ?_|refine bA ?_ _));exact BK193.out)) : gb193 ≠ gb222));have n18_:=aM ((by rw [hg];exact Nat.ne_of_gt (bL (g:=gb193) (o:=.cells #[.slice A1_0 l1_0.length c1_0,.slice A1_1 l1_1.length c1_1] 72 (0,0)) (by (with_reducible repeat (first|refine bN ?_ _|refine bD ?_|refine bA ?_ _));exact BK193.out)) : gb222 ≠ gb193));have n19_:=aM ((by rw [hg];exact Nat.ne_of_lt (bL (g:=gb215) (o:=.cells #[.slice Ao84 t209.length co84,.slice Ao88 t212.length co88] 78 (0,0)) (by (with_reducible repeat (first|refine bN ?_ _|refine bD ?_|refine bA ?_ _));exact BK215.out)) : gb215 ≠ gb222));have n20_:=aM ((by rw [hg];exact Nat.ne_of_gt (bL (g:=gb215) (o:=.cells #[.slice Ao84 t209.length co84,.slice Ao88 t212.length co88] 78 (0,0)) (by (with_reducible repeat (first|refine bN ?_ _|refine bD ?_|refine bA ?_ _));exact BK215.out)) : gb222 ≠ gb215));clear HO198 HO201 HO204 HO207 HO211 HO214 HO218 HO221 BK192 BK193 BK215 HB;have HO198:=n0_;have HO201:=n1_;have HO204:=n2_;have HO207:=n3_;have HO211:=n4_;have HO214:=n5_;have HO218:=n6_;have HO221:=n7_;have BK192:=n8_;have BK193:=n9_;have BK215:=n10_;have HB:=n11_;have BK222:=n12_;have GW222:=n13_;have GE222:=n14_;have NB192_222:=n15_;have NB222_192:=n16_;have NB193_222:=n17_;have NB222_193:=n18_;have NB215_222:=n19_;have NB222_215:=n20_;clear n0_ n1_ n2_ n3_ n4_ n5_ n6_ n7_ n8_ n9_ n10_ n11_ n12_ n13_ n14_ n15_ n16_ n17_ n18_ n19_ n20_ hb hbox hg;obtain ⟨Ao92,co92,eo92⟩:=Kd.S_slice HO218.out;subst eo92;have hnb93:=NB222_192.out;have hnc93:=NB192_222.out;have hnb94:=NB222_193.out;have hnc94:=NB193_222.out;have hnb95:=NB222_215.out;have hnc95:=NB215_222.out;have hcz96_0 : w91.cell? ⟨gb222,0,none⟩ = some (.slice none 0 0):=(bC BK222.out 0).trans rfl;have hcz96_1 : w91.cell? ⟨gb222,1,none⟩ = some (.slice none 0 0):=(bC BK222.out 1).trans rfl;have hfz96_0:=bF BK222.out 0;have hfz96_1:=bF BK222.out 1;obtain ⟨Ao97,co97,eo97⟩:=Kd.R_slice HO221.out;subst eo97;have hcz98_0 : w91.cell? ⟨gb215,0,none⟩ = some (.slice Ao84 t209.length co84):=(bC BK215.out 0).trans rfl;have hcz98_1 : w91.cell? ⟨gb215,1,none⟩ = some (.slice Ao88 t212.length co88):=(bC BK215.out 1).trans rfl;have hfz98_0:=bF BK215.out 0;have hfz98_1:=bF BK215.out 1)|((with_reducible refine gate_callee (f:=54) rfl ?_);refine goesL_ (some 31) rfl rfl Try.func54 (by kernel_rfl) rfl #[.agg #[.slice Ao84 t209.length co84,.slice Ao88 t212.length co88],.agg #[.slice Ao92 t216.length co92,.slice Ao97 t219.length co97]] rfl (by (try simp only [List.map_toArray,List.map_cons,List.map_nil]);first|done|rfl|(simp only [List.length_drop,List.length_take];rfl)) ?_;(with_reducible refine (impl_SameProgram.calls k _ _ t209 _ _ t212 _ _ t216 _ _ t219 t223 _ ?side1 ?side2 ?side3 ?side4 ?side5 ?side6 ?side7 ?side8 A24.out).mono ?_);(case side1 => refine (Kd.S_reads' (e:=119) (base:=w.heap.size) (ok:=fun k_ => (((True ∧ some k_ ≠ (.slice Ao76 t196.length co76 : Value).ownBlock) ∧ some k_ ≠ (.slice Ao78 t202.length co78 : Value).ownBlock) ∧ some k_ ≠ (.slice Ao92 t216.length co92 : Value).ownBlock)) (n:=t209.length) (c:=co84) ?_).2.2;exact (by (with_reducible repeat (first|apply Kd.S_alloc|apply Kd.S_drewN|apply Kd.S_drew));exact (Kd.S_mono (Kd.S_far (p:=⟨gb222,1,none⟩) (Kd.S_far (p:=⟨gb222,0,none⟩) (Kd.S_types HO211.out BK222.out (by decide)) (fun _ hk => hk.2) (.slice Ao92 t216.length co92)) (fun _ hk => hk.2) (.slice Ao97 t219.length co97)) (fun _ h_ => h_.1))));(case side2 => exact (Kd.S_reads' HO211.out).2.1);(case side3 => refine (rR (e:=121) (base:=w.heap.size) (ok:=fun k_ => (((True ∧ some k_ ≠ (.slice Ao77 t199.length co77 : Value).ownBlock) ∧ some k_ ≠ (.slice Ao79 t205.length co79 : Value).ownBlock) ∧ some k_ ≠ (.slice Ao97 t219.length co97 : Value).ownBlock)) (n:=t212.length) (c:=co88) ?_).2.2;exact (by (with_reducible repeat (first|apply rA|apply rN|apply rD));exact (Kd.R_mono (rF (p:=⟨gb222,1,none⟩) (rF (p:=⟨gb222,0,none⟩) (rY HO214.out BK222.out (by decide)) (fun _ hk => hk.2) (.slice Ao92 t216.length co92)) (fun _ hk => hk.2) (.slice Ao97 t219.length co97)) (fun _ h_ => h_.1))));(case side4 => exact (rR HO214.out).2.1);(case side5 => refine (Kd.S_reads' (e:=119) (base:=w.heap.size) (ok:=fun k_ => (((True ∧ some k_ ≠ (.slice Ao76 t196.length co76 : Value).ownBlock) ∧ some k_ ≠ (.slice Ao78 t202.length co78 : Value).ownBlock) ∧ some k_ ≠ (.slice Ao84 t209.length co84 : Value).ownBlock)) (n:=t216.length) (c:=co92) ?_).2.2;exact (by (with_reducible repeat (first|apply Kd.S_alloc|apply Kd.S_drewN|apply Kd.S_drew));exact (Kd.S_mono (Kd.S_far (p:=⟨gb222,1,none⟩) (Kd.S_far (p:=⟨gb222,0,none⟩) (Kd.S_types HO218.out BK222.out (by decide)) (fun _ hk => hk.2) (.slice Ao92 t216.length co92)) (fun _ hk => hk.2) (.slice Ao97 t219.length co97)) (fun _ h_ => h_.1))));(case side6 => exact (Kd.S_reads' HO218.out).2.1);(case side7 => refine (rR (e:=121) (base:=w.heap.size) (ok:=fun k_ => (((True ∧ some k_ ≠ (.slice Ao77 t199.length co77 : Value).ownBlock) ∧ some k_ ≠ (.slice Ao79 t205.length co79 : Value).ownBlock) ∧ some k_ ≠ (.slice Ao88 t212.length co88 : Value).ownBlock)) (n:=t219.length) (c:=co97) ?_).2.2;exact (by (with_reducible repeat (first|apply rA|apply rN|apply rD));exact (Kd.R_mono (rF (p:=⟨gb222,1,none⟩) (rF (p:=⟨gb222,0,none⟩) (rY HO221.out BK222.out (by decide)) (fun _ hk => hk.2) (.slice Ao92 t216.length co92)) (fun _ hk => hk.2) (.slice Ao97 t219.length co97)) (fun _ h_ => h_.1))));(case side8 => exact (rR HO221.out).2.1);rintro e w99 ⟨rfl,hb⟩;refine ⟨_,rfl,?_⟩;have n0_:=aM (Kd.S_below (by (with_reducible repeat (first|apply Kd.S_alloc|apply Kd.S_drewN|apply Kd.S_drew));exact (Kd.S_mono (Kd.S_far (p:=⟨gb222,1,none⟩) (Kd.S_far (p:=⟨gb222,0,none⟩) (Kd.S_types HO198.out BK222.out (by decide)) (fun _ hk => hk.2) (.slice Ao92 t216.length co92)) (fun _ hk => hk.2) (.slice Ao97 t219.length co97)) (fun _ h_ => h_.1))) hb);have n1_:=aM (rB (by (with_reducible repeat (first|apply rA|apply rN|apply rD));exact (Kd.R_mono (rF (p:=⟨gb222,1,none⟩) (rF (p:=⟨gb222,0,none⟩) (rY HO201.out BK222.out (by decide)) (fun _ hk => hk.2) (.slice Ao92 t216.length co92)) (fun _ hk => hk.2) (.slice Ao97 t219.length co97)) (fun _ h_ => h_.1))) hb);have n2_:=aM (Kd.S_below (by (with_reducible repeat (first|apply Kd.S_alloc|apply Kd.S_drewN|apply Kd.S_drew));exact (Kd.S_mono (Kd.S_far (p:=⟨gb222,1,none⟩) (Kd.S_far (p:=⟨gb222,0,none⟩) (Kd.S_types HO204.out BK222.out (by decide)) (fun _ hk => hk.2) (.slice Ao92 t216.length co92)) (fun _ hk => hk.2) (.slice Ao97 t219.length co97)) (fun _ h_ => h_.1))) hb);have n3_:=aM (rB (by (with_reducible repeat (first|apply rA|apply rN|apply rD));exact (Kd.R_mono (rF (p:=⟨gb222,1,none⟩) (rF (p:=⟨gb222,0,none⟩) (rY HO207.out BK222.out (by decide)) (fun _ hk => hk.2) (.slice Ao92 t216.length co92)) (fun _ hk => hk.2) (.slice Ao97 t219.length co97)) (fun _ h_ => h_.1))) hb);have n4_:=aM (Kd.S_below (by (with_reducible repeat (first|apply Kd.S_alloc|apply Kd.S_drewN|apply Kd.S_drew));exact (Kd.S_mono (Kd.S_far (p:=⟨gb222,1,none⟩) (Kd.S_far (p:=⟨gb222,0,none⟩) (Kd.S_types HO211.out BK222.out (by decide)) (fun _ hk => hk.2) (.slice Ao92 t216.length co92)) (fun _ hk => hk.2) (.slice Ao97 t219.length co97)) (fun _ h_ => h_.1))) hb);have n5_:=aM (rB (by (with_reducible repeat (first|apply rA|apply rN|apply rD));exact (Kd.R_mono (rF (p:=⟨gb222,1,none⟩) (rF (p:=⟨gb222,0,none⟩) (rY HO214.out BK222.out (by decide)) (fun _ hk => hk.2) (.slice Ao92 t216.length co92)) (fun _ hk => hk.2) (.slice Ao97 t219.length co97)) (fun _ h_ => h_.1))) hb);have n6_:=aM (Kd.S_below (by (with_reducible repeat (first|apply Kd.S_alloc|apply Kd.S_drewN|apply Kd.S_drew));exact (Kd.S_mono (Kd.S_far (p:=⟨gb222,1,none⟩) (Kd.S_far (p:=⟨gb222,0,none⟩) (Kd.S_types HO218.out BK222.out (by decide)) (fun _ hk => hk.2) (.slice Ao92 t216.length co92)) (fun _ hk => hk.2) (.slice Ao97 t219.length co97)) (fun _ h_ => h_.1))) hb);have n7_:=aM (rB (by (with_reducible repeat (first|apply rA|apply rN|apply rD));exact (Kd.R_mono (rF (p:=⟨gb222,1,none⟩) (rF (p:=⟨gb222,0,none⟩) (rY HO221.out BK222.out (by decide)) (fun _ hk => hk.2) (.slice Ao92 t216.length co92)) (fun _ hk => hk.2) (.slice Ao97 t219.length co97)) (fun _ h_ => h_.1))) hb);have n8_:=aM (bB (g:=gb192) (o:=.cells #[.slice A0_0 l0_0.length c0_0,.slice A0_1 l0_1.length c0_1] 72 (0,0)) (by (with_reducible repeat (first|refine bN ?_ _|refine bD ?_|refine bA ?_ _));refine blk_far ?_ NB192_222.out _;(with_reducible repeat (first|refine bN ?_ _|refine bD ?_|refine bA ?_ _));refine blk_far ?_ NB192_222.out _;(with_reducible repeat (first|refine bN ?_ _|refine bD ?_|refine bA ?_ _));exact BK192.out) hb);have n9_:=aM (bB (g:=gb193) (o:=.cells #[.slice A1_0 l1_0.length c1_0,.slice A1_1 l1_1.length c1_1] 72 (0,0)) (by (with_reducible repeat (first|refine bN ?_ _|refine bD ?_|refine bA ?_ _));refine blk_far ?_ NB193_222.out _;(with_reducible repeat (first|refine bN ?_ _|refine bD ?_|refine bA ?_ _));refine blk_far ?_ NB193_222.out _;(with_reducible repeat (first|refine bN ?_ _|refine bD ?_|refine bA ?_ _));exact BK193.out) hb);have n10_:=aM (bB (g:=gb215) (o:=.cells #[.slice Ao84 t209.length co84,.slice Ao88 t212.length co88] 78 (0,0)) (by (with_reducible repeat (first|refine bN ?_ _|refine bD ?_|refine bA ?_ _));refine blk_far ?_ NB215_222.out _;(with_reducible repeat (first|refine bN ?_ _|refine bD ?_|refine bA ?_ _));refine blk_far ?_ NB215_222.out _;(with_reducible repeat (first|refine bN ?_ _|refine bD ?_|refine bA ?_ _));exact BK215.out) hb);have n11_:=aM (bB (g:=gb222) (o:=.cells #[.slice Ao92 t216.length co92,.slice Ao97 t219.length co97] 78 (0,0)) (by (with_reducible repeat (first|refine bN ?_ _|refine bD ?_|refine bA ?_ _));refine blk_put (cs:=#[.slice Ao92 t216.length co92,.slice none 0 0]) ?_ 1 _ rfl;(with_reducible repeat (first|refine bN ?_ _|refine bD ?_|refine bA ?_ _));refine blk_put (cs:=#[.slice none 0 0,.slice none 0 0]) ?_ 0 _ rfl;(with_reducible repeat (first|refine bN ?_ _|refine bD ?_|refine bA ?_ _));exact BK222.out) hb);have n12_:=aM (lP (by repeat (first|(with_reducible first|exact HB.out|apply lA|apply lN|apply lD|refine lS ?_ GE192.out|refine lS ?_ GE193.out|refine lS ?_ GE215.out|refine lS ?_ GE222.out)|exact HB.out)) hb);clear HO198 HO201 HO204 HO207 HO211 HO214 HO218 HO221 BK192 BK193 BK215 BK222 HB;have HO198:=n0_;have HO201:=n1_;have HO204:=n2_;have HO207:=n3_;have HO211:=n4_;have HO214:=n5_;have HO218:=n6_;have HO221:=n7_;have BK192:=n8_;have BK193:=n9_;have BK215:=n10_;have BK222:=n11_;have HB:=n12_;clear n0_ n1_ n2_ n3_ n4_ n5_ n6_ n7_ n8_ n9_ n10_ n11_ n12_;(try clear hb);(try clear hb2);(try clear hk);(try clear hi)))
      have n0_:=aM (Kd.S_drew HO198.out)
      have n1_:=aM (rD HO201.out)
      have n2_:=aM (Kd.S_drew HO204.out)
      have n3_:=aM (rD HO207.out)
      have n4_:=aM (Kd.S_drew HO211.out)
      have n5_:=aM (rD HO214.out)
      have n6_:=aM (Kd.S_drew HO218.out)
      have n7_:=aM (rD HO221.out)
      have n8_:=aM (bD BK192.out)
      have n9_:=aM (bD BK193.out)
      have n10_:=aM (bD BK215.out)
      have n11_:=aM (bD BK222.out)
      have n12_:=aM (lD HB.out)
      clear HO198
      clear HO201
      clear HO204
      clear HO207
      clear HO211
      clear HO214
      clear HO218
      clear HO221
      clear BK192
      clear BK193
      clear BK215
      clear BK222
      clear HB
      have HO198:=n0_
      have HO201:=n1_
      have HO204:=n2_
      have HO207:=n3_
      have HO211:=n4_
      have HO214:=n5_
      have HO218:=n6_
      have HO221:=n7_
      have BK192:=n8_
      have BK193:=n9_
      have BK215:=n10_
      have BK222:=n11_
      have HB:=n12_
      clear n0_ n1_ n2_ n3_ n4_ n5_ n6_ n7_ n8_ n9_ n10_ n11_ n12_
      refine start_ (n:=5) (S:=fun w' => w'.cell? ⟨gb215,0,none⟩ = some (.slice Ao84 t209.length co84) ∧ w'.cell? ⟨gb215,1,none⟩ = some (.slice Ao88 t212.length co88) ∧ w'.cell? ⟨gb192,0,none⟩ = some (.slice A0_0 l0_0.length c0_0) ∧ w'.cell? ⟨gb192,1,none⟩ = some (.slice A0_1 l0_1.length c0_1)) (ds:=[]) #[bf,bf,bf,bf,bf] (by kernel_rfl) rfl rfl ⟨(bC BK215.out 0).trans rfl,(bC BK215.out 1).trans rfl,(bC BK192.out 0).trans rfl,(bC BK192.out 1).trans rfl⟩ (fun hHeld => ?_)
      generalize w99.drew = w100 at HO198 HO201 HO204 HO207 HO211 HO214 HO218 HO221 BK192 BK193 BK215 BK222 HB hHeld ⊢
      refine take_ (i:=0) (N:=some 35) (v:=?_) (a':=?_) #[bT,bf,bf,bf,bf] rfl rfl (by kernel_rfl) (fun _ _ _ h => h) (Or.inl ⟨by rfl,?_⟩) hHeld ?_ ?_
      rotate_left
      ·rintro w' ⟨s0,s1,s2,s3⟩
       go_simp
       with_reducible rfl
      rotate_left
      ·simp only [Act.put,q_ia,q_cz,q_cs,i64_w,i32_w];rfl
      refine take_ (i:=1) (N:=some 36) (v:=?_) (a':=?_) #[bT,bT,bf,bf,bf] rfl rfl (by kernel_rfl) (fun _ _ _ h => h) (Or.inl ⟨by rfl,?_⟩) hHeld ?_ ?_
      rotate_left
      ·rintro w' ⟨s0,s1,s2,s3⟩
       go_simp
       with_reducible rfl
      rotate_left
      ·simp only [Act.put,q_ia,q_cz,q_cs,i64_w,i32_w];rfl
      refine one_ (i:=2) (N:=some 37) #[bT,bT,bT,bf,bf] rfl rfl (by kernel_rfl) (by decide) (fun K hK => ?_)
      refine goes_ Try.func53 (by kernel_rfl) rfl #[.agg #[.slice A0_0 l0_0.length c0_0,.slice A0_1 l0_1.length c0_1]] (by rfl) rfl rfl (by (try simp only [List.map_toArray,List.map_cons,List.map_nil]);first|done|rfl|(simp only [List.length_drop,List.length_take];rfl)) ?_
      with_reducible refine (laws_toProgram.calls k _ _ l0_0 _ _ l0_1 t224 t227 _ ?side1 ?side2 ?side3 ?side4 A60.out).mono ?_
      (case side1 => repeat (first|exact (cB HR0_0.out HB.out)|(with_reducible first|refine cA ?_ _|refine cN ?_ _|refine cD ?_)))
      (case side2 => exact HC0_0.out)
      (case side3 => repeat (first|exact (cB HR0_1.out HB.out)|(with_reducible first|refine cA ?_ _|refine cN ?_ _|refine cD ?_)))
      (case side4 => exact HC0_1.out)
      rintro e w101 ⟨v225,v228,rfl,ho0,ho1,hb⟩
      refine ⟨_,rfl,?_⟩
      have n0_:=aM (Kd.S_elder' (by (with_reducible repeat (first|apply Kd.S_alloc|apply Kd.S_drewN|apply Kd.S_drew));exact HO198.out) (Kd.S_base ho0) hb)
      have n1_:=aM (rE (by (with_reducible repeat (first|apply rA|apply rN|apply rD));exact HO201.out) (rS ho1) hb)
      have n2_:=aM (Kd.S_elder' (by (with_reducible repeat (first|apply Kd.S_alloc|apply Kd.S_drewN|apply Kd.S_drew));exact HO204.out) (Kd.S_base ho0) hb)
      have n3_:=aM (rE (by (with_reducible repeat (first|apply rA|apply rN|apply rD));exact HO207.out) (rS ho1) hb)
      have n4_:=aM (Kd.S_elder' (by (with_reducible repeat (first|apply Kd.S_alloc|apply Kd.S_drewN|apply Kd.S_drew));exact HO211.out) (Kd.S_base ho0) hb)
      have n5_:=aM (rE (by (with_reducible repeat (first|apply rA|apply rN|apply rD));exact HO214.out) (rS ho1) hb)
      have n6_:=aM (Kd.S_elder' (by (with_reducible repeat (first|apply Kd.S_alloc|apply Kd.S_drewN|apply Kd.S_drew));exact HO218.out) (Kd.S_base ho0) hb)
      have n7_:=aM (rE (by (with_reducible repeat (first|apply rA|apply rN|apply rD));exact HO221.out) (rS ho1) hb)
      have n8_:=aM (Kd.S_lower (Kd.S_new' (Kd.S_new' (Kd.S_new' (Kd.S_new' ho0 (Kd.S_lt (by (with_reducible repeat (first|apply Kd.S_alloc|apply Kd.S_drewN|apply Kd.S_drew));exact HO198.out))) (Kd.S_lt (by (with_reducible repeat (first|apply Kd.S_alloc|apply Kd.S_drewN|apply Kd.S_drew));exact HO204.out))) (Kd.S_lt (by (with_reducible repeat (first|apply Kd.S_alloc|apply Kd.S_drewN|apply Kd.S_drew));exact HO211.out))) (Kd.S_lt (by (with_reducible repeat (first|apply Kd.S_alloc|apply Kd.S_drewN|apply Kd.S_drew));exact HO218.out))) (lZ (by repeat (first|(with_reducible first|exact HB.out|apply lA|apply lN|apply lD|refine lS ?_ GE192.out|refine lS ?_ GE193.out|refine lS ?_ GE215.out|refine lS ?_ GE222.out)|exact HB.out))))
      have n9_:=aM (rL (rW (rW (rW (rW ho1 (rT (by (with_reducible repeat (first|apply rA|apply rN|apply rD));exact HO201.out))) (rT (by (with_reducible repeat (first|apply rA|apply rN|apply rD));exact HO207.out))) (rT (by (with_reducible repeat (first|apply rA|apply rN|apply rD));exact HO214.out))) (rT (by (with_reducible repeat (first|apply rA|apply rN|apply rD));exact HO221.out))) (lZ (by repeat (first|(with_reducible first|exact HB.out|apply lA|apply lN|apply lD|refine lS ?_ GE192.out|refine lS ?_ GE193.out|refine lS ?_ GE215.out|refine lS ?_ GE222.out)|exact HB.out))))
      have n10_:=aM (bB (g:=gb192) (o:=.cells #[.slice A0_0 l0_0.length c0_0,.slice A0_1 l0_1.length c0_1] 72 (0,0)) (by (with_reducible repeat (first|refine bN ?_ _|refine bD ?_|refine bA ?_ _));exact BK192.out) hb)
      have n11_:=aM (bB (g:=gb193) (o:=.cells #[.slice A1_0 l1_0.length c1_0,.slice A1_1 l1_1.length c1_1] 72 (0,0)) (by (with_reducible repeat (first|refine bN ?_ _|refine bD ?_|refine bA ?_ _));exact BK193.out) hb)
      have n12_:=aM (bB (g:=gb215) (o:=.cells #[.slice Ao84 t209.length co84,.slice Ao88 t212.length co88] 78 (0,0)) (by (with_reducible repeat (first|refine bN ?_ _|refine bD ?_|refine bA ?_ _));exact BK215.out) hb)
      have n13_:=aM (bB (g:=gb222) (o:=.cells #[.slice Ao92 t216.length co92,.slice Ao97 t219.length co97] 78 (0,0)) (by (with_reducible repeat (first|refine bN ?_ _|refine bD ?_|refine bA ?_ _));exact BK222.out) hb)
      have n14_:=aM (lP (by repeat (first|(with_reducible first|exact HB.out|apply lA|apply lN|apply lD|refine lS ?_ GE192.out|refine lS ?_ GE193.out|refine lS ?_ GE215.out|refine lS ?_ GE222.out)|exact HB.out)) hb)
      clear HO198
      clear HO201
      clear HO204
      clear HO207
      clear HO211
      clear HO214
      clear HO218
      clear HO221
      clear BK192
      clear BK193
      clear BK215
      clear BK222
      clear HB
      have HO198:=n0_
      have HO201:=n1_
      have HO204:=n2_
      have HO207:=n3_
      have HO211:=n4_
      have HO214:=n5_
      have HO218:=n6_
      have HO221:=n7_
      have HO226:=n8_
      have HO229:=n9_
      have BK192:=n10_
      have BK193:=n11_
      have BK215:=n12_
      have BK222:=n13_
      have HB:=n14_
      clear n0_ n1_ n2_ n3_ n4_ n5_ n6_ n7_ n8_ n9_ n10_ n11_ n12_ n13_ n14_
      (try clear hb)
      (try clear hb2)
      (try clear hk)
      (try clear hi)
      (try clear ho0)
      (try clear ho1)
      obtain ⟨Ao102,co102,eo102⟩:=Kd.S_slice HO226.out
      (first|subst eo102|(injection eo102 with f1_ f2_ f3_;have f4_:=f1_.symm;have f5_:=f3_.symm;clear f1_ f2_ f3_;subst f4_;subst f5_))
      obtain ⟨Ao103,co103,eo103⟩:=Kd.R_slice HO229.out
      (first|subst eo103|(injection eo103 with f1_ f2_ f3_;have f4_:=f1_.symm;have f5_:=f3_.symm;clear f1_ f2_ f3_;subst f4_;subst f5_))
      refine hK.out _ _ ⟨(bC BK215.out 0).trans rfl,(bC BK215.out 1).trans rfl,(bC BK192.out 0).trans rfl,(bC BK192.out 1).trans rfl⟩ (fun hHeld => ?_)
      clear hK K
      refine norm_ (a':=?_) ?_ ?_
      rotate_left
      ·show Act.put _ (some 37) _ = _
       simp only [Act.put,q_ia,q_cz,q_cs,i64_w,i32_w]
       rfl
      refine one_ (i:=3) (N:=some 38) #[bT,bT,bT,bT,bf] rfl rfl (by kernel_rfl) (by decide) (fun K hK => ?_)
      refine goes_ Try.func55 (by kernel_rfl) rfl #[.agg #[.slice Ao84 t209.length co84,.slice Ao88 t212.length co88],.agg #[.slice Ao102 t224.length co102,.slice Ao103 t227.length co103]] (by rfl) rfl rfl (by (try simp only [List.map_toArray,List.map_cons,List.map_nil]);first|done|rfl|(simp only [List.length_drop,List.length_take];rfl)) ?_
      with_reducible refine (laws_eqProgram.calls k _ _ t209 _ _ t212 _ _ t224 _ _ t227 true _ ?side1 ?side2 ?side3 ?side4 ?side5 ?side6 ?side7 ?side8 A61.out).mono ?_
      (case side1 => repeat (first|exact (Kd.S_reads' HO211.out).2.2|(with_reducible first|refine cA ?_ _|refine cN ?_ _|refine cD ?_)))
      (case side2 => exact (Kd.S_reads' HO211.out).2.1)
      (case side3 => repeat (first|exact (rR HO214.out).2.2|(with_reducible first|refine cA ?_ _|refine cN ?_ _|refine cD ?_)))
      (case side4 => exact (rR HO214.out).2.1)
      (case side5 => repeat (first|exact (Kd.S_reads' HO226.out).2.2|(with_reducible first|refine cA ?_ _|refine cN ?_ _|refine cD ?_)))
      (case side6 => exact (Kd.S_reads' HO226.out).2.1)
      (case side7 => repeat (first|exact (rR HO229.out).2.2|(with_reducible first|refine cA ?_ _|refine cN ?_ _|refine cD ?_)))
      (case side8 => exact (rR HO229.out).2.1)
      rintro e w104 ⟨rfl,hb⟩
      refine ⟨_,rfl,?_⟩
      have n0_:=aM (Kd.S_below (by (with_reducible repeat (first|apply Kd.S_alloc|apply Kd.S_drewN|apply Kd.S_drew));exact HO198.out) hb)
      have n1_:=aM (rB (by (with_reducible repeat (first|apply rA|apply rN|apply rD));exact HO201.out) hb)
      have n2_:=aM (Kd.S_below (by (with_reducible repeat (first|apply Kd.S_alloc|apply Kd.S_drewN|apply Kd.S_drew));exact HO204.out) hb)
      have n3_:=aM (rB (by (with_reducible repeat (first|apply rA|apply rN|apply rD));exact HO207.out) hb)
      have n4_:=aM (Kd.S_below (by (with_reducible repeat (first|apply Kd.S_alloc|apply Kd.S_drewN|apply Kd.S_drew));exact HO211.out) hb)
      have n5_:=aM (rB (by (with_reducible repeat (first|apply rA|apply rN|apply rD));exact HO214.out) hb)
      have n6_:=aM (Kd.S_below (by (with_reducible repeat (first|apply Kd.S_alloc|apply Kd.S_drewN|apply Kd.S_drew));exact HO218.out) hb)
      have n7_:=aM (rB (by (with_reducible repeat (first|apply rA|apply rN|apply rD));exact HO221.out) hb)
      have n8_:=aM (Kd.S_below (by (with_reducible repeat (first|apply Kd.S_alloc|apply Kd.S_drewN|apply Kd.S_drew));exact HO226.out) hb)
      have n9_:=aM (rB (by (with_reducible repeat (first|apply rA|apply rN|apply rD));exact HO229.out) hb)
      have n10_:=aM (bB (g:=gb192) (o:=.cells #[.slice A0_0 l0_0.length c0_0,.slice A0_1 l0_1.length c0_1] 72 (0,0)) (by (with_reducible repeat (first|refine bN ?_ _|refine bD ?_|refine bA ?_ _));exact BK192.out) hb)
      have n11_:=aM (bB (g:=gb193) (o:=.cells #[.slice A1_0 l1_0.length c1_0,.slice A1_1 l1_1.length c1_1] 72 (0,0)) (by (with_reducible repeat (first|refine bN ?_ _|refine bD ?_|refine bA ?_ _));exact BK193.out) hb)
      have n12_:=aM (bB (g:=gb215) (o:=.cells #[.slice Ao84 t209.length co84,.slice Ao88 t212.length co88] 78 (0,0)) (by (with_reducible repeat (first|refine bN ?_ _|refine bD ?_|refine bA ?_ _));exact BK215.out) hb)
      have n13_:=aM (bB (g:=gb222) (o:=.cells #[.slice Ao92 t216.length co92,.slice Ao97 t219.length co97] 78 (0,0)) (by (with_reducible repeat (first|refine bN ?_ _|refine bD ?_|refine bA ?_ _));exact BK222.out) hb)
      have n14_:=aM (lP (by repeat (first|(with_reducible first|exact HB.out|apply lA|apply lN|apply lD|refine lS ?_ GE192.out|refine lS ?_ GE193.out|refine lS ?_ GE215.out|refine lS ?_ GE222.out)|exact HB.out)) hb)
      clear HO198
      clear HO201
      clear HO204
      clear HO207
      clear HO211
      clear HO214
      clear HO218
      clear HO221
      clear HO226
      clear HO229
      clear BK192
      clear BK193
      clear BK215
      clear BK222
      clear HB
      have HO198:=n0_
      have HO201:=n1_
      have HO204:=n2_
      have HO207:=n3_
      have HO211:=n4_
      have HO214:=n5_
      have HO218:=n6_
      have HO221:=n7_
      have HO226:=n8_
      have HO229:=n9_
      have BK192:=n10_
      have BK193:=n11_
      have BK215:=n12_
      have BK222:=n13_
      have HB:=n14_
      clear n0_ n1_ n2_ n3_ n4_ n5_ n6_ n7_ n8_ n9_ n10_ n11_ n12_ n13_ n14_
      (try clear hb)
      (try clear hb2)
      (try clear hk)
      (try clear hi)
      refine hK.out _ _ ⟨(bC BK215.out 0).trans rfl,(bC BK215.out 1).trans rfl,(bC BK192.out 0).trans rfl,(bC BK192.out 1).trans rfl⟩ (fun hHeld => ?_)
      clear hK K
      refine norm_ (a':=?_) ?_ ?_
      rotate_left
      ·show Act.put _ (some 38) _ = _
       simp only [Act.put,q_ia,q_cz,q_cs,i64_w,i32_w]
       rfl
      refine pure_ (i:=4) (N:=some 39) (v:=?_) (a':=?_) #[bT,bT,bT,bT,bT] rfl rfl (by kernel_rfl) (fun _ _ _ h => h) (Or.inl ⟨by rfl,?_⟩) ?_ ?_
      rotate_left
      ·intro w';go_simp;with_reducible rfl
      rotate_left
      ·simp only [Act.put,q_ia,q_cz,q_cs,i64_w,i32_w];rfl
      refine done_ (by kernel_rfl) ?_
      try go_wp2
      have n0_:=aM (Kd.S_drew HO198.out)
      have n1_:=aM (rD HO201.out)
      have n2_:=aM (Kd.S_drew HO204.out)
      have n3_:=aM (rD HO207.out)
      have n4_:=aM (Kd.S_drew HO211.out)
      have n5_:=aM (rD HO214.out)
      have n6_:=aM (Kd.S_drew HO218.out)
      have n7_:=aM (rD HO221.out)
      have n8_:=aM (Kd.S_drew HO226.out)
      have n9_:=aM (rD HO229.out)
      have n10_:=aM (bD BK192.out)
      have n11_:=aM (bD BK193.out)
      have n12_:=aM (bD BK215.out)
      have n13_:=aM (bD BK222.out)
      have n14_:=aM (lD HB.out)
      clear HO198
      clear HO201
      clear HO204
      clear HO207
      clear HO211
      clear HO214
      clear HO218
      clear HO221
      clear HO226
      clear HO229
      clear BK192
      clear BK193
      clear BK215
      clear BK222
      clear HB
      have HO198:=n0_
      have HO201:=n1_
      have HO204:=n2_
      have HO207:=n3_
      have HO211:=n4_
      have HO214:=n5_
      have HO218:=n6_
      have HO221:=n7_
      have HO226:=n8_
      have HO229:=n9_
      have BK192:=n10_
      have BK193:=n11_
      have BK215:=n12_
      have BK222:=n13_
      have HB:=n14_
      clear n0_ n1_ n2_ n3_ n4_ n5_ n6_ n7_ n8_ n9_ n10_ n11_ n12_ n13_ n14_
      refine start_ (n:=5) (S:=fun w' => w'.cell? ⟨gb222,0,none⟩ = some (.slice Ao92 t216.length co92) ∧ w'.cell? ⟨gb222,1,none⟩ = some (.slice Ao97 t219.length co97) ∧ w'.cell? ⟨gb193,0,none⟩ = some (.slice A1_0 l1_0.length c1_0) ∧ w'.cell? ⟨gb193,1,none⟩ = some (.slice A1_1 l1_1.length c1_1)) (ds:=[]) #[bf,bf,bf,bf,bf] (by kernel_rfl) rfl rfl ⟨(bC BK222.out 0).trans rfl,(bC BK222.out 1).trans rfl,(bC BK193.out 0).trans rfl,(bC BK193.out 1).trans rfl⟩ (fun hHeld => ?_)
      generalize w104.drew = w105 at HO198 HO201 HO204 HO207 HO211 HO214 HO218 HO221 HO226 HO229 BK192 BK193 BK215 BK222 HB hHeld ⊢
      refine take_ (i:=0) (N:=some 40) (v:=?_) (a':=?_) #[bT,bf,bf,bf,bf] rfl rfl (by kernel_rfl) (fun _ _ _ h => h) (Or.inl ⟨by rfl,?_⟩) hHeld ?_ ?_
      rotate_left
      ·rintro w' ⟨s0,s1,s2,s3⟩
       go_simp
       with_reducible rfl
      rotate_left
      ·simp only [Act.put,q_ia,q_cz,q_cs,i64_w,i32_w];rfl
      refine take_ (i:=1) (N:=some 41) (v:=?_) (a':=?_) #[bT,bT,bf,bf,bf] rfl rfl (by kernel_rfl) (fun _ _ _ h => h) (Or.inl ⟨by rfl,?_⟩) hHeld ?_ ?_
      rotate_left
      ·rintro w' ⟨s0,s1,s2,s3⟩
       go_simp
       with_reducible rfl
      rotate_left
      ·simp only [Act.put,q_ia,q_cz,q_cs,i64_w,i32_w];rfl
      refine one_ (i:=2) (N:=some 42) #[bT,bT,bT,bf,bf] rfl rfl (by kernel_rfl) (by decide) (fun K hK => ?_)
      refine goes_ Try.func53 (by kernel_rfl) rfl #[.agg #[.slice A1_0 l1_0.length c1_0,.slice A1_1 l1_1.length c1_1]] (by rfl) rfl rfl (by (try simp only [List.map_toArray,List.map_cons,List.map_nil]);first|done|rfl|(simp only [List.length_drop,List.length_take];rfl)) ?_
      with_reducible refine (laws_toProgram.calls k _ _ l1_0 _ _ l1_1 t231 t234 _ ?side1 ?side2 ?side3 ?side4 A63.out).mono ?_
      (case side1 => repeat (first|exact (cB HR1_0.out HB.out)|(with_reducible first|refine cA ?_ _|refine cN ?_ _|refine cD ?_)))
      (case side2 => exact HC1_0.out)
      (case side3 => repeat (first|exact (cB HR1_1.out HB.out)|(with_reducible first|refine cA ?_ _|refine cN ?_ _|refine cD ?_)))
      (case side4 => exact HC1_1.out)
      rintro e w106 ⟨v232,v235,rfl,ho0,ho1,hb⟩
      refine ⟨_,rfl,?_⟩
      have n0_:=aM (Kd.S_elder' (by (with_reducible repeat (first|apply Kd.S_alloc|apply Kd.S_drewN|apply Kd.S_drew));exact HO198.out) (Kd.S_base ho0) hb)
      have n1_:=aM (rE (by (with_reducible repeat (first|apply rA|apply rN|apply rD));exact HO201.out) (rS ho1) hb)
      have n2_:=aM (Kd.S_elder' (by (with_reducible repeat (first|apply Kd.S_alloc|apply Kd.S_drewN|apply Kd.S_drew));exact HO204.out) (Kd.S_base ho0) hb)
      have n3_:=aM (rE (by (with_reducible repeat (first|apply rA|apply rN|apply rD));exact HO207.out) (rS ho1) hb)
      have n4_:=aM (Kd.S_elder' (by (with_reducible repeat (first|apply Kd.S_alloc|apply Kd.S_drewN|apply Kd.S_drew));exact HO211.out) (Kd.S_base ho0) hb)
      have n5_:=aM (rE (by (with_reducible repeat (first|apply rA|apply rN|apply rD));exact HO214.out) (rS ho1) hb)
      have n6_:=aM (Kd.S_elder' (by (with_reducible repeat (first|apply Kd.S_alloc|apply Kd.S_drewN|apply Kd.S_drew));exact HO218.out) (Kd.S_base ho0) hb)
      have n7_:=aM (rE (by (with_reducible repeat (first|apply rA|apply rN|apply rD));exact HO221.out) (rS ho1) hb)
      have n8_:=aM (Kd.S_elder' (by (with_reducible repeat (first|apply Kd.S_alloc|apply Kd.S_drewN|apply Kd.S_drew));exact HO226.out) (Kd.S_base ho0) hb)
      have n9_:=aM (rE (by (with_reducible repeat (first|apply rA|apply rN|apply rD));exact HO229.out) (rS ho1) hb)
      have n10_:=aM (Kd.S_lower (Kd.S_new' (Kd.S_new' (Kd.S_new' (Kd.S_new' (Kd.S_new' ho0 (Kd.S_lt (by (with_reducible repeat (first|apply Kd.S_alloc|apply Kd.S_drewN|apply Kd.S_drew));exact HO198.out))) (Kd.S_lt (by (with_reducible repeat (first|apply Kd.S_alloc|apply Kd.S_drewN|apply Kd.S_drew));exact HO204.out))) (Kd.S_lt (by (with_reducible repeat (first|apply Kd.S_alloc|apply Kd.S_drewN|apply Kd.S_drew));exact HO211.out))) (Kd.S_lt (by (with_reducible repeat (first|apply Kd.S_alloc|apply Kd.S_drewN|apply Kd.S_drew));exact HO218.out))) (Kd.S_lt (by (with_reducible repeat (first|apply Kd.S_alloc|apply Kd.S_drewN|apply Kd.S_drew));exact HO226.out))) (lZ (by repeat (first|(with_reducible first|exact HB.out|apply lA|apply lN|apply lD|refine lS ?_ GE192.out|refine lS ?_ GE193.out|refine lS ?_ GE215.out|refine lS ?_ GE222.out)|exact HB.out))))
      have n11_:=aM (rL (rW (rW (rW (rW (rW ho1 (rT (by (with_reducible repeat (first|apply rA|apply rN|apply rD));exact HO201.out))) (rT (by (with_reducible repeat (first|apply rA|apply rN|apply rD));exact HO207.out))) (rT (by (with_reducible repeat (first|apply rA|apply rN|apply rD));exact HO214.out))) (rT (by (with_reducible repeat (first|apply rA|apply rN|apply rD));exact HO221.out))) (rT (by (with_reducible repeat (first|apply rA|apply rN|apply rD));exact HO229.out))) (lZ (by repeat (first|(with_reducible first|exact HB.out|apply lA|apply lN|apply lD|refine lS ?_ GE192.out|refine lS ?_ GE193.out|refine lS ?_ GE215.out|refine lS ?_ GE222.out)|exact HB.out))))
      have n12_:=aM (bB (g:=gb192) (o:=.cells #[.slice A0_0 l0_0.length c0_0,.slice A0_1 l0_1.length c0_1] 72 (0,0)) (by (with_reducible repeat (first|refine bN ?_ _|refine bD ?_|refine bA ?_ _));exact BK192.out) hb)
      have n13_:=aM (bB (g:=gb193) (o:=.cells #[.slice A1_0 l1_0.length c1_0,.slice A1_1 l1_1.length c1_1] 72 (0,0)) (by (with_reducible repeat (first|refine bN ?_ _|refine bD ?_|refine bA ?_ _));exact BK193.out) hb)
      have n14_:=aM (bB (g:=gb215) (o:=.cells #[.slice Ao84 t209.length co84,.slice Ao88 t212.length co88] 78 (0,0)) (by (with_reducible repeat (first|refine bN ?_ _|refine bD ?_|refine bA ?_ _));exact BK215.out) hb)
      have n15_:=aM (bB (g:=gb222) (o:=.cells #[.slice Ao92 t216.length co92,.slice Ao97 t219.length co97] 78 (0,0)) (by (with_reducible repeat (first|refine bN ?_ _|refine bD ?_|refine bA ?_ _));exact BK222.out) hb)
      have n16_:=aM (lP (by repeat (first|(with_reducible first|exact HB.out|apply lA|apply lN|apply lD|refine lS ?_ GE192.out|refine lS ?_ GE193.out|refine lS ?_ GE215.out|refine lS ?_ GE222.out)|exact HB.out)) hb)
      clear HO198
      clear HO201
      clear HO204
      clear HO207
      clear HO211
      clear HO214
      clear HO218
      clear HO221
      clear HO226
      clear HO229
      clear BK192
      clear BK193
      clear BK215
      clear BK222
      clear HB
      have HO198:=n0_
      have HO201:=n1_
      have HO204:=n2_
      have HO207:=n3_
      have HO211:=n4_
      have HO214:=n5_
      have HO218:=n6_
      have HO221:=n7_
      have HO226:=n8_
      have HO229:=n9_
      have HO233:=n10_
      have HO236:=n11_
      have BK192:=n12_
      have BK193:=n13_
      have BK215:=n14_
      have BK222:=n15_
      have HB:=n16_
      clear n0_ n1_ n2_ n3_ n4_ n5_ n6_ n7_ n8_ n9_ n10_ n11_ n12_ n13_ n14_ n15_ n16_
      (try clear hb)
      (try clear hb2)
      (try clear hk)
      (try clear hi)
      (try clear ho0)
      (try clear ho1)
      obtain ⟨Ao107,co107,eo107⟩:=Kd.S_slice HO233.out
      (first|subst eo107|(injection eo107 with f1_ f2_ f3_;have f4_:=f1_.symm;have f5_:=f3_.symm;clear f1_ f2_ f3_;subst f4_;subst f5_))
      obtain ⟨Ao108,co108,eo108⟩:=Kd.R_slice HO236.out
      (first|subst eo108|(injection eo108 with f1_ f2_ f3_;have f4_:=f1_.symm;have f5_:=f3_.symm;clear f1_ f2_ f3_;subst f4_;subst f5_))
      refine hK.out _ _ ⟨(bC BK222.out 0).trans rfl,(bC BK222.out 1).trans rfl,(bC BK193.out 0).trans rfl,(bC BK193.out 1).trans rfl⟩ (fun hHeld => ?_)
      clear hK K
      refine norm_ (a':=?_) ?_ ?_
      rotate_left
      ·show Act.put _ (some 42) _ = _
       simp only [Act.put,q_ia,q_cz,q_cs,i64_w,i32_w]
       rfl
      refine one_ (i:=3) (N:=some 43) #[bT,bT,bT,bT,bf] rfl rfl (by kernel_rfl) (by decide) (fun K hK => ?_)
      refine goes_ Try.func55 (by kernel_rfl) rfl #[.agg #[.slice Ao92 t216.length co92,.slice Ao97 t219.length co97],.agg #[.slice Ao107 t231.length co107,.slice Ao108 t234.length co108]] (by rfl) rfl rfl (by (try simp only [List.map_toArray,List.map_cons,List.map_nil]);first|done|rfl|(simp only [List.length_drop,List.length_take];rfl)) ?_
      with_reducible refine (laws_eqProgram.calls k _ _ t216 _ _ t219 _ _ t231 _ _ t234 true _ ?side1 ?side2 ?side3 ?side4 ?side5 ?side6 ?side7 ?side8 A64.out).mono ?_
      (case side1 => repeat (first|exact (Kd.S_reads' HO218.out).2.2|(with_reducible first|refine cA ?_ _|refine cN ?_ _|refine cD ?_)))
      (case side2 => exact (Kd.S_reads' HO218.out).2.1)
      (case side3 => repeat (first|exact (rR HO221.out).2.2|(with_reducible first|refine cA ?_ _|refine cN ?_ _|refine cD ?_)))
      (case side4 => exact (rR HO221.out).2.1)
      (case side5 => repeat (first|exact (Kd.S_reads' HO233.out).2.2|(with_reducible first|refine cA ?_ _|refine cN ?_ _|refine cD ?_)))
      (case side6 => exact (Kd.S_reads' HO233.out).2.1)
      (case side7 => repeat (first|exact (rR HO236.out).2.2|(with_reducible first|refine cA ?_ _|refine cN ?_ _|refine cD ?_)))
      (case side8 => exact (rR HO236.out).2.1)
      rintro e w109 ⟨rfl,hb⟩
      refine ⟨_,rfl,?_⟩
      have n0_:=aM (Kd.S_below (by (with_reducible repeat (first|apply Kd.S_alloc|apply Kd.S_drewN|apply Kd.S_drew));exact HO198.out) hb)
      have n1_:=aM (rB (by (with_reducible repeat (first|apply rA|apply rN|apply rD));exact HO201.out) hb)
      have n2_:=aM (Kd.S_below (by (with_reducible repeat (first|apply Kd.S_alloc|apply Kd.S_drewN|apply Kd.S_drew));exact HO204.out) hb)
      have n3_:=aM (rB (by (with_reducible repeat (first|apply rA|apply rN|apply rD));exact HO207.out) hb)
      have n4_:=aM (Kd.S_below (by (with_reducible repeat (first|apply Kd.S_alloc|apply Kd.S_drewN|apply Kd.S_drew));exact HO211.out) hb)
      have n5_:=aM (rB (by (with_reducible repeat (first|apply rA|apply rN|apply rD));exact HO214.out) hb)
      have n6_:=aM (Kd.S_below (by (with_reducible repeat (first|apply Kd.S_alloc|apply Kd.S_drewN|apply Kd.S_drew));exact HO218.out) hb)
      have n7_:=aM (rB (by (with_reducible repeat (first|apply rA|apply rN|apply rD));exact HO221.out) hb)
      have n8_:=aM (Kd.S_below (by (with_reducible repeat (first|apply Kd.S_alloc|apply Kd.S_drewN|apply Kd.S_drew));exact HO226.out) hb)
      have n9_:=aM (rB (by (with_reducible repeat (first|apply rA|apply rN|apply rD));exact HO229.out) hb)
      have n10_:=aM (Kd.S_below (by (with_reducible repeat (first|apply Kd.S_alloc|apply Kd.S_drewN|apply Kd.S_drew));exact HO233.out) hb)
      have n11_:=aM (rB (by (with_reducible repeat (first|apply rA|apply rN|apply rD));exact HO236.out) hb)
      have n12_:=aM (bB (g:=gb192) (o:=.cells #[.slice A0_0 l0_0.length c0_0,.slice A0_1 l0_1.length c0_1] 72 (0,0)) (by (with_reducible repeat (first|refine bN ?_ _|refine bD ?_|refine bA ?_ _));exact BK192.out) hb)
      have n13_:=aM (bB (g:=gb193) (o:=.cells #[.slice A1_0 l1_0.length c1_0,.slice A1_1 l1_1.length c1_1] 72 (0,0)) (by (with_reducible repeat (first|refine bN ?_ _|refine bD ?_|refine bA ?_ _));exact BK193.out) hb)
      have n14_:=aM (bB (g:=gb215) (o:=.cells #[.slice Ao84 t209.length co84,.slice Ao88 t212.length co88] 78 (0,0)) (by (with_reducible repeat (first|refine bN ?_ _|refine bD ?_|refine bA ?_ _));exact BK215.out) hb)
      have n15_:=aM (bB (g:=gb222) (o:=.cells #[.slice Ao92 t216.length co92,.slice Ao97 t219.length co97] 78 (0,0)) (by (with_reducible repeat (first|refine bN ?_ _|refine bD ?_|refine bA ?_ _));exact BK222.out) hb)
      have n16_:=aM (lP (by repeat (first|(with_reducible first|exact HB.out|apply lA|apply lN|apply lD|refine lS ?_ GE192.out|refine lS ?_ GE193.out|refine lS ?_ GE215.out|refine lS ?_ GE222.out)|exact HB.out)) hb)
      clear HO198
      clear HO201
      clear HO204
      clear HO207
      clear HO211
      clear HO214
      clear HO218
      clear HO221
      clear HO226
      clear HO229
      clear HO233
      clear HO236
      clear BK192
      clear BK193
      clear BK215
      clear BK222
      clear HB
      have HO198:=n0_
      have HO201:=n1_
      have HO204:=n2_
      have HO207:=n3_
      have HO211:=n4_
      have HO214:=n5_
      have HO218:=n6_
      have HO221:=n7_
      have HO226:=n8_
      have HO229:=n9_
      have HO233:=n10_
      have HO236:=n11_
      have BK192:=n12_
      have BK193:=n13_
      have BK215:=n14_
      have BK222:=n15_
      have HB:=n16_
      clear n0_ n1_ n2_ n3_ n4_ n5_ n6_ n7_ n8_ n9_ n10_ n11_ n12_ n13_ n14_ n15_ n16_
      (try clear hb)
      (try clear hb2)
      (try clear hk)
      (try clear hi)
      refine hK.out _ _ ⟨(bC BK222.out 0).trans rfl,(bC BK222.out 1).trans rfl,(bC BK193.out 0).trans rfl,(bC BK193.out 1).trans rfl⟩ (fun hHeld => ?_)
      clear hK K
      refine norm_ (a':=?_) ?_ ?_
      rotate_left
      ·show Act.put _ (some 43) _ = _
       simp only [Act.put,q_ia,q_cz,q_cs,i64_w,i32_w]
       rfl
      refine pure_ (i:=4) (N:=some 44) (v:=?_) (a':=?_) #[bT,bT,bT,bT,bT] rfl rfl (by kernel_rfl) (fun _ _ _ h => h) (Or.inl ⟨by rfl,?_⟩) ?_ ?_
      rotate_left
      ·intro w';go_simp;with_reducible rfl
      rotate_left
      ·simp only [Act.put,q_ia,q_cz,q_cs,i64_w,i32_w];rfl
      refine done_ (by kernel_rfl) ?_
      try go_wp2
      go_ret
      exact ⟨by first|rfl|(simp [errW_none,errW_some] <;> rfl)|(simp [*,errW_none,errW_some] <;> rfl),by repeat (first|(with_reducible first|exact HB.out|apply lA|apply lN|apply lD|refine lS ?_ GE192.out|refine lS ?_ GE193.out|refine lS ?_ GE215.out|refine lS ?_ GE222.out)|exact HB.out)⟩
     ·replace c65:=Bool.eq_false_iff.mpr c65
      subst c65
      have H1 : (some false) = some r:=by rw [if_neg (show ¬ (false = true) by decide)] at H;exact H
      clear H
      have H:=H1
      clear H1
      obtain rfl:=Option.some.inj H
      go_enter Try.func13,Try.ntmps13
      try go_wp2_with (first|((with_reducible refine gate_dst (N:=2) rfl ?_);refine box_event ?hg (N:=2) ?hd (cs:=#[.slice A0_0 l0_0.length c0_0,.slice A0_1 l0_1.length c0_1]) (t:=72) ?hr ?_;(case hd => rfl);(case hg => rfl);(case hr => first|(go_simp;done)|(go_simp;rfl));intro gb192 hg w110 hbox hb;have n0_:=aM (lP (by repeat (first|(with_reducible first|exact HB.out|apply lA|apply lN|apply lD)|exact HB.out)) hb);have n1_:=aM (hbox);have n2_:=aM ((by rw [hg];exact (lZ (by repeat (first|(with_reducible first|exact HB.out|apply lA|apply lN|apply lD)|exact HB.out))) : w.heap.size ≤ gb192));have n3_:=aM ((by rw [hg];exact (lZ (by repeat (first|(with_reducible first|exact HB.out|apply lA|apply lN|apply lD)|exact HB.out))) : w.heap.size ≤ gb192));clear HB;have HB:=n0_;have BK192:=n1_;have GW192:=n2_;have GE192:=n3_;clear n0_ n1_ n2_ n3_ hb hbox hg)|((with_reducible refine gate_dst (N:=3) rfl ?_);refine box_event ?hg (N:=3) ?hd (cs:=#[.slice A1_0 l1_0.length c1_0,.slice A1_1 l1_1.length c1_1]) (t:=72) ?hr ?_;(case hd => rfl);(case hg => rfl);(case hr => first|(go_simp;done)|(go_simp;rfl));intro gb193 hg w111 hbox hb;have n0_:=aM (bB (g:=gb192) (o:=.cells #[.slice A0_0 l0_0.length c0_0,.slice A0_1 l0_1.length c0_1] 72 (0,0)) (by (with_reducible repeat (first|refine bN ?_ _|refine bD ?_|refine bA ?_ _));exact BK192.out) hb);have n1_:=aM (lP (by repeat (first|(with_reducible first|exact HB.out|apply lA|apply lN|apply lD|refine lS ?_ GE192.out)|exact HB.out)) hb);have n2_:=aM (hbox);have n3_:=aM ((by rw [hg];exact (lZ (by repeat (first|(with_reducible first|exact HB.out|apply lA|apply lN|apply lD|refine lS ?_ GE192.out)|exact HB.out))) : w.heap.size ≤ gb193));have n4_:=aM ((by rw [hg];exact (lZ (by repeat (first|(with_reducible first|exact HB.out|apply lA|apply lN|apply lD|refine lS ?_ GE192.out)|exact HB.out))) : w.heap.size ≤ gb193));have n5_:=aM ((by rw [hg];exact Nat.ne_of_lt (bL (g:=gb192) (o:=.cells #[.slice A0_0 l0_0.length c0_0,.slice A0_1 l0_1.length c0_1] 72 (0,0)) (by (with_reducible repeat (first|refine bN ?_ _|refine bD ?_|refine bA ?_ _));exact BK192.out)) : gb192 ≠ gb193));have n6_:=aM ((by rw [hg];exact Nat.ne_of_gt (bL (g:=gb192) (o:=.cells #[.slice A0_0 l0_0.length c0_0,.slice A0_1 l0_1.length c0_1] 72 (0,0)) (by (with_reducible repeat (first|refine bN ?_ _|refine bD ?_|refine bA ?_ _));exact BK192.out)) : gb193 ≠ gb192));clear BK192 HB;have BK192:=n0_;have HB:=n1_;have BK193:=n2_;have GW193:=n3_;have GE193:=n4_;have NB192_193:=n5_;have NB193_192:=n6_;clear n0_ n1_ n2_ n3_ n4_ n5_ n6_ hb hbox hg;have hnb112:=NB192_193.out;have hnc112:=NB193_192.out;have hcz113_0 : w111.cell? ⟨gb192,0,none⟩ = some (.slice A0_0 l0_0.length c0_0):=(bC BK192.out 0).trans rfl;have hcz113_1 : w111.cell? ⟨gb192,1,none⟩ = some (.slice A0_1 l0_1.length c0_1):=(bC BK192.out 1).trans rfl;have hfz113_0:=bF BK192.out 0;have hfz113_1:=bF BK192.out 1)|((with_reducible refine gate_callee (f:=51) rfl ?_);refine goesL_ (some 12) rfl rfl Try.func51 (by kernel_rfl) rfl #[.agg #[.slice A0_0 l0_0.length c0_0,.slice A0_1 l0_1.length c0_1],.int .i64 1048576] rfl (by (try simp only [List.map_toArray,List.map_cons,List.map_nil]);first|done|rfl|(simp only [List.length_drop,List.length_take];rfl)) ?_;(with_reducible refine (laws_szProgram.calls k _ _ l0_0 _ _ l0_1 1048576 t194 _ ?side1 ?side2 ?side3 ?side4 A3.out).mono ?_);(case side1 => repeat (first|exact (cB HR0_0.out HB.out)|(with_reducible first|refine cA ?_ _|refine cN ?_ _|refine cD ?_)));(case side2 => exact HC0_0.out);(case side3 => repeat (first|exact (cB HR0_1.out HB.out)|(with_reducible first|refine cA ?_ _|refine cN ?_ _|refine cD ?_)));(case side4 => exact HC0_1.out);rintro e w114 ⟨rfl,hb⟩;refine ⟨_,rfl,?_⟩;have n0_:=aM (bB (g:=gb192) (o:=.cells #[.slice A0_0 l0_0.length c0_0,.slice A0_1 l0_1.length c0_1] 72 (0,0)) (by (with_reducible repeat (first|refine bN ?_ _|refine bD ?_|refine bA ?_ _));exact BK192.out) hb);have n1_:=aM (bB (g:=gb193) (o:=.cells #[.slice A1_0 l1_0.length c1_0,.slice A1_1 l1_1.length c1_1] 72 (0,0)) (by (with_reducible repeat (first|refine bN ?_ _|refine bD ?_|refine bA ?_ _));exact BK193.out) hb);have n2_:=aM (lP (by repeat (first|(with_reducible first|exact HB.out|apply lA|apply lN|apply lD|refine lS ?_ GE192.out|refine lS ?_ GE193.out)|exact HB.out)) hb);clear BK192 BK193 HB;have BK192:=n0_;have BK193:=n1_;have HB:=n2_;clear n0_ n1_ n2_;(try clear hb);(try clear hb2);(try clear hk);(try clear hi);have hcz115_0 : w114.cell? ⟨gb193,0,none⟩ = some (.slice A1_0 l1_0.length c1_0):=(bC BK193.out 0).trans rfl;have hcz115_1 : w114.cell? ⟨gb193,1,none⟩ = some (.slice A1_1 l1_1.length c1_1):=(bC BK193.out 1).trans rfl;have hfz115_0:=bF BK193.out 0;have hfz115_1:=bF BK193.out 1)|((with_reducible refine gate_callee (f:=51) rfl ?_);refine goesL_ (some 17) rfl rfl Try.func51 (by kernel_rfl) rfl #[.agg #[.slice A1_0 l1_0.length c1_0,.slice A1_1 l1_1.length c1_1],.int .i64 t194] rfl (by (try simp only [List.map_toArray,List.map_cons,List.map_nil]);first|done|rfl|(simp only [List.length_drop,List.length_take];rfl)) ?_;(with_reducible refine (laws_szProgram.calls k _ _ l1_0 _ _ l1_1 t194 t195 _ ?side1 ?side2 ?side3 ?side4 A10.out).mono ?_);(case side1 => repeat (first|exact (cB HR1_0.out HB.out)|(with_reducible first|refine cA ?_ _|refine cN ?_ _|refine cD ?_)));(case side2 => exact HC1_0.out);(case side3 => repeat (first|exact (cB HR1_1.out HB.out)|(with_reducible first|refine cA ?_ _|refine cN ?_ _|refine cD ?_)));(case side4 => exact HC1_1.out);rintro e w116 ⟨rfl,hb⟩;refine ⟨_,rfl,?_⟩;have n0_:=aM (bB (g:=gb192) (o:=.cells #[.slice A0_0 l0_0.length c0_0,.slice A0_1 l0_1.length c0_1] 72 (0,0)) (by (with_reducible repeat (first|refine bN ?_ _|refine bD ?_|refine bA ?_ _));exact BK192.out) hb);have n1_:=aM (bB (g:=gb193) (o:=.cells #[.slice A1_0 l1_0.length c1_0,.slice A1_1 l1_1.length c1_1] 72 (0,0)) (by (with_reducible repeat (first|refine bN ?_ _|refine bD ?_|refine bA ?_ _));exact BK193.out) hb);have n2_:=aM (lP (by repeat (first|(with_reducible first|exact HB.out|apply lA|apply lN|apply lD|refine lS ?_ GE192.out|refine lS ?_ GE193.out)|exact HB.out)) hb);clear BK192 BK193 HB;have BK192:=n0_;have BK193:=n1_;have HB:=n2_;clear n0_ n1_ n2_;(try clear hb);(try clear hb2);(try clear hk);(try clear hi)))
      have n0_:=aM (bD BK192.out)
      have n1_:=aM (bD BK193.out)
      have n2_:=aM (lD HB.out)
      clear BK192
      clear BK193
      clear HB
      have BK192:=n0_
      have BK193:=n1_
      have HB:=n2_
      clear n0_ n1_ n2_
      refine start_ (n:=6) (S:=fun w' => w'.cell? ⟨gb192,0,none⟩ = some (.slice A0_0 l0_0.length c0_0) ∧ w'.cell? ⟨gb192,1,none⟩ = some (.slice A0_1 l0_1.length c0_1) ∧ w'.cell? ⟨gb193,0,none⟩ = some (.slice A1_0 l1_0.length c1_0) ∧ w'.cell? ⟨gb193,1,none⟩ = some (.slice A1_1 l1_1.length c1_1)) (ds:=[]) #[bf,bf,bf,bf,bf,bf] (by kernel_rfl) rfl rfl ⟨(bC BK192.out 0).trans rfl,(bC BK192.out 1).trans rfl,(bC BK193.out 0).trans rfl,(bC BK193.out 1).trans rfl⟩ (fun hHeld => ?_)
      generalize w116.drew = w117 at BK192 BK193 HB hHeld ⊢
      refine take_ (i:=0) (N:=some 20) (v:=?_) (a':=?_) #[bT,bf,bf,bf,bf,bf] rfl rfl (by kernel_rfl) (fun _ _ _ h => h) (Or.inl ⟨by rfl,?_⟩) hHeld ?_ ?_
      rotate_left
      ·rintro w' ⟨s0,s1,s2,s3⟩
       go_simp
       with_reducible rfl
      rotate_left
      ·simp only [Act.put,q_ia,q_cz,q_cs,i64_w,i32_w];rfl
      refine take_ (i:=2) (N:=some 22) (v:=?_) (a':=?_) #[bT,bf,bT,bf,bf,bf] rfl rfl (by kernel_rfl) (fun _ _ _ h => h) (Or.inl ⟨by rfl,?_⟩) hHeld ?_ ?_
      rotate_left
      ·rintro w' ⟨s0,s1,s2,s3⟩
       go_simp
       with_reducible rfl
      rotate_left
      ·simp only [Act.put,q_ia,q_cz,q_cs,i64_w,i32_w];rfl
      refine one_ (i:=1) (N:=some 21) #[bT,bT,bT,bf,bf,bf] rfl rfl (by kernel_rfl) (by decide) (fun K hK => ?_)
      refine goes_ Try.func53 (by kernel_rfl) rfl #[.agg #[.slice A0_0 l0_0.length c0_0,.slice A0_1 l0_1.length c0_1]] (by rfl) rfl rfl (by (try simp only [List.map_toArray,List.map_cons,List.map_nil]);first|done|rfl|(simp only [List.length_drop,List.length_take];rfl)) ?_
      with_reducible refine (laws_toProgram.calls k _ _ l0_0 _ _ l0_1 t196 t199 _ ?side1 ?side2 ?side3 ?side4 A19.out).mono ?_
      (case side1 => repeat (first|exact (cB HR0_0.out HB.out)|(with_reducible first|refine cA ?_ _|refine cN ?_ _|refine cD ?_)))
      (case side2 => exact HC0_0.out)
      (case side3 => repeat (first|exact (cB HR0_1.out HB.out)|(with_reducible first|refine cA ?_ _|refine cN ?_ _|refine cD ?_)))
      (case side4 => exact HC0_1.out)
      rintro e w118 ⟨v197,v200,rfl,ho0,ho1,hb⟩
      refine ⟨_,rfl,?_⟩
      have n0_:=aM (Kd.S_lower ho0 (lZ (by repeat (first|(with_reducible first|exact HB.out|apply lA|apply lN|apply lD|refine lS ?_ GE192.out|refine lS ?_ GE193.out)|exact HB.out))))
      have n1_:=aM (rL ho1 (lZ (by repeat (first|(with_reducible first|exact HB.out|apply lA|apply lN|apply lD|refine lS ?_ GE192.out|refine lS ?_ GE193.out)|exact HB.out))))
      have n2_:=aM (bB (g:=gb192) (o:=.cells #[.slice A0_0 l0_0.length c0_0,.slice A0_1 l0_1.length c0_1] 72 (0,0)) (by (with_reducible repeat (first|refine bN ?_ _|refine bD ?_|refine bA ?_ _));exact BK192.out) hb)
      have n3_:=aM (bB (g:=gb193) (o:=.cells #[.slice A1_0 l1_0.length c1_0,.slice A1_1 l1_1.length c1_1] 72 (0,0)) (by (with_reducible repeat (first|refine bN ?_ _|refine bD ?_|refine bA ?_ _));exact BK193.out) hb)
      have n4_:=aM (lP (by repeat (first|(with_reducible first|exact HB.out|apply lA|apply lN|apply lD|refine lS ?_ GE192.out|refine lS ?_ GE193.out)|exact HB.out)) hb)
      clear BK192
      clear BK193
      clear HB
      have HO198:=n0_
      have HO201:=n1_
      have BK192:=n2_
      have BK193:=n3_
      have HB:=n4_
      clear n0_ n1_ n2_ n3_ n4_
      (try clear hb)
      (try clear hb2)
      (try clear hk)
      (try clear hi)
      (try clear ho0)
      (try clear ho1)
      refine hK.out _ _ ⟨(bC BK192.out 0).trans rfl,(bC BK192.out 1).trans rfl,(bC BK193.out 0).trans rfl,(bC BK193.out 1).trans rfl⟩ (fun hHeld => ?_)
      clear hK K
      refine norm_ (a':=?_) ?_ ?_
      rotate_left
      ·show Act.put _ (some 21) _ = _
       simp only [Act.put,q_ia,q_cz,q_cs,i64_w,i32_w]
       rfl
      refine one_ (i:=3) (N:=some 23) #[bT,bT,bT,bT,bf,bf] rfl rfl (by kernel_rfl) (by decide) (fun K hK => ?_)
      refine goes_ Try.func53 (by kernel_rfl) rfl #[.agg #[.slice A1_0 l1_0.length c1_0,.slice A1_1 l1_1.length c1_1]] (by rfl) rfl rfl (by (try simp only [List.map_toArray,List.map_cons,List.map_nil]);first|done|rfl|(simp only [List.length_drop,List.length_take];rfl)) ?_
      with_reducible refine (laws_toProgram.calls k _ _ l1_0 _ _ l1_1 t202 t205 _ ?side1 ?side2 ?side3 ?side4 A20.out).mono ?_
      (case side1 => repeat (first|exact (cB HR1_0.out HB.out)|(with_reducible first|refine cA ?_ _|refine cN ?_ _|refine cD ?_)))
      (case side2 => exact HC1_0.out)
      (case side3 => repeat (first|exact (cB HR1_1.out HB.out)|(with_reducible first|refine cA ?_ _|refine cN ?_ _|refine cD ?_)))
      (case side4 => exact HC1_1.out)
      rintro e w119 ⟨v203,v206,rfl,ho0,ho1,hb⟩
      refine ⟨_,rfl,?_⟩
      have n0_:=aM (Kd.S_elder' (by (with_reducible repeat (first|apply Kd.S_alloc|apply Kd.S_drewN|apply Kd.S_drew));exact HO198.out) (Kd.S_base ho0) hb)
      have n1_:=aM (rE (by (with_reducible repeat (first|apply rA|apply rN|apply rD));exact HO201.out) (rS ho1) hb)
      have n2_:=aM (Kd.S_lower (Kd.S_new' ho0 (Kd.S_lt (by (with_reducible repeat (first|apply Kd.S_alloc|apply Kd.S_drewN|apply Kd.S_drew));exact HO198.out))) (lZ (by repeat (first|(with_reducible first|exact HB.out|apply lA|apply lN|apply lD|refine lS ?_ GE192.out|refine lS ?_ GE193.out)|exact HB.out))))
      have n3_:=aM (rL (rW ho1 (rT (by (with_reducible repeat (first|apply rA|apply rN|apply rD));exact HO201.out))) (lZ (by repeat (first|(with_reducible first|exact HB.out|apply lA|apply lN|apply lD|refine lS ?_ GE192.out|refine lS ?_ GE193.out)|exact HB.out))))
      have n4_:=aM (bB (g:=gb192) (o:=.cells #[.slice A0_0 l0_0.length c0_0,.slice A0_1 l0_1.length c0_1] 72 (0,0)) (by (with_reducible repeat (first|refine bN ?_ _|refine bD ?_|refine bA ?_ _));exact BK192.out) hb)
      have n5_:=aM (bB (g:=gb193) (o:=.cells #[.slice A1_0 l1_0.length c1_0,.slice A1_1 l1_1.length c1_1] 72 (0,0)) (by (with_reducible repeat (first|refine bN ?_ _|refine bD ?_|refine bA ?_ _));exact BK193.out) hb)
      have n6_:=aM (lP (by repeat (first|(with_reducible first|exact HB.out|apply lA|apply lN|apply lD|refine lS ?_ GE192.out|refine lS ?_ GE193.out)|exact HB.out)) hb)
      clear HO198
      clear HO201
      clear BK192
      clear BK193
      clear HB
      have HO198:=n0_
      have HO201:=n1_
      have HO204:=n2_
      have HO207:=n3_
      have BK192:=n4_
      have BK193:=n5_
      have HB:=n6_
      clear n0_ n1_ n2_ n3_ n4_ n5_ n6_
      (try clear hb)
      (try clear hb2)
      (try clear hk)
      (try clear hi)
      (try clear ho0)
      (try clear ho1)
      obtain ⟨Ao120,co120,eo120⟩:=Kd.S_slice HO198.out
      (first|subst eo120|(injection eo120 with f1_ f2_ f3_;have f4_:=f1_.symm;have f5_:=f3_.symm;clear f1_ f2_ f3_;subst f4_;subst f5_))
      obtain ⟨Ao121,co121,eo121⟩:=Kd.R_slice HO201.out
      (first|subst eo121|(injection eo121 with f1_ f2_ f3_;have f4_:=f1_.symm;have f5_:=f3_.symm;clear f1_ f2_ f3_;subst f4_;subst f5_))
      obtain ⟨Ao122,co122,eo122⟩:=Kd.S_slice HO204.out
      (first|subst eo122|(injection eo122 with f1_ f2_ f3_;have f4_:=f1_.symm;have f5_:=f3_.symm;clear f1_ f2_ f3_;subst f4_;subst f5_))
      obtain ⟨Ao123,co123,eo123⟩:=Kd.R_slice HO207.out
      (first|subst eo123|(injection eo123 with f1_ f2_ f3_;have f4_:=f1_.symm;have f5_:=f3_.symm;clear f1_ f2_ f3_;subst f4_;subst f5_))
      refine hK.out _ _ ⟨(bC BK192.out 0).trans rfl,(bC BK192.out 1).trans rfl,(bC BK193.out 0).trans rfl,(bC BK193.out 1).trans rfl⟩ (fun hHeld => ?_)
      clear hK K
      refine norm_ (a':=?_) ?_ ?_
      rotate_left
      ·show Act.put _ (some 23) _ = _
       simp only [Act.put,q_ia,q_cz,q_cs,i64_w,i32_w]
       rfl
      refine one_ (i:=4) (N:=some 24) #[bT,bT,bT,bT,bT,bf] rfl rfl (by kernel_rfl) (by decide) (fun K hK => ?_)
      refine goes_ Try.func52 (by kernel_rfl) rfl #[.agg #[.slice Ao120 t196.length co120,.slice Ao121 t199.length co121],.agg #[.slice Ao122 t202.length co122,.slice Ao123 t205.length co123]] (by rfl) rfl rfl (by (try simp only [List.map_toArray,List.map_cons,List.map_nil]);first|done|rfl|(simp only [List.length_drop,List.length_take];rfl)) ?_
      with_reducible refine (spec_SameProgram.calls k _ _ t196 _ _ t199 _ _ t202 _ _ t205 t208 _ ?side1 ?side2 ?side3 ?side4 ?side5 ?side6 ?side7 ?side8 A21.out).mono ?_
      (case side1 => repeat (first|exact (Kd.S_reads' HO198.out).2.2|(with_reducible first|refine cA ?_ _|refine cN ?_ _|refine cD ?_)))
      (case side2 => exact (Kd.S_reads' HO198.out).2.1)
      (case side3 => repeat (first|exact (rR HO201.out).2.2|(with_reducible first|refine cA ?_ _|refine cN ?_ _|refine cD ?_)))
      (case side4 => exact (rR HO201.out).2.1)
      (case side5 => repeat (first|exact (Kd.S_reads' HO204.out).2.2|(with_reducible first|refine cA ?_ _|refine cN ?_ _|refine cD ?_)))
      (case side6 => exact (Kd.S_reads' HO204.out).2.1)
      (case side7 => repeat (first|exact (rR HO207.out).2.2|(with_reducible first|refine cA ?_ _|refine cN ?_ _|refine cD ?_)))
      (case side8 => exact (rR HO207.out).2.1)
      rintro e w124 ⟨rfl,hb⟩
      refine ⟨_,rfl,?_⟩
      have n0_:=aM (Kd.S_below (by (with_reducible repeat (first|apply Kd.S_alloc|apply Kd.S_drewN|apply Kd.S_drew));exact HO198.out) hb)
      have n1_:=aM (rB (by (with_reducible repeat (first|apply rA|apply rN|apply rD));exact HO201.out) hb)
      have n2_:=aM (Kd.S_below (by (with_reducible repeat (first|apply Kd.S_alloc|apply Kd.S_drewN|apply Kd.S_drew));exact HO204.out) hb)
      have n3_:=aM (rB (by (with_reducible repeat (first|apply rA|apply rN|apply rD));exact HO207.out) hb)
      have n4_:=aM (bB (g:=gb192) (o:=.cells #[.slice A0_0 l0_0.length c0_0,.slice A0_1 l0_1.length c0_1] 72 (0,0)) (by (with_reducible repeat (first|refine bN ?_ _|refine bD ?_|refine bA ?_ _));exact BK192.out) hb)
      have n5_:=aM (bB (g:=gb193) (o:=.cells #[.slice A1_0 l1_0.length c1_0,.slice A1_1 l1_1.length c1_1] 72 (0,0)) (by (with_reducible repeat (first|refine bN ?_ _|refine bD ?_|refine bA ?_ _));exact BK193.out) hb)
      have n6_:=aM (lP (by repeat (first|(with_reducible first|exact HB.out|apply lA|apply lN|apply lD|refine lS ?_ GE192.out|refine lS ?_ GE193.out)|exact HB.out)) hb)
      clear HO198
      clear HO201
      clear HO204
      clear HO207
      clear BK192
      clear BK193
      clear HB
      have HO198:=n0_
      have HO201:=n1_
      have HO204:=n2_
      have HO207:=n3_
      have BK192:=n4_
      have BK193:=n5_
      have HB:=n6_
      clear n0_ n1_ n2_ n3_ n4_ n5_ n6_
      (try clear hb)
      (try clear hb2)
      (try clear hk)
      (try clear hi)
      refine hK.out _ _ ⟨(bC BK192.out 0).trans rfl,(bC BK192.out 1).trans rfl,(bC BK193.out 0).trans rfl,(bC BK193.out 1).trans rfl⟩ (fun hHeld => ?_)
      clear hK K
      refine norm_ (a':=?_) ?_ ?_
      rotate_left
      ·show Act.put _ (some 24) _ = _
       simp only [Act.put,q_ia,q_cz,q_cs,i64_w,i32_w]
       rfl
      refine pure_ (i:=5) (N:=some 6) (v:=?_) (a':=?_) #[bT,bT,bT,bT,bT,bT] rfl rfl (by kernel_rfl) (fun _ _ _ h => h) (Or.inl ⟨by rfl,?_⟩) ?_ ?_
      rotate_left
      ·intro w';go_simp;with_reducible rfl
      rotate_left
      ·simp only [Act.put,q_ia,q_cz,q_cs,i64_w,i32_w];rfl
      refine done_ (by kernel_rfl) ?_
      have hcz125_0 : w124.cell? ⟨gb192,0,none⟩ = some (.slice A0_0 l0_0.length c0_0):=(bC BK192.out 0).trans rfl
      have hcz125_1 : w124.cell? ⟨gb192,1,none⟩ = some (.slice A0_1 l0_1.length c0_1):=(bC BK192.out 1).trans rfl
      have hfz125_0:=bF BK192.out 0
      have hfz125_1:=bF BK192.out 1
      try go_wp2_with (first|((with_reducible refine gate_callee (f:=53) rfl ?_);refine goesL_ (some 26) rfl rfl Try.func53 (by kernel_rfl) rfl #[.agg #[.slice A0_0 l0_0.length c0_0,.slice A0_1 l0_1.length c0_1]] rfl (by (try simp only [List.map_toArray,List.map_cons,List.map_nil]);first|done|rfl|(simp only [List.length_drop,List.length_take];rfl)) ?_;(with_reducible refine (laws_toProgram.calls k _ _ l0_0 _ _ l0_1 t209 t212 _ ?side1 ?side2 ?side3 ?side4 A22.out).mono ?_);(case side1 => repeat (first|exact (cB HR0_0.out HB.out)|(with_reducible first|refine cA ?_ _|refine cN ?_ _|refine cD ?_)));(case side2 => exact HC0_0.out);(case side3 => repeat (first|exact (cB HR0_1.out HB.out)|(with_reducible first|refine cA ?_ _|refine cN ?_ _|refine cD ?_)));(case side4 => exact HC0_1.out);rintro e w126 ⟨v210,v213,rfl,ho0,ho1,hb⟩;refine ⟨_,rfl,?_⟩;have n0_:=aM (Kd.S_elder' (by (with_reducible repeat (first|apply Kd.S_alloc|apply Kd.S_drewN|apply Kd.S_drew));exact HO198.out) (Kd.S_base ho0) hb);have n1_:=aM (rE (by (with_reducible repeat (first|apply rA|apply rN|apply rD));exact HO201.out) (rS ho1) hb);have n2_:=aM (Kd.S_elder' (by (with_reducible repeat (first|apply Kd.S_alloc|apply Kd.S_drewN|apply Kd.S_drew));exact HO204.out) (Kd.S_base ho0) hb);have n3_:=aM (rE (by (with_reducible repeat (first|apply rA|apply rN|apply rD));exact HO207.out) (rS ho1) hb);have n4_:=aM (Kd.S_lower (Kd.S_new' (Kd.S_new' ho0 (Kd.S_lt (by (with_reducible repeat (first|apply Kd.S_alloc|apply Kd.S_drewN|apply Kd.S_drew));exact HO198.out))) (Kd.S_lt (by (with_reducible repeat (first|apply Kd.S_alloc|apply Kd.S_drewN|apply Kd.S_drew));exact HO204.out))) (lZ (by repeat (first|(with_reducible first|exact HB.out|apply lA|apply lN|apply lD|refine lS ?_ GE192.out|refine lS ?_ GE193.out)|exact HB.out))));have n5_:=aM (rL (rW (rW ho1 (rT (by (with_reducible repeat (first|apply rA|apply rN|apply rD));exact HO201.out))) (rT (by (with_reducible repeat (first|apply rA|apply rN|apply rD));exact HO207.out))) (lZ (by repeat (first|(with_reducible first|exact HB.out|apply lA|apply lN|apply lD|refine lS ?_ GE192.out|refine lS ?_ GE193.out)|exact HB.out))));have n6_:=aM (bB (g:=gb192) (o:=.cells #[.slice A0_0 l0_0.length c0_0,.slice A0_1 l0_1.length c0_1] 72 (0,0)) (by (with_reducible repeat (first|refine bN ?_ _|refine bD ?_|refine bA ?_ _));exact BK192.out) hb);have n7_:=aM (bB (g:=gb193) (o:=.cells #[.slice A1_0 l1_0.length c1_0,.slice A1_1 l1_1.length c1_1] 72 (0,0)) (by (with_reducible repeat (first|refine bN ?_ _|refine bD ?_|refine bA ?_ _));exact BK193.out) hb);have n8_:=aM (lP (by repeat (first|(with_reducible first|exact HB.out|apply lA|apply lN|apply lD|refine lS ?_ GE192.out|refine lS ?_ GE193.out)|exact HB.out)) hb);clear HO198 HO201 HO204 HO207 BK192 BK193 HB;have HO198:=n0_;have HO201:=n1_;have HO204:=n2_;have HO207:=n3_;have HO211:=n4_;have HO214:=n5_;have BK192:=n6_;have BK193:=n7_;have HB:=n8_;clear n0_ n1_ n2_ n3_ n4_ n5_ n6_ n7_ n8_;(try clear hb);(try clear hb2);(try clear hk);(try clear hi);(try clear ho0);(try clear ho1))|((with_reducible refine gate_dst (N:=7) rfl ?_);refine box_event ?hg (N:=7) ?hd (cs:=#[.slice none 0 0,.slice none 0 0]) (t:=78) ?hr ?_;(case hd => rfl);(case hg => rfl);(case hr => first|(go_simp;done)|(go_simp;rfl));intro gb215 hg w127 hbox hb;have n0_:=aM (Kd.S_below (by (with_reducible repeat (first|apply Kd.S_alloc|apply Kd.S_drewN|apply Kd.S_drew));exact HO198.out) hb);have n1_:=aM (rB (by (with_reducible repeat (first|apply rA|apply rN|apply rD));exact HO201.out) hb);have n2_:=aM (Kd.S_below (by (with_reducible repeat (first|apply Kd.S_alloc|apply Kd.S_drewN|apply Kd.S_drew));exact HO204.out) hb);have n3_:=aM (rB (by (with_reducible repeat (first|apply rA|apply rN|apply rD));exact HO207.out) hb);have n4_:=aM (Kd.S_below (by (with_reducible repeat (first|apply Kd.S_alloc|apply Kd.S_drewN|apply Kd.S_drew));exact HO211.out) hb);have n5_:=aM (rB (by (with_reducible repeat (first|apply rA|apply rN|apply rD));exact HO214.out) hb);have n6_:=aM (bB (g:=gb192) (o:=.cells #[.slice A0_0 l0_0.length c0_0,.slice A0_1 l0_1.length c0_1] 72 (0,0)) (by (with_reducible repeat (first|refine bN ?_ _|refine bD ?_|refine bA ?_ _));exact BK192.out) hb);have n7_:=aM (bB (g:=gb193) (o:=.cells #[.slice A1_0 l1_0.length c1_0,.slice A1_1 l1_1.length c1_1] 72 (0,0)) (by (with_reducible repeat (first|refine bN ?_ _|refine bD ?_|refine bA ?_ _));exact BK193.out) hb);have n8_:=aM (lP (by repeat (first|(with_reducible first|exact HB.out|apply lA|apply lN|apply lD|refine lS ?_ GE192.out|refine lS ?_ GE193.out)|exact HB.out)) hb);have n9_:=aM (hbox);have n10_:=aM ((by rw [hg];exact (lZ (by repeat (first|(with_reducible first|exact HB.out|apply lA|apply lN|apply lD|refine lS ?_ GE192.out|refine lS ?_ GE193.out)|exact HB.out))) : w.heap.size ≤ gb215));have n11_:=aM ((by rw [hg];exact (lZ (by repeat (first|(with_reducible first|exact HB.out|apply lA|apply lN|apply lD|refine lS ?_ GE192.out|refine lS ?_ GE193.out)|exact HB.out))) : w.heap.size ≤ gb215));have n12_:=aM ((by rw [hg];exact Nat.ne_of_lt (bL (g:=gb192) (o:=.cells #[.slice A0_0 l0_0.length c0_0,.slice A0_1 l0_1.length c0_1] 72 (0,0)) (by (with_reducible repeat (first|refine bN ?_ _|refine bD ?_|refine bA ?_ _));exact BK192.out)) : gb192 ≠ gb215));have n13_:=aM ((by rw [hg];exact Nat.ne_of_gt (bL (g:=gb192) (o:=.cells #[.slice A0_0 l0_0.length c0_0,.slice A0_1 l0_1.length c0_1] 72 (0,0)) (by (with_reducible repeat (first|refine bN ?_ _|refine bD ?_|refine bA ?_ _));exact BK192.out)) : gb215 ≠ gb192));have n14_:=aM ((by rw [hg];exact Nat.ne_of_lt (bL (g:=gb193) (o:=.cells #[.slice A1_0 l1_0.length c1_0,.slice A1_1 l1_1.length c1_1] 72 (0,0)) (by (with_reducible repeat (first|refine bN ?_ _|refine bD ?_|refine bA ?_ _));exact BK193.out)) : gb193 ≠ gb215));have n15_:=aM ((by rw [hg];exact Nat.ne_of_gt (bL (g:=gb193) (o:=.cells #[.slice A1_0 l1_0.length c1_0,.slice A1_1 l1_1.length c1_1] 72 (0,0)) (by (with_reducible repeat (first|refine bN ?_ _|refine bD ?_|refine bA ?_ _));exact BK193.out)) : gb215 ≠ gb193));clear HO198 HO201 HO204 HO207 HO211 HO214 BK192 BK193 HB;have HO198:=n0_;have HO201:=n1_;have HO204:=n2_;have HO207:=n3_;have HO211:=n4_;have HO214:=n5_;have BK192:=n6_;have BK193:=n7_;have HB:=n8_;have BK215:=n9_;have GW215:=n10_;have GE215:=n11_;have NB192_215:=n12_;have NB215_192:=n13_;have NB193_215:=n14_;have NB215_193:=n15_;clear n0_ n1_ n2_ n3_ n4_ n5_ n6_ n7_ n8_ n9_ n10_ n11_ n12_ n13_ n14_ n15_ hb hbox hg;obtain ⟨Ao128,co128,eo128⟩:=Kd.S_slice HO211.out;subst eo128;have hnb129:=NB215_192.out;have hnc129:=NB192_215.out;have hnb130:=NB215_193.out;have hnc130:=NB193_215.out;have hcz131_0 : w127.cell? ⟨gb215,0,none⟩ = some (.slice none 0 0):=(bC BK215.out 0).trans rfl;have hcz131_1 : w127.cell? ⟨gb215,1,none⟩ = some (.slice none 0 0):=(bC BK215.out 1).trans rfl;have hfz131_0:=bF BK215.out 0;have hfz131_1:=bF BK215.out 1;obtain ⟨Ao132,co132,eo132⟩:=Kd.R_slice HO214.out;subst eo132;have hcz133_0 : w127.cell? ⟨gb193,0,none⟩ = some (.slice A1_0 l1_0.length c1_0):=(bC BK193.out 0).trans rfl;have hcz133_1 : w127.cell? ⟨gb193,1,none⟩ = some (.slice A1_1 l1_1.length c1_1):=(bC BK193.out 1).trans rfl;have hfz133_0:=bF BK193.out 0;have hfz133_1:=bF BK193.out 1)|((with_reducible refine gate_callee (f:=53) rfl ?_);refine goesL_ (some 28) rfl rfl Try.func53 (by kernel_rfl) rfl #[.agg #[.slice A1_0 l1_0.length c1_0,.slice A1_1 l1_1.length c1_1]] rfl (by (try simp only [List.map_toArray,List.map_cons,List.map_nil]);first|done|rfl|(simp only [List.length_drop,List.length_take];rfl)) ?_;(with_reducible refine (laws_toProgram.calls k _ _ l1_0 _ _ l1_1 t216 t219 _ ?side1 ?side2 ?side3 ?side4 A23.out).mono ?_);(case side1 => exact cB HR1_0.out (by repeat (first|(with_reducible first|exact HB.out|apply lA|apply lN|apply lD|refine lS ?_ GE192.out|refine lS ?_ GE193.out|refine lS ?_ GE215.out)|exact HB.out)));(case side2 => exact HC1_0.out);(case side3 => exact cB HR1_1.out (by repeat (first|(with_reducible first|exact HB.out|apply lA|apply lN|apply lD|refine lS ?_ GE192.out|refine lS ?_ GE193.out|refine lS ?_ GE215.out)|exact HB.out)));(case side4 => exact HC1_1.out);rintro e w134 ⟨v217,v220,rfl,ho0,ho1,hb⟩;refine ⟨_,rfl,?_⟩;have n0_:=aM (Kd.S_elder' (by (with_reducible repeat (first|apply Kd.S_alloc|apply Kd.S_drewN|apply Kd.S_drew));exact (Kd.S_mono (Kd.S_far (p:=⟨gb215,1,none⟩) (Kd.S_far (p:=⟨gb215,0,none⟩) (Kd.S_types HO198.out BK215.out (by decide)) (fun _ hk => hk.2) (.slice Ao128 t209.length co128)) (fun _ hk => hk.2) (.slice Ao132 t212.length co132)) (fun _ h_ => h_.1))) (Kd.S_base ho0) hb);have n1_:=aM (rE (by (with_reducible repeat (first|apply rA|apply rN|apply rD));exact (Kd.R_mono (rF (p:=⟨gb215,1,none⟩) (rF (p:=⟨gb215,0,none⟩) (rY HO201.out BK215.out (by decide)) (fun _ hk => hk.2) (.slice Ao128 t209.length co128)) (fun _ hk => hk.2) (.slice Ao132 t212.length co132)) (fun _ h_ => h_.1))) (rS ho1) hb);have n2_:=aM (Kd.S_elder' (by (with_reducible repeat (first|apply Kd.S_alloc|apply Kd.S_drewN|apply Kd.S_drew));exact (Kd.S_mono (Kd.S_far (p:=⟨gb215,1,none⟩) (Kd.S_far (p:=⟨gb215,0,none⟩) (Kd.S_types HO204.out BK215.out (by decide)) (fun _ hk => hk.2) (.slice Ao128 t209.length co128)) (fun _ hk => hk.2) (.slice Ao132 t212.length co132)) (fun _ h_ => h_.1))) (Kd.S_base ho0) hb);have n3_:=aM (rE (by (with_reducible repeat (first|apply rA|apply rN|apply rD));exact (Kd.R_mono (rF (p:=⟨gb215,1,none⟩) (rF (p:=⟨gb215,0,none⟩) (rY HO207.out BK215.out (by decide)) (fun _ hk => hk.2) (.slice Ao128 t209.length co128)) (fun _ hk => hk.2) (.slice Ao132 t212.length co132)) (fun _ h_ => h_.1))) (rS ho1) hb);have n4_:=aM (Kd.S_elder' (by (with_reducible repeat (first|apply Kd.S_alloc|apply Kd.S_drewN|apply Kd.S_drew));exact (Kd.S_mono (Kd.S_far (p:=⟨gb215,1,none⟩) (Kd.S_far (p:=⟨gb215,0,none⟩) (Kd.S_types HO211.out BK215.out (by decide)) (fun _ hk => hk.2) (.slice Ao128 t209.length co128)) (fun _ hk => hk.2) (.slice Ao132 t212.length co132)) (fun _ h_ => h_.1))) (Kd.S_base ho0) hb);have n5_:=aM (rE (by (with_reducible repeat (first|apply rA|apply rN|apply rD));exact (Kd.R_mono (rF (p:=⟨gb215,1,none⟩) (rF (p:=⟨gb215,0,none⟩) (rY HO214.out BK215.out (by decide)) (fun _ hk => hk.2) (.slice Ao128 t209.length co128)) (fun _ hk => hk.2) (.slice Ao132 t212.length co132)) (fun _ h_ => h_.1))) (rS ho1) hb);have n6_:=aM (Kd.S_lower (Kd.S_new' (Kd.S_new' (Kd.S_new' ho0 (Kd.S_lt (by (with_reducible repeat (first|apply Kd.S_alloc|apply Kd.S_drewN|apply Kd.S_drew));exact (Kd.S_mono (Kd.S_far (p:=⟨gb215,1,none⟩) (Kd.S_far (p:=⟨gb215,0,none⟩) (Kd.S_types HO198.out BK215.out (by decide)) (fun _ hk => hk.2) (.slice Ao128 t209.length co128)) (fun _ hk => hk.2) (.slice Ao132 t212.length co132)) (fun _ h_ => h_.1))))) (Kd.S_lt (by (with_reducible repeat (first|apply Kd.S_alloc|apply Kd.S_drewN|apply Kd.S_drew));exact (Kd.S_mono (Kd.S_far (p:=⟨gb215,1,none⟩) (Kd.S_far (p:=⟨gb215,0,none⟩) (Kd.S_types HO204.out BK215.out (by decide)) (fun _ hk => hk.2) (.slice Ao128 t209.length co128)) (fun _ hk => hk.2) (.slice Ao132 t212.length co132)) (fun _ h_ => h_.1))))) (Kd.S_lt (by (with_reducible repeat (first|apply Kd.S_alloc|apply Kd.S_drewN|apply Kd.S_drew));exact (Kd.S_mono (Kd.S_far (p:=⟨gb215,1,none⟩) (Kd.S_far (p:=⟨gb215,0,none⟩) (Kd.S_types HO211.out BK215.out (by decide)) (fun _ hk => hk.2) (.slice Ao128 t209.length co128)) (fun _ hk => hk.2) (.slice Ao132 t212.length co132)) (fun _ h_ => h_.1))))) (lZ (by repeat (first|(with_reducible first|exact HB.out|apply lA|apply lN|apply lD|refine lS ?_ GE192.out|refine lS ?_ GE193.out|refine lS ?_ GE215.out)|exact HB.out))));have n7_:=aM (rL (rW (rW (rW ho1 (rT (by (with_reducible repeat (first|apply rA|apply rN|apply rD));exact (Kd.R_mono (rF (p:=⟨gb215,1,none⟩) (rF (p:=⟨gb215,0,none⟩) (rY HO201.out BK215.out (by decide)) (fun _ hk => hk.2) (.slice Ao128 t209.length co128)) (fun _ hk => hk.2) (.slice Ao132 t212.length co132)) (fun _ h_ => h_.1))))) (rT (by (with_reducible repeat (first|apply rA|apply rN|apply rD));exact (Kd.R_mono (rF (p:=⟨gb215,1,none⟩) (rF (p:=⟨gb215,0,none⟩) (rY HO207.out BK215.out (by decide)) (fun _ hk => hk.2) (.slice Ao128 t209.length co128)) (fun _ hk => hk.2) (.slice Ao132 t212.length co132)) (fun _ h_ => h_.1))))) (rT (by (with_reducible repeat (first|apply rA|apply rN|apply rD));exact (Kd.R_mono (rF (p:=⟨gb215,1,none⟩) (rF (p:=⟨gb215,0,none⟩) (rY HO214.out BK215.out (by decide)) (fun _ hk => hk.2) (.slice Ao128 t209.length co128)) (fun _ hk => hk.2) (.slice Ao132 t212.length co132)) (fun _ h_ => h_.1))))) (lZ (by repeat (first|(with_reducible first|exact HB.out|apply lA|apply lN|apply lD|refine lS ?_ GE192.out|refine lS ?_ GE193.out|refine lS ?_ GE215.out)|exact HB.out))));have n8_:=aM (bB (g:=gb192) (o:=.cells #[.slice A0_0 l0_0.length c0_0,.slice A0_1 l0_1.length c0_1] 72 (0,0)) (by (with_reducible repeat (first|refine bN ?_ _|refine bD ?_|refine bA ?_ _));refine blk_far ?_ NB192_215.out _;(with_reducible repeat (first|refine bN ?_ _|refine bD ?_|refine bA ?_ _));refine blk_far ?_ NB192_215.out _;(with_reducible repeat (first|refine bN ?_ _|refine bD ?_|refine bA ?_ _));exact BK192.out) hb);have n9_:=aM (bB (g:=gb193) (o:=.cells #[.slice A1_0 l1_0.length c1_0,.slice A1_1 l1_1.length c1_1] 72 (0,0)) (by (with_reducible repeat (first|refine bN ?_ _|refine bD ?_|refine bA ?_ _));refine blk_far ?_ NB193_215.out _;(with_reducible repeat (first|refine bN ?_ _|refine bD ?_|refine bA ?_ _));refine blk_far ?_ NB193_215.out _;(with_reducible repeat (first|refine bN ?_ _|refine bD ?_|refine bA ?_ _));exact BK193.out) hb);have n10_:=aM (bB (g:=gb215) (o:=.cells #[.slice Ao128 t209.length co128,.slice Ao132 t212.length co132] 78 (0,0)) (by (with_reducible repeat (first|refine bN ?_ _|refine bD ?_|refine bA ?_ _));refine blk_put (cs:=#[.slice Ao128 t209.length co128,.slice none 0 0]) ?_ 1 _ rfl;(with_reducible repeat (first|refine bN ?_ _|refine bD ?_|refine bA ?_ _));refine blk_put (cs:=#[.slice none 0 0,.slice none 0 0]) ?_ 0 _ rfl;(with_reducible repeat (first|refine bN ?_ _|refine bD ?_|refine bA ?_ _));exact BK215.out) hb);have n11_:=aM (lP (by repeat (first|(with_reducible first|exact HB.out|apply lA|apply lN|apply lD|refine lS ?_ GE192.out|refine lS ?_ GE193.out|refine lS ?_ GE215.out)|exact HB.out)) hb);clear HO198 HO201 HO204 HO207 HO211 HO214 BK192 BK193 BK215 HB;have HO198:=n0_;have HO201:=n1_;have HO204:=n2_;have HO207:=n3_;have HO211:=n4_;have HO214:=n5_;have HO218:=n6_;have HO221:=n7_;have BK192:=n8_;have BK193:=n9_;have BK215:=n10_;have HB:=n11_;clear n0_ n1_ n2_ n3_ n4_ n5_ n6_ n7_ n8_ n9_ n10_ n11_;(try clear hb);(try clear hb2);(try clear hk);(try clear hi);(try clear ho0);(try clear ho1))|((with_reducible refine gate_dst (N:=8) rfl ?_);refine box_event ?hg (N:=8) ?hd (cs:=#[.slice none 0 0,.slice none 0 0]) (t:=78) ?hr ?_;(case hd => rfl);(case hg => rfl);(case hr => first|(go_simp;done)|(go_simp;rfl));intro gb222 hg w135 hbox hb;have n0_:=aM (Kd.S_below (by (with_reducible repeat (first|apply Kd.S_alloc|apply Kd.S_drewN|apply Kd.S_drew));exact HO198.out) hb);have n1_:=aM (rB (by (with_reducible repeat (first|apply rA|apply rN|apply rD));exact HO201.out) hb);have n2_:=aM (Kd.S_below (by (with_reducible repeat (first|apply Kd.S_alloc|apply Kd.S_drewN|apply Kd.S_drew));exact HO204.out) hb);have n3_:=aM (rB (by (with_reducible repeat (first|apply rA|apply rN|apply rD));exact HO207.out) hb);have n4_:=aM (Kd.S_below (by (with_reducible repeat (first|apply Kd.S_alloc|apply Kd.S_drewN|apply Kd.S_drew));exact HO211.out) hb);have n5_:=aM (rB (by (with_reducible repeat (first|apply rA|apply rN|apply rD));exact HO214.out) hb);have n6_:=aM (Kd.S_below (by (with_reducible repeat (first|apply Kd.S_alloc|apply Kd.S_drewN|apply Kd.S_drew));exact HO218.out) hb);have n7_:=aM (rB (by (with_reducible repeat (first|apply rA|apply rN|apply rD));exact HO221.out) hb);have n8_:=aM (bB (g:=gb192) (o:=.cells #[.slice A0_0 l0_0.length c0_0,.slice A0_1 l0_1.length c0_1] 72 (0,0)) (by (with_reducible repeat (first|refine bN ?_ _|refine bD ?_|refine bA ?_ _));exact BK192.out) hb);have n9_:=aM (bB (g:=gb193) (o:=.cells #[.slice A1_0 l1_0.length c1_0,.slice A1_1 l1_1.length c1_1] 72 (0,0)) (by (with_reducible repeat (first|refine bN ?_ _|refine bD ?_|refine bA ?_ _));exact BK193.out) hb);have n10_:=aM (bB (g:=gb215) (o:=.cells #[.slice Ao128 t209.length co128,.slice Ao132 t212.length co132] 78 (0,0)) (by (with_reducible repeat (first|refine bN ?_ _|refine bD ?_|refine bA ?_ _));exact BK215.out) hb);have n11_:=aM (lP (by repeat (first|(with_reducible first|exact HB.out|apply lA|apply lN|apply lD|refine lS ?_ GE192.out|refine lS ?_ GE193.out|refine lS ?_ GE215.out)|exact HB.out)) hb);have n12_:=aM (hbox);have n13_:=aM ((by rw [hg];exact (lZ (by repeat (first|(with_reducible first|exact HB.out|apply lA|apply lN|apply lD|refine lS ?_ GE192.out|refine lS ?_ GE193.out|refine lS ?_ GE215.out)|exact HB.out))) : w.heap.size ≤ gb222));have n14_:=aM ((by rw [hg];exact (lZ (by repeat (first|(with_reducible first|exact HB.out|apply lA|apply lN|apply lD|refine lS ?_ GE192.out|refine lS ?_ GE193.out|refine lS ?_ GE215.out)|exact HB.out))) : w.heap.size ≤ gb222));have n15_:=aM ((by rw [hg];exact Nat.ne_of_lt (bL (g:=gb192) (o:=.cells #[.slice A0_0 l0_0.length c0_0,.slice A0_1 l0_1.length c0_1] 72 (0,0)) (by (with_reducible repeat (first|refine bN ?_ _|refine bD ?_|refine bA ?_ _));exact BK192.out)) : gb192 ≠ gb222));have n16_:=aM ((by rw [hg];exact Nat.ne_of_gt (bL (g:=gb192) (o:=.cells #[.slice A0_0 l0_0.length c0_0,.slice A0_1 l0_1.length c0_1] 72 (0,0)) (by (with_reducible repeat (first|refine bN ?_ _|refine bD ?_|refine bA ?_ _));exact BK192.out)) : gb222 ≠ gb192));have n17_:=aM ((by rw [hg];exact Nat.ne_of_lt (bL (g:=gb193) (o:=.cells #[.slice A1_0 l1_0.length c1_0,.slice A1_1 l1_1.length c1_1] 72 (0,0)) (by (with_reducible repeat (first|refine bN ?_ _|refine bD ?_|refine bA ?_ _));exact BK193.out)) : gb193 ≠ gb222));have n18_:=aM ((by rw [hg];exact Nat.ne_of_gt (bL (g:=gb193) (o:=.cells #[.slice A1_0 l1_0.length c1_0,.slice A1_1 l1_1.length c1_1] 72 (0,0)) (by (with_reducible repeat (first|refine bN ?_ _|refine bD ?_|refine bA ?_ _));exact BK193.out)) : gb222 ≠ gb193));have n19_:=aM ((by rw [hg];exact Nat.ne_of_lt (bL (g:=gb215) (o:=.cells #[.slice Ao128 t209.length co128,.slice Ao132 t212.length co132] 78 (0,0)) (by (with_reducible repeat (first|refine bN ?_ _|refine bD ?_|refine bA ?_ _));exact BK215.out)) : gb215 ≠ gb222));have n20_:=aM ((by rw [hg];exact Nat.ne_of_gt (bL (g:=gb215) (o:=.cells #[.slice Ao128 t209.length co128,.slice Ao132 t212.length co132] 78 (0,0)) (by (with_reducible repeat (first|refine bN ?_ _|refine bD ?_|refine bA ?_ _));exact BK215.out)) : gb222 ≠ gb215));clear HO198 HO201 HO204 HO207 HO211 HO214 HO218 HO221 BK192 BK193 BK215 HB;have HO198:=n0_;have HO201:=n1_;have HO204:=n2_;have HO207:=n3_;have HO211:=n4_;have HO214:=n5_;have HO218:=n6_;have HO221:=n7_;have BK192:=n8_;have BK193:=n9_;have BK215:=n10_;have HB:=n11_;have BK222:=n12_;have GW222:=n13_;have GE222:=n14_;have NB192_222:=n15_;have NB222_192:=n16_;have NB193_222:=n17_;have NB222_193:=n18_;have NB215_222:=n19_;have NB222_215:=n20_;clear n0_ n1_ n2_ n3_ n4_ n5_ n6_ n7_ n8_ n9_ n10_ n11_ n12_ n13_ n14_ n15_ n16_ n17_ n18_ n19_ n20_ hb hbox hg;obtain ⟨Ao136,co136,eo136⟩:=Kd.S_slice HO218.out;subst eo136;have hnb137:=NB222_192.out;have hnc137:=NB192_222.out;have hnb138:=NB222_193.out;have hnc138:=NB193_222.out;have hnb139:=NB222_215.out;have hnc139:=NB215_222.out;have hcz140_0 : w135.cell? ⟨gb222,0,none⟩ = some (.slice none 0 0):=(bC BK222.out 0).trans rfl;have hcz140_1 : w135.cell? ⟨gb222,1,none⟩ = some (.slice none 0 0):=(bC BK222.out 1).trans rfl;have hfz140_0:=bF BK222.out 0;have hfz140_1:=bF BK222.out 1;obtain ⟨Ao141,co141,eo141⟩:=Kd.R_slice HO221.out;subst eo141;have hcz142_0 : w135.cell? ⟨gb215,0,none⟩ = some (.slice Ao128 t209.length co128):=(bC BK215.out 0).trans rfl;have hcz142_1 : w135.cell? ⟨gb215,1,none⟩ = some (.slice Ao132 t212.length co132):=(bC BK215.out 1).trans rfl;have hfz142_0:=bF BK215.out 0;have hfz142_1:=bF BK215.out 1)|((with_reducible refine gate_callee (f:=54) rfl ?_);refine goesL_ (some 31) rfl rfl Try.func54 (by kernel_rfl) rfl #[.agg #[.slice Ao128 t209.length co128,.slice Ao132 t212.length co132],.agg #[.slice Ao136 t216.length co136,.slice Ao141 t219.length co141]] rfl (by (try simp only [List.map_toArray,List.map_cons,List.map_nil]);first|done|rfl|(simp only [List.length_drop,List.length_take];rfl)) ?_;(with_reducible refine (impl_SameProgram.calls k _ _ t209 _ _ t212 _ _ t216 _ _ t219 t223 _ ?side1 ?side2 ?side3 ?side4 ?side5 ?side6 ?side7 ?side8 A24.out).mono ?_);(case side1 => refine (Kd.S_reads' (e:=119) (base:=w.heap.size) (ok:=fun k_ => (((True ∧ some k_ ≠ (.slice Ao120 t196.length co120 : Value).ownBlock) ∧ some k_ ≠ (.slice Ao122 t202.length co122 : Value).ownBlock) ∧ some k_ ≠ (.slice Ao136 t216.length co136 : Value).ownBlock)) (n:=t209.length) (c:=co128) ?_).2.2;exact (by (with_reducible repeat (first|apply Kd.S_alloc|apply Kd.S_drewN|apply Kd.S_drew));exact (Kd.S_mono (Kd.S_far (p:=⟨gb222,1,none⟩) (Kd.S_far (p:=⟨gb222,0,none⟩) (Kd.S_types HO211.out BK222.out (by decide)) (fun _ hk => hk.2) (.slice Ao136 t216.length co136)) (fun _ hk => hk.2) (.slice Ao141 t219.length co141)) (fun _ h_ => h_.1))));(case side2 => exact (Kd.S_reads' HO211.out).2.1);(case side3 => refine (rR (e:=121) (base:=w.heap.size) (ok:=fun k_ => (((True ∧ some k_ ≠ (.slice Ao121 t199.length co121 : Value).ownBlock) ∧ some k_ ≠ (.slice Ao123 t205.length co123 : Value).ownBlock) ∧ some k_ ≠ (.slice Ao141 t219.length co141 : Value).ownBlock)) (n:=t212.length) (c:=co132) ?_).2.2;exact (by (with_reducible repeat (first|apply rA|apply rN|apply rD));exact (Kd.R_mono (rF (p:=⟨gb222,1,none⟩) (rF (p:=⟨gb222,0,none⟩) (rY HO214.out BK222.out (by decide)) (fun _ hk => hk.2) (.slice Ao136 t216.length co136)) (fun _ hk => hk.2) (.slice Ao141 t219.length co141)) (fun _ h_ => h_.1))));(case side4 => exact (rR HO214.out).2.1);(case side5 => refine (Kd.S_reads' (e:=119) (base:=w.heap.size) (ok:=fun k_ => (((True ∧ some k_ ≠ (.slice Ao120 t196.length co120 : Value).ownBlock) ∧ some k_ ≠ (.slice Ao122 t202.length co122 : Value).ownBlock) ∧ some k_ ≠ (.slice Ao128 t209.length co128 : Value).ownBlock)) (n:=t216.length) (c:=co136) ?_).2.2;exact (by (with_reducible repeat (first|apply Kd.S_alloc|apply Kd.S_drewN|apply Kd.S_drew));exact (Kd.S_mono (Kd.S_far (p:=⟨gb222,1,none⟩) (Kd.S_far (p:=⟨gb222,0,none⟩) (Kd.S_types HO218.out BK222.out (by decide)) (fun _ hk => hk.2) (.slice Ao136 t216.length co136)) (fun _ hk => hk.2) (.slice Ao141 t219.length co141)) (fun _ h_ => h_.1))));(case side6 => exact (Kd.S_reads' HO218.out).2.1);(case side7 => refine (rR (e:=121) (base:=w.heap.size) (ok:=fun k_ => (((True ∧ some k_ ≠ (.slice Ao121 t199.length co121 : Value).ownBlock) ∧ some k_ ≠ (.slice Ao123 t205.length co123 : Value).ownBlock) ∧ some k_ ≠ (.slice Ao132 t212.length co132 : Value).ownBlock)) (n:=t219.length) (c:=co141) ?_).2.2;exact (by (with_reducible repeat (first|apply rA|apply rN|apply rD));exact (Kd.R_mono (rF (p:=⟨gb222,1,none⟩) (rF (p:=⟨gb222,0,none⟩) (rY HO221.out BK222.out (by decide)) (fun _ hk => hk.2) (.slice Ao136 t216.length co136)) (fun _ hk => hk.2) (.slice Ao141 t219.length co141)) (fun _ h_ => h_.1))));(case side8 => exact (rR HO221.out).2.1);rintro e w143 ⟨rfl,hb⟩;refine ⟨_,rfl,?_⟩;have n0_:=aM (Kd.S_below (by (with_reducible repeat (first|apply Kd.S_alloc|apply Kd.S_drewN|apply Kd.S_drew));exact (Kd.S_mono (Kd.S_far (p:=⟨gb222,1,none⟩) (Kd.S_far (p:=⟨gb222,0,none⟩) (Kd.S_types HO198.out BK222.out (by decide)) (fun _ hk => hk.2) (.slice Ao136 t216.length co136)) (fun _ hk => hk.2) (.slice Ao141 t219.length co141)) (fun _ h_ => h_.1))) hb);have n1_:=aM (rB (by (with_reducible repeat (first|apply rA|apply rN|apply rD));exact (Kd.R_mono (rF (p:=⟨gb222,1,none⟩) (rF (p:=⟨gb222,0,none⟩) (rY HO201.out BK222.out (by decide)) (fun _ hk => hk.2) (.slice Ao136 t216.length co136)) (fun _ hk => hk.2) (.slice Ao141 t219.length co141)) (fun _ h_ => h_.1))) hb);have n2_:=aM (Kd.S_below (by (with_reducible repeat (first|apply Kd.S_alloc|apply Kd.S_drewN|apply Kd.S_drew));exact (Kd.S_mono (Kd.S_far (p:=⟨gb222,1,none⟩) (Kd.S_far (p:=⟨gb222,0,none⟩) (Kd.S_types HO204.out BK222.out (by decide)) (fun _ hk => hk.2) (.slice Ao136 t216.length co136)) (fun _ hk => hk.2) (.slice Ao141 t219.length co141)) (fun _ h_ => h_.1))) hb);have n3_:=aM (rB (by (with_reducible repeat (first|apply rA|apply rN|apply rD));exact (Kd.R_mono (rF (p:=⟨gb222,1,none⟩) (rF (p:=⟨gb222,0,none⟩) (rY HO207.out BK222.out (by decide)) (fun _ hk => hk.2) (.slice Ao136 t216.length co136)) (fun _ hk => hk.2) (.slice Ao141 t219.length co141)) (fun _ h_ => h_.1))) hb);have n4_:=aM (Kd.S_below (by (with_reducible repeat (first|apply Kd.S_alloc|apply Kd.S_drewN|apply Kd.S_drew));exact (Kd.S_mono (Kd.S_far (p:=⟨gb222,1,none⟩) (Kd.S_far (p:=⟨gb222,0,none⟩) (Kd.S_types HO211.out BK222.out (by decide)) (fun _ hk => hk.2) (.slice Ao136 t216.length co136)) (fun _ hk => hk.2) (.slice Ao141 t219.length co141)) (fun _ h_ => h_.1))) hb);have n5_:=aM (rB (by (with_reducible repeat (first|apply rA|apply rN|apply rD));exact (Kd.R_mono (rF (p:=⟨gb222,1,none⟩) (rF (p:=⟨gb222,0,none⟩) (rY HO214.out BK222.out (by decide)) (fun _ hk => hk.2) (.slice Ao136 t216.length co136)) (fun _ hk => hk.2) (.slice Ao141 t219.length co141)) (fun _ h_ => h_.1))) hb);have n6_:=aM (Kd.S_below (by (with_reducible repeat (first|apply Kd.S_alloc|apply Kd.S_drewN|apply Kd.S_drew));exact (Kd.S_mono (Kd.S_far (p:=⟨gb222,1,none⟩) (Kd.S_far (p:=⟨gb222,0,none⟩) (Kd.S_types HO218.out BK222.out (by decide)) (fun _ hk => hk.2) (.slice Ao136 t216.length co136)) (fun _ hk => hk.2) (.slice Ao141 t219.length co141)) (fun _ h_ => h_.1))) hb);have n7_:=aM (rB (by (with_reducible repeat (first|apply rA|apply rN|apply rD));exact (Kd.R_mono (rF (p:=⟨gb222,1,none⟩) (rF (p:=⟨gb222,0,none⟩) (rY HO221.out BK222.out (by decide)) (fun _ hk => hk.2) (.slice Ao136 t216.length co136)) (fun _ hk => hk.2) (.slice Ao141 t219.length co141)) (fun _ h_ => h_.1))) hb);have n8_:=aM (bB (g:=gb192) (o:=.cells #[.slice A0_0 l0_0.length c0_0,.slice A0_1 l0_1.length c0_1] 72 (0,0)) (by (with_reducible repeat (first|refine bN ?_ _|refine bD ?_|refine bA ?_ _));refine blk_far ?_ NB192_222.out _;(with_reducible repeat (first|refine bN ?_ _|refine bD ?_|refine bA ?_ _));refine blk_far ?_ NB192_222.out _;(with_reducible repeat (first|refine bN ?_ _|refine bD ?_|refine bA ?_ _));exact BK192.out) hb);have n9_:=aM (bB (g:=gb193) (o:=.cells #[.slice A1_0 l1_0.length c1_0,.slice A1_1 l1_1.length c1_1] 72 (0,0)) (by (with_reducible repeat (first|refine bN ?_ _|refine bD ?_|refine bA ?_ _));refine blk_far ?_ NB193_222.out _;(with_reducible repeat (first|refine bN ?_ _|refine bD ?_|refine bA ?_ _));refine blk_far ?_ NB193_222.out _;(with_reducible repeat (first|refine bN ?_ _|refine bD ?_|refine bA ?_ _));exact BK193.out) hb);have n10_:=aM (bB (g:=gb215) (o:=.cells #[.slice Ao128 t209.length co128,.slice Ao132 t212.length co132] 78 (0,0)) (by (with_reducible repeat (first|refine bN ?_ _|refine bD ?_|refine bA ?_ _));refine blk_far ?_ NB215_222.out _;(with_reducible repeat (first|refine bN ?_ _|refine bD ?_|refine bA ?_ _));refine blk_far ?_ NB215_222.out _;(with_reducible repeat (first|refine bN ?_ _|refine bD ?_|refine bA ?_ _));exact BK215.out) hb);have n11_:=aM (bB (g:=gb222) (o:=.cells #[.slice Ao136 t216.length co136,.slice Ao141 t219.length co141] 78 (0,0)) (by (with_reducible repeat (first|refine bN ?_ _|refine bD ?_|refine bA ?_ _));refine blk_put (cs:=#[.slice Ao136 t216.length co136,.slice none 0 0]) ?_ 1 _ rfl;(with_reducible repeat (first|refine bN ?_ _|refine bD ?_|refine bA ?_ _));refine blk_put (cs:=#[.slice none 0 0,.slice none 0 0]) ?_ 0 _ rfl;(with_reducible repeat (first|refine bN ?_ _|refine bD ?_|refine bA ?_ _));exact BK222.out) hb);have n12_:=aM (lP (by repeat (first|(with_reducible first|exact HB.out|apply lA|apply lN|apply lD|refine lS ?_ GE192.out|refine lS ?_ GE193.out|refine lS ?_ GE215.out|refine lS ?_ GE222.out)|exact HB.out)) hb);clear HO198 HO201 HO204 HO207 HO211 HO214 HO218 HO221 BK192 BK193 BK215 BK222 HB;have HO198:=n0_;have HO201:=n1_;have HO204:=n2_;have HO207:=n3_;have HO211:=n4_;have HO214:=n5_;have HO218:=n6_;have HO221:=n7_;have BK192:=n8_;have BK193:=n9_;have BK215:=n10_;have BK222:=n11_;have HB:=n12_;clear n0_ n1_ n2_ n3_ n4_ n5_ n6_ n7_ n8_ n9_ n10_ n11_ n12_;(try clear hb);(try clear hb2);(try clear hk);(try clear hi)))
      have n0_:=aM (Kd.S_drew HO198.out)
      have n1_:=aM (rD HO201.out)
      have n2_:=aM (Kd.S_drew HO204.out)
      have n3_:=aM (rD HO207.out)
      have n4_:=aM (Kd.S_drew HO211.out)
      have n5_:=aM (rD HO214.out)
      have n6_:=aM (Kd.S_drew HO218.out)
      have n7_:=aM (rD HO221.out)
      have n8_:=aM (bD BK192.out)
      have n9_:=aM (bD BK193.out)
      have n10_:=aM (bD BK215.out)
      have n11_:=aM (bD BK222.out)
      have n12_:=aM (lD HB.out)
      clear HO198
      clear HO201
      clear HO204
      clear HO207
      clear HO211
      clear HO214
      clear HO218
      clear HO221
      clear BK192
      clear BK193
      clear BK215
      clear BK222
      clear HB
      have HO198:=n0_
      have HO201:=n1_
      have HO204:=n2_
      have HO207:=n3_
      have HO211:=n4_
      have HO214:=n5_
      have HO218:=n6_
      have HO221:=n7_
      have BK192:=n8_
      have BK193:=n9_
      have BK215:=n10_
      have BK222:=n11_
      have HB:=n12_
      clear n0_ n1_ n2_ n3_ n4_ n5_ n6_ n7_ n8_ n9_ n10_ n11_ n12_
      refine start_ (n:=5) (S:=fun w' => w'.cell? ⟨gb215,0,none⟩ = some (.slice Ao128 t209.length co128) ∧ w'.cell? ⟨gb215,1,none⟩ = some (.slice Ao132 t212.length co132) ∧ w'.cell? ⟨gb192,0,none⟩ = some (.slice A0_0 l0_0.length c0_0) ∧ w'.cell? ⟨gb192,1,none⟩ = some (.slice A0_1 l0_1.length c0_1)) (ds:=[]) #[bf,bf,bf,bf,bf] (by kernel_rfl) rfl rfl ⟨(bC BK215.out 0).trans rfl,(bC BK215.out 1).trans rfl,(bC BK192.out 0).trans rfl,(bC BK192.out 1).trans rfl⟩ (fun hHeld => ?_)
      generalize w143.drew = w144 at HO198 HO201 HO204 HO207 HO211 HO214 HO218 HO221 BK192 BK193 BK215 BK222 HB hHeld ⊢
      refine take_ (i:=0) (N:=some 35) (v:=?_) (a':=?_) #[bT,bf,bf,bf,bf] rfl rfl (by kernel_rfl) (fun _ _ _ h => h) (Or.inl ⟨by rfl,?_⟩) hHeld ?_ ?_
      rotate_left
      ·rintro w' ⟨s0,s1,s2,s3⟩
       go_simp
       with_reducible rfl
      rotate_left
      ·simp only [Act.put,q_ia,q_cz,q_cs,i64_w,i32_w];rfl
      refine take_ (i:=1) (N:=some 36) (v:=?_) (a':=?_) #[bT,bT,bf,bf,bf] rfl rfl (by kernel_rfl) (fun _ _ _ h => h) (Or.inl ⟨by rfl,?_⟩) hHeld ?_ ?_
      rotate_left
      ·rintro w' ⟨s0,s1,s2,s3⟩
       go_simp
       with_reducible rfl
      rotate_left
      ·simp only [Act.put,q_ia,q_cz,q_cs,i64_w,i32_w];rfl
      refine one_ (i:=2) (N:=some 37) #[bT,bT,bT,bf,bf] rfl rfl (by kernel_rfl) (by decide) (fun K hK => ?_)
      refine goes_ Try.func53 (by kernel_rfl) rfl #[.agg #[.slice A0_0 l0_0.length c0_0,.slice A0_1 l0_1.length c0_1]] (by rfl) rfl rfl (by (try simp only [List.map_toArray,List.map_cons,List.map_nil]);first|done|rfl|(simp only [List.length_drop,List.length_take];rfl)) ?_
      with_reducible refine (laws_toProgram.calls k _ _ l0_0 _ _ l0_1 t224 t227 _ ?side1 ?side2 ?side3 ?side4 A60.out).mono ?_
      (case side1 => repeat (first|exact (cB HR0_0.out HB.out)|(with_reducible first|refine cA ?_ _|refine cN ?_ _|refine cD ?_)))
      (case side2 => exact HC0_0.out)
      (case side3 => repeat (first|exact (cB HR0_1.out HB.out)|(with_reducible first|refine cA ?_ _|refine cN ?_ _|refine cD ?_)))
      (case side4 => exact HC0_1.out)
      rintro e w145 ⟨v225,v228,rfl,ho0,ho1,hb⟩
      refine ⟨_,rfl,?_⟩
      have n0_:=aM (Kd.S_elder' (by (with_reducible repeat (first|apply Kd.S_alloc|apply Kd.S_drewN|apply Kd.S_drew));exact HO198.out) (Kd.S_base ho0) hb)
      have n1_:=aM (rE (by (with_reducible repeat (first|apply rA|apply rN|apply rD));exact HO201.out) (rS ho1) hb)
      have n2_:=aM (Kd.S_elder' (by (with_reducible repeat (first|apply Kd.S_alloc|apply Kd.S_drewN|apply Kd.S_drew));exact HO204.out) (Kd.S_base ho0) hb)
      have n3_:=aM (rE (by (with_reducible repeat (first|apply rA|apply rN|apply rD));exact HO207.out) (rS ho1) hb)
      have n4_:=aM (Kd.S_elder' (by (with_reducible repeat (first|apply Kd.S_alloc|apply Kd.S_drewN|apply Kd.S_drew));exact HO211.out) (Kd.S_base ho0) hb)
      have n5_:=aM (rE (by (with_reducible repeat (first|apply rA|apply rN|apply rD));exact HO214.out) (rS ho1) hb)
      have n6_:=aM (Kd.S_elder' (by (with_reducible repeat (first|apply Kd.S_alloc|apply Kd.S_drewN|apply Kd.S_drew));exact HO218.out) (Kd.S_base ho0) hb)
      have n7_:=aM (rE (by (with_reducible repeat (first|apply rA|apply rN|apply rD));exact HO221.out) (rS ho1) hb)
      have n8_:=aM (Kd.S_lower (Kd.S_new' (Kd.S_new' (Kd.S_new' (Kd.S_new' ho0 (Kd.S_lt (by (with_reducible repeat (first|apply Kd.S_alloc|apply Kd.S_drewN|apply Kd.S_drew));exact HO198.out))) (Kd.S_lt (by (with_reducible repeat (first|apply Kd.S_alloc|apply Kd.S_drewN|apply Kd.S_drew));exact HO204.out))) (Kd.S_lt (by (with_reducible repeat (first|apply Kd.S_alloc|apply Kd.S_drewN|apply Kd.S_drew));exact HO211.out))) (Kd.S_lt (by (with_reducible repeat (first|apply Kd.S_alloc|apply Kd.S_drewN|apply Kd.S_drew));exact HO218.out))) (lZ (by repeat (first|(with_reducible first|exact HB.out|apply lA|apply lN|apply lD|refine lS ?_ GE192.out|refine lS ?_ GE193.out|refine lS ?_ GE215.out|refine lS ?_ GE222.out)|exact HB.out))))
      have n9_:=aM (rL (rW (rW (rW (rW ho1 (rT (by (with_reducible repeat (first|apply rA|apply rN|apply rD));exact HO201.out))) (rT (by (with_reducible repeat (first|apply rA|apply rN|apply rD));exact HO207.out))) (rT (by (with_reducible repeat (first|apply rA|apply rN|apply rD));exact HO214.out))) (rT (by (with_reducible repeat (first|apply rA|apply rN|apply rD));exact HO221.out))) (lZ (by repeat (first|(with_reducible first|exact HB.out|apply lA|apply lN|apply lD|refine lS ?_ GE192.out|refine lS ?_ GE193.out|refine lS ?_ GE215.out|refine lS ?_ GE222.out)|exact HB.out))))
      have n10_:=aM (bB (g:=gb192) (o:=.cells #[.slice A0_0 l0_0.length c0_0,.slice A0_1 l0_1.length c0_1] 72 (0,0)) (by (with_reducible repeat (first|refine bN ?_ _|refine bD ?_|refine bA ?_ _));exact BK192.out) hb)
      have n11_:=aM (bB (g:=gb193) (o:=.cells #[.slice A1_0 l1_0.length c1_0,.slice A1_1 l1_1.length c1_1] 72 (0,0)) (by (with_reducible repeat (first|refine bN ?_ _|refine bD ?_|refine bA ?_ _));exact BK193.out) hb)
      have n12_:=aM (bB (g:=gb215) (o:=.cells #[.slice Ao128 t209.length co128,.slice Ao132 t212.length co132] 78 (0,0)) (by (with_reducible repeat (first|refine bN ?_ _|refine bD ?_|refine bA ?_ _));exact BK215.out) hb)
      have n13_:=aM (bB (g:=gb222) (o:=.cells #[.slice Ao136 t216.length co136,.slice Ao141 t219.length co141] 78 (0,0)) (by (with_reducible repeat (first|refine bN ?_ _|refine bD ?_|refine bA ?_ _));exact BK222.out) hb)
      have n14_:=aM (lP (by repeat (first|(with_reducible first|exact HB.out|apply lA|apply lN|apply lD|refine lS ?_ GE192.out|refine lS ?_ GE193.out|refine lS ?_ GE215.out|refine lS ?_ GE222.out)|exact HB.out)) hb)
      clear HO198
      clear HO201
      clear HO204
      clear HO207
      clear HO211
      clear HO214
      clear HO218
      clear HO221
      clear BK192
      clear BK193
      clear BK215
      clear BK222
      clear HB
      have HO198:=n0_
      have HO201:=n1_
      have HO204:=n2_
      have HO207:=n3_
      have HO211:=n4_
      have HO214:=n5_
      have HO218:=n6_
      have HO221:=n7_
      have HO226:=n8_
      have HO229:=n9_
      have BK192:=n10_
      have BK193:=n11_
      have BK215:=n12_
      have BK222:=n13_
      have HB:=n14_
      clear n0_ n1_ n2_ n3_ n4_ n5_ n6_ n7_ n8_ n9_ n10_ n11_ n12_ n13_ n14_
      (try clear hb)
      (try clear hb2)
      (try clear hk)
      (try clear hi)
      (try clear ho0)
      (try clear ho1)
      obtain ⟨Ao146,co146,eo146⟩:=Kd.S_slice HO226.out
      (first|subst eo146|(injection eo146 with f1_ f2_ f3_;have f4_:=f1_.symm;have f5_:=f3_.symm;clear f1_ f2_ f3_;subst f4_;subst f5_))
      obtain ⟨Ao147,co147,eo147⟩:=Kd.R_slice HO229.out
      (first|subst eo147|(injection eo147 with f1_ f2_ f3_;have f4_:=f1_.symm;have f5_:=f3_.symm;clear f1_ f2_ f3_;subst f4_;subst f5_))
      refine hK.out _ _ ⟨(bC BK215.out 0).trans rfl,(bC BK215.out 1).trans rfl,(bC BK192.out 0).trans rfl,(bC BK192.out 1).trans rfl⟩ (fun hHeld => ?_)
      clear hK K
      refine norm_ (a':=?_) ?_ ?_
      rotate_left
      ·show Act.put _ (some 37) _ = _
       simp only [Act.put,q_ia,q_cz,q_cs,i64_w,i32_w]
       rfl
      refine one_ (i:=3) (N:=some 38) #[bT,bT,bT,bT,bf] rfl rfl (by kernel_rfl) (by decide) (fun K hK => ?_)
      refine goes_ Try.func55 (by kernel_rfl) rfl #[.agg #[.slice Ao128 t209.length co128,.slice Ao132 t212.length co132],.agg #[.slice Ao146 t224.length co146,.slice Ao147 t227.length co147]] (by rfl) rfl rfl (by (try simp only [List.map_toArray,List.map_cons,List.map_nil]);first|done|rfl|(simp only [List.length_drop,List.length_take];rfl)) ?_
      with_reducible refine (laws_eqProgram.calls k _ _ t209 _ _ t212 _ _ t224 _ _ t227 true _ ?side1 ?side2 ?side3 ?side4 ?side5 ?side6 ?side7 ?side8 A61.out).mono ?_
      (case side1 => repeat (first|exact (Kd.S_reads' HO211.out).2.2|(with_reducible first|refine cA ?_ _|refine cN ?_ _|refine cD ?_)))
      (case side2 => exact (Kd.S_reads' HO211.out).2.1)
      (case side3 => repeat (first|exact (rR HO214.out).2.2|(with_reducible first|refine cA ?_ _|refine cN ?_ _|refine cD ?_)))
      (case side4 => exact (rR HO214.out).2.1)
      (case side5 => repeat (first|exact (Kd.S_reads' HO226.out).2.2|(with_reducible first|refine cA ?_ _|refine cN ?_ _|refine cD ?_)))
      (case side6 => exact (Kd.S_reads' HO226.out).2.1)
      (case side7 => repeat (first|exact (rR HO229.out).2.2|(with_reducible first|refine cA ?_ _|refine cN ?_ _|refine cD ?_)))
      (case side8 => exact (rR HO229.out).2.1)
      rintro e w148 ⟨rfl,hb⟩
      refine ⟨_,rfl,?_⟩
      have n0_:=aM (Kd.S_below (by (with_reducible repeat (first|apply Kd.S_alloc|apply Kd.S_drewN|apply Kd.S_drew));exact HO198.out) hb)
      have n1_:=aM (rB (by (with_reducible repeat (first|apply rA|apply rN|apply rD));exact HO201.out) hb)
      have n2_:=aM (Kd.S_below (by (with_reducible repeat (first|apply Kd.S_alloc|apply Kd.S_drewN|apply Kd.S_drew));exact HO204.out) hb)
      have n3_:=aM (rB (by (with_reducible repeat (first|apply rA|apply rN|apply rD));exact HO207.out) hb)
      have n4_:=aM (Kd.S_below (by (with_reducible repeat (first|apply Kd.S_alloc|apply Kd.S_drewN|apply Kd.S_drew));exact HO211.out) hb)
      have n5_:=aM (rB (by (with_reducible repeat (first|apply rA|apply rN|apply rD));exact HO214.out) hb)
      have n6_:=aM (Kd.S_below (by (with_reducible repeat (first|apply Kd.S_alloc|apply Kd.S_drewN|apply Kd.S_drew));exact HO218.out) hb)
      have n7_:=aM (rB (by (with_reducible repeat (first|apply rA|apply rN|apply rD));exact HO221.out) hb)
      have n8_:=aM (Kd.S_below (by (with_reducible repeat (first|apply Kd.S_alloc|apply Kd.S_drewN|apply Kd.S_drew));exact HO226.out) hb)
      have n9_:=aM (rB (by (with_reducible repeat (first|apply rA|apply rN|apply rD));exact HO229.out) hb)
      have n10_:=aM (bB (g:=gb192) (o:=.cells #[.slice A0_0 l0_0.length c0_0,.slice A0_1 l0_1.length c0_1] 72 (0,0)) (by (with_reducible repeat (first|refine bN ?_ _|refine bD ?_|refine bA ?_ _));exact BK192.out) hb)
      have n11_:=aM (bB (g:=gb193) (o:=.cells #[.slice A1_0 l1_0.length c1_0,.slice A1_1 l1_1.length c1_1] 72 (0,0)) (by (with_reducible repeat (first|refine bN ?_ _|refine bD ?_|refine bA ?_ _));exact BK193.out) hb)
      have n12_:=aM (bB (g:=gb215) (o:=.cells #[.slice Ao128 t209.length co128,.slice Ao132 t212.length co132] 78 (0,0)) (by (with_reducible repeat (first|refine bN ?_ _|refine bD ?_|refine bA ?_ _));exact BK215.out) hb)
      have n13_:=aM (bB (g:=gb222) (o:=.cells #[.slice Ao136 t216.length co136,.slice Ao141 t219.length co141] 78 (0,0)) (by (with_reducible repeat (first|refine bN ?_ _|refine bD ?_|refine bA ?_ _));exact BK222.out) hb)
      have n14_:=aM (lP (by repeat (first|(with_reducible first|exact HB.out|apply lA|apply lN|apply lD|refine lS ?_ GE192.out|refine lS ?_ GE193.out|refine lS ?_ GE215.out|refine lS ?_ GE222.out)|exact HB.out)) hb)
      clear HO198
      clear HO201
      clear HO204
      clear HO207
      clear HO211
      clear HO214
      clear HO218
      clear HO221
      clear HO226
      clear HO229
      clear BK192
      clear BK193
      clear BK215
      clear BK222
      clear HB
      have HO198:=n0_
      have HO201:=n1_
      have HO204:=n2_
      have HO207:=n3_
      have HO211:=n4_
      have HO214:=n5_
      have HO218:=n6_
      have HO221:=n7_
      have HO226:=n8_
      have HO229:=n9_
      have BK192:=n10_
      have BK193:=n11_
      have BK215:=n12_
      have BK222:=n13_
      have HB:=n14_
      clear n0_ n1_ n2_ n3_ n4_ n5_ n6_ n7_ n8_ n9_ n10_ n11_ n12_ n13_ n14_
      (try clear hb)
      (try clear hb2)
      (try clear hk)
      (try clear hi)
      refine hK.out _ _ ⟨(bC BK215.out 0).trans rfl,(bC BK215.out 1).trans rfl,(bC BK192.out 0).trans rfl,(bC BK192.out 1).trans rfl⟩ (fun hHeld => ?_)
      clear hK K
      refine norm_ (a':=?_) ?_ ?_
      rotate_left
      ·show Act.put _ (some 38) _ = _
       simp only [Act.put,q_ia,q_cz,q_cs,i64_w,i32_w]
       rfl
      refine pure_ (i:=4) (N:=some 39) (v:=?_) (a':=?_) #[bT,bT,bT,bT,bT] rfl rfl (by kernel_rfl) (fun _ _ _ h => h) (Or.inl ⟨by rfl,?_⟩) ?_ ?_
      rotate_left
      ·intro w';go_simp;with_reducible rfl
      rotate_left
      ·simp only [Act.put,q_ia,q_cz,q_cs,i64_w,i32_w];rfl
      refine done_ (by kernel_rfl) ?_
      try go_wp2
      have n0_:=aM (Kd.S_drew HO198.out)
      have n1_:=aM (rD HO201.out)
      have n2_:=aM (Kd.S_drew HO204.out)
      have n3_:=aM (rD HO207.out)
      have n4_:=aM (Kd.S_drew HO211.out)
      have n5_:=aM (rD HO214.out)
      have n6_:=aM (Kd.S_drew HO218.out)
      have n7_:=aM (rD HO221.out)
      have n8_:=aM (Kd.S_drew HO226.out)
      have n9_:=aM (rD HO229.out)
      have n10_:=aM (bD BK192.out)
      have n11_:=aM (bD BK193.out)
      have n12_:=aM (bD BK215.out)
      have n13_:=aM (bD BK222.out)
      have n14_:=aM (lD HB.out)
      clear HO198
      clear HO201
      clear HO204
      clear HO207
      clear HO211
      clear HO214
      clear HO218
      clear HO221
      clear HO226
      clear HO229
      clear BK192
      clear BK193
      clear BK215
      clear BK222
      clear HB
      have HO198:=n0_
      have HO201:=n1_
      have HO204:=n2_
      have HO207:=n3_
      have HO211:=n4_
      have HO214:=n5_
      have HO218:=n6_
      have HO221:=n7_
      have HO226:=n8_
      have HO229:=n9_
      have BK192:=n10_
      have BK193:=n11_
      have BK215:=n12_
      have BK222:=n13_
      have HB:=n14_
      clear n0_ n1_ n2_ n3_ n4_ n5_ n6_ n7_ n8_ n9_ n10_ n11_ n12_ n13_ n14_
      refine start_ (n:=5) (S:=fun w' => w'.cell? ⟨gb222,0,none⟩ = some (.slice Ao136 t216.length co136) ∧ w'.cell? ⟨gb222,1,none⟩ = some (.slice Ao141 t219.length co141) ∧ w'.cell? ⟨gb193,0,none⟩ = some (.slice A1_0 l1_0.length c1_0) ∧ w'.cell? ⟨gb193,1,none⟩ = some (.slice A1_1 l1_1.length c1_1)) (ds:=[]) #[bf,bf,bf,bf,bf] (by kernel_rfl) rfl rfl ⟨(bC BK222.out 0).trans rfl,(bC BK222.out 1).trans rfl,(bC BK193.out 0).trans rfl,(bC BK193.out 1).trans rfl⟩ (fun hHeld => ?_)
      generalize w148.drew = w149 at HO198 HO201 HO204 HO207 HO211 HO214 HO218 HO221 HO226 HO229 BK192 BK193 BK215 BK222 HB hHeld ⊢
      refine take_ (i:=0) (N:=some 40) (v:=?_) (a':=?_) #[bT,bf,bf,bf,bf] rfl rfl (by kernel_rfl) (fun _ _ _ h => h) (Or.inl ⟨by rfl,?_⟩) hHeld ?_ ?_
      rotate_left
      ·rintro w' ⟨s0,s1,s2,s3⟩
       go_simp
       with_reducible rfl
      rotate_left
      ·simp only [Act.put,q_ia,q_cz,q_cs,i64_w,i32_w];rfl
      refine take_ (i:=1) (N:=some 41) (v:=?_) (a':=?_) #[bT,bT,bf,bf,bf] rfl rfl (by kernel_rfl) (fun _ _ _ h => h) (Or.inl ⟨by rfl,?_⟩) hHeld ?_ ?_
      rotate_left
      ·rintro w' ⟨s0,s1,s2,s3⟩
       go_simp
       with_reducible rfl
      rotate_left
      ·simp only [Act.put,q_ia,q_cz,q_cs,i64_w,i32_w];rfl
      refine one_ (i:=2) (N:=some 42) #[bT,bT,bT,bf,bf] rfl rfl (by kernel_rfl) (by decide) (fun K hK => ?_)
      refine goes_ Try.func53 (by kernel_rfl) rfl #[.agg #[.slice A1_0 l1_0.length c1_0,.slice A1_1 l1_1.length c1_1]] (by rfl) rfl rfl (by (try simp only [List.map_toArray,List.map_cons,List.map_nil]);first|done|rfl|(simp only [List.length_drop,List.length_take];rfl)) ?_
      with_reducible refine (laws_toProgram.calls k _ _ l1_0 _ _ l1_1 t231 t234 _ ?side1 ?side2 ?side3 ?side4 A63.out).mono ?_
      (case side1 => repeat (first|exact (cB HR1_0.out HB.out)|(with_reducible first|refine cA ?_ _|refine cN ?_ _|refine cD ?_)))
      (case side2 => exact HC1_0.out)
      (case side3 => repeat (first|exact (cB HR1_1.out HB.out)|(with_reducible first|refine cA ?_ _|refine cN ?_ _|refine cD ?_)))
      (case side4 => exact HC1_1.out)
      rintro e w150 ⟨v232,v235,rfl,ho0,ho1,hb⟩
      refine ⟨_,rfl,?_⟩
      have n0_:=aM (Kd.S_elder' (by (with_reducible repeat (first|apply Kd.S_alloc|apply Kd.S_drewN|apply Kd.S_drew));exact HO198.out) (Kd.S_base ho0) hb)
      have n1_:=aM (rE (by (with_reducible repeat (first|apply rA|apply rN|apply rD));exact HO201.out) (rS ho1) hb)
      have n2_:=aM (Kd.S_elder' (by (with_reducible repeat (first|apply Kd.S_alloc|apply Kd.S_drewN|apply Kd.S_drew));exact HO204.out) (Kd.S_base ho0) hb)
      have n3_:=aM (rE (by (with_reducible repeat (first|apply rA|apply rN|apply rD));exact HO207.out) (rS ho1) hb)
      have n4_:=aM (Kd.S_elder' (by (with_reducible repeat (first|apply Kd.S_alloc|apply Kd.S_drewN|apply Kd.S_drew));exact HO211.out) (Kd.S_base ho0) hb)
      have n5_:=aM (rE (by (with_reducible repeat (first|apply rA|apply rN|apply rD));exact HO214.out) (rS ho1) hb)
      have n6_:=aM (Kd.S_elder' (by (with_reducible repeat (first|apply Kd.S_alloc|apply Kd.S_drewN|apply Kd.S_drew));exact HO218.out) (Kd.S_base ho0) hb)
      have n7_:=aM (rE (by (with_reducible repeat (first|apply rA|apply rN|apply rD));exact HO221.out) (rS ho1) hb)
      have n8_:=aM (Kd.S_elder' (by (with_reducible repeat (first|apply Kd.S_alloc|apply Kd.S_drewN|apply Kd.S_drew));exact HO226.out) (Kd.S_base ho0) hb)
      have n9_:=aM (rE (by (with_reducible repeat (first|apply rA|apply rN|apply rD));exact HO229.out) (rS ho1) hb)
      have n10_:=aM (Kd.S_lower (Kd.S_new' (Kd.S_new' (Kd.S_new' (Kd.S_new' (Kd.S_new' ho0 (Kd.S_lt (by (with_reducible repeat (first|apply Kd.S_alloc|apply Kd.S_drewN|apply Kd.S_drew));exact HO198.out))) (Kd.S_lt (by (with_reducible repeat (first|apply Kd.S_alloc|apply Kd.S_drewN|apply Kd.S_drew));exact HO204.out))) (Kd.S_lt (by (with_reducible repeat (first|apply Kd.S_alloc|apply Kd.S_drewN|apply Kd.S_drew));exact HO211.out))) (Kd.S_lt (by (with_reducible repeat (first|apply Kd.S_alloc|apply Kd.S_drewN|apply Kd.S_drew));exact HO218.out))) (Kd.S_lt (by (with_reducible repeat (first|apply Kd.S_alloc|apply Kd.S_drewN|apply Kd.S_drew));exact HO226.out))) (lZ (by repeat (first|(with_reducible first|exact HB.out|apply lA|apply lN|apply lD|refine lS ?_ GE192.out|refine lS ?_ GE193.out|refine lS ?_ GE215.out|refine lS ?_ GE222.out)|exact HB.out))))
      have n11_:=aM (rL (rW (rW (rW (rW (rW ho1 (rT (by (with_reducible repeat (first|apply rA|apply rN|apply rD));exact HO201.out))) (rT (by (with_reducible repeat (first|apply rA|apply rN|apply rD));exact HO207.out))) (rT (by (with_reducible repeat (first|apply rA|apply rN|apply rD));exact HO214.out))) (rT (by (with_reducible repeat (first|apply rA|apply rN|apply rD));exact HO221.out))) (rT (by (with_reducible repeat (first|apply rA|apply rN|apply rD));exact HO229.out))) (lZ (by repeat (first|(with_reducible first|exact HB.out|apply lA|apply lN|apply lD|refine lS ?_ GE192.out|refine lS ?_ GE193.out|refine lS ?_ GE215.out|refine lS ?_ GE222.out)|exact HB.out))))
      have n12_:=aM (bB (g:=gb192) (o:=.cells #[.slice A0_0 l0_0.length c0_0,.slice A0_1 l0_1.length c0_1] 72 (0,0)) (by (with_reducible repeat (first|refine bN ?_ _|refine bD ?_|refine bA ?_ _));exact BK192.out) hb)
      have n13_:=aM (bB (g:=gb193) (o:=.cells #[.slice A1_0 l1_0.length c1_0,.slice A1_1 l1_1.length c1_1] 72 (0,0)) (by (with_reducible repeat (first|refine bN ?_ _|refine bD ?_|refine bA ?_ _));exact BK193.out) hb)
      have n14_:=aM (bB (g:=gb215) (o:=.cells #[.slice Ao128 t209.length co128,.slice Ao132 t212.length co132] 78 (0,0)) (by (with_reducible repeat (first|refine bN ?_ _|refine bD ?_|refine bA ?_ _));exact BK215.out) hb)
      have n15_:=aM (bB (g:=gb222) (o:=.cells #[.slice Ao136 t216.length co136,.slice Ao141 t219.length co141] 78 (0,0)) (by (with_reducible repeat (first|refine bN ?_ _|refine bD ?_|refine bA ?_ _));exact BK222.out) hb)
      have n16_:=aM (lP (by repeat (first|(with_reducible first|exact HB.out|apply lA|apply lN|apply lD|refine lS ?_ GE192.out|refine lS ?_ GE193.out|refine lS ?_ GE215.out|refine lS ?_ GE222.out)|exact HB.out)) hb)
      clear HO198
      clear HO201
      clear HO204
      clear HO207
      clear HO211
      clear HO214
      clear HO218
      clear HO221
      clear HO226
      clear HO229
      clear BK192
      clear BK193
      clear BK215
      clear BK222
      clear HB
      have HO198:=n0_
      have HO201:=n1_
      have HO204:=n2_
      have HO207:=n3_
      have HO211:=n4_
      have HO214:=n5_
      have HO218:=n6_
      have HO221:=n7_
      have HO226:=n8_
      have HO229:=n9_
      have HO233:=n10_
      have HO236:=n11_
      have BK192:=n12_
      have BK193:=n13_
      have BK215:=n14_
      have BK222:=n15_
      have HB:=n16_
      clear n0_ n1_ n2_ n3_ n4_ n5_ n6_ n7_ n8_ n9_ n10_ n11_ n12_ n13_ n14_ n15_ n16_
      (try clear hb)
      (try clear hb2)
      (try clear hk)
      (try clear hi)
      (try clear ho0)
      (try clear ho1)
      obtain ⟨Ao151,co151,eo151⟩:=Kd.S_slice HO233.out
      (first|subst eo151|(injection eo151 with f1_ f2_ f3_;have f4_:=f1_.symm;have f5_:=f3_.symm;clear f1_ f2_ f3_;subst f4_;subst f5_))
      obtain ⟨Ao152,co152,eo152⟩:=Kd.R_slice HO236.out
      (first|subst eo152|(injection eo152 with f1_ f2_ f3_;have f4_:=f1_.symm;have f5_:=f3_.symm;clear f1_ f2_ f3_;subst f4_;subst f5_))
      refine hK.out _ _ ⟨(bC BK222.out 0).trans rfl,(bC BK222.out 1).trans rfl,(bC BK193.out 0).trans rfl,(bC BK193.out 1).trans rfl⟩ (fun hHeld => ?_)
      clear hK K
      refine norm_ (a':=?_) ?_ ?_
      rotate_left
      ·show Act.put _ (some 42) _ = _
       simp only [Act.put,q_ia,q_cz,q_cs,i64_w,i32_w]
       rfl
      refine one_ (i:=3) (N:=some 43) #[bT,bT,bT,bT,bf] rfl rfl (by kernel_rfl) (by decide) (fun K hK => ?_)
      refine goes_ Try.func55 (by kernel_rfl) rfl #[.agg #[.slice Ao136 t216.length co136,.slice Ao141 t219.length co141],.agg #[.slice Ao151 t231.length co151,.slice Ao152 t234.length co152]] (by rfl) rfl rfl (by (try simp only [List.map_toArray,List.map_cons,List.map_nil]);first|done|rfl|(simp only [List.length_drop,List.length_take];rfl)) ?_
      with_reducible refine (laws_eqProgram.calls k _ _ t216 _ _ t219 _ _ t231 _ _ t234 false _ ?side1 ?side2 ?side3 ?side4 ?side5 ?side6 ?side7 ?side8 A64.out).mono ?_
      (case side1 => repeat (first|exact (Kd.S_reads' HO218.out).2.2|(with_reducible first|refine cA ?_ _|refine cN ?_ _|refine cD ?_)))
      (case side2 => exact (Kd.S_reads' HO218.out).2.1)
      (case side3 => repeat (first|exact (rR HO221.out).2.2|(with_reducible first|refine cA ?_ _|refine cN ?_ _|refine cD ?_)))
      (case side4 => exact (rR HO221.out).2.1)
      (case side5 => repeat (first|exact (Kd.S_reads' HO233.out).2.2|(with_reducible first|refine cA ?_ _|refine cN ?_ _|refine cD ?_)))
      (case side6 => exact (Kd.S_reads' HO233.out).2.1)
      (case side7 => repeat (first|exact (rR HO236.out).2.2|(with_reducible first|refine cA ?_ _|refine cN ?_ _|refine cD ?_)))
      (case side8 => exact (rR HO236.out).2.1)
      rintro e w153 ⟨rfl,hb⟩
      refine ⟨_,rfl,?_⟩
      have n0_:=aM (Kd.S_below (by (with_reducible repeat (first|apply Kd.S_alloc|apply Kd.S_drewN|apply Kd.S_drew));exact HO198.out) hb)
      have n1_:=aM (rB (by (with_reducible repeat (first|apply rA|apply rN|apply rD));exact HO201.out) hb)
      have n2_:=aM (Kd.S_below (by (with_reducible repeat (first|apply Kd.S_alloc|apply Kd.S_drewN|apply Kd.S_drew));exact HO204.out) hb)
      have n3_:=aM (rB (by (with_reducible repeat (first|apply rA|apply rN|apply rD));exact HO207.out) hb)
      have n4_:=aM (Kd.S_below (by (with_reducible repeat (first|apply Kd.S_alloc|apply Kd.S_drewN|apply Kd.S_drew));exact HO211.out) hb)
      have n5_:=aM (rB (by (with_reducible repeat (first|apply rA|apply rN|apply rD));exact HO214.out) hb)
      have n6_:=aM (Kd.S_below (by (with_reducible repeat (first|apply Kd.S_alloc|apply Kd.S_drewN|apply Kd.S_drew));exact HO218.out) hb)
      have n7_:=aM (rB (by (with_reducible repeat (first|apply rA|apply rN|apply rD));exact HO221.out) hb)
      have n8_:=aM (Kd.S_below (by (with_reducible repeat (first|apply Kd.S_alloc|apply Kd.S_drewN|apply Kd.S_drew));exact HO226.out) hb)
      have n9_:=aM (rB (by (with_reducible repeat (first|apply rA|apply rN|apply rD));exact HO229.out) hb)
      have n10_:=aM (Kd.S_below (by (with_reducible repeat (first|apply Kd.S_alloc|apply Kd.S_drewN|apply Kd.S_drew));exact HO233.out) hb)
      have n11_:=aM (rB (by (with_reducible repeat (first|apply rA|apply rN|apply rD));exact HO236.out) hb)
      have n12_:=aM (bB (g:=gb192) (o:=.cells #[.slice A0_0 l0_0.length c0_0,.slice A0_1 l0_1.length c0_1] 72 (0,0)) (by (with_reducible repeat (first|refine bN ?_ _|refine bD ?_|refine bA ?_ _));exact BK192.out) hb)
      have n13_:=aM (bB (g:=gb193) (o:=.cells #[.slice A1_0 l1_0.length c1_0,.slice A1_1 l1_1.length c1_1] 72 (0,0)) (by (with_reducible repeat (first|refine bN ?_ _|refine bD ?_|refine bA ?_ _));exact BK193.out) hb)
      have n14_:=aM (bB (g:=gb215) (o:=.cells #[.slice Ao128 t209.length co128,.slice Ao132 t212.length co132] 78 (0,0)) (by (with_reducible repeat (first|refine bN ?_ _|refine bD ?_|refine bA ?_ _));exact BK215.out) hb)
      have n15_:=aM (bB (g:=gb222) (o:=.cells #[.slice Ao136 t216.length co136,.slice Ao141 t219.length co141] 78 (0,0)) (by (with_reducible repeat (first|refine bN ?_ _|refine bD ?_|refine bA ?_ _));exact BK222.out) hb)
      have n16_:=aM (lP (by repeat (first|(with_reducible first|exact HB.out|apply lA|apply lN|apply lD|refine lS ?_ GE192.out|refine lS ?_ GE193.out|refine lS ?_ GE215.out|refine lS ?_ GE222.out)|exact HB.out)) hb)
      clear HO198
      clear HO201
      clear HO204
      clear HO207
      clear HO211
      clear HO214
      clear HO218
      clear HO221
      clear HO226
      clear HO229
      clear HO233
      clear HO236
      clear BK192
      clear BK193
      clear BK215
      clear BK222
      clear HB
      have HO198:=n0_
      have HO201:=n1_
      have HO204:=n2_
      have HO207:=n3_
      have HO211:=n4_
      have HO214:=n5_
      have HO218:=n6_
      have HO221:=n7_
      have HO226:=n8_
      have HO229:=n9_
      have HO233:=n10_
      have HO236:=n11_
      have BK192:=n12_
      have BK193:=n13_
      have BK215:=n14_
      have BK222:=n15_
      have HB:=n16_
      clear n0_ n1_ n2_ n3_ n4_ n5_ n6_ n7_ n8_ n9_ n10_ n11_ n12_ n13_ n14_ n15_ n16_
      (try clear hb)
      (try clear hb2)
      (try clear hk)
      (try clear hi)
      refine hK.out _ _ ⟨(bC BK222.out 0).trans rfl,(bC BK222.out 1).trans rfl,(bC BK193.out 0).trans rfl,(bC BK193.out 1).trans rfl⟩ (fun hHeld => ?_)
      clear hK K
      refine norm_ (a':=?_) ?_ ?_
      rotate_left
      ·show Act.put _ (some 43) _ = _
       simp only [Act.put,q_ia,q_cz,q_cs,i64_w,i32_w]
       rfl
      refine pure_ (i:=4) (N:=some 44) (v:=?_) (a':=?_) #[bT,bT,bT,bT,bT] rfl rfl (by kernel_rfl) (fun _ _ _ h => h) (Or.inl ⟨by rfl,?_⟩) ?_ ?_
      rotate_left
      ·intro w';go_simp;with_reducible rfl
      rotate_left
      ·simp only [Act.put,q_ia,q_cz,q_cs,i64_w,i32_w];rfl
      refine done_ (by kernel_rfl) ?_
      try go_wp2
      go_ret
      exact ⟨by first|rfl|(simp [errW_none,errW_some] <;> rfl)|(simp [*,errW_none,errW_some] <;> rfl),by repeat (first|(with_reducible first|exact HB.out|apply lA|apply lN|apply lD|refine lS ?_ GE192.out|refine lS ?_ GE193.out|refine lS ?_ GE215.out|refine lS ?_ GE222.out)|exact HB.out)⟩
    ·replace c62:=Bool.eq_false_iff.mpr c62
     subst c62
     have H1 : (some false) = some r:=by rw [if_neg (show ¬ (false = true) by decide)] at H;exact H
     clear H
     have H:=H1
     clear H1
     obtain rfl:=Option.some.inj H
     go_enter Try.func13,Try.ntmps13
     try go_wp2_with (first|((with_reducible refine gate_dst (N:=2) rfl ?_);refine box_event ?hg (N:=2) ?hd (cs:=#[.slice A0_0 l0_0.length c0_0,.slice A0_1 l0_1.length c0_1]) (t:=72) ?hr ?_;(case hd => rfl);(case hg => rfl);(case hr => first|(go_simp;done)|(go_simp;rfl));intro gb192 hg w154 hbox hb;have n0_:=aM (lP (by repeat (first|(with_reducible first|exact HB.out|apply lA|apply lN|apply lD)|exact HB.out)) hb);have n1_:=aM (hbox);have n2_:=aM ((by rw [hg];exact (lZ (by repeat (first|(with_reducible first|exact HB.out|apply lA|apply lN|apply lD)|exact HB.out))) : w.heap.size ≤ gb192));have n3_:=aM ((by rw [hg];exact (lZ (by repeat (first|(with_reducible first|exact HB.out|apply lA|apply lN|apply lD)|exact HB.out))) : w.heap.size ≤ gb192));clear HB;have HB:=n0_;have BK192:=n1_;have GW192:=n2_;have GE192:=n3_;clear n0_ n1_ n2_ n3_ hb hbox hg)|((with_reducible refine gate_dst (N:=3) rfl ?_);refine box_event ?hg (N:=3) ?hd (cs:=#[.slice A1_0 l1_0.length c1_0,.slice A1_1 l1_1.length c1_1]) (t:=72) ?hr ?_;(case hd => rfl);(case hg => rfl);(case hr => first|(go_simp;done)|(go_simp;rfl));intro gb193 hg w155 hbox hb;have n0_:=aM (bB (g:=gb192) (o:=.cells #[.slice A0_0 l0_0.length c0_0,.slice A0_1 l0_1.length c0_1] 72 (0,0)) (by (with_reducible repeat (first|refine bN ?_ _|refine bD ?_|refine bA ?_ _));exact BK192.out) hb);have n1_:=aM (lP (by repeat (first|(with_reducible first|exact HB.out|apply lA|apply lN|apply lD|refine lS ?_ GE192.out)|exact HB.out)) hb);have n2_:=aM (hbox);have n3_:=aM ((by rw [hg];exact (lZ (by repeat (first|(with_reducible first|exact HB.out|apply lA|apply lN|apply lD|refine lS ?_ GE192.out)|exact HB.out))) : w.heap.size ≤ gb193));have n4_:=aM ((by rw [hg];exact (lZ (by repeat (first|(with_reducible first|exact HB.out|apply lA|apply lN|apply lD|refine lS ?_ GE192.out)|exact HB.out))) : w.heap.size ≤ gb193));have n5_:=aM ((by rw [hg];exact Nat.ne_of_lt (bL (g:=gb192) (o:=.cells #[.slice A0_0 l0_0.length c0_0,.slice A0_1 l0_1.length c0_1] 72 (0,0)) (by (with_reducible repeat (first|refine bN ?_ _|refine bD ?_|refine bA ?_ _));exact BK192.out)) : gb192 ≠ gb193));have n6_:=aM ((by rw [hg];exact Nat.ne_of_gt (bL (g:=gb192) (o:=.cells #[.slice A0_0 l0_0.length c0_0,.slice A0_1 l0_1.length c0_1] 72 (0,0)) (by (with_reducible repeat (first|refine bN ?_ _|refine bD ?_|refine bA ?_ _));exact BK192.out)) : gb193 ≠ gb192));clear BK192 HB;have BK192:=n0_;have HB:=n1_;have BK193:=n2_;have GW193:=n3_;have GE193:=n4_;have NB192_193:=n5_;have NB193_192:=n6_;clear n0_ n1_ n2_ n3_ n4_ n5_ n6_ hb hbox hg;have hnb156:=NB192_193.out;have hnc156:=NB193_192.out;have hcz157_0 : w155.cell? ⟨gb192,0,none⟩ = some (.slice A0_0 l0_0.length c0_0):=(bC BK192.out 0).trans rfl;have hcz157_1 : w155.cell? ⟨gb192,1,none⟩ = some (.slice A0_1 l0_1.length c0_1):=(bC BK192.out 1).trans rfl;have hfz157_0:=bF BK192.out 0;have hfz157_1:=bF BK192.out 1)|((with_reducible refine gate_callee (f:=51) rfl ?_);refine goesL_ (some 12) rfl rfl Try.func51 (by kernel_rfl) rfl #[.agg #[.slice A0_0 l0_0.length c0_0,.slice A0_1 l0_1.length c0_1],.int .i64 1048576] rfl (by (try simp only [List.map_toArray,List.map_cons,List.map_nil]);first|done|rfl|(simp only [List.length_drop,List.length_take];rfl)) ?_;(with_reducible refine (laws_szProgram.calls k _ _ l0_0 _ _ l0_1 1048576 t194 _ ?side1 ?side2 ?side3 ?side4 A3.out).mono ?_);(case side1 => repeat (first|exact (cB HR0_0.out HB.out)|(with_reducible first|refine cA ?_ _|refine cN ?_ _|refine cD ?_)));(case side2 => exact HC0_0.out);(case side3 => repeat (first|exact (cB HR0_1.out HB.out)|(with_reducible first|refine cA ?_ _|refine cN ?_ _|refine cD ?_)));(case side4 => exact HC0_1.out);rintro e w158 ⟨rfl,hb⟩;refine ⟨_,rfl,?_⟩;have n0_:=aM (bB (g:=gb192) (o:=.cells #[.slice A0_0 l0_0.length c0_0,.slice A0_1 l0_1.length c0_1] 72 (0,0)) (by (with_reducible repeat (first|refine bN ?_ _|refine bD ?_|refine bA ?_ _));exact BK192.out) hb);have n1_:=aM (bB (g:=gb193) (o:=.cells #[.slice A1_0 l1_0.length c1_0,.slice A1_1 l1_1.length c1_1] 72 (0,0)) (by (with_reducible repeat (first|refine bN ?_ _|refine bD ?_|refine bA ?_ _));exact BK193.out) hb);have n2_:=aM (lP (by repeat (first|(with_reducible first|exact HB.out|apply lA|apply lN|apply lD|refine lS ?_ GE192.out|refine lS ?_ GE193.out)|exact HB.out)) hb);clear BK192 BK193 HB;have BK192:=n0_;have BK193:=n1_;have HB:=n2_;clear n0_ n1_ n2_;(try clear hb);(try clear hb2);(try clear hk);(try clear hi);have hcz159_0 : w158.cell? ⟨gb193,0,none⟩ = some (.slice A1_0 l1_0.length c1_0):=(bC BK193.out 0).trans rfl;have hcz159_1 : w158.cell? ⟨gb193,1,none⟩ = some (.slice A1_1 l1_1.length c1_1):=(bC BK193.out 1).trans rfl;have hfz159_0:=bF BK193.out 0;have hfz159_1:=bF BK193.out 1)|((with_reducible refine gate_callee (f:=51) rfl ?_);refine goesL_ (some 17) rfl rfl Try.func51 (by kernel_rfl) rfl #[.agg #[.slice A1_0 l1_0.length c1_0,.slice A1_1 l1_1.length c1_1],.int .i64 t194] rfl (by (try simp only [List.map_toArray,List.map_cons,List.map_nil]);first|done|rfl|(simp only [List.length_drop,List.length_take];rfl)) ?_;(with_reducible refine (laws_szProgram.calls k _ _ l1_0 _ _ l1_1 t194 t195 _ ?side1 ?side2 ?side3 ?side4 A10.out).mono ?_);(case side1 => repeat (first|exact (cB HR1_0.out HB.out)|(with_reducible first|refine cA ?_ _|refine cN ?_ _|refine cD ?_)));(case side2 => exact HC1_0.out);(case side3 => repeat (first|exact (cB HR1_1.out HB.out)|(with_reducible first|refine cA ?_ _|refine cN ?_ _|refine cD ?_)));(case side4 => exact HC1_1.out);rintro e w160 ⟨rfl,hb⟩;refine ⟨_,rfl,?_⟩;have n0_:=aM (bB (g:=gb192) (o:=.cells #[.slice A0_0 l0_0.length c0_0,.slice A0_1 l0_1.length c0_1] 72 (0,0)) (by (with_reducible repeat (first|refine bN ?_ _|refine bD ?_|refine bA ?_ _));exact BK192.out) hb);have n1_:=aM (bB (g:=gb193) (o:=.cells #[.slice A1_0 l1_0.length c1_0,.slice A1_1 l1_1.length c1_1] 72 (0,0)) (by (with_reducible repeat (first|refine bN ?_ _|refine bD ?_|refine bA ?_ _));exact BK193.out) hb);have n2_:=aM (lP (by repeat (first|(with_reducible first|exact HB.out|apply lA|apply lN|apply lD|refine lS ?_ GE192.out|refine lS ?_ GE193.out)|exact HB.out)) hb);clear BK192 BK193 HB;have BK192:=n0_;have BK193:=n1_;have HB:=n2_;clear n0_ n1_ n2_;(try clear hb);(try clear hb2);(try clear hk);(try clear hi)))
     have n0_:=aM (bD BK192.out)
     have n1_:=aM (bD BK193.out)
     have n2_:=aM (lD HB.out)
     clear BK192
     clear BK193
     clear HB
     have BK192:=n0_
     have BK193:=n1_
     have HB:=n2_
     clear n0_ n1_ n2_
     refine start_ (n:=6) (S:=fun w' => w'.cell? ⟨gb192,0,none⟩ = some (.slice A0_0 l0_0.length c0_0) ∧ w'.cell? ⟨gb192,1,none⟩ = some (.slice A0_1 l0_1.length c0_1) ∧ w'.cell? ⟨gb193,0,none⟩ = some (.slice A1_0 l1_0.length c1_0) ∧ w'.cell? ⟨gb193,1,none⟩ = some (.slice A1_1 l1_1.length c1_1)) (ds:=[]) #[bf,bf,bf,bf,bf,bf] (by kernel_rfl) rfl rfl ⟨(bC BK192.out 0).trans rfl,(bC BK192.out 1).trans rfl,(bC BK193.out 0).trans rfl,(bC BK193.out 1).trans rfl⟩ (fun hHeld => ?_)
     generalize w160.drew = w161 at BK192 BK193 HB hHeld ⊢
     refine take_ (i:=0) (N:=some 20) (v:=?_) (a':=?_) #[bT,bf,bf,bf,bf,bf] rfl rfl (by kernel_rfl) (fun _ _ _ h => h) (Or.inl ⟨by rfl,?_⟩) hHeld ?_ ?_
     rotate_left
     ·rintro w' ⟨s0,s1,s2,s3⟩
      go_simp
      with_reducible rfl
     rotate_left
     ·simp only [Act.put,q_ia,q_cz,q_cs,i64_w,i32_w];rfl
     refine take_ (i:=2) (N:=some 22) (v:=?_) (a':=?_) #[bT,bf,bT,bf,bf,bf] rfl rfl (by kernel_rfl) (fun _ _ _ h => h) (Or.inl ⟨by rfl,?_⟩) hHeld ?_ ?_
     rotate_left
     ·rintro w' ⟨s0,s1,s2,s3⟩
      go_simp
      with_reducible rfl
     rotate_left
     ·simp only [Act.put,q_ia,q_cz,q_cs,i64_w,i32_w];rfl
     refine one_ (i:=1) (N:=some 21) #[bT,bT,bT,bf,bf,bf] rfl rfl (by kernel_rfl) (by decide) (fun K hK => ?_)
     refine goes_ Try.func53 (by kernel_rfl) rfl #[.agg #[.slice A0_0 l0_0.length c0_0,.slice A0_1 l0_1.length c0_1]] (by rfl) rfl rfl (by (try simp only [List.map_toArray,List.map_cons,List.map_nil]);first|done|rfl|(simp only [List.length_drop,List.length_take];rfl)) ?_
     with_reducible refine (laws_toProgram.calls k _ _ l0_0 _ _ l0_1 t196 t199 _ ?side1 ?side2 ?side3 ?side4 A19.out).mono ?_
     (case side1 => repeat (first|exact (cB HR0_0.out HB.out)|(with_reducible first|refine cA ?_ _|refine cN ?_ _|refine cD ?_)))
     (case side2 => exact HC0_0.out)
     (case side3 => repeat (first|exact (cB HR0_1.out HB.out)|(with_reducible first|refine cA ?_ _|refine cN ?_ _|refine cD ?_)))
     (case side4 => exact HC0_1.out)
     rintro e w162 ⟨v197,v200,rfl,ho0,ho1,hb⟩
     refine ⟨_,rfl,?_⟩
     have n0_:=aM (Kd.S_lower ho0 (lZ (by repeat (first|(with_reducible first|exact HB.out|apply lA|apply lN|apply lD|refine lS ?_ GE192.out|refine lS ?_ GE193.out)|exact HB.out))))
     have n1_:=aM (rL ho1 (lZ (by repeat (first|(with_reducible first|exact HB.out|apply lA|apply lN|apply lD|refine lS ?_ GE192.out|refine lS ?_ GE193.out)|exact HB.out))))
     have n2_:=aM (bB (g:=gb192) (o:=.cells #[.slice A0_0 l0_0.length c0_0,.slice A0_1 l0_1.length c0_1] 72 (0,0)) (by (with_reducible repeat (first|refine bN ?_ _|refine bD ?_|refine bA ?_ _));exact BK192.out) hb)
     have n3_:=aM (bB (g:=gb193) (o:=.cells #[.slice A1_0 l1_0.length c1_0,.slice A1_1 l1_1.length c1_1] 72 (0,0)) (by (with_reducible repeat (first|refine bN ?_ _|refine bD ?_|refine bA ?_ _));exact BK193.out) hb)
     have n4_:=aM (lP (by repeat (first|(with_reducible first|exact HB.out|apply lA|apply lN|apply lD|refine lS ?_ GE192.out|refine lS ?_ GE193.out)|exact HB.out)) hb)
     clear BK192
     clear BK193
     clear HB
     have HO198:=n0_
     have HO201:=n1_
     have BK192:=n2_
     have BK193:=n3_
     have HB:=n4_
     clear n0_ n1_ n2_ n3_ n4_
     (try clear hb)
     (try clear hb2)
     (try clear hk)
     (try clear hi)
     (try clear ho0)
     (try clear ho1)
     refine hK.out _ _ ⟨(bC BK192.out 0).trans rfl,(bC BK192.out 1).trans rfl,(bC BK193.out 0).trans rfl,(bC BK193.out 1).trans rfl⟩ (fun hHeld => ?_)
     clear hK K
     refine norm_ (a':=?_) ?_ ?_
     rotate_left
     ·show Act.put _ (some 21) _ = _
      simp only [Act.put,q_ia,q_cz,q_cs,i64_w,i32_w]
      rfl
     refine one_ (i:=3) (N:=some 23) #[bT,bT,bT,bT,bf,bf] rfl rfl (by kernel_rfl) (by decide) (fun K hK => ?_)
     refine goes_ Try.func53 (by kernel_rfl) rfl #[.agg #[.slice A1_0 l1_0.length c1_0,.slice A1_1 l1_1.length c1_1]] (by rfl) rfl rfl (by (try simp only [List.map_toArray,List.map_cons,List.map_nil]);first|done|rfl|(simp only [List.length_drop,List.length_take];rfl)) ?_
     with_reducible refine (laws_toProgram.calls k _ _ l1_0 _ _ l1_1 t202 t205 _ ?side1 ?side2 ?side3 ?side4 A20.out).mono ?_
     (case side1 => repeat (first|exact (cB HR1_0.out HB.out)|(with_reducible first|refine cA ?_ _|refine cN ?_ _|refine cD ?_)))
     (case side2 => exact HC1_0.out)
     (case side3 => repeat (first|exact (cB HR1_1.out HB.out)|(with_reducible first|refine cA ?_ _|refine cN ?_ _|refine cD ?_)))
     (case side4 => exact HC1_1.out)
     rintro e w163 ⟨v203,v206,rfl,ho0,ho1,hb⟩
     refine ⟨_,rfl,?_⟩
     have n0_:=aM (Kd.S_elder' (by (with_reducible repeat (first|apply Kd.S_alloc|apply Kd.S_drewN|apply Kd.S_drew));exact HO198.out) (Kd.S_base ho0) hb)
     have n1_:=aM (rE (by (with_reducible repeat (first|apply rA|apply rN|apply rD));exact HO201.out) (rS ho1) hb)
     have n2_:=aM (Kd.S_lower (Kd.S_new' ho0 (Kd.S_lt (by (with_reducible repeat (first|apply Kd.S_alloc|apply Kd.S_drewN|apply Kd.S_drew));exact HO198.out))) (lZ (by repeat (first|(with_reducible first|exact HB.out|apply lA|apply lN|apply lD|refine lS ?_ GE192.out|refine lS ?_ GE193.out)|exact HB.out))))
     have n3_:=aM (rL (rW ho1 (rT (by (with_reducible repeat (first|apply rA|apply rN|apply rD));exact HO201.out))) (lZ (by repeat (first|(with_reducible first|exact HB.out|apply lA|apply lN|apply lD|refine lS ?_ GE192.out|refine lS ?_ GE193.out)|exact HB.out))))
     have n4_:=aM (bB (g:=gb192) (o:=.cells #[.slice A0_0 l0_0.length c0_0,.slice A0_1 l0_1.length c0_1] 72 (0,0)) (by (with_reducible repeat (first|refine bN ?_ _|refine bD ?_|refine bA ?_ _));exact BK192.out) hb)
     have n5_:=aM (bB (g:=gb193) (o:=.cells #[.slice A1_0 l1_0.length c1_0,.slice A1_1 l1_1.length c1_1] 72 (0,0)) (by (with_reducible repeat (first|refine bN ?_ _|refine bD ?_|refine bA ?_ _));exact BK193.out) hb)
     have n6_:=aM (lP (by repeat (first|(with_reducible first|exact HB.out|apply lA|apply lN|apply lD|refine lS ?_ GE192.out|refine lS ?_ GE193.out)|exact HB.out)) hb)
     clear HO198
     clear HO201
     clear BK192
     clear BK193
     clear HB
     have HO198:=n0_
     have HO201:=n1_
     have HO204:=n2_
     have HO207:=n3_
     have BK192:=n4_
     have BK193:=n5_
     have HB:=n6_
     clear n0_ n1_ n2_ n3_ n4_ n5_ n6_
     (try clear hb)
     (try clear hb2)
     (try clear hk)
     (try clear hi)
     (try clear ho0)
     (try clear ho1)
     obtain ⟨Ao164,co164,eo164⟩:=Kd.S_slice HO198.out
     (first|subst eo164|(injection eo164 with f1_ f2_ f3_;have f4_:=f1_.symm;have f5_:=f3_.symm;clear f1_ f2_ f3_;subst f4_;subst f5_))
     obtain ⟨Ao165,co165,eo165⟩:=Kd.R_slice HO201.out
     (first|subst eo165|(injection eo165 with f1_ f2_ f3_;have f4_:=f1_.symm;have f5_:=f3_.symm;clear f1_ f2_ f3_;subst f4_;subst f5_))
     obtain ⟨Ao166,co166,eo166⟩:=Kd.S_slice HO204.out
     (first|subst eo166|(injection eo166 with f1_ f2_ f3_;have f4_:=f1_.symm;have f5_:=f3_.symm;clear f1_ f2_ f3_;subst f4_;subst f5_))
     obtain ⟨Ao167,co167,eo167⟩:=Kd.R_slice HO207.out
     (first|subst eo167|(injection eo167 with f1_ f2_ f3_;have f4_:=f1_.symm;have f5_:=f3_.symm;clear f1_ f2_ f3_;subst f4_;subst f5_))
     refine hK.out _ _ ⟨(bC BK192.out 0).trans rfl,(bC BK192.out 1).trans rfl,(bC BK193.out 0).trans rfl,(bC BK193.out 1).trans rfl⟩ (fun hHeld => ?_)
     clear hK K
     refine norm_ (a':=?_) ?_ ?_
     rotate_left
     ·show Act.put _ (some 23) _ = _
      simp only [Act.put,q_ia,q_cz,q_cs,i64_w,i32_w]
      rfl
     refine one_ (i:=4) (N:=some 24) #[bT,bT,bT,bT,bT,bf] rfl rfl (by kernel_rfl) (by decide) (fun K hK => ?_)
     refine goes_ Try.func52 (by kernel_rfl) rfl #[.agg #[.slice Ao164 t196.length co164,.slice Ao165 t199.length co165],.agg #[.slice Ao166 t202.length co166,.slice Ao167 t205.length co167]] (by rfl) rfl rfl (by (try simp only [List.map_toArray,List.map_cons,List.map_nil]);first|done|rfl|(simp only [List.length_drop,List.length_take];rfl)) ?_
     with_reducible refine (spec_SameProgram.calls k _ _ t196 _ _ t199 _ _ t202 _ _ t205 t208 _ ?side1 ?side2 ?side3 ?side4 ?side5 ?side6 ?side7 ?side8 A21.out).mono ?_
     (case side1 => repeat (first|exact (Kd.S_reads' HO198.out).2.2|(with_reducible first|refine cA ?_ _|refine cN ?_ _|refine cD ?_)))
     (case side2 => exact (Kd.S_reads' HO198.out).2.1)
     (case side3 => repeat (first|exact (rR HO201.out).2.2|(with_reducible first|refine cA ?_ _|refine cN ?_ _|refine cD ?_)))
     (case side4 => exact (rR HO201.out).2.1)
     (case side5 => repeat (first|exact (Kd.S_reads' HO204.out).2.2|(with_reducible first|refine cA ?_ _|refine cN ?_ _|refine cD ?_)))
     (case side6 => exact (Kd.S_reads' HO204.out).2.1)
     (case side7 => repeat (first|exact (rR HO207.out).2.2|(with_reducible first|refine cA ?_ _|refine cN ?_ _|refine cD ?_)))
     (case side8 => exact (rR HO207.out).2.1)
     rintro e w168 ⟨rfl,hb⟩
     refine ⟨_,rfl,?_⟩
     have n0_:=aM (Kd.S_below (by (with_reducible repeat (first|apply Kd.S_alloc|apply Kd.S_drewN|apply Kd.S_drew));exact HO198.out) hb)
     have n1_:=aM (rB (by (with_reducible repeat (first|apply rA|apply rN|apply rD));exact HO201.out) hb)
     have n2_:=aM (Kd.S_below (by (with_reducible repeat (first|apply Kd.S_alloc|apply Kd.S_drewN|apply Kd.S_drew));exact HO204.out) hb)
     have n3_:=aM (rB (by (with_reducible repeat (first|apply rA|apply rN|apply rD));exact HO207.out) hb)
     have n4_:=aM (bB (g:=gb192) (o:=.cells #[.slice A0_0 l0_0.length c0_0,.slice A0_1 l0_1.length c0_1] 72 (0,0)) (by (with_reducible repeat (first|refine bN ?_ _|refine bD ?_|refine bA ?_ _));exact BK192.out) hb)
     have n5_:=aM (bB (g:=gb193) (o:=.cells #[.slice A1_0 l1_0.length c1_0,.slice A1_1 l1_1.length c1_1] 72 (0,0)) (by (with_reducible repeat (first|refine bN ?_ _|refine bD ?_|refine bA ?_ _));exact BK193.out) hb)
     have n6_:=aM (lP (by repeat (first|(with_reducible first|exact HB.out|apply lA|apply lN|apply lD|refine lS ?_ GE192.out|refine lS ?_ GE193.out)|exact HB.out)) hb)
     clear HO198
     clear HO201
     clear HO204
     clear HO207
     clear BK192
     clear BK193
     clear HB
     have HO198:=n0_
     have HO201:=n1_
     have HO204:=n2_
     have HO207:=n3_
     have BK192:=n4_
     have BK193:=n5_
     have HB:=n6_
     clear n0_ n1_ n2_ n3_ n4_ n5_ n6_
     (try clear hb)
     (try clear hb2)
     (try clear hk)
     (try clear hi)
     refine hK.out _ _ ⟨(bC BK192.out 0).trans rfl,(bC BK192.out 1).trans rfl,(bC BK193.out 0).trans rfl,(bC BK193.out 1).trans rfl⟩ (fun hHeld => ?_)
     clear hK K
     refine norm_ (a':=?_) ?_ ?_
     rotate_left
     ·show Act.put _ (some 24) _ = _
      simp only [Act.put,q_ia,q_cz,q_cs,i64_w,i32_w]
      rfl
     refine pure_ (i:=5) (N:=some 6) (v:=?_) (a':=?_) #[bT,bT,bT,bT,bT,bT] rfl rfl (by kernel_rfl) (fun _ _ _ h => h) (Or.inl ⟨by rfl,?_⟩) ?_ ?_
     rotate_left
     ·intro w';go_simp;with_reducible rfl
     rotate_left
     ·simp only [Act.put,q_ia,q_cz,q_cs,i64_w,i32_w];rfl
     refine done_ (by kernel_rfl) ?_
     have hcz169_0 : w168.cell? ⟨gb192,0,none⟩ = some (.slice A0_0 l0_0.length c0_0):=(bC BK192.out 0).trans rfl
     have hcz169_1 : w168.cell? ⟨gb192,1,none⟩ = some (.slice A0_1 l0_1.length c0_1):=(bC BK192.out 1).trans rfl
     have hfz169_0:=bF BK192.out 0
     have hfz169_1:=bF BK192.out 1
     try go_wp2_with (first|((with_reducible refine gate_callee (f:=53) rfl ?_);refine goesL_ (some 26) rfl rfl Try.func53 (by kernel_rfl) rfl #[.agg #[.slice A0_0 l0_0.length c0_0,.slice A0_1 l0_1.length c0_1]] rfl (by (try simp only [List.map_toArray,List.map_cons,List.map_nil]);first|done|rfl|(simp only [List.length_drop,List.length_take];rfl)) ?_;(with_reducible refine (laws_toProgram.calls k _ _ l0_0 _ _ l0_1 t209 t212 _ ?side1 ?side2 ?side3 ?side4 A22.out).mono ?_);(case side1 => repeat (first|exact (cB HR0_0.out HB.out)|(with_reducible first|refine cA ?_ _|refine cN ?_ _|refine cD ?_)));(case side2 => exact HC0_0.out);(case side3 => repeat (first|exact (cB HR0_1.out HB.out)|(with_reducible first|refine cA ?_ _|refine cN ?_ _|refine cD ?_)));(case side4 => exact HC0_1.out);rintro e w170 ⟨v210,v213,rfl,ho0,ho1,hb⟩;refine ⟨_,rfl,?_⟩;have n0_:=aM (Kd.S_elder' (by (with_reducible repeat (first|apply Kd.S_alloc|apply Kd.S_drewN|apply Kd.S_drew));exact HO198.out) (Kd.S_base ho0) hb);have n1_:=aM (rE (by (with_reducible repeat (first|apply rA|apply rN|apply rD));exact HO201.out) (rS ho1) hb);have n2_:=aM (Kd.S_elder' (by (with_reducible repeat (first|apply Kd.S_alloc|apply Kd.S_drewN|apply Kd.S_drew));exact HO204.out) (Kd.S_base ho0) hb);have n3_:=aM (rE (by (with_reducible repeat (first|apply rA|apply rN|apply rD));exact HO207.out) (rS ho1) hb);have n4_:=aM (Kd.S_lower (Kd.S_new' (Kd.S_new' ho0 (Kd.S_lt (by (with_reducible repeat (first|apply Kd.S_alloc|apply Kd.S_drewN|apply Kd.S_drew));exact HO198.out))) (Kd.S_lt (by (with_reducible repeat (first|apply Kd.S_alloc|apply Kd.S_drewN|apply Kd.S_drew));exact HO204.out))) (lZ (by repeat (first|(with_reducible first|exact HB.out|apply lA|apply lN|apply lD|refine lS ?_ GE192.out|refine lS ?_ GE193.out)|exact HB.out))));have n5_:=aM (rL (rW (rW ho1 (rT (by (with_reducible repeat (first|apply rA|apply rN|apply rD));exact HO201.out))) (rT (by (with_reducible repeat (first|apply rA|apply rN|apply rD));exact HO207.out))) (lZ (by repeat (first|(with_reducible first|exact HB.out|apply lA|apply lN|apply lD|refine lS ?_ GE192.out|refine lS ?_ GE193.out)|exact HB.out))));have n6_:=aM (bB (g:=gb192) (o:=.cells #[.slice A0_0 l0_0.length c0_0,.slice A0_1 l0_1.length c0_1] 72 (0,0)) (by (with_reducible repeat (first|refine bN ?_ _|refine bD ?_|refine bA ?_ _));exact BK192.out) hb);have n7_:=aM (bB (g:=gb193) (o:=.cells #[.slice A1_0 l1_0.length c1_0,.slice A1_1 l1_1.length c1_1] 72 (0,0)) (by (with_reducible repeat (first|refine bN ?_ _|refine bD ?_|refine bA ?_ _));exact BK193.out) hb);have n8_:=aM (lP (by repeat (first|(with_reducible first|exact HB.out|apply lA|apply lN|apply lD|refine lS ?_ GE192.out|refine lS ?_ GE193.out)|exact HB.out)) hb);clear HO198 HO201 HO204 HO207 BK192 BK193 HB;have HO198:=n0_;have HO201:=n1_;have HO204:=n2_;have HO207:=n3_;have HO211:=n4_;have HO214:=n5_;have BK192:=n6_;have BK193:=n7_;have HB:=n8_;clear n0_ n1_ n2_ n3_ n4_ n5_ n6_ n7_ n8_;(try clear hb);(try clear hb2);(try clear hk);(try clear hi);(try clear ho0);(try clear ho1))|((with_reducible refine gate_dst (N:=7) rfl ?_);refine box_event ?hg (N:=7) ?hd (cs:=#[.slice none 0 0,.slice none 0 0]) (t:=78) ?hr ?_;(case hd => rfl);(case hg => rfl);(case hr => first|(go_simp;done)|(go_simp;rfl));intro gb215 hg w171 hbox hb;have n0_:=aM (Kd.S_below (by (with_reducible repeat (first|apply Kd.S_alloc|apply Kd.S_drewN|apply Kd.S_drew));exact HO198.out) hb);have n1_:=aM (rB (by (with_reducible repeat (first|apply rA|apply rN|apply rD));exact HO201.out) hb);have n2_:=aM (Kd.S_below (by (with_reducible repeat (first|apply Kd.S_alloc|apply Kd.S_drewN|apply Kd.S_drew));exact HO204.out) hb);have n3_:=aM (rB (by (with_reducible repeat (first|apply rA|apply rN|apply rD));exact HO207.out) hb);have n4_:=aM (Kd.S_below (by (with_reducible repeat (first|apply Kd.S_alloc|apply Kd.S_drewN|apply Kd.S_drew));exact HO211.out) hb);have n5_:=aM (rB (by (with_reducible repeat (first|apply rA|apply rN|apply rD));exact HO214.out) hb);have n6_:=aM (bB (g:=gb192) (o:=.cells #[.slice A0_0 l0_0.length c0_0,.slice A0_1 l0_1.length c0_1] 72 (0,0)) (by (with_reducible repeat (first|refine bN ?_ _|refine bD ?_|refine bA ?_ _));exact BK192.out) hb);have n7_:=aM (bB (g:=gb193) (o:=.cells #[.slice A1_0 l1_0.length c1_0,.slice A1_1 l1_1.length c1_1] 72 (0,0)) (by (with_reducible repeat (first|refine bN ?_ _|refine bD ?_|refine bA ?_ _));exact BK193.out) hb);have n8_:=aM (lP (by repeat (first|(with_reducible first|exact HB.out|apply lA|apply lN|apply lD|refine lS ?_ GE192.out|refine lS ?_ GE193.out)|exact HB.out)) hb);have n9_:=aM (hbox);have n10_:=aM ((by rw [hg];exact (lZ (by repeat (first|(with_reducible first|exact HB.out|apply lA|apply lN|apply lD|refine lS ?_ GE192.out|refine lS ?_ GE193.out)|exact HB.out))) : w.heap.size ≤ gb215));have n11_:=aM ((by rw [hg];exact (lZ (by repeat (first|(with_reducible first|exact HB.out|apply lA|apply lN|apply lD|refine lS ?_ GE192.out|refine lS ?_ GE193.out)|exact HB.out))) : w.heap.size ≤ gb215));have n12_:=aM ((by rw [hg];exact Nat.ne_of_lt (bL (g:=gb192) (o:=.cells #[.slice A0_0 l0_0.length c0_0,.slice A0_1 l0_1.length c0_1] 72 (0,0)) (by (with_reducible repeat (first|refine bN ?_ _|refine bD ?_|refine bA ?_ _));exact BK192.out)) : gb192 ≠ gb215));have n13_:=aM ((by rw [hg];exact Nat.ne_of_gt (bL (g:=gb192) (o:=.cells #[.slice A0_0 l0_0.length c0_0,.slice A0_1 l0_1.length c0_1] 72 (0,0)) (by (with_reducible repeat (first|refine bN ?_ _|refine bD ?_|refine bA ?_ _));exact BK192.out)) : gb215 ≠ gb192));have n14_:=aM ((by rw [hg];exact Nat.ne_of_lt (bL (g:=gb193) (o:=.cells #[.slice A1_0 l1_0.length c1_0,.slice A1_1 l1_1.length c1_1] 72 (0,0)) (by (with_reducible repeat (first|refine bN ?_ _|refine bD ?_|refine bA ?_ _));exact BK193.out)) : gb193 ≠ gb215));have n15_:=aM ((by rw [hg];exact Nat.ne_of_gt (bL (g:=gb193) (o:=.cells #[.slice A1_0 l1_0.length c1_0,.slice A1_1 l1_1.length c1_1] 72 (0,0)) (by (with_reducible repeat (first|refine bN ?_ _|refine bD ?_|refine bA ?_ _));exact BK193.out)) : gb215 ≠ gb193));clear HO198 HO201 HO204 HO207 HO211 HO214 BK192 BK193 HB;have HO198:=n0_;have HO201:=n1_;have HO204:=n2_;have HO207:=n3_;have HO211:=n4_;have HO214:=n5_;have BK192:=n6_;have BK193:=n7_;have HB:=n8_;have BK215:=n9_;have GW215:=n10_;have GE215:=n11_;have NB192_215:=n12_;have NB215_192:=n13_;have NB193_215:=n14_;have NB215_193:=n15_;clear n0_ n1_ n2_ n3_ n4_ n5_ n6_ n7_ n8_ n9_ n10_ n11_ n12_ n13_ n14_ n15_ hb hbox hg;obtain ⟨Ao172,co172,eo172⟩:=Kd.S_slice HO211.out;subst eo172;have hnb173:=NB215_192.out;have hnc173:=NB192_215.out;have hnb174:=NB215_193.out;have hnc174:=NB193_215.out;have hcz175_0 : w171.cell? ⟨gb215,0,none⟩ = some (.slice none 0 0):=(bC BK215.out 0).trans rfl;have hcz175_1 : w171.cell? ⟨gb215,1,none⟩ = some (.slice none 0 0):=(bC BK215.out 1).trans rfl;have hfz175_0:=bF BK215.out 0;have hfz175_1:=bF BK215.out 1;obtain ⟨Ao176,co176,eo176⟩:=Kd.R_slice HO214.out;subst eo176;have hcz177_0 : w171.cell? ⟨gb193,0,none⟩ = some (.slice A1_0 l1_0.length c1_0):=(bC BK193.out 0).trans rfl;have hcz177_1 : w171.cell? ⟨gb193,1,none⟩ = some (.slice A1_1 l1_1.length c1_1):=(bC BK193.out 1).trans rfl;have hfz177_0:=bF BK193.out 0;have hfz177_1:=bF BK193.out 1)|((with_reducible refine gate_callee (f:=53) rfl ?_);refine goesL_ (some 28) rfl rfl Try.func53 (by kernel_rfl) rfl #[.agg #[.slice A1_0 l1_0.length c1_0,.slice A1_1 l1_1.length c1_1]] rfl (by (try simp only [List.map_toArray,List.map_cons,List.map_nil]);first|done|rfl|(simp only [List.length_drop,List.length_take];rfl)) ?_;(with_reducible refine (laws_toProgram.calls k _ _ l1_0 _ _ l1_1 t216 t219 _ ?side1 ?side2 ?side3 ?side4 A23.out).mono ?_);(case side1 => exact cB HR1_0.out (by repeat (first|(with_reducible first|exact HB.out|apply lA|apply lN|apply lD|refine lS ?_ GE192.out|refine lS ?_ GE193.out|refine lS ?_ GE215.out)|exact HB.out)));(case side2 => exact HC1_0.out);(case side3 => exact cB HR1_1.out (by repeat (first|(with_reducible first|exact HB.out|apply lA|apply lN|apply lD|refine lS ?_ GE192.out|refine lS ?_ GE193.out|refine lS ?_ GE215.out)|exact HB.out)));(case side4 => exact HC1_1.out);rintro e w178 ⟨v217,v220,rfl,ho0,ho1,hb⟩;refine ⟨_,rfl,?_⟩;have n0_:=aM (Kd.S_elder' (by (with_reducible repeat (first|apply Kd.S_alloc|apply Kd.S_drewN|apply Kd.S_drew));exact (Kd.S_mono (Kd.S_far (p:=⟨gb215,1,none⟩) (Kd.S_far (p:=⟨gb215,0,none⟩) (Kd.S_types HO198.out BK215.out (by decide)) (fun _ hk => hk.2) (.slice Ao172 t209.length co172)) (fun _ hk => hk.2) (.slice Ao176 t212.length co176)) (fun _ h_ => h_.1))) (Kd.S_base ho0) hb);have n1_:=aM (rE (by (with_reducible repeat (first|apply rA|apply rN|apply rD));exact (Kd.R_mono (rF (p:=⟨gb215,1,none⟩) (rF (p:=⟨gb215,0,none⟩) (rY HO201.out BK215.out (by decide)) (fun _ hk => hk.2) (.slice Ao172 t209.length co172)) (fun _ hk => hk.2) (.slice Ao176 t212.length co176)) (fun _ h_ => h_.1))) (rS ho1) hb);have n2_:=aM (Kd.S_elder' (by (with_reducible repeat (first|apply Kd.S_alloc|apply Kd.S_drewN|apply Kd.S_drew));exact (Kd.S_mono (Kd.S_far (p:=⟨gb215,1,none⟩) (Kd.S_far (p:=⟨gb215,0,none⟩) (Kd.S_types HO204.out BK215.out (by decide)) (fun _ hk => hk.2) (.slice Ao172 t209.length co172)) (fun _ hk => hk.2) (.slice Ao176 t212.length co176)) (fun _ h_ => h_.1))) (Kd.S_base ho0) hb);have n3_:=aM (rE (by (with_reducible repeat (first|apply rA|apply rN|apply rD));exact (Kd.R_mono (rF (p:=⟨gb215,1,none⟩) (rF (p:=⟨gb215,0,none⟩) (rY HO207.out BK215.out (by decide)) (fun _ hk => hk.2) (.slice Ao172 t209.length co172)) (fun _ hk => hk.2) (.slice Ao176 t212.length co176)) (fun _ h_ => h_.1))) (rS ho1) hb);have n4_:=aM (Kd.S_elder' (by (with_reducible repeat (first|apply Kd.S_alloc|apply Kd.S_drewN|apply Kd.S_drew));exact (Kd.S_mono (Kd.S_far (p:=⟨gb215,1,none⟩) (Kd.S_far (p:=⟨gb215,0,none⟩) (Kd.S_types HO211.out BK215.out (by decide)) (fun _ hk => hk.2) (.slice Ao172 t209.length co172)) (fun _ hk => hk.2) (.slice Ao176 t212.length co176)) (fun _ h_ => h_.1))) (Kd.S_base ho0) hb);have n5_:=aM (rE (by (with_reducible repeat (first|apply rA|apply rN|apply rD));exact (Kd.R_mono (rF (p:=⟨gb215,1,none⟩) (rF (p:=⟨gb215,0,none⟩) (rY HO214.out BK215.out (by decide)) (fun _ hk => hk.2) (.slice Ao172 t209.length co172)) (fun _ hk => hk.2) (.slice Ao176 t212.length co176)) (fun _ h_ => h_.1))) (rS ho1) hb);have n6_:=aM (Kd.S_lower (Kd.S_new' (Kd.S_new' (Kd.S_new' ho0 (Kd.S_lt (by (with_reducible repeat (first|apply Kd.S_alloc|apply Kd.S_drewN|apply Kd.S_drew));exact (Kd.S_mono (Kd.S_far (p:=⟨gb215,1,none⟩) (Kd.S_far (p:=⟨gb215,0,none⟩) (Kd.S_types HO198.out BK215.out (by decide)) (fun _ hk => hk.2) (.slice Ao172 t209.length co172)) (fun _ hk => hk.2) (.slice Ao176 t212.length co176)) (fun _ h_ => h_.1))))) (Kd.S_lt (by (with_reducible repeat (first|apply Kd.S_alloc|apply Kd.S_drewN|apply Kd.S_drew));exact (Kd.S_mono (Kd.S_far (p:=⟨gb215,1,none⟩) (Kd.S_far (p:=⟨gb215,0,none⟩) (Kd.S_types HO204.out BK215.out (by decide)) (fun _ hk => hk.2) (.slice Ao172 t209.length co172)) (fun _ hk => hk.2) (.slice Ao176 t212.length co176)) (fun _ h_ => h_.1))))) (Kd.S_lt (by (with_reducible repeat (first|apply Kd.S_alloc|apply Kd.S_drewN|apply Kd.S_drew));exact (Kd.S_mono (Kd.S_far (p:=⟨gb215,1,none⟩) (Kd.S_far (p:=⟨gb215,0,none⟩) (Kd.S_types HO211.out BK215.out (by decide)) (fun _ hk => hk.2) (.slice Ao172 t209.length co172)) (fun _ hk => hk.2) (.slice Ao176 t212.length co176)) (fun _ h_ => h_.1))))) (lZ (by repeat (first|(with_reducible first|exact HB.out|apply lA|apply lN|apply lD|refine lS ?_ GE192.out|refine lS ?_ GE193.out|refine lS ?_ GE215.out)|exact HB.out))));have n7_:=aM (rL (rW (rW (rW ho1 (rT (by (with_reducible repeat (first|apply rA|apply rN|apply rD));exact (Kd.R_mono (rF (p:=⟨gb215,1,none⟩) (rF (p:=⟨gb215,0,none⟩) (rY HO201.out BK215.out (by decide)) (fun _ hk => hk.2) (.slice Ao172 t209.length co172)) (fun _ hk => hk.2) (.slice Ao176 t212.length co176)) (fun _ h_ => h_.1))))) (rT (by (with_reducible repeat (first|apply rA|apply rN|apply rD));exact (Kd.R_mono (rF (p:=⟨gb215,1,none⟩) (rF (p:=⟨gb215,0,none⟩) (rY HO207.out BK215.out (by decide)) (fun _ hk => hk.2) (.slice Ao172 t209.length co172)) (fun _ hk => hk.2) (.slice Ao176 t212.length co176)) (fun _ h_ => h_.1))))) (rT (by (with_reducible repeat (first|apply rA|apply rN|apply rD));exact (Kd.R_mono (rF (p:=⟨gb215,1,none⟩) (rF (p:=⟨gb215,0,none⟩) (rY HO214.out BK215.out (by decide)) (fun _ hk => hk.2) (.slice Ao172 t209.length co172)) (fun _ hk => hk.2) (.slice Ao176 t212.length co176)) (fun _ h_ => h_.1))))) (lZ (by repeat (first|(with_reducible first|exact HB.out|apply lA|apply lN|apply lD|refine lS ?_ GE192.out|refine lS ?_ GE193.out|refine lS ?_ GE215.out)|exact HB.out))));have n8_:=aM (bB (g:=gb192) (o:=.cells #[.slice A0_0 l0_0.length c0_0,.slice A0_1 l0_1.length c0_1] 72 (0,0)) (by (with_reducible repeat (first|refine bN ?_ _|refine bD ?_|refine bA ?_ _));refine blk_far ?_ NB192_215.out _;(with_reducible repeat (first|refine bN ?_ _|refine bD ?_|refine bA ?_ _));refine blk_far ?_ NB192_215.out _;(with_reducible repeat (first|refine bN ?_ _|refine bD ?_|refine bA ?_ _));exact BK192.out) hb);have n9_:=aM (bB (g:=gb193) (o:=.cells #[.slice A1_0 l1_0.length c1_0,.slice A1_1 l1_1.length c1_1] 72 (0,0)) (by (with_reducible repeat (first|refine bN ?_ _|refine bD ?_|refine bA ?_ _));refine blk_far ?_ NB193_215.out _;(with_reducible repeat (first|refine bN ?_ _|refine bD ?_|refine bA ?_ _));refine blk_far ?_ NB193_215.out _;(with_reducible repeat (first|refine bN ?_ _|refine bD ?_|refine bA ?_ _));exact BK193.out) hb);have n10_:=aM (bB (g:=gb215) (o:=.cells #[.slice Ao172 t209.length co172,.slice Ao176 t212.length co176] 78 (0,0)) (by (with_reducible repeat (first|refine bN ?_ _|refine bD ?_|refine bA ?_ _));refine blk_put (cs:=#[.slice Ao172 t209.length co172,.slice none 0 0]) ?_ 1 _ rfl;(with_reducible repeat (first|refine bN ?_ _|refine bD ?_|refine bA ?_ _));refine blk_put (cs:=#[.slice none 0 0,.slice none 0 0]) ?_ 0 _ rfl;(with_reducible repeat (first|refine bN ?_ _|refine bD ?_|refine bA ?_ _));exact BK215.out) hb);have n11_:=aM (lP (by repeat (first|(with_reducible first|exact HB.out|apply lA|apply lN|apply lD|refine lS ?_ GE192.out|refine lS ?_ GE193.out|refine lS ?_ GE215.out)|exact HB.out)) hb);clear HO198 HO201 HO204 HO207 HO211 HO214 BK192 BK193 BK215 HB;have HO198:=n0_;have HO201:=n1_;have HO204:=n2_;have HO207:=n3_;have HO211:=n4_;have HO214:=n5_;have HO218:=n6_;have HO221:=n7_;have BK192:=n8_;have BK193:=n9_;have BK215:=n10_;have HB:=n11_;clear n0_ n1_ n2_ n3_ n4_ n5_ n6_ n7_ n8_ n9_ n10_ n11_;(try clear hb);(try clear hb2);(try clear hk);(try clear hi);(try clear ho0);(try clear ho1))|((with_reducible refine gate_dst (N:=8) rfl ?_);refine box_event ?hg (N:=8) ?hd (cs:=#[.slice none 0 0,.slice none 0 0]) (t:=78) ?hr ?_;(case hd => rfl);(case hg => rfl);(case hr => first|(go_simp;done)|(go_simp;rfl));intro gb222 hg w179 hbox hb;have n0_:=aM (Kd.S_below (by (with_reducible repeat (first|apply Kd.S_alloc|apply Kd.S_drewN|apply Kd.S_drew));exact HO198.out) hb);have n1_:=aM (rB (by (with_reducible repeat (first|apply rA|apply rN|apply rD));exact HO201.out) hb);have n2_:=aM (Kd.S_below (by (with_reducible repeat (first|apply Kd.S_alloc|apply Kd.S_drewN|apply Kd.S_drew));exact HO204.out) hb);have n3_:=aM (rB (by (with_reducible repeat (first|apply rA|apply rN|apply rD));exact HO207.out) hb);have n4_:=aM (Kd.S_below (by (with_reducible repeat (first|apply Kd.S_alloc|apply Kd.S_drewN|apply Kd.S_drew));exact HO211.out) hb);have n5_:=aM (rB (by (with_reducible repeat (first|apply rA|apply rN|apply rD));exact HO214.out) hb);have n6_:=aM (Kd.S_below (by (with_reducible repeat (first|apply Kd.S_alloc|apply Kd.S_drewN|apply Kd.S_drew));exact HO218.out) hb);have n7_:=aM (rB (by (with_reducible repeat (first|apply rA|apply rN|apply rD));exact HO221.out) hb);have n8_:=aM (bB (g:=gb192) (o:=.cells #[.slice A0_0 l0_0.length c0_0,.slice A0_1 l0_1.length c0_1] 72 (0,0)) (by (with_reducible repeat (first|refine bN ?_ _|refine bD ?_|refine bA ?_ _));exact BK192.out) hb);have n9_:=aM (bB (g:=gb193) (o:=.cells #[.slice A1_0 l1_0.length c1_0,.slice A1_1 l1_1.length c1_1] 72 (0,0)) (by (with_reducible repeat (first|refine bN ?_ _|refine bD ?_|refine bA ?_ _));exact BK193.out) hb);have n10_:=aM (bB (g:=gb215) (o:=.cells #[.slice Ao172 t209.length co172,.slice Ao176 t212.length co176] 78 (0,0)) (by (with_reducible repeat (first|refine bN ?_ _|refine bD ?_|refine bA ?_ _));exact BK215.out) hb);have n11_:=aM (lP (by repeat (first|(with_reducible first|exact HB.out|apply lA|apply lN|apply lD|refine lS ?_ GE192.out|refine lS ?_ GE193.out|refine lS ?_ GE215.out)|exact HB.out)) hb);have n12_:=aM (hbox);have n13_:=aM ((by rw [hg];exact (lZ (by repeat (first|(with_reducible first|exact HB.out|apply lA|apply lN|apply lD|refine lS ?_ GE192.out|refine lS ?_ GE193.out|refine lS ?_ GE215.out)|exact HB.out))) : w.heap.size ≤ gb222));have n14_:=aM ((by rw [hg];exact (lZ (by repeat (first|(with_reducible first|exact HB.out|apply lA|apply lN|apply lD|refine lS ?_ GE192.out|refine lS ?_ GE193.out|refine lS ?_ GE215.out)|exact HB.out))) : w.heap.size ≤ gb222));have n15_:=aM ((by rw [hg];exact Nat.ne_of_lt (bL (g:=gb192) (o:=.cells #[.slice A0_0 l0_0.length c0_0,.slice A0_1 l0_1.length c0_1] 72 (0,0)) (by (with_reducible repeat (first|refine bN ?_ _|refine bD ?_|refine bA ?_ _));exact BK192.out)) : gb192 ≠ gb222));have n16_:=aM ((by rw [hg];exact Nat.ne_of_gt (bL (g:=gb192) (o:=.cells #[.slice A0_0 l0_0.length c0_0,.slice A0_1 l0_1.length c0_1] 72 (0,0)) (by (with_reducible repeat (first|refine bN ?_ _|refine bD ?_|refine bA ?_ _));exact BK192.out)) : gb222 ≠ gb192));have n17_:=aM ((by rw [hg];exact Nat.ne_of_lt (bL (g:=gb193) (o:=.cells #[.slice A1_0 l1_0.length c1_0,.slice A1_1 l1_1.length c1_1] 72 (0,0)) (by (with_reducible repeat (first|refine bN ?_ _|refine bD ?_|refine bA ?_ _));exact BK193.out)) : gb193 ≠ gb222));have n18_:=aM ((by rw [hg];exact Nat.ne_of_gt (bL (g:=gb193) (o:=.cells #[.slice A1_0 l1_0.length c1_0,.slice A1_1 l1_1.length c1_1] 72 (0,0)) (by (with_reducible repeat (first|refine bN ?_ _|refine bD ?_|refine bA ?_ _));exact BK193.out)) : gb222 ≠ gb193));have n19_:=aM ((by rw [hg];exact Nat.ne_of_lt (bL (g:=gb215) (o:=.cells #[.slice Ao172 t209.length co172,.slice Ao176 t212.length co176] 78 (0,0)) (by (with_reducible repeat (first|refine bN ?_ _|refine bD ?_|refine bA ?_ _));exact BK215.out)) : gb215 ≠ gb222));have n20_:=aM ((by rw [hg];exact Nat.ne_of_gt (bL (g:=gb215) (o:=.cells #[.slice Ao172 t209.length co172,.slice Ao176 t212.length co176] 78 (0,0)) (by (with_reducible repeat (first|refine bN ?_ _|refine bD ?_|refine bA ?_ _));exact BK215.out)) : gb222 ≠ gb215));clear HO198 HO201 HO204 HO207 HO211 HO214 HO218 HO221 BK192 BK193 BK215 HB;have HO198:=n0_;have HO201:=n1_;have HO204:=n2_;have HO207:=n3_;have HO211:=n4_;have HO214:=n5_;have HO218:=n6_;have HO221:=n7_;have BK192:=n8_;have BK193:=n9_;have BK215:=n10_;have HB:=n11_;have BK222:=n12_;have GW222:=n13_;have GE222:=n14_;have NB192_222:=n15_;have NB222_192:=n16_;have NB193_222:=n17_;have NB222_193:=n18_;have NB215_222:=n19_;have NB222_215:=n20_;clear n0_ n1_ n2_ n3_ n4_ n5_ n6_ n7_ n8_ n9_ n10_ n11_ n12_ n13_ n14_ n15_ n16_ n17_ n18_ n19_ n20_ hb hbox hg;obtain ⟨Ao180,co180,eo180⟩:=Kd.S_slice HO218.out;subst eo180;have hnb181:=NB222_192.out;have hnc181:=NB192_222.out;have hnb182:=NB222_193.out;have hnc182:=NB193_222.out;have hnb183:=NB222_215.out;have hnc183:=NB215_222.out;have hcz184_0 : w179.cell? ⟨gb222,0,none⟩ = some (.slice none 0 0):=(bC BK222.out 0).trans rfl;have hcz184_1 : w179.cell? ⟨gb222,1,none⟩ = some (.slice none 0 0):=(bC BK222.out 1).trans rfl;have hfz184_0:=bF BK222.out 0;have hfz184_1:=bF BK222.out 1;obtain ⟨Ao185,co185,eo185⟩:=Kd.R_slice HO221.out;subst eo185;have hcz186_0 : w179.cell? ⟨gb215,0,none⟩ = some (.slice Ao172 t209.length co172):=(bC BK215.out 0).trans rfl;have hcz186_1 : w179.cell? ⟨gb215,1,none⟩ = some (.slice Ao176 t212.length co176):=(bC BK215.out 1).trans rfl;have hfz186_0:=bF BK215.out 0;have hfz186_1:=bF BK215.out 1)|((with_reducible refine gate_callee (f:=54) rfl ?_);refine goesL_ (some 31) rfl rfl Try.func54 (by kernel_rfl) rfl #[.agg #[.slice Ao172 t209.length co172,.slice Ao176 t212.length co176],.agg #[.slice Ao180 t216.length co180,.slice Ao185 t219.length co185]] rfl (by (try simp only [List.map_toArray,List.map_cons,List.map_nil]);first|done|rfl|(simp only [List.length_drop,List.length_take];rfl)) ?_;(with_reducible refine (impl_SameProgram.calls k _ _ t209 _ _ t212 _ _ t216 _ _ t219 t223 _ ?side1 ?side2 ?side3 ?side4 ?side5 ?side6 ?side7 ?side8 A24.out).mono ?_);(case side1 => refine (Kd.S_reads' (e:=119) (base:=w.heap.size) (ok:=fun k_ => (((True ∧ some k_ ≠ (.slice Ao164 t196.length co164 : Value).ownBlock) ∧ some k_ ≠ (.slice Ao166 t202.length co166 : Value).ownBlock) ∧ some k_ ≠ (.slice Ao180 t216.length co180 : Value).ownBlock)) (n:=t209.length) (c:=co172) ?_).2.2;exact (by (with_reducible repeat (first|apply Kd.S_alloc|apply Kd.S_drewN|apply Kd.S_drew));exact (Kd.S_mono (Kd.S_far (p:=⟨gb222,1,none⟩) (Kd.S_far (p:=⟨gb222,0,none⟩) (Kd.S_types HO211.out BK222.out (by decide)) (fun _ hk => hk.2) (.slice Ao180 t216.length co180)) (fun _ hk => hk.2) (.slice Ao185 t219.length co185)) (fun _ h_ => h_.1))));(case side2 => exact (Kd.S_reads' HO211.out).2.1);(case side3 => refine (rR (e:=121) (base:=w.heap.size) (ok:=fun k_ => (((True ∧ some k_ ≠ (.slice Ao165 t199.length co165 : Value).ownBlock) ∧ some k_ ≠ (.slice Ao167 t205.length co167 : Value).ownBlock) ∧ some k_ ≠ (.slice Ao185 t219.length co185 : Value).ownBlock)) (n:=t212.length) (c:=co176) ?_).2.2;exact (by (with_reducible repeat (first|apply rA|apply rN|apply rD));exact (Kd.R_mono (rF (p:=⟨gb222,1,none⟩) (rF (p:=⟨gb222,0,none⟩) (rY HO214.out BK222.out (by decide)) (fun _ hk => hk.2) (.slice Ao180 t216.length co180)) (fun _ hk => hk.2) (.slice Ao185 t219.length co185)) (fun _ h_ => h_.1))));(case side4 => exact (rR HO214.out).2.1);(case side5 => refine (Kd.S_reads' (e:=119) (base:=w.heap.size) (ok:=fun k_ => (((True ∧ some k_ ≠ (.slice Ao164 t196.length co164 : Value).ownBlock) ∧ some k_ ≠ (.slice Ao166 t202.length co166 : Value).ownBlock) ∧ some k_ ≠ (.slice Ao172 t209.length co172 : Value).ownBlock)) (n:=t216.length) (c:=co180) ?_).2.2;exact (by (with_reducible repeat (first|apply Kd.S_alloc|apply Kd.S_drewN|apply Kd.S_drew));exact (Kd.S_mono (Kd.S_far (p:=⟨gb222,1,none⟩) (Kd.S_far (p:=⟨gb222,0,none⟩) (Kd.S_types HO218.out BK222.out (by decide)) (fun _ hk => hk.2) (.slice Ao180 t216.length co180)) (fun _ hk => hk.2) (.slice Ao185 t219.length co185)) (fun _ h_ => h_.1))));(case side6 => exact (Kd.S_reads' HO218.out).2.1);(case side7 => refine (rR (e:=121) (base:=w.heap.size) (ok:=fun k_ => (((True ∧ some k_ ≠ (.slice Ao165 t199.length co165 : Value).ownBlock) ∧ some k_ ≠ (.slice Ao167 t205.length co167 : Value).ownBlock) ∧ some k_ ≠ (.slice Ao176 t212.length co176 : Value).ownBlock)) (n:=t219.length) (c:=co185) ?_).2.2;exact (by (with_reducible repeat (first|apply rA|apply rN|apply rD));exact (Kd.R_mono (rF (p:=⟨gb222,1,none⟩) (rF (p:=⟨gb222,0,none⟩) (rY HO221.out BK222.out (by decide)) (fun _ hk => hk.2) (.slice Ao180 t216.length co180)) (fun _ hk => hk.2) (.slice Ao185 t219.length co185)) (fun _ h_ => h_.1))));(case side8 => exact (rR HO221.out).2.1);rintro e w187 ⟨rfl,hb⟩;refine ⟨_,rfl,?_⟩;have n0_:=aM (Kd.S_below (by (with_reducible repeat (first|apply Kd.S_alloc|apply Kd.S_drewN|apply Kd.S_drew));exact (Kd.S_mono (Kd.S_far (p:=⟨gb222,1,none⟩) (Kd.S_far (p:=⟨gb222,0,none⟩) (Kd.S_types HO198.out BK222.out (by decide)) (fun _ hk => hk.2) (.slice Ao180 t216.length co180)) (fun _ hk => hk.2) (.slice Ao185 t219.length co185)) (fun _ h_ => h_.1))) hb);have n1_:=aM (rB (by (with_reducible repeat (first|apply rA|apply rN|apply rD));exact (Kd.R_mono (rF (p:=⟨gb222,1,none⟩) (rF (p:=⟨gb222,0,none⟩) (rY HO201.out BK222.out (by decide)) (fun _ hk => hk.2) (.slice Ao180 t216.length co180)) (fun _ hk => hk.2) (.slice Ao185 t219.length co185)) (fun _ h_ => h_.1))) hb);have n2_:=aM (Kd.S_below (by (with_reducible repeat (first|apply Kd.S_alloc|apply Kd.S_drewN|apply Kd.S_drew));exact (Kd.S_mono (Kd.S_far (p:=⟨gb222,1,none⟩) (Kd.S_far (p:=⟨gb222,0,none⟩) (Kd.S_types HO204.out BK222.out (by decide)) (fun _ hk => hk.2) (.slice Ao180 t216.length co180)) (fun _ hk => hk.2) (.slice Ao185 t219.length co185)) (fun _ h_ => h_.1))) hb);have n3_:=aM (rB (by (with_reducible repeat (first|apply rA|apply rN|apply rD));exact (Kd.R_mono (rF (p:=⟨gb222,1,none⟩) (rF (p:=⟨gb222,0,none⟩) (rY HO207.out BK222.out (by decide)) (fun _ hk => hk.2) (.slice Ao180 t216.length co180)) (fun _ hk => hk.2) (.slice Ao185 t219.length co185)) (fun _ h_ => h_.1))) hb);have n4_:=aM (Kd.S_below (by (with_reducible repeat (first|apply Kd.S_alloc|apply Kd.S_drewN|apply Kd.S_drew));exact (Kd.S_mono (Kd.S_far (p:=⟨gb222,1,none⟩) (Kd.S_far (p:=⟨gb222,0,none⟩) (Kd.S_types HO211.out BK222.out (by decide)) (fun _ hk => hk.2) (.slice Ao180 t216.length co180)) (fun _ hk => hk.2) (.slice Ao185 t219.length co185)) (fun _ h_ => h_.1))) hb);have n5_:=aM (rB (by (with_reducible repeat (first|apply rA|apply rN|apply rD));exact (Kd.R_mono (rF (p:=⟨gb222,1,none⟩) (rF (p:=⟨gb222,0,none⟩) (rY HO214.out BK222.out (by decide)) (fun _ hk => hk.2) (.slice Ao180 t216.length co180)) (fun _ hk => hk.2) (.slice Ao185 t219.length co185)) (fun _ h_ => h_.1))) hb);have n6_:=aM (Kd.S_below (by (with_reducible repeat (first|apply Kd.S_alloc|apply Kd.S_drewN|apply Kd.S_drew));exact (Kd.S_mono (Kd.S_far (p:=⟨gb222,1,none⟩) (Kd.S_far (p:=⟨gb222,0,none⟩) (Kd.S_types HO218.out BK222.out (by decide)) (fun _ hk => hk.2) (.slice Ao180 t216.length co180)) (fun _ hk => hk.2) (.slice Ao185 t219.length co185)) (fun _ h_ => h_.1))) hb);have n7_:=aM (rB (by (with_reducible repeat (first|apply rA|apply rN|apply rD));exact (Kd.R_mono (rF (p:=⟨gb222,1,none⟩) (rF (p:=⟨gb222,0,none⟩) (rY HO221.out BK222.out (by decide)) (fun _ hk => hk.2) (.slice Ao180 t216.length co180)) (fun _ hk => hk.2) (.slice Ao185 t219.length co185)) (fun _ h_ => h_.1))) hb);have n8_:=aM (bB (g:=gb192) (o:=.cells #[.slice A0_0 l0_0.length c0_0,.slice A0_1 l0_1.length c0_1] 72 (0,0)) (by (with_reducible repeat (first|refine bN ?_ _|refine bD ?_|refine bA ?_ _));refine blk_far ?_ NB192_222.out _;(with_reducible repeat (first|refine bN ?_ _|refine bD ?_|refine bA ?_ _));refine blk_far ?_ NB192_222.out _;(with_reducible repeat (first|refine bN ?_ _|refine bD ?_|refine bA ?_ _));exact BK192.out) hb);have n9_:=aM (bB (g:=gb193) (o:=.cells #[.slice A1_0 l1_0.length c1_0,.slice A1_1 l1_1.length c1_1] 72 (0,0)) (by (with_reducible repeat (first|refine bN ?_ _|refine bD ?_|refine bA ?_ _));refine blk_far ?_ NB193_222.out _;(with_reducible repeat (first|refine bN ?_ _|refine bD ?_|refine bA ?_ _));refine blk_far ?_ NB193_222.out _;(with_reducible repeat (first|refine bN ?_ _|refine bD ?_|refine bA ?_ _));exact BK193.out) hb);have n10_:=aM (bB (g:=gb215) (o:=.cells #[.slice Ao172 t209.length co172,.slice Ao176 t212.length co176] 78 (0,0)) (by (with_reducible repeat (first|refine bN ?_ _|refine bD ?_|refine bA ?_ _));refine blk_far ?_ NB215_222.out _;(with_reducible repeat (first|refine bN ?_ _|refine bD ?_|refine bA ?_ _));refine blk_far ?_ NB215_222.out _;(with_reducible repeat (first|refine bN ?_ _|refine bD ?_|refine bA ?_ _));exact BK215.out) hb);have n11_:=aM (bB (g:=gb222) (o:=.cells #[.slice Ao180 t216.length co180,.slice Ao185 t219.length co185] 78 (0,0)) (by (with_reducible repeat (first|refine bN ?_ _|refine bD ?_|refine bA ?_ _));refine blk_put (cs:=#[.slice Ao180 t216.length co180,.slice none 0 0]) ?_ 1 _ rfl;(with_reducible repeat (first|refine bN ?_ _|refine bD ?_|refine bA ?_ _));refine blk_put (cs:=#[.slice none 0 0,.slice none 0 0]) ?_ 0 _ rfl;(with_reducible repeat (first|refine bN ?_ _|refine bD ?_|refine bA ?_ _));exact BK222.out) hb);have n12_:=aM (lP (by repeat (first|(with_reducible first|exact HB.out|apply lA|apply lN|apply lD|refine lS ?_ GE192.out|refine lS ?_ GE193.out|refine lS ?_ GE215.out|refine lS ?_ GE222.out)|exact HB.out)) hb);clear HO198 HO201 HO204 HO207 HO211 HO214 HO218 HO221 BK192 BK193 BK215 BK222 HB;have HO198:=n0_;have HO201:=n1_;have HO204:=n2_;have HO207:=n3_;have HO211:=n4_;have HO214:=n5_;have HO218:=n6_;have HO221:=n7_;have BK192:=n8_;have BK193:=n9_;have BK215:=n10_;have BK222:=n11_;have HB:=n12_;clear n0_ n1_ n2_ n3_ n4_ n5_ n6_ n7_ n8_ n9_ n10_ n11_ n12_;(try clear hb);(try clear hb2);(try clear hk);(try clear hi)))
     have n0_:=aM (Kd.S_drew HO198.out)
     have n1_:=aM (rD HO201.out)
     have n2_:=aM (Kd.S_drew HO204.out)
     have n3_:=aM (rD HO207.out)
     have n4_:=aM (Kd.S_drew HO211.out)
     have n5_:=aM (rD HO214.out)
     have n6_:=aM (Kd.S_drew HO218.out)
     have n7_:=aM (rD HO221.out)
     have n8_:=aM (bD BK192.out)
     have n9_:=aM (bD BK193.out)
     have n10_:=aM (bD BK215.out)
     have n11_:=aM (bD BK222.out)
     have n12_:=aM (lD HB.out)
     clear HO198
     clear HO201
     clear HO204
     clear HO207
     clear HO211
     clear HO214
     clear HO218
     clear HO221
     clear BK192
     clear BK193
     clear BK215
     clear BK222
     clear HB
     have HO198:=n0_
     have HO201:=n1_
     have HO204:=n2_
     have HO207:=n3_
     have HO211:=n4_
     have HO214:=n5_
     have HO218:=n6_
     have HO221:=n7_
     have BK192:=n8_
     have BK193:=n9_
     have BK215:=n10_
     have BK222:=n11_
     have HB:=n12_
     clear n0_ n1_ n2_ n3_ n4_ n5_ n6_ n7_ n8_ n9_ n10_ n11_ n12_
     refine start_ (n:=5) (S:=fun w' => w'.cell? ⟨gb215,0,none⟩ = some (.slice Ao172 t209.length co172) ∧ w'.cell? ⟨gb215,1,none⟩ = some (.slice Ao176 t212.length co176) ∧ w'.cell? ⟨gb192,0,none⟩ = some (.slice A0_0 l0_0.length c0_0) ∧ w'.cell? ⟨gb192,1,none⟩ = some (.slice A0_1 l0_1.length c0_1)) (ds:=[]) #[bf,bf,bf,bf,bf] (by kernel_rfl) rfl rfl ⟨(bC BK215.out 0).trans rfl,(bC BK215.out 1).trans rfl,(bC BK192.out 0).trans rfl,(bC BK192.out 1).trans rfl⟩ (fun hHeld => ?_)
     generalize w187.drew = w188 at HO198 HO201 HO204 HO207 HO211 HO214 HO218 HO221 BK192 BK193 BK215 BK222 HB hHeld ⊢
     refine take_ (i:=0) (N:=some 35) (v:=?_) (a':=?_) #[bT,bf,bf,bf,bf] rfl rfl (by kernel_rfl) (fun _ _ _ h => h) (Or.inl ⟨by rfl,?_⟩) hHeld ?_ ?_
     rotate_left
     ·rintro w' ⟨s0,s1,s2,s3⟩
      go_simp
      with_reducible rfl
     rotate_left
     ·simp only [Act.put,q_ia,q_cz,q_cs,i64_w,i32_w];rfl
     refine take_ (i:=1) (N:=some 36) (v:=?_) (a':=?_) #[bT,bT,bf,bf,bf] rfl rfl (by kernel_rfl) (fun _ _ _ h => h) (Or.inl ⟨by rfl,?_⟩) hHeld ?_ ?_
     rotate_left
     ·rintro w' ⟨s0,s1,s2,s3⟩
      go_simp
      with_reducible rfl
     rotate_left
     ·simp only [Act.put,q_ia,q_cz,q_cs,i64_w,i32_w];rfl
     refine one_ (i:=2) (N:=some 37) #[bT,bT,bT,bf,bf] rfl rfl (by kernel_rfl) (by decide) (fun K hK => ?_)
     refine goes_ Try.func53 (by kernel_rfl) rfl #[.agg #[.slice A0_0 l0_0.length c0_0,.slice A0_1 l0_1.length c0_1]] (by rfl) rfl rfl (by (try simp only [List.map_toArray,List.map_cons,List.map_nil]);first|done|rfl|(simp only [List.length_drop,List.length_take];rfl)) ?_
     with_reducible refine (laws_toProgram.calls k _ _ l0_0 _ _ l0_1 t224 t227 _ ?side1 ?side2 ?side3 ?side4 A60.out).mono ?_
     (case side1 => repeat (first|exact (cB HR0_0.out HB.out)|(with_reducible first|refine cA ?_ _|refine cN ?_ _|refine cD ?_)))
     (case side2 => exact HC0_0.out)
     (case side3 => repeat (first|exact (cB HR0_1.out HB.out)|(with_reducible first|refine cA ?_ _|refine cN ?_ _|refine cD ?_)))
     (case side4 => exact HC0_1.out)
     rintro e w189 ⟨v225,v228,rfl,ho0,ho1,hb⟩
     refine ⟨_,rfl,?_⟩
     have n0_:=aM (Kd.S_elder' (by (with_reducible repeat (first|apply Kd.S_alloc|apply Kd.S_drewN|apply Kd.S_drew));exact HO198.out) (Kd.S_base ho0) hb)
     have n1_:=aM (rE (by (with_reducible repeat (first|apply rA|apply rN|apply rD));exact HO201.out) (rS ho1) hb)
     have n2_:=aM (Kd.S_elder' (by (with_reducible repeat (first|apply Kd.S_alloc|apply Kd.S_drewN|apply Kd.S_drew));exact HO204.out) (Kd.S_base ho0) hb)
     have n3_:=aM (rE (by (with_reducible repeat (first|apply rA|apply rN|apply rD));exact HO207.out) (rS ho1) hb)
     have n4_:=aM (Kd.S_elder' (by (with_reducible repeat (first|apply Kd.S_alloc|apply Kd.S_drewN|apply Kd.S_drew));exact HO211.out) (Kd.S_base ho0) hb)
     have n5_:=aM (rE (by (with_reducible repeat (first|apply rA|apply rN|apply rD));exact HO214.out) (rS ho1) hb)
     have n6_:=aM (Kd.S_elder' (by (with_reducible repeat (first|apply Kd.S_alloc|apply Kd.S_drewN|apply Kd.S_drew));exact HO218.out) (Kd.S_base ho0) hb)
     have n7_:=aM (rE (by (with_reducible repeat (first|apply rA|apply rN|apply rD));exact HO221.out) (rS ho1) hb)
     have n8_:=aM (Kd.S_lower (Kd.S_new' (Kd.S_new' (Kd.S_new' (Kd.S_new' ho0 (Kd.S_lt (by (with_reducible repeat (first|apply Kd.S_alloc|apply Kd.S_drewN|apply Kd.S_drew));exact HO198.out))) (Kd.S_lt (by (with_reducible repeat (first|apply Kd.S_alloc|apply Kd.S_drewN|apply Kd.S_drew));exact HO204.out))) (Kd.S_lt (by (with_reducible repeat (first|apply Kd.S_alloc|apply Kd.S_drewN|apply Kd.S_drew));exact HO211.out))) (Kd.S_lt (by (with_reducible repeat (first|apply Kd.S_alloc|apply Kd.S_drewN|apply Kd.S_drew));exact HO218.out))) (lZ (by repeat (first|(with_reducible first|exact HB.out|apply lA|apply lN|apply lD|refine lS ?_ GE192.out|refine lS ?_ GE193.out|refine lS ?_ GE215.out|refine lS ?_ GE222.out)|exact HB.out))))
     have n9_:=aM (rL (rW (rW (rW (rW ho1 (rT (by (with_reducible repeat (first|apply rA|apply rN|apply rD));exact HO201.out))) (rT (by (with_reducible repeat (first|apply rA|apply rN|apply rD));exact HO207.out))) (rT (by (with_reducible repeat (first|apply rA|apply rN|apply rD));exact HO214.out))) (rT (by (with_reducible repeat (first|apply rA|apply rN|apply rD));exact HO221.out))) (lZ (by repeat (first|(with_reducible first|exact HB.out|apply lA|apply lN|apply lD|refine lS ?_ GE192.out|refine lS ?_ GE193.out|refine lS ?_ GE215.out|refine lS ?_ GE222.out)|exact HB.out))))
     have n10_:=aM (bB (g:=gb192) (o:=.cells #[.slice A0_0 l0_0.length c0_0,.slice A0_1 l0_1.length c0_1] 72 (0,0)) (by (with_reducible repeat (first|refine bN ?_ _|refine bD ?_|refine bA ?_ _));exact BK192.out) hb)
     have n11_:=aM (bB (g:=gb193) (o:=.cells #[.slice A1_0 l1_0.length c1_0,.slice A1_1 l1_1.length c1_1] 72 (0,0)) (by (with_reducible repeat (first|refine bN ?_ _|refine bD ?_|refine bA ?_ _));exact BK193.out) hb)
     have n12_:=aM (bB (g:=gb215) (o:=.cells #[.slice Ao172 t209.length co172,.slice Ao176 t212.length co176] 78 (0,0)) (by (with_reducible repeat (first|refine bN ?_ _|refine bD ?_|refine bA ?_ _));exact BK215.out) hb)
     have n13_:=aM (bB (g:=gb222) (o:=.cells #[.slice Ao180 t216.length co180,.slice Ao185 t219.length co185] 78 (0,0)) (by (with_reducible repeat (first|refine bN ?_ _|refine bD ?_|refine bA ?_ _));exact BK222.out) hb)
     have n14_:=aM (lP (by repeat (first|(with_reducible first|exact HB.out|apply lA|apply lN|apply lD|refine lS ?_ GE192.out|refine lS ?_ GE193.out|refine lS ?_ GE215.out|refine lS ?_ GE222.out)|exact HB.out)) hb)
     clear HO198
     clear HO201
     clear HO204
     clear HO207
     clear HO211
     clear HO214
     clear HO218
     clear HO221
     clear BK192
     clear BK193
     clear BK215
     clear BK222
     clear HB
     have HO198:=n0_
     have HO201:=n1_
     have HO204:=n2_
     have HO207:=n3_
     have HO211:=n4_
     have HO214:=n5_
     have HO218:=n6_
     have HO221:=n7_
     have HO226:=n8_
     have HO229:=n9_
     have BK192:=n10_
     have BK193:=n11_
     have BK215:=n12_
     have BK222:=n13_
     have HB:=n14_
     clear n0_ n1_ n2_ n3_ n4_ n5_ n6_ n7_ n8_ n9_ n10_ n11_ n12_ n13_ n14_
     (try clear hb)
     (try clear hb2)
     (try clear hk)
     (try clear hi)
     (try clear ho0)
     (try clear ho1)
     obtain ⟨Ao190,co190,eo190⟩:=Kd.S_slice HO226.out
     (first|subst eo190|(injection eo190 with f1_ f2_ f3_;have f4_:=f1_.symm;have f5_:=f3_.symm;clear f1_ f2_ f3_;subst f4_;subst f5_))
     obtain ⟨Ao191,co191,eo191⟩:=Kd.R_slice HO229.out
     (first|subst eo191|(injection eo191 with f1_ f2_ f3_;have f4_:=f1_.symm;have f5_:=f3_.symm;clear f1_ f2_ f3_;subst f4_;subst f5_))
     refine hK.out _ _ ⟨(bC BK215.out 0).trans rfl,(bC BK215.out 1).trans rfl,(bC BK192.out 0).trans rfl,(bC BK192.out 1).trans rfl⟩ (fun hHeld => ?_)
     clear hK K
     refine norm_ (a':=?_) ?_ ?_
     rotate_left
     ·show Act.put _ (some 37) _ = _
      simp only [Act.put,q_ia,q_cz,q_cs,i64_w,i32_w]
      rfl
     refine one_ (i:=3) (N:=some 38) #[bT,bT,bT,bT,bf] rfl rfl (by kernel_rfl) (by decide) (fun K hK => ?_)
     refine goes_ Try.func55 (by kernel_rfl) rfl #[.agg #[.slice Ao172 t209.length co172,.slice Ao176 t212.length co176],.agg #[.slice Ao190 t224.length co190,.slice Ao191 t227.length co191]] (by rfl) rfl rfl (by (try simp only [List.map_toArray,List.map_cons,List.map_nil]);first|done|rfl|(simp only [List.length_drop,List.length_take];rfl)) ?_
     with_reducible refine (laws_eqProgram.calls k _ _ t209 _ _ t212 _ _ t224 _ _ t227 false _ ?side1 ?side2 ?side3 ?side4 ?side5 ?side6 ?side7 ?side8 A61.out).mono ?_
     (case side1 => repeat (first|exact (Kd.S_reads' HO211.out).2.2|(with_reducible first|refine cA ?_ _|refine cN ?_ _|refine cD ?_)))
     (case side2 => exact (Kd.S_reads' HO211.out).2.1)
     (case side3 => repeat (first|exact (rR HO214.out).2.2|(with_reducible first|refine cA ?_ _|refine cN ?_ _|refine cD ?_)))
     (case side4 => exact (rR HO214.out).2.1)
     (case side5 => repeat (first|exact (Kd.S_reads' HO226.out).2.2|(with_reducible first|refine cA ?_ _|refine cN ?_ _|refine cD ?_)))
     (case side6 => exact (Kd.S_reads' HO226.out).2.1)
     (case side7 => repeat (first|exact (rR HO229.out).2.2|(with_reducible first|refine cA ?_ _|refine cN ?_ _|refine cD ?_)))
     (case side8 => exact (rR HO229.out).2.1)
     rintro e w192 ⟨rfl,hb⟩
     refine ⟨_,rfl,?_⟩
     have n0_:=aM (Kd.S_below (by (with_reducible repeat (first|apply Kd.S_alloc|apply Kd.S_drewN|apply Kd.S_drew));exact HO198.out) hb)
     have n1_:=aM (rB (by (with_reducible repeat (first|apply rA|apply rN|apply rD));exact HO201.out) hb)
     have n2_:=aM (Kd.S_below (by (with_reducible repeat (first|apply Kd.S_alloc|apply Kd.S_drewN|apply Kd.S_drew));exact HO204.out) hb)
     have n3_:=aM (rB (by (with_reducible repeat (first|apply rA|apply rN|apply rD));exact HO207.out) hb)
     have n4_:=aM (Kd.S_below (by (with_reducible repeat (first|apply Kd.S_alloc|apply Kd.S_drewN|apply Kd.S_drew));exact HO211.out) hb)
     have n5_:=aM (rB (by (with_reducible repeat (first|apply rA|apply rN|apply rD));exact HO214.out) hb)
     have n6_:=aM (Kd.S_below (by (with_reducible repeat (first|apply Kd.S_alloc|apply Kd.S_drewN|apply Kd.S_drew));exact HO218.out) hb)
     have n7_:=aM (rB (by (with_reducible repeat (first|apply rA|apply rN|apply rD));exact HO221.out) hb)
     have n8_:=aM (Kd.S_below (by (with_reducible repeat (first|apply Kd.S_alloc|apply Kd.S_drewN|apply Kd.S_drew));exact HO226.out) hb)
     have n9_:=aM (rB (by (with_reducible repeat (first|apply rA|apply rN|apply rD));exact HO229.out) hb)
     have n10_:=aM (bB (g:=gb192) (o:=.cells #[.slice A0_0 l0_0.length c0_0,.slice A0_1 l0_1.length c0_1] 72 (0,0)) (by (with_reducible repeat (first|refine bN ?_ _|refine bD ?_|refine bA ?_ _));exact BK192.out) hb)
     have n11_:=aM (bB (g:=gb193) (o:=.cells #[.slice A1_0 l1_0.length c1_0,.slice A1_1 l1_1.length c1_1] 72 (0,0)) (by (with_reducible repeat (first|refine bN ?_ _|refine bD ?_|refine bA ?_ _));exact BK193.out) hb)
     have n12_:=aM (bB (g:=gb215) (o:=.cells #[.slice Ao172 t209.length co172,.slice Ao176 t212.length co176] 78 (0,0)) (by (with_reducible repeat (first|refine bN ?_ _|refine bD ?_|refine bA ?_ _));exact BK215.out) hb)
     have n13_:=aM (bB (g:=gb222) (o:=.cells #[.slice Ao180 t216.length co180,.slice Ao185 t219.length co185] 78 (0,0)) (by (with_reducible repeat (first|refine bN ?_ _|refine bD ?_|refine bA ?_ _));exact BK222.out) hb)
     have n14_:=aM (lP (by repeat (first|(with_reducible first|exact HB.out|apply lA|apply lN|apply lD|refine lS ?_ GE192.out|refine lS ?_ GE193.out|refine lS ?_ GE215.out|refine lS ?_ GE222.out)|exact HB.out)) hb)
     clear HO198
     clear HO201
     clear HO204
     clear HO207
     clear HO211
     clear HO214
     clear HO218
     clear HO221
     clear HO226
     clear HO229
     clear BK192
     clear BK193
     clear BK215
     clear BK222
     clear HB
     have HO198:=n0_
     have HO201:=n1_
     have HO204:=n2_
     have HO207:=n3_
     have HO211:=n4_
     have HO214:=n5_
     have HO218:=n6_
     have HO221:=n7_
     have HO226:=n8_
     have HO229:=n9_
     have BK192:=n10_
     have BK193:=n11_
     have BK215:=n12_
     have BK222:=n13_
     have HB:=n14_
     clear n0_ n1_ n2_ n3_ n4_ n5_ n6_ n7_ n8_ n9_ n10_ n11_ n12_ n13_ n14_
     (try clear hb)
     (try clear hb2)
     (try clear hk)
     (try clear hi)
     refine hK.out _ _ ⟨(bC BK215.out 0).trans rfl,(bC BK215.out 1).trans rfl,(bC BK192.out 0).trans rfl,(bC BK192.out 1).trans rfl⟩ (fun hHeld => ?_)
     clear hK K
     refine norm_ (a':=?_) ?_ ?_
     rotate_left
     ·show Act.put _ (some 38) _ = _
      simp only [Act.put,q_ia,q_cz,q_cs,i64_w,i32_w]
      rfl
     refine pure_ (i:=4) (N:=some 39) (v:=?_) (a':=?_) #[bT,bT,bT,bT,bT] rfl rfl (by kernel_rfl) (fun _ _ _ h => h) (Or.inl ⟨by rfl,?_⟩) ?_ ?_
     rotate_left
     ·intro w';go_simp;with_reducible rfl
     rotate_left
     ·simp only [Act.put,q_ia,q_cz,q_cs,i64_w,i32_w];rfl
     refine done_ (by kernel_rfl) ?_
     try go_wp2
     go_ret
     exact ⟨by first|rfl|(simp [errW_none,errW_some] <;> rfl)|(simp [*,errW_none,errW_some] <;> rfl),by repeat (first|(with_reducible first|exact HB.out|apply lA|apply lN|apply lD|refine lS ?_ GE192.out|refine lS ?_ GE193.out|refine lS ?_ GE215.out|refine lS ?_ GE222.out)|exact HB.out)⟩

end Go.Proofs.Ytjbfppakafkkoaa.QFnExactSameProgram
