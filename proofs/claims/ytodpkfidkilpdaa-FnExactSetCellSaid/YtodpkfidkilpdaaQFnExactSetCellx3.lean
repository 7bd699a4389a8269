-- A text of this session, made by wip/own_print.py (the kit's print with additions of ours).
import Derived.Test.YtodpkfidkilpdaaQFnExactSetCellx0
import Derived.Test.YtodpkfidkilpdaaQFnExactSetCellx2
namespace Go.Proofs.Ytodpkfidkilpdaa.QFnExactSetCell
open Go.RowKit Go.Proofs.YtodpkfidkilpdaaW.PrintWords Go.Proofs.YtodpkfidkilpdaaW.PrintLast Go.Proofs.YtodpkfidkilpdaaW.PrintMore
attribute [local go_sem] max2_int min2_int max_two min_two max_three min_three max_four min_four   -- for this text's walks alone
set_option linter.unusedVariables false
set_option linter.unusedSimpArgs false
open Bool renaming true → bT, false → bf
open Go.Proofs.YtodpkfidkilpdaaW.PrintWords.Kd renaming R_alloc → rA, R_drewN → rN, R_drew → rD, C_alloc → cA, C_drewN → cN, C_drew → cD, R_far → rF, R_below → rB, R_lower → rL, R_lt → rT, R_base → rS, C_below → cB, R_types → rY, R_elder' → rE, R_reads' → rR, R_new' → rW
open Go.Proofs.YtodpkfidkilpdaaW.PrintWords renaming blk_drewN → bN, blk_drew → bD, blk_alloc → bA, below_set → lS, pw_below_drewN → lN, below_drew1 → lD, below_alloc → lA, blk_cell → bC, blk_below → bB, below_size → lZ, below_step → lP, blk_lt → bL, blk_frozen → bF
open Go.Proofs.YtodpkfidkilpdaaW.PrintWords.Aside0 renaming mk → aM
theorem q_ia4 {α : Type} (l : List α) (i : Nat) (a : α) : l.toArray.setIfInBounds i a = (l.set i a).toArray := List.setIfInBounds_toArray ..
theorem q_cz4 {α : Type} (a b : α) (l : List α) : (a :: l).set 0 b = b :: l := rfl
theorem q_cs4 {α : Type} (a b : α) (l : List α) (n : Nat) : (a :: l).set (n + 1) b = a :: l.set n b := rfl

/-! ### laws_eqStore: function 23 -/
def laws_eqStore.f (k : Nat) (l0_0 : List (S53)) (l0_1 : List (S57)) (a0_2 : ByteArray) (l1_0 : List (S53)) (l1_1 : List (S57)) (a1_2 : ByteArray) : Option (Bool) := (laws_eqVarS.f k l0_0 l1_0).bind fun t152 => (if t152 = true then ((laws_eqCellS.f k l0_1 l1_1).bind fun t153 => (if t153 = true then (if a0_2.toList = a1_2.toList then (some true) else (some false)) else (some false))) else (some false))
theorem laws_eqStore.mono : ∀ a0 a1 a2 a3 a4 a5 k, LeO (laws_eqStore.f k a0 a1 a2 a3 a4 a5) (laws_eqStore.f (k + 1) a0 a1 a2 a3 a4 a5) := by
 intro a0 a1 a2 a3 a4 a5 k
 unfold laws_eqStore.f
 repeat' first
   | (with_reducible exact laws_eqCellS.mono _ _ _)
   | (with_reducible exact laws_eqVarS.mono _ _ _)
   | (with_reducible exact LeO.refl _)
   | (with_reducible exact LeO.none _)
   | (with_reducible refine LeO.ite ?_ ?_)
   | (with_reducible refine LeO.bind ?_ (fun _ => ?_))
   | exact laws_eqCellS.mono _ _ _
   | exact laws_eqVarS.mono _ _ _
   | exact LeO.none _
   | refine LeO.ite ?_ ?_
   | refine LeO.bind ?_ (fun _ => ?_)
set_option maxHeartbeats 8000000 in
set_option maxRecDepth 100000 in
theorem laws_eqStore.calls (k : Nat) (A0_0 : Option Addr) (c0_0 : Nat) (l0_0 : List (S53)) (A0_1 : Option Addr) (c0_1 : Nat) (l0_1 : List (S57)) (a0_2 : ByteArray) (A1_0 : Option Addr) (c1_0 : Nat) (l1_0 : List (S53)) (A1_1 : Option Addr) (c1_1 : Nat) (l1_1 : List (S57)) (a1_2 : ByteArray) (r : Bool) (w : World) (hr0_0 : Kd.C k53 w A0_0 l0_0.length l0_0) (hc0_0 : l0_0.length ≤ c0_0) (hr0_1 : Kd.C k57 w A0_1 l0_1.length l0_1) (hc0_1 : l0_1.length ≤ c0_1) (hr1_0 : Kd.C k53 w A1_0 l1_0.length l1_0) (hc1_0 : l1_0.length ≤ c1_0) (hr1_1 : Kd.C k57 w A1_1 l1_1.length l1_1) (hc1_1 : l1_1.length ≤ c1_1) (h : laws_eqStore.f k l0_0 l0_1 a0_2 l1_0 l1_1 a1_2 = some r) :
  Calls Try.prog 23 #[.agg #[.slice A0_0 l0_0.length c0_0,.slice A0_1 l0_1.length c0_1,.string a0_2],.agg #[.slice A1_0 l1_0.length c1_0,.slice A1_1 l1_1.length c1_1,.string a1_2]] w fun e w' => e = .returned (.bool r) ∧ Below w.heap.size w w':=by
 have hu38:=Try.underlying38
 have HR0_0:=aM hr0_0
 have HC0_0:=aM hc0_0
 clear hr0_0 hc0_0
 have HR0_1:=aM hr0_1
 have HC0_1:=aM hc0_1
 clear hr0_1 hc0_1
 have HR1_0:=aM hr1_0
 have HC1_0:=aM hc1_0
 clear hr1_0 hc1_0
 have HR1_1:=aM hr1_1
 have HC1_1:=aM hc1_1
 clear hr1_1 hc1_1
 have HB:=aM (Below.refl w.heap.size w)
 have H : ((laws_eqVarS.f k l0_0 l1_0).bind fun t152 => (if t152 = true then ((laws_eqCellS.f k l0_1 l1_1).bind fun t153 => (if t153 = true then (if a0_2.toList = a1_2.toList then (some true) else (some false)) else (some false))) else (some false))) = some r:=h
 clear h
 replace H:=Option.bind_eq_some_iff.mp H
 obtain ⟨t152,A30,H⟩:=H
 replace H : (if t152 = true then ((laws_eqCellS.f k l0_1 l1_1).bind fun t153 => (if t153 = true then (if a0_2.toList = a1_2.toList then (some true) else (some false)) else (some false))) else (some false)) = some r:=H
 have A3:=aM A30
 clear A30
 by_cases c4 : t152 = true
 ·subst c4
  have H1 : ((laws_eqCellS.f k l0_1 l1_1).bind fun t153 => (if t153 = true then (if a0_2.toList = a1_2.toList then (some true) else (some false)) else (some false))) = some r:=by rw [if_pos rfl] at H;exact H
  clear H
  have H:=H1
  clear H1
  replace H:=Option.bind_eq_some_iff.mp H
  obtain ⟨t153,A50,H⟩:=H
  replace H : (if t153 = true then (if a0_2.toList = a1_2.toList then (some true) else (some false)) else (some false)) = some r:=H
  have A5:=aM A50
  clear A50
  by_cases c6 : t153 = true
  ·subst c6
   have H1 : (if a0_2.toList = a1_2.toList then (some true) else (some false)) = some r:=by rw [if_pos rfl] at H;exact H
   clear H
   have H:=H1
   clear H1
   by_cases c7 : a0_2.toList = a1_2.toList
   ·rw [if_pos c7] at H
    have c7b0 : (a0_2.toList == a1_2.toList) = true:=beq_iff_eq.mpr c7
    have c7b1 : (a0_2.toList != a1_2.toList) = false:=bne_eq_false_iff_eq.mpr c7
    clear c7
    obtain rfl:=Option.some.inj H
    go_enter Try.func23,Try.ntmps23
    go_wp2_with (first|((with_reducible refine gate_dst (N:=2) rfl ?_);refine box_event ?hg (N:=2) ?hd (cs:=#[.slice A0_0 l0_0.length c0_0,.slice A0_1 l0_1.length c0_1,.string a0_2]) (t:=38) ?hr ?_;(case hd => rfl);(case hg => rfl);(case hr => first|(go_simp;done)|(go_simp;rfl));intro gb150 hg w8 hbox hb;have n0_:=aM (lQ HB.out hb);have n1_:=aM (hbox);have n2_:=aM ((sQ hg HB.out : w.heap.size ≤ gb150));have n3_:=n2_;clear HB;have HB:=n0_;have BK150:=n1_;have GW150:=n2_;have GE150:=n3_;clear n0_ n1_ n2_ n3_ hb hbox hg)|((with_reducible refine gate_dst (N:=3) rfl ?_);refine box_event ?hg (N:=3) ?hd (cs:=#[.slice A1_0 l1_0.length c1_0,.slice A1_1 l1_1.length c1_1,.string a1_2]) (t:=38) ?hr ?_;(case hd => rfl);(case hg => rfl);(case hr => first|(go_simp;done)|(go_simp;rfl));intro gb151 hg w9 hbox hb;have n0_:=aM (bH BK150.out hb);have n1_:=aM (lQ HB.out hb);have n2_:=aM (hbox);have n3_:=aM ((sQ hg HB.out : w.heap.size ≤ gb151));have n4_:=n3_;have n5_:=aM ((nL hg BK150.out : gb150 ≠ gb151));have n6_:=aM ((nG hg BK150.out : gb151 ≠ gb150));clear BK150 HB;have BK150:=n0_;have HB:=n1_;have BK151:=n2_;have GW151:=n3_;have GE151:=n4_;have NB150_151:=n5_;have NB151_150:=n6_;clear n0_ n1_ n2_ n3_ n4_ n5_ n6_ hb hbox hg;have hnb10:=NB150_151.out;have hnc10:=NB151_150.out;obtain ⟨⟨hcz11_0,hcz11_1,hcz11_2⟩,hfz11_0,hfz11_1,hfz11_2⟩:=bC3 BK150.out;obtain ⟨⟨hcz12_0,hcz12_1,hcz12_2⟩,hfz12_0,hfz12_1,hfz12_2⟩:=bC3 BK151.out)|((with_reducible refine gate_callee (f:=56) rfl ?_);refine goesL_ (some 9) rfl rfl Try.func56 (by kernel_rfl) rfl #[.slice A0_0 l0_0.length c0_0,.slice A1_0 l1_0.length c1_0] rfl (by (try simp only [List.map_toArray,List.map_cons,List.map_nil]);first|done|rfl|(simp only [List.length_drop,List.length_take];rfl)) ?_;(with_reducible refine (laws_eqVarS.calls k _ _ l0_0 _ _ l1_0 true _ ?side1 ?side2 ?side3 ?side4 A3.out).mono ?_);(case side1 => repeat (first|exact (cB HR0_0.out HB.out)|(with_reducible first|refine cA ?_ _|refine cN ?_ _|refine cD ?_)));(case side2 => exact HC0_0.out);(case side3 => repeat (first|exact (cB HR1_0.out HB.out)|(with_reducible first|refine cA ?_ _|refine cN ?_ _|refine cD ?_)));(case side4 => exact HC1_0.out);rintro e w13 ⟨rfl,hb⟩;refine ⟨_,rfl,?_⟩;have n0_:=aM (bH BK150.out hb);have n1_:=aM (bH BK151.out hb);have n2_:=aM (lQ HB.out hb);clear BK150 BK151 HB;have BK150:=n0_;have BK151:=n1_;have HB:=n2_;clear n0_ n1_ n2_;(try clear hb);(try clear hb2);(try clear hk);(try clear hi);obtain ⟨⟨hcz14_0,hcz14_1,hcz14_2⟩,hfz14_0,hfz14_1,hfz14_2⟩:=bC3 BK150.out;obtain ⟨⟨hcz15_0,hcz15_1,hcz15_2⟩,hfz15_0,hfz15_1,hfz15_2⟩:=bC3 BK151.out)|((with_reducible refine gate_callee (f:=57) rfl ?_);refine goesL_ (some 15) rfl rfl Try.func57 (by kernel_rfl) rfl #[.slice A0_1 l0_1.length c0_1,.slice A1_1 l1_1.length c1_1] rfl (by (try simp only [List.map_toArray,List.map_cons,List.map_nil]);first|done|rfl|(simp only [List.length_drop,List.length_take];rfl)) ?_;(with_reducible refine (laws_eqCellS.calls k _ _ l0_1 _ _ l1_1 true _ ?side1 ?side2 ?side3 ?side4 A5.out).mono ?_);(case side1 => repeat (first|exact (cB HR0_1.out HB.out)|(with_reducible first|refine cA ?_ _|refine cN ?_ _|refine cD ?_)));(case side2 => exact HC0_1.out);(case side3 => repeat (first|exact (cB HR1_1.out HB.out)|(with_reducible first|refine cA ?_ _|refine cN ?_ _|refine cD ?_)));(case side4 => exact HC1_1.out);rintro e w16 ⟨rfl,hb⟩;refine ⟨_,rfl,?_⟩;have n0_:=aM (bH BK150.out hb);have n1_:=aM (bH BK151.out hb);have n2_:=aM (lQ HB.out hb);clear BK150 BK151 HB;have BK150:=n0_;have BK151:=n1_;have HB:=n2_;clear n0_ n1_ n2_;(try clear hb);(try clear hb2);(try clear hk);(try clear hi);obtain ⟨⟨hcz17_0,hcz17_1,hcz17_2⟩,hfz17_0,hfz17_1,hfz17_2⟩:=bC3 BK150.out;obtain ⟨⟨hcz18_0,hcz18_1,hcz18_2⟩,hfz18_0,hfz18_1,hfz18_2⟩:=bC3 BK151.out))
    go_ret
    exact ⟨by first|rfl|(simp [errW_none,errW_some] <;> rfl)|(simp [*,errW_none,errW_some] <;> rfl),by repeat (first|(with_reducible first|exact HB.out|apply lA|apply lN|apply lD|refine lS ?_ GE150.out|refine lS ?_ GE151.out)|exact HB.out)⟩
   ·rw [if_neg c7] at H
    have c7b0 : (a0_2.toList == a1_2.toList) = false:=beq_eq_false_iff_ne.mpr c7
    have c7b1 : (a0_2.toList != a1_2.toList) = true:=bne_iff_ne.mpr c7
    obtain rfl:=Option.some.inj H
    go_enter Try.func23,Try.ntmps23
    go_wp2_with (first|((with_reducible refine gate_dst (N:=2) rfl ?_);refine box_event ?hg (N:=2) ?hd (cs:=#[.slice A0_0 l0_0.length c0_0,.slice A0_1 l0_1.length c0_1,.string a0_2]) (t:=38) ?hr ?_;(case hd => rfl);(case hg => rfl);(case hr => first|(go_simp;done)|(go_simp;rfl));intro gb150 hg w19 hbox hb;have n0_:=aM (lQ HB.out hb);have n1_:=aM (hbox);have n2_:=aM ((sQ hg HB.out : w.heap.size ≤ gb150));have n3_:=n2_;clear HB;have HB:=n0_;have BK150:=n1_;have GW150:=n2_;have GE150:=n3_;clear n0_ n1_ n2_ n3_ hb hbox hg)|((with_reducible refine gate_dst (N:=3) rfl ?_);refine box_event ?hg (N:=3) ?hd (cs:=#[.slice A1_0 l1_0.length c1_0,.slice A1_1 l1_1.length c1_1,.string a1_2]) (t:=38) ?hr ?_;(case hd => rfl);(case hg => rfl);(case hr => first|(go_simp;done)|(go_simp;rfl));intro gb151 hg w20 hbox hb;have n0_:=aM (bH BK150.out hb);have n1_:=aM (lQ HB.out hb);have n2_:=aM (hbox);have n3_:=aM ((sQ hg HB.out : w.heap.size ≤ gb151));have n4_:=n3_;have n5_:=aM ((nL hg BK150.out : gb150 ≠ gb151));have n6_:=aM ((nG hg BK150.out : gb151 ≠ gb150));clear BK150 HB;have BK150:=n0_;have HB:=n1_;have BK151:=n2_;have GW151:=n3_;have GE151:=n4_;have NB150_151:=n5_;have NB151_150:=n6_;clear n0_ n1_ n2_ n3_ n4_ n5_ n6_ hb hbox hg;have hnb21:=NB150_151.out;have hnc21:=NB151_150.out;obtain ⟨⟨hcz22_0,hcz22_1,hcz22_2⟩,hfz22_0,hfz22_1,hfz22_2⟩:=bC3 BK150.out;obtain ⟨⟨hcz23_0,hcz23_1,hcz23_2⟩,hfz23_0,hfz23_1,hfz23_2⟩:=bC3 BK151.out)|((with_reducible refine gate_callee (f:=56) rfl ?_);refine goesL_ (some 9) rfl rfl Try.func56 (by kernel_rfl) rfl #[.slice A0_0 l0_0.length c0_0,.slice A1_0 l1_0.length c1_0] rfl (by (try simp only [List.map_toArray,List.map_cons,List.map_nil]);first|done|rfl|(simp only [List.length_drop,List.length_take];rfl)) ?_;(with_reducible refine (laws_eqVarS.calls k _ _ l0_0 _ _ l1_0 true _ ?side1 ?side2 ?side3 ?side4 A3.out).mono ?_);(case side1 => repeat (first|exact (cB HR0_0.out HB.out)|(with_reducible first|refine cA ?_ _|refine cN ?_ _|refine cD ?_)));(case side2 => exact HC0_0.out);(case side3 => repeat (first|exact (cB HR1_0.out HB.out)|(with_reducible first|refine cA ?_ _|refine cN ?_ _|refine cD ?_)));(case side4 => exact HC1_0.out);rintro e w24 ⟨rfl,hb⟩;refine ⟨_,rfl,?_⟩;have n0_:=aM (bH BK150.out hb);have n1_:=aM (bH BK151.out hb);have n2_:=aM (lQ HB.out hb);clear BK150 BK151 HB;have BK150:=n0_;have BK151:=n1_;have HB:=n2_;clear n0_ n1_ n2_;(try clear hb);(try clear hb2);(try clear hk);(try clear hi);obtain ⟨⟨hcz25_0,hcz25_1,hcz25_2⟩,hfz25_0,hfz25_1,hfz25_2⟩:=bC3 BK150.out;obtain ⟨⟨hcz26_0,hcz26_1,hcz26_2⟩,hfz26_0,hfz26_1,hfz26_2⟩:=bC3 BK151.out)|((with_reducible refine gate_callee (f:=57) rfl ?_);refine goesL_ (some 15) rfl rfl Try.func57 (by kernel_rfl) rfl #[.slice A0_1 l0_1.length c0_1,.slice A1_1 l1_1.length c1_1] rfl (by (try simp only [List.map_toArray,List.map_cons,List.map_nil]);first|done|rfl|(simp only [List.length_drop,List.length_take];rfl)) ?_;(with_reducible refine (laws_eqCellS.calls k _ _ l0_1 _ _ l1_1 true _ ?side1 ?side2 ?side3 ?side4 A5.out).mono ?_);(case side1 => repeat (first|exact (cB HR0_1.out HB.out)|(with_reducible first|refine cA ?_ _|refine cN ?_ _|refine cD ?_)));(case side2 => exact HC0_1.out);(case side3 => repeat (first|exact (cB HR1_1.out HB.out)|(with_reducible first|refine cA ?_ _|refine cN ?_ _|refine cD ?_)));(case side4 => exact HC1_1.out);rintro e w27 ⟨rfl,hb⟩;refine ⟨_,rfl,?_⟩;have n0_:=aM (bH BK150.out hb);have n1_:=aM (bH BK151.out hb);have n2_:=aM (lQ HB.out hb);clear BK150 BK151 HB;have BK150:=n0_;have BK151:=n1_;have HB:=n2_;clear n0_ n1_ n2_;(try clear hb);(try clear hb2);(try clear hk);(try clear hi);obtain ⟨⟨hcz28_0,hcz28_1,hcz28_2⟩,hfz28_0,hfz28_1,hfz28_2⟩:=bC3 BK150.out;obtain ⟨⟨hcz29_0,hcz29_1,hcz29_2⟩,hfz29_0,hfz29_1,hfz29_2⟩:=bC3 BK151.out))
    go_ret
    exact ⟨by first|rfl|(simp [errW_none,errW_some] <;> rfl)|(simp [*,errW_none,errW_some] <;> rfl),by repeat (first|(with_reducible first|exact HB.out|apply lA|apply lN|apply lD|refine lS ?_ GE150.out|refine lS ?_ GE151.out)|exact HB.out)⟩
  ·replace c6:=Bool.eq_false_iff.mpr c6
   subst c6
   have H1 : (some false) = some r:=by rw [if_neg (show ¬ (false = true) by decide)] at H;exact H
   clear H
   have H:=H1
   clear H1
   obtain rfl:=Option.some.inj H
   go_enter Try.func23,Try.ntmps23
   go_wp2_with (first|((with_reducible refine gate_dst (N:=2) rfl ?_);refine box_event ?hg (N:=2) ?hd (cs:=#[.slice A0_0 l0_0.length c0_0,.slice A0_1 l0_1.length c0_1,.string a0_2]) (t:=38) ?hr ?_;(case hd => rfl);(case hg => rfl);(case hr => first|(go_simp;done)|(go_simp;rfl));intro gb150 hg w30 hbox hb;have n0_:=aM (lQ HB.out hb);have n1_:=aM (hbox);have n2_:=aM ((sQ hg HB.out : w.heap.size ≤ gb150));have n3_:=n2_;clear HB;have HB:=n0_;have BK150:=n1_;have GW150:=n2_;have GE150:=n3_;clear n0_ n1_ n2_ n3_ hb hbox hg)|((with_reducible refine gate_dst (N:=3) rfl ?_);refine box_event ?hg (N:=3) ?hd (cs:=#[.slice A1_0 l1_0.length c1_0,.slice A1_1 l1_1.length c1_1,.string a1_2]) (t:=38) ?hr ?_;(case hd => rfl);(case hg => rfl);(case hr => first|(go_simp;done)|(go_simp;rfl));intro gb151 hg w31 hbox hb;have n0_:=aM (bH BK150.out hb);have n1_:=aM (lQ HB.out hb);have n2_:=aM (hbox);have n3_:=aM ((sQ hg HB.out : w.heap.size ≤ gb151));have n4_:=n3_;have n5_:=aM ((nL hg BK150.out : gb150 ≠ gb151));have n6_:=aM ((nG hg BK150.out : gb151 ≠ gb150));clear BK150 HB;have BK150:=n0_;have HB:=n1_;have BK151:=n2_;have GW151:=n3_;have GE151:=n4_;have NB150_151:=n5_;have NB151_150:=n6_;clear n0_ n1_ n2_ n3_ n4_ n5_ n6_ hb hbox hg;have hnb32:=NB150_151.out;have hnc32:=NB151_150.out;obtain ⟨⟨hcz33_0,hcz33_1,hcz33_2⟩,hfz33_0,hfz33_1,hfz33_2⟩:=bC3 BK150.out;obtain ⟨⟨hcz34_0,hcz34_1,hcz34_2⟩,hfz34_0,hfz34_1,hfz34_2⟩:=bC3 BK151.out)|((with_reducible refine gate_callee (f:=56) rfl ?_);refine goesL_ (some 9) rfl rfl Try.func56 (by kernel_rfl) rfl #[.slice A0_0 l0_0.length c0_0,.slice A1_0 l1_0.length c1_0] rfl (by (try simp only [List.map_toArray,List.map_cons,List.map_nil]);first|done|rfl|(simp only [List.length_drop,List.length_take];rfl)) ?_;(with_reducible refine (laws_eqVarS.calls k _ _ l0_0 _ _ l1_0 true _ ?side1 ?side2 ?side3 ?side4 A3.out).mono ?_);(case side1 => repeat (first|exact (cB HR0_0.out HB.out)|(with_reducible first|refine cA ?_ _|refine cN ?_ _|refine cD ?_)));(case side2 => exact HC0_0.out);(case side3 => repeat (first|exact (cB HR1_0.out HB.out)|(with_reducible first|refine cA ?_ _|refine cN ?_ _|refine cD ?_)));(case side4 => exact HC1_0.out);rintro e w35 ⟨rfl,hb⟩;refine ⟨_,rfl,?_⟩;have n0_:=aM (bH BK150.out hb);have n1_:=aM (bH BK151.out hb);have n2_:=aM (lQ HB.out hb);clear BK150 BK151 HB;have BK150:=n0_;have BK151:=n1_;have HB:=n2_;clear n0_ n1_ n2_;(try clear hb);(try clear hb2);(try clear hk);(try clear hi);obtain ⟨⟨hcz36_0,hcz36_1,hcz36_2⟩,hfz36_0,hfz36_1,hfz36_2⟩:=bC3 BK150.out;obtain ⟨⟨hcz37_0,hcz37_1,hcz37_2⟩,hfz37_0,hfz37_1,hfz37_2⟩:=bC3 BK151.out)|((with_reducible refine gate_callee (f:=57) rfl ?_);refine goesL_ (some 15) rfl rfl Try.func57 (by kernel_rfl) rfl #[.slice A0_1 l0_1.length c0_1,.slice A1_1 l1_1.length c1_1] rfl (by (try simp only [List.map_toArray,List.map_cons,List.map_nil]);first|done|rfl|(simp only [List.length_drop,List.length_take];rfl)) ?_;(with_reducible refine (laws_eqCellS.calls k _ _ l0_1 _ _ l1_1 false _ ?side1 ?side2 ?side3 ?side4 A5.out).mono ?_);(case side1 => repeat (first|exact (cB HR0_1.out HB.out)|(with_reducible first|refine cA ?_ _|refine cN ?_ _|refine cD ?_)));(case side2 => exact HC0_1.out);(case side3 => repeat (first|exact (cB HR1_1.out HB.out)|(with_reducible first|refine cA ?_ _|refine cN ?_ _|refine cD ?_)));(case side4 => exact HC1_1.out);rintro e w38 ⟨rfl,hb⟩;refine ⟨_,rfl,?_⟩;have n0_:=aM (bH BK150.out hb);have n1_:=aM (bH BK151.out hb);have n2_:=aM (lQ HB.out hb);clear BK150 BK151 HB;have BK150:=n0_;have BK151:=n1_;have HB:=n2_;clear n0_ n1_ n2_;(try clear hb);(try clear hb2);(try clear hk);(try clear hi)))
   go_ret
   exact ⟨by first|rfl|(simp [errW_none,errW_some] <;> rfl)|(simp [*,errW_none,errW_some] <;> rfl),by repeat (first|(with_reducible first|exact HB.out|apply lA|apply lN|apply lD|refine lS ?_ GE150.out|refine lS ?_ GE151.out)|exact HB.out)⟩
 ·replace c4:=Bool.eq_false_iff.mpr c4
  subst c4
  have H1 : (some false) = some r:=by rw [if_neg (show ¬ (false = true) by decide)] at H;exact H
  clear H
  have H:=H1
  clear H1
  obtain rfl:=Option.some.inj H
  go_enter Try.func23,Try.ntmps23
  go_wp2_with (first|((with_reducible refine gate_dst (N:=2) rfl ?_);refine box_event ?hg (N:=2) ?hd (cs:=#[.slice A0_0 l0_0.length c0_0,.slice A0_1 l0_1.length c0_1,.string a0_2]) (t:=38) ?hr ?_;(case hd => rfl);(case hg => rfl);(case hr => first|(go_simp;done)|(go_simp;rfl));intro gb150 hg w39 hbox hb;have n0_:=aM (lQ HB.out hb);have n1_:=aM (hbox);have n2_:=aM ((sQ hg HB.out : w.heap.size ≤ gb150));have n3_:=n2_;clear HB;have HB:=n0_;have BK150:=n1_;have GW150:=n2_;have GE150:=n3_;clear n0_ n1_ n2_ n3_ hb hbox hg)|((with_reducible refine gate_dst (N:=3) rfl ?_);refine box_event ?hg (N:=3) ?hd (cs:=#[.slice A1_0 l1_0.length c1_0,.slice A1_1 l1_1.length c1_1,.string a1_2]) (t:=38) ?hr ?_;(case hd => rfl);(case hg => rfl);(case hr => first|(go_simp;done)|(go_simp;rfl));intro gb151 hg w40 hbox hb;have n0_:=aM (bH BK150.out hb);have n1_:=aM (lQ HB.out hb);have n2_:=aM (hbox);have n3_:=aM ((sQ hg HB.out : w.heap.size ≤ gb151));have n4_:=n3_;have n5_:=aM ((nL hg BK150.out : gb150 ≠ gb151));have n6_:=aM ((nG hg BK150.out : gb151 ≠ gb150));clear BK150 HB;have BK150:=n0_;have HB:=n1_;have BK151:=n2_;have GW151:=n3_;have GE151:=n4_;have NB150_151:=n5_;have NB151_150:=n6_;clear n0_ n1_ n2_ n3_ n4_ n5_ n6_ hb hbox hg;have hnb41:=NB150_151.out;have hnc41:=NB151_150.out;obtain ⟨⟨hcz42_0,hcz42_1,hcz42_2⟩,hfz42_0,hfz42_1,hfz42_2⟩:=bC3 BK150.out;obtain ⟨⟨hcz43_0,hcz43_1,hcz43_2⟩,hfz43_0,hfz43_1,hfz43_2⟩:=bC3 BK151.out)|((with_reducible refine gate_callee (f:=56) rfl ?_);refine goesL_ (some 9) rfl rfl Try.func56 (by kernel_rfl) rfl #[.slice A0_0 l0_0.length c0_0,.slice A1_0 l1_0.length c1_0] rfl (by (try simp only [List.map_toArray,List.map_cons,List.map_nil]);first|done|rfl|(simp only [List.length_drop,List.length_take];rfl)) ?_;(with_reducible refine (laws_eqVarS.calls k _ _ l0_0 _ _ l1_0 false _ ?side1 ?side2 ?side3 ?side4 A3.out).mono ?_);(case side1 => repeat (first|exact (cB HR0_0.out HB.out)|(with_reducible first|refine cA ?_ _|refine cN ?_ _|refine cD ?_)));(case side2 => exact HC0_0.out);(case side3 => repeat (first|exact (cB HR1_0.out HB.out)|(with_reducible first|refine cA ?_ _|refine cN ?_ _|refine cD ?_)));(case side4 => exact HC1_0.out);rintro e w44 ⟨rfl,hb⟩;refine ⟨_,rfl,?_⟩;have n0_:=aM (bH BK150.out hb);have n1_:=aM (bH BK151.out hb);have n2_:=aM (lQ HB.out hb);clear BK150 BK151 HB;have BK150:=n0_;have BK151:=n1_;have HB:=n2_;clear n0_ n1_ n2_;(try clear hb);(try clear hb2);(try clear hk);(try clear hi)))
  go_ret
  exact ⟨by first|rfl|(simp [errW_none,errW_some] <;> rfl)|(simp [*,errW_none,errW_some] <;> rfl),by repeat (first|(with_reducible first|exact HB.out|apply lA|apply lN|apply lD|refine lS ?_ GE150.out|refine lS ?_ GE151.out)|exact HB.out)⟩

/-! ### laws_markText: function 43 -/
def laws_markText.l0 : Nat → Int → ByteArray → Option (ByteArray)
 |0,_,_ => none
 |k + 1,x0,x3 => if x0 > 0 then ((some (([(wrap64 (48 + (Int.tmod x0 10))) % 256] : List Int) : List Int)).bind fun y154 => (if (strOfNums y154).size + x3.size ≤ 9223372036854775807 then (laws_markText.l0 k (wrap64 (Int.tdiv x0 10)) ((strOfNums y154) ++ x3)) else (none))) else (if 1 + x3.size ≤ 9223372036854775807 then (some ((⟨#[109]⟩ : ByteArray) ++ x3)) else (none))
def laws_markText.f (k : Nat) (a0 : Int) : Option (ByteArray):=if a0 ≤ 0 then (some (⟨#[109,48]⟩ : ByteArray)) else (laws_markText.l0 k a0 (⟨#[]⟩ : ByteArray))
theorem laws_markText.mono_l : ∀ k,(∀ y0 y1,LeO (laws_markText.l0 k y0 y1) (laws_markText.l0 (k + 1) y0 y1))
 |0 => fun _ _ r h => by simp [laws_markText.l0] at h
 |k + 1 => by
  have ih0:=laws_markText.mono_l k
  ·intro y0 y1
   unfold laws_markText.l0
   repeat' first
   |(with_reducible exact ih0 _ _)
   |(with_reducible exact LeO.refl _)
   |(with_reducible exact LeO.none _)
   |(with_reducible refine LeO.ite ?_ ?_)
   |(with_reducible refine LeO.bind ?_ (fun _ => ?_))
   |exact ih0 _ _
   |exact LeO.none _
   |refine LeO.ite ?_ ?_
   |refine LeO.bind ?_ (fun _ => ?_)
theorem laws_markText.mono : ∀ a0 k,LeO (laws_markText.f k a0) (laws_markText.f (k + 1) a0):=by
 intro a0 k
 have ih0:=laws_markText.mono_l k
 unfold laws_markText.f
 repeat' first
   |(with_reducible exact ih0 _ _)
   |(with_reducible exact LeO.refl _)
   |(with_reducible exact LeO.none _)
   |(with_reducible refine LeO.ite ?_ ?_)
   |(with_reducible refine LeO.bind ?_ (fun _ => ?_))
   |exact ih0 _ _
   |exact LeO.none _
   |refine LeO.ite ?_ ?_
   |refine LeO.bind ?_ (fun _ => ?_)
set_option maxHeartbeats 8000000 in
set_option maxRecDepth 100000 in
theorem laws_markText.calls (k : Nat) (a0 : Int) (r : ByteArray) (w : World) (h : laws_markText.f k a0 = some r) :
  Calls Try.prog 43 #[.int .i64 a0] w fun e w' => e = .returned (.string r) ∧ Below w.heap.size w w':=by
 have HB:=aM (Below.refl w.heap.size w)
 have H : (if a0 ≤ 0 then (some (⟨#[109,48]⟩ : ByteArray)) else (laws_markText.l0 k a0 (⟨#[]⟩ : ByteArray))) = some r:=h
 clear h
 by_cases c2 : a0 ≤ 0
 ·rw [if_pos c2] at H
  have c2b0 : decide (a0 ≤ 0) = true:=decide_eq_true c2
  clear c2
  obtain rfl:=Option.some.inj H
  go_enter Try.func43,Try.ntmps43
  go_wp2
  go_ret
  exact ⟨by first|rfl|(simp [errW_none,errW_some] <;> rfl)|(simp [*,errW_none,errW_some] <;> rfl),by repeat (first|(with_reducible first|exact HB.out|apply lA|apply lN|apply lD)|exact HB.out)⟩
 ·rw [if_neg c2] at H
  have c2b0 : decide (a0 ≤ 0) = false:=decide_eq_false c2
  clear c2
  have H':=aM H
  clear H
  go_enter Try.func43,Try.ntmps43
  go_wp2
  go_loopg [0,3] k (fun kq v0 v3 w' => ∃ (x0_1 : Int) (x3_1 : ByteArray),v0 = .int .i64 x0_1 ∧ v3 = .string x3_1 ∧ Aside0 (laws_markText.l0 kq x0_1 x3_1 = some r) ∧ Aside0 (kq ≤ k) ∧ Aside0 (Below w.heap.size w w'))
  case atStart => exact ⟨(a0),((⟨#[]⟩ : ByteArray)),(by first|rfl|(simp;done)|(simp [*];done)),(by first|rfl|(simp;done)|(simp [*];done)),H',⟨Nat.le_refl _⟩,⟨by repeat (first|(with_reducible first|exact HB.out|apply lA|apply lN|apply lD)|exact HB.out)⟩⟩
  case round =>
   clear H'
   try clear c2
   try clear c2b0
   try clear p2
   obtain ⟨x0_1,x3_1,rfl,rfl,HA,HK1,HB⟩:=hrel
   cases gk with
   |zero => exact absurd HA.out (by simp [laws_markText.l0])
   |succ k1 =>
    have H:=HA.out
    clear HA
    simp only [laws_markText.l0] at H
    by_cases c3 : x0_1 > 0
    ·rw [if_pos c3] at H
     have c3b0 : decide (0 < x0_1) = true:=decide_eq_true c3
     clear c3
     obtain ⟨y154,hy154⟩ : ∃ y_ : List Int,y_ = (([(wrap64 (48 + (Int.tmod x0_1 10))) % 256] : List Int)):=⟨_,rfl⟩
     replace H : (if (strOfNums y154).size + x3_1.size ≤ 9223372036854775807 then (laws_markText.l0 k1 (wrap64 (Int.tdiv x0_1 10)) ((strOfNums y154) ++ x3_1)) else (none)) = some r:=by first|(rw [hy154];with_reducible exact H)|(have H2_:=(Option.bind_some _ _).symm.trans H;rw [hy154];with_reducible exact H2_)|(have H2_:=(Option.bind_some _ _).symm.trans H;with_reducible exact H2_)|with_reducible exact H|(rw [hy154];exact H)|exact H
     have Ny154:=aM hy154
     clear hy154
     by_cases c4 : (strOfNums y154).size + x3_1.size ≤ 9223372036854775807
     ·rw [if_pos c4] at H
      have c4b0:=eq_true c4
      have c4b1 : decide ((strOfNums y154).size + x3_1.size ≤ 9223372036854775807) = true:=decide_eq_true c4
      try have c4b2 : (9223372036854775807 < (strOfNums y154).size + x3_1.size) = False:=eq_false (Nat.not_lt.2 c4)
      have H':=aM H
      clear H
      go_wp2_with (first|((with_reducible refine gate_dst (N:=12) rfl ?_);refine Kd.R_lit (Kd.int .u8) _ 5 ?hg (N:=12) ?hd (xs:=([(wrap64 (48 + (Int.tmod x0_1 10))) % 256] : List Int)) (inner:=[.int .u8 ((wrap64 (48 + (Int.tmod x0_1 10))) % 256)]) (ok:=fun _ => True) (okp:=fun _ => True) ?hr ?hp (fun _ hk => hk) trivial (Below.refl _ _) (Nat.le_refl _) (by simp) ?_;(case hd => rfl);(case hg => rfl);(case hr => first|(go_simp;done)|(go_simp;rfl));(case hp => exact (Reps.one (show Kd.M (Kd.int .u8) _ _ _ ((wrap64 (48 + (Int.tmod x0_1 10))) % 256) [.int .u8 ((wrap64 (48 + (Int.tmod x0_1 10))) % 256)] from rfl) (Reps.none _ _)));intro v155 w5 ho6 hb hg_ hnew_;clear hg_ hnew_;(first|rw [← Ny154.out] at ho6|(simp only [Int.reduceToNat] at ho6;rw [← Ny154.out] at ho6));have n0_:=aM (rL ho6 (lZ (by repeat (first|(with_reducible first|exact HB.out|apply lA|apply lN|apply lD)|exact HB.out))));have n1_:=aM (lQ HB.out hb);clear HB;have HO156:=n0_;have HB:=n1_;clear n0_ n1_ hb ho6;have hcv7:=own_string (P:=Try.prog) Try.underlying27 Try.underlying5 Try.underlying9 (Kd.own_of_R HO156.out)))
      go_roundg k1
      case measure => have:=HK1.out;omega
      case rel => exact ⟨(wrap64 (Int.tdiv x0_1 10)),((strOfNums y154) ++ x3_1),(by first|rfl|(simp;done)|(simp [*];done)),(by first|rfl|(simp;done)|(simp [*];done)),H',⟨by have:=HK1.out;omega⟩,⟨by repeat (first|(with_reducible first|exact HB.out|apply lA|apply lN|apply lD)|exact HB.out)⟩⟩
     ·rw [if_neg c4] at H
      exact absurd H (by simp)
    ·rw [if_neg c3] at H
     have c3b0 : decide (0 < x0_1) = false:=decide_eq_false c3
     clear c3
     by_cases c8 : 1 + x3_1.size ≤ 9223372036854775807
     ·rw [if_pos c8] at H
      have c8b0:=eq_true c8
      have c8b1 : decide (1 + x3_1.size ≤ 9223372036854775807) = true:=decide_eq_true c8
      try have c8b2 : (9223372036854775807 < 1 + x3_1.size) = False:=eq_false (Nat.not_lt.2 c8)
      obtain rfl:=Option.some.inj H
      go_wp2
      go_ret
      exact ⟨by first|rfl|(simp [errW_none,errW_some] <;> rfl)|(simp [*,errW_none,errW_some] <;> rfl),by repeat (first|(with_reducible first|exact HB.out|apply lA|apply lN|apply lD)|exact HB.out)⟩
     ·rw [if_neg c8] at H
      exact absurd H (by simp)

/-! ### laws_markVarS: function 58 -/
def laws_markVarS.l0 : Nat → List (S53) → Int → Int → Option (Int × (List (S53)))
 |0,_,_,_ => none
 |k + 1,x0,x1,x5 => if x5 < (x0.length : Int) then ((laws_markText.f k x1).bind fun t157 => (if 0 ≤ x5 then ((some (x0.set (x5 : Int).toNat (⟨t157,(rd_T53 x0 x5).f1⟩ : S53) : List (S53))).bind fun y158 => ((laws_markText.f k (wrap64 (x1 + 1))).bind fun t159 => (laws_markVarS.l0 k (y158.set (x5 : Int).toNat (⟨(rd_T53 y158 x5).f0,t159⟩ : S53)) (wrap64 ((wrap64 (x1 + 1)) + 1)) (wrap64 (x5 + 1))))) else (none))) else (some (x1,x0))
def laws_markVarS.f (k : Nat) (l0 : List (S53)) (a1 : Int) : Option (Int × (List (S53))):=laws_markVarS.l0 k l0 a1 0
theorem laws_markVarS.mono_l : ∀ k,(∀ y0 y1 y2,LeO (laws_markVarS.l0 k y0 y1 y2) (laws_markVarS.l0 (k + 1) y0 y1 y2))
 |0 => fun _ _ _ r h => by simp [laws_markVarS.l0] at h
 |k + 1 => by
  have ih0:=laws_markVarS.mono_l k
  ·intro y0 y1 y2
   unfold laws_markVarS.l0
   repeat' first
   |(with_reducible exact ih0 _ _ _)
   |(with_reducible exact laws_markText.mono _ _)
   |(with_reducible exact LeO.refl _)
   |(with_reducible exact LeO.none _)
   |(with_reducible refine LeO.ite ?_ ?_)
   |(with_reducible refine LeO.bind ?_ (fun _ => ?_))
   |exact ih0 _ _ _
   |exact laws_markText.mono _ _
   |exact LeO.none _
   |refine LeO.ite ?_ ?_
   |refine LeO.bind ?_ (fun _ => ?_)
theorem laws_markVarS.mono : ∀ a0 a1 k,LeO (laws_markVarS.f k a0 a1) (laws_markVarS.f (k + 1) a0 a1):=by
 intro a0 a1 k
 have ih0:=laws_markVarS.mono_l k
 unfold laws_markVarS.f
 repeat' first
   |(with_reducible exact ih0 _ _ _)
   |(with_reducible exact laws_markText.mono _ _)
   |(with_reducible exact LeO.refl _)
   |(with_reducible exact LeO.none _)
   |(with_reducible refine LeO.ite ?_ ?_)
   |(with_reducible refine LeO.bind ?_ (fun _ => ?_))
   |exact ih0 _ _ _
   |exact laws_markText.mono _ _
   |exact LeO.none _
   |refine LeO.ite ?_ ?_
   |refine LeO.bind ?_ (fun _ => ?_)
set_option maxHeartbeats 8000000 in
set_option maxRecDepth 100000 in
theorem laws_markVarS.calls (k : Nat) (P0_ : Nat → Prop) (u9000_ : Value) (l0 : List (S53)) (a1 : Int) (r1 : Int) (r2 : List (S53)) (w0 w : World) (hB : Below w0.heap.size w0 w) (ho0 : Kd.R k53 53 w w0.heap.size P0_ u9000_ l0) (h : laws_markVarS.f k l0 a1 = some (r1,r2)) :
  Calls Try.prog 58 #[u9000_,.int .i64 a1] w fun e w' => e = .returned (.int .i64 r1) ∧ Kd.R k53 53 w' w0.heap.size (fun k_ => (P0_ k_ ∨ w.heap.size ≤ k_)) u9000_ r2 ∧ Below w0.heap.size w0 w' ∧ Kept w w' (fun k_ => P0_ k_):=by
 have HO0:=aM (show Kd.R k53 53 w w0.heap.size (fun k_ => (P0_ k_ ∨ w.heap.size ≤ k_)) u9000_ l0 from Kd.R_mono ho0 (fun k_ hk => (.inl hk)))
 have HK:=aM (Kept.refl w (fun k_ => P0_ k_))
 have HW0:=aM hB.size
 have HB:=aM hB
 clear hB
 have H : (laws_markVarS.l0 k l0 a1 0) = some (r1,r2):=h
 clear h
 have H':=aM H
 clear H
 go_enter Try.func58,Try.ntmps58
 go_wp2
 go_loopg [1,5] k (fun kq v1 v5 w' => ∃ (x0_1 : List (S53)) (x1_1 : Int) (x5_1 : Int),v1 = .int .i64 x1_1 ∧ v5 = .int .i64 x5_1 ∧ Aside0 (laws_markVarS.l0 kq x0_1 x1_1 x5_1 = some (r1,r2)) ∧ Aside0 (kq ≤ k) ∧ Aside0 (Kd.R k53 53 w' w0.heap.size (fun k_ => (P0_ k_ ∨ w.heap.size ≤ k_)) u9000_ x0_1) ∧ Aside0 (Kept w w' (fun k_ => P0_ k_)) ∧ Aside0 (Below w0.heap.size w0 w'))
 case atStart => exact ⟨(l0),(a1),(0),(by first|rfl|(simp;done)|(simp [*];done)),(by first|rfl|(simp;done)|(simp [*];done)),H',⟨Nat.le_refl _⟩,⟨by (with_reducible repeat (first|apply rA|apply rN|apply rD));exact HO0.out⟩,⟨by repeat (first|(with_reducible first|exact HK.out|apply Kept.alloc|apply Kept.drewN|apply Kept.drew)|exact HK.out)⟩,⟨by repeat (first|(with_reducible first|exact HB.out|apply lA|apply lN|apply lD)|exact HB.out)⟩⟩
 case round =>
  clear H'
  try clear p2
  obtain ⟨x0_1,x1_1,x5_1,rfl,rfl,HA,HK1,HO_0,HK,HB⟩:=hrel
  cases gk with
  |zero => exact absurd HA.out (by simp [laws_markVarS.l0])
  |succ k1 =>
   have H:=HA.out
   clear HA
   simp only [laws_markVarS.l0] at H
   by_cases c3 : x5_1 < (x0_1.length : Int)
   ·rw [if_pos c3] at H
    have c3b0 : decide (x5_1 < (x0_1.length : Int)) = true:=decide_eq_true c3
    clear c3
    replace H:=Option.bind_eq_some_iff.mp H
    obtain ⟨t157,A40,H⟩:=H
    replace H : (if 0 ≤ x5_1 then ((some (x0_1.set (x5_1 : Int).toNat (⟨t157,(rd_T53 x0_1 x5_1).f1⟩ : S53) : List (S53))).bind fun y158 => ((laws_markText.f k1 (wrap64 (x1_1 + 1))).bind fun t159 => (laws_markVarS.l0 k1 (y158.set (x5_1 : Int).toNat (⟨(rd_T53 y158 x5_1).f0,t159⟩ : S53)) (wrap64 ((wrap64 (x1_1 + 1)) + 1)) (wrap64 (x5_1 + 1))))) else (none)) = some (r1,r2):=H
    have A4:=aM A40
    clear A40
    by_cases c5 : 0 ≤ x5_1
    ·rw [if_pos c5] at H
     have c5b0 : decide (0 ≤ x5_1) = true:=decide_eq_true c5
     clear c5
     obtain ⟨y158,hy158⟩ : ∃ y_ : List (S53),y_ = (x0_1.set (x5_1 : Int).toNat (⟨t157,(rd_T53 x0_1 x5_1).f1⟩ : S53)):=⟨_,rfl⟩
     replace H : ((laws_markText.f k1 (wrap64 (x1_1 + 1))).bind fun t159 => (laws_markVarS.l0 k1 (y158.set (x5_1 : Int).toNat (⟨(rd_T53 y158 x5_1).f0,t159⟩ : S53)) (wrap64 ((wrap64 (x1_1 + 1)) + 1)) (wrap64 (x5_1 + 1)))) = some (r1,r2):=by first|(rw [hy158];with_reducible exact H)|(have H2_:=(Option.bind_some _ _).symm.trans H;rw [hy158];with_reducible exact H2_)|(have H2_:=(Option.bind_some _ _).symm.trans H;with_reducible exact H2_)|with_reducible exact H|(rw [hy158];exact H)|exact H
     have Ny158:=aM hy158
     clear hy158
     replace H:=Option.bind_eq_some_iff.mp H
     obtain ⟨t159,A70,H⟩:=H
     replace H : (laws_markVarS.l0 k1 (y158.set (x5_1 : Int).toNat (⟨(rd_T53 y158 x5_1).f0,t159⟩ : S53)) (wrap64 ((wrap64 (x1_1 + 1)) + 1)) (wrap64 (x5_1 + 1))) = some (r1,r2):=H
     have A7:=aM A70
     clear A70
     obtain ⟨y160,hy160⟩ : ∃ y_ : List (S53),y_ = (y158.set (x5_1 : Int).toNat (⟨(rd_T53 y158 x5_1).f0,t159⟩ : S53)):=⟨_,rfl⟩
     replace H : (laws_markVarS.l0 k1 y160 (wrap64 ((wrap64 (x1_1 + 1)) + 1)) (wrap64 (x5_1 + 1))) = some (r1,r2):=by first|(rw [hy160];with_reducible exact H)|(have H2_:=(Option.bind_some _ _).symm.trans H;rw [hy160];with_reducible exact H2_)|(have H2_:=(Option.bind_some _ _).symm.trans H;with_reducible exact H2_)|with_reducible exact H|(rw [hy160];exact H)|exact H
     have Ny160:=aM hy160
     clear hy160
     have H':=aM H
     clear H
     obtain ⟨Ao9,co9,eo9⟩:=Kd.R_slice HO_0.out
     subst eo9
     go_wp2_with (first|((with_reducible refine gate_callee (f:=43) rfl ?_);refine goesL_ (some 15) rfl rfl Try.func43 (by kernel_rfl) rfl #[.int .i64 x1_1] rfl (by (try simp only [List.map_toArray,List.map_cons,List.map_nil]);first|done|rfl|(simp only [List.length_drop,List.length_take];rfl)) ?_;(with_reducible refine (laws_markText.calls k1 x1_1 t157 _ A4.out).mono ?_);rintro e w10 ⟨rfl,hb⟩;refine ⟨_,rfl,?_⟩;have n0_:=aM (rH HO_0.out hb);have n1_:=aM (Kept.below (S:=(fun k_ => P0_ k_)) (by repeat (first|(with_reducible first|exact HK.out|apply Kept.alloc|apply Kept.drewN|apply Kept.drew)|exact HK.out)) hb);have n2_:=aM (lQ HB.out hb);clear HO_0 HK HB;have HO_0:=n0_;have HK:=n1_;have HB:=n2_;clear n0_ n1_ n2_;(try clear hb);(try clear hb2);(try clear hk);(try clear hi);have p6 : 0 ≤ (x5_1 : Int):=of_decide_eq_true (by first|(with_reducible assumption)|assumption);have q6 : (x5_1 : Int) < ((x0_1.length : Int) : Int):=of_decide_eq_true (by first|(with_reducible assumption)|assumption);obtain ⟨go6,co6,eo6,gb6,gl6,cl6,HG6⟩:=Kd.R_form HO_0.out (by omega);(first|cases eo6|(injection eo6 with ea_ en_ ec_;(first|subst ea_|(injection ea_ with ea_;subst ea_));subst ec_;clear en_));have GB6:=aM gb6;have GG6:=aM HG6;clear gb6 gl6 HG6;have HMgo6:=aM (show (P0_ go6 ∨ w.heap.size ≤ go6) from (HO_0.out.1 _ rfl));obtain ⟨ce6,hcl6,hM6,hcc6,hfr6⟩:=Kd.R_elem HO_0.out z53 (x5_1 : Int) p6 q6;obtain rfl:=k53_openM hM6;have hx6_0 : w10.cell? ⟨go6,(x5_1 : Int).toNat * 2,none⟩ = some (.string ((rd_T53 x0_1 x5_1).f0)):=hcc6 0 _ rfl;have hx6_1 : w10.cell? ⟨go6,(x5_1 : Int).toNat * 2 + 1,none⟩ = some (.string ((rd_T53 x0_1 x5_1).f1)):=hcc6 1 _ rfl;have hf6_0 : w10.frozen? ⟨go6,(x5_1 : Int).toNat * 2,none⟩ = false:=hfr6 0;have hf6_1 : w10.frozen? ⟨go6,(x5_1 : Int).toNat * 2 + 1,none⟩ = false:=hfr6 1;clear hcl6 hcc6 hfr6 hM6;replace p6:=eq_true p6;replace q6:=eq_true q6;have HX11:=aM (show Kd.R k53 53 w10 w0.heap.size (fun k_ => (P0_ k_ ∨ w.heap.size ≤ k_)) (.slice (some ⟨go6,0,none⟩) x0_1.length co9) x0_1 from (rZ HO_0.out));obtain ⟨ce11,hcl11,hM11,hcc11,hfr11⟩:=Kd.R_elem HX11.out z53 (x5_1 : Int) (of_decide_eq_true (by first|(with_reducible assumption)|assumption)) (by have h_ : (x5_1 : Int) < ((x0_1.length : Int) : Int):=of_decide_eq_true (by first|(with_reducible assumption)|assumption);first|exact h_|(have e_:=(rR HO_0.out).1;omega)|simpa using h_);obtain rfl:=k53_openM hM11;have HP11:=Kd.R_seg HX11.out (x5_1 : Int) (of_decide_eq_true (by first|(with_reducible assumption)|assumption)) (by have h_ : (x5_1 : Int) < ((x0_1.length : Int) : Int):=of_decide_eq_true (by first|(with_reducible assumption)|assumption);first|exact h_|(have e_:=(rR HO_0.out).1;omega)|simpa using h_) (seg:=[.string t157]) (j:=0) hcl11 hcc11 (show 1 ≤ 2 from by decide) (x':=(⟨t157,(rd_T53 x0_1 x5_1).f1⟩ : S53)) (k53_mkM _ _ _ (⟨t157,(rd_T53 x0_1 x5_1).f1⟩ : S53) ) (fun _ hk => hk);have hx11_0:=hcc11 0 _ rfl;(try simp only [show (k53).sz = 2 from rfl,Nat.mul_one,Nat.add_zero] at hx11_0);have hf11_0:=hfr11 0;(try simp only [show (k53).sz = 2 from rfl,Nat.mul_one,Nat.add_zero] at hf11_0);clear hcl11 hcc11 hfr11 hM11)|((with_reducible refine gate_store (t:=9) (p:=17) rfl ?_);refine store_event (t:=9) (p:=17) (v:=?vo_w12) (w1:=(w10.setCell ⟨go6,(x5_1 : Int).toNat * 2,none⟩ (.string t157))) ?hg ?ho ?hn ?hr ?_;(case ho => rfl);(case hg => rfl);(case hn => rfl);(case hr => first|(go_simp;done)|(go_simp;rfl));intro w12 hw;have hg : w10.grownBy w12 (some go6):=(by rw [hw];exact HP11.2);have hp_ : Kd.R k53 53 w12 w0.heap.size (fun k_ => (P0_ k_ ∨ w.heap.size ≤ k_)) (.slice (some ⟨go6,0,none⟩) x0_1.length co9) y158:=(by rw [hw,Ny158.out];exact HP11.1);clear HP11;have n0_:=aM (hp_);have n1_:=aM ((by rw [hw];exact lS (HB.out) GB6.out : Below w0.heap.size w0 w12));have n2_:=aM (Kept.of_grown (S:=(fun k_ => P0_ k_)) hg (by repeat (first|(with_reducible first|exact HK.out|apply Kept.alloc|apply Kept.drewN|apply Kept.drew)|exact HK.out)) (fun k_ e_ => (HO_0.out.1 k_ e_)));clear HO_0 HB HK;have HO_0:=n0_;have HB:=n1_;have HK:=n2_;clear n0_ n1_ n2_ hg hw hp_)|((with_reducible refine gate_callee (f:=43) rfl ?_);refine goesL_ (some 23) rfl rfl Try.func43 (by kernel_rfl) rfl #[.int .i64 (wrap64 (x1_1 + 1))] rfl (by (try simp only [List.map_toArray,List.map_cons,List.map_nil]);first|done|rfl|(simp only [List.length_drop,List.length_take];rfl)) ?_;(with_reducible refine (laws_markText.calls k1 (wrap64 (x1_1 + 1)) t159 _ A7.out).mono ?_);rintro e w13 ⟨rfl,hb⟩;refine ⟨_,rfl,?_⟩;have n0_:=aM (rH HO_0.out hb);have n1_:=aM (Kept.below (S:=(fun k_ => P0_ k_)) (by repeat (first|(with_reducible first|exact HK.out|apply Kept.alloc|apply Kept.drewN|apply Kept.drew)|exact HK.out)) hb);have n2_:=aM (lQ HB.out hb);clear HO_0 HK HB;have HO_0:=n0_;have HK:=n1_;have HB:=n2_;clear n0_ n1_ n2_;(try clear hb);(try clear hb2);(try clear hk);(try clear hi);have p8 : 0 ≤ (x5_1 : Int):=of_decide_eq_true (by first|(with_reducible assumption)|assumption);have q8 : (x5_1 : Int) < ((x0_1.length : Int) : Int):=of_decide_eq_true (by first|(with_reducible assumption)|assumption);obtain ⟨ce8,hcl8,hM8,hcc8,hfr8⟩:=Kd.R_elem HO_0.out z53 (x5_1 : Int) p8 q8;obtain rfl:=k53_openM hM8;have hx8_0 : w13.cell? ⟨go6,(x5_1 : Int).toNat * 2,none⟩ = some (.string ((rd_T53 y158 x5_1).f0)):=hcc8 0 _ rfl;have hx8_1 : w13.cell? ⟨go6,(x5_1 : Int).toNat * 2 + 1,none⟩ = some (.string ((rd_T53 y158 x5_1).f1)):=hcc8 1 _ rfl;have hf8_0 : w13.frozen? ⟨go6,(x5_1 : Int).toNat * 2,none⟩ = false:=hfr8 0;have hf8_1 : w13.frozen? ⟨go6,(x5_1 : Int).toNat * 2 + 1,none⟩ = false:=hfr8 1;clear hcl8 hcc8 hfr8 hM8;replace p8:=eq_true p8;replace q8:=eq_true q8;have HX14:=aM (show Kd.R k53 53 w13 w0.heap.size (fun k_ => (P0_ k_ ∨ w.heap.size ≤ k_)) (.slice (some ⟨go6,0,none⟩) x0_1.length co9) y158 from (rZ HO_0.out));obtain ⟨ce14,hcl14,hM14,hcc14,hfr14⟩:=Kd.R_elem HX14.out z53 (x5_1 : Int) (of_decide_eq_true (by first|(with_reducible assumption)|assumption)) (by have h_ : (x5_1 : Int) < ((x0_1.length : Int) : Int):=of_decide_eq_true (by first|(with_reducible assumption)|assumption);first|exact h_|(have e_:=(rR HO_0.out).1;omega)|simpa using h_);obtain rfl:=k53_openM hM14;have HP14:=Kd.R_seg HX14.out (x5_1 : Int) (of_decide_eq_true (by first|(with_reducible assumption)|assumption)) (by have h_ : (x5_1 : Int) < ((x0_1.length : Int) : Int):=of_decide_eq_true (by first|(with_reducible assumption)|assumption);first|exact h_|(have e_:=(rR HO_0.out).1;omega)|simpa using h_) (seg:=[.string t159]) (j:=1) hcl14 hcc14 (show 2 ≤ 2 from by decide) (x':=(⟨(rd_T53 y158 x5_1).f0,t159⟩ : S53)) (k53_mkM _ _ _ (⟨(rd_T53 y158 x5_1).f0,t159⟩ : S53) ) (fun _ hk => hk);have hx14_1:=hcc14 1 _ rfl;(try simp only [show (k53).sz = 2 from rfl,Nat.mul_one,Nat.add_zero] at hx14_1);have hf14_1:=hfr14 1;(try simp only [show (k53).sz = 2 from rfl,Nat.mul_one,Nat.add_zero] at hf14_1);clear hcl14 hcc14 hfr14 hM14)|((with_reducible refine gate_store (t:=9) (p:=25) rfl ?_);refine store_event (t:=9) (p:=25) (v:=?vo_w15) (w1:=(w13.setCell ⟨go6,(x5_1 : Int).toNat * 2 + 1,none⟩ (.string t159))) ?hg ?ho ?hn ?hr ?_;(case ho => rfl);(case hg => rfl);(case hn => rfl);(case hr => first|(go_simp;done)|(go_simp;rfl));intro w15 hw;have hg : w13.grownBy w15 (some go6):=(by rw [hw];exact HP14.2);have hp_ : Kd.R k53 53 w15 w0.heap.size (fun k_ => (P0_ k_ ∨ w.heap.size ≤ k_)) (.slice (some ⟨go6,0,none⟩) x0_1.length co9) y160:=(by rw [hw,Ny160.out];exact HP14.1);clear HP14;have n0_:=aM (hp_);have n1_:=aM ((by rw [hw];exact lS (HB.out) GB6.out : Below w0.heap.size w0 w15));have n2_:=aM (Kept.of_grown (S:=(fun k_ => P0_ k_)) hg (by repeat (first|(with_reducible first|exact HK.out|apply Kept.alloc|apply Kept.drewN|apply Kept.drew)|exact HK.out)) (fun k_ e_ => (HO_0.out.1 k_ e_)));clear HO_0 HB HK;have HO_0:=n0_;have HB:=n1_;have HK:=n2_;clear n0_ n1_ n2_ hg hw hp_))
     go_roundg k1
     case measure => have:=HK1.out;omega
     case rel => exact ⟨(y160),(wrap64 ((wrap64 (x1_1 + 1)) + 1)),(wrap64 (x5_1 + 1)),(by first|rfl|(simp;done)|(simp [*];done)),(by first|rfl|(simp;done)|(simp [*];done)),H',⟨by have:=HK1.out;omega⟩,⟨by (with_reducible repeat (first|apply rA|apply rN|apply rD));exact HO_0.out⟩,⟨by repeat (first|(with_reducible first|exact HK.out|apply Kept.alloc|apply Kept.drewN|apply Kept.drew)|exact HK.out)⟩,⟨by repeat (first|(with_reducible first|exact HB.out|apply lA|apply lN|apply lD)|exact HB.out)⟩⟩
    ·rw [if_neg c5] at H
     exact absurd H (by simp)
   ·rw [if_neg c3] at H
    have c3b0 : decide (x5_1 < (x0_1.length : Int)) = false:=decide_eq_false c3
    clear c3
    simp only [Option.some.injEq,Prod.mk.injEq] at H
    obtain ⟨rfl,rfl⟩:=H
    obtain ⟨Ao16,co16,eo16⟩:=Kd.R_slice HO_0.out
    subst eo16
    go_wp2
    go_ret
    exact ⟨by first|rfl|(simp [errW_none,errW_some] <;> rfl)|(simp [*,errW_none,errW_some] <;> rfl),by (with_reducible repeat (first|apply rA|apply rN|apply rD));exact HO_0.out,by repeat (first|(with_reducible first|exact HB.out|apply lA|apply lN|apply lD)|exact HB.out),by repeat (first|(with_reducible first|exact HK.out|apply Kept.alloc|apply Kept.drewN|apply Kept.drew)|exact HK.out)⟩

/-! ### laws_markCellS: function 59 -/
def laws_markCellS.l0 : Nat → List (S57) → Int → Int → Option (Int × (List (S57)))
 |0,_,_,_ => none
 |k + 1,x0,x1,x5 => if x5 < (x0.length : Int) then ((laws_markText.f k x1).bind fun t161 => (if 0 ≤ x5 then ((some (x0.set (x5 : Int).toNat (⟨t161,(rd_T57 x0 x5).f1,(rd_T57 x0 x5).f2⟩ : S57) : List (S57))).bind fun y162 => ((laws_markText.f k (wrap64 (x1 + 1))).bind fun t163 => ((some (y162.set (x5 : Int).toNat (⟨(rd_T57 y162 x5).f0,t163,(rd_T57 y162 x5).f2⟩ : S57) : List (S57))).bind fun y164 => ((laws_markText.f k (wrap64 ((wrap64 (x1 + 1)) + 1))).bind fun t165 => (laws_markCellS.l0 k (y164.set (x5 : Int).toNat (⟨(rd_T57 y164 x5).f0,(rd_T57 y164 x5).f1,t165⟩ : S57)) (wrap64 ((wrap64 ((wrap64 (x1 + 1)) + 1)) + 1)) (wrap64 (x5 + 1))))))) else (none))) else (some (x1,x0))
def laws_markCellS.f (k : Nat) (l0 : List (S57)) (a1 : Int) : Option (Int × (List (S57))):=laws_markCellS.l0 k l0 a1 0
theorem laws_markCellS.mono_l : ∀ k,(∀ y0 y1 y2,LeO (laws_markCellS.l0 k y0 y1 y2) (laws_markCellS.l0 (k + 1) y0 y1 y2))
 |0 => fun _ _ _ r h => by simp [laws_markCellS.l0] at h
 |k + 1 => by
  have ih0:=laws_markCellS.mono_l k
  ·intro y0 y1 y2
   unfold laws_markCellS.l0
   repeat' first
   |(with_reducible exact ih0 _ _ _)
   |(with_reducible exact laws_markText.mono _ _)
   |(with_reducible exact LeO.refl _)
   |(with_reducible exact LeO.none _)
   |(with_reducible refine LeO.ite ?_ ?_)
   |(with_reducible refine LeO.bind ?_ (fun _ => ?_))
   |exact ih0 _ _ _
   |exact laws_markText.mono _ _
   |exact LeO.none _
   |refine LeO.ite ?_ ?_
   |refine LeO.bind ?_ (fun _ => ?_)
theorem laws_markCellS.mono : ∀ a0 a1 k,LeO (laws_markCellS.f k a0 a1) (laws_markCellS.f (k + 1) a0 a1):=by
 intro a0 a1 k
 have ih0:=laws_markCellS.mono_l k
 unfold laws_markCellS.f
 repeat' first
   |(with_reducible exact ih0 _ _ _)
   |(with_reducible exact laws_markText.mono _ _)
   |(with_reducible exact LeO.refl _)
   |(with_reducible exact LeO.none _)
   |(with_reducible refine LeO.ite ?_ ?_)
   |(with_reducible refine LeO.bind ?_ (fun _ => ?_))
   |exact ih0 _ _ _
   |exact laws_markText.mono _ _
   |exact LeO.none _
   |refine LeO.ite ?_ ?_
   |refine LeO.bind ?_ (fun _ => ?_)
set_option maxHeartbeats 8000000 in
set_option maxRecDepth 100000 in
theorem laws_markCellS.calls (k : Nat) (P0_ : Nat → Prop) (u9000_ : Value) (l0 : List (S57)) (a1 : Int) (r1 : Int) (r2 : List (S57)) (w0 w : World) (hB : Below w0.heap.size w0 w) (ho0 : Kd.R k57 57 w w0.heap.size P0_ u9000_ l0) (h : laws_markCellS.f k l0 a1 = some (r1,r2)) :
  Calls Try.prog 59 #[u9000_,.int .i64 a1] w fun e w' => e = .returned (.int .i64 r1) ∧ Kd.R k57 57 w' w0.heap.size (fun k_ => (P0_ k_ ∨ w.heap.size ≤ k_)) u9000_ r2 ∧ Below w0.heap.size w0 w' ∧ Kept w w' (fun k_ => P0_ k_):=by
 have HO0:=aM (show Kd.R k57 57 w w0.heap.size (fun k_ => (P0_ k_ ∨ w.heap.size ≤ k_)) u9000_ l0 from Kd.R_mono ho0 (fun k_ hk => (.inl hk)))
 have HK:=aM (Kept.refl w (fun k_ => P0_ k_))
 have HW0:=aM hB.size
 have HB:=aM hB
 clear hB
 have H : (laws_markCellS.l0 k l0 a1 0) = some (r1,r2):=h
 clear h
 have H':=aM H
 clear H
 go_enter Try.func59,Try.ntmps59
 go_wp2
 go_loopg [1,5] k (fun kq v1 v5 w' => ∃ (x0_1 : List (S57)) (x1_1 : Int) (x5_1 : Int),v1 = .int .i64 x1_1 ∧ v5 = .int .i64 x5_1 ∧ Aside0 (laws_markCellS.l0 kq x0_1 x1_1 x5_1 = some (r1,r2)) ∧ Aside0 (kq ≤ k) ∧ Aside0 (Kd.R k57 57 w' w0.heap.size (fun k_ => (P0_ k_ ∨ w.heap.size ≤ k_)) u9000_ x0_1) ∧ Aside0 (Kept w w' (fun k_ => P0_ k_)) ∧ Aside0 (Below w0.heap.size w0 w'))
 case atStart => exact ⟨(l0),(a1),(0),(by first|rfl|(simp;done)|(simp [*];done)),(by first|rfl|(simp;done)|(simp [*];done)),H',⟨Nat.le_refl _⟩,⟨by (with_reducible repeat (first|apply rA|apply rN|apply rD));exact HO0.out⟩,⟨by repeat (first|(with_reducible first|exact HK.out|apply Kept.alloc|apply Kept.drewN|apply Kept.drew)|exact HK.out)⟩,⟨by repeat (first|(with_reducible first|exact HB.out|apply lA|apply lN|apply lD)|exact HB.out)⟩⟩
 case round =>
  clear H'
  try clear p2
  obtain ⟨x0_1,x1_1,x5_1,rfl,rfl,HA,HK1,HO_0,HK,HB⟩:=hrel
  cases gk with
  |zero => exact absurd HA.out (by simp [laws_markCellS.l0])
  |succ k1 =>
   have H:=HA.out
   clear HA
   simp only [laws_markCellS.l0] at H
   by_cases c3 : x5_1 < (x0_1.length : Int)
   ·rw [if_pos c3] at H
    have c3b0 : decide (x5_1 < (x0_1.length : Int)) = true:=decide_eq_true c3
    clear c3
    replace H:=Option.bind_eq_some_iff.mp H
    obtain ⟨t161,A40,H⟩:=H
    replace H : (if 0 ≤ x5_1 then ((some (x0_1.set (x5_1 : Int).toNat (⟨t161,(rd_T57 x0_1 x5_1).f1,(rd_T57 x0_1 x5_1).f2⟩ : S57) : List (S57))).bind fun y162 => ((laws_markText.f k1 (wrap64 (x1_1 + 1))).bind fun t163 => ((some (y162.set (x5_1 : Int).toNat (⟨(rd_T57 y162 x5_1).f0,t163,(rd_T57 y162 x5_1).f2⟩ : S57) : List (S57))).bind fun y164 => ((laws_markText.f k1 (wrap64 ((wrap64 (x1_1 + 1)) + 1))).bind fun t165 => (laws_markCellS.l0 k1 (y164.set (x5_1 : Int).toNat (⟨(rd_T57 y164 x5_1).f0,(rd_T57 y164 x5_1).f1,t165⟩ : S57)) (wrap64 ((wrap64 ((wrap64 (x1_1 + 1)) + 1)) + 1)) (wrap64 (x5_1 + 1))))))) else (none)) = some (r1,r2):=H
    have A4:=aM A40
    clear A40
    by_cases c5 : 0 ≤ x5_1
    ·rw [if_pos c5] at H
     have c5b0 : decide (0 ≤ x5_1) = true:=decide_eq_true c5
     clear c5
     obtain ⟨y162,hy162⟩ : ∃ y_ : List (S57),y_ = (x0_1.set (x5_1 : Int).toNat (⟨t161,(rd_T57 x0_1 x5_1).f1,(rd_T57 x0_1 x5_1).f2⟩ : S57)):=⟨_,rfl⟩
     replace H : ((laws_markText.f k1 (wrap64 (x1_1 + 1))).bind fun t163 => ((some (y162.set (x5_1 : Int).toNat (⟨(rd_T57 y162 x5_1).f0,t163,(rd_T57 y162 x5_1).f2⟩ : S57) : List (S57))).bind fun y164 => ((laws_markText.f k1 (wrap64 ((wrap64 (x1_1 + 1)) + 1))).bind fun t165 => (laws_markCellS.l0 k1 (y164.set (x5_1 : Int).toNat (⟨(rd_T57 y164 x5_1).f0,(rd_T57 y164 x5_1).f1,t165⟩ : S57)) (wrap64 ((wrap64 ((wrap64 (x1_1 + 1)) + 1)) + 1)) (wrap64 (x5_1 + 1)))))) = some (r1,r2):=by first|(rw [hy162];with_reducible exact H)|(have H2_:=(Option.bind_some _ _).symm.trans H;rw [hy162];with_reducible exact H2_)|(have H2_:=(Option.bind_some _ _).symm.trans H;with_reducible exact H2_)|with_reducible exact H|(rw [hy162];exact H)|exact H
     have Ny162:=aM hy162
     clear hy162
     replace H:=Option.bind_eq_some_iff.mp H
     obtain ⟨t163,A70,H⟩:=H
     replace H : ((some (y162.set (x5_1 : Int).toNat (⟨(rd_T57 y162 x5_1).f0,t163,(rd_T57 y162 x5_1).f2⟩ : S57) : List (S57))).bind fun y164 => ((laws_markText.f k1 (wrap64 ((wrap64 (x1_1 + 1)) + 1))).bind fun t165 => (laws_markCellS.l0 k1 (y164.set (x5_1 : Int).toNat (⟨(rd_T57 y164 x5_1).f0,(rd_T57 y164 x5_1).f1,t165⟩ : S57)) (wrap64 ((wrap64 ((wrap64 (x1_1 + 1)) + 1)) + 1)) (wrap64 (x5_1 + 1))))) = some (r1,r2):=H
     have A7:=aM A70
     clear A70
     obtain ⟨y164,hy164⟩ : ∃ y_ : List (S57),y_ = (y162.set (x5_1 : Int).toNat (⟨(rd_T57 y162 x5_1).f0,t163,(rd_T57 y162 x5_1).f2⟩ : S57)):=⟨_,rfl⟩
     replace H : ((laws_markText.f k1 (wrap64 ((wrap64 (x1_1 + 1)) + 1))).bind fun t165 => (laws_markCellS.l0 k1 (y164.set (x5_1 : Int).toNat (⟨(rd_T57 y164 x5_1).f0,(rd_T57 y164 x5_1).f1,t165⟩ : S57)) (wrap64 ((wrap64 ((wrap64 (x1_1 + 1)) + 1)) + 1)) (wrap64 (x5_1 + 1)))) = some (r1,r2):=by first|(rw [hy164];with_reducible exact H)|(have H2_:=(Option.bind_some _ _).symm.trans H;rw [hy164];with_reducible exact H2_)|(have H2_:=(Option.bind_some _ _).symm.trans H;with_reducible exact H2_)|with_reducible exact H|(rw [hy164];exact H)|exact H
     have Ny164:=aM hy164
     clear hy164
     replace H:=Option.bind_eq_some_iff.mp H
     obtain ⟨t165,A90,H⟩:=H
     replace H : (laws_markCellS.l0 k1 (y164.set (x5_1 : Int).toNat (⟨(rd_T57 y164 x5_1).f0,(rd_T57 y164 x5_1).f1,t165⟩ : S57)) (wrap64 ((wrap64 ((wrap64 (x1_1 + 1)) + 1)) + 1)) (wrap64 (x5_1 + 1))) = some (r1,r2):=H
     have A9:=aM A90
     clear A90
     obtain ⟨y166,hy166⟩ : ∃ y_ : List (S57),y_ = (y164.set (x5_1 : Int).toNat (⟨(rd_T57 y164 x5_1).f0,(rd_T57 y164 x5_1).f1,t165⟩ : S57)):=⟨_,rfl⟩
     replace H : (laws_markCellS.l0 k1 y166 (wrap64 ((wrap64 ((wrap64 (x1_1 + 1)) + 1)) + 1)) (wrap64 (x5_1 + 1))) = some (r1,r2):=by first|(rw [hy166];with_reducible exact H)|(have H2_:=(Option.bind_some _ _).symm.trans H;rw [hy166];with_reducible exact H2_)|(have H2_:=(Option.bind_some _ _).symm.trans H;with_reducible exact H2_)|with_reducible exact H|(rw [hy166];exact H)|exact H
     have Ny166:=aM hy166
     clear hy166
     have H':=aM H
     clear H
     obtain ⟨Ao11,co11,eo11⟩:=Kd.R_slice HO_0.out
     subst eo11
     go_wp2_with (first|((with_reducible refine gate_callee (f:=43) rfl ?_);refine goesL_ (some 15) rfl rfl Try.func43 (by kernel_rfl) rfl #[.int .i64 x1_1] rfl (by (try simp only [List.map_toArray,List.map_cons,List.map_nil]);first|done|rfl|(simp only [List.length_drop,List.length_take];rfl)) ?_;(with_reducible refine (laws_markText.calls k1 x1_1 t161 _ A4.out).mono ?_);rintro e w12 ⟨rfl,hb⟩;refine ⟨_,rfl,?_⟩;have n0_:=aM (rH HO_0.out hb);have n1_:=aM (Kept.below (S:=(fun k_ => P0_ k_)) (by repeat (first|(with_reducible first|exact HK.out|apply Kept.alloc|apply Kept.drewN|apply Kept.drew)|exact HK.out)) hb);have n2_:=aM (lQ HB.out hb);clear HO_0 HK HB;have HO_0:=n0_;have HK:=n1_;have HB:=n2_;clear n0_ n1_ n2_;(try clear hb);(try clear hb2);(try clear hk);(try clear hi);have p6 : 0 ≤ (x5_1 : Int):=of_decide_eq_true (by first|(with_reducible assumption)|assumption);have q6 : (x5_1 : Int) < ((x0_1.length : Int) : Int):=of_decide_eq_true (by first|(with_reducible assumption)|assumption);obtain ⟨go6,co6,eo6,gb6,gl6,cl6,HG6⟩:=Kd.R_form HO_0.out (by omega);(first|cases eo6|(injection eo6 with ea_ en_ ec_;(first|subst ea_|(injection ea_ with ea_;subst ea_));subst ec_;clear en_));have GB6:=aM gb6;have GG6:=aM HG6;clear gb6 gl6 HG6;have HMgo6:=aM (show (P0_ go6 ∨ w.heap.size ≤ go6) from (HO_0.out.1 _ rfl));obtain ⟨ce6,hcl6,hM6,hcc6,hfr6⟩:=Kd.R_elem HO_0.out z57 (x5_1 : Int) p6 q6;obtain rfl:=k57_openM hM6;have hx6_0 : w12.cell? ⟨go6,(x5_1 : Int).toNat * 3,none⟩ = some (.string ((rd_T57 x0_1 x5_1).f0)):=hcc6 0 _ rfl;have hx6_1 : w12.cell? ⟨go6,(x5_1 : Int).toNat * 3 + 1,none⟩ = some (.string ((rd_T57 x0_1 x5_1).f1)):=hcc6 1 _ rfl;have hx6_2 : w12.cell? ⟨go6,(x5_1 : Int).toNat * 3 + 2,none⟩ = some (.string ((rd_T57 x0_1 x5_1).f2)):=hcc6 2 _ rfl;have hf6_0 : w12.frozen? ⟨go6,(x5_1 : Int).toNat * 3,none⟩ = false:=hfr6 0;have hf6_1 : w12.frozen? ⟨go6,(x5_1 : Int).toNat * 3 + 1,none⟩ = false:=hfr6 1;have hf6_2 : w12.frozen? ⟨go6,(x5_1 : Int).toNat * 3 + 2,none⟩ = false:=hfr6 2;clear hcl6 hcc6 hfr6 hM6;replace p6:=eq_true p6;replace q6:=eq_true q6;have HX13:=aM (show Kd.R k57 57 w12 w0.heap.size (fun k_ => (P0_ k_ ∨ w.heap.size ≤ k_)) (.slice (some ⟨go6,0,none⟩) x0_1.length co11) x0_1 from (rZ HO_0.out));obtain ⟨ce13,hcl13,hM13,hcc13,hfr13⟩:=Kd.R_elem HX13.out z57 (x5_1 : Int) (of_decide_eq_true (by first|(with_reducible assumption)|assumption)) (by have h_ : (x5_1 : Int) < ((x0_1.length : Int) : Int):=of_decide_eq_true (by first|(with_reducible assumption)|assumption);first|exact h_|(have e_:=(rR HO_0.out).1;omega)|simpa using h_);obtain rfl:=k57_openM hM13;have HP13:=Kd.R_seg HX13.out (x5_1 : Int) (of_decide_eq_true (by first|(with_reducible assumption)|assumption)) (by have h_ : (x5_1 : Int) < ((x0_1.length : Int) : Int):=of_decide_eq_true (by first|(with_reducible assumption)|assumption);first|exact h_|(have e_:=(rR HO_0.out).1;omega)|simpa using h_) (seg:=[.string t161]) (j:=0) hcl13 hcc13 (show 1 ≤ 3 from by decide) (x':=(⟨t161,(rd_T57 x0_1 x5_1).f1,(rd_T57 x0_1 x5_1).f2⟩ : S57)) (k57_mkM _ _ _ (⟨t161,(rd_T57 x0_1 x5_1).f1,(rd_T57 x0_1 x5_1).f2⟩ : S57) ) (fun _ hk => hk);have hx13_0:=hcc13 0 _ rfl;(try simp only [show (k57).sz = 3 from rfl,Nat.mul_one,Nat.add_zero] at hx13_0);have hf13_0:=hfr13 0;(try simp only [show (k57).sz = 3 from rfl,Nat.mul_one,Nat.add_zero] at hf13_0);clear hcl13 hcc13 hfr13 hM13)|((with_reducible refine gate_store (t:=9) (p:=17) rfl ?_);refine store_event (t:=9) (p:=17) (v:=?vo_w14) (w1:=(w12.setCell ⟨go6,(x5_1 : Int).toNat * 3,none⟩ (.string t161))) ?hg ?ho ?hn ?hr ?_;(case ho => rfl);(case hg => rfl);(case hn => rfl);(case hr => first|(go_simp;done)|(go_simp;rfl));intro w14 hw;have hg : w12.grownBy w14 (some go6):=(by rw [hw];exact HP13.2);have hp_ : Kd.R k57 57 w14 w0.heap.size (fun k_ => (P0_ k_ ∨ w.heap.size ≤ k_)) (.slice (some ⟨go6,0,none⟩) x0_1.length co11) y162:=(by rw [hw,Ny162.out];exact HP13.1);clear HP13;have n0_:=aM (hp_);have n1_:=aM ((by rw [hw];exact lS (HB.out) GB6.out : Below w0.heap.size w0 w14));have n2_:=aM (Kept.of_grown (S:=(fun k_ => P0_ k_)) hg (by repeat (first|(with_reducible first|exact HK.out|apply Kept.alloc|apply Kept.drewN|apply Kept.drew)|exact HK.out)) (fun k_ e_ => (HO_0.out.1 k_ e_)));clear HO_0 HB HK;have HO_0:=n0_;have HB:=n1_;have HK:=n2_;clear n0_ n1_ n2_ hg hw hp_)|((with_reducible refine gate_callee (f:=43) rfl ?_);refine goesL_ (some 23) rfl rfl Try.func43 (by kernel_rfl) rfl #[.int .i64 (wrap64 (x1_1 + 1))] rfl (by (try simp only [List.map_toArray,List.map_cons,List.map_nil]);first|done|rfl|(simp only [List.length_drop,List.length_take];rfl)) ?_;(with_reducible refine (laws_markText.calls k1 (wrap64 (x1_1 + 1)) t163 _ A7.out).mono ?_);rintro e w15 ⟨rfl,hb⟩;refine ⟨_,rfl,?_⟩;have n0_:=aM (rH HO_0.out hb);have n1_:=aM (Kept.below (S:=(fun k_ => P0_ k_)) (by repeat (first|(with_reducible first|exact HK.out|apply Kept.alloc|apply Kept.drewN|apply Kept.drew)|exact HK.out)) hb);have n2_:=aM (lQ HB.out hb);clear HO_0 HK HB;have HO_0:=n0_;have HK:=n1_;have HB:=n2_;clear n0_ n1_ n2_;(try clear hb);(try clear hb2);(try clear hk);(try clear hi);have p8 : 0 ≤ (x5_1 : Int):=of_decide_eq_true (by first|(with_reducible assumption)|assumption);have q8 : (x5_1 : Int) < ((x0_1.length : Int) : Int):=of_decide_eq_true (by first|(with_reducible assumption)|assumption);obtain ⟨ce8,hcl8,hM8,hcc8,hfr8⟩:=Kd.R_elem HO_0.out z57 (x5_1 : Int) p8 q8;obtain rfl:=k57_openM hM8;have hx8_0 : w15.cell? ⟨go6,(x5_1 : Int).toNat * 3,none⟩ = some (.string ((rd_T57 y162 x5_1).f0)):=hcc8 0 _ rfl;have hx8_1 : w15.cell? ⟨go6,(x5_1 : Int).toNat * 3 + 1,none⟩ = some (.string ((rd_T57 y162 x5_1).f1)):=hcc8 1 _ rfl;have hx8_2 : w15.cell? ⟨go6,(x5_1 : Int).toNat * 3 + 2,none⟩ = some (.string ((rd_T57 y162 x5_1).f2)):=hcc8 2 _ rfl;have hf8_0 : w15.frozen? ⟨go6,(x5_1 : Int).toNat * 3,none⟩ = false:=hfr8 0;have hf8_1 : w15.frozen? ⟨go6,(x5_1 : Int).toNat * 3 + 1,none⟩ = false:=hfr8 1;have hf8_2 : w15.frozen? ⟨go6,(x5_1 : Int).toNat * 3 + 2,none⟩ = false:=hfr8 2;clear hcl8 hcc8 hfr8 hM8;replace p8:=eq_true p8;replace q8:=eq_true q8;have HX16:=aM (show Kd.R k57 57 w15 w0.heap.size (fun k_ => (P0_ k_ ∨ w.heap.size ≤ k_)) (.slice (some ⟨go6,0,none⟩) x0_1.length co11) y162 from (rZ HO_0.out));obtain ⟨ce16,hcl16,hM16,hcc16,hfr16⟩:=Kd.R_elem HX16.out z57 (x5_1 : Int) (of_decide_eq_true (by first|(with_reducible assumption)|assumption)) (by have h_ : (x5_1 : Int) < ((x0_1.length : Int) : Int):=of_decide_eq_true (by first|(with_reducible assumption)|assumption);first|exact h_|(have e_:=(rR HO_0.out).1;omega)|simpa using h_);obtain rfl:=k57_openM hM16;have HP16:=Kd.R_seg HX16.out (x5_1 : Int) (of_decide_eq_true (by first|(with_reducible assumption)|assumption)) (by have h_ : (x5_1 : Int) < ((x0_1.length : Int) : Int):=of_decide_eq_true (by first|(with_reducible assumption)|assumption);first|exact h_|(have e_:=(rR HO_0.out).1;omega)|simpa using h_) (seg:=[.string t163]) (j:=1) hcl16 hcc16 (show 2 ≤ 3 from by decide) (x':=(⟨(rd_T57 y162 x5_1).f0,t163,(rd_T57 y162 x5_1).f2⟩ : S57)) (k57_mkM _ _ _ (⟨(rd_T57 y162 x5_1).f0,t163,(rd_T57 y162 x5_1).f2⟩ : S57) ) (fun _ hk => hk);have hx16_1:=hcc16 1 _ rfl;(try simp only [show (k57).sz = 3 from rfl,Nat.mul_one,Nat.add_zero] at hx16_1);have hf16_1:=hfr16 1;(try simp only [show (k57).sz = 3 from rfl,Nat.mul_one,Nat.add_zero] at hf16_1);clear hcl16 hcc16 hfr16 hM16)|((with_reducible refine gate_store (t:=9) (p:=25) rfl ?_);refine store_event (t:=9) (p:=25) (v:=?vo_w17) (w1:=(w15.setCell ⟨go6,(x5_1 : Int).toNat * 3 + 1,none⟩ (.string t163))) ?hg ?ho ?hn ?hr ?_;(case ho => rfl);(case hg => rfl);(case hn => rfl);(case hr => first|(go_simp;done)|(go_simp;rfl));intro w17 hw;have hg : w15.grownBy w17 (some go6):=(by rw [hw];exact HP16.2);have hp_ : Kd.R k57 57 w17 w0.heap.size (fun k_ => (P0_ k_ ∨ w.heap.size ≤ k_)) (.slice (some ⟨go6,0,none⟩) x0_1.length co11) y164:=(by rw [hw,Ny164.out];exact HP16.1);clear HP16;have n0_:=aM (hp_);have n1_:=aM ((by rw [hw];exact lS (HB.out) GB6.out : Below w0.heap.size w0 w17));have n2_:=aM (Kept.of_grown (S:=(fun k_ => P0_ k_)) hg (by repeat (first|(with_reducible first|exact HK.out|apply Kept.alloc|apply Kept.drewN|apply Kept.drew)|exact HK.out)) (fun k_ e_ => (HO_0.out.1 k_ e_)));clear HO_0 HB HK;have HO_0:=n0_;have HB:=n1_;have HK:=n2_;clear n0_ n1_ n2_ hg hw hp_)|((with_reducible refine gate_callee (f:=43) rfl ?_);refine goesL_ (some 31) rfl rfl Try.func43 (by kernel_rfl) rfl #[.int .i64 (wrap64 ((wrap64 (x1_1 + 1)) + 1))] rfl (by (try simp only [List.map_toArray,List.map_cons,List.map_nil]);first|done|rfl|(simp only [List.length_drop,List.length_take];rfl)) ?_;(with_reducible refine (laws_markText.calls k1 (wrap64 ((wrap64 (x1_1 + 1)) + 1)) t165 _ A9.out).mono ?_);rintro e w18 ⟨rfl,hb⟩;refine ⟨_,rfl,?_⟩;have n0_:=aM (rH HO_0.out hb);have n1_:=aM (Kept.below (S:=(fun k_ => P0_ k_)) (by repeat (first|(with_reducible first|exact HK.out|apply Kept.alloc|apply Kept.drewN|apply Kept.drew)|exact HK.out)) hb);have n2_:=aM (lQ HB.out hb);clear HO_0 HK HB;have HO_0:=n0_;have HK:=n1_;have HB:=n2_;clear n0_ n1_ n2_;(try clear hb);(try clear hb2);(try clear hk);(try clear hi);have p10 : 0 ≤ (x5_1 : Int):=of_decide_eq_true (by first|(with_reducible assumption)|assumption);have q10 : (x5_1 : Int) < ((x0_1.length : Int) : Int):=of_decide_eq_true (by first|(with_reducible assumption)|assumption);obtain ⟨ce10,hcl10,hM10,hcc10,hfr10⟩:=Kd.R_elem HO_0.out z57 (x5_1 : Int) p10 q10;obtain rfl:=k57_openM hM10;have hx10_0 : w18.cell? ⟨go6,(x5_1 : Int).toNat * 3,none⟩ = some (.string ((rd_T57 y164 x5_1).f0)):=hcc10 0 _ rfl;have hx10_1 : w18.cell? ⟨go6,(x5_1 : Int).toNat * 3 + 1,none⟩ = some (.string ((rd_T57 y164 x5_1).f1)):=hcc10 1 _ rfl;have hx10_2 : w18.cell? ⟨go6,(x5_1 : Int).toNat * 3 + 2,none⟩ = some (.string ((rd_T57 y164 x5_1).f2)):=hcc10 2 _ rfl;have hf10_0 : w18.frozen? ⟨go6,(x5_1 : Int).toNat * 3,none⟩ = false:=hfr10 0;have hf10_1 : w18.frozen? ⟨go6,(x5_1 : Int).toNat * 3 + 1,none⟩ = false:=hfr10 1;have hf10_2 : w18.frozen? ⟨go6,(x5_1 : Int).toNat * 3 + 2,none⟩ = false:=hfr10 2;clear hcl10 hcc10 hfr10 hM10;replace p10:=eq_true p10;replace q10:=eq_true q10;have HX19:=aM (show Kd.R k57 57 w18 w0.heap.size (fun k_ => (P0_ k_ ∨ w.heap.size ≤ k_)) (.slice (some ⟨go6,0,none⟩) x0_1.length co11) y164 from (rZ HO_0.out));obtain ⟨ce19,hcl19,hM19,hcc19,hfr19⟩:=Kd.R_elem HX19.out z57 (x5_1 : Int) (of_decide_eq_true (by first|(with_reducible assumption)|assumption)) (by have h_ : (x5_1 : Int) < ((x0_1.length : Int) : Int):=of_decide_eq_true (by first|(with_reducible assumption)|assumption);first|exact h_|(have e_:=(rR HO_0.out).1;omega)|simpa using h_);obtain rfl:=k57_openM hM19;have HP19:=Kd.R_seg HX19.out (x5_1 : Int) (of_decide_eq_true (by first|(with_reducible assumption)|assumption)) (by have h_ : (x5_1 : Int) < ((x0_1.length : Int) : Int):=of_decide_eq_true (by first|(with_reducible assumption)|assumption);first|exact h_|(have e_:=(rR HO_0.out).1;omega)|simpa using h_) (seg:=[.string t165]) (j:=2) hcl19 hcc19 (show 3 ≤ 3 from by decide) (x':=(⟨(rd_T57 y164 x5_1).f0,(rd_T57 y164 x5_1).f1,t165⟩ : S57)) (k57_mkM _ _ _ (⟨(rd_T57 y164 x5_1).f0,(rd_T57 y164 x5_1).f1,t165⟩ : S57) ) (fun _ hk => hk);have hx19_2:=hcc19 2 _ rfl;(try simp only [show (k57).sz = 3 from rfl,Nat.mul_one,Nat.add_zero] at hx19_2);have hf19_2:=hfr19 2;(try simp only [show (k57).sz = 3 from rfl,Nat.mul_one,Nat.add_zero] at hf19_2);clear hcl19 hcc19 hfr19 hM19)|((with_reducible refine gate_store (t:=9) (p:=33) rfl ?_);refine store_event (t:=9) (p:=33) (v:=?vo_w20) (w1:=(w18.setCell ⟨go6,(x5_1 : Int).toNat * 3 + 2,none⟩ (.string t165))) ?hg ?ho ?hn ?hr ?_;(case ho => rfl);(case hg => rfl);(case hn => rfl);(case hr => first|(go_simp;done)|(go_simp;rfl));intro w20 hw;have hg : w18.grownBy w20 (some go6):=(by rw [hw];exact HP19.2);have hp_ : Kd.R k57 57 w20 w0.heap.size (fun k_ => (P0_ k_ ∨ w.heap.size ≤ k_)) (.slice (some ⟨go6,0,none⟩) x0_1.length co11) y166:=(by rw [hw,Ny166.out];exact HP19.1);clear HP19;have n0_:=aM (hp_);have n1_:=aM ((by rw [hw];exact lS (HB.out) GB6.out : Below w0.heap.size w0 w20));have n2_:=aM (Kept.of_grown (S:=(fun k_ => P0_ k_)) hg (by repeat (first|(with_reducible first|exact HK.out|apply Kept.alloc|apply Kept.drewN|apply Kept.drew)|exact HK.out)) (fun k_ e_ => (HO_0.out.1 k_ e_)));clear HO_0 HB HK;have HO_0:=n0_;have HB:=n1_;have HK:=n2_;clear n0_ n1_ n2_ hg hw hp_))
     go_roundg k1
     case measure => have:=HK1.out;omega
     case rel => exact ⟨(y166),(wrap64 ((wrap64 ((wrap64 (x1_1 + 1)) + 1)) + 1)),(wrap64 (x5_1 + 1)),(by first|rfl|(simp;done)|(simp [*];done)),(by first|rfl|(simp;done)|(simp [*];done)),H',⟨by have:=HK1.out;omega⟩,⟨by (with_reducible repeat (first|apply rA|apply rN|apply rD));exact HO_0.out⟩,⟨by repeat (first|(with_reducible first|exact HK.out|apply Kept.alloc|apply Kept.drewN|apply Kept.drew)|exact HK.out)⟩,⟨by repeat (first|(with_reducible first|exact HB.out|apply lA|apply lN|apply lD)|exact HB.out)⟩⟩
    ·rw [if_neg c5] at H
     exact absurd H (by simp)
   ·rw [if_neg c3] at H
    have c3b0 : decide (x5_1 < (x0_1.length : Int)) = false:=decide_eq_false c3
    clear c3
    simp only [Option.some.injEq,Prod.mk.injEq] at H
    obtain ⟨rfl,rfl⟩:=H
    obtain ⟨Ao21,co21,eo21⟩:=Kd.R_slice HO_0.out
    subst eo21
    go_wp2
    go_ret
    exact ⟨by first|rfl|(simp [errW_none,errW_some] <;> rfl)|(simp [*,errW_none,errW_some] <;> rfl),by (with_reducible repeat (first|apply rA|apply rN|apply rD));exact HO_0.out,by repeat (first|(with_reducible first|exact HB.out|apply lA|apply lN|apply lD)|exact HB.out),by repeat (first|(with_reducible first|exact HK.out|apply Kept.alloc|apply Kept.drewN|apply Kept.drew)|exact HK.out)⟩

/-! ### laws_markStore: function 24 -/
def laws_markStore.f (k : Nat) (l0_0 : List (S53)) (l0_1 : List (S57)) (a0_2 : ByteArray) (a1 : Int) : Option (Int × (List (S53)) × (List (S57))):=(laws_markVarS.f k l0_0 a1).bind fun bt168 => ((laws_markCellS.f k l0_1 bt168.1).bind fun bt170 => (some (bt170.1,bt168.2,bt170.2)))
theorem laws_markStore.mono : ∀ a0 a1 a2 a3 k,LeO (laws_markStore.f k a0 a1 a2 a3) (laws_markStore.f (k + 1) a0 a1 a2 a3):=by
 intro a0 a1 a2 a3 k
 unfold laws_markStore.f
 repeat' first
   |(with_reducible exact laws_markCellS.mono _ _ _)
   |(with_reducible exact laws_markVarS.mono _ _ _)
   |(with_reducible exact LeO.refl _)
   |(with_reducible exact LeO.none _)
   |(with_reducible refine LeO.ite ?_ ?_)
   |(with_reducible refine LeO.bind ?_ (fun _ => ?_))
   |exact laws_markCellS.mono _ _ _
   |exact laws_markVarS.mono _ _ _
   |exact LeO.none _
   |refine LeO.ite ?_ ?_
   |refine LeO.bind ?_ (fun _ => ?_)
set_option maxHeartbeats 8000000 in
set_option maxRecDepth 100000 in
theorem laws_markStore.calls (k : Nat) (P0_0_ : Nat → Prop) (u9000_ : Value) (l0_0 : List (S53)) (P0_1_ : Nat → Prop) (u9001_ : Value) (l0_1 : List (S57)) (a0_2 : ByteArray) (a1 : Int) (r1 : Int) (r2 : List (S53)) (r3 : List (S57)) (w0 w : World) (hB : Below w0.heap.size w0 w) (ho0_0 : Kd.R k53 53 w w0.heap.size P0_0_ u9000_ l0_0) (ho0_1 : Kd.R k57 57 w w0.heap.size P0_1_ u9001_ l0_1) (h : laws_markStore.f k l0_0 l0_1 a0_2 a1 = some (r1,r2,r3)) :
  Calls Try.prog 24 #[.agg #[u9000_,u9001_,.string a0_2],.int .i64 a1] w fun e w' => e = .returned (.int .i64 r1) ∧ Kd.R k53 53 w' w0.heap.size (fun k_ => ((P0_0_ k_ ∨ P0_1_ k_) ∨ w.heap.size ≤ k_)) u9000_ r2 ∧ Kd.R k57 57 w' w0.heap.size (fun k_ => ((P0_0_ k_ ∨ P0_1_ k_) ∨ w.heap.size ≤ k_)) u9001_ r3 ∧ Below w0.heap.size w0 w' ∧ Kept w w' (fun k_ => P0_0_ k_ ∨ P0_1_ k_):=by
 have hu38:=Try.underlying38
 have HO0_0:=aM (show Kd.R k53 53 w w0.heap.size (fun k_ => ((P0_0_ k_ ∨ P0_1_ k_) ∨ w.heap.size ≤ k_)) u9000_ l0_0 from Kd.R_mono ho0_0 (fun k_ hk => (.inl (.inl hk))))
 have HO0_1:=aM (show Kd.R k57 57 w w0.heap.size (fun k_ => ((P0_0_ k_ ∨ P0_1_ k_) ∨ w.heap.size ≤ k_)) u9001_ l0_1 from Kd.R_mono ho0_1 (fun k_ hk => (.inl (.inr hk))))
 have HK:=aM (Kept.refl w (fun k_ => P0_0_ k_ ∨ P0_1_ k_))
 have HW0:=aM hB.size
 have HB:=aM hB
 clear hB
 have H : ((laws_markVarS.f k l0_0 a1).bind fun bt168 => ((laws_markCellS.f k l0_1 bt168.1).bind fun bt170 => (some (bt170.1,bt168.2,bt170.2)))) = some (r1,r2,r3):=h
 clear h
 replace H:=Option.bind_eq_some_iff.mp H
 obtain ⟨⟨t168,t169⟩,A30,H⟩:=H
 replace H : ((laws_markCellS.f k l0_1 t168).bind fun bt170 => (some (bt170.1,t169,bt170.2))) = some (r1,r2,r3):=H
 have A3:=aM A30
 clear A30
 replace H:=Option.bind_eq_some_iff.mp H
 obtain ⟨⟨t170,t171⟩,A40,H⟩:=H
 replace H : (some (t170,t169,t171)) = some (r1,r2,r3):=H
 have A4:=aM A40
 clear A40
 simp only [Option.some.injEq,Prod.mk.injEq] at H
 obtain ⟨rfl,rfl,rfl⟩:=H
 obtain ⟨Ao5,co5,eo5⟩:=Kd.R_slice HO0_0.out
 subst eo5
 obtain ⟨Ao6,co6,eo6⟩:=Kd.R_slice HO0_1.out
 subst eo6
 go_enter Try.func24,Try.ntmps24
 go_wp2_with (first|((with_reducible refine gate_dst (N:=2) rfl ?_);refine box_event ?hg (N:=2) ?hd (cs:=#[.slice Ao5 l0_0.length co5,.slice Ao6 l0_1.length co6,.string a0_2]) (t:=38) ?hr ?_;(case hd => rfl);(case hg => rfl);(case hr => first|(go_simp;done)|(go_simp;rfl));intro gb167 hg w7 hbox hb;have n0_:=aM (rH HO0_0.out hb);have n1_:=aM (rH HO0_1.out hb);have n2_:=aM (Kept.below (S:=(fun k_ => P0_0_ k_ ∨ P0_1_ k_)) (by repeat (first|(with_reducible first|exact HK.out|apply Kept.alloc|apply Kept.drewN|apply Kept.drew)|exact HK.out)) hb);have n3_:=aM (lQ HB.out hb);have n4_:=aM (hbox);have n5_:=aM ((by rw [hg];exact (by first|exact HK.out.1|exact (show Kept w _ (fun k_ => P0_0_ k_ ∨ P0_1_ k_) from by repeat (first|(with_reducible first|exact HK.out|apply Kept.alloc|apply Kept.drewN|apply Kept.drew)|exact HK.out)).1) : w.heap.size ≤ gb167));have n6_:=aM ((sQ hg HB.out : w0.heap.size ≤ gb167));clear HO0_0 HO0_1 HK HB;have HO0_0:=n0_;have HO0_1:=n1_;have HK:=n2_;have HB:=n3_;have BK167:=n4_;have GW167:=n5_;have GE167:=n6_;clear n0_ n1_ n2_ n3_ n4_ n5_ n6_ hb hbox hg;obtain ⟨⟨hcz8_0,hcz8_1,hcz8_2⟩,hfz8_0,hfz8_1,hfz8_2⟩:=bC3 BK167.out)|((with_reducible refine gate_callee (f:=58) rfl ?_);refine goesL_ (some 8) rfl rfl Try.func58 (by kernel_rfl) rfl #[.slice Ao5 l0_0.length co5,.int .i64 a1] rfl (by (try simp only [List.map_toArray,List.map_cons,List.map_nil]);first|done|rfl|(simp only [List.length_drop,List.length_take];rfl)) ?_;(with_reducible refine (laws_markVarS.calls k (fun k_ => some k_ = (.slice Ao5 l0_0.length co5 : Value).ownBlock) (.slice Ao5 l0_0.length co5) l0_0 a1 t168 t169 w0 _ ?side1 ?side2 A3.out).mono ?_);(case side1 => repeat (first|(with_reducible first|exact HB.out|apply lA|apply lN|apply lD|refine lS ?_ GE167.out)|exact HB.out));(case side2 => exact Kd.R_tight rfl HO0_0.out);rintro e w9 ⟨rfl,hy0,hb,hkp⟩;refine ⟨_,rfl,?_⟩;have n0_:=aM (Kd.R_reok rfl hy0 (fun k_ e_ => HO0_0.out.1 k_ e_));have n1_:=aM (Kd.R_mono (ok':=fun k_ => ((P0_0_ k_ ∨ P0_1_ k_) ∨ w.heap.size ≤ k_)) (Kd.R_keptB ((Kd.R_apart' HO0_1.out (Kd.R_typed HO0_0.out) (by decide))) hkp (fun k_ hk_ hs_ => (hk_.2) hs_)) (fun k_ hk_ => hk_.1.1));have n2_:=aM (blk_kept (by (with_reducible repeat (first|refine bN ?_ _|refine bD ?_|refine bA ?_ _));exact BK167.out) hkp (fun hs_ => (fun e_ => (Kd.R_ne HO0_0.out BK167.out (by decide)) e_) hs_));have n3_:=aM (Kept.then_ (S:=(fun k_ => P0_0_ k_ ∨ P0_1_ k_)) (by repeat (first|(with_reducible first|exact HK.out|apply Kept.alloc|apply Kept.drewN|apply Kept.drew|refine Kept.setCell ?_ (.inr GW167.out) _)|exact HK.out)) hkp (fun k_ hs_ => (fun e_ => (HO0_0.out.1 k_ e_.symm)) hs_));have n4_:=aM (hb);clear HO0_0 HO0_1 BK167 HK HB;have HO0_0:=n0_;have HO0_1:=n1_;have BK167:=n2_;have HK:=n3_;have HB:=n4_;clear n0_ n1_ n2_ n3_ n4_;(try clear hb);(try clear hkp);(try clear hy0);obtain ⟨⟨hcz10_0,hcz10_1,hcz10_2⟩,hfz10_0,hfz10_1,hfz10_2⟩:=bC3 BK167.out)|((with_reducible refine gate_callee (f:=59) rfl ?_);refine goesL_ (some 12) rfl rfl Try.func59 (by kernel_rfl) rfl #[.slice Ao6 l0_1.length co6,.int .i64 t168] rfl (by (try simp only [List.map_toArray,List.map_cons,List.map_nil]);first|done|rfl|(simp only [List.length_drop,List.length_take];rfl)) ?_;(with_reducible refine (laws_markCellS.calls k (fun k_ => some k_ = (.slice Ao6 l0_1.length co6 : Value).ownBlock) (.slice Ao6 l0_1.length co6) l0_1 t168 t170 t171 w0 _ ?side1 ?side2 A4.out).mono ?_);(case side1 => repeat (first|(with_reducible first|exact HB.out|apply lA|apply lN|apply lD|refine lS ?_ GE167.out)|exact HB.out));(case side2 => exact Kd.R_tight rfl HO0_1.out);rintro e w11 ⟨rfl,hy0,hb,hkp⟩;refine ⟨_,rfl,?_⟩;have n0_:=aM (Kd.R_mono (ok':=fun k_ => ((P0_0_ k_ ∨ P0_1_ k_) ∨ w.heap.size ≤ k_)) (Kd.R_keptB ((Kd.R_apart' HO0_0.out (Kd.R_typed HO0_1.out) (by decide))) hkp (fun k_ hk_ hs_ => (hk_.2) hs_)) (fun k_ hk_ => hk_.1.1));have n1_:=aM (Kd.R_reok rfl hy0 (fun k_ e_ => HO0_1.out.1 k_ e_));have n2_:=aM (blk_kept (by (with_reducible repeat (first|refine bN ?_ _|refine bD ?_|refine bA ?_ _));exact BK167.out) hkp (fun hs_ => (fun e_ => (Kd.R_ne HO0_1.out BK167.out (by decide)) e_) hs_));have n3_:=aM (Kept.then_ (S:=(fun k_ => P0_0_ k_ ∨ P0_1_ k_)) (by repeat (first|(with_reducible first|exact HK.out|apply Kept.alloc|apply Kept.drewN|apply Kept.drew|refine Kept.setCell ?_ (.inr GW167.out) _)|exact HK.out)) hkp (fun k_ hs_ => (fun e_ => (HO0_1.out.1 k_ e_.symm)) hs_));have n4_:=aM (hb);clear HO0_0 HO0_1 BK167 HK HB;have HO0_0:=n0_;have HO0_1:=n1_;have BK167:=n2_;have HK:=n3_;have HB:=n4_;clear n0_ n1_ n2_ n3_ n4_;(try clear hb);(try clear hkp);(try clear hy0)))
 go_ret
 exact ⟨by first|rfl|(simp [errW_none,errW_some] <;> rfl)|(simp [*,errW_none,errW_some] <;> rfl),by (with_reducible repeat (first|apply rA|apply rN|apply rD));exact HO0_0.out,by (with_reducible repeat (first|apply rA|apply rN|apply rD));exact HO0_1.out,by repeat (first|(with_reducible first|exact HB.out|apply lA|apply lN|apply lD|refine lS ?_ GE167.out)|exact HB.out),by repeat (first|(with_reducible first|exact HK.out|apply Kept.alloc|apply Kept.drewN|apply Kept.drew|refine Kept.setCell ?_ (.inr GW167.out) _)|exact HK.out)⟩

end Go.Proofs.Ytodpkfidkilpdaa.QFnExactSetCell
