-- A text of this session, made by wip/own_print.py (the kit's print with additions of ours).
import Derived.Test.YtodpkfidkilpdaaQFnCellsx0
import Derived.Test.YtodpkfidkilpdaaQFnCellsx1
import Derived.Test.YtodpkfidkilpdaaQFnCellsx2
namespace Go.Proofs.Ytodpkfidkilpdaa.QFnCells
open Go.RowKit Go.Proofs.YtodpkfidkilpdaaW.PrintWords Go.Proofs.YtodpkfidkilpdaaW.PrintLast Go.Proofs.YtodpkfidkilpdaaW.PrintMore
attribute [local go_sem] max2_int min2_int max_two min_two max_three min_three max_four min_four   -- for this text's walks alone
set_option linter.unusedVariables false
set_option linter.unusedSimpArgs false
open Bool renaming true → bT, false → bf
open Go.Proofs.YtodpkfidkilpdaaW.PrintWords.Kd renaming R_alloc → rA, R_drewN → rN, R_drew → rD, C_alloc → cA, C_drewN → cN, C_drew → cD, R_far → rF, R_below → rB, R_lower → rL, R_lt → rT, R_base → rS, C_below → cB, R_types → rY, R_elder' → rE, R_reads' → rR, R_new' → rW
open Go.Proofs.YtodpkfidkilpdaaW.PrintWords renaming blk_drewN → bN, blk_drew → bD, blk_alloc → bA, below_set → lS, pw_below_drewN → lN, below_drew1 → lD, below_alloc → lA, blk_cell → bC, blk_below → bB, below_size → lZ, below_step → lP, blk_lt → bL, blk_frozen → bF
open Go.Proofs.YtodpkfidkilpdaaW.PrintWords.Aside0 renaming mk → aM
theorem q_ia9 {α : Type} (l : List α) (i : Nat) (a : α) : l.toArray.setIfInBounds i a = (l.set i a).toArray := List.setIfInBounds_toArray ..
theorem q_cz9 {α : Type} (a b : α) (l : List α) : (a :: l).set 0 b = b :: l := rfl
theorem q_cs9 {α : Type} (a b : α) (l : List α) (n : Nat) : (a :: l).set (n + 1) b = a :: l.set n b := rfl

attribute [local go_sem high] eqA53 eqA57
/-! ### spec_SameStore: function 37 -/
mutual
def spec_SameStore.j0 : Nat → Bool → List (S53) → List (S57) → ByteArray → List (S53) → List (S57) → ByteArray → Option (Bool)
 | 0, _, _, _, _, _, _, _ => none
 | k + 1, x29, x361000, x361001, x361002, x362000, x362001, x362002 => if x29 = true then (some false) else (spec_SameStore.l0 k 0 x361000 x361001 x361002 x362000 x362001 x362002)
def spec_SameStore.l0 : Nat → Int → List (S53) → List (S57) → ByteArray → List (S53) → List (S57) → ByteArray → Option (Bool)
 | 0, _, _, _, _, _, _, _ => none
 | k + 1, x5, x361000, x361001, x361002, x362000, x362001, x362002 => if x5 < (x361000.length : Int) then (if 0 ≤ x5 then (if x5 < (x362000.length : Int) then (if (!((((rd_T53 x361000 x5).f0).toList) == (((rd_T53 x362000 x5).f0).toList)) || (!((((rd_T53 x361000 x5).f1).toList) == (((rd_T53 x362000 x5).f1).toList)))) = true then (some false) else (spec_SameStore.l0 k (wrap64 (x5 + 1)) x361000 x361001 x361002 x362000 x362001 x362002)) else (none)) else (none)) else (spec_SameStore.l1 k 0 x361000 x361001 x361002 x362000 x362001 x362002)
def spec_SameStore.l1 : Nat → Int → List (S53) → List (S57) → ByteArray → List (S53) → List (S57) → ByteArray → Option (Bool)
 | 0, _, _, _, _, _, _, _ => none
 | k + 1, x6, x361000, x361001, x361002, x362000, x362001, x362002 => if x6 < (x361001.length : Int) then (if 0 ≤ x6 then (if x6 < (x362001.length : Int) then (if (!((((rd_T57 x361001 x6).f0).toList) == (((rd_T57 x362001 x6).f0).toList)) || (!((((rd_T57 x361001 x6).f1).toList) == (((rd_T57 x362001 x6).f1).toList)) || (!((((rd_T57 x361001 x6).f2).toList) == (((rd_T57 x362001 x6).f2).toList))))) = true then (some false) else (spec_SameStore.l1 k (wrap64 (x6 + 1)) x361000 x361001 x361002 x362000 x362001 x362002)) else (none)) else (none)) else (some true)
end
def spec_SameStore.f (k : Nat) (l0_0 : List (S53)) (l0_1 : List (S57)) (a0_2 : ByteArray) (l1_0 : List (S53)) (l1_1 : List (S57)) (a1_2 : ByteArray) : Option (Bool) := if (l0_0.length : Int) = (l1_0.length : Int) then (if (l0_1.length : Int) = (l1_1.length : Int) then (spec_SameStore.j0 k (a0_2.toList != a1_2.toList) l0_0 l0_1 a0_2 l1_0 l1_1 a1_2) else (spec_SameStore.j0 k true l0_0 l0_1 a0_2 l1_0 l1_1 a1_2)) else (spec_SameStore.j0 k true l0_0 l0_1 a0_2 l1_0 l1_1 a1_2)
theorem spec_SameStore.mono_l : ∀ k, (∀ y0 y1 y2 y3 y4 y5 y6, LeO (spec_SameStore.j0 k y0 y1 y2 y3 y4 y5 y6) (spec_SameStore.j0 (k + 1) y0 y1 y2 y3 y4 y5 y6)) ∧ (∀ y0 y1 y2 y3 y4 y5 y6, LeO (spec_SameStore.l0 k y0 y1 y2 y3 y4 y5 y6) (spec_SameStore.l0 (k + 1) y0 y1 y2 y3 y4 y5 y6)) ∧ (∀ y0 y1 y2 y3 y4 y5 y6, LeO (spec_SameStore.l1 k y0 y1 y2 y3 y4 y5 y6) (spec_SameStore.l1 (k + 1) y0 y1 y2 y3 y4 y5 y6))
 | 0 => ⟨fun _ _ _ _ _ _ _ r h => by simp [spec_SameStore.j0] at h, fun _ _ _ _ _ _ _ r h => by simp [spec_SameStore.l0] at h, fun _ _ _ _ _ _ _ r h => by simp [spec_SameStore.l1] at h⟩
 | k + 1 => by
  obtain ⟨ih0, ih1, ih2⟩ := spec_SameStore.mono_l k
  refine ⟨?_, ?_, ?_⟩
  ·intro y0 y1 y2 y3 y4 y5 y6
   unfold spec_SameStore.j0
   repeat' first
   | (with_reducible exact ih0 _ _ _ _ _ _ _)
   | (with_reducible exact ih1 _ _ _ _ _ _ _)
   | (with_reducible exact ih2 _ _ _ _ _ _ _)
   | (with_reducible exact LeO.refl _)
   | (with_reducible exact LeO.none _)
   | (with_reducible refine LeO.ite ?_ ?_)
   | (with_reducible refine LeO.bind ?_ (fun _ => ?_))
   | exact ih0 _ _ _ _ _ _ _
   | exact ih1 _ _ _ _ _ _ _
   | exact ih2 _ _ _ _ _ _ _
   | exact LeO.none _
   | refine LeO.ite ?_ ?_
   | refine LeO.bind ?_ (fun _ => ?_)
  ·intro y0 y1 y2 y3 y4 y5 y6
   unfold spec_SameStore.l0
   repeat' first
   | (with_reducible exact ih0 _ _ _ _ _ _ _)
   | (with_reducible exact ih1 _ _ _ _ _ _ _)
   | (with_reducible exact ih2 _ _ _ _ _ _ _)
   | (with_reducible exact LeO.refl _)
   | (with_reducible exact LeO.none _)
   | (with_reducible refine LeO.ite ?_ ?_)
   | (with_reducible refine LeO.bind ?_ (fun _ => ?_))
   | exact ih0 _ _ _ _ _ _ _
   | exact ih1 _ _ _ _ _ _ _
   | exact ih2 _ _ _ _ _ _ _
   | exact LeO.none _
   | refine LeO.ite ?_ ?_
   | refine LeO.bind ?_ (fun _ => ?_)
  ·intro y0 y1 y2 y3 y4 y5 y6
   unfold spec_SameStore.l1
   repeat' first
   | (with_reducible exact ih0 _ _ _ _ _ _ _)
   | (with_reducible exact ih1 _ _ _ _ _ _ _)
   | (with_reducible exact ih2 _ _ _ _ _ _ _)
   | (with_reducible exact LeO.refl _)
   | (with_reducible exact LeO.none _)
   | (with_reducible refine LeO.ite ?_ ?_)
   | (with_reducible refine LeO.bind ?_ (fun _ => ?_))
   | exact ih0 _ _ _ _ _ _ _
   | exact ih1 _ _ _ _ _ _ _
   | exact ih2 _ _ _ _ _ _ _
   | exact LeO.none _
   | refine LeO.ite ?_ ?_
   | refine LeO.bind ?_ (fun _ => ?_)
theorem spec_SameStore.mono : ∀ a0 a1 a2 a3 a4 a5 k, LeO (spec_SameStore.f k a0 a1 a2 a3 a4 a5) (spec_SameStore.f (k + 1) a0 a1 a2 a3 a4 a5) := by
 intro a0 a1 a2 a3 a4 a5 k
 obtain ⟨ih0, ih1, ih2⟩ := spec_SameStore.mono_l k
 unfold spec_SameStore.f
 repeat' first
   | (with_reducible exact ih0 _ _ _ _ _ _ _)
   | (with_reducible exact ih1 _ _ _ _ _ _ _)
   | (with_reducible exact ih2 _ _ _ _ _ _ _)
   | (with_reducible exact LeO.refl _)
   | (with_reducible exact LeO.none _)
   | (with_reducible refine LeO.ite ?_ ?_)
   | (with_reducible refine LeO.bind ?_ (fun _ => ?_))
   | exact ih0 _ _ _ _ _ _ _
   | exact ih1 _ _ _ _ _ _ _
   | exact ih2 _ _ _ _ _ _ _
   | exact LeO.none _
   | refine LeO.ite ?_ ?_
   | refine LeO.bind ?_ (fun _ => ?_)
set_option maxHeartbeats 8000000 in
set_option maxRecDepth 100000 in
theorem spec_SameStore.calls (k : Nat) (A0_0 : Option Addr) (c0_0 : Nat) (l0_0 : List (S53)) (A0_1 : Option Addr) (c0_1 : Nat) (l0_1 : List (S57)) (a0_2 : ByteArray) (A1_0 : Option Addr) (c1_0 : Nat) (l1_0 : List (S53)) (A1_1 : Option Addr) (c1_1 : Nat) (l1_1 : List (S57)) (a1_2 : ByteArray) (r : Bool) (w : World) (hr0_0 : Kd.C k53 w A0_0 l0_0.length l0_0) (hc0_0 : l0_0.length ≤ c0_0) (hr0_1 : Kd.C k57 w A0_1 l0_1.length l0_1) (hc0_1 : l0_1.length ≤ c0_1) (hr1_0 : Kd.C k53 w A1_0 l1_0.length l1_0) (hc1_0 : l1_0.length ≤ c1_0) (hr1_1 : Kd.C k57 w A1_1 l1_1.length l1_1) (hc1_1 : l1_1.length ≤ c1_1) (h : spec_SameStore.f k l0_0 l0_1 a0_2 l1_0 l1_1 a1_2 = some r) (hr_ : r = true:=by first|rfl|assumption|exact Aside0.out (by assumption)) :
  Calls Try.prog 37 #[.agg #[.slice A0_0 l0_0.length c0_0,.slice A0_1 l0_1.length c0_1,.string a0_2],.agg #[.slice A1_0 l1_0.length c1_0,.slice A1_1 l1_1.length c1_1,.string a1_2]] w fun e w' => e = .returned (.bool r) ∧ Below w.heap.size w w':=by
 have hu38:=Try.underlying38
 have hu53:=Try.underlying53
 have hu57:=Try.underlying57
 have HR0_0:=aM hr0_0
 have HC0_0:=aM hc0_0
 clear hr0_0 hc0_0
 have HR0_1:=aM hr0_1
 have HC0_1:=aM hc0_1
 clear hr0_1 hc0_1
 have HR1_0:=aM hr1_0
 have HC1_0:=aM hc1_0
 clear hr1_0 hc1_0
 have HR1_1:=aM hr1_1
 have HC1_1:=aM hc1_1
 clear hr1_1 hc1_1
 have HB:=aM (Below.refl w.heap.size w)
 have H : (if (l0_0.length : Int) = (l1_0.length : Int) then (if (l0_1.length : Int) = (l1_1.length : Int) then (spec_SameStore.j0 k (a0_2.toList != a1_2.toList) l0_0 l0_1 a0_2 l1_0 l1_1 a1_2) else (spec_SameStore.j0 k true l0_0 l0_1 a0_2 l1_0 l1_1 a1_2)) else (spec_SameStore.j0 k true l0_0 l0_1 a0_2 l1_0 l1_1 a1_2)) = some r:=h
 clear h
 have HR_:=aM hr_
 clear hr_
 have HC3:=aM H
 clear H
 go_enter Try.func37,Try.ntmps37
 go_upto_region 1 with (first|((with_reducible refine gate_dst (N:=2) rfl ?_);(try (refine gate_guard (by rfl) ?_;dsimp only));refine box_event ?hg (N:=2) ?hd (cs:=#[.slice A0_0 l0_0.length c0_0,.slice A0_1 l0_1.length c0_1,.string a0_2]) (t:=38) ?hr ?_;(case hd => rfl);(case hg => rfl);(case hr => first|(go_simp;done)|(go_simp;rfl));intro gb360 hg w4 hbox hb;have n0_:=aM (lQ HB.out hb);have n1_:=aM (hbox);have n2_:=aM ((sQ hg HB.out : w.heap.size ≤ gb360));have n3_:=n2_;clear HB;have HB:=n0_;have BK360:=n1_;have GW360:=n2_;have GE360:=n3_;clear n0_ n1_ n2_ n3_ hb hbox hg)|((with_reducible refine gate_dst (N:=3) rfl ?_);(try (refine gate_guard (by rfl) ?_;dsimp only));refine box_event ?hg (N:=3) ?hd (cs:=#[.slice A1_0 l1_0.length c1_0,.slice A1_1 l1_1.length c1_1,.string a1_2]) (t:=38) ?hr ?_;(case hd => rfl);(case hg => rfl);(case hr => first|(go_simp;done)|(go_simp;rfl));intro gb361 hg w5 hbox hb;have n0_:=aM (bH BK360.out hb);have n1_:=aM (lQ HB.out hb);have n2_:=aM (hbox);have n3_:=aM ((sQ hg HB.out : w.heap.size ≤ gb361));have n4_:=n3_;have n5_:=aM ((nL hg BK360.out : gb360 ≠ gb361));have n6_:=aM ((nG hg BK360.out : gb361 ≠ gb360));clear BK360 HB;have BK360:=n0_;have HB:=n1_;have BK361:=n2_;have GW361:=n3_;have GE361:=n4_;have NB360_361:=n5_;have NB361_360:=n6_;clear n0_ n1_ n2_ n3_ n4_ n5_ n6_ hb hbox hg))
 repeat (go_quiet (first|((with_reducible refine gate_dst (N:=2) rfl ?_);(try (refine gate_guard (by rfl) ?_;dsimp only));refine box_event ?hg (N:=2) ?hd (cs:=#[.slice A0_0 l0_0.length c0_0,.slice A0_1 l0_1.length c0_1,.string a0_2]) (t:=38) ?hr ?_;(case hd => rfl);(case hg => rfl);(case hr => first|(go_simp;done)|(go_simp;rfl));intro gb360 hg w4 hbox hb;have n0_:=aM (lQ HB.out hb);have n1_:=aM (hbox);have n2_:=aM ((sQ hg HB.out : w.heap.size ≤ gb360));have n3_:=n2_;clear HB;have HB:=n0_;have BK360:=n1_;have GW360:=n2_;have GE360:=n3_;clear n0_ n1_ n2_ n3_ hb hbox hg)|((with_reducible refine gate_dst (N:=3) rfl ?_);(try (refine gate_guard (by rfl) ?_;dsimp only));refine box_event ?hg (N:=3) ?hd (cs:=#[.slice A1_0 l1_0.length c1_0,.slice A1_1 l1_1.length c1_1,.string a1_2]) (t:=38) ?hr ?_;(case hd => rfl);(case hg => rfl);(case hr => first|(go_simp;done)|(go_simp;rfl));intro gb361 hg w5 hbox hb;have n0_:=aM (bH BK360.out hb);have n1_:=aM (lQ HB.out hb);have n2_:=aM (hbox);have n3_:=aM ((sQ hg HB.out : w.heap.size ≤ gb361));have n4_:=n3_;have n5_:=aM ((nL hg BK360.out : gb360 ≠ gb361));have n6_:=aM ((nG hg BK360.out : gb361 ≠ gb360));clear BK360 HB;have BK360:=n0_;have HB:=n1_;have BK361:=n2_;have GW361:=n3_;have GE361:=n4_;have NB360_361:=n5_;have NB361_360:=n6_;clear n0_ n1_ n2_ n3_ n4_ n5_ n6_ hb hbox hg));go_upto_region 1 with (first|((with_reducible refine gate_dst (N:=2) rfl ?_);(try (refine gate_guard (by rfl) ?_;dsimp only));refine box_event ?hg (N:=2) ?hd (cs:=#[.slice A0_0 l0_0.length c0_0,.slice A0_1 l0_1.length c0_1,.string a0_2]) (t:=38) ?hr ?_;(case hd => rfl);(case hg => rfl);(case hr => first|(go_simp;done)|(go_simp;rfl));intro gb360 hg w4 hbox hb;have n0_:=aM (lQ HB.out hb);have n1_:=aM (hbox);have n2_:=aM ((sQ hg HB.out : w.heap.size ≤ gb360));have n3_:=n2_;clear HB;have HB:=n0_;have BK360:=n1_;have GW360:=n2_;have GE360:=n3_;clear n0_ n1_ n2_ n3_ hb hbox hg)|((with_reducible refine gate_dst (N:=3) rfl ?_);(try (refine gate_guard (by rfl) ?_;dsimp only));refine box_event ?hg (N:=3) ?hd (cs:=#[.slice A1_0 l1_0.length c1_0,.slice A1_1 l1_1.length c1_1,.string a1_2]) (t:=38) ?hr ?_;(case hd => rfl);(case hg => rfl);(case hr => first|(go_simp;done)|(go_simp;rfl));intro gb361 hg w5 hbox hb;have n0_:=aM (bH BK360.out hb);have n1_:=aM (lQ HB.out hb);have n2_:=aM (hbox);have n3_:=aM ((sQ hg HB.out : w.heap.size ≤ gb361));have n4_:=n3_;have n5_:=aM ((nL hg BK360.out : gb360 ≠ gb361));have n6_:=aM ((nG hg BK360.out : gb361 ≠ gb360));clear BK360 HB;have BK360:=n0_;have HB:=n1_;have BK361:=n2_;have GW361:=n3_;have GE361:=n4_;have NB360_361:=n5_;have NB361_360:=n6_;clear n0_ n1_ n2_ n3_ n4_ n5_ n6_ hb hbox hg)))
 (try simp only [Act.put,q_ia9,q_cz9,q_cs9])
 go_cut [29] (fun v29 wc => ∃ (kq : Nat) (x29_2 : Bool),v29 = .bool x29_2 ∧ Aside0 (spec_SameStore.j0 kq x29_2 l0_0 l0_1 a0_2 l1_0 l1_1 a1_2 = some r) ∧ Aside0 (kq ≤ k) ∧ Aside0 (wc.heap[gb360]? = some (.cells #[(.slice A0_0 l0_0.length c0_0),(.slice A0_1 l0_1.length c0_1),.string a0_2] 38 (0,0))) ∧ Aside0 (wc.heap[gb361]? = some (.cells #[(.slice A1_0 l1_0.length c1_0),(.slice A1_1 l1_1.length c1_1),.string a1_2] 38 (0,0))) ∧ Aside0 (Below w.heap.size w wc))
 case first =>
  have H:=HC3.out
  clear HC3
  by_cases c6 : (l0_0.length : Int) = (l1_0.length : Int)
  ·rw [if_pos c6] at H
   have c6b0 : ((l0_0.length : Int) == (l1_0.length : Int)) = true:=beq_iff_eq.mpr c6
   have c6b1 : ((l0_0.length : Int) != (l1_0.length : Int)) = false:=bne_eq_false_iff_eq.mpr c6
   have c6b2 : (l0_0.length == l1_0.length) = true:=by first|simpa using c6|(simp at c6 ⊢;omega)
   clear c6
   (first|rw [c6b0]|(simp only [i64_w,i32_w];rw [c6b0])|skip)
   by_cases c7 : (l0_1.length : Int) = (l1_1.length : Int)
   ·rw [if_pos c7] at H
    have c7b0 : ((l0_1.length : Int) == (l1_1.length : Int)) = true:=beq_iff_eq.mpr c7
    have c7b1 : ((l0_1.length : Int) != (l1_1.length : Int)) = false:=bne_eq_false_iff_eq.mpr c7
    have c7b2 : (l0_1.length == l1_1.length) = true:=by first|simpa using c7|(simp at c7 ⊢;omega)
    clear c7
    have H':=aM H
    clear H
    have hnb8:=NB360_361.out
    have hnc8:=NB361_360.out
    obtain ⟨⟨hcz9_0,hcz9_1,hcz9_2⟩,hfz9_0,hfz9_1,hfz9_2⟩:=bC3 BK360.out
    obtain ⟨⟨hcz10_0,hcz10_1,hcz10_2⟩,hfz10_0,hfz10_1,hfz10_2⟩:=bC3 BK361.out
    go_wp2
    repeat (go_quiet (fail);try go_wp2)
    go_meet
    case rel => exact ⟨_,((a0_2.toList != a1_2.toList)),(by first|rfl|(simp;done)|(simp [*];done)),H',⟨by first|omega|exact Nat.le_refl _⟩,⟨by (with_reducible repeat (first|refine bN ?_ _|refine bD ?_|refine bA ?_ _));exact BK360.out⟩,⟨by (with_reducible repeat (first|refine bN ?_ _|refine bD ?_|refine bA ?_ _));exact BK361.out⟩,⟨by repeat (first|(with_reducible first|exact HB.out|apply lA|apply lN|apply lD|refine lS ?_ GE360.out|refine lS ?_ GE361.out)|exact HB.out)⟩⟩
   ·rw [if_neg c7] at H
    have c7b0 : ((l0_1.length : Int) == (l1_1.length : Int)) = false:=beq_eq_false_iff_ne.mpr c7
    have c7b1 : ((l0_1.length : Int) != (l1_1.length : Int)) = true:=bne_iff_ne.mpr c7
    have c7b2 : (l0_1.length == l1_1.length) = false:=by first|simpa using c7|(simp at c7 ⊢;omega)
    have H':=aM H
    clear H
    have hnb11:=NB360_361.out
    have hnc11:=NB361_360.out
    obtain ⟨⟨hcz12_0,hcz12_1,hcz12_2⟩,hfz12_0,hfz12_1,hfz12_2⟩:=bC3 BK360.out
    obtain ⟨⟨hcz13_0,hcz13_1,hcz13_2⟩,hfz13_0,hfz13_1,hfz13_2⟩:=bC3 BK361.out
    go_wp2
    repeat (go_quiet (fail);try go_wp2)
    go_meet
    case rel => exact ⟨_,(true),(by first|rfl|(simp;done)|(simp [*];done)),H',⟨by first|omega|exact Nat.le_refl _⟩,⟨by (with_reducible repeat (first|refine bN ?_ _|refine bD ?_|refine bA ?_ _));exact BK360.out⟩,⟨by (with_reducible repeat (first|refine bN ?_ _|refine bD ?_|refine bA ?_ _));exact BK361.out⟩,⟨by repeat (first|(with_reducible first|exact HB.out|apply lA|apply lN|apply lD|refine lS ?_ GE360.out|refine lS ?_ GE361.out)|exact HB.out)⟩⟩
  ·rw [if_neg c6] at H
   have c6b0 : ((l0_0.length : Int) == (l1_0.length : Int)) = false:=beq_eq_false_iff_ne.mpr c6
   have c6b1 : ((l0_0.length : Int) != (l1_0.length : Int)) = true:=bne_iff_ne.mpr c6
   have c6b2 : (l0_0.length == l1_0.length) = false:=by first|simpa using c6|(simp at c6 ⊢;omega)
   (first|rw [c6b0]|(simp only [i64_w,i32_w];rw [c6b0])|skip)
   have H':=aM H
   clear H
   have hnb14:=NB360_361.out
   have hnc14:=NB361_360.out
   obtain ⟨⟨hcz15_0,hcz15_1,hcz15_2⟩,hfz15_0,hfz15_1,hfz15_2⟩:=bC3 BK360.out
   obtain ⟨⟨hcz16_0,hcz16_1,hcz16_2⟩,hfz16_0,hfz16_1,hfz16_2⟩:=bC3 BK361.out
   go_wp2
   repeat (go_quiet (fail);try go_wp2)
   go_meet
   case rel => exact ⟨_,(true),(by first|rfl|(simp;done)|(simp [*];done)),H',⟨by first|omega|exact Nat.le_refl _⟩,⟨by (with_reducible repeat (first|refine bN ?_ _|refine bD ?_|refine bA ?_ _));exact BK360.out⟩,⟨by (with_reducible repeat (first|refine bN ?_ _|refine bD ?_|refine bA ?_ _));exact BK361.out⟩,⟨by repeat (first|(with_reducible first|exact HB.out|apply lA|apply lN|apply lD|refine lS ?_ GE360.out|refine lS ?_ GE361.out)|exact HB.out)⟩⟩
 case rest =>
  clear HC3
  try clear c1
  try clear p2
  try clear c3
  try clear c6
  try clear c6b0
  try clear c6b1
  try clear c6b2
  try clear c7
  try clear c7b0
  try clear c7b1
  try clear c7b2
  try clear c8
  try clear c11
  try clear c14
  try clear hcz10_0
  try clear hcz10_1
  try clear hcz10_2
  try clear hcz12_0
  try clear hcz12_1
  try clear hcz12_2
  try clear hcz13_0
  try clear hcz13_1
  try clear hcz13_2
  try clear hcz15_0
  try clear hcz15_1
  try clear hcz15_2
  try clear hcz16_0
  try clear hcz16_1
  try clear hcz16_2
  try clear hcz9_0
  try clear hcz9_1
  try clear hcz9_2
  obtain ⟨kq,x29_2,rfl,HA,HJ2,BK360,BK361,HB⟩:=hcut
  cases kq with
  |zero => exact absurd HA.out (by simp [spec_SameStore.j0])
  |succ kj2 =>
   have H:=HA.out
   clear HA
   simp only [spec_SameStore.j0] at H
   by_cases c17 : x29_2 = true
   ·subst c17
    have H1 : (some false) = some r:=by rw [if_pos rfl] at H;exact H
    clear H
    have H:=H1
    clear H1
    exact absurd (HR_.out.symm.trans (Option.some.inj H).symm) (by decide)
   ·replace c17:=Bool.eq_false_iff.mpr c17
    subst c17
    have H1 : (spec_SameStore.l0 kj2 0 l0_0 l0_1 a0_2 l1_0 l1_1 a1_2) = some r:=by rw [if_neg (show ¬ (false = true) by decide)] at H;exact H
    clear H
    have H:=H1
    clear H1
    have H':=aM H
    clear H
    go_wp2
    repeat (go_quiet (fail);try go_wp2)
    go_loopg [5] kj2 (fun kq v5 w' => ∃ (x5_2 : Int),v5 = .int .i64 x5_2 ∧ Aside0 (spec_SameStore.l0 kq x5_2 l0_0 l0_1 a0_2 l1_0 l1_1 a1_2 = some r) ∧ Aside0 (kq ≤ kj2) ∧ Aside0 (w'.heap[gb360]? = some (.cells #[(.slice A0_0 l0_0.length c0_0),(.slice A0_1 l0_1.length c0_1),.string a0_2] 38 (0,0))) ∧ Aside0 (w'.heap[gb361]? = some (.cells #[(.slice A1_0 l1_0.length c1_0),(.slice A1_1 l1_1.length c1_1),.string a1_2] 38 (0,0))) ∧ Aside0 (Below w.heap.size w w'))
    case atStart => exact ⟨(0),(by first|rfl|(simp;done)|(simp [*];done)),H',⟨Nat.le_refl _⟩,⟨by (with_reducible repeat (first|refine bN ?_ _|refine bD ?_|refine bA ?_ _));exact BK360.out⟩,⟨by (with_reducible repeat (first|refine bN ?_ _|refine bD ?_|refine bA ?_ _));exact BK361.out⟩,⟨by repeat (first|(with_reducible first|exact HB.out|apply lA|apply lN|apply lD|refine lS ?_ GE360.out|refine lS ?_ GE361.out)|exact HB.out)⟩⟩
    case round =>
     clear H'
     try clear c1
     try clear p2
     try clear c3
     try clear c6
     try clear c6b0
     try clear c6b1
     try clear c6b2
     try clear c7
     try clear c7b0
     try clear c7b1
     try clear c7b2
     try clear c8
     try clear c11
     try clear c14
     try clear c17
     try clear hcz10_0
     try clear hcz10_1
     try clear hcz10_2
     try clear hcz12_0
     try clear hcz12_1
     try clear hcz12_2
     try clear hcz13_0
     try clear hcz13_1
     try clear hcz13_2
     try clear hcz15_0
     try clear hcz15_1
     try clear hcz15_2
     try clear hcz16_0
     try clear hcz16_1
     try clear hcz16_2
     try clear hcz9_0
     try clear hcz9_1
     try clear hcz9_2
     try clear p2
     obtain ⟨x5_2,rfl,HA,HK2,BK360,BK361,HB⟩:=hrel
     cases gk with
     |zero => exact absurd HA.out (by simp [spec_SameStore.l0])
     |succ k2 =>
      have H:=HA.out
      clear HA
      simp only [spec_SameStore.l0] at H
      by_cases c18 : x5_2 < (l0_0.length : Int)
      ·rw [if_pos c18] at H
       have c18b0 : decide (x5_2 < (l0_0.length : Int)) = true:=decide_eq_true c18
       clear c18
       by_cases c19 : 0 ≤ x5_2
       ·rw [if_pos c19] at H
        have c19b0 : decide (0 ≤ x5_2) = true:=decide_eq_true c19
        clear c19
        by_cases c20 : x5_2 < (l1_0.length : Int)
        ·rw [if_pos c20] at H
         have c20b0 : decide (x5_2 < (l1_0.length : Int)) = true:=decide_eq_true c20
         clear c20
         by_cases c21 : (!((((rd_T53 l0_0 x5_2).f0).toList) == (((rd_T53 l1_0 x5_2).f0).toList))||(!((((rd_T53 l0_0 x5_2).f1).toList) == (((rd_T53 l1_0 x5_2).f1).toList)))) = true
         ·rw [if_pos c21] at H
          have c21b0 : (!((((rd_T53 l0_0 x5_2).f0).toList) == (((rd_T53 l1_0 x5_2).f0).toList))||(!((((rd_T53 l0_0 x5_2).f1).toList) == (((rd_T53 l1_0 x5_2).f1).toList)))) = true:=c21
          clear c21
          exact absurd (HR_.out.symm.trans (Option.some.inj H).symm) (by decide)
         ·rw [if_neg c21] at H
          have c21b0 : (!((((rd_T53 l0_0 x5_2).f0).toList) == (((rd_T53 l1_0 x5_2).f0).toList))||(!((((rd_T53 l0_0 x5_2).f1).toList) == (((rd_T53 l1_0 x5_2).f1).toList)))) = false:=by simpa using c21
          clear c21
          have H':=aM H
          clear H
          have hnb22:=NB360_361.out
          have hnc22:=NB361_360.out
          obtain ⟨⟨hcz23_0,hcz23_1,hcz23_2⟩,hfz23_0,hfz23_1,hfz23_2⟩:=bC3 BK360.out
          have p362 : 0 ≤ (x5_2 : Int):=of_decide_eq_true (by first|(with_reducible assumption)|assumption)
          have q362 : x5_2 < (l0_0.length : Int):=of_decide_eq_true (by first|(with_reducible assumption)|assumption)
          obtain ⟨ad362,e362,hx362_0,hx362_1⟩:=at_T53 HR0_0.out x5_2 p362 q362
          cases e362
          replace hx362_0:=(HB.out.cell (World.block_lt_of_cell? w _ hx362_0)).trans hx362_0
          replace hx362_1:=(HB.out.cell (World.block_lt_of_cell? w _ hx362_1)).trans hx362_1
          replace p362:=eq_true p362
          replace q362:=eq_true q362
          obtain ⟨⟨hcz24_0,hcz24_1,hcz24_2⟩,hfz24_0,hfz24_1,hfz24_2⟩:=bC3 BK361.out
          have p363 : 0 ≤ (x5_2 : Int):=of_decide_eq_true (by first|(with_reducible assumption)|assumption)
          have q363 : x5_2 < (l1_0.length : Int):=of_decide_eq_true (by first|(with_reducible assumption)|assumption)
          obtain ⟨ad363,e363,hx363_0,hx363_1⟩:=at_T53 HR1_0.out x5_2 p363 q363
          cases e363
          replace hx363_0:=(HB.out.cell (World.block_lt_of_cell? w _ hx363_0)).trans hx363_0
          replace hx363_1:=(HB.out.cell (World.block_lt_of_cell? w _ hx363_1)).trans hx363_1
          replace p363:=eq_true p363
          replace q363:=eq_true q363
          go_wp2
          repeat (go_quiet (fail);try go_wp2)
          go_roundg k2
          case measure => have:=HJ2.out;have:=HK2.out;omega
          case rel => exact ⟨(wrap64 (x5_2 + 1)),(by first|rfl|(simp;done)|(simp [*];done)),H',⟨by have:=HJ2.out;have:=HK2.out;omega⟩,⟨by (with_reducible repeat (first|refine bN ?_ _|refine bD ?_|refine bA ?_ _));exact BK360.out⟩,⟨by (with_reducible repeat (first|refine bN ?_ _|refine bD ?_|refine bA ?_ _));exact BK361.out⟩,⟨by repeat (first|(with_reducible first|exact HB.out|apply lA|apply lN|apply lD|refine lS ?_ GE360.out|refine lS ?_ GE361.out)|exact HB.out)⟩⟩
        ·rw [if_neg c20] at H
         exact absurd H (by simp)
       ·rw [if_neg c19] at H
        exact absurd H (by simp)
      ·rw [if_neg c18] at H
       have c18b0 : decide (x5_2 < (l0_0.length : Int)) = false:=decide_eq_false c18
       clear c18
       have H':=aM H
       clear H
       have hnb25:=NB360_361.out
       have hnc25:=NB361_360.out
       obtain ⟨⟨hcz26_0,hcz26_1,hcz26_2⟩,hfz26_0,hfz26_1,hfz26_2⟩:=bC3 BK360.out
       go_wp2
       repeat (go_quiet (fail);try go_wp2)
       go_loopg [6] k2 (fun kq v6 w' => ∃ (x6_3 : Int),v6 = .int .i64 x6_3 ∧ Aside0 (spec_SameStore.l1 kq x6_3 l0_0 l0_1 a0_2 l1_0 l1_1 a1_2 = some r) ∧ Aside0 (kq ≤ k2) ∧ Aside0 (w'.heap[gb360]? = some (.cells #[(.slice A0_0 l0_0.length c0_0),(.slice A0_1 l0_1.length c0_1),.string a0_2] 38 (0,0))) ∧ Aside0 (w'.heap[gb361]? = some (.cells #[(.slice A1_0 l1_0.length c1_0),(.slice A1_1 l1_1.length c1_1),.string a1_2] 38 (0,0))) ∧ Aside0 (Below w.heap.size w w'))
       case atStart => exact ⟨(0),(by first|rfl|(simp;done)|(simp [*];done)),H',⟨Nat.le_refl _⟩,⟨by (with_reducible repeat (first|refine bN ?_ _|refine bD ?_|refine bA ?_ _));exact BK360.out⟩,⟨by (with_reducible repeat (first|refine bN ?_ _|refine bD ?_|refine bA ?_ _));exact BK361.out⟩,⟨by repeat (first|(with_reducible first|exact HB.out|apply lA|apply lN|apply lD|refine lS ?_ GE360.out|refine lS ?_ GE361.out)|exact HB.out)⟩⟩
       case round =>
        clear H'
        try clear c1
        try clear c2
        try clear p2
        try clear c3
        try clear p3
        try clear q3
        try clear hx3
        try clear c6
        try clear c6b0
        try clear c6b1
        try clear c6b2
        try clear p6
        try clear c7
        try clear c7b0
        try clear c7b1
        try clear c7b2
        try clear c8
        try clear c11
        try clear c14
        try clear c17
        try clear c18
        try clear c18b0
        try clear c19
        try clear c19b0
        try clear c20
        try clear c20b0
        try clear c21
        try clear c21b0
        try clear c22
        try clear c25
        try clear hcz10_0
        try clear hcz10_1
        try clear hcz10_2
        try clear hcz12_0
        try clear hcz12_1
        try clear hcz12_2
        try clear hcz13_0
        try clear hcz13_1
        try clear hcz13_2
        try clear hcz15_0
        try clear hcz15_1
        try clear hcz15_2
        try clear hcz16_0
        try clear hcz16_1
        try clear hcz16_2
        try clear hcz23_0
        try clear hcz23_1
        try clear hcz23_2
        try clear hcz24_0
        try clear hcz24_1
        try clear hcz24_2
        try clear hcz26_0
        try clear hcz26_1
        try clear hcz26_2
        try clear hcz9_0
        try clear hcz9_1
        try clear hcz9_2
        try clear hx362_0
        try clear hx362_1
        try clear hx363_0
        try clear hx363_1
        try clear p2
        try clear p362
        try clear p363
        try clear q362
        try clear q363
        obtain ⟨x6_3,rfl,HA,HK3,BK360,BK361,HB⟩:=hrel
        cases gk with
        |zero => exact absurd HA.out (by simp [spec_SameStore.l1])
        |succ k3 =>
         have H:=HA.out
         clear HA
         simp only [spec_SameStore.l1] at H
         by_cases c27 : x6_3 < (l0_1.length : Int)
         ·rw [if_pos c27] at H
          have c27b0 : decide (x6_3 < (l0_1.length : Int)) = true:=decide_eq_true c27
          clear c27
          by_cases c28 : 0 ≤ x6_3
          ·rw [if_pos c28] at H
           have c28b0 : decide (0 ≤ x6_3) = true:=decide_eq_true c28
           clear c28
           by_cases c29 : x6_3 < (l1_1.length : Int)
           ·rw [if_pos c29] at H
            have c29b0 : decide (x6_3 < (l1_1.length : Int)) = true:=decide_eq_true c29
            clear c29
            by_cases c30 : (!((((rd_T57 l0_1 x6_3).f0).toList) == (((rd_T57 l1_1 x6_3).f0).toList))||(!((((rd_T57 l0_1 x6_3).f1).toList) == (((rd_T57 l1_1 x6_3).f1).toList))||(!((((rd_T57 l0_1 x6_3).f2).toList) == (((rd_T57 l1_1 x6_3).f2).toList))))) = true
            ·rw [if_pos c30] at H
             have c30b0 : (!((((rd_T57 l0_1 x6_3).f0).toList) == (((rd_T57 l1_1 x6_3).f0).toList))||(!((((rd_T57 l0_1 x6_3).f1).toList) == (((rd_T57 l1_1 x6_3).f1).toList))||(!((((rd_T57 l0_1 x6_3).f2).toList) == (((rd_T57 l1_1 x6_3).f2).toList))))) = true:=c30
             clear c30
             exact absurd (HR_.out.symm.trans (Option.some.inj H).symm) (by decide)
            ·rw [if_neg c30] at H
             have c30b0 : (!((((rd_T57 l0_1 x6_3).f0).toList) == (((rd_T57 l1_1 x6_3).f0).toList))||(!((((rd_T57 l0_1 x6_3).f1).toList) == (((rd_T57 l1_1 x6_3).f1).toList))||(!((((rd_T57 l0_1 x6_3).f2).toList) == (((rd_T57 l1_1 x6_3).f2).toList))))) = false:=by simpa using c30
             clear c30
             have H':=aM H
             clear H
             have hnb31:=NB360_361.out
             have hnc31:=NB361_360.out
             obtain ⟨⟨hcz32_0,hcz32_1,hcz32_2⟩,hfz32_0,hfz32_1,hfz32_2⟩:=bC3 BK360.out
             have p364 : 0 ≤ (x6_3 : Int):=of_decide_eq_true (by first|(with_reducible assumption)|assumption)
             have q364 : x6_3 < (l0_1.length : Int):=of_decide_eq_true (by first|(with_reducible assumption)|assumption)
             obtain ⟨ad364,e364,hx364_0,hx364_1,hx364_2⟩:=at_T57 HR0_1.out x6_3 p364 q364
             cases e364
             replace hx364_0:=(HB.out.cell (World.block_lt_of_cell? w _ hx364_0)).trans hx364_0
             replace hx364_1:=(HB.out.cell (World.block_lt_of_cell? w _ hx364_1)).trans hx364_1
             replace hx364_2:=(HB.out.cell (World.block_lt_of_cell? w _ hx364_2)).trans hx364_2
             replace p364:=eq_true p364
             replace q364:=eq_true q364
             obtain ⟨⟨hcz33_0,hcz33_1,hcz33_2⟩,hfz33_0,hfz33_1,hfz33_2⟩:=bC3 BK361.out
             have p365 : 0 ≤ (x6_3 : Int):=of_decide_eq_true (by first|(with_reducible assumption)|assumption)
             have q365 : x6_3 < (l1_1.length : Int):=of_decide_eq_true (by first|(with_reducible assumption)|assumption)
             obtain ⟨ad365,e365,hx365_0,hx365_1,hx365_2⟩:=at_T57 HR1_1.out x6_3 p365 q365
             cases e365
             replace hx365_0:=(HB.out.cell (World.block_lt_of_cell? w _ hx365_0)).trans hx365_0
             replace hx365_1:=(HB.out.cell (World.block_lt_of_cell? w _ hx365_1)).trans hx365_1
             replace hx365_2:=(HB.out.cell (World.block_lt_of_cell? w _ hx365_2)).trans hx365_2
             replace p365:=eq_true p365
             replace q365:=eq_true q365
             go_wp2
             repeat (go_quiet (fail);try go_wp2)
             go_roundg k3
             case measure => have:=HJ2.out;have:=HK2.out;have:=HK3.out;omega
             case rel => exact ⟨(wrap64 (x6_3 + 1)),(by first|rfl|(simp;done)|(simp [*];done)),H',⟨by have:=HJ2.out;have:=HK2.out;have:=HK3.out;omega⟩,⟨by (with_reducible repeat (first|refine bN ?_ _|refine bD ?_|refine bA ?_ _));exact BK360.out⟩,⟨by (with_reducible repeat (first|refine bN ?_ _|refine bD ?_|refine bA ?_ _));exact BK361.out⟩,⟨by repeat (first|(with_reducible first|exact HB.out|apply lA|apply lN|apply lD|refine lS ?_ GE360.out|refine lS ?_ GE361.out)|exact HB.out)⟩⟩
           ·rw [if_neg c29] at H
            exact absurd H (by simp)
          ·rw [if_neg c28] at H
           exact absurd H (by simp)
         ·rw [if_neg c27] at H
          have c27b0 : decide (x6_3 < (l0_1.length : Int)) = false:=decide_eq_false c27
          clear c27
          obtain rfl:=Option.some.inj H
          have hnb34:=NB360_361.out
          have hnc34:=NB361_360.out
          obtain ⟨⟨hcz35_0,hcz35_1,hcz35_2⟩,hfz35_0,hfz35_1,hfz35_2⟩:=bC3 BK360.out
          go_wp2
          repeat (go_quiet (fail);try go_wp2)
          go_ret
          exact ⟨by first|rfl|(simp [errW_none,errW_some] <;> rfl)|(simp [*,errW_none,errW_some] <;> rfl),by repeat (first|(with_reducible first|exact HB.out|apply lA|apply lN|apply lD|refine lS ?_ GE360.out|refine lS ?_ GE361.out)|exact HB.out)⟩

end Go.Proofs.Ytodpkfidkilpdaa.QFnCells
