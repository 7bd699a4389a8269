-- A text of this session, made by wip/own_print.py (the kit's print with additions of ours).
import Derived.Test.YtekngkljphlliaaQFnSaysx0
import Derived.Test.YtekngkljphlliaaQFnSaysx4
import Derived.Test.YtekngkljphlliaaQFnSaysx7
namespace Go.Proofs.Ytekngkljphlliaa.QFnSays
open Go.RowKit Go.Proofs.YtekngkljphlliaaW.PrintWords Go.Proofs.YtekngkljphlliaaW.PrintLast Go.Proofs.YtekngkljphlliaaW.PrintMore
attribute [local go_sem] max2_int min2_int max_two min_two max_three min_three max_four min_four   -- for this text's walks alone
set_option linter.unusedVariables false
set_option linter.unusedSimpArgs false
open Bool renaming true → bT, false → bf
open Go.Proofs.YtekngkljphlliaaW.PrintWords.Kd renaming R_alloc → rA, R_drewN → rN, R_drew → rD, C_alloc → cA, C_drewN → cN, C_drew → cD, R_far → rF, R_below → rB, R_lower → rL, R_lt → rT, R_base → rS, C_below → cB, R_types → rY, R_elder' → rE, R_reads' → rR, R_new' → rW
open Go.Proofs.YtekngkljphlliaaW.PrintWords renaming blk_drewN → bN, blk_drew → bD, blk_alloc → bA, below_set → lS, pw_below_drewN → lN, below_drew1 → lD, below_alloc → lA, blk_cell → bC, blk_below → bB, below_size → lZ, below_step → lP, blk_lt → bL, blk_frozen → bF
open Go.Proofs.YtekngkljphlliaaW.PrintWords.Aside0 renaming mk → aM
theorem q_ia10 {α : Type} (l : List α) (i : Nat) (a : α) : l.toArray.setIfInBounds i a = (l.set i a).toArray := List.setIfInBounds_toArray ..
theorem q_cz10 {α : Type} (a b : α) (l : List α) : (a :: l).set 0 b = b :: l := rfl
theorem q_cs10 {α : Type} (a b : α) (l : List α) (n : Nat) : (a :: l).set (n + 1) b = a :: l.set n b := rfl

/-! ### spec_Dump: function 20 -/
def spec_Dump.l0 : Nat → ByteArray → Int → List (S59) → List (S39) → ByteArray → List (S59) → List (S39) → ByteArray → Option ((List (S59)) × (List (S39)) × ByteArray)
 | 0, _, _, _, _, _, _, _, _ => none
 | k + 1, x1, x6, x388000, x388001, x388002, x397000, x397001, x397002 => if x6 < (x388001.length : Int) then (if 0 ≤ x6 then (if ((rd_T39 x388001 x6).f0).toList = x1.toList then (if x397002.size + ((rd_T39 x388001 x6).f1).size ≤ 9223372036854775807 then (if (x397002 ++ ((rd_T39 x388001 x6).f1)).size + 1 ≤ 9223372036854775807 then (if ((x397002 ++ ((rd_T39 x388001 x6).f1)) ++ (⟨#[32]⟩ : ByteArray)).size + ((rd_T39 x388001 x6).f2).size ≤ 9223372036854775807 then (if (((x397002 ++ ((rd_T39 x388001 x6).f1)) ++ (⟨#[32]⟩ : ByteArray)) ++ ((rd_T39 x388001 x6).f2)).size + 1 ≤ 9223372036854775807 then ((spec_l08Out.f ((((x397002 ++ ((rd_T39 x388001 x6).f1)) ++ (⟨#[32]⟩ : ByteArray)) ++ ((rd_T39 x388001 x6).f2)) ++ (⟨#[10]⟩ : ByteArray))).bind fun t400 => (spec_Dump.l0 k x1 (wrap64 (x6 + 1)) x388000 x388001 x388002 x397000 x397001 t400)) else (none)) else (none)) else (none)) else (none)) else (spec_Dump.l0 k x1 (wrap64 (x6 + 1)) x388000 x388001 x388002 x397000 x397001 x397002)) else (none)) else (some (x397000, x397001, x397002))
def spec_Dump.f (k : Nat) (l0_0 : List (S59)) (l0_1 : List (S39)) (a0_2 : ByteArray) (a1 : ByteArray) : Option ((List (S59)) × (List (S39)) × ByteArray) := (spec_l08Copy.f l0_0 l0_1 a0_2).bind fun bt389 => (spec_Dump.l0 k a1 0 l0_0 l0_1 a0_2 bt389.1 bt389.2.1 bt389.2.2)
theorem spec_Dump.mono_l : ∀ k, (∀ y0 y1 y2 y3 y4 y5 y6 y7, LeO (spec_Dump.l0 k y0 y1 y2 y3 y4 y5 y6 y7) (spec_Dump.l0 (k + 1) y0 y1 y2 y3 y4 y5 y6 y7))
 | 0 => fun _ _ _ _ _ _ _ _ r h => by simp [spec_Dump.l0] at h
 | k + 1 => by
  have ih0 := spec_Dump.mono_l k
  ·intro y0 y1 y2 y3 y4 y5 y6 y7
   unfold spec_Dump.l0
   repeat' first
   | (with_reducible exact ih0 _ _ _ _ _ _ _ _)
   | (with_reducible exact LeO.refl _)
   | (with_reducible exact LeO.none _)
   | (with_reducible refine LeO.ite ?_ ?_)
   | (with_reducible refine LeO.bind ?_ (fun _ => ?_))
   | exact ih0 _ _ _ _ _ _ _ _
   | exact LeO.none _
   | refine LeO.ite ?_ ?_
   | refine LeO.bind ?_ (fun _ => ?_)
theorem spec_Dump.mono : ∀ a0 a1 a2 a3 k, LeO (spec_Dump.f k a0 a1 a2 a3) (spec_Dump.f (k + 1) a0 a1 a2 a3) := by
 intro a0 a1 a2 a3 k
 have ih0 := spec_Dump.mono_l k
 unfold spec_Dump.f
 repeat' first
   | (with_reducible exact ih0 _ _ _ _ _ _ _ _)
   | (with_reducible exact LeO.refl _)
   | (with_reducible exact LeO.none _)
   | (with_reducible refine LeO.ite ?_ ?_)
   | (with_reducible refine LeO.bind ?_ (fun _ => ?_))
   | exact ih0 _ _ _ _ _ _ _ _
   | exact LeO.none _
   | refine LeO.ite ?_ ?_
   | refine LeO.bind ?_ (fun _ => ?_)
def spec_Dump.T6 : Bool × List (List Nat × List Nat) := (true, [([], []), ([0], [0]), ([], []), ([2], [2]), ([], []), ([3, 4], [3, 4]), ([5], [5]), ([6], [6]), ([1, 7], [1, 7]), ([8], [8]), ([], []), ([10], [10]), ([], []), ([11, 12], [11, 12]), ([13], [13]), ([14], [14]), ([9, 15], [9, 15]), ([16], [16]), ([17], [17]), ([0, 1, 2, 3, 4, 5, 6, 7, 8, 9, 10, 11, 12, 13, 14, 15, 16, 17, 18], []), ([19, 18, 18, 0, 1, 2, 3, 4, 5, 6, 7, 8, 9, 10, 11, 12, 13, 14, 15, 16, 17, 18], [18, 19])])
def spec_Dump.B6 : List Nat := [0, 1, 0, 4, 0, 28, 60, 124, 255, 511, 0, 1024, 0, 7168, 15360, 31744, 65535, 131071, 262143, 524287, 1048575]
theorem spec_Dump.tab6 : rtab .any (opsOf Try.f20 6) = spec_Dump.T6 := by kernel_rfl
theorem spec_Dump.bits6 : waitsOk spec_Dump.T6.2 spec_Dump.B6 = true := by kernel_rfl
set_option maxHeartbeats 8000000 in
set_option maxRecDepth 100000 in
theorem spec_Dump.calls (k : Nat) (A0_0 : Option Addr) (c0_0 : Nat) (l0_0 : List (S59)) (A0_1 : Option Addr) (c0_1 : Nat) (l0_1 : List (S39)) (a0_2 : ByteArray) (a1 : ByteArray) (r1 : List (S59)) (r2 : List (S39)) (r3 : ByteArray) (w : World) (hr0_0 : Kd.C k59 w A0_0 l0_0.length l0_0) (hc0_0 : l0_0.length ≤ c0_0) (hr0_1 : Kd.C k39 w A0_1 l0_1.length l0_1) (hc0_1 : l0_1.length ≤ c0_1) (h : spec_Dump.f k l0_0 l0_1 a0_2 a1 = some (r1,r2,r3)) :
  Calls Try.prog 20 #[.agg #[.slice A0_0 l0_0.length c0_0,.slice A0_1 l0_1.length c0_1,.string a0_2],.string a1] w fun e w' => ∃ v0_ v1_ : Value,e = .returned (.agg #[v0_,v1_,.string r3]) ∧ Kd.R k59 59 w' w.heap.size (fun _ => True) v0_ r1 ∧ Kd.R k39 39 w' w.heap.size (fun _ => True) v1_ r2 ∧ Below w.heap.size w w':=by
 have hu35:=Try.underlying35
 have HR0_0:=aM hr0_0
 have HC0_0:=aM hc0_0
 clear hr0_0 hc0_0
 have HR0_1:=aM hr0_1
 have HC0_1:=aM hc0_1
 clear hr0_1 hc0_1
 have HB:=aM (Below.refl w.heap.size w)
 have H : ((spec_l08Copy.f l0_0 l0_1 a0_2).bind fun bt389 => (spec_Dump.l0 k a1 0 l0_0 l0_1 a0_2 bt389.1 bt389.2.1 bt389.2.2)) = some (r1,r2,r3):=h
 clear h
 replace H:=Option.bind_eq_some_iff.mp H
 obtain ⟨⟨t389,t392,t395⟩,A30,H⟩:=H
 replace H : (spec_Dump.l0 k a1 0 l0_0 l0_1 a0_2 t389 t392 t395) = some (r1,r2,r3):=H
 have A3:=aM A30
 clear A30
 have H':=aM H
 clear H
 go_enter Try.func20,Try.ntmps20
 go_wp2_with (first|((with_reducible refine gate_dst (N:=2) rfl ?_);refine box_event ?hg (N:=2) ?hd (cs:=#[.slice A0_0 l0_0.length c0_0,.slice A0_1 l0_1.length c0_1,.string a0_2]) (t:=35) ?hr ?_;(case hd => rfl);(case hg => rfl);(case hr => first|(go_simp;done)|(go_simp;rfl));intro gb387 hg w4 hbox hb;have n0_:=aM (lQ HB.out hb);have n1_:=aM (hbox);have n2_:=aM ((sQ hg HB.out : w.heap.size ≤ gb387));have n3_:=n2_;clear HB;have HB:=n0_;have BK387:=n1_;have GW387:=n2_;have GE387:=n3_;clear n0_ n1_ n2_ n3_ hb hbox hg)|((with_reducible refine gate_dst (N:=4) rfl ?_);refine box_event ?hg (N:=4) ?hd (cs:=#[.slice none 0 0,.slice none 0 0,.string (⟨#[]⟩ : ByteArray)]) (t:=35) ?hr ?_;(case hd => rfl);(case hg => rfl);(case hr => first|(go_simp;done)|(go_simp;rfl));intro gb388 hg w5 hbox hb;have n0_:=aM (bH BK387.out hb);have n1_:=aM (lQ HB.out hb);have n2_:=aM (hbox);have n3_:=aM ((sQ hg HB.out : w.heap.size ≤ gb388));have n4_:=n3_;have n5_:=aM ((nL hg BK387.out : gb387 ≠ gb388));have n6_:=aM ((nG hg BK387.out : gb388 ≠ gb387));clear BK387 HB;have BK387:=n0_;have HB:=n1_;have BK388:=n2_;have GW388:=n3_;have GE388:=n4_;have NB387_388:=n5_;have NB388_387:=n6_;clear n0_ n1_ n2_ n3_ n4_ n5_ n6_ hb hbox hg;have hnb6:=NB387_388.out;have hnc6:=NB388_387.out;obtain ⟨⟨hcz7_0,hcz7_1,hcz7_2⟩,hfz7_0,hfz7_1,hfz7_2⟩:=bC3 BK387.out)|((with_reducible refine gate_callee (f:=35) rfl ?_);refine goesL_ (some 8) rfl rfl Try.func35 (by kernel_rfl) rfl #[.agg #[.slice A0_0 l0_0.length c0_0,.slice A0_1 l0_1.length c0_1,.string a0_2]] rfl (by (try simp only [List.map_toArray,List.map_cons,List.map_nil]);first|done|rfl|(simp only [List.length_drop,List.length_take];rfl)) ?_;(with_reducible refine (spec_l08Copy.calls _ _ l0_0 _ _ l0_1 a0_2 t389 t392 t395 _ ?side1 ?side2 ?side3 ?side4 A3.out).mono ?_);(case side1 => repeat (first|exact (cB HR0_0.out HB.out)|(with_reducible first|refine cA ?_ _|refine cN ?_ _|refine cD ?_)));(case side2 => exact HC0_0.out);(case side3 => repeat (first|exact (cB HR0_1.out HB.out)|(with_reducible first|refine cA ?_ _|refine cN ?_ _|refine cD ?_)));(case side4 => exact HC0_1.out);rintro e w8 ⟨v390,v393,rfl,ho0,ho1,hb⟩;refine ⟨_,rfl,?_⟩;have n0_:=aM (rL ho0 (lZ (by repeat (first|(with_reducible first|exact HB.out|apply lA|apply lN|apply lD|refine lS ?_ GE387.out|refine lS ?_ GE388.out)|exact HB.out))));have n1_:=aM (rL ho1 (lZ (by repeat (first|(with_reducible first|exact HB.out|apply lA|apply lN|apply lD|refine lS ?_ GE387.out|refine lS ?_ GE388.out)|exact HB.out))));have n2_:=aM (bH BK387.out hb);have n3_:=aM (bH BK388.out hb);have n4_:=aM (lQ HB.out hb);clear BK387 BK388 HB;have HO391:=n0_;have HO394:=n1_;have BK387:=n2_;have BK388:=n3_;have HB:=n4_;clear n0_ n1_ n2_ n3_ n4_;(try clear hb);(try clear hb2);(try clear hk);(try clear hi);(try clear ho0);(try clear ho1))|((with_reducible refine gate_dst (N:=5) rfl ?_);refine box_event ?hg (N:=5) ?hd (cs:=#[.slice none 0 0,.slice none 0 0,.string (⟨#[]⟩ : ByteArray)]) (t:=35) ?hr ?_;(case hd => rfl);(case hg => rfl);(case hr => first|(go_simp;done)|(go_simp;rfl));intro gb396 hg w9 hbox hb;have n0_:=aM (rH HO391.out hb);have n1_:=aM (rH HO394.out hb);have n2_:=aM (bH BK387.out hb);have n3_:=aM (bH BK388.out hb);have n4_:=aM (lQ HB.out hb);have n5_:=aM (hbox);have n6_:=aM ((sQ hg HB.out : w.heap.size ≤ gb396));have n7_:=n6_;have n8_:=aM ((nL hg BK387.out : gb387 ≠ gb396));have n9_:=aM ((nG hg BK387.out : gb396 ≠ gb387));have n10_:=aM ((nL hg BK388.out : gb388 ≠ gb396));have n11_:=aM ((nG hg BK388.out : gb396 ≠ gb388));clear HO391 HO394 BK387 BK388 HB;have HO391:=n0_;have HO394:=n1_;have BK387:=n2_;have BK388:=n3_;have HB:=n4_;have BK396:=n5_;have GW396:=n6_;have GE396:=n7_;have NB387_396:=n8_;have NB396_387:=n9_;have NB388_396:=n10_;have NB396_388:=n11_;clear n0_ n1_ n2_ n3_ n4_ n5_ n6_ n7_ n8_ n9_ n10_ n11_ hb hbox hg;obtain ⟨Ao10,co10,eo10⟩:=Kd.R_slice HO391.out;subst eo10;have hnb11:=NB396_387.out;have hnc11:=NB387_396.out;have hnb12:=NB396_388.out;have hnc12:=NB388_396.out;obtain ⟨⟨hcz13_0,hcz13_1,hcz13_2⟩,hfz13_0,hfz13_1,hfz13_2⟩:=bC3 BK396.out;obtain ⟨Ao14,co14,eo14⟩:=Kd.R_slice HO394.out;subst eo14))
 go_loopg [6] k (fun kq v6 w' => ∃ (x6_1 : Int) (x397002_1 : ByteArray),v6 = .int .i64 x6_1 ∧ Aside0 (spec_Dump.l0 kq a1 x6_1 l0_0 l0_1 a0_2 t389 t392 x397002_1 = some (r1,r2,r3)) ∧ Aside0 (kq ≤ k) ∧ Aside0 (Kd.R k59 59 w' w.heap.size (fun _ => True) (.slice Ao10 t389.length co10) t389) ∧ Aside0 (Kd.R k39 39 w' w.heap.size (fun _ => True) (.slice Ao14 t392.length co14) t392) ∧ Aside0 (w'.heap[gb387]? = some (.cells #[(.slice A0_0 l0_0.length c0_0),(.slice A0_1 l0_1.length c0_1),.string a0_2] 35 (0,0))) ∧ Aside0 (w'.heap[gb388]? = some (.cells #[(.slice none 0 0),(.slice none 0 0),.string (⟨#[]⟩ : ByteArray)] 35 (0,0))) ∧ Aside0 (w'.heap[gb396]? = some (.cells #[(.slice Ao10 t389.length co10),(.slice Ao14 t392.length co14),.string x397002_1] 35 (0,0))) ∧ Aside0 (Below w.heap.size w w'))
 case atStart => exact ⟨(0),(t395),(by first|rfl|(simp;done)|(simp [*];done)),H',⟨Nat.le_refl _⟩,⟨by (with_reducible repeat (first|apply rA|apply rN|apply rD));exact Kd.R_mono (rF (rF (rF (rY HO391.out BK396.out (by decide)) (fun _ hk => hk.2) _) (fun _ hk => hk.2) _) (fun _ hk => hk.2) _) (fun _ hk => trivial)⟩,⟨by (with_reducible repeat (first|apply rA|apply rN|apply rD));exact Kd.R_mono (rF (rF (rF (rY HO394.out BK396.out (by decide)) (fun _ hk => hk.2) _) (fun _ hk => hk.2) _) (fun _ hk => hk.2) _) (fun _ hk => trivial)⟩,⟨by (with_reducible repeat (first|refine bN ?_ _|refine bD ?_|refine bA ?_ _));refine blk_far ?_ NB387_396.out _;(with_reducible repeat (first|refine bN ?_ _|refine bD ?_|refine bA ?_ _));refine blk_far ?_ NB387_396.out _;(with_reducible repeat (first|refine bN ?_ _|refine bD ?_|refine bA ?_ _));refine blk_far ?_ NB387_396.out _;(with_reducible repeat (first|refine bN ?_ _|refine bD ?_|refine bA ?_ _));exact BK387.out⟩,⟨by (with_reducible repeat (first|refine bN ?_ _|refine bD ?_|refine bA ?_ _));refine blk_far ?_ NB388_396.out _;(with_reducible repeat (first|refine bN ?_ _|refine bD ?_|refine bA ?_ _));refine blk_far ?_ NB388_396.out _;(with_reducible repeat (first|refine bN ?_ _|refine bD ?_|refine bA ?_ _));refine blk_far ?_ NB388_396.out _;(with_reducible repeat (first|refine bN ?_ _|refine bD ?_|refine bA ?_ _));exact BK388.out⟩,⟨by (with_reducible repeat (first|refine bN ?_ _|refine bD ?_|refine bA ?_ _));refine blk_put (cs:=#[.slice Ao10 t389.length co10,.slice Ao14 t392.length co14,.string (⟨#[]⟩ : ByteArray)]) ?_ 2 _ rfl;(with_reducible repeat (first|refine bN ?_ _|refine bD ?_|refine bA ?_ _));refine blk_put (cs:=#[.slice Ao10 t389.length co10,.slice none 0 0,.string (⟨#[]⟩ : ByteArray)]) ?_ 1 _ rfl;(with_reducible repeat (first|refine bN ?_ _|refine bD ?_|refine bA ?_ _));refine blk_put (cs:=#[.slice none 0 0,.slice none 0 0,.string (⟨#[]⟩ : ByteArray)]) ?_ 0 _ rfl;(with_reducible repeat (first|refine bN ?_ _|refine bD ?_|refine bA ?_ _));exact BK396.out⟩,⟨by repeat (first|(with_reducible first|exact HB.out|apply lA|apply lN|apply lD|refine lS ?_ GE387.out|refine lS ?_ GE388.out|refine lS ?_ GE396.out)|exact HB.out)⟩⟩
 case round =>
  clear H'
  try clear c1
  try clear c2
  try clear p2
  try clear c3
  try clear c6
  try clear c11
  try clear c12
  try clear hcz13_0
  try clear hcz13_1
  try clear hcz13_2
  try clear hcz7_0
  try clear hcz7_1
  try clear hcz7_2
  obtain ⟨x6_1,x397002_1,rfl,HA,HK1,HO_397000,HO_397001,BK387,BK388,BK396,HB⟩:=hrel
  cases gk with
  |zero => exact absurd HA.out (by simp [spec_Dump.l0])
  |succ k1 =>
   have H:=HA.out
   clear HA
   simp only [spec_Dump.l0] at H
   by_cases c15 : x6_1 < (l0_1.length : Int)
   ·rw [if_pos c15] at H
    have c15b0 : decide (x6_1 < (l0_1.length : Int)) = true:=decide_eq_true c15
    clear c15
    by_cases c16 : 0 ≤ x6_1
    ·rw [if_pos c16] at H
     have c16b0 : decide (0 ≤ x6_1) = true:=decide_eq_true c16
     clear c16
     by_cases c17 : ((rd_T39 l0_1 x6_1).f0).toList = a1.toList
     ·rw [if_pos c17] at H
      have c17b0 : (((rd_T39 l0_1 x6_1).f0).toList == a1.toList) = true:=beq_iff_eq.mpr c17
      have c17b1 : (((rd_T39 l0_1 x6_1).f0).toList != a1.toList) = false:=bne_eq_false_iff_eq.mpr c17
      clear c17
      by_cases c18 : x397002_1.size + ((rd_T39 l0_1 x6_1).f1).size ≤ 9223372036854775807
      ·rw [if_pos c18] at H
       have c18b0:=eq_true c18
       have c18b1 : decide (x397002_1.size + ((rd_T39 l0_1 x6_1).f1).size ≤ 9223372036854775807) = true:=decide_eq_true c18
       try have c18b2 : (9223372036854775807 < x397002_1.size + ((rd_T39 l0_1 x6_1).f1).size) = False:=eq_false (Nat.not_lt.2 c18)
       by_cases c19 : (x397002_1 ++ ((rd_T39 l0_1 x6_1).f1)).size + 1 ≤ 9223372036854775807
       ·rw [if_pos c19] at H
        have c19b0:=eq_true c19
        have c19b1 : decide ((x397002_1 ++ ((rd_T39 l0_1 x6_1).f1)).size + 1 ≤ 9223372036854775807) = true:=decide_eq_true c19
        try have c19b2 : (9223372036854775807 < (x397002_1 ++ ((rd_T39 l0_1 x6_1).f1)).size + 1) = False:=eq_false (Nat.not_lt.2 c19)
        try (have c19b7:=c19b2;simp only [ByteArray.size_append] at c19b7)
        by_cases c20 : ((x397002_1 ++ ((rd_T39 l0_1 x6_1).f1)) ++ (⟨#[32]⟩ : ByteArray)).size + ((rd_T39 l0_1 x6_1).f2).size ≤ 9223372036854775807
        ·rw [if_pos c20] at H
         have c20b0:=eq_true c20
         have c20b1 : decide (((x397002_1 ++ ((rd_T39 l0_1 x6_1).f1)) ++ (⟨#[32]⟩ : ByteArray)).size + ((rd_T39 l0_1 x6_1).f2).size ≤ 9223372036854775807) = true:=decide_eq_true c20
         try have c20b2 : (9223372036854775807 < ((x397002_1 ++ ((rd_T39 l0_1 x6_1).f1)) ++ (⟨#[32]⟩ : ByteArray)).size + ((rd_T39 l0_1 x6_1).f2).size) = False:=eq_false (Nat.not_lt.2 c20)
         try (have c20b7:=c20b2;simp only [ByteArray.size_append,show ((⟨#[32]⟩ : ByteArray)).size = 1 from rfl] at c20b7)
         by_cases c21 : (((x397002_1 ++ ((rd_T39 l0_1 x6_1).f1)) ++ (⟨#[32]⟩ : ByteArray)) ++ ((rd_T39 l0_1 x6_1).f2)).size + 1 ≤ 9223372036854775807
         ·rw [if_pos c21] at H
          have c21b0:=eq_true c21
          have c21b1 : decide ((((x397002_1 ++ ((rd_T39 l0_1 x6_1).f1)) ++ (⟨#[32]⟩ : ByteArray)) ++ ((rd_T39 l0_1 x6_1).f2)).size + 1 ≤ 9223372036854775807) = true:=decide_eq_true c21
          try have c21b2 : (9223372036854775807 < (((x397002_1 ++ ((rd_T39 l0_1 x6_1).f1)) ++ (⟨#[32]⟩ : ByteArray)) ++ ((rd_T39 l0_1 x6_1).f2)).size + 1) = False:=eq_false (Nat.not_lt.2 c21)
          try (have c21b7:=c21b2;simp only [ByteArray.size_append,show ((⟨#[32]⟩ : ByteArray)).size = 1 from rfl] at c21b7)
          replace H:=Option.bind_eq_some_iff.mp H
          obtain ⟨t400,A220,H⟩:=H
          replace H : (spec_Dump.l0 k1 a1 (wrap64 (x6_1 + 1)) l0_0 l0_1 a0_2 t389 t392 t400) = some (r1,r2,r3):=H
          have A22:=aM A220
          clear A220
          have H':=aM H
          clear H
          have hnb23:=NB387_388.out
          have hnc23:=NB388_387.out
          have hnb24:=NB387_396.out
          have hnc24:=NB396_387.out
          obtain ⟨⟨hcz25_0,hcz25_1,hcz25_2⟩,hfz25_0,hfz25_1,hfz25_2⟩:=bC3 BK387.out
          have p397 : 0 ≤ (x6_1 : Int):=of_decide_eq_true (by first|(with_reducible assumption)|assumption)
          have q397 : x6_1 < (l0_1.length : Int):=of_decide_eq_true (by first|(with_reducible assumption)|assumption)
          obtain ⟨ad397,e397,hx397_0,hx397_1,hx397_2⟩:=at_T39 HR0_1.out x6_1 p397 q397
          cases e397
          replace hx397_0:=(HB.out.cell (World.block_lt_of_cell? w _ hx397_0)).trans hx397_0
          replace hx397_1:=(HB.out.cell (World.block_lt_of_cell? w _ hx397_1)).trans hx397_1
          replace hx397_2:=(HB.out.cell (World.block_lt_of_cell? w _ hx397_2)).trans hx397_2
          replace p397:=eq_true p397
          replace q397:=eq_true q397
          try go_wp2
          have n0_:=aM (rD HO_397000.out)
          have n1_:=aM (rD HO_397001.out)
          have n2_:=aM (bD BK387.out)
          have n3_:=aM (bD BK388.out)
          have n4_:=aM (bD BK396.out)
          have n5_:=aM (lD HB.out)
          clear HO_397000
          clear HO_397001
          clear BK387
          clear BK388
          clear BK396
          clear HB
          have HO_397000:=n0_
          have HO_397001:=n1_
          have BK387:=n2_
          have BK388:=n3_
          have BK396:=n4_
          have HB:=n5_
          clear n0_ n1_ n2_ n3_ n4_ n5_
          have p398 : 0 ≤ (x6_1 : Int):=of_decide_eq_true (by first|(with_reducible assumption)|assumption)
          have q398 : x6_1 < (l0_1.length : Int):=of_decide_eq_true (by first|(with_reducible assumption)|assumption)
          obtain ⟨ad398,e398,hx398_0,hx398_1,hx398_2⟩:=at_T39 HR0_1.out x6_1 p398 q398
          have hw398_2:=hx398_2
          have hw398_1:=hx398_1
          have hw398_0:=hx398_0
          obtain rfl : ad397 = ad398:=(by injection e398)
          replace hx398_0:=(HB.out.cell (World.block_lt_of_cell? w _ hx398_0)).trans hx398_0
          replace hx398_1:=(HB.out.cell (World.block_lt_of_cell? w _ hx398_1)).trans hx398_1
          replace hx398_2:=(HB.out.cell (World.block_lt_of_cell? w _ hx398_2)).trans hx398_2
          replace p398:=eq_true p398
          replace q398:=eq_true q398
          have p399 : 0 ≤ (x6_1 : Int):=of_decide_eq_true (by first|(with_reducible assumption)|assumption)
          have q399 : x6_1 < (l0_1.length : Int):=of_decide_eq_true (by first|(with_reducible assumption)|assumption)
          obtain ⟨ad399,e399,hx399_0,hx399_1,hx399_2⟩:=at_T39 HR0_1.out x6_1 p399 q399
          have hw399_2:=hx399_2
          have hw399_1:=hx399_1
          have hw399_0:=hx399_0
          obtain rfl : ad397 = ad399:=(by injection e399)
          replace hx399_0:=(HB.out.cell (World.block_lt_of_cell? w _ hx399_0)).trans hx399_0
          replace hx399_1:=(HB.out.cell (World.block_lt_of_cell? w _ hx399_1)).trans hx399_1
          replace hx399_2:=(HB.out.cell (World.block_lt_of_cell? w _ hx399_2)).trans hx399_2
          replace p399:=eq_true p399
          replace q399:=eq_true q399
          refine start_ (n:=21) (S:=fun w' => w'.cell? ⟨gb396,0,none⟩ = some (.slice Ao10 t389.length co10) ∧ w'.cell? ⟨gb396,1,none⟩ = some (.slice Ao14 t392.length co14) ∧ w'.cell? ⟨gb396,2,none⟩ = some (.string x397002_1) ∧ w'.cell? ⟨gb387,0,none⟩ = some (.slice A0_0 l0_0.length c0_0) ∧ w'.cell? ⟨gb387,1,none⟩ = some (.slice (some ad397) l0_1.length c0_1) ∧ w'.cell? ⟨gb387,2,none⟩ = some (.string a0_2) ∧ w'.cell? (ad397.add ((x6_1).toNat * 3)) = some (.string ((rd_T39 l0_1 x6_1).f0)) ∧ w'.cell? ⟨(ad397.add ((x6_1).toNat * 3)).block,(ad397.add ((x6_1).toNat * 3)).off + 1,none⟩ = some (.string ((rd_T39 l0_1 x6_1).f1)) ∧ w'.cell? ⟨(ad397.add ((x6_1).toNat * 3)).block,(ad397.add ((x6_1).toNat * 3)).off + 2,none⟩ = some (.string ((rd_T39 l0_1 x6_1).f2)) ∧ w'.cell? (ad397.add ((x6_1).toNat * 3)) = some (.string ((rd_T39 l0_1 x6_1).f0)) ∧ w'.cell? ⟨(ad397.add ((x6_1).toNat * 3)).block,(ad397.add ((x6_1).toNat * 3)).off + 1,none⟩ = some (.string ((rd_T39 l0_1 x6_1).f1)) ∧ w'.cell? ⟨(ad397.add ((x6_1).toNat * 3)).block,(ad397.add ((x6_1).toNat * 3)).off + 2,none⟩ = some (.string ((rd_T39 l0_1 x6_1).f2))) (ds:=[20]) #[bf,bf,bf,bf,bf,bf,bf,bf,bf,bf,bf,bf,bf,bf,bf,bf,bf,bf,bf,bf,bf] (by kernel_rfl) rfl rfl ⟨(bC BK396.out 0).trans rfl,(bC BK396.out 1).trans rfl,(bC BK396.out 2).trans rfl,(bC BK387.out 0).trans rfl,(bC BK387.out 1).trans rfl,(bC BK387.out 2).trans rfl,((HB.out.cell (World.block_lt_of_cell? w _ hw398_0)).trans hw398_0),((HB.out.cell (World.block_lt_of_cell? w _ hw398_1)).trans hw398_1),((HB.out.cell (World.block_lt_of_cell? w _ hw398_2)).trans hw398_2),((HB.out.cell (World.block_lt_of_cell? w _ hw399_0)).trans hw399_0),((HB.out.cell (World.block_lt_of_cell? w _ hw399_1)).trans hw399_1),((HB.out.cell (World.block_lt_of_cell? w _ hw399_2)).trans hw399_2)⟩ (fun hHeld => ?_);refine with_tabW spec_Dump.tab6 spec_Dump.bits6 (fun HT_ HW_ => ?_)
          generalize wr.drew = w26 at HO_397000 HO_397001 BK387 BK388 BK396 HB hx398_0 hx398_1 hx398_2 hx399_0 hx399_1 hx399_2 hHeld ⊢
          refine pQ (i:=0) (N:=some 24) (v:=?_) (a':=?_) #[bT,bf,bf,bf,bf,bf,bf,bf,bf,bf,bf,bf,bf,bf,bf,bf,bf,bf,bf,bf,bf] (any_of HT_.out (by kernel_rfl)) ?_ ?_ ?_
          rotate_left
          ·intro w';go_simp;with_reducible rfl
          rotate_left
          ·simp only [Act.put,q_ia10,q_cz10,q_cs10,i64_w,i32_w];rfl
          refine pQ (i:=2) (N:=some 26) (v:=?_) (a':=?_) #[bT,bf,bT,bf,bf,bf,bf,bf,bf,bf,bf,bf,bf,bf,bf,bf,bf,bf,bf,bf,bf] (any_of HT_.out (by kernel_rfl)) ?_ ?_ ?_
          rotate_left
          ·intro w';go_simp;with_reducible rfl
          rotate_left
          ·simp only [Act.put,q_ia10,q_cz10,q_cs10,i64_w,i32_w];rfl
          refine pQ (i:=4) (N:=some 28) (v:=?_) (a':=?_) #[bT,bf,bT,bf,bT,bf,bf,bf,bf,bf,bf,bf,bf,bf,bf,bf,bf,bf,bf,bf,bf] (any_of HT_.out (by kernel_rfl)) ?_ ?_ ?_
          rotate_left
          ·intro w';go_simp;with_reducible rfl
          rotate_left
          ·simp only [Act.put,q_ia10,q_cz10,q_cs10,i64_w,i32_w];rfl
          refine pQ (i:=10) (N:=some 34) (v:=?_) (a':=?_) #[bT,bf,bT,bf,bT,bf,bf,bf,bf,bf,bT,bf,bf,bf,bf,bf,bf,bf,bf,bf,bf] (any_of HT_.out (by kernel_rfl)) ?_ ?_ ?_
          rotate_left
          ·intro w';go_simp;with_reducible rfl
          rotate_left
          ·simp only [Act.put,q_ia10,q_cz10,q_cs10,i64_w,i32_w];rfl
          refine pQ (i:=12) (N:=some 36) (v:=?_) (a':=?_) #[bT,bf,bT,bf,bT,bf,bf,bf,bf,bf,bT,bf,bT,bf,bf,bf,bf,bf,bf,bf,bf] (any_of HT_.out (by kernel_rfl)) ?_ ?_ ?_
          rotate_left
          ·intro w';go_simp;with_reducible rfl
          rotate_left
          ·simp only [Act.put,q_ia10,q_cz10,q_cs10,i64_w,i32_w];rfl
          refine take_ (i:=1) (N:=some 25) (v:=?_) (a':=?_) #[bT,bT,bT,bf,bT,bf,bf,bf,bf,bf,bT,bf,bT,bf,bf,bf,bf,bf,bf,bf,bf] rfl rfl (take_ofW HT_.out HW_.out (by kernel_rfl)) (fun _ _ _ h => h) (Or.inl ⟨by rfl,?_⟩) hHeld ?_ ?_
          rotate_left
          ·rintro w' ⟨s0,s1,s2,s3,s4,s5,s6,s7,s8,s9,s10,s11⟩
           go_simp
           with_reducible rfl
          rotate_left
          ·simp only [Act.put,q_ia10,q_cz10,q_cs10,i64_w,i32_w];rfl
          refine take_ (i:=3) (N:=some 27) (v:=?_) (a':=?_) #[bT,bT,bT,bT,bT,bf,bf,bf,bf,bf,bT,bf,bT,bf,bf,bf,bf,bf,bf,bf,bf] rfl rfl (take_ofW HT_.out HW_.out (by kernel_rfl)) (fun _ _ _ h => h) (Or.inl ⟨by rfl,?_⟩) hHeld ?_ ?_
          rotate_left
          ·rintro w' ⟨s0,s1,s2,s3,s4,s5,s6,s7,s8,s9,s10,s11⟩
           go_simp
           with_reducible rfl
          rotate_left
          ·simp only [Act.put,q_ia10,q_cz10,q_cs10,i64_w,i32_w];rfl
          refine pQ (i:=5) (N:=some 29) (v:=?_) (a':=?_) #[bT,bT,bT,bT,bT,bT,bf,bf,bf,bf,bT,bf,bT,bf,bf,bf,bf,bf,bf,bf,bf] (any_of HT_.out (by kernel_rfl)) ?_ ?_ ?_
          rotate_left
          ·intro w';go_simp;with_reducible rfl
          rotate_left
          ·simp only [Act.put,q_ia10,q_cz10,q_cs10,i64_w,i32_w];rfl
          refine pQ (i:=6) (N:=some 30) (v:=?_) (a':=?_) #[bT,bT,bT,bT,bT,bT,bT,bf,bf,bf,bT,bf,bT,bf,bf,bf,bf,bf,bf,bf,bf] (any_of HT_.out (by kernel_rfl)) ?_ ?_ ?_
          rotate_left
          ·intro w';go_simp;with_reducible rfl
          rotate_left
          ·simp only [Act.put,q_ia10,q_cz10,q_cs10,i64_w,i32_w];rfl
          refine take_ (i:=7) (N:=some 31) (v:=?_) (a':=?_) #[bT,bT,bT,bT,bT,bT,bT,bT,bf,bf,bT,bf,bT,bf,bf,bf,bf,bf,bf,bf,bf] rfl rfl (take_ofW HT_.out HW_.out (by kernel_rfl)) (fun _ _ _ h => h) (Or.inl ⟨by rfl,?_⟩) hHeld ?_ ?_
          rotate_left
          ·rintro w' ⟨s0,s1,s2,s3,s4,s5,s6,s7,s8,s9,s10,s11⟩
           go_simp
           with_reducible rfl
          rotate_left
          ·simp only [Act.put,q_ia10,q_cz10,q_cs10,i64_w,i32_w];rfl
          refine pQ (i:=8) (N:=some 32) (v:=?_) (a':=?_) #[bT,bT,bT,bT,bT,bT,bT,bT,bT,bf,bT,bf,bT,bf,bf,bf,bf,bf,bf,bf,bf] (any_of HT_.out (by kernel_rfl)) ?_ ?_ ?_
          rotate_left
          ·intro w';go_simp;with_reducible rfl
          rotate_left
          ·simp only [Act.put,q_ia10,q_cz10,q_cs10,i64_w,i32_w];rfl
          refine pQ (i:=9) (N:=some 33) (v:=?_) (a':=?_) #[bT,bT,bT,bT,bT,bT,bT,bT,bT,bT,bT,bf,bT,bf,bf,bf,bf,bf,bf,bf,bf] (any_of HT_.out (by kernel_rfl)) ?_ ?_ ?_
          rotate_left
          ·intro w';go_simp;with_reducible rfl
          rotate_left
          ·simp only [Act.put,q_ia10,q_cz10,q_cs10,i64_w,i32_w];rfl
          refine take_ (i:=11) (N:=some 35) (v:=?_) (a':=?_) #[bT,bT,bT,bT,bT,bT,bT,bT,bT,bT,bT,bT,bT,bf,bf,bf,bf,bf,bf,bf,bf] rfl rfl (take_ofW HT_.out HW_.out (by kernel_rfl)) (fun _ _ _ h => h) (Or.inl ⟨by rfl,?_⟩) hHeld ?_ ?_
          rotate_left
          ·rintro w' ⟨s0,s1,s2,s3,s4,s5,s6,s7,s8,s9,s10,s11⟩
           go_simp
           with_reducible rfl
          rotate_left
          ·simp only [Act.put,q_ia10,q_cz10,q_cs10,i64_w,i32_w];rfl
          refine pQ (i:=13) (N:=some 37) (v:=?_) (a':=?_) #[bT,bT,bT,bT,bT,bT,bT,bT,bT,bT,bT,bT,bT,bT,bf,bf,bf,bf,bf,bf,bf] (any_of HT_.out (by kernel_rfl)) ?_ ?_ ?_
          rotate_left
          ·intro w';go_simp;with_reducible rfl
          rotate_left
          ·simp only [Act.put,q_ia10,q_cz10,q_cs10,i64_w,i32_w];rfl
          refine pQ (i:=14) (N:=some 38) (v:=?_) (a':=?_) #[bT,bT,bT,bT,bT,bT,bT,bT,bT,bT,bT,bT,bT,bT,bT,bf,bf,bf,bf,bf,bf] (any_of HT_.out (by kernel_rfl)) ?_ ?_ ?_
          rotate_left
          ·intro w';go_simp;with_reducible rfl
          rotate_left
          ·simp only [Act.put,q_ia10,q_cz10,q_cs10,i64_w,i32_w];rfl
          refine take_ (i:=15) (N:=some 39) (v:=?_) (a':=?_) #[bT,bT,bT,bT,bT,bT,bT,bT,bT,bT,bT,bT,bT,bT,bT,bT,bf,bf,bf,bf,bf] rfl rfl (take_ofW HT_.out HW_.out (by kernel_rfl)) (fun _ _ _ h => h) (Or.inl ⟨by rfl,?_⟩) hHeld ?_ ?_
          rotate_left
          ·rintro w' ⟨s0,s1,s2,s3,s4,s5,s6,s7,s8,s9,s10,s11⟩
           go_simp
           with_reducible rfl
          rotate_left
          ·simp only [Act.put,q_ia10,q_cz10,q_cs10,i64_w,i32_w];rfl
          refine pQ (i:=16) (N:=some 40) (v:=?_) (a':=?_) #[bT,bT,bT,bT,bT,bT,bT,bT,bT,bT,bT,bT,bT,bT,bT,bT,bT,bf,bf,bf,bf] (any_of HT_.out (by kernel_rfl)) ?_ ?_ ?_
          rotate_left
          ·intro w';go_simp;with_reducible rfl
          rotate_left
          ·simp only [Act.put,q_ia10,q_cz10,q_cs10,i64_w,i32_w];rfl
          refine pQ (i:=17) (N:=some 41) (v:=?_) (a':=?_) #[bT,bT,bT,bT,bT,bT,bT,bT,bT,bT,bT,bT,bT,bT,bT,bT,bT,bT,bf,bf,bf] (any_of HT_.out (by kernel_rfl)) ?_ ?_ ?_
          rotate_left
          ·intro w';go_simp;with_reducible rfl
          rotate_left
          ·simp only [Act.put,q_ia10,q_cz10,q_cs10,i64_w,i32_w];rfl
          refine one_ (i:=18) (N:=some 42) #[bT,bT,bT,bT,bT,bT,bT,bT,bT,bT,bT,bT,bT,bT,bT,bT,bT,bT,bT,bf,bf] rfl rfl (one_of HT_.out (by kernel_rfl)) (by decide) (fun K hK => ?_)
          refine goes_ Try.func36 (by kernel_rfl) rfl #[.string ((((x397002_1 ++ ((rd_T39 l0_1 x6_1).f1)) ++ (⟨#[32]⟩ : ByteArray)) ++ ((rd_T39 l0_1 x6_1).f2)) ++ (⟨#[10]⟩ : ByteArray))] (by rfl) rfl rfl (by (try simp only [List.map_toArray,List.map_cons,List.map_nil]);first|done|rfl|(simp only [List.length_drop,List.length_take];rfl)) ?_
          with_reducible refine (spec_l08Out.calls ((((x397002_1 ++ ((rd_T39 l0_1 x6_1).f1)) ++ (⟨#[32]⟩ : ByteArray)) ++ ((rd_T39 l0_1 x6_1).f2)) ++ (⟨#[10]⟩ : ByteArray)) t400 _ A22.out).mono ?_
          rintro e w' ⟨rfl,⟨nd,rfl⟩⟩
          refine ⟨_,rfl,?_⟩
          refine hK.out _ _ ⟨(bC BK396.out 0).trans rfl,(bC BK396.out 1).trans rfl,(bC BK396.out 2).trans rfl,(bC BK387.out 0).trans rfl,(bC BK387.out 1).trans rfl,(bC BK387.out 2).trans rfl,((HB.out.cell (World.block_lt_of_cell? w _ hw398_0)).trans hw398_0),((HB.out.cell (World.block_lt_of_cell? w _ hw398_1)).trans hw398_1),((HB.out.cell (World.block_lt_of_cell? w _ hw398_2)).trans hw398_2),((HB.out.cell (World.block_lt_of_cell? w _ hw399_0)).trans hw399_0),((HB.out.cell (World.block_lt_of_cell? w _ hw399_1)).trans hw399_1),((HB.out.cell (World.block_lt_of_cell? w _ hw399_2)).trans hw399_2)⟩ (fun hHeld => ?_)
          clear hK K
          refine norm_ (a':=?_) ?_ ?_
          rotate_left
          ·show Act.put _ (some 42) _ = _
           simp only [Act.put,q_ia10,q_cz10,q_cs10,i64_w,i32_w]
           rfl
          refine pQ (i:=19) (N:=some 43) (v:=?_) (a':=?_) #[bT,bT,bT,bT,bT,bT,bT,bT,bT,bT,bT,bT,bT,bT,bT,bT,bT,bT,bT,bT,bf] (any_of HT_.out (by kernel_rfl)) ?_ ?_ ?_
          rotate_left
          ·intro w';go_simp;with_reducible rfl
          rotate_left
          ·simp only [Act.put,q_ia10,q_cz10,q_cs10,i64_w,i32_w];rfl
          refine last_ (i:=20) (N:=none) #[bT,bT,bT,bT,bT,bT,bT,bT,bT,bT,bT,bT,bT,bT,bT,bT,bT,bT,bT,bT,bT] rfl rfl (one_of HT_.out (by kernel_rfl)) (by decide) (fun K hK => ?_)
          have hs27 : w26.cell? ⟨gb396,2,none⟩ = some (.string x397002_1):=(bC BK396.out 2).trans rfl
          have hfs27:=bF BK396.out 2
          have hns27_0:=NB387_396.out
          have hns27_1:=NB388_396.out
          have hms27_0:=NB396_387.out
          have hms27_1:=NB396_388.out
          refine skip_ (w1:=?_) (by rfl) rfl ?_ ?_
          rotate_left
          ·go_simp
           rfl
          refine hK.out _ _ ?_
          clear hK K
          refine done_ (done_of HT_.out (by kernel_rfl)) ?_
          try go_wp2
          go_roundg k1
          case measure => have:=HK1.out;omega
          case rel => exact ⟨(wrap64 (x6_1 + 1)),(t400),(by first|rfl|(simp;done)|(simp [*];done)),H',⟨by have:=HK1.out;omega⟩,⟨by (with_reducible repeat (first|apply rA|apply rN|apply rD));exact Kd.R_mono (rF (rY HO_397000.out BK396.out (by decide)) (fun _ hk => hk.2) _) (fun _ hk => trivial)⟩,⟨by (with_reducible repeat (first|apply rA|apply rN|apply rD));exact Kd.R_mono (rF (rY HO_397001.out BK396.out (by decide)) (fun _ hk => hk.2) _) (fun _ hk => trivial)⟩,⟨by (with_reducible repeat (first|refine bN ?_ _|refine bD ?_|refine bA ?_ _));refine blk_far ?_ NB387_396.out _;(with_reducible repeat (first|refine bN ?_ _|refine bD ?_|refine bA ?_ _));exact BK387.out⟩,⟨by (with_reducible repeat (first|refine bN ?_ _|refine bD ?_|refine bA ?_ _));refine blk_far ?_ NB388_396.out _;(with_reducible repeat (first|refine bN ?_ _|refine bD ?_|refine bA ?_ _));exact BK388.out⟩,⟨by (with_reducible repeat (first|refine bN ?_ _|refine bD ?_|refine bA ?_ _));refine blk_put (cs:=#[.slice Ao10 t389.length co10,.slice Ao14 t392.length co14,.string x397002_1]) ?_ 2 _ rfl;(with_reducible repeat (first|refine bN ?_ _|refine bD ?_|refine bA ?_ _));exact BK396.out⟩,⟨by repeat (first|(with_reducible first|exact HB.out|apply lA|apply lN|apply lD|refine lS ?_ GE387.out|refine lS ?_ GE388.out|refine lS ?_ GE396.out)|exact HB.out)⟩⟩
         ·rw [if_neg c21] at H
          exact absurd H (by simp)
        ·rw [if_neg c20] at H
         exact absurd H (by simp)
       ·rw [if_neg c19] at H
        exact absurd H (by simp)
      ·rw [if_neg c18] at H
       exact absurd H (by simp)
     ·rw [if_neg c17] at H
      have c17b0 : (((rd_T39 l0_1 x6_1).f0).toList == a1.toList) = false:=beq_eq_false_iff_ne.mpr c17
      have c17b1 : (((rd_T39 l0_1 x6_1).f0).toList != a1.toList) = true:=bne_iff_ne.mpr c17
      have H':=aM H
      clear H
      have hnb28:=NB387_388.out
      have hnc28:=NB388_387.out
      have hnb29:=NB387_396.out
      have hnc29:=NB396_387.out
      obtain ⟨⟨hcz30_0,hcz30_1,hcz30_2⟩,hfz30_0,hfz30_1,hfz30_2⟩:=bC3 BK387.out
      have p397 : 0 ≤ (x6_1 : Int):=of_decide_eq_true (by first|(with_reducible assumption)|assumption)
      have q397 : x6_1 < (l0_1.length : Int):=of_decide_eq_true (by first|(with_reducible assumption)|assumption)
      obtain ⟨ad397,e397,hx397_0,hx397_1,hx397_2⟩:=at_T39 HR0_1.out x6_1 p397 q397
      cases e397
      replace hx397_0:=(HB.out.cell (World.block_lt_of_cell? w _ hx397_0)).trans hx397_0
      replace hx397_1:=(HB.out.cell (World.block_lt_of_cell? w _ hx397_1)).trans hx397_1
      replace hx397_2:=(HB.out.cell (World.block_lt_of_cell? w _ hx397_2)).trans hx397_2
      replace p397:=eq_true p397
      replace q397:=eq_true q397
      go_wp2
      go_roundg k1
      case measure => have:=HK1.out;omega
      case rel => exact ⟨(wrap64 (x6_1 + 1)),(x397002_1),(by first|rfl|(simp;done)|(simp [*];done)),H',⟨by have:=HK1.out;omega⟩,⟨by (with_reducible repeat (first|apply rA|apply rN|apply rD));exact HO_397000.out⟩,⟨by (with_reducible repeat (first|apply rA|apply rN|apply rD));exact HO_397001.out⟩,⟨by (with_reducible repeat (first|refine bN ?_ _|refine bD ?_|refine bA ?_ _));exact BK387.out⟩,⟨by (with_reducible repeat (first|refine bN ?_ _|refine bD ?_|refine bA ?_ _));exact BK388.out⟩,⟨by (with_reducible repeat (first|refine bN ?_ _|refine bD ?_|refine bA ?_ _));exact BK396.out⟩,⟨by repeat (first|(with_reducible first|exact HB.out|apply lA|apply lN|apply lD|refine lS ?_ GE387.out|refine lS ?_ GE388.out|refine lS ?_ GE396.out)|exact HB.out)⟩⟩
    ·rw [if_neg c16] at H
     exact absurd H (by simp)
   ·rw [if_neg c15] at H
    have c15b0 : decide (x6_1 < (l0_1.length : Int)) = false:=decide_eq_false c15
    clear c15
    simp only [Option.some.injEq,Prod.mk.injEq] at H
    obtain ⟨rfl,rfl,rfl⟩:=H
    have hnb31:=NB387_388.out
    have hnc31:=NB388_387.out
    have hnb32:=NB387_396.out
    have hnc32:=NB396_387.out
    obtain ⟨⟨hcz33_0,hcz33_1,hcz33_2⟩,hfz33_0,hfz33_1,hfz33_2⟩:=bC3 BK387.out
    have hnb34:=NB396_388.out
    have hnc34:=NB388_396.out
    obtain ⟨⟨hcz35_0,hcz35_1,hcz35_2⟩,hfz35_0,hfz35_1,hfz35_2⟩:=bC3 BK396.out
    obtain ⟨⟨hcz36_0,hcz36_1,hcz36_2⟩,hfz36_0,hfz36_1,hfz36_2⟩:=bC3 BK388.out
    go_wp2
    refine bodyPost_ret (results_cell_row rfl _ _ gb388 35 #[.slice Ao10 t389.length co10,.slice Ao14 t392.length co14,.string x397002_1] (0,0) _ rfl (by (with_reducible repeat (first|refine bN ?_ _|refine bD ?_|refine bA ?_ _));refine blk_put (cs:=#[.slice Ao10 t389.length co10,.slice Ao14 t392.length co14,.string (⟨#[]⟩ : ByteArray)]) ?_ 2 _ rfl;(with_reducible repeat (first|refine bN ?_ _|refine bD ?_|refine bA ?_ _));refine blk_put (cs:=#[.slice Ao10 t389.length co10,.slice none 0 0,.string (⟨#[]⟩ : ByteArray)]) ?_ 1 _ rfl;(with_reducible repeat (first|refine bN ?_ _|refine bD ?_|refine bA ?_ _));refine blk_put (cs:=#[.slice none 0 0,.slice none 0 0,.string (⟨#[]⟩ : ByteArray)]) ?_ 0 _ rfl;(with_reducible repeat (first|refine bN ?_ _|refine bD ?_|refine bA ?_ _));exact BK388.out) Try.underlying35 rfl (by kernel_rfl)) rfl ?_
    exact ⟨_,_,by first|rfl|(simp [errW_none,errW_some] <;> rfl)|(simp [*,errW_none,errW_some] <;> rfl),by (with_reducible repeat (first|apply rA|apply rN|apply rD));exact Kd.R_mono (rF (rF (rF (rY HO_397000.out BK388.out (by decide)) (fun _ hk => hk.2) _) (fun _ hk => hk.2) _) (fun _ hk => hk.2) _) (fun _ hk => trivial),by (with_reducible repeat (first|apply rA|apply rN|apply rD));exact Kd.R_mono (rF (rF (rF (rY HO_397001.out BK388.out (by decide)) (fun _ hk => hk.2) _) (fun _ hk => hk.2) _) (fun _ hk => hk.2) _) (fun _ hk => trivial),by repeat (first|(with_reducible first|exact HB.out|apply lA|apply lN|apply lD|refine lS ?_ GE387.out|refine lS ?_ GE388.out|refine lS ?_ GE396.out)|exact HB.out)⟩

/-! ### laws_begins: function 21 -/
def laws_begins.f (a0 : ByteArray) (a1 : ByteArray) : Option (Bool):=if (a0.size : Int) ≤ (a1.size : Int) then (if 0 ≤ (a0.size : Int) then (some ((a1.extract 0 ((a0.size : Int) : Int).toNat).toList == a0.toList)) else (none)) else (some false)
set_option maxHeartbeats 8000000 in
set_option maxRecDepth 100000 in
theorem laws_begins.calls (a0 : ByteArray) (a1 : ByteArray) (r : Bool) (w : World) (h : laws_begins.f a0 a1 = some r) :
  Calls Try.prog 21 #[.string a0,.string a1] w fun e w' => e = .returned (.bool r) ∧ Drawn0 w w':=by
 have H : (if (a0.size : Int) ≤ (a1.size : Int) then (if 0 ≤ (a0.size : Int) then (some ((a1.extract 0 ((a0.size : Int) : Int).toNat).toList == a0.toList)) else (none)) else (some false)) = some r:=h
 clear h
 by_cases c3 : (a0.size : Int) ≤ (a1.size : Int)
 ·rw [if_pos c3] at H
  have c3b0 : decide ((a0.size : Int) ≤ (a1.size : Int)) = true:=decide_eq_true c3
  have c3b1 : decide (a0.size ≤ a1.size) = true:=decide_eq_true (Int.ofNat_le.mp c3)
  clear c3
  by_cases c4 : 0 ≤ (a0.size : Int)
  ·rw [if_pos c4] at H
   have c4b0:=eq_true c4
   have c4b1 : decide (0 ≤ (a0.size : Int)) = true:=decide_eq_true c4
   clear c4
   have c5b0:=eq_true (of_decide_eq_true (by first|(with_reducible assumption)|assumption) : (a0.size : Int) ≤ (a1.size : Int))
   obtain rfl:=Option.some.inj H
   go_enter Try.func21,Try.ntmps21
   go_wp2
   go_ret
   exact ⟨by first|rfl|(simp;done)|(simp [*];done),by repeat (first|exact Drawn0.refl _|apply Drawn0.step)⟩
  ·rw [if_neg c4] at H
   exact absurd H (by simp)
 ·rw [if_neg c3] at H
  have c3b0 : decide ((a0.size : Int) ≤ (a1.size : Int)) = false:=decide_eq_false c3
  have c3b1 : decide (a0.size ≤ a1.size) = false:=decide_eq_false (fun h => c3 (Int.ofNat_le.mpr h))
  clear c3
  obtain rfl:=Option.some.inj H
  go_enter Try.func21,Try.ntmps21
  go_wp2
  go_ret
  exact ⟨by first|rfl|(simp;done)|(simp [*];done),by repeat (first|exact Drawn0.refl _|apply Drawn0.step)⟩

end Go.Proofs.Ytekngkljphlliaa.QFnSays
