-- A text of this session, made by wip/own_print.py (the kit's print with additions of ours).
import Derived.Test.YtodpkfidkilpdaaQFnCellsx0
import Derived.Test.YtodpkfidkilpdaaQFnCellsx5
namespace Go.Proofs.Ytodpkfidkilpdaa.QFnCells
open Go.RowKit Go.Proofs.YtodpkfidkilpdaaW.PrintWords Go.Proofs.YtodpkfidkilpdaaW.PrintLast Go.Proofs.YtodpkfidkilpdaaW.PrintMore
attribute [local go_sem] max2_int min2_int max_two min_two max_three min_three max_four min_four   -- for this text's walks alone
set_option linter.unusedVariables false
set_option linter.unusedSimpArgs false
open Bool renaming true → bT, false → bf
open Go.Proofs.YtodpkfidkilpdaaW.PrintWords.Kd renaming R_alloc → rA, R_drewN → rN, R_drew → rD, C_alloc → cA, C_drewN → cN, C_drew → cD, R_far → rF, R_below → rB, R_lower → rL, R_lt → rT, R_base → rS, C_below → cB, R_types → rY, R_elder' → rE, R_reads' → rR, R_new' → rW
open Go.Proofs.YtodpkfidkilpdaaW.PrintWords renaming blk_drewN → bN, blk_drew → bD, blk_alloc → bA, below_set → lS, pw_below_drewN → lN, below_drew1 → lD, below_alloc → lA, blk_cell → bC, blk_below → bB, below_size → lZ, below_step → lP, blk_lt → bL, blk_frozen → bF
open Go.Proofs.YtodpkfidkilpdaaW.PrintWords.Aside0 renaming mk → aM
theorem q_ia10 {α : Type} (l : List α) (i : Nat) (a : α) : l.toArray.setIfInBounds i a = (l.set i a).toArray := List.setIfInBounds_toArray ..
theorem q_cz10 {α : Type} (a b : α) (l : List α) : (a :: l).set 0 b = b :: l := rfl
theorem q_cs10 {α : Type} (a b : α) (l : List α) (n : Nat) : (a :: l).set (n + 1) b = a :: l.set n b := rfl

/-! ### impl_CellOf: function 38 -/
def impl_CellOf.l0 : Nat → ByteArray → ByteArray → List (S57) → Int → Int → Option (ByteArray)
 | 0, _, _, _, _, _ => none
 | k + 1, x1, x2, x10, x11, x12 => if x12 < x11 then (if 0 ≤ x12 then (if x12 < (x10.length : Int) then (if ((rd_T57 x10 x12).f0).toList = x1.toList then ((impl_Cut.f x2).bind fun t369 => (if ((rd_T57 x10 x12).f1).toList = t369.toList then (some ((rd_T57 x10 x12).f2)) else (impl_CellOf.l0 k x1 x2 x10 x11 (wrap64 (x12 + 1))))) else (impl_CellOf.l0 k x1 x2 x10 x11 (wrap64 (x12 + 1)))) else (none)) else (none)) else (some (⟨#[]⟩ : ByteArray))
def impl_CellOf.f (k : Nat) (l0_0 : List (S53)) (l0_1 : List (S57)) (a0_2 : ByteArray) (a1 : ByteArray) (a2 : ByteArray) : Option (ByteArray) := impl_CellOf.l0 k a1 a2 l0_1 (l0_1.length : Int) 0
theorem impl_CellOf.mono_l : ∀ k, (∀ y0 y1 y2 y3 y4, LeO (impl_CellOf.l0 k y0 y1 y2 y3 y4) (impl_CellOf.l0 (k + 1) y0 y1 y2 y3 y4))
 | 0 => fun _ _ _ _ _ r h => by simp [impl_CellOf.l0] at h
 | k + 1 => by
  have ih0 := impl_CellOf.mono_l k
  ·intro y0 y1 y2 y3 y4
   unfold impl_CellOf.l0
   repeat' first
   | (with_reducible exact ih0 _ _ _ _ _)
   | (with_reducible exact LeO.refl _)
   | (with_reducible exact LeO.none _)
   | (with_reducible refine LeO.ite ?_ ?_)
   | (with_reducible refine LeO.bind ?_ (fun _ => ?_))
   | exact ih0 _ _ _ _ _
   | exact LeO.none _
   | refine LeO.ite ?_ ?_
   | refine LeO.bind ?_ (fun _ => ?_)
theorem impl_CellOf.mono : ∀ a0 a1 a2 a3 a4 k, LeO (impl_CellOf.f k a0 a1 a2 a3 a4) (impl_CellOf.f (k + 1) a0 a1 a2 a3 a4) := by
 intro a0 a1 a2 a3 a4 k
 have ih0 := impl_CellOf.mono_l k
 unfold impl_CellOf.f
 repeat' first
   | (with_reducible exact ih0 _ _ _ _ _)
   | (with_reducible exact LeO.refl _)
   | (with_reducible exact LeO.none _)
   | (with_reducible refine LeO.ite ?_ ?_)
   | (with_reducible refine LeO.bind ?_ (fun _ => ?_))
   | exact ih0 _ _ _ _ _
   | exact LeO.none _
   | refine LeO.ite ?_ ?_
   | refine LeO.bind ?_ (fun _ => ?_)
def impl_CellOf.T4 : Bool × List (List Nat × List Nat) := (true, [([], []), ([0], [0]), ([], []), ([1, 2], [1, 2]), ([3], [3]), ([4], [4]), ([5, 4], [4, 5]), ([4], [4]), ([7, 4, 4], [4, 7]), ([6, 8, 4], [4, 6, 8]), ([4, 9], [4, 9])])
def impl_CellOf.B4 : List Nat := [0, 1, 0, 7, 15, 31, 63, 31, 159, 511, 1023]
theorem impl_CellOf.tab4 : rtab .any (opsOf Try.f38 4) = impl_CellOf.T4 := by kernel_rfl
theorem impl_CellOf.bits4 : waitsOk impl_CellOf.T4.2 impl_CellOf.B4 = true := by kernel_rfl
set_option maxHeartbeats 8000000 in
set_option maxRecDepth 100000 in
theorem impl_CellOf.calls (k : Nat) (A0_0 : Option Addr) (c0_0 : Nat) (l0_0 : List (S53)) (A0_1 : Option Addr) (c0_1 : Nat) (l0_1 : List (S57)) (a0_2 : ByteArray) (a1 : ByteArray) (a2 : ByteArray) (r : ByteArray) (w : World) (hr0_0 : Kd.C k53 w A0_0 l0_0.length l0_0) (hc0_0 : l0_0.length ≤ c0_0) (hr0_1 : Kd.C k57 w A0_1 l0_1.length l0_1) (hc0_1 : l0_1.length ≤ c0_1) (h : impl_CellOf.f k l0_0 l0_1 a0_2 a1 a2 = some r) :
  Calls Try.prog 38 #[.agg #[.slice A0_0 l0_0.length c0_0,.slice A0_1 l0_1.length c0_1,.string a0_2],.string a1,.string a2] w fun e w' => e = .returned (.string r) ∧ Below w.heap.size w w':=by
 have hu38:=Try.underlying38
 have hu57:=Try.underlying57
 have HR0_0:=aM hr0_0
 have HC0_0:=aM hc0_0
 clear hr0_0 hc0_0
 have HR0_1:=aM hr0_1
 have HC0_1:=aM hc0_1
 clear hr0_1 hc0_1
 have HB:=aM (Below.refl w.heap.size w)
 have H : (impl_CellOf.l0 k a1 a2 l0_1 (l0_1.length : Int) 0) = some r:=h
 clear h
 have H':=aM H
 clear H
 go_enter Try.func38,Try.ntmps38
 go_wp2_with (first|((with_reducible refine gate_dst (N:=3) rfl ?_);refine box_event ?hg (N:=3) ?hd (cs:=#[.slice A0_0 l0_0.length c0_0,.slice A0_1 l0_1.length c0_1,.string a0_2]) (t:=38) ?hr ?_;(case hd => rfl);(case hg => rfl);(case hr => first|(go_simp;done)|(go_simp;rfl));intro gb366 hg w4 hbox hb;have n0_:=aM (lQ HB.out hb);have n1_:=aM (hbox);have n2_:=aM ((sQ hg HB.out : w.heap.size ≤ gb366));have n3_:=n2_;clear HB;have HB:=n0_;have BK366:=n1_;have GW366:=n2_;have GE366:=n3_;clear n0_ n1_ n2_ n3_ hb hbox hg;obtain ⟨⟨hcz5_0,hcz5_1,hcz5_2⟩,hfz5_0,hfz5_1,hfz5_2⟩:=bC3 BK366.out))
 go_loopg [12] k (fun kq v12 w' => ∃ (x12_1 : Int),v12 = .int .i64 x12_1 ∧ Aside0 (impl_CellOf.l0 kq a1 a2 l0_1 (l0_1.length : Int) x12_1 = some r) ∧ Aside0 (kq ≤ k) ∧ Aside0 (w'.heap[gb366]? = some (.cells #[(.slice A0_0 l0_0.length c0_0),(.slice A0_1 l0_1.length c0_1),.string a0_2] 38 (0,0))) ∧ Aside0 (Below w.heap.size w w'))
 case atStart => exact ⟨(0),(by first|rfl|(simp;done)|(simp [*];done)),H',⟨Nat.le_refl _⟩,⟨by (with_reducible repeat (first|refine bN ?_ _|refine bD ?_|refine bA ?_ _));exact BK366.out⟩,⟨by repeat (first|(with_reducible first|exact HB.out|apply lA|apply lN|apply lD|refine lS ?_ GE366.out)|exact HB.out)⟩⟩
 case round =>
  clear H'
  try clear p2
  try clear c3
  try clear hcz5_0
  try clear hcz5_1
  try clear hcz5_2
  obtain ⟨x12_1,rfl,HA,HK1,BK366,HB⟩:=hrel
  cases gk with
  |zero => exact absurd HA.out (by simp [impl_CellOf.l0])
  |succ k1 =>
   have H:=HA.out
   clear HA
   simp only [impl_CellOf.l0] at H
   by_cases c6 : x12_1 < (l0_1.length : Int)
   ·rw [if_pos c6] at H
    have c6b0 : decide (x12_1 < (l0_1.length : Int)) = true:=decide_eq_true c6
    clear c6
    by_cases c7 : 0 ≤ x12_1
    ·rw [if_pos c7] at H
     have c7b0 : decide (0 ≤ x12_1) = true:=decide_eq_true c7
     clear c7
     by_cases c8 : x12_1 < (l0_1.length : Int)
     ·rw [if_pos c8] at H
      have c8b0 : decide (x12_1 < (l0_1.length : Int)) = true:=decide_eq_true c8
      clear c8
      by_cases c9 : ((rd_T57 l0_1 x12_1).f0).toList = a1.toList
      ·rw [if_pos c9] at H
       have c9b0 : (((rd_T57 l0_1 x12_1).f0).toList == a1.toList) = true:=beq_iff_eq.mpr c9
       have c9b1 : (((rd_T57 l0_1 x12_1).f0).toList != a1.toList) = false:=bne_eq_false_iff_eq.mpr c9
       clear c9
       replace H:=Option.bind_eq_some_iff.mp H
       obtain ⟨t369,A100,H⟩:=H
       replace H : (if ((rd_T57 l0_1 x12_1).f1).toList = t369.toList then (some ((rd_T57 l0_1 x12_1).f2)) else (impl_CellOf.l0 k1 a1 a2 l0_1 (l0_1.length : Int) (wrap64 (x12_1 + 1)))) = some r:=H
       have A10:=aM A100
       clear A100
       by_cases c11 : ((rd_T57 l0_1 x12_1).f1).toList = t369.toList
       ·rw [if_pos c11] at H
        have c11b0 : (((rd_T57 l0_1 x12_1).f1).toList == t369.toList) = true:=beq_iff_eq.mpr c11
        have c11b1 : (((rd_T57 l0_1 x12_1).f1).toList != t369.toList) = false:=bne_eq_false_iff_eq.mpr c11
        clear c11
        obtain rfl:=Option.some.inj H
        have p367 : 0 ≤ (x12_1 : Int):=of_decide_eq_true (by first|(with_reducible assumption)|assumption)
        have q367 : x12_1 < (l0_1.length : Int):=of_decide_eq_true (by first|(with_reducible assumption)|assumption)
        obtain ⟨ad367,e367,hx367_0,hx367_1,hx367_2⟩:=at_T57 HR0_1.out x12_1 p367 q367
        cases e367
        replace hx367_0:=(HB.out.cell (World.block_lt_of_cell? w _ hx367_0)).trans hx367_0
        replace hx367_1:=(HB.out.cell (World.block_lt_of_cell? w _ hx367_1)).trans hx367_1
        replace hx367_2:=(HB.out.cell (World.block_lt_of_cell? w _ hx367_2)).trans hx367_2
        replace p367:=eq_true p367
        replace q367:=eq_true q367
        try go_wp2_with (first|((with_reducible refine gate_dst (N:=8) rfl ?_);refine box_event ?hg (N:=8) ?hd (cs:=#[.string (⟨#[]⟩ : ByteArray),.string (⟨#[]⟩ : ByteArray),.string (⟨#[]⟩ : ByteArray)]) (t:=57) ?hr ?_;(case hd => rfl);(case hg => rfl);(case hr => first|(go_simp;done)|(go_simp;rfl));intro gb368 hg w12 hbox hb;have n0_:=aM (bH BK366.out hb);have n1_:=aM (lQ HB.out hb);have n2_:=aM (hbox);have n3_:=aM ((sQ hg HB.out : w.heap.size ≤ gb368));have n4_:=n3_;have n5_:=aM ((nL hg BK366.out : gb366 ≠ gb368));have n6_:=aM ((nG hg BK366.out : gb368 ≠ gb366));clear BK366 HB;have BK366:=n0_;have HB:=n1_;have BK368:=n2_;have GW368:=n3_;have GE368:=n4_;have NB366_368:=n5_;have NB368_366:=n6_;clear n0_ n1_ n2_ n3_ n4_ n5_ n6_ hb hbox hg;have hnb13:=NB368_366.out;have hnc13:=NB366_368.out;obtain ⟨⟨hcz14_0,hcz14_1,hcz14_2⟩,hfz14_0,hfz14_1,hfz14_2⟩:=bC3 BK368.out))
        have n0_ : Aside0 ((((w12.setCell ⟨gb368,0,none⟩ (.string ((rd_T57 l0_1 x12_1).f0))).setCell ⟨gb368,1,none⟩ (.string ((rd_T57 l0_1 x12_1).f1))).setCell ⟨gb368,2,none⟩ (.string ((rd_T57 l0_1 x12_1).f2))).heap[gb366]? = some (.cells #[.slice A0_0 l0_0.length c0_0,.slice (some ad367) l0_1.length c0_1,.string a0_2] 38 (0,0))):=⟨by (with_reducible repeat (first|refine bN ?_ _|refine bD ?_|refine bA ?_ _));refine blk_far ?_ NB366_368.out _;(with_reducible repeat (first|refine bN ?_ _|refine bD ?_|refine bA ?_ _));refine blk_far ?_ NB366_368.out _;(with_reducible repeat (first|refine bN ?_ _|refine bD ?_|refine bA ?_ _));refine blk_far ?_ NB366_368.out _;(with_reducible repeat (first|refine bN ?_ _|refine bD ?_|refine bA ?_ _));exact BK366.out⟩
        have n1_ : Aside0 ((((w12.setCell ⟨gb368,0,none⟩ (.string ((rd_T57 l0_1 x12_1).f0))).setCell ⟨gb368,1,none⟩ (.string ((rd_T57 l0_1 x12_1).f1))).setCell ⟨gb368,2,none⟩ (.string ((rd_T57 l0_1 x12_1).f2))).heap[gb368]? = some (.cells #[.string ((rd_T57 l0_1 x12_1).f0),.string ((rd_T57 l0_1 x12_1).f1),.string ((rd_T57 l0_1 x12_1).f2)] 57 (0,0))):=⟨by (with_reducible repeat (first|refine bN ?_ _|refine bD ?_|refine bA ?_ _));refine blk_put (cs:=#[.string ((rd_T57 l0_1 x12_1).f0),.string ((rd_T57 l0_1 x12_1).f1),.string (⟨#[]⟩ : ByteArray)]) ?_ 2 _ rfl;(with_reducible repeat (first|refine bN ?_ _|refine bD ?_|refine bA ?_ _));refine blk_put (cs:=#[.string ((rd_T57 l0_1 x12_1).f0),.string (⟨#[]⟩ : ByteArray),.string (⟨#[]⟩ : ByteArray)]) ?_ 1 _ rfl;(with_reducible repeat (first|refine bN ?_ _|refine bD ?_|refine bA ?_ _));refine blk_put (cs:=#[.string (⟨#[]⟩ : ByteArray),.string (⟨#[]⟩ : ByteArray),.string (⟨#[]⟩ : ByteArray)]) ?_ 0 _ rfl;(with_reducible repeat (first|refine bN ?_ _|refine bD ?_|refine bA ?_ _));exact BK368.out⟩
        have n2_ : Aside0 (Below w.heap.size w (((w12.setCell ⟨gb368,0,none⟩ (.string ((rd_T57 l0_1 x12_1).f0))).setCell ⟨gb368,1,none⟩ (.string ((rd_T57 l0_1 x12_1).f1))).setCell ⟨gb368,2,none⟩ (.string ((rd_T57 l0_1 x12_1).f2)))):=⟨by repeat (first|(with_reducible first|exact HB.out|apply lA|apply lN|apply lD|refine lS ?_ GE366.out|refine lS ?_ GE368.out)|exact HB.out)⟩
        (try clear BK366)
        (try clear BK368)
        (try clear HB)
        generalize (((w12.setCell ⟨gb368,0,none⟩ (.string ((rd_T57 l0_1 x12_1).f0))).setCell ⟨gb368,1,none⟩ (.string ((rd_T57 l0_1 x12_1).f1))).setCell ⟨gb368,2,none⟩ (.string ((rd_T57 l0_1 x12_1).f2))) = w15 at n0_ n1_ n2_ ⊢
        have BK366:=n0_
        have BK368:=n1_
        have HB:=n2_
        clear n0_ n1_ n2_
        have n0_:=aM (bD BK366.out)
        have n1_:=aM (bD BK368.out)
        have n2_:=aM (lD HB.out)
        clear BK366
        clear BK368
        clear HB
        have BK366:=n0_
        have BK368:=n1_
        have HB:=n2_
        clear n0_ n1_ n2_
        refine start_ (n:=11) (S:=fun w' => w'.cell? ⟨gb368,0,none⟩ = some (.string ((rd_T57 l0_1 x12_1).f0)) ∧ w'.cell? ⟨gb368,1,none⟩ = some (.string ((rd_T57 l0_1 x12_1).f1)) ∧ w'.cell? ⟨gb368,2,none⟩ = some (.string ((rd_T57 l0_1 x12_1).f2))) (ds:=[]) #[bf,bf,bf,bf,bf,bf,bf,bf,bf,bf,bf] (by kernel_rfl) rfl rfl ⟨(bC BK368.out 0).trans rfl,(bC BK368.out 1).trans rfl,(bC BK368.out 2).trans rfl⟩ (fun hHeld => ?_);refine with_tabW impl_CellOf.tab4 impl_CellOf.bits4 (fun HT_ HW_ => ?_)
        generalize w15.drew = w16 at BK366 BK368 HB hHeld ⊢
        refine pQ (i:=0) (N:=some 16) (v:=?_) (a':=?_) #[bT,bf,bf,bf,bf,bf,bf,bf,bf,bf,bf] (any_of HT_.out (by kernel_rfl)) ?_ ?_ ?_
        rotate_left
        ·intro w';go_simp;with_reducible rfl
        rotate_left
        ·simp only [Act.put,q_ia10,q_cz10,q_cs10,i64_w,i32_w];rfl
        refine pQ (i:=2) (N:=some 18) (v:=?_) (a':=?_) #[bT,bf,bT,bf,bf,bf,bf,bf,bf,bf,bf] (any_of HT_.out (by kernel_rfl)) ?_ ?_ ?_
        rotate_left
        ·intro w';go_simp;with_reducible rfl
        rotate_left
        ·simp only [Act.put,q_ia10,q_cz10,q_cs10,i64_w,i32_w];rfl
        refine take_ (i:=1) (N:=some 17) (v:=?_) (a':=?_) #[bT,bT,bT,bf,bf,bf,bf,bf,bf,bf,bf] rfl rfl (take_ofW HT_.out HW_.out (by kernel_rfl)) (fun _ _ _ h => h) (Or.inl ⟨by rfl,?_⟩) hHeld ?_ ?_
        rotate_left
        ·rintro w' ⟨s0,s1,s2⟩
         go_simp
         with_reducible rfl
        rotate_left
        ·simp only [Act.put,q_ia10,q_cz10,q_cs10,i64_w,i32_w];rfl
        refine pQ (i:=3) (N:=some 19) (v:=?_) (a':=?_) #[bT,bT,bT,bT,bf,bf,bf,bf,bf,bf,bf] (any_of HT_.out (by kernel_rfl)) ?_ ?_ ?_
        rotate_left
        ·intro w';go_simp;with_reducible rfl
        rotate_left
        ·simp only [Act.put,q_ia10,q_cz10,q_cs10,i64_w,i32_w];rfl
        refine pQ (i:=4) (N:=some 20) (v:=?_) (a':=?_) #[bT,bT,bT,bT,bT,bf,bf,bf,bf,bf,bf] (any_of HT_.out (by kernel_rfl)) ?_ ?_ ?_
        rotate_left
        ·intro w';go_simp;with_reducible rfl
        rotate_left
        ·simp only [Act.put,q_ia10,q_cz10,q_cs10,i64_w,i32_w];rfl
        refine pQ (i:=5) (N:=some 21) (v:=?_) (a':=?_) #[bT,bT,bT,bT,bT,bT,bf,bf,bf,bf,bf] (any_of HT_.out (by kernel_rfl)) ?_ ?_ ?_
        rotate_left
        ·intro w';go_simp;with_reducible rfl
        rotate_left
        ·simp only [Act.put,q_ia10,q_cz10,q_cs10,i64_w,i32_w];rfl
        refine pQ (i:=7) (N:=some 23) (v:=?_) (a':=?_) #[bT,bT,bT,bT,bT,bT,bf,bT,bf,bf,bf] (any_of HT_.out (by kernel_rfl)) ?_ ?_ ?_
        rotate_left
        ·intro w';go_simp;with_reducible rfl
        rotate_left
        ·simp only [Act.put,q_ia10,q_cz10,q_cs10,i64_w,i32_w];rfl
        refine take_ (i:=6) (N:=some 22) (v:=?_) (a':=?_) #[bT,bT,bT,bT,bT,bT,bT,bT,bf,bf,bf] rfl rfl (take_ofW HT_.out HW_.out (by kernel_rfl)) (fun _ _ _ h => h) (Or.inl ⟨by rfl,?_⟩) hHeld ?_ ?_
        rotate_left
        ·rintro w' ⟨s0,s1,s2⟩
         go_simp
         with_reducible rfl
        rotate_left
        ·simp only [Act.put,q_ia10,q_cz10,q_cs10,i64_w,i32_w];rfl
        refine one_ (i:=8) (N:=some 24) #[bT,bT,bT,bT,bT,bT,bT,bT,bT,bf,bf] rfl rfl (one_of HT_.out (by kernel_rfl)) (by decide) (fun K hK => ?_)
        refine goes_ Try.func42 (by kernel_rfl) rfl #[.string a2] (by rfl) rfl rfl (by (try simp only [List.map_toArray,List.map_cons,List.map_nil]);first|done|rfl|(simp only [List.length_drop,List.length_take];rfl)) ?_
        with_reducible refine (impl_Cut.calls a2 t369 _ A10.out).mono ?_
        rintro e w17 ⟨rfl,hb⟩
        refine ⟨_,rfl,?_⟩
        have n0_:=aM (bH BK366.out hb)
        have n1_:=aM (bH BK368.out hb)
        have n2_:=aM (lQ HB.out hb)
        clear BK366
        clear BK368
        clear HB
        have BK366:=n0_
        have BK368:=n1_
        have HB:=n2_
        clear n0_ n1_ n2_
        (try clear hb)
        (try clear hb2)
        (try clear hk)
        (try clear hi)
        refine hK.out _ _ ⟨(bC BK368.out 0).trans rfl,(bC BK368.out 1).trans rfl,(bC BK368.out 2).trans rfl⟩ (fun hHeld => ?_)
        clear hK K
        refine norm_ (a':=?_) ?_ ?_
        rotate_left
        ·show Act.put _ (some 24) _ = _
         simp only [Act.put,q_ia10,q_cz10,q_cs10,i64_w,i32_w]
         rfl
        refine pQ (i:=9) (N:=some 25) (v:=?_) (a':=?_) #[bT,bT,bT,bT,bT,bT,bT,bT,bT,bT,bf] (any_of HT_.out (by kernel_rfl)) ?_ ?_ ?_
        rotate_left
        ·intro w';go_simp;with_reducible rfl
        rotate_left
        ·simp only [Act.put,q_ia10,q_cz10,q_cs10,i64_w,i32_w];rfl
        refine pQ (i:=10) (N:=some 26) (v:=?_) (a':=?_) #[bT,bT,bT,bT,bT,bT,bT,bT,bT,bT,bT] (any_of HT_.out (by kernel_rfl)) ?_ ?_ ?_
        rotate_left
        ·intro w';go_simp;with_reducible rfl
        rotate_left
        ·simp only [Act.put,q_ia10,q_cz10,q_cs10,i64_w,i32_w];rfl
        refine done_ (done_of HT_.out (by kernel_rfl)) ?_
        obtain ⟨⟨hcz18_0,hcz18_1,hcz18_2⟩,hfz18_0,hfz18_1,hfz18_2⟩:=bC3 BK368.out
        try go_wp2
        go_ret
        exact ⟨by first|rfl|(simp [errW_none,errW_some] <;> rfl)|(simp [*,errW_none,errW_some] <;> rfl),by repeat (first|(with_reducible first|exact HB.out|apply lA|apply lN|apply lD|refine lS ?_ GE366.out|refine lS ?_ GE368.out)|exact HB.out)⟩
       ·rw [if_neg c11] at H
        have c11b0 : (((rd_T57 l0_1 x12_1).f1).toList == t369.toList) = false:=beq_eq_false_iff_ne.mpr c11
        have c11b1 : (((rd_T57 l0_1 x12_1).f1).toList != t369.toList) = true:=bne_iff_ne.mpr c11
        have H':=aM H
        clear H
        have p367 : 0 ≤ (x12_1 : Int):=of_decide_eq_true (by first|(with_reducible assumption)|assumption)
        have q367 : x12_1 < (l0_1.length : Int):=of_decide_eq_true (by first|(with_reducible assumption)|assumption)
        obtain ⟨ad367,e367,hx367_0,hx367_1,hx367_2⟩:=at_T57 HR0_1.out x12_1 p367 q367
        cases e367
        replace hx367_0:=(HB.out.cell (World.block_lt_of_cell? w _ hx367_0)).trans hx367_0
        replace hx367_1:=(HB.out.cell (World.block_lt_of_cell? w _ hx367_1)).trans hx367_1
        replace hx367_2:=(HB.out.cell (World.block_lt_of_cell? w _ hx367_2)).trans hx367_2
        replace p367:=eq_true p367
        replace q367:=eq_true q367
        try go_wp2_with (first|((with_reducible refine gate_dst (N:=8) rfl ?_);refine box_event ?hg (N:=8) ?hd (cs:=#[.string (⟨#[]⟩ : ByteArray),.string (⟨#[]⟩ : ByteArray),.string (⟨#[]⟩ : ByteArray)]) (t:=57) ?hr ?_;(case hd => rfl);(case hg => rfl);(case hr => first|(go_simp;done)|(go_simp;rfl));intro gb368 hg w19 hbox hb;have n0_:=aM (bH BK366.out hb);have n1_:=aM (lQ HB.out hb);have n2_:=aM (hbox);have n3_:=aM ((sQ hg HB.out : w.heap.size ≤ gb368));have n4_:=n3_;have n5_:=aM ((nL hg BK366.out : gb366 ≠ gb368));have n6_:=aM ((nG hg BK366.out : gb368 ≠ gb366));clear BK366 HB;have BK366:=n0_;have HB:=n1_;have BK368:=n2_;have GW368:=n3_;have GE368:=n4_;have NB366_368:=n5_;have NB368_366:=n6_;clear n0_ n1_ n2_ n3_ n4_ n5_ n6_ hb hbox hg;have hnb20:=NB368_366.out;have hnc20:=NB366_368.out;obtain ⟨⟨hcz21_0,hcz21_1,hcz21_2⟩,hfz21_0,hfz21_1,hfz21_2⟩:=bC3 BK368.out))
        have n0_ : Aside0 ((((w19.setCell ⟨gb368,0,none⟩ (.string ((rd_T57 l0_1 x12_1).f0))).setCell ⟨gb368,1,none⟩ (.string ((rd_T57 l0_1 x12_1).f1))).setCell ⟨gb368,2,none⟩ (.string ((rd_T57 l0_1 x12_1).f2))).heap[gb366]? = some (.cells #[.slice A0_0 l0_0.length c0_0,.slice (some ad367) l0_1.length c0_1,.string a0_2] 38 (0,0))):=⟨by (with_reducible repeat (first|refine bN ?_ _|refine bD ?_|refine bA ?_ _));refine blk_far ?_ NB366_368.out _;(with_reducible repeat (first|refine bN ?_ _|refine bD ?_|refine bA ?_ _));refine blk_far ?_ NB366_368.out _;(with_reducible repeat (first|refine bN ?_ _|refine bD ?_|refine bA ?_ _));refine blk_far ?_ NB366_368.out _;(with_reducible repeat (first|refine bN ?_ _|refine bD ?_|refine bA ?_ _));exact BK366.out⟩
        have n1_ : Aside0 ((((w19.setCell ⟨gb368,0,none⟩ (.string ((rd_T57 l0_1 x12_1).f0))).setCell ⟨gb368,1,none⟩ (.string ((rd_T57 l0_1 x12_1).f1))).setCell ⟨gb368,2,none⟩ (.string ((rd_T57 l0_1 x12_1).f2))).heap[gb368]? = some (.cells #[.string ((rd_T57 l0_1 x12_1).f0),.string ((rd_T57 l0_1 x12_1).f1),.string ((rd_T57 l0_1 x12_1).f2)] 57 (0,0))):=⟨by (with_reducible repeat (first|refine bN ?_ _|refine bD ?_|refine bA ?_ _));refine blk_put (cs:=#[.string ((rd_T57 l0_1 x12_1).f0),.string ((rd_T57 l0_1 x12_1).f1),.string (⟨#[]⟩ : ByteArray)]) ?_ 2 _ rfl;(with_reducible repeat (first|refine bN ?_ _|refine bD ?_|refine bA ?_ _));refine blk_put (cs:=#[.string ((rd_T57 l0_1 x12_1).f0),.string (⟨#[]⟩ : ByteArray),.string (⟨#[]⟩ : ByteArray)]) ?_ 1 _ rfl;(with_reducible repeat (first|refine bN ?_ _|refine bD ?_|refine bA ?_ _));refine blk_put (cs:=#[.string (⟨#[]⟩ : ByteArray),.string (⟨#[]⟩ : ByteArray),.string (⟨#[]⟩ : ByteArray)]) ?_ 0 _ rfl;(with_reducible repeat (first|refine bN ?_ _|refine bD ?_|refine bA ?_ _));exact BK368.out⟩
        have n2_ : Aside0 (Below w.heap.size w (((w19.setCell ⟨gb368,0,none⟩ (.string ((rd_T57 l0_1 x12_1).f0))).setCell ⟨gb368,1,none⟩ (.string ((rd_T57 l0_1 x12_1).f1))).setCell ⟨gb368,2,none⟩ (.string ((rd_T57 l0_1 x12_1).f2)))):=⟨by repeat (first|(with_reducible first|exact HB.out|apply lA|apply lN|apply lD|refine lS ?_ GE366.out|refine lS ?_ GE368.out)|exact HB.out)⟩
        (try clear BK366)
        (try clear BK368)
        (try clear HB)
        generalize (((w19.setCell ⟨gb368,0,none⟩ (.string ((rd_T57 l0_1 x12_1).f0))).setCell ⟨gb368,1,none⟩ (.string ((rd_T57 l0_1 x12_1).f1))).setCell ⟨gb368,2,none⟩ (.string ((rd_T57 l0_1 x12_1).f2))) = w22 at n0_ n1_ n2_ ⊢
        have BK366:=n0_
        have BK368:=n1_
        have HB:=n2_
        clear n0_ n1_ n2_
        have n0_:=aM (bD BK366.out)
        have n1_:=aM (bD BK368.out)
        have n2_:=aM (lD HB.out)
        clear BK366
        clear BK368
        clear HB
        have BK366:=n0_
        have BK368:=n1_
        have HB:=n2_
        clear n0_ n1_ n2_
        refine start_ (n:=11) (S:=fun w' => w'.cell? ⟨gb368,0,none⟩ = some (.string ((rd_T57 l0_1 x12_1).f0)) ∧ w'.cell? ⟨gb368,1,none⟩ = some (.string ((rd_T57 l0_1 x12_1).f1)) ∧ w'.cell? ⟨gb368,2,none⟩ = some (.string ((rd_T57 l0_1 x12_1).f2))) (ds:=[]) #[bf,bf,bf,bf,bf,bf,bf,bf,bf,bf,bf] (by kernel_rfl) rfl rfl ⟨(bC BK368.out 0).trans rfl,(bC BK368.out 1).trans rfl,(bC BK368.out 2).trans rfl⟩ (fun hHeld => ?_);refine with_tabW impl_CellOf.tab4 impl_CellOf.bits4 (fun HT_ HW_ => ?_)
        generalize w22.drew = w23 at BK366 BK368 HB hHeld ⊢
        refine pQ (i:=0) (N:=some 16) (v:=?_) (a':=?_) #[bT,bf,bf,bf,bf,bf,bf,bf,bf,bf,bf] (any_of HT_.out (by kernel_rfl)) ?_ ?_ ?_
        rotate_left
        ·intro w';go_simp;with_reducible rfl
        rotate_left
        ·simp only [Act.put,q_ia10,q_cz10,q_cs10,i64_w,i32_w];rfl
        refine pQ (i:=2) (N:=some 18) (v:=?_) (a':=?_) #[bT,bf,bT,bf,bf,bf,bf,bf,bf,bf,bf] (any_of HT_.out (by kernel_rfl)) ?_ ?_ ?_
        rotate_left
        ·intro w';go_simp;with_reducible rfl
        rotate_left
        ·simp only [Act.put,q_ia10,q_cz10,q_cs10,i64_w,i32_w];rfl
        refine take_ (i:=1) (N:=some 17) (v:=?_) (a':=?_) #[bT,bT,bT,bf,bf,bf,bf,bf,bf,bf,bf] rfl rfl (take_ofW HT_.out HW_.out (by kernel_rfl)) (fun _ _ _ h => h) (Or.inl ⟨by rfl,?_⟩) hHeld ?_ ?_
        rotate_left
        ·rintro w' ⟨s0,s1,s2⟩
         go_simp
         with_reducible rfl
        rotate_left
        ·simp only [Act.put,q_ia10,q_cz10,q_cs10,i64_w,i32_w];rfl
        refine pQ (i:=3) (N:=some 19) (v:=?_) (a':=?_) #[bT,bT,bT,bT,bf,bf,bf,bf,bf,bf,bf] (any_of HT_.out (by kernel_rfl)) ?_ ?_ ?_
        rotate_left
        ·intro w';go_simp;with_reducible rfl
        rotate_left
        ·simp only [Act.put,q_ia10,q_cz10,q_cs10,i64_w,i32_w];rfl
        refine pQ (i:=4) (N:=some 20) (v:=?_) (a':=?_) #[bT,bT,bT,bT,bT,bf,bf,bf,bf,bf,bf] (any_of HT_.out (by kernel_rfl)) ?_ ?_ ?_
        rotate_left
        ·intro w';go_simp;with_reducible rfl
        rotate_left
        ·simp only [Act.put,q_ia10,q_cz10,q_cs10,i64_w,i32_w];rfl
        refine pQ (i:=5) (N:=some 21) (v:=?_) (a':=?_) #[bT,bT,bT,bT,bT,bT,bf,bf,bf,bf,bf] (any_of HT_.out (by kernel_rfl)) ?_ ?_ ?_
        rotate_left
        ·intro w';go_simp;with_reducible rfl
        rotate_left
        ·simp only [Act.put,q_ia10,q_cz10,q_cs10,i64_w,i32_w];rfl
        refine pQ (i:=7) (N:=some 23) (v:=?_) (a':=?_) #[bT,bT,bT,bT,bT,bT,bf,bT,bf,bf,bf] (any_of HT_.out (by kernel_rfl)) ?_ ?_ ?_
        rotate_left
        ·intro w';go_simp;with_reducible rfl
        rotate_left
        ·simp only [Act.put,q_ia10,q_cz10,q_cs10,i64_w,i32_w];rfl
        refine take_ (i:=6) (N:=some 22) (v:=?_) (a':=?_) #[bT,bT,bT,bT,bT,bT,bT,bT,bf,bf,bf] rfl rfl (take_ofW HT_.out HW_.out (by kernel_rfl)) (fun _ _ _ h => h) (Or.inl ⟨by rfl,?_⟩) hHeld ?_ ?_
        rotate_left
        ·rintro w' ⟨s0,s1,s2⟩
         go_simp
         with_reducible rfl
        rotate_left
        ·simp only [Act.put,q_ia10,q_cz10,q_cs10,i64_w,i32_w];rfl
        refine one_ (i:=8) (N:=some 24) #[bT,bT,bT,bT,bT,bT,bT,bT,bT,bf,bf] rfl rfl (one_of HT_.out (by kernel_rfl)) (by decide) (fun K hK => ?_)
        refine goes_ Try.func42 (by kernel_rfl) rfl #[.string a2] (by rfl) rfl rfl (by (try simp only [List.map_toArray,List.map_cons,List.map_nil]);first|done|rfl|(simp only [List.length_drop,List.length_take];rfl)) ?_
        with_reducible refine (impl_Cut.calls a2 t369 _ A10.out).mono ?_
        rintro e w24 ⟨rfl,hb⟩
        refine ⟨_,rfl,?_⟩
        have n0_:=aM (bH BK366.out hb)
        have n1_:=aM (bH BK368.out hb)
        have n2_:=aM (lQ HB.out hb)
        clear BK366
        clear BK368
        clear HB
        have BK366:=n0_
        have BK368:=n1_
        have HB:=n2_
        clear n0_ n1_ n2_
        (try clear hb)
        (try clear hb2)
        (try clear hk)
        (try clear hi)
        refine hK.out _ _ ⟨(bC BK368.out 0).trans rfl,(bC BK368.out 1).trans rfl,(bC BK368.out 2).trans rfl⟩ (fun hHeld => ?_)
        clear hK K
        refine norm_ (a':=?_) ?_ ?_
        rotate_left
        ·show Act.put _ (some 24) _ = _
         simp only [Act.put,q_ia10,q_cz10,q_cs10,i64_w,i32_w]
         rfl
        refine pQ (i:=9) (N:=some 25) (v:=?_) (a':=?_) #[bT,bT,bT,bT,bT,bT,bT,bT,bT,bT,bf] (any_of HT_.out (by kernel_rfl)) ?_ ?_ ?_
        rotate_left
        ·intro w';go_simp;with_reducible rfl
        rotate_left
        ·simp only [Act.put,q_ia10,q_cz10,q_cs10,i64_w,i32_w];rfl
        refine pQ (i:=10) (N:=some 26) (v:=?_) (a':=?_) #[bT,bT,bT,bT,bT,bT,bT,bT,bT,bT,bT] (any_of HT_.out (by kernel_rfl)) ?_ ?_ ?_
        rotate_left
        ·intro w';go_simp;with_reducible rfl
        rotate_left
        ·simp only [Act.put,q_ia10,q_cz10,q_cs10,i64_w,i32_w];rfl
        refine done_ (done_of HT_.out (by kernel_rfl)) ?_
        try go_wp2
        go_roundg k1
        case measure => have:=HK1.out;omega
        case rel => exact ⟨(wrap64 (x12_1 + 1)),(by first|rfl|(simp;done)|(simp [*];done)),H',⟨by have:=HK1.out;omega⟩,⟨by (with_reducible repeat (first|refine bN ?_ _|refine bD ?_|refine bA ?_ _));exact BK366.out⟩,⟨by repeat (first|(with_reducible first|exact HB.out|apply lA|apply lN|apply lD|refine lS ?_ GE366.out|refine lS ?_ GE368.out)|exact HB.out)⟩⟩
      ·rw [if_neg c9] at H
       have c9b0 : (((rd_T57 l0_1 x12_1).f0).toList == a1.toList) = false:=beq_eq_false_iff_ne.mpr c9
       have c9b1 : (((rd_T57 l0_1 x12_1).f0).toList != a1.toList) = true:=bne_iff_ne.mpr c9
       have H':=aM H
       clear H
       have p367 : 0 ≤ (x12_1 : Int):=of_decide_eq_true (by first|(with_reducible assumption)|assumption)
       have q367 : x12_1 < (l0_1.length : Int):=of_decide_eq_true (by first|(with_reducible assumption)|assumption)
       obtain ⟨ad367,e367,hx367_0,hx367_1,hx367_2⟩:=at_T57 HR0_1.out x12_1 p367 q367
       cases e367
       replace hx367_0:=(HB.out.cell (World.block_lt_of_cell? w _ hx367_0)).trans hx367_0
       replace hx367_1:=(HB.out.cell (World.block_lt_of_cell? w _ hx367_1)).trans hx367_1
       replace hx367_2:=(HB.out.cell (World.block_lt_of_cell? w _ hx367_2)).trans hx367_2
       replace p367:=eq_true p367
       replace q367:=eq_true q367
       try go_wp2_with (first|((with_reducible refine gate_dst (N:=8) rfl ?_);refine box_event ?hg (N:=8) ?hd (cs:=#[.string (⟨#[]⟩ : ByteArray),.string (⟨#[]⟩ : ByteArray),.string (⟨#[]⟩ : ByteArray)]) (t:=57) ?hr ?_;(case hd => rfl);(case hg => rfl);(case hr => first|(go_simp;done)|(go_simp;rfl));intro gb368 hg w25 hbox hb;have n0_:=aM (bH BK366.out hb);have n1_:=aM (lQ HB.out hb);have n2_:=aM (hbox);have n3_:=aM ((sQ hg HB.out : w.heap.size ≤ gb368));have n4_:=n3_;have n5_:=aM ((nL hg BK366.out : gb366 ≠ gb368));have n6_:=aM ((nG hg BK366.out : gb368 ≠ gb366));clear BK366 HB;have BK366:=n0_;have HB:=n1_;have BK368:=n2_;have GW368:=n3_;have GE368:=n4_;have NB366_368:=n5_;have NB368_366:=n6_;clear n0_ n1_ n2_ n3_ n4_ n5_ n6_ hb hbox hg;have hnb26:=NB368_366.out;have hnc26:=NB366_368.out;obtain ⟨⟨hcz27_0,hcz27_1,hcz27_2⟩,hfz27_0,hfz27_1,hfz27_2⟩:=bC3 BK368.out))
       have n0_ : Aside0 ((((w25.setCell ⟨gb368,0,none⟩ (.string ((rd_T57 l0_1 x12_1).f0))).setCell ⟨gb368,1,none⟩ (.string ((rd_T57 l0_1 x12_1).f1))).setCell ⟨gb368,2,none⟩ (.string ((rd_T57 l0_1 x12_1).f2))).heap[gb366]? = some (.cells #[.slice A0_0 l0_0.length c0_0,.slice (some ad367) l0_1.length c0_1,.string a0_2] 38 (0,0))):=⟨by (with_reducible repeat (first|refine bN ?_ _|refine bD ?_|refine bA ?_ _));refine blk_far ?_ NB366_368.out _;(with_reducible repeat (first|refine bN ?_ _|refine bD ?_|refine bA ?_ _));refine blk_far ?_ NB366_368.out _;(with_reducible repeat (first|refine bN ?_ _|refine bD ?_|refine bA ?_ _));refine blk_far ?_ NB366_368.out _;(with_reducible repeat (first|refine bN ?_ _|refine bD ?_|refine bA ?_ _));exact BK366.out⟩
       have n1_ : Aside0 ((((w25.setCell ⟨gb368,0,none⟩ (.string ((rd_T57 l0_1 x12_1).f0))).setCell ⟨gb368,1,none⟩ (.string ((rd_T57 l0_1 x12_1).f1))).setCell ⟨gb368,2,none⟩ (.string ((rd_T57 l0_1 x12_1).f2))).heap[gb368]? = some (.cells #[.string ((rd_T57 l0_1 x12_1).f0),.string ((rd_T57 l0_1 x12_1).f1),.string ((rd_T57 l0_1 x12_1).f2)] 57 (0,0))):=⟨by (with_reducible repeat (first|refine bN ?_ _|refine bD ?_|refine bA ?_ _));refine blk_put (cs:=#[.string ((rd_T57 l0_1 x12_1).f0),.string ((rd_T57 l0_1 x12_1).f1),.string (⟨#[]⟩ : ByteArray)]) ?_ 2 _ rfl;(with_reducible repeat (first|refine bN ?_ _|refine bD ?_|refine bA ?_ _));refine blk_put (cs:=#[.string ((rd_T57 l0_1 x12_1).f0),.string (⟨#[]⟩ : ByteArray),.string (⟨#[]⟩ : ByteArray)]) ?_ 1 _ rfl;(with_reducible repeat (first|refine bN ?_ _|refine bD ?_|refine bA ?_ _));refine blk_put (cs:=#[.string (⟨#[]⟩ : ByteArray),.string (⟨#[]⟩ : ByteArray),.string (⟨#[]⟩ : ByteArray)]) ?_ 0 _ rfl;(with_reducible repeat (first|refine bN ?_ _|refine bD ?_|refine bA ?_ _));exact BK368.out⟩
       have n2_ : Aside0 (Below w.heap.size w (((w25.setCell ⟨gb368,0,none⟩ (.string ((rd_T57 l0_1 x12_1).f0))).setCell ⟨gb368,1,none⟩ (.string ((rd_T57 l0_1 x12_1).f1))).setCell ⟨gb368,2,none⟩ (.string ((rd_T57 l0_1 x12_1).f2)))):=⟨by repeat (first|(with_reducible first|exact HB.out|apply lA|apply lN|apply lD|refine lS ?_ GE366.out|refine lS ?_ GE368.out)|exact HB.out)⟩
       (try clear BK366)
       (try clear BK368)
       (try clear HB)
       generalize (((w25.setCell ⟨gb368,0,none⟩ (.string ((rd_T57 l0_1 x12_1).f0))).setCell ⟨gb368,1,none⟩ (.string ((rd_T57 l0_1 x12_1).f1))).setCell ⟨gb368,2,none⟩ (.string ((rd_T57 l0_1 x12_1).f2))) = w28 at n0_ n1_ n2_ ⊢
       have BK366:=n0_
       have BK368:=n1_
       have HB:=n2_
       clear n0_ n1_ n2_
       have n0_:=aM (bD BK366.out)
       have n1_:=aM (bD BK368.out)
       have n2_:=aM (lD HB.out)
       clear BK366
       clear BK368
       clear HB
       have BK366:=n0_
       have BK368:=n1_
       have HB:=n2_
       clear n0_ n1_ n2_
       refine start_ (n:=11) (S:=fun w' => w'.cell? ⟨gb368,0,none⟩ = some (.string ((rd_T57 l0_1 x12_1).f0)) ∧ w'.cell? ⟨gb368,1,none⟩ = some (.string ((rd_T57 l0_1 x12_1).f1)) ∧ w'.cell? ⟨gb368,2,none⟩ = some (.string ((rd_T57 l0_1 x12_1).f2))) (ds:=[]) #[bf,bf,bf,bf,bf,bf,bf,bf,bf,bf,bf] (by kernel_rfl) rfl rfl ⟨(bC BK368.out 0).trans rfl,(bC BK368.out 1).trans rfl,(bC BK368.out 2).trans rfl⟩ (fun hHeld => ?_);refine with_tabW impl_CellOf.tab4 impl_CellOf.bits4 (fun HT_ HW_ => ?_)
       generalize w28.drew = w29 at BK366 BK368 HB hHeld ⊢
       refine pQ (i:=0) (N:=some 16) (v:=?_) (a':=?_) #[bT,bf,bf,bf,bf,bf,bf,bf,bf,bf,bf] (any_of HT_.out (by kernel_rfl)) ?_ ?_ ?_
       rotate_left
       ·intro w';go_simp;with_reducible rfl
       rotate_left
       ·simp only [Act.put,q_ia10,q_cz10,q_cs10,i64_w,i32_w];rfl
       refine pQ (i:=2) (N:=some 18) (v:=?_) (a':=?_) #[bT,bf,bT,bf,bf,bf,bf,bf,bf,bf,bf] (any_of HT_.out (by kernel_rfl)) ?_ ?_ ?_
       rotate_left
       ·intro w';go_simp;with_reducible rfl
       rotate_left
       ·simp only [Act.put,q_ia10,q_cz10,q_cs10,i64_w,i32_w];rfl
       refine take_ (i:=1) (N:=some 17) (v:=?_) (a':=?_) #[bT,bT,bT,bf,bf,bf,bf,bf,bf,bf,bf] rfl rfl (take_ofW HT_.out HW_.out (by kernel_rfl)) (fun _ _ _ h => h) (Or.inl ⟨by rfl,?_⟩) hHeld ?_ ?_
       rotate_left
       ·rintro w' ⟨s0,s1,s2⟩
        go_simp
        with_reducible rfl
       rotate_left
       ·simp only [Act.put,q_ia10,q_cz10,q_cs10,i64_w,i32_w];rfl
       refine pQ (i:=3) (N:=some 19) (v:=?_) (a':=?_) #[bT,bT,bT,bT,bf,bf,bf,bf,bf,bf,bf] (any_of HT_.out (by kernel_rfl)) ?_ ?_ ?_
       rotate_left
       ·intro w';go_simp;with_reducible rfl
       rotate_left
       ·simp only [Act.put,q_ia10,q_cz10,q_cs10,i64_w,i32_w];rfl
       refine pQ (i:=4) (N:=some 20) (v:=?_) (a':=?_) #[bT,bT,bT,bT,bT,bf,bf,bf,bf,bf,bf] (any_of HT_.out (by kernel_rfl)) ?_ ?_ ?_
       rotate_left
       ·intro w';go_simp;with_reducible rfl
       rotate_left
       ·simp only [Act.put,q_ia10,q_cz10,q_cs10,i64_w,i32_w];rfl
       refine pure_ (i:=5) (N:=some 21) (v:=undef) (a':=?_) #[bT,bT,bT,bT,bT,bT,bf,bf,bf,bf,bf] rfl rfl (any_of HT_.out (by kernel_rfl)) (fun _ _ _ h => h) (Or.inr ⟨by rfl,rfl⟩) ?_ ?_
       rotate_left
       ·simp only [Act.put,q_ia10,q_cz10,q_cs10,i64_w,i32_w];rfl
       refine pure_ (i:=6) (N:=some 22) (v:=undef) (a':=?_) #[bT,bT,bT,bT,bT,bT,bT,bf,bf,bf,bf] rfl rfl (any_of HT_.out (by kernel_rfl)) (fun _ _ _ h => h) (Or.inr ⟨by rfl,rfl⟩) ?_ ?_
       rotate_left
       ·simp only [Act.put,q_ia10,q_cz10,q_cs10,i64_w,i32_w];rfl
       refine pure_ (i:=7) (N:=some 23) (v:=undef) (a':=?_) #[bT,bT,bT,bT,bT,bT,bT,bT,bf,bf,bf] rfl rfl (any_of HT_.out (by kernel_rfl)) (fun _ _ _ h => h) (Or.inr ⟨by rfl,rfl⟩) ?_ ?_
       rotate_left
       ·simp only [Act.put,q_ia10,q_cz10,q_cs10,i64_w,i32_w];rfl
       refine pure_ (i:=8) (N:=some 24) (v:=undef) (a':=?_) #[bT,bT,bT,bT,bT,bT,bT,bT,bT,bf,bf] rfl rfl (any_of HT_.out (by kernel_rfl)) (fun _ _ _ h => h) (Or.inr ⟨by rfl,rfl⟩) ?_ ?_
       rotate_left
       ·simp only [Act.put,q_ia10,q_cz10,q_cs10,i64_w,i32_w];rfl
       refine pure_ (i:=9) (N:=some 25) (v:=undef) (a':=?_) #[bT,bT,bT,bT,bT,bT,bT,bT,bT,bT,bf] rfl rfl (any_of HT_.out (by kernel_rfl)) (fun _ _ _ h => h) (Or.inr ⟨by rfl,rfl⟩) ?_ ?_
       rotate_left
       ·simp only [Act.put,q_ia10,q_cz10,q_cs10,i64_w,i32_w];rfl
       refine pQ (i:=10) (N:=some 26) (v:=?_) (a':=?_) #[bT,bT,bT,bT,bT,bT,bT,bT,bT,bT,bT] (any_of HT_.out (by kernel_rfl)) ?_ ?_ ?_
       rotate_left
       ·intro w';go_simp;with_reducible rfl
       rotate_left
       ·simp only [Act.put,q_ia10,q_cz10,q_cs10,i64_w,i32_w];rfl
       refine done_ (done_of HT_.out (by kernel_rfl)) ?_
       try go_wp2
       go_roundg k1
       case measure => have:=HK1.out;omega
       case rel => exact ⟨(wrap64 (x12_1 + 1)),(by first|rfl|(simp;done)|(simp [*];done)),H',⟨by have:=HK1.out;omega⟩,⟨by (with_reducible repeat (first|refine bN ?_ _|refine bD ?_|refine bA ?_ _));exact BK366.out⟩,⟨by repeat (first|(with_reducible first|exact HB.out|apply lA|apply lN|apply lD|refine lS ?_ GE366.out|refine lS ?_ GE368.out)|exact HB.out)⟩⟩
     ·rw [if_neg c8] at H
      exact absurd H (by simp)
    ·rw [if_neg c7] at H
     exact absurd H (by simp)
   ·rw [if_neg c6] at H
    have c6b0 : decide (x12_1 < (l0_1.length : Int)) = false:=decide_eq_false c6
    clear c6
    obtain rfl:=Option.some.inj H
    go_wp2
    go_ret
    exact ⟨by first|rfl|(simp [errW_none,errW_some] <;> rfl)|(simp [*,errW_none,errW_some] <;> rfl),by repeat (first|(with_reducible first|exact HB.out|apply lA|apply lN|apply lD|refine lS ?_ GE366.out)|exact HB.out)⟩

end Go.Proofs.Ytodpkfidkilpdaa.QFnCells
