-- A text of this session, made by wip/own_print.py (the kit's print with additions of ours).
import Derived.Test.YtodpkfidkilpdaaQFnExactSetCellx0
import Derived.Test.YtodpkfidkilpdaaQFnExactSetCellx3
namespace Go.Proofs.Ytodpkfidkilpdaa.QFnExactSetCell
open Go.RowKit Go.Proofs.YtodpkfidkilpdaaW.PrintWords Go.Proofs.YtodpkfidkilpdaaW.PrintLast Go.Proofs.YtodpkfidkilpdaaW.PrintMore
attribute [local go_sem] max2_int min2_int max_two min_two max_three min_three max_four min_four   -- for this text's walks alone
set_option linter.unusedVariables false
set_option linter.unusedSimpArgs false
open Bool renaming true → bT, false → bf
open Go.Proofs.YtodpkfidkilpdaaW.PrintWords.Kd renaming R_alloc → rA, R_drewN → rN, R_drew → rD, C_alloc → cA, C_drewN → cN, C_drew → cD, R_far → rF, R_below → rB, R_lower → rL, R_lt → rT, R_base → rS, C_below → cB, R_types → rY, R_elder' → rE, R_reads' → rR, R_new' → rW
open Go.Proofs.YtodpkfidkilpdaaW.PrintWords renaming blk_drewN → bN, blk_drew → bD, blk_alloc → bA, below_set → lS, pw_below_drewN → lN, below_drew1 → lD, below_alloc → lA, blk_cell → bC, blk_below → bB, below_size → lZ, below_step → lP, blk_lt → bL, blk_frozen → bF
open Go.Proofs.YtodpkfidkilpdaaW.PrintWords.Aside0 renaming mk → aM
theorem q_ia5 {α : Type} (l : List α) (i : Nat) (a : α) : l.toArray.setIfInBounds i a = (l.set i a).toArray := List.setIfInBounds_toArray ..
theorem q_cz5 {α : Type} (a b : α) (l : List α) : (a :: l).set 0 b = b :: l := rfl
theorem q_cs5 {α : Type} (a b : α) (l : List α) (n : Nat) : (a :: l).set (n + 1) b = a :: l.set n b := rfl

/-! ### laws_heldVarS: function 60 -/
def laws_heldVarS.l0 : Nat → List (S53) → Int → Int → Option (Int)
 | 0, _, _, _ => none
 | k + 1, x0, x1, x5 => if x5 < (x0.length : Int) then (if 0 ≤ x5 then ((laws_markText.f k x1).bind fun t173 => (if ((rd_T53 x0 x5).f0).toList = t173.toList then ((laws_markText.f k (wrap64 (x1 + 1))).bind fun t175 => (if ((rd_T53 x0 x5).f1).toList = t175.toList then (laws_heldVarS.l0 k x0 (wrap64 ((wrap64 (x1 + 1)) + 1)) (wrap64 (x5 + 1))) else (some (-1)))) else (some (-1)))) else (none)) else (some x1)
def laws_heldVarS.f (k : Nat) (l0 : List (S53)) (a1 : Int) : Option (Int) := laws_heldVarS.l0 k l0 a1 0
theorem laws_heldVarS.mono_l : ∀ k, (∀ y0 y1 y2, LeO (laws_heldVarS.l0 k y0 y1 y2) (laws_heldVarS.l0 (k + 1) y0 y1 y2))
 | 0 => fun _ _ _ r h => by simp [laws_heldVarS.l0] at h
 | k + 1 => by
  have ih0 := laws_heldVarS.mono_l k
  ·intro y0 y1 y2
   unfold laws_heldVarS.l0
   repeat' first
   | (with_reducible exact ih0 _ _ _)
   | (with_reducible exact laws_markText.mono _ _)
   | (with_reducible exact LeO.refl _)
   | (with_reducible exact LeO.none _)
   | (with_reducible refine LeO.ite ?_ ?_)
   | (with_reducible refine LeO.bind ?_ (fun _ => ?_))
   | exact ih0 _ _ _
   | exact laws_markText.mono _ _
   | exact LeO.none _
   | refine LeO.ite ?_ ?_
   | refine LeO.bind ?_ (fun _ => ?_)
theorem laws_heldVarS.mono : ∀ a0 a1 k, LeO (laws_heldVarS.f k a0 a1) (laws_heldVarS.f (k + 1) a0 a1) := by
 intro a0 a1 k
 have ih0 := laws_heldVarS.mono_l k
 unfold laws_heldVarS.f
 repeat' first
   | (with_reducible exact ih0 _ _ _)
   | (with_reducible exact laws_markText.mono _ _)
   | (with_reducible exact LeO.refl _)
   | (with_reducible exact LeO.none _)
   | (with_reducible refine LeO.ite ?_ ?_)
   | (with_reducible refine LeO.bind ?_ (fun _ => ?_))
   | exact ih0 _ _ _
   | exact laws_markText.mono _ _
   | exact LeO.none _
   | refine LeO.ite ?_ ?_
   | refine LeO.bind ?_ (fun _ => ?_)
def laws_heldVarS.T4 : Bool × List (List Nat × List Nat) := (true, [([], []), ([], []), ([0, 1], [0, 1]), ([2], [2]), ([3], [3]), ([], []), ([5], [5]), ([4, 6], [4, 6])])
def laws_heldVarS.B4 : List Nat := [0, 0, 3, 7, 15, 0, 32, 127]
theorem laws_heldVarS.tab4 : rtab .any (opsOf Try.f60 4) = laws_heldVarS.T4 := by kernel_rfl
theorem laws_heldVarS.bits4 : waitsOk laws_heldVarS.T4.2 laws_heldVarS.B4 = true := by kernel_rfl
def laws_heldVarS.T7 : Bool × List (List Nat × List Nat) := (true, [([], []), ([], []), ([0, 1], [0, 1]), ([2], [2]), ([3], [3]), ([], []), ([5], [5]), ([4, 6], [4, 6])])
def laws_heldVarS.B7 : List Nat := [0, 0, 3, 7, 15, 0, 32, 127]
theorem laws_heldVarS.tab7 : rtab .any (opsOf Try.f60 7) = laws_heldVarS.T7 := by kernel_rfl
theorem laws_heldVarS.bits7 : waitsOk laws_heldVarS.T7.2 laws_heldVarS.B7 = true := by kernel_rfl
set_option maxHeartbeats 8000000 in
set_option maxRecDepth 100000 in
theorem laws_heldVarS.calls (k : Nat) (A0 : Option Addr) (c0 : Nat) (l0 : List (S53)) (a1 : Int) (r : Int) (w : World) (hr0 : Kd.C k53 w A0 l0.length l0) (hc0 : l0.length ≤ c0) (h : laws_heldVarS.f k l0 a1 = some r) :
  Calls Try.prog 60 #[.slice A0 l0.length c0,.int .i64 a1] w fun e w' => e = .returned (.int .i64 r) ∧ Below w.heap.size w w':=by
 have HR0:=aM hr0
 have HC0:=aM hc0
 clear hr0 hc0
 have HB:=aM (Below.refl w.heap.size w)
 have H : (laws_heldVarS.l0 k l0 a1 0) = some r:=h
 clear h
 have H':=aM H
 clear H
 go_enter Try.func60,Try.ntmps60
 go_wp2
 go_loopg [1,5] k (fun kq v1 v5 w' => ∃ (x1_1 : Int) (x5_1 : Int),v1 = .int .i64 x1_1 ∧ v5 = .int .i64 x5_1 ∧ Aside0 (laws_heldVarS.l0 kq l0 x1_1 x5_1 = some r) ∧ Aside0 (kq ≤ k) ∧ Aside0 (Below w.heap.size w w'))
 case atStart => exact ⟨(a1),(0),(by first|rfl|(simp;done)|(simp [*];done)),(by first|rfl|(simp;done)|(simp [*];done)),H',⟨Nat.le_refl _⟩,⟨by repeat (first|(with_reducible first|exact HB.out|apply lA|apply lN|apply lD)|exact HB.out)⟩⟩
 case round =>
  clear H'
  try clear p2
  obtain ⟨x1_1,x5_1,rfl,rfl,HA,HK1,HB⟩:=hrel
  cases gk with
  |zero => exact absurd HA.out (by simp [laws_heldVarS.l0])
  |succ k1 =>
   have H:=HA.out
   clear HA
   simp only [laws_heldVarS.l0] at H
   by_cases c3 : x5_1 < (l0.length : Int)
   ·rw [if_pos c3] at H
    have c3b0 : decide (x5_1 < (l0.length : Int)) = true:=decide_eq_true c3
    clear c3
    by_cases c4 : 0 ≤ x5_1
    ·rw [if_pos c4] at H
     have c4b0 : decide (0 ≤ x5_1) = true:=decide_eq_true c4
     clear c4
     replace H:=Option.bind_eq_some_iff.mp H
     obtain ⟨t173,A50,H⟩:=H
     replace H : (if ((rd_T53 l0 x5_1).f0).toList = t173.toList then ((laws_markText.f k1 (wrap64 (x1_1 + 1))).bind fun t175 => (if ((rd_T53 l0 x5_1).f1).toList = t175.toList then (laws_heldVarS.l0 k1 l0 (wrap64 ((wrap64 (x1_1 + 1)) + 1)) (wrap64 (x5_1 + 1))) else (some (-1)))) else (some (-1))) = some r:=H
     have A5:=aM A50
     clear A50
     by_cases c6 : ((rd_T53 l0 x5_1).f0).toList = t173.toList
     ·rw [if_pos c6] at H
      have c6b0 : (((rd_T53 l0 x5_1).f0).toList == t173.toList) = true:=beq_iff_eq.mpr c6
      have c6b1 : (((rd_T53 l0 x5_1).f0).toList != t173.toList) = false:=bne_eq_false_iff_eq.mpr c6
      clear c6
      replace H:=Option.bind_eq_some_iff.mp H
      obtain ⟨t175,A70,H⟩:=H
      replace H : (if ((rd_T53 l0 x5_1).f1).toList = t175.toList then (laws_heldVarS.l0 k1 l0 (wrap64 ((wrap64 (x1_1 + 1)) + 1)) (wrap64 (x5_1 + 1))) else (some (-1))) = some r:=H
      have A7:=aM A70
      clear A70
      by_cases c8 : ((rd_T53 l0 x5_1).f1).toList = t175.toList
      ·rw [if_pos c8] at H
       have c8b0 : (((rd_T53 l0 x5_1).f1).toList == t175.toList) = true:=beq_iff_eq.mpr c8
       have c8b1 : (((rd_T53 l0 x5_1).f1).toList != t175.toList) = false:=bne_eq_false_iff_eq.mpr c8
       clear c8
       have H':=aM H
       clear H
       try go_wp2
       have n0_:=aM (lD HB.out)
       clear HB
       have HB:=n0_
       clear n0_
       have p172 : 0 ≤ (x5_1 : Int):=of_decide_eq_true (by first|(with_reducible assumption)|assumption)
       have q172 : x5_1 < (l0.length : Int):=of_decide_eq_true (by first|(with_reducible assumption)|assumption)
       obtain ⟨ad172,e172,hx172_0,hx172_1⟩:=at_T53 HR0.out x5_1 p172 q172
       have hw172_1:=hx172_1
       have hw172_0:=hx172_0
       cases e172
       replace hx172_0:=(HB.out.cell (World.block_lt_of_cell? w _ hx172_0)).trans hx172_0
       replace hx172_1:=(HB.out.cell (World.block_lt_of_cell? w _ hx172_1)).trans hx172_1
       replace p172:=eq_true p172
       replace q172:=eq_true q172
       refine start_ (n:=8) (S:=fun w' => w'.cell? (ad172.add ((x5_1).toNat * 2)) = some (.string ((rd_T53 l0 x5_1).f0)) ∧ w'.cell? ⟨(ad172.add ((x5_1).toNat * 2)).block,(ad172.add ((x5_1).toNat * 2)).off + 1,none⟩ = some (.string ((rd_T53 l0 x5_1).f1))) (ds:=[]) #[bf,bf,bf,bf,bf,bf,bf,bf] (by kernel_rfl) rfl rfl ⟨((HB.out.cell (World.block_lt_of_cell? w _ hw172_0)).trans hw172_0),((HB.out.cell (World.block_lt_of_cell? w _ hw172_1)).trans hw172_1)⟩ (fun hHeld => ?_);refine with_tabW laws_heldVarS.tab4 laws_heldVarS.bits4 (fun HT_ HW_ => ?_)
       generalize wr.drew = w9 at HB hx172_0 hx172_1 hHeld ⊢
       refine pQ (i:=0) (N:=some 12) (v:=?_) (a':=?_) #[bT,bf,bf,bf,bf,bf,bf,bf] (any_of HT_.out (by kernel_rfl)) ?_ ?_ ?_
       rotate_left
       ·intro w';go_simp;with_reducible rfl
       rotate_left
       ·simp only [Act.put,q_ia5,q_cz5,q_cs5,i64_w,i32_w];rfl
       refine pQ (i:=1) (N:=some 13) (v:=?_) (a':=?_) #[bT,bT,bf,bf,bf,bf,bf,bf] (any_of HT_.out (by kernel_rfl)) ?_ ?_ ?_
       rotate_left
       ·intro w';go_simp;with_reducible rfl
       rotate_left
       ·simp only [Act.put,q_ia5,q_cz5,q_cs5,i64_w,i32_w];rfl
       refine pQ (i:=2) (N:=some 14) (v:=?_) (a':=?_) #[bT,bT,bT,bf,bf,bf,bf,bf] (any_of HT_.out (by kernel_rfl)) ?_ ?_ ?_
       rotate_left
       ·intro w';go_simp;with_reducible rfl
       rotate_left
       ·simp only [Act.put,q_ia5,q_cz5,q_cs5,i64_w,i32_w];rfl
       refine pQ (i:=3) (N:=some 15) (v:=?_) (a':=?_) #[bT,bT,bT,bT,bf,bf,bf,bf] (any_of HT_.out (by kernel_rfl)) ?_ ?_ ?_
       rotate_left
       ·intro w';go_simp;with_reducible rfl
       rotate_left
       ·simp only [Act.put,q_ia5,q_cz5,q_cs5,i64_w,i32_w];rfl
       refine pQ (i:=5) (N:=some 17) (v:=?_) (a':=?_) #[bT,bT,bT,bT,bf,bT,bf,bf] (any_of HT_.out (by kernel_rfl)) ?_ ?_ ?_
       rotate_left
       ·intro w';go_simp;with_reducible rfl
       rotate_left
       ·simp only [Act.put,q_ia5,q_cz5,q_cs5,i64_w,i32_w];rfl
       refine take_ (i:=4) (N:=some 16) (v:=?_) (a':=?_) #[bT,bT,bT,bT,bT,bT,bf,bf] rfl rfl (take_ofW HT_.out HW_.out (by kernel_rfl)) (fun _ _ _ h => h) (Or.inl ⟨by rfl,?_⟩) hHeld ?_ ?_
       rotate_left
       ·rintro w' ⟨s0,s1⟩
        go_simp
        with_reducible rfl
       rotate_left
       ·simp only [Act.put,q_ia5,q_cz5,q_cs5,i64_w,i32_w];rfl
       refine one_ (i:=6) (N:=some 18) #[bT,bT,bT,bT,bT,bT,bT,bf] rfl rfl (one_of HT_.out (by kernel_rfl)) (by decide) (fun K hK => ?_)
       refine goes_ Try.func43 (by kernel_rfl) rfl #[.int .i64 x1_1] (by rfl) rfl rfl (by (try simp only [List.map_toArray,List.map_cons,List.map_nil]);first|done|rfl|(simp only [List.length_drop,List.length_take];rfl)) ?_
       with_reducible refine (laws_markText.calls k1 x1_1 t173 _ A5.out).mono ?_
       rintro e w10 ⟨rfl,hb⟩
       refine ⟨_,rfl,?_⟩
       have n0_:=aM (lQ HB.out hb)
       clear HB
       have HB:=n0_
       clear n0_
       (try clear hb)
       (try clear hb2)
       (try clear hk)
       (try clear hi)
       refine hK.out _ _ ⟨((HB.out.cell (World.block_lt_of_cell? w _ hw172_0)).trans hw172_0),((HB.out.cell (World.block_lt_of_cell? w _ hw172_1)).trans hw172_1)⟩ (fun hHeld => ?_)
       clear hK K
       refine norm_ (a':=?_) ?_ ?_
       rotate_left
       ·show Act.put _ (some 18) _ = _
        simp only [Act.put,q_ia5,q_cz5,q_cs5,i64_w,i32_w]
        rfl
       refine pQ (i:=7) (N:=some 19) (v:=?_) (a':=?_) #[bT,bT,bT,bT,bT,bT,bT,bT] (any_of HT_.out (by kernel_rfl)) ?_ ?_ ?_
       rotate_left
       ·intro w';go_simp;with_reducible rfl
       rotate_left
       ·simp only [Act.put,q_ia5,q_cz5,q_cs5,i64_w,i32_w];rfl
       refine done_ (done_of HT_.out (by kernel_rfl)) ?_
       try go_wp2
       have n0_:=aM (lD HB.out)
       clear HB
       have HB:=n0_
       clear n0_
       have p174 : 0 ≤ (x5_1 : Int):=of_decide_eq_true (by first|(with_reducible assumption)|assumption)
       have q174 : x5_1 < (l0.length : Int):=of_decide_eq_true (by first|(with_reducible assumption)|assumption)
       obtain ⟨ad174,e174,hx174_0,hx174_1⟩:=at_T53 HR0.out x5_1 p174 q174
       have hw174_1:=hx174_1
       have hw174_0:=hx174_0
       obtain rfl : ad172 = ad174:=(by injection e174)
       replace hx174_0:=(HB.out.cell (World.block_lt_of_cell? w _ hx174_0)).trans hx174_0
       replace hx174_1:=(HB.out.cell (World.block_lt_of_cell? w _ hx174_1)).trans hx174_1
       replace p174:=eq_true p174
       replace q174:=eq_true q174
       refine start_ (n:=8) (S:=fun w' => w'.cell? (ad172.add ((x5_1).toNat * 2)) = some (.string ((rd_T53 l0 x5_1).f0)) ∧ w'.cell? ⟨(ad172.add ((x5_1).toNat * 2)).block,(ad172.add ((x5_1).toNat * 2)).off + 1,none⟩ = some (.string ((rd_T53 l0 x5_1).f1))) (ds:=[]) #[bf,bf,bf,bf,bf,bf,bf,bf] (by kernel_rfl) rfl rfl ⟨((HB.out.cell (World.block_lt_of_cell? w _ hw174_0)).trans hw174_0),((HB.out.cell (World.block_lt_of_cell? w _ hw174_1)).trans hw174_1)⟩ (fun hHeld => ?_);refine with_tabW laws_heldVarS.tab7 laws_heldVarS.bits7 (fun HT_ HW_ => ?_)
       generalize w10.drew = w11 at HB hx174_0 hx174_1 hHeld ⊢
       refine pQ (i:=0) (N:=some 22) (v:=?_) (a':=?_) #[bT,bf,bf,bf,bf,bf,bf,bf] (any_of HT_.out (by kernel_rfl)) ?_ ?_ ?_
       rotate_left
       ·intro w';go_simp;with_reducible rfl
       rotate_left
       ·simp only [Act.put,q_ia5,q_cz5,q_cs5,i64_w,i32_w];rfl
       refine pQ (i:=1) (N:=some 23) (v:=?_) (a':=?_) #[bT,bT,bf,bf,bf,bf,bf,bf] (any_of HT_.out (by kernel_rfl)) ?_ ?_ ?_
       rotate_left
       ·intro w';go_simp;with_reducible rfl
       rotate_left
       ·simp only [Act.put,q_ia5,q_cz5,q_cs5,i64_w,i32_w];rfl
       refine pQ (i:=2) (N:=some 24) (v:=?_) (a':=?_) #[bT,bT,bT,bf,bf,bf,bf,bf] (any_of HT_.out (by kernel_rfl)) ?_ ?_ ?_
       rotate_left
       ·intro w';go_simp;with_reducible rfl
       rotate_left
       ·simp only [Act.put,q_ia5,q_cz5,q_cs5,i64_w,i32_w];rfl
       refine pQ (i:=3) (N:=some 25) (v:=?_) (a':=?_) #[bT,bT,bT,bT,bf,bf,bf,bf] (any_of HT_.out (by kernel_rfl)) ?_ ?_ ?_
       rotate_left
       ·intro w';go_simp;with_reducible rfl
       rotate_left
       ·simp only [Act.put,q_ia5,q_cz5,q_cs5,i64_w,i32_w];rfl
       refine pQ (i:=5) (N:=some 27) (v:=?_) (a':=?_) #[bT,bT,bT,bT,bf,bT,bf,bf] (any_of HT_.out (by kernel_rfl)) ?_ ?_ ?_
       rotate_left
       ·intro w';go_simp;with_reducible rfl
       rotate_left
       ·simp only [Act.put,q_ia5,q_cz5,q_cs5,i64_w,i32_w];rfl
       refine take_ (i:=4) (N:=some 26) (v:=?_) (a':=?_) #[bT,bT,bT,bT,bT,bT,bf,bf] rfl rfl (take_ofW HT_.out HW_.out (by kernel_rfl)) (fun _ _ _ h => h) (Or.inl ⟨by rfl,?_⟩) hHeld ?_ ?_
       rotate_left
       ·rintro w' ⟨s0,s1⟩
        go_simp
        with_reducible rfl
       rotate_left
       ·simp only [Act.put,q_ia5,q_cz5,q_cs5,i64_w,i32_w];rfl
       refine one_ (i:=6) (N:=some 28) #[bT,bT,bT,bT,bT,bT,bT,bf] rfl rfl (one_of HT_.out (by kernel_rfl)) (by decide) (fun K hK => ?_)
       refine goes_ Try.func43 (by kernel_rfl) rfl #[.int .i64 (wrap64 (x1_1 + 1))] (by rfl) rfl rfl (by (try simp only [List.map_toArray,List.map_cons,List.map_nil]);first|done|rfl|(simp only [List.length_drop,List.length_take];rfl)) ?_
       with_reducible refine (laws_markText.calls k1 (wrap64 (x1_1 + 1)) t175 _ A7.out).mono ?_
       rintro e w12 ⟨rfl,hb⟩
       refine ⟨_,rfl,?_⟩
       have n0_:=aM (lQ HB.out hb)
       clear HB
       have HB:=n0_
       clear n0_
       (try clear hb)
       (try clear hb2)
       (try clear hk)
       (try clear hi)
       refine hK.out _ _ ⟨((HB.out.cell (World.block_lt_of_cell? w _ hw174_0)).trans hw174_0),((HB.out.cell (World.block_lt_of_cell? w _ hw174_1)).trans hw174_1)⟩ (fun hHeld => ?_)
       clear hK K
       refine norm_ (a':=?_) ?_ ?_
       rotate_left
       ·show Act.put _ (some 28) _ = _
        simp only [Act.put,q_ia5,q_cz5,q_cs5,i64_w,i32_w]
        rfl
       refine pQ (i:=7) (N:=some 29) (v:=?_) (a':=?_) #[bT,bT,bT,bT,bT,bT,bT,bT] (any_of HT_.out (by kernel_rfl)) ?_ ?_ ?_
       rotate_left
       ·intro w';go_simp;with_reducible rfl
       rotate_left
       ·simp only [Act.put,q_ia5,q_cz5,q_cs5,i64_w,i32_w];rfl
       refine done_ (done_of HT_.out (by kernel_rfl)) ?_
       try go_wp2
       go_roundg k1
       case measure => have:=HK1.out;omega
       case rel => exact ⟨(wrap64 ((wrap64 (x1_1 + 1)) + 1)),(wrap64 (x5_1 + 1)),(by first|rfl|(simp;done)|(simp [*];done)),(by first|rfl|(simp;done)|(simp [*];done)),H',⟨by have:=HK1.out;omega⟩,⟨by repeat (first|(with_reducible first|exact HB.out|apply lA|apply lN|apply lD)|exact HB.out)⟩⟩
      ·rw [if_neg c8] at H
       have c8b0 : (((rd_T53 l0 x5_1).f1).toList == t175.toList) = false:=beq_eq_false_iff_ne.mpr c8
       have c8b1 : (((rd_T53 l0 x5_1).f1).toList != t175.toList) = true:=bne_iff_ne.mpr c8
       obtain rfl:=Option.some.inj H
       try go_wp2
       have n0_:=aM (lD HB.out)
       clear HB
       have HB:=n0_
       clear n0_
       have p172 : 0 ≤ (x5_1 : Int):=of_decide_eq_true (by first|(with_reducible assumption)|assumption)
       have q172 : x5_1 < (l0.length : Int):=of_decide_eq_true (by first|(with_reducible assumption)|assumption)
       obtain ⟨ad172,e172,hx172_0,hx172_1⟩:=at_T53 HR0.out x5_1 p172 q172
       have hw172_1:=hx172_1
       have hw172_0:=hx172_0
       cases e172
       replace hx172_0:=(HB.out.cell (World.block_lt_of_cell? w _ hx172_0)).trans hx172_0
       replace hx172_1:=(HB.out.cell (World.block_lt_of_cell? w _ hx172_1)).trans hx172_1
       replace p172:=eq_true p172
       replace q172:=eq_true q172
       refine start_ (n:=8) (S:=fun w' => w'.cell? (ad172.add ((x5_1).toNat * 2)) = some (.string ((rd_T53 l0 x5_1).f0)) ∧ w'.cell? ⟨(ad172.add ((x5_1).toNat * 2)).block,(ad172.add ((x5_1).toNat * 2)).off + 1,none⟩ = some (.string ((rd_T53 l0 x5_1).f1))) (ds:=[]) #[bf,bf,bf,bf,bf,bf,bf,bf] (by kernel_rfl) rfl rfl ⟨((HB.out.cell (World.block_lt_of_cell? w _ hw172_0)).trans hw172_0),((HB.out.cell (World.block_lt_of_cell? w _ hw172_1)).trans hw172_1)⟩ (fun hHeld => ?_);refine with_tabW laws_heldVarS.tab4 laws_heldVarS.bits4 (fun HT_ HW_ => ?_)
       generalize wr.drew = w13 at HB hx172_0 hx172_1 hHeld ⊢
       refine pQ (i:=0) (N:=some 12) (v:=?_) (a':=?_) #[bT,bf,bf,bf,bf,bf,bf,bf] (any_of HT_.out (by kernel_rfl)) ?_ ?_ ?_
       rotate_left
       ·intro w';go_simp;with_reducible rfl
       rotate_left
       ·simp only [Act.put,q_ia5,q_cz5,q_cs5,i64_w,i32_w];rfl
       refine pQ (i:=1) (N:=some 13) (v:=?_) (a':=?_) #[bT,bT,bf,bf,bf,bf,bf,bf] (any_of HT_.out (by kernel_rfl)) ?_ ?_ ?_
       rotate_left
       ·intro w';go_simp;with_reducible rfl
       rotate_left
       ·simp only [Act.put,q_ia5,q_cz5,q_cs5,i64_w,i32_w];rfl
       refine pQ (i:=2) (N:=some 14) (v:=?_) (a':=?_) #[bT,bT,bT,bf,bf,bf,bf,bf] (any_of HT_.out (by kernel_rfl)) ?_ ?_ ?_
       rotate_left
       ·intro w';go_simp;with_reducible rfl
       rotate_left
       ·simp only [Act.put,q_ia5,q_cz5,q_cs5,i64_w,i32_w];rfl
       refine pQ (i:=3) (N:=some 15) (v:=?_) (a':=?_) #[bT,bT,bT,bT,bf,bf,bf,bf] (any_of HT_.out (by kernel_rfl)) ?_ ?_ ?_
       rotate_left
       ·intro w';go_simp;with_reducible rfl
       rotate_left
       ·simp only [Act.put,q_ia5,q_cz5,q_cs5,i64_w,i32_w];rfl
       refine pQ (i:=5) (N:=some 17) (v:=?_) (a':=?_) #[bT,bT,bT,bT,bf,bT,bf,bf] (any_of HT_.out (by kernel_rfl)) ?_ ?_ ?_
       rotate_left
       ·intro w';go_simp;with_reducible rfl
       rotate_left
       ·simp only [Act.put,q_ia5,q_cz5,q_cs5,i64_w,i32_w];rfl
       refine take_ (i:=4) (N:=some 16) (v:=?_) (a':=?_) #[bT,bT,bT,bT,bT,bT,bf,bf] rfl rfl (take_ofW HT_.out HW_.out (by kernel_rfl)) (fun _ _ _ h => h) (Or.inl ⟨by rfl,?_⟩) hHeld ?_ ?_
       rotate_left
       ·rintro w' ⟨s0,s1⟩
        go_simp
        with_reducible rfl
       rotate_left
       ·simp only [Act.put,q_ia5,q_cz5,q_cs5,i64_w,i32_w];rfl
       refine one_ (i:=6) (N:=some 18) #[bT,bT,bT,bT,bT,bT,bT,bf] rfl rfl (one_of HT_.out (by kernel_rfl)) (by decide) (fun K hK => ?_)
       refine goes_ Try.func43 (by kernel_rfl) rfl #[.int .i64 x1_1] (by rfl) rfl rfl (by (try simp only [List.map_toArray,List.map_cons,List.map_nil]);first|done|rfl|(simp only [List.length_drop,List.length_take];rfl)) ?_
       with_reducible refine (laws_markText.calls k1 x1_1 t173 _ A5.out).mono ?_
       rintro e w14 ⟨rfl,hb⟩
       refine ⟨_,rfl,?_⟩
       have n0_:=aM (lQ HB.out hb)
       clear HB
       have HB:=n0_
       clear n0_
       (try clear hb)
       (try clear hb2)
       (try clear hk)
       (try clear hi)
       refine hK.out _ _ ⟨((HB.out.cell (World.block_lt_of_cell? w _ hw172_0)).trans hw172_0),((HB.out.cell (World.block_lt_of_cell? w _ hw172_1)).trans hw172_1)⟩ (fun hHeld => ?_)
       clear hK K
       refine norm_ (a':=?_) ?_ ?_
       rotate_left
       ·show Act.put _ (some 18) _ = _
        simp only [Act.put,q_ia5,q_cz5,q_cs5,i64_w,i32_w]
        rfl
       refine pQ (i:=7) (N:=some 19) (v:=?_) (a':=?_) #[bT,bT,bT,bT,bT,bT,bT,bT] (any_of HT_.out (by kernel_rfl)) ?_ ?_ ?_
       rotate_left
       ·intro w';go_simp;with_reducible rfl
       rotate_left
       ·simp only [Act.put,q_ia5,q_cz5,q_cs5,i64_w,i32_w];rfl
       refine done_ (done_of HT_.out (by kernel_rfl)) ?_
       try go_wp2
       have n0_:=aM (lD HB.out)
       clear HB
       have HB:=n0_
       clear n0_
       have p174 : 0 ≤ (x5_1 : Int):=of_decide_eq_true (by first|(with_reducible assumption)|assumption)
       have q174 : x5_1 < (l0.length : Int):=of_decide_eq_true (by first|(with_reducible assumption)|assumption)
       obtain ⟨ad174,e174,hx174_0,hx174_1⟩:=at_T53 HR0.out x5_1 p174 q174
       have hw174_1:=hx174_1
       have hw174_0:=hx174_0
       obtain rfl : ad172 = ad174:=(by injection e174)
       replace hx174_0:=(HB.out.cell (World.block_lt_of_cell? w _ hx174_0)).trans hx174_0
       replace hx174_1:=(HB.out.cell (World.block_lt_of_cell? w _ hx174_1)).trans hx174_1
       replace p174:=eq_true p174
       replace q174:=eq_true q174
       refine start_ (n:=8) (S:=fun w' => w'.cell? (ad172.add ((x5_1).toNat * 2)) = some (.string ((rd_T53 l0 x5_1).f0)) ∧ w'.cell? ⟨(ad172.add ((x5_1).toNat * 2)).block,(ad172.add ((x5_1).toNat * 2)).off + 1,none⟩ = some (.string ((rd_T53 l0 x5_1).f1))) (ds:=[]) #[bf,bf,bf,bf,bf,bf,bf,bf] (by kernel_rfl) rfl rfl ⟨((HB.out.cell (World.block_lt_of_cell? w _ hw174_0)).trans hw174_0),((HB.out.cell (World.block_lt_of_cell? w _ hw174_1)).trans hw174_1)⟩ (fun hHeld => ?_);refine with_tabW laws_heldVarS.tab7 laws_heldVarS.bits7 (fun HT_ HW_ => ?_)
       generalize w14.drew = w15 at HB hx174_0 hx174_1 hHeld ⊢
       refine pQ (i:=0) (N:=some 22) (v:=?_) (a':=?_) #[bT,bf,bf,bf,bf,bf,bf,bf] (any_of HT_.out (by kernel_rfl)) ?_ ?_ ?_
       rotate_left
       ·intro w';go_simp;with_reducible rfl
       rotate_left
       ·simp only [Act.put,q_ia5,q_cz5,q_cs5,i64_w,i32_w];rfl
       refine pQ (i:=1) (N:=some 23) (v:=?_) (a':=?_) #[bT,bT,bf,bf,bf,bf,bf,bf] (any_of HT_.out (by kernel_rfl)) ?_ ?_ ?_
       rotate_left
       ·intro w';go_simp;with_reducible rfl
       rotate_left
       ·simp only [Act.put,q_ia5,q_cz5,q_cs5,i64_w,i32_w];rfl
       refine pQ (i:=2) (N:=some 24) (v:=?_) (a':=?_) #[bT,bT,bT,bf,bf,bf,bf,bf] (any_of HT_.out (by kernel_rfl)) ?_ ?_ ?_
       rotate_left
       ·intro w';go_simp;with_reducible rfl
       rotate_left
       ·simp only [Act.put,q_ia5,q_cz5,q_cs5,i64_w,i32_w];rfl
       refine pQ (i:=3) (N:=some 25) (v:=?_) (a':=?_) #[bT,bT,bT,bT,bf,bf,bf,bf] (any_of HT_.out (by kernel_rfl)) ?_ ?_ ?_
       rotate_left
       ·intro w';go_simp;with_reducible rfl
       rotate_left
       ·simp only [Act.put,q_ia5,q_cz5,q_cs5,i64_w,i32_w];rfl
       refine pQ (i:=5) (N:=some 27) (v:=?_) (a':=?_) #[bT,bT,bT,bT,bf,bT,bf,bf] (any_of HT_.out (by kernel_rfl)) ?_ ?_ ?_
       rotate_left
       ·intro w';go_simp;with_reducible rfl
       rotate_left
       ·simp only [Act.put,q_ia5,q_cz5,q_cs5,i64_w,i32_w];rfl
       refine take_ (i:=4) (N:=some 26) (v:=?_) (a':=?_) #[bT,bT,bT,bT,bT,bT,bf,bf] rfl rfl (take_ofW HT_.out HW_.out (by kernel_rfl)) (fun _ _ _ h => h) (Or.inl ⟨by rfl,?_⟩) hHeld ?_ ?_
       rotate_left
       ·rintro w' ⟨s0,s1⟩
        go_simp
        with_reducible rfl
       rotate_left
       ·simp only [Act.put,q_ia5,q_cz5,q_cs5,i64_w,i32_w];rfl
       refine one_ (i:=6) (N:=some 28) #[bT,bT,bT,bT,bT,bT,bT,bf] rfl rfl (one_of HT_.out (by kernel_rfl)) (by decide) (fun K hK => ?_)
       refine goes_ Try.func43 (by kernel_rfl) rfl #[.int .i64 (wrap64 (x1_1 + 1))] (by rfl) rfl rfl (by (try simp only [List.map_toArray,List.map_cons,List.map_nil]);first|done|rfl|(simp only [List.length_drop,List.length_take];rfl)) ?_
       with_reducible refine (laws_markText.calls k1 (wrap64 (x1_1 + 1)) t175 _ A7.out).mono ?_
       rintro e w16 ⟨rfl,hb⟩
       refine ⟨_,rfl,?_⟩
       have n0_:=aM (lQ HB.out hb)
       clear HB
       have HB:=n0_
       clear n0_
       (try clear hb)
       (try clear hb2)
       (try clear hk)
       (try clear hi)
       refine hK.out _ _ ⟨((HB.out.cell (World.block_lt_of_cell? w _ hw174_0)).trans hw174_0),((HB.out.cell (World.block_lt_of_cell? w _ hw174_1)).trans hw174_1)⟩ (fun hHeld => ?_)
       clear hK K
       refine norm_ (a':=?_) ?_ ?_
       rotate_left
       ·show Act.put _ (some 28) _ = _
        simp only [Act.put,q_ia5,q_cz5,q_cs5,i64_w,i32_w]
        rfl
       refine pQ (i:=7) (N:=some 29) (v:=?_) (a':=?_) #[bT,bT,bT,bT,bT,bT,bT,bT] (any_of HT_.out (by kernel_rfl)) ?_ ?_ ?_
       rotate_left
       ·intro w';go_simp;with_reducible rfl
       rotate_left
       ·simp only [Act.put,q_ia5,q_cz5,q_cs5,i64_w,i32_w];rfl
       refine done_ (done_of HT_.out (by kernel_rfl)) ?_
       try go_wp2
       go_ret
       exact ⟨by first|rfl|(simp [errW_none,errW_some] <;> rfl)|(simp [*,errW_none,errW_some] <;> rfl),by repeat (first|(with_reducible first|exact HB.out|apply lA|apply lN|apply lD)|exact HB.out)⟩
     ·rw [if_neg c6] at H
      have c6b0 : (((rd_T53 l0 x5_1).f0).toList == t173.toList) = false:=beq_eq_false_iff_ne.mpr c6
      have c6b1 : (((rd_T53 l0 x5_1).f0).toList != t173.toList) = true:=bne_iff_ne.mpr c6
      obtain rfl:=Option.some.inj H
      try go_wp2
      have n0_:=aM (lD HB.out)
      clear HB
      have HB:=n0_
      clear n0_
      have p172 : 0 ≤ (x5_1 : Int):=of_decide_eq_true (by first|(with_reducible assumption)|assumption)
      have q172 : x5_1 < (l0.length : Int):=of_decide_eq_true (by first|(with_reducible assumption)|assumption)
      obtain ⟨ad172,e172,hx172_0,hx172_1⟩:=at_T53 HR0.out x5_1 p172 q172
      have hw172_1:=hx172_1
      have hw172_0:=hx172_0
      cases e172
      replace hx172_0:=(HB.out.cell (World.block_lt_of_cell? w _ hx172_0)).trans hx172_0
      replace hx172_1:=(HB.out.cell (World.block_lt_of_cell? w _ hx172_1)).trans hx172_1
      replace p172:=eq_true p172
      replace q172:=eq_true q172
      refine start_ (n:=8) (S:=fun w' => w'.cell? (ad172.add ((x5_1).toNat * 2)) = some (.string ((rd_T53 l0 x5_1).f0)) ∧ w'.cell? ⟨(ad172.add ((x5_1).toNat * 2)).block,(ad172.add ((x5_1).toNat * 2)).off + 1,none⟩ = some (.string ((rd_T53 l0 x5_1).f1))) (ds:=[]) #[bf,bf,bf,bf,bf,bf,bf,bf] (by kernel_rfl) rfl rfl ⟨((HB.out.cell (World.block_lt_of_cell? w _ hw172_0)).trans hw172_0),((HB.out.cell (World.block_lt_of_cell? w _ hw172_1)).trans hw172_1)⟩ (fun hHeld => ?_);refine with_tabW laws_heldVarS.tab4 laws_heldVarS.bits4 (fun HT_ HW_ => ?_)
      generalize wr.drew = w17 at HB hx172_0 hx172_1 hHeld ⊢
      refine pQ (i:=0) (N:=some 12) (v:=?_) (a':=?_) #[bT,bf,bf,bf,bf,bf,bf,bf] (any_of HT_.out (by kernel_rfl)) ?_ ?_ ?_
      rotate_left
      ·intro w';go_simp;with_reducible rfl
      rotate_left
      ·simp only [Act.put,q_ia5,q_cz5,q_cs5,i64_w,i32_w];rfl
      refine pQ (i:=1) (N:=some 13) (v:=?_) (a':=?_) #[bT,bT,bf,bf,bf,bf,bf,bf] (any_of HT_.out (by kernel_rfl)) ?_ ?_ ?_
      rotate_left
      ·intro w';go_simp;with_reducible rfl
      rotate_left
      ·simp only [Act.put,q_ia5,q_cz5,q_cs5,i64_w,i32_w];rfl
      refine pQ (i:=2) (N:=some 14) (v:=?_) (a':=?_) #[bT,bT,bT,bf,bf,bf,bf,bf] (any_of HT_.out (by kernel_rfl)) ?_ ?_ ?_
      rotate_left
      ·intro w';go_simp;with_reducible rfl
      rotate_left
      ·simp only [Act.put,q_ia5,q_cz5,q_cs5,i64_w,i32_w];rfl
      refine pQ (i:=3) (N:=some 15) (v:=?_) (a':=?_) #[bT,bT,bT,bT,bf,bf,bf,bf] (any_of HT_.out (by kernel_rfl)) ?_ ?_ ?_
      rotate_left
      ·intro w';go_simp;with_reducible rfl
      rotate_left
      ·simp only [Act.put,q_ia5,q_cz5,q_cs5,i64_w,i32_w];rfl
      refine pQ (i:=5) (N:=some 17) (v:=?_) (a':=?_) #[bT,bT,bT,bT,bf,bT,bf,bf] (any_of HT_.out (by kernel_rfl)) ?_ ?_ ?_
      rotate_left
      ·intro w';go_simp;with_reducible rfl
      rotate_left
      ·simp only [Act.put,q_ia5,q_cz5,q_cs5,i64_w,i32_w];rfl
      refine take_ (i:=4) (N:=some 16) (v:=?_) (a':=?_) #[bT,bT,bT,bT,bT,bT,bf,bf] rfl rfl (take_ofW HT_.out HW_.out (by kernel_rfl)) (fun _ _ _ h => h) (Or.inl ⟨by rfl,?_⟩) hHeld ?_ ?_
      rotate_left
      ·rintro w' ⟨s0,s1⟩
       go_simp
       with_reducible rfl
      rotate_left
      ·simp only [Act.put,q_ia5,q_cz5,q_cs5,i64_w,i32_w];rfl
      refine one_ (i:=6) (N:=some 18) #[bT,bT,bT,bT,bT,bT,bT,bf] rfl rfl (one_of HT_.out (by kernel_rfl)) (by decide) (fun K hK => ?_)
      refine goes_ Try.func43 (by kernel_rfl) rfl #[.int .i64 x1_1] (by rfl) rfl rfl (by (try simp only [List.map_toArray,List.map_cons,List.map_nil]);first|done|rfl|(simp only [List.length_drop,List.length_take];rfl)) ?_
      with_reducible refine (laws_markText.calls k1 x1_1 t173 _ A5.out).mono ?_
      rintro e w18 ⟨rfl,hb⟩
      refine ⟨_,rfl,?_⟩
      have n0_:=aM (lQ HB.out hb)
      clear HB
      have HB:=n0_
      clear n0_
      (try clear hb)
      (try clear hb2)
      (try clear hk)
      (try clear hi)
      refine hK.out _ _ ⟨((HB.out.cell (World.block_lt_of_cell? w _ hw172_0)).trans hw172_0),((HB.out.cell (World.block_lt_of_cell? w _ hw172_1)).trans hw172_1)⟩ (fun hHeld => ?_)
      clear hK K
      refine norm_ (a':=?_) ?_ ?_
      rotate_left
      ·show Act.put _ (some 18) _ = _
       simp only [Act.put,q_ia5,q_cz5,q_cs5,i64_w,i32_w]
       rfl
      refine pQ (i:=7) (N:=some 19) (v:=?_) (a':=?_) #[bT,bT,bT,bT,bT,bT,bT,bT] (any_of HT_.out (by kernel_rfl)) ?_ ?_ ?_
      rotate_left
      ·intro w';go_simp;with_reducible rfl
      rotate_left
      ·simp only [Act.put,q_ia5,q_cz5,q_cs5,i64_w,i32_w];rfl
      refine done_ (done_of HT_.out (by kernel_rfl)) ?_
      try go_wp2
      go_ret
      exact ⟨by first|rfl|(simp [errW_none,errW_some] <;> rfl)|(simp [*,errW_none,errW_some] <;> rfl),by repeat (first|(with_reducible first|exact HB.out|apply lA|apply lN|apply lD)|exact HB.out)⟩
    ·rw [if_neg c4] at H
     exact absurd H (by simp)
   ·rw [if_neg c3] at H
    have c3b0 : decide (x5_1 < (l0.length : Int)) = false:=decide_eq_false c3
    clear c3
    obtain rfl:=Option.some.inj H
    go_wp2
    go_ret
    exact ⟨by first|rfl|(simp [errW_none,errW_some] <;> rfl)|(simp [*,errW_none,errW_some] <;> rfl),by repeat (first|(with_reducible first|exact HB.out|apply lA|apply lN|apply lD)|exact HB.out)⟩

end Go.Proofs.Ytodpkfidkilpdaa.QFnExactSetCell
