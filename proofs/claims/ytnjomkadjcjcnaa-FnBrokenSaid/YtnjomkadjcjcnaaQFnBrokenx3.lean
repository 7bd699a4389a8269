-- A text of this session, made by wip/own_print.py (the kit's print with additions of ours).
import Derived.Test.YtnjomkadjcjcnaaQFnBrokenx0
import Derived.Test.YtnjomkadjcjcnaaQFnBrokenx1
namespace Go.Proofs.Ytnjomkadjcjcnaa.QFnBroken
open Go.RowKit Go.Proofs.YtnjomkadjcjcnaaW.PrintWords Go.Proofs.YtnjomkadjcjcnaaW.PrintLast Go.Proofs.YtnjomkadjcjcnaaW.PrintMore
attribute [local go_sem] max2_int min2_int max_two min_two max_three min_three max_four min_four   -- for this text's walks alone
set_option linter.unusedVariables false
set_option linter.unusedSimpArgs false
open Bool renaming true → bT, false → bf
open Go.Proofs.YtnjomkadjcjcnaaW.PrintWords.Kd renaming R_alloc → rA, R_drewN → rN, R_drew → rD, C_alloc → cA, C_drewN → cN, C_drew → cD, R_far → rF, R_below → rB, R_lower → rL, R_lt → rT, R_base → rS, C_below → cB, R_types → rY, R_elder' → rE, R_reads' → rR, R_new' → rW
open Go.Proofs.YtnjomkadjcjcnaaW.PrintWords renaming blk_drewN → bN, blk_drew → bD, blk_alloc → bA, below_set → lS, pw_below_drewN → lN, below_drew1 → lD, below_alloc → lA, blk_cell → bC, blk_below → bB, below_size → lZ, below_step → lP, blk_lt → bL, blk_frozen → bF
open Go.Proofs.YtnjomkadjcjcnaaW.PrintWords.Aside0 renaming mk → aM
theorem q_ia3 {α : Type} (l : List α) (i : Nat) (a : α) : l.toArray.setIfInBounds i a = (l.set i a).toArray := List.setIfInBounds_toArray ..
theorem q_cz3 {α : Type} (a b : α) (l : List α) : (a :: l).set 0 b = b :: l := rfl
theorem q_cs3 {α : Type} (a b : α) (l : List α) (n : Nat) : (a :: l).set (n + 1) b = a :: l.set n b := rfl

/-! ### impl_takesOf: function 64 -/
mutual
def impl_takesOf.j0 : Nat → Int → Bool → Int → Int → Option (Int)
 | 0, _, _, _, _ => none
 | k + 1, x4, x5, x158000, x158001 => if x5 = true then (some 1) else (if x4 = 8 then (impl_takesOf.j1 k x4 (x4 == 8) x158000 x158001) else (if x4 = 9 then (impl_takesOf.j1 k x4 (x4 == 9) x158000 x158001) else (if x4 = 10 then (impl_takesOf.j1 k x4 (x4 == 10) x158000 x158001) else (if x4 = 11 then (impl_takesOf.j1 k x4 (x4 == 11) x158000 x158001) else (if x4 = 12 then (impl_takesOf.j1 k x4 (x4 == 12) x158000 x158001) else (if x4 = 13 then (impl_takesOf.j1 k x4 (x4 == 13) x158000 x158001) else (if x4 = 14 then (impl_takesOf.j1 k x4 (x4 == 14) x158000 x158001) else (if x4 = 19 then (impl_takesOf.j1 k x4 (x4 == 19) x158000 x158001) else (impl_takesOf.j1 k x4 (x4 == 20) x158000 x158001)))))))))
def impl_takesOf.j1 : Nat → Int → Bool → Int → Int → Option (Int)
 | 0, _, _, _, _ => none
 | k + 1, x4, x13, x158000, x158001 => if x13 = true then (some 2) else (if x4 = 16 then (some x158001) else (some 0))
end
def impl_takesOf.f (k : Nat) (a0_0 : Int) (a0_1 : Int) : Option (Int) := if a0_0 = 3 then (impl_takesOf.j0 k a0_0 (a0_0 == 3) a0_0 a0_1) else (if a0_0 = 4 then (impl_takesOf.j0 k a0_0 (a0_0 == 4) a0_0 a0_1) else (if a0_0 = 7 then (impl_takesOf.j0 k a0_0 (a0_0 == 7) a0_0 a0_1) else (if a0_0 = 15 then (impl_takesOf.j0 k a0_0 (a0_0 == 15) a0_0 a0_1) else (if a0_0 = 17 then (impl_takesOf.j0 k a0_0 (a0_0 == 17) a0_0 a0_1) else (if a0_0 = 18 then (impl_takesOf.j0 k a0_0 (a0_0 == 18) a0_0 a0_1) else (impl_takesOf.j0 k a0_0 (a0_0 == 21) a0_0 a0_1))))))
theorem impl_takesOf.mono_l : ∀ k, (∀ y0 y1 y2 y3, LeO (impl_takesOf.j0 k y0 y1 y2 y3) (impl_takesOf.j0 (k + 1) y0 y1 y2 y3)) ∧ (∀ y0 y1 y2 y3, LeO (impl_takesOf.j1 k y0 y1 y2 y3) (impl_takesOf.j1 (k + 1) y0 y1 y2 y3))
 | 0 => ⟨fun _ _ _ _ r h => by simp [impl_takesOf.j0] at h, fun _ _ _ _ r h => by simp [impl_takesOf.j1] at h⟩
 | k + 1 => by
  obtain ⟨ih0, ih1⟩ := impl_takesOf.mono_l k
  refine ⟨?_, ?_⟩
  ·intro y0 y1 y2 y3
   unfold impl_takesOf.j0
   repeat' first
   | (with_reducible exact ih0 _ _ _ _)
   | (with_reducible exact ih1 _ _ _ _)
   | (with_reducible exact LeO.refl _)
   | (with_reducible exact LeO.none _)
   | (with_reducible refine LeO.ite ?_ ?_)
   | (with_reducible refine LeO.bind ?_ (fun _ => ?_))
   | exact ih0 _ _ _ _
   | exact ih1 _ _ _ _
   | exact LeO.none _
   | refine LeO.ite ?_ ?_
   | refine LeO.bind ?_ (fun _ => ?_)
  ·intro y0 y1 y2 y3
   unfold impl_takesOf.j1
   repeat' first
   | (with_reducible exact ih0 _ _ _ _)
   | (with_reducible exact ih1 _ _ _ _)
   | (with_reducible exact LeO.refl _)
   | (with_reducible exact LeO.none _)
   | (with_reducible refine LeO.ite ?_ ?_)
   | (with_reducible refine LeO.bind ?_ (fun _ => ?_))
   | exact ih0 _ _ _ _
   | exact ih1 _ _ _ _
   | exact LeO.none _
   | refine LeO.ite ?_ ?_
   | refine LeO.bind ?_ (fun _ => ?_)
theorem impl_takesOf.mono : ∀ a0 a1 k, LeO (impl_takesOf.f k a0 a1) (impl_takesOf.f (k + 1) a0 a1) := by
 intro a0 a1 k
 obtain ⟨ih0, ih1⟩ := impl_takesOf.mono_l k
 unfold impl_takesOf.f
 repeat' first
   | (with_reducible exact ih0 _ _ _ _)
   | (with_reducible exact ih1 _ _ _ _)
   | (with_reducible exact LeO.refl _)
   | (with_reducible exact LeO.none _)
   | (with_reducible refine LeO.ite ?_ ?_)
   | (with_reducible refine LeO.bind ?_ (fun _ => ?_))
   | exact ih0 _ _ _ _
   | exact ih1 _ _ _ _
   | exact LeO.none _
   | refine LeO.ite ?_ ?_
   | refine LeO.bind ?_ (fun _ => ?_)
set_option maxHeartbeats 8000000 in
set_option maxRecDepth 100000 in
theorem impl_takesOf.calls (k : Nat) (a0_0 : Int) (a0_1 : Int) (r : Int) (w : World) (h : impl_takesOf.f k a0_0 a0_1 = some r) :
  Calls Try.prog 64 #[.agg #[.int .i64 a0_0,.int .i64 a0_1]] w fun e w' => e = .returned (.int .i64 r) ∧ Below w.heap.size w w':=by
 have hu47:=Try.underlying47
 have HB:=aM (Below.refl w.heap.size w)
 have H : (if a0_0 = 3 then (impl_takesOf.j0 k a0_0 (a0_0 == 3) a0_0 a0_1) else (if a0_0 = 4 then (impl_takesOf.j0 k a0_0 (a0_0 == 4) a0_0 a0_1) else (if a0_0 = 7 then (impl_takesOf.j0 k a0_0 (a0_0 == 7) a0_0 a0_1) else (if a0_0 = 15 then (impl_takesOf.j0 k a0_0 (a0_0 == 15) a0_0 a0_1) else (if a0_0 = 17 then (impl_takesOf.j0 k a0_0 (a0_0 == 17) a0_0 a0_1) else (if a0_0 = 18 then (impl_takesOf.j0 k a0_0 (a0_0 == 18) a0_0 a0_1) else (impl_takesOf.j0 k a0_0 (a0_0 == 21) a0_0 a0_1))))))) = some r:=h
 clear h
 have HC2:=aM H
 clear H
 go_enter Try.func64,Try.ntmps64
 go_upto_if 5 with (first|((with_reducible refine gate_dst (N:=1) rfl ?_);refine box_event ?hg (N:=1) ?hd (cs:=#[.int .i64 a0_0,.int .i64 a0_1]) (t:=47) ?hr ?_;(case hd => rfl);(case hg => rfl);(case hr => first|(go_simp;done)|(go_simp;rfl));intro gb157 hg w3 hbox hb;have n0_:=aM (lP (by repeat (first|(with_reducible first|exact HB.out|apply lA|apply lN|apply lD)|exact HB.out)) hb);have n1_:=aM (hbox);have n2_:=aM ((by rw [hg];exact (lZ (by repeat (first|(with_reducible first|exact HB.out|apply lA|apply lN|apply lD)|exact HB.out))) : w.heap.size ≤ gb157));have n3_:=aM ((by rw [hg];exact (lZ (by repeat (first|(with_reducible first|exact HB.out|apply lA|apply lN|apply lD)|exact HB.out))) : w.heap.size ≤ gb157));clear HB;have HB:=n0_;have BK157:=n1_;have GW157:=n2_;have GE157:=n3_;clear n0_ n1_ n2_ n3_ hb hbox hg;have hcz4_0 : w3.cell? ⟨gb157,0,none⟩ = some (.int .i64 a0_0):=(bC BK157.out 0).trans rfl;have hcz4_1 : w3.cell? ⟨gb157,1,none⟩ = some (.int .i64 a0_1):=(bC BK157.out 1).trans rfl;have hfz4_0:=bF BK157.out 0;have hfz4_1:=bF BK157.out 1))
 (try simp only [Act.put,q_ia3,q_cz3,q_cs3])
 go_cut [5] (fun v5 wc => ∃ (kq : Nat) (x5_1 : Bool),v5 = .bool x5_1 ∧ Aside0 (impl_takesOf.j0 kq a0_0 x5_1 a0_0 a0_1 = some r) ∧ Aside0 (kq ≤ k) ∧ Aside0 (wc.heap[gb157]? = some (.cells #[.int .i64 a0_0,.int .i64 a0_1] 47 (0,0))) ∧ Aside0 (Below w.heap.size w wc))
 case first =>
  have H:=HC2.out
  clear HC2
  by_cases c5 : a0_0 = 3
  ·rw [if_pos c5] at H
   have c5b0 : (a0_0 == 3) = true:=beq_iff_eq.mpr c5
   have c5b1 : (a0_0 != 3) = false:=bne_eq_false_iff_eq.mpr c5
   clear c5
   (first|rw [c5b0]|(simp only [i64_w,i32_w];rw [c5b0])|skip)
   have H':=aM H
   clear H
   go_wp2
   go_meet
   case rel => exact ⟨_,((a0_0 == 3)),(by first|rfl|(simp;done)|(simp [*];done)),H',⟨by first|omega|exact Nat.le_refl _⟩,⟨by (with_reducible repeat (first|refine bN ?_ _|refine bD ?_|refine bA ?_ _));exact BK157.out⟩,⟨by repeat (first|(with_reducible first|exact HB.out|apply lA|apply lN|apply lD|refine lS ?_ GE157.out)|exact HB.out)⟩⟩
  ·rw [if_neg c5] at H
   have c5b0 : (a0_0 == 3) = false:=beq_eq_false_iff_ne.mpr c5
   have c5b1 : (a0_0 != 3) = true:=bne_iff_ne.mpr c5
   (first|rw [c5b0]|(simp only [i64_w,i32_w];rw [c5b0])|skip)
   by_cases c6 : a0_0 = 4
   ·rw [if_pos c6] at H
    have c6b0 : (a0_0 == 4) = true:=beq_iff_eq.mpr c6
    have c6b1 : (a0_0 != 4) = false:=bne_eq_false_iff_eq.mpr c6
    clear c6
    have H':=aM H
    clear H
    go_wp2
    go_meet
    case rel => exact ⟨_,((a0_0 == 4)),(by first|rfl|(simp;done)|(simp [*];done)),H',⟨by first|omega|exact Nat.le_refl _⟩,⟨by (with_reducible repeat (first|refine bN ?_ _|refine bD ?_|refine bA ?_ _));exact BK157.out⟩,⟨by repeat (first|(with_reducible first|exact HB.out|apply lA|apply lN|apply lD|refine lS ?_ GE157.out)|exact HB.out)⟩⟩
   ·rw [if_neg c6] at H
    have c6b0 : (a0_0 == 4) = false:=beq_eq_false_iff_ne.mpr c6
    have c6b1 : (a0_0 != 4) = true:=bne_iff_ne.mpr c6
    by_cases c7 : a0_0 = 7
    ·rw [if_pos c7] at H
     have c7b0 : (a0_0 == 7) = true:=beq_iff_eq.mpr c7
     have c7b1 : (a0_0 != 7) = false:=bne_eq_false_iff_eq.mpr c7
     clear c7
     have H':=aM H
     clear H
     go_wp2
     go_meet
     case rel => exact ⟨_,((a0_0 == 7)),(by first|rfl|(simp;done)|(simp [*];done)),H',⟨by first|omega|exact Nat.le_refl _⟩,⟨by (with_reducible repeat (first|refine bN ?_ _|refine bD ?_|refine bA ?_ _));exact BK157.out⟩,⟨by repeat (first|(with_reducible first|exact HB.out|apply lA|apply lN|apply lD|refine lS ?_ GE157.out)|exact HB.out)⟩⟩
    ·rw [if_neg c7] at H
     have c7b0 : (a0_0 == 7) = false:=beq_eq_false_iff_ne.mpr c7
     have c7b1 : (a0_0 != 7) = true:=bne_iff_ne.mpr c7
     by_cases c8 : a0_0 = 15
     ·rw [if_pos c8] at H
      have c8b0 : (a0_0 == 15) = true:=beq_iff_eq.mpr c8
      have c8b1 : (a0_0 != 15) = false:=bne_eq_false_iff_eq.mpr c8
      clear c8
      have H':=aM H
      clear H
      go_wp2
      go_meet
      case rel => exact ⟨_,((a0_0 == 15)),(by first|rfl|(simp;done)|(simp [*];done)),H',⟨by first|omega|exact Nat.le_refl _⟩,⟨by (with_reducible repeat (first|refine bN ?_ _|refine bD ?_|refine bA ?_ _));exact BK157.out⟩,⟨by repeat (first|(with_reducible first|exact HB.out|apply lA|apply lN|apply lD|refine lS ?_ GE157.out)|exact HB.out)⟩⟩
     ·rw [if_neg c8] at H
      have c8b0 : (a0_0 == 15) = false:=beq_eq_false_iff_ne.mpr c8
      have c8b1 : (a0_0 != 15) = true:=bne_iff_ne.mpr c8
      by_cases c9 : a0_0 = 17
      ·rw [if_pos c9] at H
       have c9b0 : (a0_0 == 17) = true:=beq_iff_eq.mpr c9
       have c9b1 : (a0_0 != 17) = false:=bne_eq_false_iff_eq.mpr c9
       clear c9
       have H':=aM H
       clear H
       go_wp2
       go_meet
       case rel => exact ⟨_,((a0_0 == 17)),(by first|rfl|(simp;done)|(simp [*];done)),H',⟨by first|omega|exact Nat.le_refl _⟩,⟨by (with_reducible repeat (first|refine bN ?_ _|refine bD ?_|refine bA ?_ _));exact BK157.out⟩,⟨by repeat (first|(with_reducible first|exact HB.out|apply lA|apply lN|apply lD|refine lS ?_ GE157.out)|exact HB.out)⟩⟩
      ·rw [if_neg c9] at H
       have c9b0 : (a0_0 == 17) = false:=beq_eq_false_iff_ne.mpr c9
       have c9b1 : (a0_0 != 17) = true:=bne_iff_ne.mpr c9
       by_cases c10 : a0_0 = 18
       ·rw [if_pos c10] at H
        have c10b0 : (a0_0 == 18) = true:=beq_iff_eq.mpr c10
        have c10b1 : (a0_0 != 18) = false:=bne_eq_false_iff_eq.mpr c10
        clear c10
        have H':=aM H
        clear H
        go_wp2
        go_meet
        case rel => exact ⟨_,((a0_0 == 18)),(by first|rfl|(simp;done)|(simp [*];done)),H',⟨by first|omega|exact Nat.le_refl _⟩,⟨by (with_reducible repeat (first|refine bN ?_ _|refine bD ?_|refine bA ?_ _));exact BK157.out⟩,⟨by repeat (first|(with_reducible first|exact HB.out|apply lA|apply lN|apply lD|refine lS ?_ GE157.out)|exact HB.out)⟩⟩
       ·rw [if_neg c10] at H
        have c10b0 : (a0_0 == 18) = false:=beq_eq_false_iff_ne.mpr c10
        have c10b1 : (a0_0 != 18) = true:=bne_iff_ne.mpr c10
        have H':=aM H
        clear H
        go_wp2
        go_meet
        case rel => exact ⟨_,((a0_0 == 21)),(by first|rfl|(simp;done)|(simp [*];done)),H',⟨by first|omega|exact Nat.le_refl _⟩,⟨by (with_reducible repeat (first|refine bN ?_ _|refine bD ?_|refine bA ?_ _));exact BK157.out⟩,⟨by repeat (first|(with_reducible first|exact HB.out|apply lA|apply lN|apply lD|refine lS ?_ GE157.out)|exact HB.out)⟩⟩
 case rest =>
  clear HC2
  try clear c1
  try clear p2
  try clear c5
  try clear c5b0
  try clear c5b1
  try clear c6
  try clear c6b0
  try clear c6b1
  try clear c7
  try clear c7b0
  try clear c7b1
  try clear c8
  try clear c8b0
  try clear c8b1
  try clear c9
  try clear c9b0
  try clear c9b1
  try clear c10
  try clear c10b0
  try clear c10b1
  try clear hcz4_0
  try clear hcz4_1
  try clear hfz4_0
  try clear hfz4_1
  obtain ⟨kq,x5_1,rfl,HA,HJ1,BK157,HB⟩:=hcut
  cases kq with
  |zero => exact absurd HA.out (by simp [impl_takesOf.j0])
  |succ kj1 =>
   have H:=HA.out
   clear HA
   simp only [impl_takesOf.j0] at H
   by_cases c11 : x5_1 = true
   ·subst c11
    have H1 : (some 1) = some r:=by rw [if_pos rfl] at H;exact H
    clear H
    have H:=H1
    clear H1
    obtain rfl:=Option.some.inj H
    go_wp2
    go_ret
    exact ⟨by first|rfl|(simp [errW_none,errW_some] <;> rfl)|(simp [*,errW_none,errW_some] <;> rfl),by repeat (first|(with_reducible first|exact HB.out|apply lA|apply lN|apply lD|refine lS ?_ GE157.out)|exact HB.out)⟩
   ·replace c11:=Bool.eq_false_iff.mpr c11
    subst c11
    have H1 : (if a0_0 = 8 then (impl_takesOf.j1 kj1 a0_0 (a0_0 == 8) a0_0 a0_1) else (if a0_0 = 9 then (impl_takesOf.j1 kj1 a0_0 (a0_0 == 9) a0_0 a0_1) else (if a0_0 = 10 then (impl_takesOf.j1 kj1 a0_0 (a0_0 == 10) a0_0 a0_1) else (if a0_0 = 11 then (impl_takesOf.j1 kj1 a0_0 (a0_0 == 11) a0_0 a0_1) else (if a0_0 = 12 then (impl_takesOf.j1 kj1 a0_0 (a0_0 == 12) a0_0 a0_1) else (if a0_0 = 13 then (impl_takesOf.j1 kj1 a0_0 (a0_0 == 13) a0_0 a0_1) else (if a0_0 = 14 then (impl_takesOf.j1 kj1 a0_0 (a0_0 == 14) a0_0 a0_1) else (if a0_0 = 19 then (impl_takesOf.j1 kj1 a0_0 (a0_0 == 19) a0_0 a0_1) else (impl_takesOf.j1 kj1 a0_0 (a0_0 == 20) a0_0 a0_1))))))))) = some r:=by rw [if_neg (show ¬ (false = true) by decide)] at H;exact H
    clear H
    have H:=H1
    clear H1
    have HC12:=aM H
    clear H
    go_upto_if 13 with (fail)
    go_cut [13] (fun v13 wc => ∃ (kq : Nat) (x13_11 : Bool),v13 = .bool x13_11 ∧ Aside0 (impl_takesOf.j1 kq a0_0 x13_11 a0_0 a0_1 = some r) ∧ Aside0 (kq ≤ kj1) ∧ Aside0 (wc.heap[gb157]? = some (.cells #[.int .i64 a0_0,.int .i64 a0_1] 47 (0,0))) ∧ Aside0 (Below w.heap.size w wc))
    case first =>
     have H:=HC12.out
     clear HC12
     by_cases c13 : a0_0 = 8
     ·rw [if_pos c13] at H
      have c13b0 : (a0_0 == 8) = true:=beq_iff_eq.mpr c13
      have c13b1 : (a0_0 != 8) = false:=bne_eq_false_iff_eq.mpr c13
      clear c13
      (first|rw [c13b0]|(simp only [i64_w,i32_w];rw [c13b0])|skip)
      have H':=aM H
      clear H
      go_wp2
      go_meet
      case rel => exact ⟨_,((a0_0 == 8)),(by first|rfl|(simp;done)|(simp [*];done)),H',⟨by have:=HJ1.out;first|omega|exact Nat.le_refl _⟩,⟨by (with_reducible repeat (first|refine bN ?_ _|refine bD ?_|refine bA ?_ _));exact BK157.out⟩,⟨by repeat (first|(with_reducible first|exact HB.out|apply lA|apply lN|apply lD|refine lS ?_ GE157.out)|exact HB.out)⟩⟩
     ·rw [if_neg c13] at H
      have c13b0 : (a0_0 == 8) = false:=beq_eq_false_iff_ne.mpr c13
      have c13b1 : (a0_0 != 8) = true:=bne_iff_ne.mpr c13
      (first|rw [c13b0]|(simp only [i64_w,i32_w];rw [c13b0])|skip)
      by_cases c14 : a0_0 = 9
      ·rw [if_pos c14] at H
       have c14b0 : (a0_0 == 9) = true:=beq_iff_eq.mpr c14
       have c14b1 : (a0_0 != 9) = false:=bne_eq_false_iff_eq.mpr c14
       clear c14
       have H':=aM H
       clear H
       go_wp2
       go_meet
       case rel => exact ⟨_,((a0_0 == 9)),(by first|rfl|(simp;done)|(simp [*];done)),H',⟨by have:=HJ1.out;first|omega|exact Nat.le_refl _⟩,⟨by (with_reducible repeat (first|refine bN ?_ _|refine bD ?_|refine bA ?_ _));exact BK157.out⟩,⟨by repeat (first|(with_reducible first|exact HB.out|apply lA|apply lN|apply lD|refine lS ?_ GE157.out)|exact HB.out)⟩⟩
      ·rw [if_neg c14] at H
       have c14b0 : (a0_0 == 9) = false:=beq_eq_false_iff_ne.mpr c14
       have c14b1 : (a0_0 != 9) = true:=bne_iff_ne.mpr c14
       by_cases c15 : a0_0 = 10
       ·rw [if_pos c15] at H
        have c15b0 : (a0_0 == 10) = true:=beq_iff_eq.mpr c15
        have c15b1 : (a0_0 != 10) = false:=bne_eq_false_iff_eq.mpr c15
        clear c15
        have H':=aM H
        clear H
        go_wp2
        go_meet
        case rel => exact ⟨_,((a0_0 == 10)),(by first|rfl|(simp;done)|(simp [*];done)),H',⟨by have:=HJ1.out;first|omega|exact Nat.le_refl _⟩,⟨by (with_reducible repeat (first|refine bN ?_ _|refine bD ?_|refine bA ?_ _));exact BK157.out⟩,⟨by repeat (first|(with_reducible first|exact HB.out|apply lA|apply lN|apply lD|refine lS ?_ GE157.out)|exact HB.out)⟩⟩
       ·rw [if_neg c15] at H
        have c15b0 : (a0_0 == 10) = false:=beq_eq_false_iff_ne.mpr c15
        have c15b1 : (a0_0 != 10) = true:=bne_iff_ne.mpr c15
        by_cases c16 : a0_0 = 11
        ·rw [if_pos c16] at H
         have c16b0 : (a0_0 == 11) = true:=beq_iff_eq.mpr c16
         have c16b1 : (a0_0 != 11) = false:=bne_eq_false_iff_eq.mpr c16
         clear c16
         have H':=aM H
         clear H
         go_wp2
         go_meet
         case rel => exact ⟨_,((a0_0 == 11)),(by first|rfl|(simp;done)|(simp [*];done)),H',⟨by have:=HJ1.out;first|omega|exact Nat.le_refl _⟩,⟨by (with_reducible repeat (first|refine bN ?_ _|refine bD ?_|refine bA ?_ _));exact BK157.out⟩,⟨by repeat (first|(with_reducible first|exact HB.out|apply lA|apply lN|apply lD|refine lS ?_ GE157.out)|exact HB.out)⟩⟩
        ·rw [if_neg c16] at H
         have c16b0 : (a0_0 == 11) = false:=beq_eq_false_iff_ne.mpr c16
         have c16b1 : (a0_0 != 11) = true:=bne_iff_ne.mpr c16
         by_cases c17 : a0_0 = 12
         ·rw [if_pos c17] at H
          have c17b0 : (a0_0 == 12) = true:=beq_iff_eq.mpr c17
          have c17b1 : (a0_0 != 12) = false:=bne_eq_false_iff_eq.mpr c17
          clear c17
          have H':=aM H
          clear H
          go_wp2
          go_meet
          case rel => exact ⟨_,((a0_0 == 12)),(by first|rfl|(simp;done)|(simp [*];done)),H',⟨by have:=HJ1.out;first|omega|exact Nat.le_refl _⟩,⟨by (with_reducible repeat (first|refine bN ?_ _|refine bD ?_|refine bA ?_ _));exact BK157.out⟩,⟨by repeat (first|(with_reducible first|exact HB.out|apply lA|apply lN|apply lD|refine lS ?_ GE157.out)|exact HB.out)⟩⟩
         ·rw [if_neg c17] at H
          have c17b0 : (a0_0 == 12) = false:=beq_eq_false_iff_ne.mpr c17
          have c17b1 : (a0_0 != 12) = true:=bne_iff_ne.mpr c17
          by_cases c18 : a0_0 = 13
          ·rw [if_pos c18] at H
           have c18b0 : (a0_0 == 13) = true:=beq_iff_eq.mpr c18
           have c18b1 : (a0_0 != 13) = false:=bne_eq_false_iff_eq.mpr c18
           clear c18
           have H':=aM H
           clear H
           go_wp2
           go_meet
           case rel => exact ⟨_,((a0_0 == 13)),(by first|rfl|(simp;done)|(simp [*];done)),H',⟨by have:=HJ1.out;first|omega|exact Nat.le_refl _⟩,⟨by (with_reducible repeat (first|refine bN ?_ _|refine bD ?_|refine bA ?_ _));exact BK157.out⟩,⟨by repeat (first|(with_reducible first|exact HB.out|apply lA|apply lN|apply lD|refine lS ?_ GE157.out)|exact HB.out)⟩⟩
          ·rw [if_neg c18] at H
           have c18b0 : (a0_0 == 13) = false:=beq_eq_false_iff_ne.mpr c18
           have c18b1 : (a0_0 != 13) = true:=bne_iff_ne.mpr c18
           by_cases c19 : a0_0 = 14
           ·rw [if_pos c19] at H
            have c19b0 : (a0_0 == 14) = true:=beq_iff_eq.mpr c19
            have c19b1 : (a0_0 != 14) = false:=bne_eq_false_iff_eq.mpr c19
            clear c19
            have H':=aM H
            clear H
            go_wp2
            go_meet
            case rel => exact ⟨_,((a0_0 == 14)),(by first|rfl|(simp;done)|(simp [*];done)),H',⟨by have:=HJ1.out;first|omega|exact Nat.le_refl _⟩,⟨by (with_reducible repeat (first|refine bN ?_ _|refine bD ?_|refine bA ?_ _));exact BK157.out⟩,⟨by repeat (first|(with_reducible first|exact HB.out|apply lA|apply lN|apply lD|refine lS ?_ GE157.out)|exact HB.out)⟩⟩
           ·rw [if_neg c19] at H
            have c19b0 : (a0_0 == 14) = false:=beq_eq_false_iff_ne.mpr c19
            have c19b1 : (a0_0 != 14) = true:=bne_iff_ne.mpr c19
            by_cases c20 : a0_0 = 19
            ·rw [if_pos c20] at H
             have c20b0 : (a0_0 == 19) = true:=beq_iff_eq.mpr c20
             have c20b1 : (a0_0 != 19) = false:=bne_eq_false_iff_eq.mpr c20
             clear c20
             have H':=aM H
             clear H
             go_wp2
             go_meet
             case rel => exact ⟨_,((a0_0 == 19)),(by first|rfl|(simp;done)|(simp [*];done)),H',⟨by have:=HJ1.out;first|omega|exact Nat.le_refl _⟩,⟨by (with_reducible repeat (first|refine bN ?_ _|refine bD ?_|refine bA ?_ _));exact BK157.out⟩,⟨by repeat (first|(with_reducible first|exact HB.out|apply lA|apply lN|apply lD|refine lS ?_ GE157.out)|exact HB.out)⟩⟩
            ·rw [if_neg c20] at H
             have c20b0 : (a0_0 == 19) = false:=beq_eq_false_iff_ne.mpr c20
             have c20b1 : (a0_0 != 19) = true:=bne_iff_ne.mpr c20
             have H':=aM H
             clear H
             go_wp2
             go_meet
             case rel => exact ⟨_,((a0_0 == 20)),(by first|rfl|(simp;done)|(simp [*];done)),H',⟨by have:=HJ1.out;first|omega|exact Nat.le_refl _⟩,⟨by (with_reducible repeat (first|refine bN ?_ _|refine bD ?_|refine bA ?_ _));exact BK157.out⟩,⟨by repeat (first|(with_reducible first|exact HB.out|apply lA|apply lN|apply lD|refine lS ?_ GE157.out)|exact HB.out)⟩⟩
    case rest =>
     clear HC12
     try clear c1
     try clear c2
     try clear p2
     try clear c5
     try clear c5b0
     try clear c5b1
     try clear c6
     try clear c6b0
     try clear c6b1
     try clear c7
     try clear c7b0
     try clear c7b1
     try clear c8
     try clear c8b0
     try clear c8b1
     try clear c9
     try clear c9b0
     try clear c9b1
     try clear c10
     try clear c10b0
     try clear c10b1
     try clear c11
     try clear c13
     try clear c13b0
     try clear c13b1
     try clear c14
     try clear c14b0
     try clear c14b1
     try clear c15
     try clear c15b0
     try clear c15b1
     try clear c16
     try clear c16b0
     try clear c16b1
     try clear c17
     try clear c17b0
     try clear c17b1
     try clear c18
     try clear c18b0
     try clear c18b1
     try clear c19
     try clear c19b0
     try clear c19b1
     try clear c20
     try clear c20b0
     try clear c20b1
     try clear hcz4_0
     try clear hcz4_1
     try clear hfz4_0
     try clear hfz4_1
     try clear p2
     obtain ⟨kq,x13_11,rfl,HA,HJ11,BK157,HB⟩:=hcut
     cases kq with
     |zero => exact absurd HA.out (by simp [impl_takesOf.j1])
     |succ kj11 =>
      have H:=HA.out
      clear HA
      simp only [impl_takesOf.j1] at H
      by_cases c21 : x13_11 = true
      ·subst c21
       have H1 : (some 2) = some r:=by rw [if_pos rfl] at H;exact H
       clear H
       have H:=H1
       clear H1
       obtain rfl:=Option.some.inj H
       go_wp2
       go_ret
       exact ⟨by first|rfl|(simp [errW_none,errW_some] <;> rfl)|(simp [*,errW_none,errW_some] <;> rfl),by repeat (first|(with_reducible first|exact HB.out|apply lA|apply lN|apply lD|refine lS ?_ GE157.out)|exact HB.out)⟩
      ·replace c21:=Bool.eq_false_iff.mpr c21
       subst c21
       have H1 : (if a0_0 = 16 then (some a0_1) else (some 0)) = some r:=by rw [if_neg (show ¬ (false = true) by decide)] at H;exact H
       clear H
       have H:=H1
       clear H1
       by_cases c22 : a0_0 = 16
       ·rw [if_pos c22] at H
        have c22b0 : (a0_0 == 16) = true:=beq_iff_eq.mpr c22
        have c22b1 : (a0_0 != 16) = false:=bne_eq_false_iff_eq.mpr c22
        clear c22
        obtain rfl:=Option.some.inj H
        have hcz23_0 : wc.cell? ⟨gb157,0,none⟩ = some (.int .i64 a0_0):=(bC BK157.out 0).trans rfl
        have hcz23_1 : wc.cell? ⟨gb157,1,none⟩ = some (.int .i64 a0_1):=(bC BK157.out 1).trans rfl
        have hfz23_0:=bF BK157.out 0
        have hfz23_1:=bF BK157.out 1
        go_wp2
        go_ret
        exact ⟨by first|rfl|(simp [errW_none,errW_some] <;> rfl)|(simp [*,errW_none,errW_some] <;> rfl),by repeat (first|(with_reducible first|exact HB.out|apply lA|apply lN|apply lD|refine lS ?_ GE157.out)|exact HB.out)⟩
       ·rw [if_neg c22] at H
        have c22b0 : (a0_0 == 16) = false:=beq_eq_false_iff_ne.mpr c22
        have c22b1 : (a0_0 != 16) = true:=bne_iff_ne.mpr c22
        obtain rfl:=Option.some.inj H
        go_wp2
        go_ret
        exact ⟨by first|rfl|(simp [errW_none,errW_some] <;> rfl)|(simp [*,errW_none,errW_some] <;> rfl),by repeat (first|(with_reducible first|exact HB.out|apply lA|apply lN|apply lD|refine lS ?_ GE157.out)|exact HB.out)⟩

/-! ### impl_flag: function 82 -/
def impl_flag.f (a0 : Bool) : Option (Int):=if a0 = true then (some 1) else (some 0)
set_option maxHeartbeats 8000000 in
set_option maxRecDepth 100000 in
theorem impl_flag.calls (a0 : Bool) (r : Int) (w : World) (h : impl_flag.f a0 = some r) :
  Calls Try.prog 82 #[.bool a0] w fun e w' => e = .returned (.int .i64 r) ∧ Drawn0 w w':=by
 have H : (if a0 = true then (some 1) else (some 0)) = some r:=h
 clear h
 by_cases c2 : a0 = true
 ·subst c2
  have H1 : (some 1) = some r:=by rw [if_pos rfl] at H;exact H
  clear H
  have H:=H1
  clear H1
  obtain rfl:=Option.some.inj H
  go_enter Try.func82,Try.ntmps82
  go_wp2
  go_ret
  exact ⟨by first|rfl|(simp;done)|(simp [*];done),by repeat (first|exact Drawn0.refl _|apply Drawn0.step)⟩
 ·replace c2:=Bool.eq_false_iff.mpr c2
  subst c2
  have H1 : (some 0) = some r:=by rw [if_neg (show ¬ (false = true) by decide)] at H;exact H
  clear H
  have H:=H1
  clear H1
  obtain rfl:=Option.some.inj H
  go_enter Try.func82,Try.ntmps82
  go_wp2
  go_ret
  exact ⟨by first|rfl|(simp;done)|(simp [*];done),by repeat (first|exact Drawn0.refl _|apply Drawn0.step)⟩

/-! ### impl_putsOf: function 65 -/
def impl_putsOf.f (a0_0 : Int) (a0_1 : Int) : Option (Int):=(impl_within.f a0_0 1 15).bind fun t159 => ((impl_flag.f t159).bind fun t160 => (some t160))
set_option maxHeartbeats 8000000 in
set_option maxRecDepth 100000 in
theorem impl_putsOf.calls (a0_0 : Int) (a0_1 : Int) (r : Int) (w : World) (h : impl_putsOf.f a0_0 a0_1 = some r) :
  Calls Try.prog 65 #[.agg #[.int .i64 a0_0,.int .i64 a0_1]] w fun e w' => e = .returned (.int .i64 r) ∧ Below w.heap.size w w':=by
 have hu47:=Try.underlying47
 have HB:=aM (Below.refl w.heap.size w)
 have H : ((impl_within.f a0_0 1 15).bind fun t159 => ((impl_flag.f t159).bind fun t160 => (some t160))) = some r:=h
 clear h
 replace H:=Option.bind_eq_some_iff.mp H
 obtain ⟨t159,A20,H⟩:=H
 replace H : ((impl_flag.f t159).bind fun t160 => (some t160)) = some r:=H
 have A2:=aM A20
 clear A20
 replace H:=Option.bind_eq_some_iff.mp H
 obtain ⟨t160,A30,H⟩:=H
 replace H : (some t160) = some r:=H
 have A3:=aM A30
 clear A30
 obtain rfl:=Option.some.inj H
 go_enter Try.func65,Try.ntmps65
 go_wp2_with (first|((with_reducible refine gate_dst (N:=1) rfl ?_);refine box_event ?hg (N:=1) ?hd (cs:=#[.int .i64 a0_0,.int .i64 a0_1]) (t:=47) ?hr ?_;(case hd => rfl);(case hg => rfl);(case hr => first|(go_simp;done)|(go_simp;rfl));intro gb158 hg w4 hbox hb;have n0_:=aM (lP (by repeat (first|(with_reducible first|exact HB.out|apply lA|apply lN|apply lD)|exact HB.out)) hb);have n1_:=aM (hbox);have n2_:=aM ((by rw [hg];exact (lZ (by repeat (first|(with_reducible first|exact HB.out|apply lA|apply lN|apply lD)|exact HB.out))) : w.heap.size ≤ gb158));have n3_:=aM ((by rw [hg];exact (lZ (by repeat (first|(with_reducible first|exact HB.out|apply lA|apply lN|apply lD)|exact HB.out))) : w.heap.size ≤ gb158));clear HB;have HB:=n0_;have BK158:=n1_;have GW158:=n2_;have GE158:=n3_;clear n0_ n1_ n2_ n3_ hb hbox hg;have hcz5_0 : w4.cell? ⟨gb158,0,none⟩ = some (.int .i64 a0_0):=(bC BK158.out 0).trans rfl;have hcz5_1 : w4.cell? ⟨gb158,1,none⟩ = some (.int .i64 a0_1):=(bC BK158.out 1).trans rfl;have hfz5_0:=bF BK158.out 0;have hfz5_1:=bF BK158.out 1)|((with_reducible refine gate_callee (f:=34) rfl ?_);refine goesL_ (some 5) rfl rfl Try.func34 (by kernel_rfl) rfl #[.int .i64 a0_0,.int .i64 1,.int .i64 15] rfl (by (try simp only [List.map_toArray,List.map_cons,List.map_nil]);first|done|rfl|(simp only [List.length_drop,List.length_take];rfl)) ?_;(with_reducible refine (impl_within.calls a0_0 1 15 t159 _ A2.out).mono ?_);rintro e w' ⟨rfl,⟨nd,rfl⟩⟩;refine ⟨_,rfl,?_⟩)|((with_reducible refine gate_callee (f:=82) rfl ?_);refine goesL_ (some 6) rfl rfl Try.func82 (by kernel_rfl) rfl #[.bool t159] rfl (by (try simp only [List.map_toArray,List.map_cons,List.map_nil]);first|done|rfl|(simp only [List.length_drop,List.length_take];rfl)) ?_;(with_reducible refine (impl_flag.calls t159 t160 _ A3.out).mono ?_);rintro e w' ⟨rfl,⟨nd,rfl⟩⟩;refine ⟨_,rfl,?_⟩))
 go_ret
 exact ⟨by first|rfl|(simp [errW_none,errW_some] <;> rfl)|(simp [*,errW_none,errW_some] <;> rfl),by repeat (first|(with_reducible first|exact HB.out|apply lA|apply lN|apply lD|refine lS ?_ GE158.out)|exact HB.out)⟩

/-! ### impl_isNamed: function 80 -/
def impl_isNamed.f (a0 : Int) : Option (Bool):=if a0 = 2 then (some true) else (if a0 = 3 then (some true) else ((impl_within.f a0 17 20).bind fun t161 => (if t161 = true then (some true) else (some (a0 == 24)))))
set_option maxHeartbeats 8000000 in
set_option maxRecDepth 100000 in
theorem impl_isNamed.calls (a0 : Int) (r : Bool) (w : World) (h : impl_isNamed.f a0 = some r) :
  Calls Try.prog 80 #[.int .i64 a0] w fun e w' => e = .returned (.bool r) ∧ Drawn0 w w':=by
 have H : (if a0 = 2 then (some true) else (if a0 = 3 then (some true) else ((impl_within.f a0 17 20).bind fun t161 => (if t161 = true then (some true) else (some (a0 == 24)))))) = some r:=h
 clear h
 by_cases c2 : a0 = 2
 ·rw [if_pos c2] at H
  have c2b0 : (a0 == 2) = true:=beq_iff_eq.mpr c2
  have c2b1 : (a0 != 2) = false:=bne_eq_false_iff_eq.mpr c2
  clear c2
  obtain rfl:=Option.some.inj H
  go_enter Try.func80,Try.ntmps80
  go_wp2
  go_ret
  exact ⟨by first|rfl|(simp;done)|(simp [*];done),by repeat (first|exact Drawn0.refl _|apply Drawn0.step)⟩
 ·rw [if_neg c2] at H
  have c2b0 : (a0 == 2) = false:=beq_eq_false_iff_ne.mpr c2
  have c2b1 : (a0 != 2) = true:=bne_iff_ne.mpr c2
  by_cases c3 : a0 = 3
  ·rw [if_pos c3] at H
   have c3b0 : (a0 == 3) = true:=beq_iff_eq.mpr c3
   have c3b1 : (a0 != 3) = false:=bne_eq_false_iff_eq.mpr c3
   clear c3
   obtain rfl:=Option.some.inj H
   go_enter Try.func80,Try.ntmps80
   go_wp2
   go_ret
   exact ⟨by first|rfl|(simp;done)|(simp [*];done),by repeat (first|exact Drawn0.refl _|apply Drawn0.step)⟩
  ·rw [if_neg c3] at H
   have c3b0 : (a0 == 3) = false:=beq_eq_false_iff_ne.mpr c3
   have c3b1 : (a0 != 3) = true:=bne_iff_ne.mpr c3
   replace H:=Option.bind_eq_some_iff.mp H
   obtain ⟨t161,A40,H⟩:=H
   replace H : (if t161 = true then (some true) else (some (a0 == 24))) = some r:=H
   have A4:=aM A40
   clear A40
   by_cases c5 : t161 = true
   ·subst c5
    have H1 : (some true) = some r:=by rw [if_pos rfl] at H;exact H
    clear H
    have H:=H1
    clear H1
    obtain rfl:=Option.some.inj H
    go_enter Try.func80,Try.ntmps80
    go_wp2_with (first|(go_at_call 34;(with_reducible refine (impl_within.calls a0 17 20 true _ A4.out).mono ?_);rintro e w' ⟨rfl,⟨nd,rfl⟩⟩))
    go_ret
    exact ⟨by first|rfl|(simp;done)|(simp [*];done),by repeat (first|exact Drawn0.refl _|apply Drawn0.step)⟩
   ·replace c5:=Bool.eq_false_iff.mpr c5
    subst c5
    have H1 : (some (a0 == 24)) = some r:=by rw [if_neg (show ¬ (false = true) by decide)] at H;exact H
    clear H
    have H:=H1
    clear H1
    obtain rfl:=Option.some.inj H
    go_enter Try.func80,Try.ntmps80
    go_wp2_with (first|(go_at_call 34;(with_reducible refine (impl_within.calls a0 17 20 false _ A4.out).mono ?_);rintro e w' ⟨rfl,⟨nd,rfl⟩⟩))
    go_ret
    exact ⟨by first|rfl|(simp;done)|(simp [*];done),by repeat (first|exact Drawn0.refl _|apply Drawn0.step)⟩

/-! ### impl_hasText: function 79 -/
def impl_hasText.f (a0 : Int) : Option (Bool):=if a0 = 1 then (some true) else (if a0 = 15 then (some true) else ((impl_isNamed.f a0).bind fun t162 => (some t162)))
set_option maxHeartbeats 8000000 in
set_option maxRecDepth 100000 in
theorem impl_hasText.calls (a0 : Int) (r : Bool) (w : World) (h : impl_hasText.f a0 = some r) :
  Calls Try.prog 79 #[.int .i64 a0] w fun e w' => e = .returned (.bool r) ∧ Drawn0 w w':=by
 have H : (if a0 = 1 then (some true) else (if a0 = 15 then (some true) else ((impl_isNamed.f a0).bind fun t162 => (some t162)))) = some r:=h
 clear h
 by_cases c2 : a0 = 1
 ·rw [if_pos c2] at H
  have c2b0 : (a0 == 1) = true:=beq_iff_eq.mpr c2
  have c2b1 : (a0 != 1) = false:=bne_eq_false_iff_eq.mpr c2
  clear c2
  obtain rfl:=Option.some.inj H
  go_enter Try.func79,Try.ntmps79
  go_wp2
  go_ret
  exact ⟨by first|rfl|(simp;done)|(simp [*];done),by repeat (first|exact Drawn0.refl _|apply Drawn0.step)⟩
 ·rw [if_neg c2] at H
  have c2b0 : (a0 == 1) = false:=beq_eq_false_iff_ne.mpr c2
  have c2b1 : (a0 != 1) = true:=bne_iff_ne.mpr c2
  by_cases c3 : a0 = 15
  ·rw [if_pos c3] at H
   have c3b0 : (a0 == 15) = true:=beq_iff_eq.mpr c3
   have c3b1 : (a0 != 15) = false:=bne_eq_false_iff_eq.mpr c3
   clear c3
   obtain rfl:=Option.some.inj H
   go_enter Try.func79,Try.ntmps79
   go_wp2
   go_ret
   exact ⟨by first|rfl|(simp;done)|(simp [*];done),by repeat (first|exact Drawn0.refl _|apply Drawn0.step)⟩
  ·rw [if_neg c3] at H
   have c3b0 : (a0 == 15) = false:=beq_eq_false_iff_ne.mpr c3
   have c3b1 : (a0 != 15) = true:=bne_iff_ne.mpr c3
   replace H:=Option.bind_eq_some_iff.mp H
   obtain ⟨t162,A40,H⟩:=H
   replace H : (some t162) = some r:=H
   have A4:=aM A40
   clear A40
   obtain rfl:=Option.some.inj H
   go_enter Try.func79,Try.ntmps79
   go_wp2_with (first|(go_at_call 80;(with_reducible refine (impl_isNamed.calls a0 t162 _ A4.out).mono ?_);rintro e w' ⟨rfl,⟨nd,rfl⟩⟩))
   go_ret
   exact ⟨by first|rfl|(simp;done)|(simp [*];done),by repeat (first|exact Drawn0.refl _|apply Drawn0.step)⟩

/-! ### impl_isLetter: function 100 -/
def impl_isLetter.f (a0 : Int) : Option (Bool):=(impl_within.f (wrap64 (a0)) 97 122).bind fun t163 => (if t163 = true then (some true) else ((impl_within.f (wrap64 (a0)) 65 90).bind fun t164 => (some t164)))
set_option maxHeartbeats 8000000 in
set_option maxRecDepth 100000 in
theorem impl_isLetter.calls (a0 : Int) (r : Bool) (w : World) (h : impl_isLetter.f a0 = some r) :
  Calls Try.prog 100 #[.int .u8 a0] w fun e w' => e = .returned (.bool r) ∧ Drawn0 w w':=by
 have H : ((impl_within.f (wrap64 (a0)) 97 122).bind fun t163 => (if t163 = true then (some true) else ((impl_within.f (wrap64 (a0)) 65 90).bind fun t164 => (some t164)))) = some r:=h
 clear h
 replace H:=Option.bind_eq_some_iff.mp H
 obtain ⟨t163,A20,H⟩:=H
 replace H : (if t163 = true then (some true) else ((impl_within.f (wrap64 (a0)) 65 90).bind fun t164 => (some t164))) = some r:=H
 have A2:=aM A20
 clear A20
 by_cases c3 : t163 = true
 ·subst c3
  have H1 : (some true) = some r:=by rw [if_pos rfl] at H;exact H
  clear H
  have H:=H1
  clear H1
  obtain rfl:=Option.some.inj H
  go_enter Try.func100,Try.ntmps100
  go_wp2_with (first|((with_reducible refine gate_callee (f:=34) rfl ?_);refine goesL_ (some 5) rfl rfl Try.func34 (by kernel_rfl) rfl #[.int .i64 (wrap64 (a0)),.int .i64 97,.int .i64 122] rfl (by (try simp only [List.map_toArray,List.map_cons,List.map_nil]);first|done|rfl|(simp only [List.length_drop,List.length_take];rfl)) ?_;(with_reducible refine (impl_within.calls (wrap64 (a0)) 97 122 true _ A2.out).mono ?_);rintro e w' ⟨rfl,⟨nd,rfl⟩⟩;refine ⟨_,rfl,?_⟩))
  go_ret
  exact ⟨by first|rfl|(simp;done)|(simp [*];done),by repeat (first|exact Drawn0.refl _|apply Drawn0.step)⟩
 ·replace c3:=Bool.eq_false_iff.mpr c3
  subst c3
  have H1 : ((impl_within.f (wrap64 (a0)) 65 90).bind fun t164 => (some t164)) = some r:=by rw [if_neg (show ¬ (false = true) by decide)] at H;exact H
  clear H
  have H:=H1
  clear H1
  replace H:=Option.bind_eq_some_iff.mp H
  obtain ⟨t164,A40,H⟩:=H
  replace H : (some t164) = some r:=H
  have A4:=aM A40
  clear A40
  obtain rfl:=Option.some.inj H
  go_enter Try.func100,Try.ntmps100
  go_wp2_with (first|((with_reducible refine gate_callee (f:=34) rfl ?_);refine goesL_ (some 5) rfl rfl Try.func34 (by kernel_rfl) rfl #[.int .i64 (wrap64 (a0)),.int .i64 97,.int .i64 122] rfl (by (try simp only [List.map_toArray,List.map_cons,List.map_nil]);first|done|rfl|(simp only [List.length_drop,List.length_take];rfl)) ?_;(with_reducible refine (impl_within.calls (wrap64 (a0)) 97 122 false _ A2.out).mono ?_);rintro e w' ⟨rfl,⟨nd,rfl⟩⟩;refine ⟨_,rfl,?_⟩)|(go_at_call 34;(with_reducible refine (impl_within.calls (wrap64 (a0)) 65 90 t164 _ A4.out).mono ?_);rintro e w' ⟨rfl,⟨nd,rfl⟩⟩))
  go_ret
  exact ⟨by first|rfl|(simp;done)|(simp [*];done),by repeat (first|exact Drawn0.refl _|apply Drawn0.step)⟩

/-! ### impl_isLetters: function 81 -/
def impl_isLetters.l0 : Nat → ByteArray → Int → Int → Option (Bool)
 |0,_,_,_ => none
 |k + 1,x0,x5,x6 => if x6 < x5 then (if 0 ≤ x6 then (if x6 < (x0.size : Int) then ((impl_isLetter.f (bt x0 x6)).bind fun t165 => (if t165 = true then (impl_isLetters.l0 k x0 x5 (wrap64 (x6 + 1))) else (some false))) else (none)) else (none)) else ((impl_within.f (x0.size : Int) 1 8).bind fun t166 => (some t166))
def impl_isLetters.f (k : Nat) (a0 : ByteArray) : Option (Bool):=impl_isLetters.l0 k a0 (a0.size : Int) 0
theorem impl_isLetters.mono_l : ∀ k,(∀ y0 y1 y2,LeO (impl_isLetters.l0 k y0 y1 y2) (impl_isLetters.l0 (k + 1) y0 y1 y2))
 |0 => fun _ _ _ r h => by simp [impl_isLetters.l0] at h
 |k + 1 => by
  have ih0:=impl_isLetters.mono_l k
  ·intro y0 y1 y2
   unfold impl_isLetters.l0
   repeat' first
   |(with_reducible exact ih0 _ _ _)
   |(with_reducible exact LeO.refl _)
   |(with_reducible exact LeO.none _)
   |(with_reducible refine LeO.ite ?_ ?_)
   |(with_reducible refine LeO.bind ?_ (fun _ => ?_))
   |exact ih0 _ _ _
   |exact LeO.none _
   |refine LeO.ite ?_ ?_
   |refine LeO.bind ?_ (fun _ => ?_)
theorem impl_isLetters.mono : ∀ a0 k,LeO (impl_isLetters.f k a0) (impl_isLetters.f (k + 1) a0):=by
 intro a0 k
 have ih0:=impl_isLetters.mono_l k
 unfold impl_isLetters.f
 repeat' first
   |(with_reducible exact ih0 _ _ _)
   |(with_reducible exact LeO.refl _)
   |(with_reducible exact LeO.none _)
   |(with_reducible refine LeO.ite ?_ ?_)
   |(with_reducible refine LeO.bind ?_ (fun _ => ?_))
   |exact ih0 _ _ _
   |exact LeO.none _
   |refine LeO.ite ?_ ?_
   |refine LeO.bind ?_ (fun _ => ?_)
set_option maxHeartbeats 8000000 in
set_option maxRecDepth 100000 in
theorem impl_isLetters.calls (k : Nat) (a0 : ByteArray) (r : Bool) (w : World) (h : impl_isLetters.f k a0 = some r) :
  Calls Try.prog 81 #[.string a0] w fun e w' => e = .returned (.bool r) ∧ Drawn0 w w':=by
 have H : (impl_isLetters.l0 k a0 (a0.size : Int) 0) = some r:=h
 clear h
 have H':=aM H
 clear H
 go_enter Try.func81,Try.ntmps81
 go_wp2
 go_loopg [6] k (fun kq v6 w' => ∃ (x6_1 : Int),v6 = .int .i64 x6_1 ∧ Aside0 (impl_isLetters.l0 kq a0 (a0.size : Int) x6_1 = some r) ∧ Aside0 (kq ≤ k) ∧ Drawn0 w w')
 case atStart => exact ⟨(0),(by first|rfl|(simp;done)|(simp [*];done)),H',⟨Nat.le_refl _⟩,by repeat (first|exact Drawn0.refl _|apply Drawn0.step)⟩
 case round =>
  clear H'
  obtain ⟨x6_1,rfl,HA,HK1,⟨m1,rfl⟩⟩:=hrel
  cases gk with
  |zero => exact absurd HA.out (by simp [impl_isLetters.l0])
  |succ k1 =>
   have H:=HA.out
   clear HA
   simp only [impl_isLetters.l0] at H
   by_cases c2 : x6_1 < (a0.size : Int)
   ·rw [if_pos c2] at H
    have c2b0 : decide (x6_1 < (a0.size : Int)) = true:=decide_eq_true c2
    clear c2
    by_cases c3 : 0 ≤ x6_1
    ·rw [if_pos c3] at H
     have c3b0 : decide (0 ≤ x6_1) = true:=decide_eq_true c3
     clear c3
     by_cases c4 : x6_1 < (a0.size : Int)
     ·rw [if_pos c4] at H
      have c4b0 : decide (x6_1 < (a0.size : Int)) = true:=decide_eq_true c4
      clear c4
      replace H:=Option.bind_eq_some_iff.mp H
      obtain ⟨t165,A60,H⟩:=H
      replace H : (if t165 = true then (impl_isLetters.l0 k1 a0 (a0.size : Int) (wrap64 (x6_1 + 1))) else (some false)) = some r:=H
      have A6:=aM A60
      clear A60
      by_cases c7 : t165 = true
      ·subst c7
       have H1 : (impl_isLetters.l0 k1 a0 (a0.size : Int) (wrap64 (x6_1 + 1))) = some r:=by rw [if_pos rfl] at H;exact H
       clear H
       have H:=H1
       clear H1
       have H':=aM H
       clear H
       have p5 : 0 ≤ (x6_1 : Int):=of_decide_eq_true (by first|(with_reducible assumption)|assumption)
       have q5 : x6_1 < (a0.size : Int):=of_decide_eq_true (by first|(with_reducible assumption)|assumption)
       have hx5:=bt_at a0 x6_1
       replace p5:=eq_true p5
       replace q5:=eq_true q5
       go_wp2_with (first|((with_reducible refine gate_callee (f:=100) rfl ?_);refine goesL_ (some 12) rfl rfl Try.func100 (by kernel_rfl) rfl #[.int .u8 (bt a0 x6_1)] rfl (by (try simp only [List.map_toArray,List.map_cons,List.map_nil]);first|done|rfl|(simp only [List.length_drop,List.length_take];rfl)) ?_;(with_reducible refine (impl_isLetter.calls (bt a0 x6_1) true _ A6.out).mono ?_);rintro e w' ⟨rfl,⟨nd,rfl⟩⟩;refine ⟨_,rfl,?_⟩))
       go_roundg k1
       case measure => have:=HK1.out;omega
       case rel => exact ⟨(wrap64 (x6_1 + 1)),(by first|rfl|(simp;done)|(simp [*];done)),H',⟨by have:=HK1.out;omega⟩,by repeat (first|exact Drawn0.refl _|apply Drawn0.step)⟩
      ·replace c7:=Bool.eq_false_iff.mpr c7
       subst c7
       have H1 : (some false) = some r:=by rw [if_neg (show ¬ (false = true) by decide)] at H;exact H
       clear H
       have H:=H1
       clear H1
       obtain rfl:=Option.some.inj H
       have p5 : 0 ≤ (x6_1 : Int):=of_decide_eq_true (by first|(with_reducible assumption)|assumption)
       have q5 : x6_1 < (a0.size : Int):=of_decide_eq_true (by first|(with_reducible assumption)|assumption)
       have hx5:=bt_at a0 x6_1
       replace p5:=eq_true p5
       replace q5:=eq_true q5
       go_wp2_with (first|((with_reducible refine gate_callee (f:=100) rfl ?_);refine goesL_ (some 12) rfl rfl Try.func100 (by kernel_rfl) rfl #[.int .u8 (bt a0 x6_1)] rfl (by (try simp only [List.map_toArray,List.map_cons,List.map_nil]);first|done|rfl|(simp only [List.length_drop,List.length_take];rfl)) ?_;(with_reducible refine (impl_isLetter.calls (bt a0 x6_1) false _ A6.out).mono ?_);rintro e w' ⟨rfl,⟨nd,rfl⟩⟩;refine ⟨_,rfl,?_⟩))
       go_ret
       exact ⟨by first|rfl|(simp;done)|(simp [*];done),by repeat (first|exact Drawn0.refl _|apply Drawn0.step)⟩
     ·rw [if_neg c4] at H
      exact absurd H (by simp)
    ·rw [if_neg c3] at H
     exact absurd H (by simp)
   ·rw [if_neg c2] at H
    have c2b0 : decide (x6_1 < (a0.size : Int)) = false:=decide_eq_false c2
    clear c2
    replace H:=Option.bind_eq_some_iff.mp H
    obtain ⟨t166,A80,H⟩:=H
    replace H : (some t166) = some r:=H
    have A8:=aM A80
    clear A80
    obtain rfl:=Option.some.inj H
    go_wp2_with (first|((with_reducible refine gate_callee (f:=34) rfl ?_);refine goesL_ (some 17) rfl rfl Try.func34 (by kernel_rfl) rfl #[.int .i64 (a0.size : Int),.int .i64 1,.int .i64 8] rfl (by (try simp only [List.map_toArray,List.map_cons,List.map_nil]);first|done|rfl|(simp only [List.length_drop,List.length_take];rfl)) ?_;(with_reducible refine (impl_within.calls (a0.size : Int) 1 8 t166 _ A8.out).mono ?_);rintro e w' ⟨rfl,⟨nd,rfl⟩⟩;refine ⟨_,rfl,?_⟩))
    go_ret
    exact ⟨by first|rfl|(simp;done)|(simp [*];done),by repeat (first|exact Drawn0.refl _|apply Drawn0.step)⟩

end Go.Proofs.Ytnjomkadjcjcnaa.QFnBroken
