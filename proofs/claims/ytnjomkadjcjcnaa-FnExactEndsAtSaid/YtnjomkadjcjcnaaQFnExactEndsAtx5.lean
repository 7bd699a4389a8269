-- A text of this session, made by wip/own_print.py (the kit's print with additions of ours).
import Derived.Test.YtnjomkadjcjcnaaQFnExactEndsAtx0
import Derived.Test.YtnjomkadjcjcnaaQFnExactEndsAtx4
namespace Go.Proofs.Ytnjomkadjcjcnaa.QFnExactEndsAt
open Go.RowKit Go.Proofs.YtnjomkadjcjcnaaW.PrintWords Go.Proofs.YtnjomkadjcjcnaaW.PrintLast Go.Proofs.YtnjomkadjcjcnaaW.PrintMore
attribute [local go_sem] max2_int min2_int max_two min_two max_three min_three max_four min_four   -- for this text's walks alone
set_option linter.unusedVariables false
set_option linter.unusedSimpArgs false
open Bool renaming true → bT, false → bf
open Go.Proofs.YtnjomkadjcjcnaaW.PrintWords.Kd renaming R_alloc → rA, R_drewN → rN, R_drew → rD, C_alloc → cA, C_drewN → cN, C_drew → cD, R_far → rF, R_below → rB, R_lower → rL, R_lt → rT, R_base → rS, C_below → cB, R_types → rY, R_elder' → rE, R_reads' → rR, R_new' → rW
open Go.Proofs.YtnjomkadjcjcnaaW.PrintWords renaming blk_drewN → bN, blk_drew → bD, blk_alloc → bA, below_set → lS, pw_below_drewN → lN, below_drew1 → lD, below_alloc → lA, blk_cell → bC, blk_below → bB, below_size → lZ, below_step → lP, blk_lt → bL, blk_frozen → bF
open Go.Proofs.YtnjomkadjcjcnaaW.PrintWords.Aside0 renaming mk → aM
theorem q_ia4 {α : Type} (l : List α) (i : Nat) (a : α) : l.toArray.setIfInBounds i a = (l.set i a).toArray := List.setIfInBounds_toArray ..
theorem q_cz4 {α : Type} (a b : α) (l : List α) : (a :: l).set 0 b = b :: l := rfl
theorem q_cs4 {α : Type} (a b : α) (l : List α) (n : Nat) : (a :: l).set (n + 1) b = a :: l.set n b := rfl

/-! ### impl_pieceOk: function 49 -/
mutual
def impl_pieceOk.j1 : Nat → Int → Int → Int → ByteArray → List Int → Option (Bool)
 | 0, _, _, _, _, _ => none
 | k + 1, x1, x5, x163000, x163001, x163002 => if x163000 = 1 then ((impl_within.f x163000 1 12).bind fun t163 => (if t163 = true then (if (x163001.size : Int) = 1 then (if (x163002.length : Int) = x5 then ((impl_kidsAhead.f k x163002 x1).bind fun t164 => (some t164)) else (some false)) else (some false)) else (some false))) else (if x163000 = 3 then (impl_pieceOk.j2 k x1 x5 (x163001.toList == ([] : List UInt8)) (x163000 == 3) x163000 x163001 x163002) else (impl_pieceOk.j2 k x1 x5 (x163001.toList == ([] : List UInt8)) (x163000 == 4) x163000 x163001 x163002))
def impl_pieceOk.j2 : Nat → Int → Int → Bool → Bool → Int → ByteArray → List Int → Option (Bool)
 | 0, _, _, _, _, _, _, _ => none
 | k + 1, x1, x5, x6, x27, x163000, x163001, x163002 => if x27 = true then ((impl_within.f (x163001.size : Int) 1 24).bind fun t165 => ((impl_within.f x163000 1 12).bind fun t166 => (if t166 = true then (if t165 = true then (if (x163002.length : Int) = x5 then ((impl_kidsAhead.f k x163002 x1).bind fun t167 => (some t167)) else (some false)) else (some false)) else (some false)))) else ((impl_within.f x163000 1 12).bind fun t168 => (if t168 = true then (if x6 = true then (if (x163002.length : Int) = x5 then ((impl_kidsAhead.f k x163002 x1).bind fun t169 => (some t169)) else (some false)) else (some false)) else (some false)))
def impl_pieceOk.j0 : Nat → Int → Int → Int → Bool → Int → ByteArray → List Int → Option (Bool)
 | 0, _, _, _, _, _, _, _ => none
 | k + 1, x1, x5, x8, x9, x163000, x163001, x163002 => if x9 = true then (impl_pieceOk.j1 k x1 2 x163000 x163001 x163002) else (if x8 = 7 then (impl_pieceOk.j1 k x1 1 x163000 x163001 x163002) else (if x8 = 8 then (impl_pieceOk.j1 k x1 1 x163000 x163001 x163002) else (if x8 = 9 then (impl_pieceOk.j1 k x1 1 x163000 x163001 x163002) else (impl_pieceOk.j1 k x1 x5 x163000 x163001 x163002))))
end
def impl_pieceOk.f (k : Nat) (a0_0 : Int) (a0_1 : ByteArray) (l0_2 : List Int) (a1 : Int) : Option (Bool) := if a0_0 = 5 then (impl_pieceOk.j0 k a1 0 a0_0 (a0_0 == 5) a0_0 a0_1 l0_2) else (impl_pieceOk.j0 k a1 0 a0_0 (a0_0 == 6) a0_0 a0_1 l0_2)
theorem impl_pieceOk.mono_l : ∀ k, (∀ y0 y1 y2 y3 y4, LeO (impl_pieceOk.j1 k y0 y1 y2 y3 y4) (impl_pieceOk.j1 (k + 1) y0 y1 y2 y3 y4)) ∧ (∀ y0 y1 y2 y3 y4 y5 y6, LeO (impl_pieceOk.j2 k y0 y1 y2 y3 y4 y5 y6) (impl_pieceOk.j2 (k + 1) y0 y1 y2 y3 y4 y5 y6)) ∧ (∀ y0 y1 y2 y3 y4 y5 y6, LeO (impl_pieceOk.j0 k y0 y1 y2 y3 y4 y5 y6) (impl_pieceOk.j0 (k + 1) y0 y1 y2 y3 y4 y5 y6))
 | 0 => ⟨fun _ _ _ _ _ r h => by simp [impl_pieceOk.j1] at h, fun _ _ _ _ _ _ _ r h => by simp [impl_pieceOk.j2] at h, fun _ _ _ _ _ _ _ r h => by simp [impl_pieceOk.j0] at h⟩
 | k + 1 => by
  obtain ⟨ih0, ih1, ih2⟩ := impl_pieceOk.mono_l k
  refine ⟨?_, ?_, ?_⟩
  ·intro y0 y1 y2 y3 y4
   unfold impl_pieceOk.j1
   repeat' first
   | (with_reducible exact ih0 _ _ _ _ _)
   | (with_reducible exact ih1 _ _ _ _ _ _ _)
   | (with_reducible exact ih2 _ _ _ _ _ _ _)
   | (with_reducible exact impl_kidsAhead.mono _ _ _)
   | (with_reducible exact LeO.refl _)
   | (with_reducible exact LeO.none _)
   | (with_reducible refine LeO.ite ?_ ?_)
   | (with_reducible refine LeO.bind ?_ (fun _ => ?_))
   | exact ih0 _ _ _ _ _
   | exact ih1 _ _ _ _ _ _ _
   | exact ih2 _ _ _ _ _ _ _
   | exact impl_kidsAhead.mono _ _ _
   | exact LeO.none _
   | refine LeO.ite ?_ ?_
   | refine LeO.bind ?_ (fun _ => ?_)
  ·intro y0 y1 y2 y3 y4 y5 y6
   unfold impl_pieceOk.j2
   repeat' first
   | (with_reducible exact ih0 _ _ _ _ _)
   | (with_reducible exact ih1 _ _ _ _ _ _ _)
   | (with_reducible exact ih2 _ _ _ _ _ _ _)
   | (with_reducible exact impl_kidsAhead.mono _ _ _)
   | (with_reducible exact LeO.refl _)
   | (with_reducible exact LeO.none _)
   | (with_reducible refine LeO.ite ?_ ?_)
   | (with_reducible refine LeO.bind ?_ (fun _ => ?_))
   | exact ih0 _ _ _ _ _
   | exact ih1 _ _ _ _ _ _ _
   | exact ih2 _ _ _ _ _ _ _
   | exact impl_kidsAhead.mono _ _ _
   | exact LeO.none _
   | refine LeO.ite ?_ ?_
   | refine LeO.bind ?_ (fun _ => ?_)
  ·intro y0 y1 y2 y3 y4 y5 y6
   unfold impl_pieceOk.j0
   repeat' first
   | (with_reducible exact ih0 _ _ _ _ _)
   | (with_reducible exact ih1 _ _ _ _ _ _ _)
   | (with_reducible exact ih2 _ _ _ _ _ _ _)
   | (with_reducible exact impl_kidsAhead.mono _ _ _)
   | (with_reducible exact LeO.refl _)
   | (with_reducible exact LeO.none _)
   | (with_reducible refine LeO.ite ?_ ?_)
   | (with_reducible refine LeO.bind ?_ (fun _ => ?_))
   | exact ih0 _ _ _ _ _
   | exact ih1 _ _ _ _ _ _ _
   | exact ih2 _ _ _ _ _ _ _
   | exact impl_kidsAhead.mono _ _ _
   | exact LeO.none _
   | refine LeO.ite ?_ ?_
   | refine LeO.bind ?_ (fun _ => ?_)
theorem impl_pieceOk.mono : ∀ a0 a1 a2 a3 k, LeO (impl_pieceOk.f k a0 a1 a2 a3) (impl_pieceOk.f (k + 1) a0 a1 a2 a3) := by
 intro a0 a1 a2 a3 k
 obtain ⟨ih0, ih1, ih2⟩ := impl_pieceOk.mono_l k
 unfold impl_pieceOk.f
 repeat' first
   | (with_reducible exact ih0 _ _ _ _ _)
   | (with_reducible exact ih1 _ _ _ _ _ _ _)
   | (with_reducible exact ih2 _ _ _ _ _ _ _)
   | (with_reducible exact impl_kidsAhead.mono _ _ _)
   | (with_reducible exact LeO.refl _)
   | (with_reducible exact LeO.none _)
   | (with_reducible refine LeO.ite ?_ ?_)
   | (with_reducible refine LeO.bind ?_ (fun _ => ?_))
   | exact ih0 _ _ _ _ _
   | exact ih1 _ _ _ _ _ _ _
   | exact ih2 _ _ _ _ _ _ _
   | exact impl_kidsAhead.mono _ _ _
   | exact LeO.none _
   | refine LeO.ite ?_ ?_
   | refine LeO.bind ?_ (fun _ => ?_)
set_option maxHeartbeats 8000000 in
set_option maxRecDepth 100000 in
theorem impl_pieceOk.calls (k : Nat) (a0_0 : Int) (a0_1 : ByteArray) (A0_2 : Option Addr) (c0_2 : Nat) (l0_2 : List Int) (a1 : Int) (r : Bool) (w : World) (hr0_2 : Kd.C (Kd.int .i64) w A0_2 l0_2.length l0_2) (hc0_2 : l0_2.length ≤ c0_2) (h : impl_pieceOk.f k a0_0 a0_1 l0_2 a1 = some r) :
  Calls Try.prog 49 #[.agg #[.int .i64 a0_0,.string a0_1,.slice A0_2 l0_2.length c0_2],.int .i64 a1] w fun e w' => e = .returned (.bool r) ∧ Below w.heap.size w w':=by
 have hu85:=Try.underlying85
 have HR0_2:=aM hr0_2
 have HC0_2:=aM hc0_2
 clear hr0_2 hc0_2
 have HB:=aM (Below.refl w.heap.size w)
 have H : (if a0_0 = 5 then (impl_pieceOk.j0 k a1 0 a0_0 (a0_0 == 5) a0_0 a0_1 l0_2) else (impl_pieceOk.j0 k a1 0 a0_0 (a0_0 == 6) a0_0 a0_1 l0_2)) = some r:=h
 clear h
 have HC3:=aM H
 clear H
 go_enter Try.func49,Try.ntmps49
 go_upto_block 0 with (first|((with_reducible refine gate_dst (N:=2) rfl ?_);(try (refine gate_guard (by rfl) ?_;dsimp only));refine box_event ?hg (N:=2) ?hd (cs:=#[.int .i64 a0_0,.string a0_1,.slice A0_2 l0_2.length c0_2]) (t:=85) ?hr ?_;(case hd => rfl);(case hg => rfl);(case hr => first|(go_simp;done)|(go_simp;rfl));intro gb162 hg w4 hbox hb;have n0_:=aM (lP (by repeat (first|(with_reducible first|exact HB.out|apply lA|apply lN|apply lD)|exact HB.out)) hb);have n1_:=aM (hbox);have n2_:=aM ((by rw [hg];exact (lZ (by repeat (first|(with_reducible first|exact HB.out|apply lA|apply lN|apply lD)|exact HB.out))) : w.heap.size ≤ gb162));have n3_:=aM ((by rw [hg];exact (lZ (by repeat (first|(with_reducible first|exact HB.out|apply lA|apply lN|apply lD)|exact HB.out))) : w.heap.size ≤ gb162));clear HB;have HB:=n0_;have BK162:=n1_;have GW162:=n2_;have GE162:=n3_;clear n0_ n1_ n2_ n3_ hb hbox hg;have hcz5_0 : w4.cell? ⟨gb162,0,none⟩ = some (.int .i64 a0_0):=(bC BK162.out 0).trans rfl;have hcz5_1 : w4.cell? ⟨gb162,1,none⟩ = some (.string a0_1):=(bC BK162.out 1).trans rfl;have hcz5_2 : w4.cell? ⟨gb162,2,none⟩ = some (.slice A0_2 l0_2.length c0_2):=(bC BK162.out 2).trans rfl;have hfz5_0:=bF BK162.out 0;have hfz5_1:=bF BK162.out 1;have hfz5_2:=bF BK162.out 2))
 (try simp only [Act.put,q_ia4,q_cz4,q_cs4])
 go_cut [5] (fun v5 wc => ∃ (kq : Nat) (x5_2 : Int),v5 = .int .i64 x5_2 ∧ Aside0 (impl_pieceOk.j1 kq a1 x5_2 a0_0 a0_1 l0_2 = some r) ∧ Aside0 (kq ≤ k) ∧ Aside0 (wc.heap[gb162]? = some (.cells #[.int .i64 a0_0,.string a0_1,(.slice A0_2 l0_2.length c0_2)] 85 (0,0))) ∧ Aside0 (Below w.heap.size w wc))
 case first =>
  have H:=HC3.out
  clear HC3
  have HC6:=aM H
  clear H
  go_upto_if 9 with (fail)
  go_cut [9] (fun v9 wc => ∃ (kq : Nat) (x9_5 : Bool),v9 = .bool x9_5 ∧ Aside0 (impl_pieceOk.j0 kq a1 0 a0_0 x9_5 a0_0 a0_1 l0_2 = some r) ∧ Aside0 (kq ≤ k) ∧ Aside0 (wc.heap[gb162]? = some (.cells #[.int .i64 a0_0,.string a0_1,(.slice A0_2 l0_2.length c0_2)] 85 (0,0))) ∧ Aside0 (Below w.heap.size w wc))
  case first =>
   have H:=HC6.out
   clear HC6
   by_cases c7 : a0_0 = 5
   ·rw [if_pos c7] at H
    have c7b0 : (a0_0 == 5) = true:=beq_iff_eq.mpr c7
    have c7b1 : (a0_0 != 5) = false:=bne_eq_false_iff_eq.mpr c7
    clear c7
    (first|rw [c7b0]|(simp only [i64_w,i32_w];rw [c7b0])|skip)
    have H':=aM H
    clear H
    go_wp2
    go_meet
    case rel => exact ⟨_,((a0_0 == 5)),(by first|rfl|(simp;done)|(simp [*];done)),H',⟨by first|omega|exact Nat.le_refl _⟩,⟨by (with_reducible repeat (first|refine bN ?_ _|refine bD ?_|refine bA ?_ _));exact BK162.out⟩,⟨by repeat (first|(with_reducible first|exact HB.out|apply lA|apply lN|apply lD|refine lS ?_ GE162.out)|exact HB.out)⟩⟩
   ·rw [if_neg c7] at H
    have c7b0 : (a0_0 == 5) = false:=beq_eq_false_iff_ne.mpr c7
    have c7b1 : (a0_0 != 5) = true:=bne_iff_ne.mpr c7
    (first|rw [c7b0]|(simp only [i64_w,i32_w];rw [c7b0])|skip)
    have H':=aM H
    clear H
    go_wp2
    go_meet
    case rel => exact ⟨_,((a0_0 == 6)),(by first|rfl|(simp;done)|(simp [*];done)),H',⟨by first|omega|exact Nat.le_refl _⟩,⟨by (with_reducible repeat (first|refine bN ?_ _|refine bD ?_|refine bA ?_ _));exact BK162.out⟩,⟨by repeat (first|(with_reducible first|exact HB.out|apply lA|apply lN|apply lD|refine lS ?_ GE162.out)|exact HB.out)⟩⟩
  case rest =>
   clear HC6
   try clear p2
   try clear c4
   try clear c7
   try clear c7b0
   try clear c7b1
   try clear hcz5_0
   try clear hcz5_1
   try clear hcz5_2
   try clear hfz5_0
   try clear hfz5_1
   try clear hfz5_2
   obtain ⟨kq,x9_5,rfl,HA,HJ5,BK162,HB⟩:=hcut
   cases kq with
   |zero => exact absurd HA.out (by simp [impl_pieceOk.j0])
   |succ kj5 =>
    have H:=HA.out
    clear HA
    simp only [impl_pieceOk.j0] at H
    by_cases c8 : x9_5 = true
    ·subst c8
     have H1 : (impl_pieceOk.j1 kj5 a1 2 a0_0 a0_1 l0_2) = some r:=by rw [if_pos rfl] at H;exact H
     clear H
     have H:=H1
     clear H1
     have H':=aM H
     clear H
     go_wp2
     go_meet
     case rel => exact ⟨_,(2),(by first|rfl|(simp;done)|(simp [*];done)),H',⟨by have:=HJ5.out;first|omega|exact Nat.le_refl _⟩,⟨by (with_reducible repeat (first|refine bN ?_ _|refine bD ?_|refine bA ?_ _));exact BK162.out⟩,⟨by repeat (first|(with_reducible first|exact HB.out|apply lA|apply lN|apply lD|refine lS ?_ GE162.out)|exact HB.out)⟩⟩
    ·replace c8:=Bool.eq_false_iff.mpr c8
     subst c8
     have H1 : (if a0_0 = 7 then (impl_pieceOk.j1 kj5 a1 1 a0_0 a0_1 l0_2) else (if a0_0 = 8 then (impl_pieceOk.j1 kj5 a1 1 a0_0 a0_1 l0_2) else (if a0_0 = 9 then (impl_pieceOk.j1 kj5 a1 1 a0_0 a0_1 l0_2) else (impl_pieceOk.j1 kj5 a1 0 a0_0 a0_1 l0_2)))) = some r:=by rw [if_neg (show ¬ (false = true) by decide)] at H;exact H
     clear H
     have H:=H1
     clear H1
     by_cases c9 : a0_0 = 7
     ·rw [if_pos c9] at H
      have c9b0 : (a0_0 == 7) = true:=beq_iff_eq.mpr c9
      have c9b1 : (a0_0 != 7) = false:=bne_eq_false_iff_eq.mpr c9
      clear c9
      have H':=aM H
      clear H
      go_wp2
      go_meet
      case rel => exact ⟨_,(1),(by first|rfl|(simp;done)|(simp [*];done)),H',⟨by have:=HJ5.out;first|omega|exact Nat.le_refl _⟩,⟨by (with_reducible repeat (first|refine bN ?_ _|refine bD ?_|refine bA ?_ _));exact BK162.out⟩,⟨by repeat (first|(with_reducible first|exact HB.out|apply lA|apply lN|apply lD|refine lS ?_ GE162.out)|exact HB.out)⟩⟩
     ·rw [if_neg c9] at H
      have c9b0 : (a0_0 == 7) = false:=beq_eq_false_iff_ne.mpr c9
      have c9b1 : (a0_0 != 7) = true:=bne_iff_ne.mpr c9
      by_cases c10 : a0_0 = 8
      ·rw [if_pos c10] at H
       have c10b0 : (a0_0 == 8) = true:=beq_iff_eq.mpr c10
       have c10b1 : (a0_0 != 8) = false:=bne_eq_false_iff_eq.mpr c10
       clear c10
       have H':=aM H
       clear H
       go_wp2
       go_meet
       case rel => exact ⟨_,(1),(by first|rfl|(simp;done)|(simp [*];done)),H',⟨by have:=HJ5.out;first|omega|exact Nat.le_refl _⟩,⟨by (with_reducible repeat (first|refine bN ?_ _|refine bD ?_|refine bA ?_ _));exact BK162.out⟩,⟨by repeat (first|(with_reducible first|exact HB.out|apply lA|apply lN|apply lD|refine lS ?_ GE162.out)|exact HB.out)⟩⟩
      ·rw [if_neg c10] at H
       have c10b0 : (a0_0 == 8) = false:=beq_eq_false_iff_ne.mpr c10
       have c10b1 : (a0_0 != 8) = true:=bne_iff_ne.mpr c10
       by_cases c11 : a0_0 = 9
       ·rw [if_pos c11] at H
        have c11b0 : (a0_0 == 9) = true:=beq_iff_eq.mpr c11
        have c11b1 : (a0_0 != 9) = false:=bne_eq_false_iff_eq.mpr c11
        clear c11
        have H':=aM H
        clear H
        go_wp2
        go_meet
        case rel => exact ⟨_,(1),(by first|rfl|(simp;done)|(simp [*];done)),H',⟨by have:=HJ5.out;first|omega|exact Nat.le_refl _⟩,⟨by (with_reducible repeat (first|refine bN ?_ _|refine bD ?_|refine bA ?_ _));exact BK162.out⟩,⟨by repeat (first|(with_reducible first|exact HB.out|apply lA|apply lN|apply lD|refine lS ?_ GE162.out)|exact HB.out)⟩⟩
       ·rw [if_neg c11] at H
        have c11b0 : (a0_0 == 9) = false:=beq_eq_false_iff_ne.mpr c11
        have c11b1 : (a0_0 != 9) = true:=bne_iff_ne.mpr c11
        have H':=aM H
        clear H
        go_wp2
        go_meet
        case rel => exact ⟨_,(0),(by first|rfl|(simp;done)|(simp [*];done)),H',⟨by have:=HJ5.out;first|omega|exact Nat.le_refl _⟩,⟨by (with_reducible repeat (first|refine bN ?_ _|refine bD ?_|refine bA ?_ _));exact BK162.out⟩,⟨by repeat (first|(with_reducible first|exact HB.out|apply lA|apply lN|apply lD|refine lS ?_ GE162.out)|exact HB.out)⟩⟩
 case rest =>
  clear HC3
  try clear c1
  try clear p2
  try clear c4
  try clear c7
  try clear c7b0
  try clear c7b1
  try clear c8
  try clear c9
  try clear c9b0
  try clear c9b1
  try clear c10
  try clear c10b0
  try clear c10b1
  try clear c11
  try clear c11b0
  try clear c11b1
  try clear hcz5_0
  try clear hcz5_1
  try clear hcz5_2
  try clear hfz5_0
  try clear hfz5_1
  try clear hfz5_2
  try clear p2
  obtain ⟨kq,x5_2,rfl,HA,HJ2,BK162,HB⟩:=hcut
  cases kq with
  |zero => exact absurd HA.out (by simp [impl_pieceOk.j1])
  |succ kj2 =>
   have H:=HA.out
   clear HA
   simp only [impl_pieceOk.j1] at H
   by_cases c12 : a0_0 = 1
   ·rw [if_pos c12] at H
    have c12b0 : (a0_0 == 1) = true:=beq_iff_eq.mpr c12
    have c12b1 : (a0_0 != 1) = false:=bne_eq_false_iff_eq.mpr c12
    clear c12
    replace H:=Option.bind_eq_some_iff.mp H
    obtain ⟨t163,A130,H⟩:=H
    replace H : (if t163 = true then (if (a0_1.size : Int) = 1 then (if (l0_2.length : Int) = x5_2 then ((impl_kidsAhead.f kj2 l0_2 a1).bind fun t164 => (some t164)) else (some false)) else (some false)) else (some false)) = some r:=H
    have A13:=aM A130
    clear A130
    by_cases c14 : t163 = true
    ·subst c14
     have H1 : (if (a0_1.size : Int) = 1 then (if (l0_2.length : Int) = x5_2 then ((impl_kidsAhead.f kj2 l0_2 a1).bind fun t164 => (some t164)) else (some false)) else (some false)) = some r:=by rw [if_pos rfl] at H;exact H
     clear H
     have H:=H1
     clear H1
     by_cases c15 : (a0_1.size : Int) = 1
     ·rw [if_pos c15] at H
      have c15b0 : ((a0_1.size : Int) == 1) = true:=beq_iff_eq.mpr c15
      have c15b1 : ((a0_1.size : Int) != 1) = false:=bne_eq_false_iff_eq.mpr c15
      clear c15
      by_cases c16 : (l0_2.length : Int) = x5_2
      ·rw [if_pos c16] at H
       have c16b0 : ((l0_2.length : Int) == x5_2) = true:=beq_iff_eq.mpr c16
       have c16b1 : ((l0_2.length : Int) != x5_2) = false:=bne_eq_false_iff_eq.mpr c16
       clear c16
       replace H:=Option.bind_eq_some_iff.mp H
       obtain ⟨t164,A170,H⟩:=H
       replace H : (some t164) = some r:=H
       have A17:=aM A170
       clear A170
       obtain rfl:=Option.some.inj H
       have hcz18_0 : wc.cell? ⟨gb162,0,none⟩ = some (.int .i64 a0_0):=(bC BK162.out 0).trans rfl
       have hcz18_1 : wc.cell? ⟨gb162,1,none⟩ = some (.string a0_1):=(bC BK162.out 1).trans rfl
       have hcz18_2 : wc.cell? ⟨gb162,2,none⟩ = some (.slice A0_2 l0_2.length c0_2):=(bC BK162.out 2).trans rfl
       have hfz18_0:=bF BK162.out 0
       have hfz18_1:=bF BK162.out 1
       have hfz18_2:=bF BK162.out 2
       go_wp2_with (first|((with_reducible refine gate_callee (f:=34) rfl ?_);refine goesL_ (some 36) rfl rfl Try.func34 (by kernel_rfl) rfl #[.int .i64 a0_0,.int .i64 1,.int .i64 12] rfl (by (try simp only [List.map_toArray,List.map_cons,List.map_nil]);first|done|rfl|(simp only [List.length_drop,List.length_take];rfl)) ?_;(with_reducible refine (impl_within.calls a0_0 1 12 true _ A13.out).mono ?_);rintro e w' ⟨rfl,⟨nd,rfl⟩⟩;refine ⟨_,rfl,?_⟩)|(go_at_call 69;(with_reducible refine (impl_kidsAhead.calls kj2 _ _ l0_2 a1 t164 _ ?side1 ?side2 A17.out).mono ?_);(case side1 => repeat (first|exact (cB HR0_2.out (by repeat (first|(with_reducible first|exact HB.out|apply lA|apply lN|apply lD|refine lS ?_ GE162.out)|exact HB.out)))|(with_reducible first|refine cA ?_ _|refine cN ?_ _|refine cD ?_)));(case side2 => exact HC0_2.out);rintro e w' ⟨rfl,⟨nd,rfl⟩⟩))
       go_ret
       exact ⟨by first|rfl|(simp [errW_none,errW_some] <;> rfl)|(simp [*,errW_none,errW_some] <;> rfl),by repeat (first|(with_reducible first|exact HB.out|apply lA|apply lN|apply lD|refine lS ?_ GE162.out)|exact HB.out)⟩
      ·rw [if_neg c16] at H
       have c16b0 : ((l0_2.length : Int) == x5_2) = false:=beq_eq_false_iff_ne.mpr c16
       have c16b1 : ((l0_2.length : Int) != x5_2) = true:=bne_iff_ne.mpr c16
       obtain rfl:=Option.some.inj H
       have hcz19_0 : wc.cell? ⟨gb162,0,none⟩ = some (.int .i64 a0_0):=(bC BK162.out 0).trans rfl
       have hcz19_1 : wc.cell? ⟨gb162,1,none⟩ = some (.string a0_1):=(bC BK162.out 1).trans rfl
       have hcz19_2 : wc.cell? ⟨gb162,2,none⟩ = some (.slice A0_2 l0_2.length c0_2):=(bC BK162.out 2).trans rfl
       have hfz19_0:=bF BK162.out 0
       have hfz19_1:=bF BK162.out 1
       have hfz19_2:=bF BK162.out 2
       go_wp2_with (first|((with_reducible refine gate_callee (f:=34) rfl ?_);refine goesL_ (some 36) rfl rfl Try.func34 (by kernel_rfl) rfl #[.int .i64 a0_0,.int .i64 1,.int .i64 12] rfl (by (try simp only [List.map_toArray,List.map_cons,List.map_nil]);first|done|rfl|(simp only [List.length_drop,List.length_take];rfl)) ?_;(with_reducible refine (impl_within.calls a0_0 1 12 true _ A13.out).mono ?_);rintro e w' ⟨rfl,⟨nd,rfl⟩⟩;refine ⟨_,rfl,?_⟩))
       go_ret
       exact ⟨by first|rfl|(simp [errW_none,errW_some] <;> rfl)|(simp [*,errW_none,errW_some] <;> rfl),by repeat (first|(with_reducible first|exact HB.out|apply lA|apply lN|apply lD|refine lS ?_ GE162.out)|exact HB.out)⟩
     ·rw [if_neg c15] at H
      have c15b0 : ((a0_1.size : Int) == 1) = false:=beq_eq_false_iff_ne.mpr c15
      have c15b1 : ((a0_1.size : Int) != 1) = true:=bne_iff_ne.mpr c15
      obtain rfl:=Option.some.inj H
      have hcz20_0 : wc.cell? ⟨gb162,0,none⟩ = some (.int .i64 a0_0):=(bC BK162.out 0).trans rfl
      have hcz20_1 : wc.cell? ⟨gb162,1,none⟩ = some (.string a0_1):=(bC BK162.out 1).trans rfl
      have hcz20_2 : wc.cell? ⟨gb162,2,none⟩ = some (.slice A0_2 l0_2.length c0_2):=(bC BK162.out 2).trans rfl
      have hfz20_0:=bF BK162.out 0
      have hfz20_1:=bF BK162.out 1
      have hfz20_2:=bF BK162.out 2
      go_wp2_with (first|((with_reducible refine gate_callee (f:=34) rfl ?_);refine goesL_ (some 36) rfl rfl Try.func34 (by kernel_rfl) rfl #[.int .i64 a0_0,.int .i64 1,.int .i64 12] rfl (by (try simp only [List.map_toArray,List.map_cons,List.map_nil]);first|done|rfl|(simp only [List.length_drop,List.length_take];rfl)) ?_;(with_reducible refine (impl_within.calls a0_0 1 12 true _ A13.out).mono ?_);rintro e w' ⟨rfl,⟨nd,rfl⟩⟩;refine ⟨_,rfl,?_⟩))
      go_ret
      exact ⟨by first|rfl|(simp [errW_none,errW_some] <;> rfl)|(simp [*,errW_none,errW_some] <;> rfl),by repeat (first|(with_reducible first|exact HB.out|apply lA|apply lN|apply lD|refine lS ?_ GE162.out)|exact HB.out)⟩
    ·replace c14:=Bool.eq_false_iff.mpr c14
     subst c14
     have H1 : (some false) = some r:=by rw [if_neg (show ¬ (false = true) by decide)] at H;exact H
     clear H
     have H:=H1
     clear H1
     obtain rfl:=Option.some.inj H
     have hcz21_0 : wc.cell? ⟨gb162,0,none⟩ = some (.int .i64 a0_0):=(bC BK162.out 0).trans rfl
     have hcz21_1 : wc.cell? ⟨gb162,1,none⟩ = some (.string a0_1):=(bC BK162.out 1).trans rfl
     have hcz21_2 : wc.cell? ⟨gb162,2,none⟩ = some (.slice A0_2 l0_2.length c0_2):=(bC BK162.out 2).trans rfl
     have hfz21_0:=bF BK162.out 0
     have hfz21_1:=bF BK162.out 1
     have hfz21_2:=bF BK162.out 2
     go_wp2_with (first|((with_reducible refine gate_callee (f:=34) rfl ?_);refine goesL_ (some 36) rfl rfl Try.func34 (by kernel_rfl) rfl #[.int .i64 a0_0,.int .i64 1,.int .i64 12] rfl (by (try simp only [List.map_toArray,List.map_cons,List.map_nil]);first|done|rfl|(simp only [List.length_drop,List.length_take];rfl)) ?_;(with_reducible refine (impl_within.calls a0_0 1 12 false _ A13.out).mono ?_);rintro e w' ⟨rfl,⟨nd,rfl⟩⟩;refine ⟨_,rfl,?_⟩))
     go_ret
     exact ⟨by first|rfl|(simp [errW_none,errW_some] <;> rfl)|(simp [*,errW_none,errW_some] <;> rfl),by repeat (first|(with_reducible first|exact HB.out|apply lA|apply lN|apply lD|refine lS ?_ GE162.out)|exact HB.out)⟩
   ·rw [if_neg c12] at H
    have c12b0 : (a0_0 == 1) = false:=beq_eq_false_iff_ne.mpr c12
    have c12b1 : (a0_0 != 1) = true:=bne_iff_ne.mpr c12
    have HC22:=aM H
    clear H
    have hcz23_0 : wc.cell? ⟨gb162,0,none⟩ = some (.int .i64 a0_0):=(bC BK162.out 0).trans rfl
    have hcz23_1 : wc.cell? ⟨gb162,1,none⟩ = some (.string a0_1):=(bC BK162.out 1).trans rfl
    have hcz23_2 : wc.cell? ⟨gb162,2,none⟩ = some (.slice A0_2 l0_2.length c0_2):=(bC BK162.out 2).trans rfl
    have hfz23_0:=bF BK162.out 0
    have hfz23_1:=bF BK162.out 1
    have hfz23_2:=bF BK162.out 2
    go_upto_if 27 with (fail)
    go_cut [27] (fun v27 wc => ∃ (kq : Nat) (x27_21 : Bool),v27 = .bool x27_21 ∧ Aside0 (impl_pieceOk.j2 kq a1 x5_2 (a0_1.toList == ([] : List UInt8)) x27_21 a0_0 a0_1 l0_2 = some r) ∧ Aside0 (kq ≤ kj2) ∧ Aside0 (wc.heap[gb162]? = some (.cells #[.int .i64 a0_0,.string a0_1,(.slice A0_2 l0_2.length c0_2)] 85 (0,0))) ∧ Aside0 (Below w.heap.size w wc))
    case first =>
     have H:=HC22.out
     clear HC22
     by_cases c24 : a0_0 = 3
     ·rw [if_pos c24] at H
      have c24b0 : (a0_0 == 3) = true:=beq_iff_eq.mpr c24
      have c24b1 : (a0_0 != 3) = false:=bne_eq_false_iff_eq.mpr c24
      clear c24
      (first|rw [c24b0]|(simp only [i64_w,i32_w];rw [c24b0])|skip)
      have H':=aM H
      clear H
      go_wp2
      go_meet
      case rel => exact ⟨_,((a0_0 == 3)),(by first|rfl|(simp;done)|(simp [*];done)),H',⟨by have:=HJ2.out;first|omega|exact Nat.le_refl _⟩,⟨by (with_reducible repeat (first|refine bN ?_ _|refine bD ?_|refine bA ?_ _));exact BK162.out⟩,⟨by repeat (first|(with_reducible first|exact HB.out|apply lA|apply lN|apply lD|refine lS ?_ GE162.out)|exact HB.out)⟩⟩
     ·rw [if_neg c24] at H
      have c24b0 : (a0_0 == 3) = false:=beq_eq_false_iff_ne.mpr c24
      have c24b1 : (a0_0 != 3) = true:=bne_iff_ne.mpr c24
      (first|rw [c24b0]|(simp only [i64_w,i32_w];rw [c24b0])|skip)
      have H':=aM H
      clear H
      go_wp2
      go_meet
      case rel => exact ⟨_,((a0_0 == 4)),(by first|rfl|(simp;done)|(simp [*];done)),H',⟨by have:=HJ2.out;first|omega|exact Nat.le_refl _⟩,⟨by (with_reducible repeat (first|refine bN ?_ _|refine bD ?_|refine bA ?_ _));exact BK162.out⟩,⟨by repeat (first|(with_reducible first|exact HB.out|apply lA|apply lN|apply lD|refine lS ?_ GE162.out)|exact HB.out)⟩⟩
    case rest =>
     clear HC22
     try clear c1
     try clear c2
     try clear p2
     try clear c3
     try clear c4
     try clear c7
     try clear c7b0
     try clear c7b1
     try clear c8
     try clear c9
     try clear c9b0
     try clear c9b1
     try clear c10
     try clear c10b0
     try clear c10b1
     try clear c11
     try clear c11b0
     try clear c11b1
     try clear c12
     try clear c12b0
     try clear c12b1
     try clear c14
     try clear c15
     try clear c15b0
     try clear c15b1
     try clear c16
     try clear c16b0
     try clear c16b1
     try clear c24
     try clear c24b0
     try clear c24b1
     try clear hcz18_0
     try clear hcz18_1
     try clear hcz18_2
     try clear hcz19_0
     try clear hcz19_1
     try clear hcz19_2
     try clear hcz20_0
     try clear hcz20_1
     try clear hcz20_2
     try clear hcz21_0
     try clear hcz21_1
     try clear hcz21_2
     try clear hcz23_0
     try clear hcz23_1
     try clear hcz23_2
     try clear hcz5_0
     try clear hcz5_1
     try clear hcz5_2
     try clear hfz18_0
     try clear hfz18_1
     try clear hfz18_2
     try clear hfz19_0
     try clear hfz19_1
     try clear hfz19_2
     try clear hfz20_0
     try clear hfz20_1
     try clear hfz20_2
     try clear hfz21_0
     try clear hfz21_1
     try clear hfz21_2
     try clear hfz23_0
     try clear hfz23_1
     try clear hfz23_2
     try clear hfz5_0
     try clear hfz5_1
     try clear hfz5_2
     try clear p2
     obtain ⟨kq,x27_21,rfl,HA,HJ21,BK162,HB⟩:=hcut
     cases kq with
     |zero => exact absurd HA.out (by simp [impl_pieceOk.j2])
     |succ kj21 =>
      have H:=HA.out
      clear HA
      simp only [impl_pieceOk.j2] at H
      by_cases c25 : x27_21 = true
      ·subst c25
       have H1 : ((impl_within.f (a0_1.size : Int) 1 24).bind fun t165 => ((impl_within.f a0_0 1 12).bind fun t166 => (if t166 = true then (if t165 = true then (if (l0_2.length : Int) = x5_2 then ((impl_kidsAhead.f kj21 l0_2 a1).bind fun t167 => (some t167)) else (some false)) else (some false)) else (some false)))) = some r:=by rw [if_pos rfl] at H;exact H
       clear H
       have H:=H1
       clear H1
       replace H:=Option.bind_eq_some_iff.mp H
       obtain ⟨t165,A260,H⟩:=H
       replace H : ((impl_within.f a0_0 1 12).bind fun t166 => (if t166 = true then (if t165 = true then (if (l0_2.length : Int) = x5_2 then ((impl_kidsAhead.f kj21 l0_2 a1).bind fun t167 => (some t167)) else (some false)) else (some false)) else (some false))) = some r:=H
       have A26:=aM A260
       clear A260
       replace H:=Option.bind_eq_some_iff.mp H
       obtain ⟨t166,A270,H⟩:=H
       replace H : (if t166 = true then (if t165 = true then (if (l0_2.length : Int) = x5_2 then ((impl_kidsAhead.f kj21 l0_2 a1).bind fun t167 => (some t167)) else (some false)) else (some false)) else (some false)) = some r:=H
       have A27:=aM A270
       clear A270
       by_cases c28 : t166 = true
       ·subst c28
        have H1 : (if t165 = true then (if (l0_2.length : Int) = x5_2 then ((impl_kidsAhead.f kj21 l0_2 a1).bind fun t167 => (some t167)) else (some false)) else (some false)) = some r:=by rw [if_pos rfl] at H;exact H
        clear H
        have H:=H1
        clear H1
        by_cases c29 : t165 = true
        ·subst c29
         have H1 : (if (l0_2.length : Int) = x5_2 then ((impl_kidsAhead.f kj21 l0_2 a1).bind fun t167 => (some t167)) else (some false)) = some r:=by rw [if_pos rfl] at H;exact H
         clear H
         have H:=H1
         clear H1
         by_cases c30 : (l0_2.length : Int) = x5_2
         ·rw [if_pos c30] at H
          have c30b0 : ((l0_2.length : Int) == x5_2) = true:=beq_iff_eq.mpr c30
          have c30b1 : ((l0_2.length : Int) != x5_2) = false:=bne_eq_false_iff_eq.mpr c30
          clear c30
          replace H:=Option.bind_eq_some_iff.mp H
          obtain ⟨t167,A310,H⟩:=H
          replace H : (some t167) = some r:=H
          have A31:=aM A310
          clear A310
          obtain rfl:=Option.some.inj H
          have hcz32_0 : wc.cell? ⟨gb162,0,none⟩ = some (.int .i64 a0_0):=(bC BK162.out 0).trans rfl
          have hcz32_1 : wc.cell? ⟨gb162,1,none⟩ = some (.string a0_1):=(bC BK162.out 1).trans rfl
          have hcz32_2 : wc.cell? ⟨gb162,2,none⟩ = some (.slice A0_2 l0_2.length c0_2):=(bC BK162.out 2).trans rfl
          have hfz32_0:=bF BK162.out 0
          have hfz32_1:=bF BK162.out 1
          have hfz32_2:=bF BK162.out 2
          go_wp2_with (first|((with_reducible refine gate_callee (f:=34) rfl ?_);refine goesL_ (some 33) rfl rfl Try.func34 (by kernel_rfl) rfl #[.int .i64 (a0_1.size : Int),.int .i64 1,.int .i64 24] rfl (by (try simp only [List.map_toArray,List.map_cons,List.map_nil]);first|done|rfl|(simp only [List.length_drop,List.length_take];rfl)) ?_;(with_reducible refine (impl_within.calls (a0_1.size : Int) 1 24 true _ A26.out).mono ?_);rintro e w' ⟨rfl,⟨nd,rfl⟩⟩;refine ⟨_,rfl,?_⟩)|((with_reducible refine gate_callee (f:=34) rfl ?_);refine goesL_ (some 36) rfl rfl Try.func34 (by kernel_rfl) rfl #[.int .i64 a0_0,.int .i64 1,.int .i64 12] rfl (by (try simp only [List.map_toArray,List.map_cons,List.map_nil]);first|done|rfl|(simp only [List.length_drop,List.length_take];rfl)) ?_;(with_reducible refine (impl_within.calls a0_0 1 12 true _ A27.out).mono ?_);rintro e w' ⟨rfl,⟨nd,rfl⟩⟩;refine ⟨_,rfl,?_⟩)|(go_at_call 69;(with_reducible refine (impl_kidsAhead.calls kj21 _ _ l0_2 a1 t167 _ ?side1 ?side2 A31.out).mono ?_);(case side1 => repeat (first|exact (cB HR0_2.out (by repeat (first|(with_reducible first|exact HB.out|apply lA|apply lN|apply lD|refine lS ?_ GE162.out)|exact HB.out)))|(with_reducible first|refine cA ?_ _|refine cN ?_ _|refine cD ?_)));(case side2 => exact HC0_2.out);rintro e w' ⟨rfl,⟨nd,rfl⟩⟩))
          go_ret
          exact ⟨by first|rfl|(simp [errW_none,errW_some] <;> rfl)|(simp [*,errW_none,errW_some] <;> rfl),by repeat (first|(with_reducible first|exact HB.out|apply lA|apply lN|apply lD|refine lS ?_ GE162.out)|exact HB.out)⟩
         ·rw [if_neg c30] at H
          have c30b0 : ((l0_2.length : Int) == x5_2) = false:=beq_eq_false_iff_ne.mpr c30
          have c30b1 : ((l0_2.length : Int) != x5_2) = true:=bne_iff_ne.mpr c30
          obtain rfl:=Option.some.inj H
          have hcz33_0 : wc.cell? ⟨gb162,0,none⟩ = some (.int .i64 a0_0):=(bC BK162.out 0).trans rfl
          have hcz33_1 : wc.cell? ⟨gb162,1,none⟩ = some (.string a0_1):=(bC BK162.out 1).trans rfl
          have hcz33_2 : wc.cell? ⟨gb162,2,none⟩ = some (.slice A0_2 l0_2.length c0_2):=(bC BK162.out 2).trans rfl
          have hfz33_0:=bF BK162.out 0
          have hfz33_1:=bF BK162.out 1
          have hfz33_2:=bF BK162.out 2
          go_wp2_with (first|((with_reducible refine gate_callee (f:=34) rfl ?_);refine goesL_ (some 33) rfl rfl Try.func34 (by kernel_rfl) rfl #[.int .i64 (a0_1.size : Int),.int .i64 1,.int .i64 24] rfl (by (try simp only [List.map_toArray,List.map_cons,List.map_nil]);first|done|rfl|(simp only [List.length_drop,List.length_take];rfl)) ?_;(with_reducible refine (impl_within.calls (a0_1.size : Int) 1 24 true _ A26.out).mono ?_);rintro e w' ⟨rfl,⟨nd,rfl⟩⟩;refine ⟨_,rfl,?_⟩)|((with_reducible refine gate_callee (f:=34) rfl ?_);refine goesL_ (some 36) rfl rfl Try.func34 (by kernel_rfl) rfl #[.int .i64 a0_0,.int .i64 1,.int .i64 12] rfl (by (try simp only [List.map_toArray,List.map_cons,List.map_nil]);first|done|rfl|(simp only [List.length_drop,List.length_take];rfl)) ?_;(with_reducible refine (impl_within.calls a0_0 1 12 true _ A27.out).mono ?_);rintro e w' ⟨rfl,⟨nd,rfl⟩⟩;refine ⟨_,rfl,?_⟩))
          go_ret
          exact ⟨by first|rfl|(simp [errW_none,errW_some] <;> rfl)|(simp [*,errW_none,errW_some] <;> rfl),by repeat (first|(with_reducible first|exact HB.out|apply lA|apply lN|apply lD|refine lS ?_ GE162.out)|exact HB.out)⟩
        ·replace c29:=Bool.eq_false_iff.mpr c29
         subst c29
         have H1 : (some false) = some r:=by rw [if_neg (show ¬ (false = true) by decide)] at H;exact H
         clear H
         have H:=H1
         clear H1
         obtain rfl:=Option.some.inj H
         have hcz34_0 : wc.cell? ⟨gb162,0,none⟩ = some (.int .i64 a0_0):=(bC BK162.out 0).trans rfl
         have hcz34_1 : wc.cell? ⟨gb162,1,none⟩ = some (.string a0_1):=(bC BK162.out 1).trans rfl
         have hcz34_2 : wc.cell? ⟨gb162,2,none⟩ = some (.slice A0_2 l0_2.length c0_2):=(bC BK162.out 2).trans rfl
         have hfz34_0:=bF BK162.out 0
         have hfz34_1:=bF BK162.out 1
         have hfz34_2:=bF BK162.out 2
         go_wp2_with (first|((with_reducible refine gate_callee (f:=34) rfl ?_);refine goesL_ (some 33) rfl rfl Try.func34 (by kernel_rfl) rfl #[.int .i64 (a0_1.size : Int),.int .i64 1,.int .i64 24] rfl (by (try simp only [List.map_toArray,List.map_cons,List.map_nil]);first|done|rfl|(simp only [List.length_drop,List.length_take];rfl)) ?_;(with_reducible refine (impl_within.calls (a0_1.size : Int) 1 24 false _ A26.out).mono ?_);rintro e w' ⟨rfl,⟨nd,rfl⟩⟩;refine ⟨_,rfl,?_⟩)|((with_reducible refine gate_callee (f:=34) rfl ?_);refine goesL_ (some 36) rfl rfl Try.func34 (by kernel_rfl) rfl #[.int .i64 a0_0,.int .i64 1,.int .i64 12] rfl (by (try simp only [List.map_toArray,List.map_cons,List.map_nil]);first|done|rfl|(simp only [List.length_drop,List.length_take];rfl)) ?_;(with_reducible refine (impl_within.calls a0_0 1 12 true _ A27.out).mono ?_);rintro e w' ⟨rfl,⟨nd,rfl⟩⟩;refine ⟨_,rfl,?_⟩))
         go_ret
         exact ⟨by first|rfl|(simp [errW_none,errW_some] <;> rfl)|(simp [*,errW_none,errW_some] <;> rfl),by repeat (first|(with_reducible first|exact HB.out|apply lA|apply lN|apply lD|refine lS ?_ GE162.out)|exact HB.out)⟩
       ·replace c28:=Bool.eq_false_iff.mpr c28
        subst c28
        have H1 : (some false) = some r:=by rw [if_neg (show ¬ (false = true) by decide)] at H;exact H
        clear H
        have H:=H1
        clear H1
        obtain rfl:=Option.some.inj H
        have hcz35_0 : wc.cell? ⟨gb162,0,none⟩ = some (.int .i64 a0_0):=(bC BK162.out 0).trans rfl
        have hcz35_1 : wc.cell? ⟨gb162,1,none⟩ = some (.string a0_1):=(bC BK162.out 1).trans rfl
        have hcz35_2 : wc.cell? ⟨gb162,2,none⟩ = some (.slice A0_2 l0_2.length c0_2):=(bC BK162.out 2).trans rfl
        have hfz35_0:=bF BK162.out 0
        have hfz35_1:=bF BK162.out 1
        have hfz35_2:=bF BK162.out 2
        go_wp2_with (first|((with_reducible refine gate_callee (f:=34) rfl ?_);refine goesL_ (some 33) rfl rfl Try.func34 (by kernel_rfl) rfl #[.int .i64 (a0_1.size : Int),.int .i64 1,.int .i64 24] rfl (by (try simp only [List.map_toArray,List.map_cons,List.map_nil]);first|done|rfl|(simp only [List.length_drop,List.length_take];rfl)) ?_;(with_reducible refine (impl_within.calls (a0_1.size : Int) 1 24 t165 _ A26.out).mono ?_);rintro e w' ⟨rfl,⟨nd,rfl⟩⟩;refine ⟨_,rfl,?_⟩)|((with_reducible refine gate_callee (f:=34) rfl ?_);refine goesL_ (some 36) rfl rfl Try.func34 (by kernel_rfl) rfl #[.int .i64 a0_0,.int .i64 1,.int .i64 12] rfl (by (try simp only [List.map_toArray,List.map_cons,List.map_nil]);first|done|rfl|(simp only [List.length_drop,List.length_take];rfl)) ?_;(with_reducible refine (impl_within.calls a0_0 1 12 false _ A27.out).mono ?_);rintro e w' ⟨rfl,⟨nd,rfl⟩⟩;refine ⟨_,rfl,?_⟩))
        go_ret
        exact ⟨by first|rfl|(simp [errW_none,errW_some] <;> rfl)|(simp [*,errW_none,errW_some] <;> rfl),by repeat (first|(with_reducible first|exact HB.out|apply lA|apply lN|apply lD|refine lS ?_ GE162.out)|exact HB.out)⟩
      ·replace c25:=Bool.eq_false_iff.mpr c25
       subst c25
       have H1 : ((impl_within.f a0_0 1 12).bind fun t168 => (if t168 = true then (if (a0_1.toList == ([] : List UInt8)) = true then (if (l0_2.length : Int) = x5_2 then ((impl_kidsAhead.f kj21 l0_2 a1).bind fun t169 => (some t169)) else (some false)) else (some false)) else (some false))) = some r:=by rw [if_neg (show ¬ (false = true) by decide)] at H;exact H
       clear H
       have H:=H1
       clear H1
       replace H:=Option.bind_eq_some_iff.mp H
       obtain ⟨t168,A360,H⟩:=H
       replace H : (if t168 = true then (if (a0_1.toList == ([] : List UInt8)) = true then (if (l0_2.length : Int) = x5_2 then ((impl_kidsAhead.f kj21 l0_2 a1).bind fun t169 => (some t169)) else (some false)) else (some false)) else (some false)) = some r:=H
       have A36:=aM A360
       clear A360
       by_cases c37 : t168 = true
       ·subst c37
        have H1 : (if (a0_1.toList == ([] : List UInt8)) = true then (if (l0_2.length : Int) = x5_2 then ((impl_kidsAhead.f kj21 l0_2 a1).bind fun t169 => (some t169)) else (some false)) else (some false)) = some r:=by rw [if_pos rfl] at H;exact H
        clear H
        have H:=H1
        clear H1
        by_cases c38 : (a0_1.toList == ([] : List UInt8)) = true
        ·rw [if_pos c38] at H
         have c38b0 : (a0_1.toList == ([] : List UInt8)) = true:=c38
         have c38b8 : a0_1.toList.isEmpty = true:=by simpa using c38b0
         (try (have c38b1 : decide (a0_1.toList = ([] : List UInt8)) = true:=by simpa using c38))
         (try (have c38b2 : (a0_1.toList == ([] : List UInt8)) = true:=by simpa using c38))
         clear c38
         by_cases c39 : (l0_2.length : Int) = x5_2
         ·rw [if_pos c39] at H
          have c39b0 : ((l0_2.length : Int) == x5_2) = true:=beq_iff_eq.mpr c39
          have c39b1 : ((l0_2.length : Int) != x5_2) = false:=bne_eq_false_iff_eq.mpr c39
          clear c39
          replace H:=Option.bind_eq_some_iff.mp H
          obtain ⟨t169,A400,H⟩:=H
          replace H : (some t169) = some r:=H
          have A40:=aM A400
          clear A400
          obtain rfl:=Option.some.inj H
          have hcz41_0 : wc.cell? ⟨gb162,0,none⟩ = some (.int .i64 a0_0):=(bC BK162.out 0).trans rfl
          have hcz41_1 : wc.cell? ⟨gb162,1,none⟩ = some (.string a0_1):=(bC BK162.out 1).trans rfl
          have hcz41_2 : wc.cell? ⟨gb162,2,none⟩ = some (.slice A0_2 l0_2.length c0_2):=(bC BK162.out 2).trans rfl
          have hfz41_0:=bF BK162.out 0
          have hfz41_1:=bF BK162.out 1
          have hfz41_2:=bF BK162.out 2
          go_wp2_with (first|((with_reducible refine gate_callee (f:=34) rfl ?_);refine goesL_ (some 36) rfl rfl Try.func34 (by kernel_rfl) rfl #[.int .i64 a0_0,.int .i64 1,.int .i64 12] rfl (by (try simp only [List.map_toArray,List.map_cons,List.map_nil]);first|done|rfl|(simp only [List.length_drop,List.length_take];rfl)) ?_;(with_reducible refine (impl_within.calls a0_0 1 12 true _ A36.out).mono ?_);rintro e w' ⟨rfl,⟨nd,rfl⟩⟩;refine ⟨_,rfl,?_⟩)|(go_at_call 69;(with_reducible refine (impl_kidsAhead.calls kj21 _ _ l0_2 a1 t169 _ ?side1 ?side2 A40.out).mono ?_);(case side1 => repeat (first|exact (cB HR0_2.out (by repeat (first|(with_reducible first|exact HB.out|apply lA|apply lN|apply lD|refine lS ?_ GE162.out)|exact HB.out)))|(with_reducible first|refine cA ?_ _|refine cN ?_ _|refine cD ?_)));(case side2 => exact HC0_2.out);rintro e w' ⟨rfl,⟨nd,rfl⟩⟩))
          go_ret
          exact ⟨by first|rfl|(simp [errW_none,errW_some] <;> rfl)|(simp [*,errW_none,errW_some] <;> rfl),by repeat (first|(with_reducible first|exact HB.out|apply lA|apply lN|apply lD|refine lS ?_ GE162.out)|exact HB.out)⟩
         ·rw [if_neg c39] at H
          have c39b0 : ((l0_2.length : Int) == x5_2) = false:=beq_eq_false_iff_ne.mpr c39
          have c39b1 : ((l0_2.length : Int) != x5_2) = true:=bne_iff_ne.mpr c39
          obtain rfl:=Option.some.inj H
          have hcz42_0 : wc.cell? ⟨gb162,0,none⟩ = some (.int .i64 a0_0):=(bC BK162.out 0).trans rfl
          have hcz42_1 : wc.cell? ⟨gb162,1,none⟩ = some (.string a0_1):=(bC BK162.out 1).trans rfl
          have hcz42_2 : wc.cell? ⟨gb162,2,none⟩ = some (.slice A0_2 l0_2.length c0_2):=(bC BK162.out 2).trans rfl
          have hfz42_0:=bF BK162.out 0
          have hfz42_1:=bF BK162.out 1
          have hfz42_2:=bF BK162.out 2
          go_wp2_with (first|((with_reducible refine gate_callee (f:=34) rfl ?_);refine goesL_ (some 36) rfl rfl Try.func34 (by kernel_rfl) rfl #[.int .i64 a0_0,.int .i64 1,.int .i64 12] rfl (by (try simp only [List.map_toArray,List.map_cons,List.map_nil]);first|done|rfl|(simp only [List.length_drop,List.length_take];rfl)) ?_;(with_reducible refine (impl_within.calls a0_0 1 12 true _ A36.out).mono ?_);rintro e w' ⟨rfl,⟨nd,rfl⟩⟩;refine ⟨_,rfl,?_⟩))
          go_ret
          exact ⟨by first|rfl|(simp [errW_none,errW_some] <;> rfl)|(simp [*,errW_none,errW_some] <;> rfl),by repeat (first|(with_reducible first|exact HB.out|apply lA|apply lN|apply lD|refine lS ?_ GE162.out)|exact HB.out)⟩
        ·rw [if_neg c38] at H
         have c38b0 : (a0_1.toList == ([] : List UInt8)) = false:=by simpa using c38
         have c38b8 : a0_1.toList.isEmpty = false:=by simpa using c38b0
         (try (have c38b1 : decide (a0_1.toList = ([] : List UInt8)) = false:=by simpa using c38))
         (try (have c38b2 : (a0_1.toList == ([] : List UInt8)) = false:=by simpa using c38))
         (try (have c38b3 : ¬ (a0_1.toList = ([] : List UInt8)):=by simpa using c38))
         clear c38
         obtain rfl:=Option.some.inj H
         have hcz43_0 : wc.cell? ⟨gb162,0,none⟩ = some (.int .i64 a0_0):=(bC BK162.out 0).trans rfl
         have hcz43_1 : wc.cell? ⟨gb162,1,none⟩ = some (.string a0_1):=(bC BK162.out 1).trans rfl
         have hcz43_2 : wc.cell? ⟨gb162,2,none⟩ = some (.slice A0_2 l0_2.length c0_2):=(bC BK162.out 2).trans rfl
         have hfz43_0:=bF BK162.out 0
         have hfz43_1:=bF BK162.out 1
         have hfz43_2:=bF BK162.out 2
         go_wp2_with (first|((with_reducible refine gate_callee (f:=34) rfl ?_);refine goesL_ (some 36) rfl rfl Try.func34 (by kernel_rfl) rfl #[.int .i64 a0_0,.int .i64 1,.int .i64 12] rfl (by (try simp only [List.map_toArray,List.map_cons,List.map_nil]);first|done|rfl|(simp only [List.length_drop,List.length_take];rfl)) ?_;(with_reducible refine (impl_within.calls a0_0 1 12 true _ A36.out).mono ?_);rintro e w' ⟨rfl,⟨nd,rfl⟩⟩;refine ⟨_,rfl,?_⟩))
         go_ret
         exact ⟨by first|rfl|(simp [errW_none,errW_some] <;> rfl)|(simp [*,errW_none,errW_some] <;> rfl),by repeat (first|(with_reducible first|exact HB.out|apply lA|apply lN|apply lD|refine lS ?_ GE162.out)|exact HB.out)⟩
       ·replace c37:=Bool.eq_false_iff.mpr c37
        subst c37
        have H1 : (some false) = some r:=by rw [if_neg (show ¬ (false = true) by decide)] at H;exact H
        clear H
        have H:=H1
        clear H1
        obtain rfl:=Option.some.inj H
        have hcz44_0 : wc.cell? ⟨gb162,0,none⟩ = some (.int .i64 a0_0):=(bC BK162.out 0).trans rfl
        have hcz44_1 : wc.cell? ⟨gb162,1,none⟩ = some (.string a0_1):=(bC BK162.out 1).trans rfl
        have hcz44_2 : wc.cell? ⟨gb162,2,none⟩ = some (.slice A0_2 l0_2.length c0_2):=(bC BK162.out 2).trans rfl
        have hfz44_0:=bF BK162.out 0
        have hfz44_1:=bF BK162.out 1
        have hfz44_2:=bF BK162.out 2
        go_wp2_with (first|((with_reducible refine gate_callee (f:=34) rfl ?_);refine goesL_ (some 36) rfl rfl Try.func34 (by kernel_rfl) rfl #[.int .i64 a0_0,.int .i64 1,.int .i64 12] rfl (by (try simp only [List.map_toArray,List.map_cons,List.map_nil]);first|done|rfl|(simp only [List.length_drop,List.length_take];rfl)) ?_;(with_reducible refine (impl_within.calls a0_0 1 12 false _ A36.out).mono ?_);rintro e w' ⟨rfl,⟨nd,rfl⟩⟩;refine ⟨_,rfl,?_⟩))
        go_ret
        exact ⟨by first|rfl|(simp [errW_none,errW_some] <;> rfl)|(simp [*,errW_none,errW_some] <;> rfl),by repeat (first|(with_reducible first|exact HB.out|apply lA|apply lN|apply lD|refine lS ?_ GE162.out)|exact HB.out)⟩

/-! ### impl_PatternOk: function 30 -/
def impl_PatternOk.l0 : Nat → List (S85) → Int → Int → List (S85) → Option (Bool)
 |0,_,_,_,_ => none
 |k + 1,x6,x7,x8,x171000 => if x8 < x7 then (if 0 ≤ x8 then (if x8 < (x6.length : Int) then ((impl_pieceOk.f k ((rd_T85 x6 x8).f0) ((rd_T85 x6 x8).f1) ((rd_T85 x6 x8).f2) x8).bind fun t173 => (if t173 = true then (impl_PatternOk.l0 k x6 x7 (wrap64 (x8 + 1)) x171000) else (some false))) else (none)) else (none)) else ((impl_within.f (x171000.length : Int) 1 60).bind fun t174 => (some t174))
def impl_PatternOk.f (k : Nat) (l0_0 : List (S85)) : Option (Bool):=impl_PatternOk.l0 k l0_0 (l0_0.length : Int) 0 l0_0
theorem impl_PatternOk.mono_l : ∀ k,(∀ y0 y1 y2 y3,LeO (impl_PatternOk.l0 k y0 y1 y2 y3) (impl_PatternOk.l0 (k + 1) y0 y1 y2 y3))
 |0 => fun _ _ _ _ r h => by simp [impl_PatternOk.l0] at h
 |k + 1 => by
  have ih0:=impl_PatternOk.mono_l k
  ·intro y0 y1 y2 y3
   unfold impl_PatternOk.l0
   repeat' first
   |(with_reducible exact ih0 _ _ _ _)
   |(with_reducible exact impl_pieceOk.mono _ _ _ _ _)
   |(with_reducible exact LeO.refl _)
   |(with_reducible exact LeO.none _)
   |(with_reducible refine LeO.ite ?_ ?_)
   |(with_reducible refine LeO.bind ?_ (fun _ => ?_))
   |exact ih0 _ _ _ _
   |exact impl_pieceOk.mono _ _ _ _ _
   |exact LeO.none _
   |refine LeO.ite ?_ ?_
   |refine LeO.bind ?_ (fun _ => ?_)
theorem impl_PatternOk.mono : ∀ a0 k,LeO (impl_PatternOk.f k a0) (impl_PatternOk.f (k + 1) a0):=by
 intro a0 k
 have ih0:=impl_PatternOk.mono_l k
 unfold impl_PatternOk.f
 repeat' first
   |(with_reducible exact ih0 _ _ _ _)
   |(with_reducible exact impl_pieceOk.mono _ _ _ _ _)
   |(with_reducible exact LeO.refl _)
   |(with_reducible exact LeO.none _)
   |(with_reducible refine LeO.ite ?_ ?_)
   |(with_reducible refine LeO.bind ?_ (fun _ => ?_))
   |exact ih0 _ _ _ _
   |exact impl_pieceOk.mono _ _ _ _ _
   |exact LeO.none _
   |refine LeO.ite ?_ ?_
   |refine LeO.bind ?_ (fun _ => ?_)
set_option maxHeartbeats 8000000 in
set_option maxRecDepth 100000 in
theorem impl_PatternOk.calls (k : Nat) (A0_0 : Option Addr) (c0_0 : Nat) (l0_0 : List (S85)) (r : Bool) (w : World) (hr0_0 : Kd.C k85 w A0_0 l0_0.length l0_0) (hc0_0 : l0_0.length ≤ c0_0) (h : impl_PatternOk.f k l0_0 = some r) :
  Calls Try.prog 30 #[.agg #[.slice A0_0 l0_0.length c0_0]] w fun e w' => e = .returned (.bool r) ∧ Below w.heap.size w w':=by
 have hu30:=Try.underlying30
 have hu85:=Try.underlying85
 have HR0_0:=aM hr0_0
 have HC0_0:=aM hc0_0
 clear hr0_0 hc0_0
 have HB:=aM (Below.refl w.heap.size w)
 have H : (impl_PatternOk.l0 k l0_0 (l0_0.length : Int) 0 l0_0) = some r:=h
 clear h
 have H':=aM H
 clear H
 go_enter Try.func30,Try.ntmps30
 go_wp2_with (first|((with_reducible refine gate_dst (N:=1) rfl ?_);refine box_event ?hg (N:=1) ?hd (cs:=#[.slice A0_0 l0_0.length c0_0]) (t:=30) ?hr ?_;(case hd => rfl);(case hg => rfl);(case hr => first|(go_simp;done)|(go_simp;rfl));intro gb170 hg w2 hbox hb;have n0_:=aM (lP (by repeat (first|(with_reducible first|exact HB.out|apply lA|apply lN|apply lD)|exact HB.out)) hb);have n1_:=aM (hbox);have n2_:=aM ((by rw [hg];exact (lZ (by repeat (first|(with_reducible first|exact HB.out|apply lA|apply lN|apply lD)|exact HB.out))) : w.heap.size ≤ gb170));have n3_:=aM ((by rw [hg];exact (lZ (by repeat (first|(with_reducible first|exact HB.out|apply lA|apply lN|apply lD)|exact HB.out))) : w.heap.size ≤ gb170));clear HB;have HB:=n0_;have BK170:=n1_;have GW170:=n2_;have GE170:=n3_;clear n0_ n1_ n2_ n3_ hb hbox hg;have hcz3_0 : w2.cell? ⟨gb170,0,none⟩ = some (.slice A0_0 l0_0.length c0_0):=(bC BK170.out 0).trans rfl;have hfz3_0:=bF BK170.out 0))
 go_loopg [8] k (fun kq v8 w' => ∃ (x8_1 : Int),v8 = .int .i64 x8_1 ∧ Aside0 (impl_PatternOk.l0 kq l0_0 (l0_0.length : Int) x8_1 l0_0 = some r) ∧ Aside0 (kq ≤ k) ∧ Aside0 (w'.heap[gb170]? = some (.cells #[(.slice A0_0 l0_0.length c0_0)] 30 (0,0))) ∧ Aside0 (Below w.heap.size w w'))
 case atStart => exact ⟨(0),(by first|rfl|(simp;done)|(simp [*];done)),H',⟨Nat.le_refl _⟩,⟨by (with_reducible repeat (first|refine bN ?_ _|refine bD ?_|refine bA ?_ _));exact BK170.out⟩,⟨by repeat (first|(with_reducible first|exact HB.out|apply lA|apply lN|apply lD|refine lS ?_ GE170.out)|exact HB.out)⟩⟩
 case round =>
  clear H'
  try clear p2
  try clear c3
  try clear hcz3_0
  try clear hfz3_0
  obtain ⟨x8_1,rfl,HA,HK1,BK170,HB⟩:=hrel
  cases gk with
  |zero => exact absurd HA.out (by simp [impl_PatternOk.l0])
  |succ k1 =>
   have H:=HA.out
   clear HA
   simp only [impl_PatternOk.l0] at H
   by_cases c4 : x8_1 < (l0_0.length : Int)
   ·rw [if_pos c4] at H
    have c4b0 : decide (x8_1 < (l0_0.length : Int)) = true:=decide_eq_true c4
    clear c4
    by_cases c5 : 0 ≤ x8_1
    ·rw [if_pos c5] at H
     have c5b0 : decide (0 ≤ x8_1) = true:=decide_eq_true c5
     clear c5
     by_cases c6 : x8_1 < (l0_0.length : Int)
     ·rw [if_pos c6] at H
      have c6b0 : decide (x8_1 < (l0_0.length : Int)) = true:=decide_eq_true c6
      clear c6
      replace H:=Option.bind_eq_some_iff.mp H
      obtain ⟨t173,A70,H⟩:=H
      replace H : (if t173 = true then (impl_PatternOk.l0 k1 l0_0 (l0_0.length : Int) (wrap64 (x8_1 + 1)) l0_0) else (some false)) = some r:=H
      have A7:=aM A70
      clear A70
      by_cases c8 : t173 = true
      ·subst c8
       have H1 : (impl_PatternOk.l0 k1 l0_0 (l0_0.length : Int) (wrap64 (x8_1 + 1)) l0_0) = some r:=by rw [if_pos rfl] at H;exact H
       clear H
       have H:=H1
       clear H1
       have H':=aM H
       clear H
       have p171 : 0 ≤ (x8_1 : Int):=of_decide_eq_true (by first|(with_reducible assumption)|assumption)
       have q171 : x8_1 < (l0_0.length : Int):=of_decide_eq_true (by first|(with_reducible assumption)|assumption)
       obtain ⟨ad171,A171_2,c171_2,e171,hx171_0,hx171_1,hx171_2,hl171_2,hi171_2⟩:=at_T85 HR0_0.out x8_1 p171 q171
       cases e171
       replace hx171_0:=(HB.out.cell (World.block_lt_of_cell? w _ hx171_0)).trans hx171_0
       replace hx171_1:=(HB.out.cell (World.block_lt_of_cell? w _ hx171_1)).trans hx171_1
       replace hx171_2:=(HB.out.cell (World.block_lt_of_cell? w _ hx171_2)).trans hx171_2
       have HR171_2:=aM hi171_2
       have HC171_2:=aM hl171_2
       clear hi171_2 hl171_2
       replace p171:=eq_true p171
       replace q171:=eq_true q171
       go_wp2_with (first|((with_reducible refine gate_dst (N:=4) rfl ?_);refine box_event ?hg (N:=4) ?hd (cs:=#[.int .i64 0,.string (⟨#[]⟩ : ByteArray),.slice none 0 0]) (t:=85) ?hr ?_;(case hd => rfl);(case hg => rfl);(case hr => first|(go_simp;done)|(go_simp;rfl));intro gb172 hg w9 hbox hb;have n0_:=aM (bB (g:=gb170) (o:=.cells #[.slice (some ad171) l0_0.length c0_0] 30 (0,0)) (by (with_reducible repeat (first|refine bN ?_ _|refine bD ?_|refine bA ?_ _));exact BK170.out) hb);have n1_:=aM (lP (by repeat (first|(with_reducible first|exact HB.out|apply lA|apply lN|apply lD|refine lS ?_ GE170.out)|exact HB.out)) hb);have n2_:=aM (hbox);have n3_:=aM ((by rw [hg];exact (lZ (by repeat (first|(with_reducible first|exact HB.out|apply lA|apply lN|apply lD|refine lS ?_ GE170.out)|exact HB.out))) : w.heap.size ≤ gb172));have n4_:=aM ((by rw [hg];exact (lZ (by repeat (first|(with_reducible first|exact HB.out|apply lA|apply lN|apply lD|refine lS ?_ GE170.out)|exact HB.out))) : w.heap.size ≤ gb172));have n5_:=aM ((by rw [hg];exact Nat.ne_of_lt (bL (g:=gb170) (o:=.cells #[.slice (some ad171) l0_0.length c0_0] 30 (0,0)) (by (with_reducible repeat (first|refine bN ?_ _|refine bD ?_|refine bA ?_ _));exact BK170.out)) : gb170 ≠ gb172));have n6_:=aM ((by rw [hg];exact Nat.ne_of_gt (bL (g:=gb170) (o:=.cells #[.slice (some ad171) l0_0.length c0_0] 30 (0,0)) (by (with_reducible repeat (first|refine bN ?_ _|refine bD ?_|refine bA ?_ _));exact BK170.out)) : gb172 ≠ gb170));clear BK170 HB;have BK170:=n0_;have HB:=n1_;have BK172:=n2_;have GW172:=n3_;have GE172:=n4_;have NB170_172:=n5_;have NB172_170:=n6_;clear n0_ n1_ n2_ n3_ n4_ n5_ n6_ hb hbox hg;have hnb10:=NB172_170.out;have hnc10:=NB170_172.out;have hcz11_0 : w9.cell? ⟨gb172,0,none⟩ = some (.int .i64 0):=(bC BK172.out 0).trans rfl;have hcz11_1 : w9.cell? ⟨gb172,1,none⟩ = some (.string (⟨#[]⟩ : ByteArray)):=(bC BK172.out 1).trans rfl;have hcz11_2 : w9.cell? ⟨gb172,2,none⟩ = some (.slice none 0 0):=(bC BK172.out 2).trans rfl;have hfz11_0:=bF BK172.out 0;have hfz11_1:=bF BK172.out 1;have hfz11_2:=bF BK172.out 2)|((with_reducible refine gate_callee (f:=49) rfl ?_);refine goesL_ (some 15) rfl rfl Try.func49 (by kernel_rfl) rfl #[.agg #[.int .i64 ((rd_T85 l0_0 x8_1).f0),.string ((rd_T85 l0_0 x8_1).f1),.slice A171_2 ((rd_T85 l0_0 x8_1).f2).length c171_2],.int .i64 x8_1] rfl (by (try simp only [List.map_toArray,List.map_cons,List.map_nil]);first|done|rfl|(simp only [List.length_drop,List.length_take];rfl)) ?_;(with_reducible refine (impl_pieceOk.calls k1 ((rd_T85 l0_0 x8_1).f0) ((rd_T85 l0_0 x8_1).f1) _ _ ((rd_T85 l0_0 x8_1).f2) x8_1 true _ ?side1 ?side2 A7.out).mono ?_);(case side1 => exact cB HR171_2.out (by repeat (first|(with_reducible first|exact HB.out|apply lA|apply lN|apply lD|refine lS ?_ GE170.out|refine lS ?_ GE172.out)|exact HB.out)));(case side2 => exact HC171_2.out);rintro e w12 ⟨rfl,hb⟩;refine ⟨_,rfl,?_⟩;have n0_:=aM (bB (g:=gb170) (o:=.cells #[.slice (some ad171) l0_0.length c0_0] 30 (0,0)) (by (with_reducible repeat (first|refine bN ?_ _|refine bD ?_|refine bA ?_ _));refine blk_far ?_ NB170_172.out _;(with_reducible repeat (first|refine bN ?_ _|refine bD ?_|refine bA ?_ _));refine blk_far ?_ NB170_172.out _;(with_reducible repeat (first|refine bN ?_ _|refine bD ?_|refine bA ?_ _));refine blk_far ?_ NB170_172.out _;(with_reducible repeat (first|refine bN ?_ _|refine bD ?_|refine bA ?_ _));exact BK170.out) hb);have n1_:=aM (bB (g:=gb172) (o:=.cells #[.int .i64 ((rd_T85 l0_0 x8_1).f0),.string ((rd_T85 l0_0 x8_1).f1),.slice A171_2 ((rd_T85 l0_0 x8_1).f2).length c171_2] 85 (0,0)) (by (with_reducible repeat (first|refine bN ?_ _|refine bD ?_|refine bA ?_ _));refine blk_put (cs:=#[.int .i64 ((rd_T85 l0_0 x8_1).f0),.string ((rd_T85 l0_0 x8_1).f1),.slice none 0 0]) ?_ 2 _ rfl;(with_reducible repeat (first|refine bN ?_ _|refine bD ?_|refine bA ?_ _));refine blk_put (cs:=#[.int .i64 ((rd_T85 l0_0 x8_1).f0),.string (⟨#[]⟩ : ByteArray),.slice none 0 0]) ?_ 1 _ rfl;(with_reducible repeat (first|refine bN ?_ _|refine bD ?_|refine bA ?_ _));refine blk_put (cs:=#[.int .i64 0,.string (⟨#[]⟩ : ByteArray),.slice none 0 0]) ?_ 0 _ rfl;(with_reducible repeat (first|refine bN ?_ _|refine bD ?_|refine bA ?_ _));exact BK172.out) hb);have n2_:=aM (lP (by repeat (first|(with_reducible first|exact HB.out|apply lA|apply lN|apply lD|refine lS ?_ GE170.out|refine lS ?_ GE172.out)|exact HB.out)) hb);clear BK170 BK172 HB;have BK170:=n0_;have BK172:=n1_;have HB:=n2_;clear n0_ n1_ n2_;(try clear hb);(try clear hb2);(try clear hk);(try clear hi)))
       go_roundg k1
       case measure => have:=HK1.out;omega
       case rel => exact ⟨(wrap64 (x8_1 + 1)),(by first|rfl|(simp;done)|(simp [*];done)),H',⟨by have:=HK1.out;omega⟩,⟨by (with_reducible repeat (first|refine bN ?_ _|refine bD ?_|refine bA ?_ _));exact BK170.out⟩,⟨by repeat (first|(with_reducible first|exact HB.out|apply lA|apply lN|apply lD|refine lS ?_ GE170.out|refine lS ?_ GE172.out)|exact HB.out)⟩⟩
      ·replace c8:=Bool.eq_false_iff.mpr c8
       subst c8
       have H1 : (some false) = some r:=by rw [if_neg (show ¬ (false = true) by decide)] at H;exact H
       clear H
       have H:=H1
       clear H1
       obtain rfl:=Option.some.inj H
       have p171 : 0 ≤ (x8_1 : Int):=of_decide_eq_true (by first|(with_reducible assumption)|assumption)
       have q171 : x8_1 < (l0_0.length : Int):=of_decide_eq_true (by first|(with_reducible assumption)|assumption)
       obtain ⟨ad171,A171_2,c171_2,e171,hx171_0,hx171_1,hx171_2,hl171_2,hi171_2⟩:=at_T85 HR0_0.out x8_1 p171 q171
       cases e171
       replace hx171_0:=(HB.out.cell (World.block_lt_of_cell? w _ hx171_0)).trans hx171_0
       replace hx171_1:=(HB.out.cell (World.block_lt_of_cell? w _ hx171_1)).trans hx171_1
       replace hx171_2:=(HB.out.cell (World.block_lt_of_cell? w _ hx171_2)).trans hx171_2
       have HR171_2:=aM hi171_2
       have HC171_2:=aM hl171_2
       clear hi171_2 hl171_2
       replace p171:=eq_true p171
       replace q171:=eq_true q171
       go_wp2_with (first|((with_reducible refine gate_dst (N:=4) rfl ?_);refine box_event ?hg (N:=4) ?hd (cs:=#[.int .i64 0,.string (⟨#[]⟩ : ByteArray),.slice none 0 0]) (t:=85) ?hr ?_;(case hd => rfl);(case hg => rfl);(case hr => first|(go_simp;done)|(go_simp;rfl));intro gb172 hg w13 hbox hb;have n0_:=aM (bB (g:=gb170) (o:=.cells #[.slice (some ad171) l0_0.length c0_0] 30 (0,0)) (by (with_reducible repeat (first|refine bN ?_ _|refine bD ?_|refine bA ?_ _));exact BK170.out) hb);have n1_:=aM (lP (by repeat (first|(with_reducible first|exact HB.out|apply lA|apply lN|apply lD|refine lS ?_ GE170.out)|exact HB.out)) hb);have n2_:=aM (hbox);have n3_:=aM ((by rw [hg];exact (lZ (by repeat (first|(with_reducible first|exact HB.out|apply lA|apply lN|apply lD|refine lS ?_ GE170.out)|exact HB.out))) : w.heap.size ≤ gb172));have n4_:=aM ((by rw [hg];exact (lZ (by repeat (first|(with_reducible first|exact HB.out|apply lA|apply lN|apply lD|refine lS ?_ GE170.out)|exact HB.out))) : w.heap.size ≤ gb172));have n5_:=aM ((by rw [hg];exact Nat.ne_of_lt (bL (g:=gb170) (o:=.cells #[.slice (some ad171) l0_0.length c0_0] 30 (0,0)) (by (with_reducible repeat (first|refine bN ?_ _|refine bD ?_|refine bA ?_ _));exact BK170.out)) : gb170 ≠ gb172));have n6_:=aM ((by rw [hg];exact Nat.ne_of_gt (bL (g:=gb170) (o:=.cells #[.slice (some ad171) l0_0.length c0_0] 30 (0,0)) (by (with_reducible repeat (first|refine bN ?_ _|refine bD ?_|refine bA ?_ _));exact BK170.out)) : gb172 ≠ gb170));clear BK170 HB;have BK170:=n0_;have HB:=n1_;have BK172:=n2_;have GW172:=n3_;have GE172:=n4_;have NB170_172:=n5_;have NB172_170:=n6_;clear n0_ n1_ n2_ n3_ n4_ n5_ n6_ hb hbox hg;have hnb14:=NB172_170.out;have hnc14:=NB170_172.out;have hcz15_0 : w13.cell? ⟨gb172,0,none⟩ = some (.int .i64 0):=(bC BK172.out 0).trans rfl;have hcz15_1 : w13.cell? ⟨gb172,1,none⟩ = some (.string (⟨#[]⟩ : ByteArray)):=(bC BK172.out 1).trans rfl;have hcz15_2 : w13.cell? ⟨gb172,2,none⟩ = some (.slice none 0 0):=(bC BK172.out 2).trans rfl;have hfz15_0:=bF BK172.out 0;have hfz15_1:=bF BK172.out 1;have hfz15_2:=bF BK172.out 2)|((with_reducible refine gate_callee (f:=49) rfl ?_);refine goesL_ (some 15) rfl rfl Try.func49 (by kernel_rfl) rfl #[.agg #[.int .i64 ((rd_T85 l0_0 x8_1).f0),.string ((rd_T85 l0_0 x8_1).f1),.slice A171_2 ((rd_T85 l0_0 x8_1).f2).length c171_2],.int .i64 x8_1] rfl (by (try simp only [List.map_toArray,List.map_cons,List.map_nil]);first|done|rfl|(simp only [List.length_drop,List.length_take];rfl)) ?_;(with_reducible refine (impl_pieceOk.calls k1 ((rd_T85 l0_0 x8_1).f0) ((rd_T85 l0_0 x8_1).f1) _ _ ((rd_T85 l0_0 x8_1).f2) x8_1 false _ ?side1 ?side2 A7.out).mono ?_);(case side1 => exact cB HR171_2.out (by repeat (first|(with_reducible first|exact HB.out|apply lA|apply lN|apply lD|refine lS ?_ GE170.out|refine lS ?_ GE172.out)|exact HB.out)));(case side2 => exact HC171_2.out);rintro e w16 ⟨rfl,hb⟩;refine ⟨_,rfl,?_⟩;have n0_:=aM (bB (g:=gb170) (o:=.cells #[.slice (some ad171) l0_0.length c0_0] 30 (0,0)) (by (with_reducible repeat (first|refine bN ?_ _|refine bD ?_|refine bA ?_ _));refine blk_far ?_ NB170_172.out _;(with_reducible repeat (first|refine bN ?_ _|refine bD ?_|refine bA ?_ _));refine blk_far ?_ NB170_172.out _;(with_reducible repeat (first|refine bN ?_ _|refine bD ?_|refine bA ?_ _));refine blk_far ?_ NB170_172.out _;(with_reducible repeat (first|refine bN ?_ _|refine bD ?_|refine bA ?_ _));exact BK170.out) hb);have n1_:=aM (bB (g:=gb172) (o:=.cells #[.int .i64 ((rd_T85 l0_0 x8_1).f0),.string ((rd_T85 l0_0 x8_1).f1),.slice A171_2 ((rd_T85 l0_0 x8_1).f2).length c171_2] 85 (0,0)) (by (with_reducible repeat (first|refine bN ?_ _|refine bD ?_|refine bA ?_ _));refine blk_put (cs:=#[.int .i64 ((rd_T85 l0_0 x8_1).f0),.string ((rd_T85 l0_0 x8_1).f1),.slice none 0 0]) ?_ 2 _ rfl;(with_reducible repeat (first|refine bN ?_ _|refine bD ?_|refine bA ?_ _));refine blk_put (cs:=#[.int .i64 ((rd_T85 l0_0 x8_1).f0),.string (⟨#[]⟩ : ByteArray),.slice none 0 0]) ?_ 1 _ rfl;(with_reducible repeat (first|refine bN ?_ _|refine bD ?_|refine bA ?_ _));refine blk_put (cs:=#[.int .i64 0,.string (⟨#[]⟩ : ByteArray),.slice none 0 0]) ?_ 0 _ rfl;(with_reducible repeat (first|refine bN ?_ _|refine bD ?_|refine bA ?_ _));exact BK172.out) hb);have n2_:=aM (lP (by repeat (first|(with_reducible first|exact HB.out|apply lA|apply lN|apply lD|refine lS ?_ GE170.out|refine lS ?_ GE172.out)|exact HB.out)) hb);clear BK170 BK172 HB;have BK170:=n0_;have BK172:=n1_;have HB:=n2_;clear n0_ n1_ n2_;(try clear hb);(try clear hb2);(try clear hk);(try clear hi)))
       go_ret
       exact ⟨by first|rfl|(simp [errW_none,errW_some] <;> rfl)|(simp [*,errW_none,errW_some] <;> rfl),by repeat (first|(with_reducible first|exact HB.out|apply lA|apply lN|apply lD|refine lS ?_ GE170.out|refine lS ?_ GE172.out)|exact HB.out)⟩
     ·rw [if_neg c6] at H
      exact absurd H (by simp)
    ·rw [if_neg c5] at H
     exact absurd H (by simp)
   ·rw [if_neg c4] at H
    have c4b0 : decide (x8_1 < (l0_0.length : Int)) = false:=decide_eq_false c4
    clear c4
    replace H:=Option.bind_eq_some_iff.mp H
    obtain ⟨t174,A170,H⟩:=H
    replace H : (some t174) = some r:=H
    have A17:=aM A170
    clear A170
    obtain rfl:=Option.some.inj H
    have hcz18_0 : wr.cell? ⟨gb170,0,none⟩ = some (.slice A0_0 l0_0.length c0_0):=(bC BK170.out 0).trans rfl
    have hfz18_0:=bF BK170.out 0
    go_wp2_with (first|((with_reducible refine gate_callee (f:=34) rfl ?_);refine goesL_ (some 21) rfl rfl Try.func34 (by kernel_rfl) rfl #[.int .i64 (l0_0.length : Int),.int .i64 1,.int .i64 60] rfl (by (try simp only [List.map_toArray,List.map_cons,List.map_nil]);first|done|rfl|(simp only [List.length_drop,List.length_take];rfl)) ?_;(with_reducible refine (impl_within.calls (l0_0.length : Int) 1 60 t174 _ A17.out).mono ?_);rintro e w' ⟨rfl,⟨nd,rfl⟩⟩;refine ⟨_,rfl,?_⟩))
    go_ret
    exact ⟨by first|rfl|(simp [errW_none,errW_some] <;> rfl)|(simp [*,errW_none,errW_some] <;> rfl),by repeat (first|(with_reducible first|exact HB.out|apply lA|apply lN|apply lD|refine lS ?_ GE170.out)|exact HB.out)⟩

/-! ### impl_copyInts: function 35 -/
def impl_copyInts.f (l0 : List Int) : Option (List Int):=(some (([] : List Int) : List Int)).bind fun y175 => (if y175.length + l0.length < 17592186044416 then (some (y175 ++ l0)) else (none))
set_option maxHeartbeats 8000000 in
set_option maxRecDepth 100000 in
theorem impl_copyInts.calls (A0 : Option Addr) (c0 : Nat) (l0 : List Int) (r : List Int) (w : World) (hr0 : Kd.C (Kd.int .i64) w A0 l0.length l0) (hc0 : l0.length ≤ c0) (h : impl_copyInts.f l0 = some r) :
  Calls Try.prog 35 #[.slice A0 l0.length c0] w fun e w' => ∃ v0_ : Value,e = .returned (v0_) ∧ Kd.R (Kd.int .i64) 3 w' w.heap.size (fun _ => True) v0_ r ∧ Below w.heap.size w w':=by
 have HR0:=aM hr0
 have HC0:=aM hc0
 clear hr0 hc0
 have HB:=aM (Below.refl w.heap.size w)
 have H : ((some (([] : List Int) : List Int)).bind fun y175 => (if y175.length + l0.length < 17592186044416 then (some (y175 ++ l0)) else (none))) = some r:=h
 clear h
 obtain ⟨y175,hy175⟩ : ∃ y_ : List Int,y_ = (([] : List Int)):=⟨_,rfl⟩
 replace H : (if y175.length + l0.length < 17592186044416 then (some (y175 ++ l0)) else (none)) = some r:=by first|(rw [hy175];with_reducible exact H)|(have H2_:=(Option.bind_some _ _).symm.trans H;rw [hy175];with_reducible exact H2_)|(have H2_:=(Option.bind_some _ _).symm.trans H;with_reducible exact H2_)|with_reducible exact H|(rw [hy175];exact H)|exact H
 have Ny175:=aM hy175
 clear hy175
 by_cases c2 : y175.length + l0.length < 17592186044416
 ·rw [if_pos c2] at H
  have LMc2:=aM c2
  clear c2
  obtain ⟨y178,hy178⟩ : ∃ y_ : List Int,y_ = (y175 ++ l0):=⟨_,rfl⟩
  replace H : (some y178) = some r:=by first|(rw [hy178];with_reducible exact H)|(have H2_:=(Option.bind_some _ _).symm.trans H;rw [hy178];with_reducible exact H2_)|(have H2_:=(Option.bind_some _ _).symm.trans H;with_reducible exact H2_)|with_reducible exact H|(rw [hy178];exact H)|exact H
  have Ny178:=aM hy178
  clear hy178
  obtain rfl:=Option.some.inj H
  go_enter Try.func35,Try.ntmps35
  go_wp2_with (first|((with_reducible refine gate_dst (N:=3) rfl ?_);refine Kd.R_lit (Kd.int .i64) _ 3 ?hg (N:=3) ?hd (xs:=([] : List Int)) (inner:=[]) (ok:=fun _ => True) (okp:=fun _ => True) ?hr ?hp (fun _ hk => hk) trivial (Below.refl _ _) (Nat.le_refl _) (by simp) ?_;(case hd => rfl);(case hg => rfl);(case hr => first|(go_simp;done)|(go_simp;rfl));(case hp => exact (Reps.none _ _));intro v176 w3 ho4 hb hg_ hnew_;clear hg_ hnew_;(first|rw [← Ny175.out] at ho4|(simp only [Int.reduceToNat] at ho4;rw [← Ny175.out] at ho4));have n0_:=aM (rL ho4 (lZ (by repeat (first|(with_reducible first|exact HB.out|apply lA|apply lN|apply lD)|exact HB.out))));have n1_:=aM (lP (by repeat (first|(with_reducible first|exact HB.out|apply lA|apply lN|apply lD)|exact HB.out)) hb);clear HB;have HO177:=n0_;have HB:=n1_;clear n0_ n1_ hb ho4)|((with_reducible refine gate_builtin (b:=.append) (xs:=#[.tmp 3,.tmp 4]) rfl ?_);at_builtin;refine Kd.R_append_rows (Kd.int .i64) (w0:=w) w.heap.size rfl (.tmp 3) (.tmp 4) 34 3 (.int .i64 0) 8 rfl Try.underlying34 info3 rfl (by decide) (by omega) v176 y175 l0 _ _ _ (fun _ => True) (fun _ => False) rfl rfl ?aO ?aR (fun _ _ h => h) (fun _ h => h.elim) ?aF ?aB ?aS ?aL ?_;(case aR => repeat (first|exact (cB HR0.out HB.out)|(with_reducible first|refine cA ?_ _|refine cN ?_ _|refine cD ?_)));(case aB => exact (by repeat (first|(with_reducible first|exact HB.out|apply lA|apply lN|apply lD)|exact HB.out)));(case aF => exact (fun _ _ => trivial));(case aO => exact (by (with_reducible repeat (first|apply rA|apply rN|apply rD));exact HO177.out));(case aS => exact (lZ (by repeat (first|(with_reducible first|exact HB.out|apply lA|apply lN|apply lD)|exact HB.out))));(case aL => have:=LMc2.out;omega);intro v179 w5 ho hb hg hat;rw [← Ny178.out] at ho;have n0_:=aM (hb);have n1_:=aM (ho);clear HB HO177;have HB:=n0_;have HO180:=n1_;clear n0_ n1_ ho hb hg hat))
  go_ret
  exact ⟨_,by first|rfl|(simp [errW_none,errW_some] <;> rfl)|(simp [*,errW_none,errW_some] <;> rfl),by (with_reducible repeat (first|apply rA|apply rN|apply rD));exact HO180.out,by repeat (first|(with_reducible first|exact HB.out|apply lA|apply lN|apply lD)|exact HB.out)⟩
 ·rw [if_neg c2] at H
  exact absurd H (by simp)

end Go.Proofs.Ytnjomkadjcjcnaa.QFnExactEndsAt
