-- A text of this session, made by wip/own_print.py (the kit's print with additions of ours).
import Derived.Test.YtnjomkadjcjcnaaQFnExactEndsAtx0
import Derived.Test.YtnjomkadjcjcnaaQFnExactEndsAtx2
namespace Go.Proofs.Ytnjomkadjcjcnaa.QFnExactEndsAt
open Go.RowKit Go.Proofs.YtnjomkadjcjcnaaW.PrintWords Go.Proofs.YtnjomkadjcjcnaaW.PrintLast Go.Proofs.YtnjomkadjcjcnaaW.PrintMore
attribute [local go_sem] max2_int min2_int max_two min_two max_three min_three max_four min_four   -- for this text's walks alone
set_option linter.unusedVariables false
set_option linter.unusedSimpArgs false
open Bool renaming true → bT, false → bf
open Go.Proofs.YtnjomkadjcjcnaaW.PrintWords.Kd renaming R_alloc → rA, R_drewN → rN, R_drew → rD, C_alloc → cA, C_drewN → cN, C_drew → cD, R_far → rF, R_below → rB, R_lower → rL, R_lt → rT, R_base → rS, C_below → cB, R_types → rY, R_elder' → rE, R_reads' → rR, R_new' → rW
open Go.Proofs.YtnjomkadjcjcnaaW.PrintWords renaming blk_drewN → bN, blk_drew → bD, blk_alloc → bA, below_set → lS, pw_below_drewN → lN, below_drew1 → lD, below_alloc → lA, blk_cell → bC, blk_below → bB, below_size → lZ, below_step → lP, blk_lt → bL, blk_frozen → bF
open Go.Proofs.YtnjomkadjcjcnaaW.PrintWords.Aside0 renaming mk → aM
theorem q_ia3 {α : Type} (l : List α) (i : Nat) (a : α) : l.toArray.setIfInBounds i a = (l.set i a).toArray := List.setIfInBounds_toArray ..
theorem q_cz3 {α : Type} (a b : α) (l : List α) : (a :: l).set 0 b = b :: l := rfl
theorem q_cs3 {α : Type} (a b : α) (l : List α) (n : Nat) : (a :: l).set (n + 1) b = a :: l.set n b := rfl

/-! ### spec_PatternOk: function 25 -/
mutual
def spec_PatternOk.l0 : Nat → Int → List (S85) → Option (Bool)
 | 0, _, _ => none
 | k + 1, x3, x148000 => if x3 < (x148000.length : Int) then (if 0 ≤ x3 then (if ((rd_T85 x148000 x3).f0) = 5 then (spec_PatternOk.j1 k x3 0 0 ((rd_T85 x148000 x3).f0) (((rd_T85 x148000 x3).f0) == 5) x148000 ((rd_T85 x148000 x3).f0) ((rd_T85 x148000 x3).f1) ((rd_T85 x148000 x3).f2)) else (spec_PatternOk.j1 k x3 0 0 ((rd_T85 x148000 x3).f0) (((rd_T85 x148000 x3).f0) == 6) x148000 ((rd_T85 x148000 x3).f0) ((rd_T85 x148000 x3).f1) ((rd_T85 x148000 x3).f2))) else (none)) else ((spec_l01In.f (x148000.length : Int) 1 60).bind fun t148 => (some t148))
def spec_PatternOk.j4 : Nat → Int → Int → Int → List (S85) → Int → ByteArray → List Int → Option (Bool)
 | 0, _, _, _, _, _, _, _ => none
 | k + 1, x3, x5, x6, x148000, x151000, x151001, x151002 => if (x151002.length : Int) = x5 then (if (x151001.size : Int) > x6 then (spec_PatternOk.j5 k x3 x5 true x148000 x151000 x151001 x151002) else (if x6 > 0 then (spec_PatternOk.j5 k x3 x5 (x151001.toList == ([] : List UInt8)) x148000 x151000 x151001 x151002) else (spec_PatternOk.j5 k x3 x5 false x148000 x151000 x151001 x151002))) else (spec_PatternOk.j5 k x3 x5 true x148000 x151000 x151001 x151002)
def spec_PatternOk.j5 : Nat → Int → Int → Bool → List (S85) → Int → ByteArray → List Int → Option (Bool)
 | 0, _, _, _, _, _, _, _ => none
 | k + 1, x3, x5, x59, x148000, x151000, x151001, x151002 => if x59 = true then (some false) else (spec_PatternOk.l1 k x3 x5 0 x148000 x151000 x151001 x151002)
def spec_PatternOk.l1 : Nat → Int → Int → Int → List (S85) → Int → ByteArray → List Int → Option (Bool)
 | 0, _, _, _, _, _, _, _ => none
 | k + 1, x3, x5, x7, x148000, x151000, x151001, x151002 => if x7 < x5 then (if 0 ≤ x7 then (if x7 < (x151002.length : Int) then ((spec_l01In.f (rd x151002 x7) 0 (wrap64 (x3 - 1))).bind fun t152 => (if t152 = true then (spec_PatternOk.l1 k x3 x5 (wrap64 (x7 + 1)) x148000 x151000 x151001 x151002) else (some false))) else (none)) else (none)) else (spec_PatternOk.l0 k (wrap64 (x3 + 1)) x148000)
def spec_PatternOk.j1 : Nat → Int → Int → Int → Int → Bool → List (S85) → Int → ByteArray → List Int → Option (Bool)
 | 0, _, _, _, _, _, _, _, _, _ => none
 | k + 1, x3, x5, x6, x21, x22, x148000, x151000, x151001, x151002 => if x22 = true then (spec_PatternOk.j4 k x3 2 x6 x148000 x151000 x151001 x151002) else (if x21 = 7 then (spec_PatternOk.j2 k x3 x5 x6 x21 (x21 == 7) x148000 x151000 x151001 x151002) else (if x21 = 8 then (spec_PatternOk.j2 k x3 x5 x6 x21 (x21 == 8) x148000 x151000 x151001 x151002) else (spec_PatternOk.j2 k x3 x5 x6 x21 (x21 == 9) x148000 x151000 x151001 x151002)))
def spec_PatternOk.j2 : Nat → Int → Int → Int → Int → Bool → List (S85) → Int → ByteArray → List Int → Option (Bool)
 | 0, _, _, _, _, _, _, _, _, _ => none
 | k + 1, x3, x5, x6, x21, x25, x148000, x151000, x151001, x151002 => if x25 = true then (spec_PatternOk.j4 k x3 1 x6 x148000 x151000 x151001 x151002) else (if x21 = 1 then (spec_PatternOk.j4 k x3 x5 1 x148000 x151000 x151001 x151002) else (if x21 = 3 then (spec_PatternOk.j3 k x3 x5 x21 (x21 == 3) x148000 x151000 x151001 x151002) else (spec_PatternOk.j3 k x3 x5 x21 (x21 == 4) x148000 x151000 x151001 x151002)))
def spec_PatternOk.j3 : Nat → Int → Int → Int → Bool → List (S85) → Int → ByteArray → List Int → Option (Bool)
 | 0, _, _, _, _, _, _, _, _ => none
 | k + 1, x3, x5, x21, x31, x148000, x151000, x151001, x151002 => if x31 = true then (spec_PatternOk.j4 k x3 x5 24 x148000 x151000 x151001 x151002) else (if x21 = 2 then (spec_PatternOk.j4 k x3 x5 0 x148000 x151000 x151001 x151002) else (if x21 = 10 then (spec_PatternOk.j4 k x3 x5 0 x148000 x151000 x151001 x151002) else (if x21 = 11 then (spec_PatternOk.j4 k x3 x5 0 x148000 x151000 x151001 x151002) else (if x21 = 12 then (spec_PatternOk.j4 k x3 x5 0 x148000 x151000 x151001 x151002) else (some false)))))
end
def spec_PatternOk.f (k : Nat) (l0_0 : List (S85)) : Option (Bool) := spec_PatternOk.l0 k 0 l0_0
theorem spec_PatternOk.mono_l : ∀ k, (∀ y0 y1, LeO (spec_PatternOk.l0 k y0 y1) (spec_PatternOk.l0 (k + 1) y0 y1)) ∧ (∀ y0 y1 y2 y3 y4 y5 y6, LeO (spec_PatternOk.j4 k y0 y1 y2 y3 y4 y5 y6) (spec_PatternOk.j4 (k + 1) y0 y1 y2 y3 y4 y5 y6)) ∧ (∀ y0 y1 y2 y3 y4 y5 y6, LeO (spec_PatternOk.j5 k y0 y1 y2 y3 y4 y5 y6) (spec_PatternOk.j5 (k + 1) y0 y1 y2 y3 y4 y5 y6)) ∧ (∀ y0 y1 y2 y3 y4 y5 y6, LeO (spec_PatternOk.l1 k y0 y1 y2 y3 y4 y5 y6) (spec_PatternOk.l1 (k + 1) y0 y1 y2 y3 y4 y5 y6)) ∧ (∀ y0 y1 y2 y3 y4 y5 y6 y7 y8, LeO (spec_PatternOk.j1 k y0 y1 y2 y3 y4 y5 y6 y7 y8) (spec_PatternOk.j1 (k + 1) y0 y1 y2 y3 y4 y5 y6 y7 y8)) ∧ (∀ y0 y1 y2 y3 y4 y5 y6 y7 y8, LeO (spec_PatternOk.j2 k y0 y1 y2 y3 y4 y5 y6 y7 y8) (spec_PatternOk.j2 (k + 1) y0 y1 y2 y3 y4 y5 y6 y7 y8)) ∧ (∀ y0 y1 y2 y3 y4 y5 y6 y7, LeO (spec_PatternOk.j3 k y0 y1 y2 y3 y4 y5 y6 y7) (spec_PatternOk.j3 (k + 1) y0 y1 y2 y3 y4 y5 y6 y7))
 | 0 => ⟨fun _ _ r h => by simp [spec_PatternOk.l0] at h, fun _ _ _ _ _ _ _ r h => by simp [spec_PatternOk.j4] at h, fun _ _ _ _ _ _ _ r h => by simp [spec_PatternOk.j5] at h, fun _ _ _ _ _ _ _ r h => by simp [spec_PatternOk.l1] at h, fun _ _ _ _ _ _ _ _ _ r h => by simp [spec_PatternOk.j1] at h, fun _ _ _ _ _ _ _ _ _ r h => by simp [spec_PatternOk.j2] at h, fun _ _ _ _ _ _ _ _ r h => by simp [spec_PatternOk.j3] at h⟩
 | k + 1 => by
  obtain ⟨ih0, ih1, ih2, ih3, ih4, ih5, ih6⟩ := spec_PatternOk.mono_l k
  refine ⟨?_, ?_, ?_, ?_, ?_, ?_, ?_⟩
  ·intro y0 y1
   unfold spec_PatternOk.l0
   repeat' first
   | (with_reducible exact ih0 _ _)
   | (with_reducible exact ih1 _ _ _ _ _ _ _)
   | (with_reducible exact ih2 _ _ _ _ _ _ _)
   | (with_reducible exact ih3 _ _ _ _ _ _ _)
   | (with_reducible exact ih4 _ _ _ _ _ _ _ _ _)
   | (with_reducible exact ih5 _ _ _ _ _ _ _ _ _)
   | (with_reducible exact ih6 _ _ _ _ _ _ _ _)
   | (with_reducible exact LeO.refl _)
   | (with_reducible exact LeO.none _)
   | (with_reducible refine LeO.ite ?_ ?_)
   | (with_reducible refine LeO.bind ?_ (fun _ => ?_))
   | exact ih0 _ _
   | exact ih1 _ _ _ _ _ _ _
   | exact ih2 _ _ _ _ _ _ _
   | exact ih3 _ _ _ _ _ _ _
   | exact ih4 _ _ _ _ _ _ _ _ _
   | exact ih5 _ _ _ _ _ _ _ _ _
   | exact ih6 _ _ _ _ _ _ _ _
   | exact LeO.none _
   | refine LeO.ite ?_ ?_
   | refine LeO.bind ?_ (fun _ => ?_)
  ·intro y0 y1 y2 y3 y4 y5 y6
   unfold spec_PatternOk.j4
   repeat' first
   | (with_reducible exact ih0 _ _)
   | (with_reducible exact ih1 _ _ _ _ _ _ _)
   | (with_reducible exact ih2 _ _ _ _ _ _ _)
   | (with_reducible exact ih3 _ _ _ _ _ _ _)
   | (with_reducible exact ih4 _ _ _ _ _ _ _ _ _)
   | (with_reducible exact ih5 _ _ _ _ _ _ _ _ _)
   | (with_reducible exact ih6 _ _ _ _ _ _ _ _)
   | (with_reducible exact LeO.refl _)
   | (with_reducible exact LeO.none _)
   | (with_reducible refine LeO.ite ?_ ?_)
   | (with_reducible refine LeO.bind ?_ (fun _ => ?_))
   | exact ih0 _ _
   | exact ih1 _ _ _ _ _ _ _
   | exact ih2 _ _ _ _ _ _ _
   | exact ih3 _ _ _ _ _ _ _
   | exact ih4 _ _ _ _ _ _ _ _ _
   | exact ih5 _ _ _ _ _ _ _ _ _
   | exact ih6 _ _ _ _ _ _ _ _
   | exact LeO.none _
   | refine LeO.ite ?_ ?_
   | refine LeO.bind ?_ (fun _ => ?_)
  ·intro y0 y1 y2 y3 y4 y5 y6
   unfold spec_PatternOk.j5
   repeat' first
   | (with_reducible exact ih0 _ _)
   | (with_reducible exact ih1 _ _ _ _ _ _ _)
   | (with_reducible exact ih2 _ _ _ _ _ _ _)
   | (with_reducible exact ih3 _ _ _ _ _ _ _)
   | (with_reducible exact ih4 _ _ _ _ _ _ _ _ _)
   | (with_reducible exact ih5 _ _ _ _ _ _ _ _ _)
   | (with_reducible exact ih6 _ _ _ _ _ _ _ _)
   | (with_reducible exact LeO.refl _)
   | (with_reducible exact LeO.none _)
   | (with_reducible refine LeO.ite ?_ ?_)
   | (with_reducible refine LeO.bind ?_ (fun _ => ?_))
   | exact ih0 _ _
   | exact ih1 _ _ _ _ _ _ _
   | exact ih2 _ _ _ _ _ _ _
   | exact ih3 _ _ _ _ _ _ _
   | exact ih4 _ _ _ _ _ _ _ _ _
   | exact ih5 _ _ _ _ _ _ _ _ _
   | exact ih6 _ _ _ _ _ _ _ _
   | exact LeO.none _
   | refine LeO.ite ?_ ?_
   | refine LeO.bind ?_ (fun _ => ?_)
  ·intro y0 y1 y2 y3 y4 y5 y6
   unfold spec_PatternOk.l1
   repeat' first
   | (with_reducible exact ih0 _ _)
   | (with_reducible exact ih1 _ _ _ _ _ _ _)
   | (with_reducible exact ih2 _ _ _ _ _ _ _)
   | (with_reducible exact ih3 _ _ _ _ _ _ _)
   | (with_reducible exact ih4 _ _ _ _ _ _ _ _ _)
   | (with_reducible exact ih5 _ _ _ _ _ _ _ _ _)
   | (with_reducible exact ih6 _ _ _ _ _ _ _ _)
   | (with_reducible exact LeO.refl _)
   | (with_reducible exact LeO.none _)
   | (with_reducible refine LeO.ite ?_ ?_)
   | (with_reducible refine LeO.bind ?_ (fun _ => ?_))
   | exact ih0 _ _
   | exact ih1 _ _ _ _ _ _ _
   | exact ih2 _ _ _ _ _ _ _
   | exact ih3 _ _ _ _ _ _ _
   | exact ih4 _ _ _ _ _ _ _ _ _
   | exact ih5 _ _ _ _ _ _ _ _ _
   | exact ih6 _ _ _ _ _ _ _ _
   | exact LeO.none _
   | refine LeO.ite ?_ ?_
   | refine LeO.bind ?_ (fun _ => ?_)
  ·intro y0 y1 y2 y3 y4 y5 y6 y7 y8
   unfold spec_PatternOk.j1
   repeat' first
   | (with_reducible exact ih0 _ _)
   | (with_reducible exact ih1 _ _ _ _ _ _ _)
   | (with_reducible exact ih2 _ _ _ _ _ _ _)
   | (with_reducible exact ih3 _ _ _ _ _ _ _)
   | (with_reducible exact ih4 _ _ _ _ _ _ _ _ _)
   | (with_reducible exact ih5 _ _ _ _ _ _ _ _ _)
   | (with_reducible exact ih6 _ _ _ _ _ _ _ _)
   | (with_reducible exact LeO.refl _)
   | (with_reducible exact LeO.none _)
   | (with_reducible refine LeO.ite ?_ ?_)
   | (with_reducible refine LeO.bind ?_ (fun _ => ?_))
   | exact ih0 _ _
   | exact ih1 _ _ _ _ _ _ _
   | exact ih2 _ _ _ _ _ _ _
   | exact ih3 _ _ _ _ _ _ _
   | exact ih4 _ _ _ _ _ _ _ _ _
   | exact ih5 _ _ _ _ _ _ _ _ _
   | exact ih6 _ _ _ _ _ _ _ _
   | exact LeO.none _
   | refine LeO.ite ?_ ?_
   | refine LeO.bind ?_ (fun _ => ?_)
  ·intro y0 y1 y2 y3 y4 y5 y6 y7 y8
   unfold spec_PatternOk.j2
   repeat' first
   | (with_reducible exact ih0 _ _)
   | (with_reducible exact ih1 _ _ _ _ _ _ _)
   | (with_reducible exact ih2 _ _ _ _ _ _ _)
   | (with_reducible exact ih3 _ _ _ _ _ _ _)
   | (with_reducible exact ih4 _ _ _ _ _ _ _ _ _)
   | (with_reducible exact ih5 _ _ _ _ _ _ _ _ _)
   | (with_reducible exact ih6 _ _ _ _ _ _ _ _)
   | (with_reducible exact LeO.refl _)
   | (with_reducible exact LeO.none _)
   | (with_reducible refine LeO.ite ?_ ?_)
   | (with_reducible refine LeO.bind ?_ (fun _ => ?_))
   | exact ih0 _ _
   | exact ih1 _ _ _ _ _ _ _
   | exact ih2 _ _ _ _ _ _ _
   | exact ih3 _ _ _ _ _ _ _
   | exact ih4 _ _ _ _ _ _ _ _ _
   | exact ih5 _ _ _ _ _ _ _ _ _
   | exact ih6 _ _ _ _ _ _ _ _
   | exact LeO.none _
   | refine LeO.ite ?_ ?_
   | refine LeO.bind ?_ (fun _ => ?_)
  ·intro y0 y1 y2 y3 y4 y5 y6 y7
   unfold spec_PatternOk.j3
   repeat' first
   | (with_reducible exact ih0 _ _)
   | (with_reducible exact ih1 _ _ _ _ _ _ _)
   | (with_reducible exact ih2 _ _ _ _ _ _ _)
   | (with_reducible exact ih3 _ _ _ _ _ _ _)
   | (with_reducible exact ih4 _ _ _ _ _ _ _ _ _)
   | (with_reducible exact ih5 _ _ _ _ _ _ _ _ _)
   | (with_reducible exact ih6 _ _ _ _ _ _ _ _)
   | (with_reducible exact LeO.refl _)
   | (with_reducible exact LeO.none _)
   | (with_reducible refine LeO.ite ?_ ?_)
   | (with_reducible refine LeO.bind ?_ (fun _ => ?_))
   | exact ih0 _ _
   | exact ih1 _ _ _ _ _ _ _
   | exact ih2 _ _ _ _ _ _ _
   | exact ih3 _ _ _ _ _ _ _
   | exact ih4 _ _ _ _ _ _ _ _ _
   | exact ih5 _ _ _ _ _ _ _ _ _
   | exact ih6 _ _ _ _ _ _ _ _
   | exact LeO.none _
   | refine LeO.ite ?_ ?_
   | refine LeO.bind ?_ (fun _ => ?_)
theorem spec_PatternOk.mono : ∀ a0 k, LeO (spec_PatternOk.f k a0) (spec_PatternOk.f (k + 1) a0) := by
 intro a0 k
 obtain ⟨ih0, ih1, ih2, ih3, ih4, ih5, ih6⟩ := spec_PatternOk.mono_l k
 unfold spec_PatternOk.f
 repeat' first
   | (with_reducible exact ih0 _ _)
   | (with_reducible exact ih1 _ _ _ _ _ _ _)
   | (with_reducible exact ih2 _ _ _ _ _ _ _)
   | (with_reducible exact ih3 _ _ _ _ _ _ _)
   | (with_reducible exact ih4 _ _ _ _ _ _ _ _ _)
   | (with_reducible exact ih5 _ _ _ _ _ _ _ _ _)
   | (with_reducible exact ih6 _ _ _ _ _ _ _ _)
   | (with_reducible exact LeO.refl _)
   | (with_reducible exact LeO.none _)
   | (with_reducible refine LeO.ite ?_ ?_)
   | (with_reducible refine LeO.bind ?_ (fun _ => ?_))
   | exact ih0 _ _
   | exact ih1 _ _ _ _ _ _ _
   | exact ih2 _ _ _ _ _ _ _
   | exact ih3 _ _ _ _ _ _ _
   | exact ih4 _ _ _ _ _ _ _ _ _
   | exact ih5 _ _ _ _ _ _ _ _ _
   | exact ih6 _ _ _ _ _ _ _ _
   | exact LeO.none _
   | refine LeO.ite ?_ ?_
   | refine LeO.bind ?_ (fun _ => ?_)
set_option maxHeartbeats 8000000 in
set_option maxRecDepth 100000 in
theorem spec_PatternOk.calls (k : Nat) (A0_0 : Option Addr) (c0_0 : Nat) (l0_0 : List (S85)) (r : Bool) (w : World) (hr0_0 : Kd.C k85 w A0_0 l0_0.length l0_0) (hc0_0 : l0_0.length ≤ c0_0) (h : spec_PatternOk.f k l0_0 = some r) :
  Calls Try.prog 25 #[.agg #[.slice A0_0 l0_0.length c0_0]] w fun e w' => e = .returned (.bool r) ∧ Below w.heap.size w w':=by
 have hu30:=Try.underlying30
 have hu85:=Try.underlying85
 have HR0_0:=aM hr0_0
 have HC0_0:=aM hc0_0
 clear hr0_0 hc0_0
 have HB:=aM (Below.refl w.heap.size w)
 have H : (spec_PatternOk.l0 k 0 l0_0) = some r:=h
 clear h
 have H':=aM H
 clear H
 go_enter Try.func25,Try.ntmps25
 go_wp2_with (first|((with_reducible refine gate_dst (N:=1) rfl ?_);(try (refine gate_guard (by rfl) ?_;dsimp only));refine box_event ?hg (N:=1) ?hd (cs:=#[.slice A0_0 l0_0.length c0_0]) (t:=30) ?hr ?_;(case hd => rfl);(case hg => rfl);(case hr => first|(go_simp;done)|(go_simp;rfl));intro gb147 hg w2 hbox hb;have n0_:=aM (lP (by repeat (first|(with_reducible first|exact HB.out|apply lA|apply lN|apply lD)|exact HB.out)) hb);have n1_:=aM (hbox);have n2_:=aM ((by rw [hg];exact (lZ (by repeat (first|(with_reducible first|exact HB.out|apply lA|apply lN|apply lD)|exact HB.out))) : w.heap.size ≤ gb147));have n3_:=aM ((by rw [hg];exact (lZ (by repeat (first|(with_reducible first|exact HB.out|apply lA|apply lN|apply lD)|exact HB.out))) : w.heap.size ≤ gb147));clear HB;have HB:=n0_;have BK147:=n1_;have GW147:=n2_;have GE147:=n3_;clear n0_ n1_ n2_ n3_ hb hbox hg))
 go_loopg [3] k (fun kq v3 w' => ∃ (x3_1 : Int),v3 = .int .i64 x3_1 ∧ Aside0 (spec_PatternOk.l0 kq x3_1 l0_0 = some r) ∧ Aside0 (kq ≤ k) ∧ Aside0 (w'.heap[gb147]? = some (.cells #[(.slice A0_0 l0_0.length c0_0)] 30 (0,0))) ∧ Aside0 (Below w.heap.size w w'))
 case atStart => exact ⟨(0),(by first|rfl|(simp;done)|(simp [*];done)),H',⟨Nat.le_refl _⟩,⟨by (with_reducible repeat (first|refine bN ?_ _|refine bD ?_|refine bA ?_ _));exact BK147.out⟩,⟨by repeat (first|(with_reducible first|exact HB.out|apply lA|apply lN|apply lD|refine lS ?_ GE147.out)|exact HB.out)⟩⟩
 case round =>
  clear H'
  try clear c2
  try clear p2
  obtain ⟨x3_1,rfl,HA,HK1,BK147,HB⟩:=hrel
  cases gk with
  |zero => exact absurd HA.out (by simp [spec_PatternOk.l0])
  |succ k1 =>
   have H:=HA.out
   clear HA
   simp only [spec_PatternOk.l0] at H
   by_cases c3 : x3_1 < (l0_0.length : Int)
   ·rw [if_pos c3] at H
    have c3b0 : decide (x3_1 < (l0_0.length : Int)) = true:=decide_eq_true c3
    clear c3
    by_cases c4 : 0 ≤ x3_1
    ·rw [if_pos c4] at H
     have c4b0 : decide (0 ≤ x3_1) = true:=decide_eq_true c4
     clear c4
     have HC5:=aM H
     clear H
     have hcz6_0 : wr.cell? ⟨gb147,0,none⟩ = some (.slice A0_0 l0_0.length c0_0):=(bC BK147.out 0).trans rfl
     have hfz6_0:=bF BK147.out 0
     have p149 : 0 ≤ (x3_1 : Int):=of_decide_eq_true (by first|(with_reducible assumption)|assumption)
     have q149 : x3_1 < (l0_0.length : Int):=of_decide_eq_true (by first|(with_reducible assumption)|assumption)
     obtain ⟨ad149,A149_2,c149_2,e149,hx149_0,hx149_1,hx149_2,hl149_2,hi149_2⟩:=at_T85 HR0_0.out x3_1 p149 q149
     cases e149
     replace hx149_0:=(HB.out.cell (World.block_lt_of_cell? w _ hx149_0)).trans hx149_0
     replace hx149_1:=(HB.out.cell (World.block_lt_of_cell? w _ hx149_1)).trans hx149_1
     replace hx149_2:=(HB.out.cell (World.block_lt_of_cell? w _ hx149_2)).trans hx149_2
     have HR149_2:=aM hi149_2
     have HC149_2:=aM hl149_2
     clear hi149_2 hl149_2
     replace p149:=eq_true p149
     replace q149:=eq_true q149
     go_upto_block 2 with (first|((with_reducible refine gate_dst (N:=4) rfl ?_);(try (refine gate_guard (by rfl) ?_;dsimp only));refine box_event ?hg (N:=4) ?hd (cs:=#[.int .i64 0,.string (⟨#[]⟩ : ByteArray),.slice none 0 0]) (t:=85) ?hr ?_;(case hd => rfl);(case hg => rfl);(case hr => first|(go_simp;done)|(go_simp;rfl));intro gb150 hg w7 hbox hb;have n0_:=aM (bB (g:=gb147) (o:=.cells #[.slice (some ad149) l0_0.length c0_0] 30 (0,0)) (by (with_reducible repeat (first|refine bN ?_ _|refine bD ?_|refine bA ?_ _));exact BK147.out) hb);have n1_:=aM (lP (by repeat (first|(with_reducible first|exact HB.out|apply lA|apply lN|apply lD|refine lS ?_ GE147.out)|exact HB.out)) hb);have n2_:=aM (hbox);have n3_:=aM ((by rw [hg];exact (lZ (by repeat (first|(with_reducible first|exact HB.out|apply lA|apply lN|apply lD|refine lS ?_ GE147.out)|exact HB.out))) : w.heap.size ≤ gb150));have n4_:=aM ((by rw [hg];exact (lZ (by repeat (first|(with_reducible first|exact HB.out|apply lA|apply lN|apply lD|refine lS ?_ GE147.out)|exact HB.out))) : w.heap.size ≤ gb150));have n5_:=aM ((by rw [hg];exact Nat.ne_of_lt (bL (g:=gb147) (o:=.cells #[.slice (some ad149) l0_0.length c0_0] 30 (0,0)) (by (with_reducible repeat (first|refine bN ?_ _|refine bD ?_|refine bA ?_ _));exact BK147.out)) : gb147 ≠ gb150));have n6_:=aM ((by rw [hg];exact Nat.ne_of_gt (bL (g:=gb147) (o:=.cells #[.slice (some ad149) l0_0.length c0_0] 30 (0,0)) (by (with_reducible repeat (first|refine bN ?_ _|refine bD ?_|refine bA ?_ _));exact BK147.out)) : gb150 ≠ gb147));clear BK147 HB;have BK147:=n0_;have HB:=n1_;have BK150:=n2_;have GW150:=n3_;have GE150:=n4_;have NB147_150:=n5_;have NB150_147:=n6_;clear n0_ n1_ n2_ n3_ n4_ n5_ n6_ hb hbox hg;have hnb8:=NB150_147.out;have hnc8:=NB147_150.out;have hcz9_0 : w7.cell? ⟨gb150,0,none⟩ = some (.int .i64 0):=(bC BK150.out 0).trans rfl;have hcz9_1 : w7.cell? ⟨gb150,1,none⟩ = some (.string (⟨#[]⟩ : ByteArray)):=(bC BK150.out 1).trans rfl;have hcz9_2 : w7.cell? ⟨gb150,2,none⟩ = some (.slice none 0 0):=(bC BK150.out 2).trans rfl;have hfz9_0:=bF BK150.out 0;have hfz9_1:=bF BK150.out 1;have hfz9_2:=bF BK150.out 2))
     (try simp only [Act.put,q_ia3,q_cz3,q_cs3])
     go_cut [5,6] (fun v5 v6 wc => ∃ (kq : Nat) (x5_4 : Int) (x6_4 : Int),v5 = .int .i64 x5_4 ∧ v6 = .int .i64 x6_4 ∧ Aside0 (spec_PatternOk.j4 kq x3_1 x5_4 x6_4 l0_0 ((rd_T85 l0_0 x3_1).f0) ((rd_T85 l0_0 x3_1).f1) ((rd_T85 l0_0 x3_1).f2) = some r) ∧ Aside0 (kq ≤ k1) ∧ Aside0 (wc.heap[gb147]? = some (.cells #[(.slice (some ad149) l0_0.length c0_0)] 30 (0,0))) ∧ Aside0 (wc.heap[gb150]? = some (.cells #[.int .i64 ((rd_T85 l0_0 x3_1).f0),.string ((rd_T85 l0_0 x3_1).f1),(.slice A149_2 ((rd_T85 l0_0 x3_1).f2).length c149_2)] 85 (0,0))) ∧ Aside0 (Below w.heap.size w wc))
     case first =>
      have H:=HC5.out
      clear HC5
      have HC10:=aM H
      clear H
      go_upto_if 22 with (fail)
      go_cut [22] (fun v22 wc => ∃ (kq : Nat) (x22_9 : Bool),v22 = .bool x22_9 ∧ Aside0 (spec_PatternOk.j1 kq x3_1 0 0 ((rd_T85 l0_0 x3_1).f0) x22_9 l0_0 ((rd_T85 l0_0 x3_1).f0) ((rd_T85 l0_0 x3_1).f1) ((rd_T85 l0_0 x3_1).f2) = some r) ∧ Aside0 (kq ≤ k1) ∧ Aside0 (wc.heap[gb147]? = some (.cells #[(.slice (some ad149) l0_0.length c0_0)] 30 (0,0))) ∧ Aside0 (wc.heap[gb150]? = some (.cells #[.int .i64 ((rd_T85 l0_0 x3_1).f0),.string ((rd_T85 l0_0 x3_1).f1),(.slice A149_2 ((rd_T85 l0_0 x3_1).f2).length c149_2)] 85 (0,0))) ∧ Aside0 (Below w.heap.size w wc))
      case first =>
       have H:=HC10.out
       clear HC10
       by_cases c11 : ((rd_T85 l0_0 x3_1).f0) = 5
       ·rw [if_pos c11] at H
        have c11b0 : (((rd_T85 l0_0 x3_1).f0) == 5) = true:=beq_iff_eq.mpr c11
        have c11b1 : (((rd_T85 l0_0 x3_1).f0) != 5) = false:=bne_eq_false_iff_eq.mpr c11
        clear c11
        (first|rw [c11b0]|(simp only [i64_w,i32_w];rw [c11b0])|skip)
        have H':=aM H
        clear H
        go_wp2
        go_meet
        case rel => exact ⟨_,((((rd_T85 l0_0 x3_1).f0) == 5)),(by first|rfl|(simp;done)|(simp [*];done)),H',⟨by have:=HK1.out;first|omega|exact Nat.le_refl _⟩,⟨by (with_reducible repeat (first|refine bN ?_ _|refine bD ?_|refine bA ?_ _));refine blk_far ?_ NB147_150.out _;(with_reducible repeat (first|refine bN ?_ _|refine bD ?_|refine bA ?_ _));refine blk_far ?_ NB147_150.out _;(with_reducible repeat (first|refine bN ?_ _|refine bD ?_|refine bA ?_ _));refine blk_far ?_ NB147_150.out _;(with_reducible repeat (first|refine bN ?_ _|refine bD ?_|refine bA ?_ _));exact BK147.out⟩,⟨by (with_reducible repeat (first|refine bN ?_ _|refine bD ?_|refine bA ?_ _));refine blk_put (cs:=#[.int .i64 ((rd_T85 l0_0 x3_1).f0),.string ((rd_T85 l0_0 x3_1).f1),.slice none 0 0]) ?_ 2 _ rfl;(with_reducible repeat (first|refine bN ?_ _|refine bD ?_|refine bA ?_ _));refine blk_put (cs:=#[.int .i64 ((rd_T85 l0_0 x3_1).f0),.string (⟨#[]⟩ : ByteArray),.slice none 0 0]) ?_ 1 _ rfl;(with_reducible repeat (first|refine bN ?_ _|refine bD ?_|refine bA ?_ _));refine blk_put (cs:=#[.int .i64 0,.string (⟨#[]⟩ : ByteArray),.slice none 0 0]) ?_ 0 _ rfl;(with_reducible repeat (first|refine bN ?_ _|refine bD ?_|refine bA ?_ _));exact BK150.out⟩,⟨by repeat (first|(with_reducible first|exact HB.out|apply lA|apply lN|apply lD|refine lS ?_ GE147.out|refine lS ?_ GE150.out)|exact HB.out)⟩⟩
       ·rw [if_neg c11] at H
        have c11b0 : (((rd_T85 l0_0 x3_1).f0) == 5) = false:=beq_eq_false_iff_ne.mpr c11
        have c11b1 : (((rd_T85 l0_0 x3_1).f0) != 5) = true:=bne_iff_ne.mpr c11
        (first|rw [c11b0]|(simp only [i64_w,i32_w];rw [c11b0])|skip)
        have H':=aM H
        clear H
        go_wp2
        go_meet
        case rel => exact ⟨_,((((rd_T85 l0_0 x3_1).f0) == 6)),(by first|rfl|(simp;done)|(simp [*];done)),H',⟨by have:=HK1.out;first|omega|exact Nat.le_refl _⟩,⟨by (with_reducible repeat (first|refine bN ?_ _|refine bD ?_|refine bA ?_ _));refine blk_far ?_ NB147_150.out _;(with_reducible repeat (first|refine bN ?_ _|refine bD ?_|refine bA ?_ _));refine blk_far ?_ NB147_150.out _;(with_reducible repeat (first|refine bN ?_ _|refine bD ?_|refine bA ?_ _));refine blk_far ?_ NB147_150.out _;(with_reducible repeat (first|refine bN ?_ _|refine bD ?_|refine bA ?_ _));exact BK147.out⟩,⟨by (with_reducible repeat (first|refine bN ?_ _|refine bD ?_|refine bA ?_ _));refine blk_put (cs:=#[.int .i64 ((rd_T85 l0_0 x3_1).f0),.string ((rd_T85 l0_0 x3_1).f1),.slice none 0 0]) ?_ 2 _ rfl;(with_reducible repeat (first|refine bN ?_ _|refine bD ?_|refine bA ?_ _));refine blk_put (cs:=#[.int .i64 ((rd_T85 l0_0 x3_1).f0),.string (⟨#[]⟩ : ByteArray),.slice none 0 0]) ?_ 1 _ rfl;(with_reducible repeat (first|refine bN ?_ _|refine bD ?_|refine bA ?_ _));refine blk_put (cs:=#[.int .i64 0,.string (⟨#[]⟩ : ByteArray),.slice none 0 0]) ?_ 0 _ rfl;(with_reducible repeat (first|refine bN ?_ _|refine bD ?_|refine bA ?_ _));exact BK150.out⟩,⟨by repeat (first|(with_reducible first|exact HB.out|apply lA|apply lN|apply lD|refine lS ?_ GE147.out|refine lS ?_ GE150.out)|exact HB.out)⟩⟩
      case rest =>
       clear HC10
       try clear c1
       try clear p1
       try clear q1
       try clear hx1
       try clear c2
       try clear p2
       try clear c3
       try clear c3b0
       try clear c4
       try clear c4b0
       try clear c8
       try clear c11
       try clear c11b0
       try clear c11b1
       try clear hcz6_0
       try clear hcz9_0
       try clear hcz9_1
       try clear hcz9_2
       try clear hfz6_0
       try clear hfz9_0
       try clear hfz9_1
       try clear hfz9_2
       try clear hx149_0
       try clear hx149_1
       try clear hx149_2
       try clear p149
       try clear p2
       try clear q149
       obtain ⟨kq,x22_9,rfl,HA,HJ9,BK147,BK150,HB⟩:=hcut
       cases kq with
       |zero => exact absurd HA.out (by simp [spec_PatternOk.j1])
       |succ kj9 =>
        have H:=HA.out
        clear HA
        simp only [spec_PatternOk.j1] at H
        by_cases c12 : x22_9 = true
        ·subst c12
         have H1 : (spec_PatternOk.j4 kj9 x3_1 2 0 l0_0 ((rd_T85 l0_0 x3_1).f0) ((rd_T85 l0_0 x3_1).f1) ((rd_T85 l0_0 x3_1).f2)) = some r:=by rw [if_pos rfl] at H;exact H
         clear H
         have H:=H1
         clear H1
         have H':=aM H
         clear H
         go_wp2
         go_meet
         case rel => exact ⟨_,(2),(0),(by first|rfl|(simp;done)|(simp [*];done)),(by first|rfl|(simp;done)|(simp [*];done)),H',⟨by have:=HK1.out;have:=HJ9.out;first|omega|exact Nat.le_refl _⟩,⟨by (with_reducible repeat (first|refine bN ?_ _|refine bD ?_|refine bA ?_ _));exact BK147.out⟩,⟨by (with_reducible repeat (first|refine bN ?_ _|refine bD ?_|refine bA ?_ _));exact BK150.out⟩,⟨by repeat (first|(with_reducible first|exact HB.out|apply lA|apply lN|apply lD|refine lS ?_ GE147.out|refine lS ?_ GE150.out)|exact HB.out)⟩⟩
        ·replace c12:=Bool.eq_false_iff.mpr c12
         subst c12
         have H1 : (if ((rd_T85 l0_0 x3_1).f0) = 7 then (spec_PatternOk.j2 kj9 x3_1 0 0 ((rd_T85 l0_0 x3_1).f0) (((rd_T85 l0_0 x3_1).f0) == 7) l0_0 ((rd_T85 l0_0 x3_1).f0) ((rd_T85 l0_0 x3_1).f1) ((rd_T85 l0_0 x3_1).f2)) else (if ((rd_T85 l0_0 x3_1).f0) = 8 then (spec_PatternOk.j2 kj9 x3_1 0 0 ((rd_T85 l0_0 x3_1).f0) (((rd_T85 l0_0 x3_1).f0) == 8) l0_0 ((rd_T85 l0_0 x3_1).f0) ((rd_T85 l0_0 x3_1).f1) ((rd_T85 l0_0 x3_1).f2)) else (spec_PatternOk.j2 kj9 x3_1 0 0 ((rd_T85 l0_0 x3_1).f0) (((rd_T85 l0_0 x3_1).f0) == 9) l0_0 ((rd_T85 l0_0 x3_1).f0) ((rd_T85 l0_0 x3_1).f1) ((rd_T85 l0_0 x3_1).f2)))) = some r:=by rw [if_neg (show ¬ (false = true) by decide)] at H;exact H
         clear H
         have H:=H1
         clear H1
         have HC13:=aM H
         clear H
         go_upto_if 25 with (fail)
         go_cut [25] (fun v25 wc => ∃ (kq : Nat) (x25_12 : Bool),v25 = .bool x25_12 ∧ Aside0 (spec_PatternOk.j2 kq x3_1 0 0 ((rd_T85 l0_0 x3_1).f0) x25_12 l0_0 ((rd_T85 l0_0 x3_1).f0) ((rd_T85 l0_0 x3_1).f1) ((rd_T85 l0_0 x3_1).f2) = some r) ∧ Aside0 (kq ≤ kj9) ∧ Aside0 (wc.heap[gb147]? = some (.cells #[(.slice (some ad149) l0_0.length c0_0)] 30 (0,0))) ∧ Aside0 (wc.heap[gb150]? = some (.cells #[.int .i64 ((rd_T85 l0_0 x3_1).f0),.string ((rd_T85 l0_0 x3_1).f1),(.slice A149_2 ((rd_T85 l0_0 x3_1).f2).length c149_2)] 85 (0,0))) ∧ Aside0 (Below w.heap.size w wc))
         case first =>
          have H:=HC13.out
          clear HC13
          by_cases c14 : ((rd_T85 l0_0 x3_1).f0) = 7
          ·rw [if_pos c14] at H
           have c14b0 : (((rd_T85 l0_0 x3_1).f0) == 7) = true:=beq_iff_eq.mpr c14
           have c14b1 : (((rd_T85 l0_0 x3_1).f0) != 7) = false:=bne_eq_false_iff_eq.mpr c14
           clear c14
           (first|rw [c14b0]|(simp only [i64_w,i32_w];rw [c14b0])|skip)
           have H':=aM H
           clear H
           go_wp2
           go_meet
           case rel => exact ⟨_,((((rd_T85 l0_0 x3_1).f0) == 7)),(by first|rfl|(simp;done)|(simp [*];done)),H',⟨by have:=HK1.out;have:=HJ9.out;first|omega|exact Nat.le_refl _⟩,⟨by (with_reducible repeat (first|refine bN ?_ _|refine bD ?_|refine bA ?_ _));exact BK147.out⟩,⟨by (with_reducible repeat (first|refine bN ?_ _|refine bD ?_|refine bA ?_ _));exact BK150.out⟩,⟨by repeat (first|(with_reducible first|exact HB.out|apply lA|apply lN|apply lD|refine lS ?_ GE147.out|refine lS ?_ GE150.out)|exact HB.out)⟩⟩
          ·rw [if_neg c14] at H
           have c14b0 : (((rd_T85 l0_0 x3_1).f0) == 7) = false:=beq_eq_false_iff_ne.mpr c14
           have c14b1 : (((rd_T85 l0_0 x3_1).f0) != 7) = true:=bne_iff_ne.mpr c14
           (first|rw [c14b0]|(simp only [i64_w,i32_w];rw [c14b0])|skip)
           by_cases c15 : ((rd_T85 l0_0 x3_1).f0) = 8
           ·rw [if_pos c15] at H
            have c15b0 : (((rd_T85 l0_0 x3_1).f0) == 8) = true:=beq_iff_eq.mpr c15
            have c15b1 : (((rd_T85 l0_0 x3_1).f0) != 8) = false:=bne_eq_false_iff_eq.mpr c15
            clear c15
            have H':=aM H
            clear H
            go_wp2
            go_meet
            case rel => exact ⟨_,((((rd_T85 l0_0 x3_1).f0) == 8)),(by first|rfl|(simp;done)|(simp [*];done)),H',⟨by have:=HK1.out;have:=HJ9.out;first|omega|exact Nat.le_refl _⟩,⟨by (with_reducible repeat (first|refine bN ?_ _|refine bD ?_|refine bA ?_ _));exact BK147.out⟩,⟨by (with_reducible repeat (first|refine bN ?_ _|refine bD ?_|refine bA ?_ _));exact BK150.out⟩,⟨by repeat (first|(with_reducible first|exact HB.out|apply lA|apply lN|apply lD|refine lS ?_ GE147.out|refine lS ?_ GE150.out)|exact HB.out)⟩⟩
           ·rw [if_neg c15] at H
            have c15b0 : (((rd_T85 l0_0 x3_1).f0) == 8) = false:=beq_eq_false_iff_ne.mpr c15
            have c15b1 : (((rd_T85 l0_0 x3_1).f0) != 8) = true:=bne_iff_ne.mpr c15
            have H':=aM H
            clear H
            go_wp2
            go_meet
            case rel => exact ⟨_,((((rd_T85 l0_0 x3_1).f0) == 9)),(by first|rfl|(simp;done)|(simp [*];done)),H',⟨by have:=HK1.out;have:=HJ9.out;first|omega|exact Nat.le_refl _⟩,⟨by (with_reducible repeat (first|refine bN ?_ _|refine bD ?_|refine bA ?_ _));exact BK147.out⟩,⟨by (with_reducible repeat (first|refine bN ?_ _|refine bD ?_|refine bA ?_ _));exact BK150.out⟩,⟨by repeat (first|(with_reducible first|exact HB.out|apply lA|apply lN|apply lD|refine lS ?_ GE147.out|refine lS ?_ GE150.out)|exact HB.out)⟩⟩
         case rest =>
          clear HC13
          try clear c1
          try clear p1
          try clear q1
          try clear hx1
          try clear c2
          try clear p2
          try clear c3
          try clear c3b0
          try clear c4
          try clear c4b0
          try clear c8
          try clear c11
          try clear c11b0
          try clear c11b1
          try clear c12
          try clear c14
          try clear c14b0
          try clear c14b1
          try clear p14
          try clear q14
          try clear hx14
          try clear c15
          try clear c15b0
          try clear c15b1
          try clear hcz6_0
          try clear hcz9_0
          try clear hcz9_1
          try clear hcz9_2
          try clear hfz6_0
          try clear hfz9_0
          try clear hfz9_1
          try clear hfz9_2
          try clear hx149_0
          try clear hx149_1
          try clear hx149_2
          try clear p1
          try clear p149
          try clear p2
          try clear q1
          try clear q149
          obtain ⟨kq,x25_12,rfl,HA,HJ12,BK147,BK150,HB⟩:=hcut
          cases kq with
          |zero => exact absurd HA.out (by simp [spec_PatternOk.j2])
          |succ kj12 =>
           have H:=HA.out
           clear HA
           simp only [spec_PatternOk.j2] at H
           by_cases c16 : x25_12 = true
           ·subst c16
            have H1 : (spec_PatternOk.j4 kj12 x3_1 1 0 l0_0 ((rd_T85 l0_0 x3_1).f0) ((rd_T85 l0_0 x3_1).f1) ((rd_T85 l0_0 x3_1).f2)) = some r:=by rw [if_pos rfl] at H;exact H
            clear H
            have H:=H1
            clear H1
            have H':=aM H
            clear H
            go_wp2
            go_meet
            case rel => exact ⟨_,(1),(0),(by first|rfl|(simp;done)|(simp [*];done)),(by first|rfl|(simp;done)|(simp [*];done)),H',⟨by have:=HK1.out;have:=HJ9.out;have:=HJ12.out;first|omega|exact Nat.le_refl _⟩,⟨by (with_reducible repeat (first|refine bN ?_ _|refine bD ?_|refine bA ?_ _));exact BK147.out⟩,⟨by (with_reducible repeat (first|refine bN ?_ _|refine bD ?_|refine bA ?_ _));exact BK150.out⟩,⟨by repeat (first|(with_reducible first|exact HB.out|apply lA|apply lN|apply lD|refine lS ?_ GE147.out|refine lS ?_ GE150.out)|exact HB.out)⟩⟩
           ·replace c16:=Bool.eq_false_iff.mpr c16
            subst c16
            have H1 : (if ((rd_T85 l0_0 x3_1).f0) = 1 then (spec_PatternOk.j4 kj12 x3_1 0 1 l0_0 ((rd_T85 l0_0 x3_1).f0) ((rd_T85 l0_0 x3_1).f1) ((rd_T85 l0_0 x3_1).f2)) else (if ((rd_T85 l0_0 x3_1).f0) = 3 then (spec_PatternOk.j3 kj12 x3_1 0 ((rd_T85 l0_0 x3_1).f0) (((rd_T85 l0_0 x3_1).f0) == 3) l0_0 ((rd_T85 l0_0 x3_1).f0) ((rd_T85 l0_0 x3_1).f1) ((rd_T85 l0_0 x3_1).f2)) else (spec_PatternOk.j3 kj12 x3_1 0 ((rd_T85 l0_0 x3_1).f0) (((rd_T85 l0_0 x3_1).f0) == 4) l0_0 ((rd_T85 l0_0 x3_1).f0) ((rd_T85 l0_0 x3_1).f1) ((rd_T85 l0_0 x3_1).f2)))) = some r:=by rw [if_neg (show ¬ (false = true) by decide)] at H;exact H
            clear H
            have H:=H1
            clear H1
            by_cases c17 : ((rd_T85 l0_0 x3_1).f0) = 1
            ·rw [if_pos c17] at H
             have c17b0 : (((rd_T85 l0_0 x3_1).f0) == 1) = true:=beq_iff_eq.mpr c17
             have c17b1 : (((rd_T85 l0_0 x3_1).f0) != 1) = false:=bne_eq_false_iff_eq.mpr c17
             clear c17
             have H':=aM H
             clear H
             go_wp2
             go_meet
             case rel => exact ⟨_,(0),(1),(by first|rfl|(simp;done)|(simp [*];done)),(by first|rfl|(simp;done)|(simp [*];done)),H',⟨by have:=HK1.out;have:=HJ9.out;have:=HJ12.out;first|omega|exact Nat.le_refl _⟩,⟨by (with_reducible repeat (first|refine bN ?_ _|refine bD ?_|refine bA ?_ _));exact BK147.out⟩,⟨by (with_reducible repeat (first|refine bN ?_ _|refine bD ?_|refine bA ?_ _));exact BK150.out⟩,⟨by repeat (first|(with_reducible first|exact HB.out|apply lA|apply lN|apply lD|refine lS ?_ GE147.out|refine lS ?_ GE150.out)|exact HB.out)⟩⟩
            ·rw [if_neg c17] at H
             have c17b0 : (((rd_T85 l0_0 x3_1).f0) == 1) = false:=beq_eq_false_iff_ne.mpr c17
             have c17b1 : (((rd_T85 l0_0 x3_1).f0) != 1) = true:=bne_iff_ne.mpr c17
             have HC18:=aM H
             clear H
             go_upto_if 31 with (fail)
             go_cut [31] (fun v31 wc => ∃ (kq : Nat) (x31_17 : Bool),v31 = .bool x31_17 ∧ Aside0 (spec_PatternOk.j3 kq x3_1 0 ((rd_T85 l0_0 x3_1).f0) x31_17 l0_0 ((rd_T85 l0_0 x3_1).f0) ((rd_T85 l0_0 x3_1).f1) ((rd_T85 l0_0 x3_1).f2) = some r) ∧ Aside0 (kq ≤ kj12) ∧ Aside0 (wc.heap[gb147]? = some (.cells #[(.slice (some ad149) l0_0.length c0_0)] 30 (0,0))) ∧ Aside0 (wc.heap[gb150]? = some (.cells #[.int .i64 ((rd_T85 l0_0 x3_1).f0),.string ((rd_T85 l0_0 x3_1).f1),(.slice A149_2 ((rd_T85 l0_0 x3_1).f2).length c149_2)] 85 (0,0))) ∧ Aside0 (Below w.heap.size w wc))
             case first =>
              have H:=HC18.out
              clear HC18
              by_cases c19 : ((rd_T85 l0_0 x3_1).f0) = 3
              ·rw [if_pos c19] at H
               have c19b0 : (((rd_T85 l0_0 x3_1).f0) == 3) = true:=beq_iff_eq.mpr c19
               have c19b1 : (((rd_T85 l0_0 x3_1).f0) != 3) = false:=bne_eq_false_iff_eq.mpr c19
               clear c19
               (first|rw [c19b0]|(simp only [i64_w,i32_w];rw [c19b0])|skip)
               have H':=aM H
               clear H
               go_wp2
               go_meet
               case rel => exact ⟨_,((((rd_T85 l0_0 x3_1).f0) == 3)),(by first|rfl|(simp;done)|(simp [*];done)),H',⟨by have:=HK1.out;have:=HJ9.out;have:=HJ12.out;first|omega|exact Nat.le_refl _⟩,⟨by (with_reducible repeat (first|refine bN ?_ _|refine bD ?_|refine bA ?_ _));exact BK147.out⟩,⟨by (with_reducible repeat (first|refine bN ?_ _|refine bD ?_|refine bA ?_ _));exact BK150.out⟩,⟨by repeat (first|(with_reducible first|exact HB.out|apply lA|apply lN|apply lD|refine lS ?_ GE147.out|refine lS ?_ GE150.out)|exact HB.out)⟩⟩
              ·rw [if_neg c19] at H
               have c19b0 : (((rd_T85 l0_0 x3_1).f0) == 3) = false:=beq_eq_false_iff_ne.mpr c19
               have c19b1 : (((rd_T85 l0_0 x3_1).f0) != 3) = true:=bne_iff_ne.mpr c19
               (first|rw [c19b0]|(simp only [i64_w,i32_w];rw [c19b0])|skip)
               have H':=aM H
               clear H
               go_wp2
               go_meet
               case rel => exact ⟨_,((((rd_T85 l0_0 x3_1).f0) == 4)),(by first|rfl|(simp;done)|(simp [*];done)),H',⟨by have:=HK1.out;have:=HJ9.out;have:=HJ12.out;first|omega|exact Nat.le_refl _⟩,⟨by (with_reducible repeat (first|refine bN ?_ _|refine bD ?_|refine bA ?_ _));exact BK147.out⟩,⟨by (with_reducible repeat (first|refine bN ?_ _|refine bD ?_|refine bA ?_ _));exact BK150.out⟩,⟨by repeat (first|(with_reducible first|exact HB.out|apply lA|apply lN|apply lD|refine lS ?_ GE147.out|refine lS ?_ GE150.out)|exact HB.out)⟩⟩
             case rest =>
              clear HC18
              try clear c1
              try clear p1
              try clear q1
              try clear hx1
              try clear c2
              try clear p2
              try clear c3
              try clear c3b0
              try clear c4
              try clear c4b0
              try clear c8
              try clear c11
              try clear c11b0
              try clear c11b1
              try clear c12
              try clear c14
              try clear c14b0
              try clear c14b1
              try clear p14
              try clear q14
              try clear hx14
              try clear c15
              try clear c15b0
              try clear c15b1
              try clear c16
              try clear c17
              try clear c17b0
              try clear c17b1
              try clear c19
              try clear c19b0
              try clear c19b1
              try clear hcz6_0
              try clear hcz9_0
              try clear hcz9_1
              try clear hcz9_2
              try clear hfz6_0
              try clear hfz9_0
              try clear hfz9_1
              try clear hfz9_2
              try clear hx149_0
              try clear hx149_1
              try clear hx149_2
              try clear p1
              try clear p14
              try clear p149
              try clear p2
              try clear q1
              try clear q14
              try clear q149
              obtain ⟨kq,x31_17,rfl,HA,HJ17,BK147,BK150,HB⟩:=hcut
              cases kq with
              |zero => exact absurd HA.out (by simp [spec_PatternOk.j3])
              |succ kj17 =>
               have H:=HA.out
               clear HA
               simp only [spec_PatternOk.j3] at H
               by_cases c20 : x31_17 = true
               ·subst c20
                have H1 : (spec_PatternOk.j4 kj17 x3_1 0 24 l0_0 ((rd_T85 l0_0 x3_1).f0) ((rd_T85 l0_0 x3_1).f1) ((rd_T85 l0_0 x3_1).f2)) = some r:=by rw [if_pos rfl] at H;exact H
                clear H
                have H:=H1
                clear H1
                have H':=aM H
                clear H
                go_wp2
                go_meet
                case rel => exact ⟨_,(0),(24),(by first|rfl|(simp;done)|(simp [*];done)),(by first|rfl|(simp;done)|(simp [*];done)),H',⟨by have:=HK1.out;have:=HJ9.out;have:=HJ12.out;have:=HJ17.out;first|omega|exact Nat.le_refl _⟩,⟨by (with_reducible repeat (first|refine bN ?_ _|refine bD ?_|refine bA ?_ _));exact BK147.out⟩,⟨by (with_reducible repeat (first|refine bN ?_ _|refine bD ?_|refine bA ?_ _));exact BK150.out⟩,⟨by repeat (first|(with_reducible first|exact HB.out|apply lA|apply lN|apply lD|refine lS ?_ GE147.out|refine lS ?_ GE150.out)|exact HB.out)⟩⟩
               ·replace c20:=Bool.eq_false_iff.mpr c20
                subst c20
                have H1 : (if ((rd_T85 l0_0 x3_1).f0) = 2 then (spec_PatternOk.j4 kj17 x3_1 0 0 l0_0 ((rd_T85 l0_0 x3_1).f0) ((rd_T85 l0_0 x3_1).f1) ((rd_T85 l0_0 x3_1).f2)) else (if ((rd_T85 l0_0 x3_1).f0) = 10 then (spec_PatternOk.j4 kj17 x3_1 0 0 l0_0 ((rd_T85 l0_0 x3_1).f0) ((rd_T85 l0_0 x3_1).f1) ((rd_T85 l0_0 x3_1).f2)) else (if ((rd_T85 l0_0 x3_1).f0) = 11 then (spec_PatternOk.j4 kj17 x3_1 0 0 l0_0 ((rd_T85 l0_0 x3_1).f0) ((rd_T85 l0_0 x3_1).f1) ((rd_T85 l0_0 x3_1).f2)) else (if ((rd_T85 l0_0 x3_1).f0) = 12 then (spec_PatternOk.j4 kj17 x3_1 0 0 l0_0 ((rd_T85 l0_0 x3_1).f0) ((rd_T85 l0_0 x3_1).f1) ((rd_T85 l0_0 x3_1).f2)) else (some false))))) = some r:=by rw [if_neg (show ¬ (false = true) by decide)] at H;exact H
                clear H
                have H:=H1
                clear H1
                by_cases c21 : ((rd_T85 l0_0 x3_1).f0) = 2
                ·rw [if_pos c21] at H
                 have c21b0 : (((rd_T85 l0_0 x3_1).f0) == 2) = true:=beq_iff_eq.mpr c21
                 have c21b1 : (((rd_T85 l0_0 x3_1).f0) != 2) = false:=bne_eq_false_iff_eq.mpr c21
                 clear c21
                 have H':=aM H
                 clear H
                 go_wp2
                 go_meet
                 case rel => exact ⟨_,(0),(0),(by first|rfl|(simp;done)|(simp [*];done)),(by first|rfl|(simp;done)|(simp [*];done)),H',⟨by have:=HK1.out;have:=HJ9.out;have:=HJ12.out;have:=HJ17.out;first|omega|exact Nat.le_refl _⟩,⟨by (with_reducible repeat (first|refine bN ?_ _|refine bD ?_|refine bA ?_ _));exact BK147.out⟩,⟨by (with_reducible repeat (first|refine bN ?_ _|refine bD ?_|refine bA ?_ _));exact BK150.out⟩,⟨by repeat (first|(with_reducible first|exact HB.out|apply lA|apply lN|apply lD|refine lS ?_ GE147.out|refine lS ?_ GE150.out)|exact HB.out)⟩⟩
                ·rw [if_neg c21] at H
                 have c21b0 : (((rd_T85 l0_0 x3_1).f0) == 2) = false:=beq_eq_false_iff_ne.mpr c21
                 have c21b1 : (((rd_T85 l0_0 x3_1).f0) != 2) = true:=bne_iff_ne.mpr c21
                 by_cases c22 : ((rd_T85 l0_0 x3_1).f0) = 10
                 ·rw [if_pos c22] at H
                  have c22b0 : (((rd_T85 l0_0 x3_1).f0) == 10) = true:=beq_iff_eq.mpr c22
                  have c22b1 : (((rd_T85 l0_0 x3_1).f0) != 10) = false:=bne_eq_false_iff_eq.mpr c22
                  clear c22
                  have H':=aM H
                  clear H
                  go_wp2
                  go_meet
                  case rel => exact ⟨_,(0),(0),(by first|rfl|(simp;done)|(simp [*];done)),(by first|rfl|(simp;done)|(simp [*];done)),H',⟨by have:=HK1.out;have:=HJ9.out;have:=HJ12.out;have:=HJ17.out;first|omega|exact Nat.le_refl _⟩,⟨by (with_reducible repeat (first|refine bN ?_ _|refine bD ?_|refine bA ?_ _));exact BK147.out⟩,⟨by (with_reducible repeat (first|refine bN ?_ _|refine bD ?_|refine bA ?_ _));exact BK150.out⟩,⟨by repeat (first|(with_reducible first|exact HB.out|apply lA|apply lN|apply lD|refine lS ?_ GE147.out|refine lS ?_ GE150.out)|exact HB.out)⟩⟩
                 ·rw [if_neg c22] at H
                  have c22b0 : (((rd_T85 l0_0 x3_1).f0) == 10) = false:=beq_eq_false_iff_ne.mpr c22
                  have c22b1 : (((rd_T85 l0_0 x3_1).f0) != 10) = true:=bne_iff_ne.mpr c22
                  by_cases c23 : ((rd_T85 l0_0 x3_1).f0) = 11
                  ·rw [if_pos c23] at H
                   have c23b0 : (((rd_T85 l0_0 x3_1).f0) == 11) = true:=beq_iff_eq.mpr c23
                   have c23b1 : (((rd_T85 l0_0 x3_1).f0) != 11) = false:=bne_eq_false_iff_eq.mpr c23
                   clear c23
                   have H':=aM H
                   clear H
                   go_wp2
                   go_meet
                   case rel => exact ⟨_,(0),(0),(by first|rfl|(simp;done)|(simp [*];done)),(by first|rfl|(simp;done)|(simp [*];done)),H',⟨by have:=HK1.out;have:=HJ9.out;have:=HJ12.out;have:=HJ17.out;first|omega|exact Nat.le_refl _⟩,⟨by (with_reducible repeat (first|refine bN ?_ _|refine bD ?_|refine bA ?_ _));exact BK147.out⟩,⟨by (with_reducible repeat (first|refine bN ?_ _|refine bD ?_|refine bA ?_ _));exact BK150.out⟩,⟨by repeat (first|(with_reducible first|exact HB.out|apply lA|apply lN|apply lD|refine lS ?_ GE147.out|refine lS ?_ GE150.out)|exact HB.out)⟩⟩
                  ·rw [if_neg c23] at H
                   have c23b0 : (((rd_T85 l0_0 x3_1).f0) == 11) = false:=beq_eq_false_iff_ne.mpr c23
                   have c23b1 : (((rd_T85 l0_0 x3_1).f0) != 11) = true:=bne_iff_ne.mpr c23
                   by_cases c24 : ((rd_T85 l0_0 x3_1).f0) = 12
                   ·rw [if_pos c24] at H
                    have c24b0 : (((rd_T85 l0_0 x3_1).f0) == 12) = true:=beq_iff_eq.mpr c24
                    have c24b1 : (((rd_T85 l0_0 x3_1).f0) != 12) = false:=bne_eq_false_iff_eq.mpr c24
                    clear c24
                    have H':=aM H
                    clear H
                    go_wp2
                    go_meet
                    case rel => exact ⟨_,(0),(0),(by first|rfl|(simp;done)|(simp [*];done)),(by first|rfl|(simp;done)|(simp [*];done)),H',⟨by have:=HK1.out;have:=HJ9.out;have:=HJ12.out;have:=HJ17.out;first|omega|exact Nat.le_refl _⟩,⟨by (with_reducible repeat (first|refine bN ?_ _|refine bD ?_|refine bA ?_ _));exact BK147.out⟩,⟨by (with_reducible repeat (first|refine bN ?_ _|refine bD ?_|refine bA ?_ _));exact BK150.out⟩,⟨by repeat (first|(with_reducible first|exact HB.out|apply lA|apply lN|apply lD|refine lS ?_ GE147.out|refine lS ?_ GE150.out)|exact HB.out)⟩⟩
                   ·rw [if_neg c24] at H
                    have c24b0 : (((rd_T85 l0_0 x3_1).f0) == 12) = false:=beq_eq_false_iff_ne.mpr c24
                    have c24b1 : (((rd_T85 l0_0 x3_1).f0) != 12) = true:=bne_iff_ne.mpr c24
                    obtain rfl:=Option.some.inj H
                    go_wp2
                    go_ret
                    exact ⟨by first|rfl|(simp [errW_none,errW_some] <;> rfl)|(simp [*,errW_none,errW_some] <;> rfl),by repeat (first|(with_reducible first|exact HB.out|apply lA|apply lN|apply lD|refine lS ?_ GE147.out|refine lS ?_ GE150.out)|exact HB.out)⟩
     case rest =>
      clear HC5
      try clear c1
      try clear p1
      try clear q1
      try clear hx1
      try clear c2
      try clear p2
      try clear c3
      try clear c3b0
      try clear c4
      try clear c4b0
      try clear c8
      try clear c11
      try clear c11b0
      try clear c11b1
      try clear c12
      try clear c14
      try clear c14b0
      try clear c14b1
      try clear p14
      try clear q14
      try clear hx14
      try clear c15
      try clear c15b0
      try clear c15b1
      try clear c16
      try clear c17
      try clear c17b0
      try clear c17b1
      try clear c19
      try clear c19b0
      try clear c19b1
      try clear c20
      try clear c21
      try clear c21b0
      try clear c21b1
      try clear c22
      try clear c22b0
      try clear c22b1
      try clear c23
      try clear c23b0
      try clear c23b1
      try clear c24
      try clear c24b0
      try clear c24b1
      try clear hcz6_0
      try clear hcz9_0
      try clear hcz9_1
      try clear hcz9_2
      try clear hfz6_0
      try clear hfz9_0
      try clear hfz9_1
      try clear hfz9_2
      try clear hx149_0
      try clear hx149_1
      try clear hx149_2
      try clear p1
      try clear p14
      try clear p149
      try clear p2
      try clear q1
      try clear q14
      try clear q149
      obtain ⟨kq,x5_4,x6_4,rfl,rfl,HA,HJ4,BK147,BK150,HB⟩:=hcut
      cases kq with
      |zero => exact absurd HA.out (by simp [spec_PatternOk.j4])
      |succ kj4 =>
       have H:=HA.out
       clear HA
       simp only [spec_PatternOk.j4] at H
       have HC25:=aM H
       clear H
       go_upto_region 26 with (fail)
       go_cut [59] (fun v59 wc => ∃ (kq : Nat) (x59_24 : Bool),v59 = .bool x59_24 ∧ Aside0 (spec_PatternOk.j5 kq x3_1 x5_4 x59_24 l0_0 ((rd_T85 l0_0 x3_1).f0) ((rd_T85 l0_0 x3_1).f1) ((rd_T85 l0_0 x3_1).f2) = some r) ∧ Aside0 (kq ≤ kj4) ∧ Aside0 (wc.heap[gb147]? = some (.cells #[(.slice (some ad149) l0_0.length c0_0)] 30 (0,0))) ∧ Aside0 (wc.heap[gb150]? = some (.cells #[.int .i64 ((rd_T85 l0_0 x3_1).f0),.string ((rd_T85 l0_0 x3_1).f1),(.slice A149_2 ((rd_T85 l0_0 x3_1).f2).length c149_2)] 85 (0,0))) ∧ Aside0 (Below w.heap.size w wc))
       case first =>
        have H:=HC25.out
        clear HC25
        by_cases c26 : (((rd_T85 l0_0 x3_1).f2).length : Int) = x5_4
        ·rw [if_pos c26] at H
         have c26b0 : ((((rd_T85 l0_0 x3_1).f2).length : Int) == x5_4) = true:=beq_iff_eq.mpr c26
         have c26b1 : ((((rd_T85 l0_0 x3_1).f2).length : Int) != x5_4) = false:=bne_eq_false_iff_eq.mpr c26
         clear c26
         (first|rw [c26b0]|(simp only [i64_w,i32_w];rw [c26b0])|skip)
         by_cases c27 : (((rd_T85 l0_0 x3_1).f1).size : Int) > x6_4
         ·rw [if_pos c27] at H
          have c27b0 : decide (x6_4 < (((rd_T85 l0_0 x3_1).f1).size : Int)) = true:=decide_eq_true c27
          clear c27
          have H':=aM H
          clear H
          have hnb28:=NB150_147.out
          have hnc28:=NB147_150.out
          have hcz29_0 : wc.cell? ⟨gb150,0,none⟩ = some (.int .i64 ((rd_T85 l0_0 x3_1).f0)):=(bC BK150.out 0).trans rfl
          have hcz29_1 : wc.cell? ⟨gb150,1,none⟩ = some (.string ((rd_T85 l0_0 x3_1).f1)):=(bC BK150.out 1).trans rfl
          have hcz29_2 : wc.cell? ⟨gb150,2,none⟩ = some (.slice A149_2 ((rd_T85 l0_0 x3_1).f2).length c149_2):=(bC BK150.out 2).trans rfl
          have hfz29_0:=bF BK150.out 0
          have hfz29_1:=bF BK150.out 1
          have hfz29_2:=bF BK150.out 2
          go_wp2
          go_meet
          case rel => exact ⟨_,(true),(by first|rfl|(simp;done)|(simp [*];done)),H',⟨by have:=HK1.out;have:=HJ4.out;first|omega|exact Nat.le_refl _⟩,⟨by (with_reducible repeat (first|refine bN ?_ _|refine bD ?_|refine bA ?_ _));exact BK147.out⟩,⟨by (with_reducible repeat (first|refine bN ?_ _|refine bD ?_|refine bA ?_ _));exact BK150.out⟩,⟨by repeat (first|(with_reducible first|exact HB.out|apply lA|apply lN|apply lD|refine lS ?_ GE147.out|refine lS ?_ GE150.out)|exact HB.out)⟩⟩
         ·rw [if_neg c27] at H
          have c27b0 : decide (x6_4 < (((rd_T85 l0_0 x3_1).f1).size : Int)) = false:=decide_eq_false c27
          clear c27
          by_cases c30 : x6_4 > 0
          ·rw [if_pos c30] at H
           have c30b0 : decide (0 < x6_4) = true:=decide_eq_true c30
           clear c30
           have H':=aM H
           clear H
           have hnb31:=NB150_147.out
           have hnc31:=NB147_150.out
           have hcz32_0 : wc.cell? ⟨gb150,0,none⟩ = some (.int .i64 ((rd_T85 l0_0 x3_1).f0)):=(bC BK150.out 0).trans rfl
           have hcz32_1 : wc.cell? ⟨gb150,1,none⟩ = some (.string ((rd_T85 l0_0 x3_1).f1)):=(bC BK150.out 1).trans rfl
           have hcz32_2 : wc.cell? ⟨gb150,2,none⟩ = some (.slice A149_2 ((rd_T85 l0_0 x3_1).f2).length c149_2):=(bC BK150.out 2).trans rfl
           have hfz32_0:=bF BK150.out 0
           have hfz32_1:=bF BK150.out 1
           have hfz32_2:=bF BK150.out 2
           go_wp2
           go_meet
           case rel => exact ⟨_,((((rd_T85 l0_0 x3_1).f1).toList == ([] : List UInt8))),(by first|rfl|(simp;done)|(simp [*];done)),H',⟨by have:=HK1.out;have:=HJ4.out;first|omega|exact Nat.le_refl _⟩,⟨by (with_reducible repeat (first|refine bN ?_ _|refine bD ?_|refine bA ?_ _));exact BK147.out⟩,⟨by (with_reducible repeat (first|refine bN ?_ _|refine bD ?_|refine bA ?_ _));exact BK150.out⟩,⟨by repeat (first|(with_reducible first|exact HB.out|apply lA|apply lN|apply lD|refine lS ?_ GE147.out|refine lS ?_ GE150.out)|exact HB.out)⟩⟩
          ·rw [if_neg c30] at H
           have c30b0 : decide (0 < x6_4) = false:=decide_eq_false c30
           clear c30
           have H':=aM H
           clear H
           have hnb33:=NB150_147.out
           have hnc33:=NB147_150.out
           have hcz34_0 : wc.cell? ⟨gb150,0,none⟩ = some (.int .i64 ((rd_T85 l0_0 x3_1).f0)):=(bC BK150.out 0).trans rfl
           have hcz34_1 : wc.cell? ⟨gb150,1,none⟩ = some (.string ((rd_T85 l0_0 x3_1).f1)):=(bC BK150.out 1).trans rfl
           have hcz34_2 : wc.cell? ⟨gb150,2,none⟩ = some (.slice A149_2 ((rd_T85 l0_0 x3_1).f2).length c149_2):=(bC BK150.out 2).trans rfl
           have hfz34_0:=bF BK150.out 0
           have hfz34_1:=bF BK150.out 1
           have hfz34_2:=bF BK150.out 2
           go_wp2
           go_meet
           case rel => exact ⟨_,(false),(by first|rfl|(simp;done)|(simp [*];done)),H',⟨by have:=HK1.out;have:=HJ4.out;first|omega|exact Nat.le_refl _⟩,⟨by (with_reducible repeat (first|refine bN ?_ _|refine bD ?_|refine bA ?_ _));exact BK147.out⟩,⟨by (with_reducible repeat (first|refine bN ?_ _|refine bD ?_|refine bA ?_ _));exact BK150.out⟩,⟨by repeat (first|(with_reducible first|exact HB.out|apply lA|apply lN|apply lD|refine lS ?_ GE147.out|refine lS ?_ GE150.out)|exact HB.out)⟩⟩
        ·rw [if_neg c26] at H
         have c26b0 : ((((rd_T85 l0_0 x3_1).f2).length : Int) == x5_4) = false:=beq_eq_false_iff_ne.mpr c26
         have c26b1 : ((((rd_T85 l0_0 x3_1).f2).length : Int) != x5_4) = true:=bne_iff_ne.mpr c26
         (first|rw [c26b0]|(simp only [i64_w,i32_w];rw [c26b0])|skip)
         have H':=aM H
         clear H
         have hnb35:=NB150_147.out
         have hnc35:=NB147_150.out
         have hcz36_0 : wc.cell? ⟨gb150,0,none⟩ = some (.int .i64 ((rd_T85 l0_0 x3_1).f0)):=(bC BK150.out 0).trans rfl
         have hcz36_1 : wc.cell? ⟨gb150,1,none⟩ = some (.string ((rd_T85 l0_0 x3_1).f1)):=(bC BK150.out 1).trans rfl
         have hcz36_2 : wc.cell? ⟨gb150,2,none⟩ = some (.slice A149_2 ((rd_T85 l0_0 x3_1).f2).length c149_2):=(bC BK150.out 2).trans rfl
         have hfz36_0:=bF BK150.out 0
         have hfz36_1:=bF BK150.out 1
         have hfz36_2:=bF BK150.out 2
         go_wp2
         go_meet
         case rel => exact ⟨_,(true),(by first|rfl|(simp;done)|(simp [*];done)),H',⟨by have:=HK1.out;have:=HJ4.out;first|omega|exact Nat.le_refl _⟩,⟨by (with_reducible repeat (first|refine bN ?_ _|refine bD ?_|refine bA ?_ _));exact BK147.out⟩,⟨by (with_reducible repeat (first|refine bN ?_ _|refine bD ?_|refine bA ?_ _));exact BK150.out⟩,⟨by repeat (first|(with_reducible first|exact HB.out|apply lA|apply lN|apply lD|refine lS ?_ GE147.out|refine lS ?_ GE150.out)|exact HB.out)⟩⟩
       case rest =>
        clear HC25
        try clear c1
        try clear p1
        try clear q1
        try clear hx1
        try clear c2
        try clear p2
        try clear c3
        try clear c3b0
        try clear c4
        try clear c4b0
        try clear c8
        try clear c11
        try clear c11b0
        try clear c11b1
        try clear c12
        try clear c14
        try clear c14b0
        try clear c14b1
        try clear p14
        try clear q14
        try clear hx14
        try clear c15
        try clear c15b0
        try clear c15b1
        try clear c16
        try clear c17
        try clear c17b0
        try clear c17b1
        try clear c19
        try clear c19b0
        try clear c19b1
        try clear c20
        try clear c21
        try clear c21b0
        try clear c21b1
        try clear c22
        try clear c22b0
        try clear c22b1
        try clear c23
        try clear c23b0
        try clear c23b1
        try clear c24
        try clear c24b0
        try clear c24b1
        try clear c25
        try clear c26
        try clear c26b0
        try clear c26b1
        try clear c27
        try clear c27b0
        try clear c28
        try clear c30
        try clear c30b0
        try clear c31
        try clear c33
        try clear c35
        try clear hcz29_0
        try clear hcz29_1
        try clear hcz29_2
        try clear hcz32_0
        try clear hcz32_1
        try clear hcz32_2
        try clear hcz34_0
        try clear hcz34_1
        try clear hcz34_2
        try clear hcz36_0
        try clear hcz36_1
        try clear hcz36_2
        try clear hcz6_0
        try clear hcz9_0
        try clear hcz9_1
        try clear hcz9_2
        try clear hfz29_0
        try clear hfz29_1
        try clear hfz29_2
        try clear hfz32_0
        try clear hfz32_1
        try clear hfz32_2
        try clear hfz34_0
        try clear hfz34_1
        try clear hfz34_2
        try clear hfz36_0
        try clear hfz36_1
        try clear hfz36_2
        try clear hfz6_0
        try clear hfz9_0
        try clear hfz9_1
        try clear hfz9_2
        try clear hx149_0
        try clear hx149_1
        try clear hx149_2
        try clear p1
        try clear p14
        try clear p149
        try clear p2
        try clear q1
        try clear q14
        try clear q149
        obtain ⟨kq,x59_24,rfl,HA,HJ24,BK147,BK150,HB⟩:=hcut
        cases kq with
        |zero => exact absurd HA.out (by simp [spec_PatternOk.j5])
        |succ kj24 =>
         have H:=HA.out
         clear HA
         simp only [spec_PatternOk.j5] at H
         by_cases c37 : x59_24 = true
         ·subst c37
          have H1 : (some false) = some r:=by rw [if_pos rfl] at H;exact H
          clear H
          have H:=H1
          clear H1
          obtain rfl:=Option.some.inj H
          go_wp2
          go_ret
          exact ⟨by first|rfl|(simp [errW_none,errW_some] <;> rfl)|(simp [*,errW_none,errW_some] <;> rfl),by repeat (first|(with_reducible first|exact HB.out|apply lA|apply lN|apply lD|refine lS ?_ GE147.out|refine lS ?_ GE150.out)|exact HB.out)⟩
         ·replace c37:=Bool.eq_false_iff.mpr c37
          subst c37
          have H1 : (spec_PatternOk.l1 kj24 x3_1 x5_4 0 l0_0 ((rd_T85 l0_0 x3_1).f0) ((rd_T85 l0_0 x3_1).f1) ((rd_T85 l0_0 x3_1).f2)) = some r:=by rw [if_neg (show ¬ (false = true) by decide)] at H;exact H
          clear H
          have H:=H1
          clear H1
          have H':=aM H
          clear H
          go_wp2
          go_loopg [7] kj24 (fun kq v7 w' => ∃ (x7_4 : Int),v7 = .int .i64 x7_4 ∧ Aside0 (spec_PatternOk.l1 kq x3_1 x5_4 x7_4 l0_0 ((rd_T85 l0_0 x3_1).f0) ((rd_T85 l0_0 x3_1).f1) ((rd_T85 l0_0 x3_1).f2) = some r) ∧ Aside0 (kq ≤ kj24) ∧ Aside0 (w'.heap[gb147]? = some (.cells #[(.slice (some ad149) l0_0.length c0_0)] 30 (0,0))) ∧ Aside0 (w'.heap[gb150]? = some (.cells #[.int .i64 ((rd_T85 l0_0 x3_1).f0),.string ((rd_T85 l0_0 x3_1).f1),(.slice A149_2 ((rd_T85 l0_0 x3_1).f2).length c149_2)] 85 (0,0))) ∧ Aside0 (Below w.heap.size w w'))
          case atStart => exact ⟨(0),(by first|rfl|(simp;done)|(simp [*];done)),H',⟨Nat.le_refl _⟩,⟨by (with_reducible repeat (first|refine bN ?_ _|refine bD ?_|refine bA ?_ _));exact BK147.out⟩,⟨by (with_reducible repeat (first|refine bN ?_ _|refine bD ?_|refine bA ?_ _));exact BK150.out⟩,⟨by repeat (first|(with_reducible first|exact HB.out|apply lA|apply lN|apply lD|refine lS ?_ GE147.out|refine lS ?_ GE150.out)|exact HB.out)⟩⟩
          case round =>
           clear H'
           try clear c1
           try clear p1
           try clear q1
           try clear hx1
           try clear c2
           try clear p2
           try clear c3
           try clear c3b0
           try clear c4
           try clear c4b0
           try clear c8
           try clear c11
           try clear c11b0
           try clear c11b1
           try clear c12
           try clear c14
           try clear c14b0
           try clear c14b1
           try clear p14
           try clear q14
           try clear hx14
           try clear c15
           try clear c15b0
           try clear c15b1
           try clear c16
           try clear c17
           try clear c17b0
           try clear c17b1
           try clear c19
           try clear c19b0
           try clear c19b1
           try clear c20
           try clear c21
           try clear c21b0
           try clear c21b1
           try clear c22
           try clear c22b0
           try clear c22b1
           try clear c23
           try clear c23b0
           try clear c23b1
           try clear c24
           try clear c24b0
           try clear c24b1
           try clear c25
           try clear c26
           try clear c26b0
           try clear c26b1
           try clear c27
           try clear c27b0
           try clear c28
           try clear c30
           try clear c30b0
           try clear c31
           try clear c33
           try clear c35
           try clear c37
           try clear hcz29_0
           try clear hcz29_1
           try clear hcz29_2
           try clear hcz32_0
           try clear hcz32_1
           try clear hcz32_2
           try clear hcz34_0
           try clear hcz34_1
           try clear hcz34_2
           try clear hcz36_0
           try clear hcz36_1
           try clear hcz36_2
           try clear hcz6_0
           try clear hcz9_0
           try clear hcz9_1
           try clear hcz9_2
           try clear hfz29_0
           try clear hfz29_1
           try clear hfz29_2
           try clear hfz32_0
           try clear hfz32_1
           try clear hfz32_2
           try clear hfz34_0
           try clear hfz34_1
           try clear hfz34_2
           try clear hfz36_0
           try clear hfz36_1
           try clear hfz36_2
           try clear hfz6_0
           try clear hfz9_0
           try clear hfz9_1
           try clear hfz9_2
           try clear hx149_0
           try clear hx149_1
           try clear hx149_2
           try clear p1
           try clear p14
           try clear p149
           try clear p2
           try clear q1
           try clear q14
           try clear q149
           obtain ⟨x7_4,rfl,HA,HK4,BK147,BK150,HB⟩:=hrel
           cases gk with
           |zero => exact absurd HA.out (by simp [spec_PatternOk.l1])
           |succ k4 =>
            have H:=HA.out
            clear HA
            simp only [spec_PatternOk.l1] at H
            by_cases c38 : x7_4 < x5_4
            ·rw [if_pos c38] at H
             have c38b0 : decide (x7_4 < x5_4) = true:=decide_eq_true c38
             clear c38
             by_cases c39 : 0 ≤ x7_4
             ·rw [if_pos c39] at H
              have c39b0 : decide (0 ≤ x7_4) = true:=decide_eq_true c39
              clear c39
              by_cases c40 : x7_4 < (((rd_T85 l0_0 x3_1).f2).length : Int)
              ·rw [if_pos c40] at H
               have c40b0 : decide (x7_4 < (((rd_T85 l0_0 x3_1).f2).length : Int)) = true:=decide_eq_true c40
               clear c40
               replace H:=Option.bind_eq_some_iff.mp H
               obtain ⟨t152,A410,H⟩:=H
               replace H : (if t152 = true then (spec_PatternOk.l1 k4 x3_1 x5_4 (wrap64 (x7_4 + 1)) l0_0 ((rd_T85 l0_0 x3_1).f0) ((rd_T85 l0_0 x3_1).f1) ((rd_T85 l0_0 x3_1).f2)) else (some false)) = some r:=H
               have A41:=aM A410
               clear A410
               by_cases c42 : t152 = true
               ·subst c42
                have H1 : (spec_PatternOk.l1 k4 x3_1 x5_4 (wrap64 (x7_4 + 1)) l0_0 ((rd_T85 l0_0 x3_1).f0) ((rd_T85 l0_0 x3_1).f1) ((rd_T85 l0_0 x3_1).f2)) = some r:=by rw [if_pos rfl] at H;exact H
                clear H
                have H:=H1
                clear H1
                have H':=aM H
                clear H
                have hnb43:=NB150_147.out
                have hnc43:=NB147_150.out
                have hcz44_0 : wr.cell? ⟨gb150,0,none⟩ = some (.int .i64 ((rd_T85 l0_0 x3_1).f0)):=(bC BK150.out 0).trans rfl
                have hcz44_1 : wr.cell? ⟨gb150,1,none⟩ = some (.string ((rd_T85 l0_0 x3_1).f1)):=(bC BK150.out 1).trans rfl
                have hcz44_2 : wr.cell? ⟨gb150,2,none⟩ = some (.slice A149_2 ((rd_T85 l0_0 x3_1).f2).length c149_2):=(bC BK150.out 2).trans rfl
                have hfz44_0:=bF BK150.out 0
                have hfz44_1:=bF BK150.out 1
                have hfz44_2:=bF BK150.out 2
                have p151 : 0 ≤ (x7_4 : Int):=of_decide_eq_true (by first|(with_reducible assumption)|assumption)
                have q151 : x7_4 < (((rd_T85 l0_0 x3_1).f2).length : Int):=of_decide_eq_true (by first|(with_reducible assumption)|assumption)
                obtain ⟨ad151,e151,hx151_0⟩:=Kd.at_int HR149_2.out x7_4 p151 q151
                cases e151
                replace hx151_0:=(HB.out.cell (World.block_lt_of_cell? w _ hx151_0)).trans hx151_0
                replace p151:=eq_true p151
                replace q151:=eq_true q151
                go_wp2_with (first|((with_reducible refine gate_callee (f:=33) rfl ?_);refine goesL_ (some 72) rfl rfl Try.func33 (by kernel_rfl) rfl #[.int .i64 (rd ((rd_T85 l0_0 x3_1).f2) x7_4),.int .i64 0,.int .i64 (wrap64 (x3_1 - 1))] rfl (by (try simp only [List.map_toArray,List.map_cons,List.map_nil]);first|done|rfl|(simp only [List.length_drop,List.length_take];rfl)) ?_;(with_reducible refine (spec_l01In.calls (rd ((rd_T85 l0_0 x3_1).f2) x7_4) 0 (wrap64 (x3_1 - 1)) true _ A41.out).mono ?_);rintro e w' ⟨rfl,⟨nd,rfl⟩⟩;refine ⟨_,rfl,?_⟩))
                go_roundg k4
                case measure => have:=HK1.out;have:=HJ4.out;have:=HJ24.out;have:=HK4.out;omega
                case rel => exact ⟨(wrap64 (x7_4 + 1)),(by first|rfl|(simp;done)|(simp [*];done)),H',⟨by have:=HK1.out;have:=HJ4.out;have:=HJ24.out;have:=HK4.out;omega⟩,⟨by (with_reducible repeat (first|refine bN ?_ _|refine bD ?_|refine bA ?_ _));exact BK147.out⟩,⟨by (with_reducible repeat (first|refine bN ?_ _|refine bD ?_|refine bA ?_ _));exact BK150.out⟩,⟨by repeat (first|(with_reducible first|exact HB.out|apply lA|apply lN|apply lD|refine lS ?_ GE147.out|refine lS ?_ GE150.out)|exact HB.out)⟩⟩
               ·replace c42:=Bool.eq_false_iff.mpr c42
                subst c42
                have H1 : (some false) = some r:=by rw [if_neg (show ¬ (false = true) by decide)] at H;exact H
                clear H
                have H:=H1
                clear H1
                obtain rfl:=Option.some.inj H
                have hnb45:=NB150_147.out
                have hnc45:=NB147_150.out
                have hcz46_0 : wr.cell? ⟨gb150,0,none⟩ = some (.int .i64 ((rd_T85 l0_0 x3_1).f0)):=(bC BK150.out 0).trans rfl
                have hcz46_1 : wr.cell? ⟨gb150,1,none⟩ = some (.string ((rd_T85 l0_0 x3_1).f1)):=(bC BK150.out 1).trans rfl
                have hcz46_2 : wr.cell? ⟨gb150,2,none⟩ = some (.slice A149_2 ((rd_T85 l0_0 x3_1).f2).length c149_2):=(bC BK150.out 2).trans rfl
                have hfz46_0:=bF BK150.out 0
                have hfz46_1:=bF BK150.out 1
                have hfz46_2:=bF BK150.out 2
                have p151 : 0 ≤ (x7_4 : Int):=of_decide_eq_true (by first|(with_reducible assumption)|assumption)
                have q151 : x7_4 < (((rd_T85 l0_0 x3_1).f2).length : Int):=of_decide_eq_true (by first|(with_reducible assumption)|assumption)
                obtain ⟨ad151,e151,hx151_0⟩:=Kd.at_int HR149_2.out x7_4 p151 q151
                cases e151
                replace hx151_0:=(HB.out.cell (World.block_lt_of_cell? w _ hx151_0)).trans hx151_0
                replace p151:=eq_true p151
                replace q151:=eq_true q151
                go_wp2_with (first|((with_reducible refine gate_callee (f:=33) rfl ?_);refine goesL_ (some 72) rfl rfl Try.func33 (by kernel_rfl) rfl #[.int .i64 (rd ((rd_T85 l0_0 x3_1).f2) x7_4),.int .i64 0,.int .i64 (wrap64 (x3_1 - 1))] rfl (by (try simp only [List.map_toArray,List.map_cons,List.map_nil]);first|done|rfl|(simp only [List.length_drop,List.length_take];rfl)) ?_;(with_reducible refine (spec_l01In.calls (rd ((rd_T85 l0_0 x3_1).f2) x7_4) 0 (wrap64 (x3_1 - 1)) false _ A41.out).mono ?_);rintro e w' ⟨rfl,⟨nd,rfl⟩⟩;refine ⟨_,rfl,?_⟩))
                go_ret
                exact ⟨by first|rfl|(simp [errW_none,errW_some] <;> rfl)|(simp [*,errW_none,errW_some] <;> rfl),by repeat (first|(with_reducible first|exact HB.out|apply lA|apply lN|apply lD|refine lS ?_ GE147.out|refine lS ?_ GE150.out)|exact HB.out)⟩
              ·rw [if_neg c40] at H
               exact absurd H (by simp)
             ·rw [if_neg c39] at H
              exact absurd H (by simp)
            ·rw [if_neg c38] at H
             have c38b0 : decide (x7_4 < x5_4) = false:=decide_eq_false c38
             clear c38
             have H':=aM H
             clear H
             go_wp2
             go_roundg k4
             case measure => have:=HK1.out;have:=HJ4.out;have:=HJ24.out;have:=HK4.out;omega
             case rel => exact ⟨(wrap64 (x3_1 + 1)),(by first|rfl|(simp;done)|(simp [*];done)),H',⟨by have:=HK1.out;have:=HJ4.out;have:=HJ24.out;have:=HK4.out;omega⟩,⟨by (with_reducible repeat (first|refine bN ?_ _|refine bD ?_|refine bA ?_ _));exact BK147.out⟩,⟨by repeat (first|(with_reducible first|exact HB.out|apply lA|apply lN|apply lD|refine lS ?_ GE147.out|refine lS ?_ GE150.out)|exact HB.out)⟩⟩
    ·rw [if_neg c4] at H
     exact absurd H (by simp)
   ·rw [if_neg c3] at H
    have c3b0 : decide (x3_1 < (l0_0.length : Int)) = false:=decide_eq_false c3
    clear c3
    replace H:=Option.bind_eq_some_iff.mp H
    obtain ⟨t148,A470,H⟩:=H
    replace H : (some t148) = some r:=H
    have A47:=aM A470
    clear A470
    obtain rfl:=Option.some.inj H
    have hcz48_0 : wr.cell? ⟨gb147,0,none⟩ = some (.slice A0_0 l0_0.length c0_0):=(bC BK147.out 0).trans rfl
    have hfz48_0:=bF BK147.out 0
    go_wp2_with (first|((with_reducible refine gate_callee (f:=33) rfl ?_);refine goesL_ (some 77) rfl rfl Try.func33 (by kernel_rfl) rfl #[.int .i64 (l0_0.length : Int),.int .i64 1,.int .i64 60] rfl (by (try simp only [List.map_toArray,List.map_cons,List.map_nil]);first|done|rfl|(simp only [List.length_drop,List.length_take];rfl)) ?_;(with_reducible refine (spec_l01In.calls (l0_0.length : Int) 1 60 t148 _ A47.out).mono ?_);rintro e w' ⟨rfl,⟨nd,rfl⟩⟩;refine ⟨_,rfl,?_⟩))
    go_ret
    exact ⟨by first|rfl|(simp [errW_none,errW_some] <;> rfl)|(simp [*,errW_none,errW_some] <;> rfl),by repeat (first|(with_reducible first|exact HB.out|apply lA|apply lN|apply lD|refine lS ?_ GE147.out)|exact HB.out)⟩

end Go.Proofs.Ytnjomkadjcjcnaa.QFnExactEndsAt
