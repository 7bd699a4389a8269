-- A text of this session, made by wip/own_print.py (the kit's print with additions of ours).
import Derived.Test.YtekngkljphlliaaQFnSaysx0
import Derived.Test.YtekngkljphlliaaQFnSaysx4
import Derived.Test.YtekngkljphlliaaQFnSaysx8
import Derived.Test.YtekngkljphlliaaQFnSaysx9
namespace Go.Proofs.Ytekngkljphlliaa.QFnSays
open Go.RowKit Go.Proofs.YtekngkljphlliaaW.PrintWords Go.Proofs.YtekngkljphlliaaW.PrintLast Go.Proofs.YtekngkljphlliaaW.PrintMore
attribute [local go_sem] max2_int min2_int max_two min_two max_three min_three max_four min_four   -- for this text's walks alone
set_option linter.unusedVariables false
set_option linter.unusedSimpArgs false
open Bool renaming true → bT, false → bf
open Go.Proofs.YtekngkljphlliaaW.PrintWords.Kd renaming R_alloc → rA, R_drewN → rN, R_drew → rD, C_alloc → cA, C_drewN → cN, C_drew → cD, R_far → rF, R_below → rB, R_lower → rL, R_lt → rT, R_base → rS, C_below → cB, R_types → rY, R_elder' → rE, R_reads' → rR, R_new' → rW
open Go.Proofs.YtekngkljphlliaaW.PrintWords renaming blk_drewN → bN, blk_drew → bD, blk_alloc → bA, below_set → lS, pw_below_drewN → lN, below_drew1 → lD, below_alloc → lA, blk_cell → bC, blk_below → bB, below_size → lZ, below_step → lP, blk_lt → bL, blk_frozen → bF
open Go.Proofs.YtekngkljphlliaaW.PrintWords.Aside0 renaming mk → aM
theorem q_ia8 {α : Type} (l : List α) (i : Nat) (a : α) : l.toArray.setIfInBounds i a = (l.set i a).toArray := List.setIfInBounds_toArray ..
theorem q_cz8 {α : Type} (a b : α) (l : List α) : (a :: l).set 0 b = b :: l := rfl
theorem q_cs8 {α : Type} (a b : α) (l : List α) (n : Nat) : (a :: l).set (n + 1) b = a :: l.set n b := rfl

/-! ### spec_l08Any: function 32 -/
def spec_l08Any.l0 : Nat → List Int → Int → Int → List (S59) → List (S39) → ByteArray → Option ((List (S59)) × (List (S39)) × ByteArray × Int × Int)
 | 0, _, _, _, _, _, _ => none
 | k + 1, x1000, x1001, x1002, x310000, x310001, x310002 => (spec_l01Below.f x1000 x1001 x1002 3).bind fun bt335 => (if (x310000.length : Int) < (wrap64 (59 + bt335.1)) then ((some (([(wrap64 (97 + (wrap64 ((x310000.length : Int) / 26)))) % 256, 97 + ((x310000.length : Int) % 26)] : List Int) : List Int)).bind fun y338 => (if 2 + (strOfNums y338).size ≤ 9223372036854775807 then (if x310000.length < 4398046511104 then (spec_l08Any.l0 k x1000 bt335.2.1 bt335.2.2 (x310000 ++ [(⟨(⟨#[122, 122]⟩ : ByteArray) ++ (strOfNums y338), (⟨#[]⟩ : ByteArray)⟩ : S59)]) x310001 x310002) else (none)) else (none))) else (some (x310000, x310001, x310002, bt335.2.1, bt335.2.2)))
def spec_l08Any.f (k : Nat) (s0_0 : List Int) (s0_1 : Int) (s0_2 : Int) : Option ((List (S59)) × (List (S39)) × ByteArray × Int × Int) := (spec_l08Store.f k s0_0 s0_1 s0_2).bind fun bt293 => ((spec_l08Copy.f bt293.1 bt293.2.1 bt293.2.2.1).bind fun bt302 => ((spec_l01Below.f s0_0 bt293.2.2.2.1 bt293.2.2.2.2 12).bind fun bt310 => (if bt310.1 = 0 then ((spec_l01Pick.f s0_0 bt310.2.1 bt310.2.2 (([(⟨#[97]⟩ : ByteArray), (⟨#[122, 122]⟩ : ByteArray), (⟨#[49]⟩ : ByteArray)] : List ByteArray))).bind fun bt316 => (if bt302.1.length < 4398046511104 then (some ((bt302.1 ++ [(⟨bt316.1, (⟨#[]⟩ : ByteArray)⟩ : S59)]), bt302.2.1, bt302.2.2, bt316.2.1, bt316.2.2)) else (none))) else (if bt310.1 = 1 then ((spec_l01Pick.f s0_0 bt310.2.1 bt310.2.2 (([(⟨#[97]⟩ : ByteArray), (⟨#[122, 122]⟩ : ByteArray), (⟨#[]⟩ : ByteArray)] : List ByteArray))).bind fun bt325 => (if bt302.2.1.length < 2932031007402 then (some (bt302.1, (bt302.2.1 ++ [(⟨bt325.1, (⟨#[]⟩ : ByteArray), (⟨#[]⟩ : ByteArray)⟩ : S39)]), bt302.2.2, bt325.2.1, bt325.2.2)) else (none))) else (if bt310.1 = 2 then ((spec_l01Below.f s0_0 bt310.2.1 bt310.2.2 2).bind fun bt331 => ((spec_l01Long.f k (wrap64 (3000 + bt331.1)) 65).bind fun t334 => (some (bt302.1, bt302.2.1, t334, bt331.2.1, bt331.2.2)))) else (if bt310.1 = 3 then (spec_l08Any.l0 k s0_0 bt310.2.1 bt310.2.2 bt302.1 bt302.2.1 bt302.2.2) else (some (bt302.1, bt302.2.1, bt302.2.2, bt310.2.1, bt310.2.2))))))))
theorem spec_l08Any.mono_l : ∀ k, (∀ y0 y1 y2 y3 y4 y5, LeO (spec_l08Any.l0 k y0 y1 y2 y3 y4 y5) (spec_l08Any.l0 (k + 1) y0 y1 y2 y3 y4 y5))
 | 0 => fun _ _ _ _ _ _ r h => by simp [spec_l08Any.l0] at h
 | k + 1 => by
  have ih0 := spec_l08Any.mono_l k
  ·intro y0 y1 y2 y3 y4 y5
   unfold spec_l08Any.l0
   repeat' first
   | (with_reducible exact ih0 _ _ _ _ _ _)
   | (with_reducible exact spec_l01Long.mono _ _ _)
   | (with_reducible exact spec_l08Store.mono _ _ _ _)
   | (with_reducible exact LeO.refl _)
   | (with_reducible exact LeO.none _)
   | (with_reducible refine LeO.ite ?_ ?_)
   | (with_reducible refine LeO.bind ?_ (fun _ => ?_))
   | exact ih0 _ _ _ _ _ _
   | exact spec_l01Long.mono _ _ _
   | exact spec_l08Store.mono _ _ _ _
   | exact LeO.none _
   | refine LeO.ite ?_ ?_
   | refine LeO.bind ?_ (fun _ => ?_)
theorem spec_l08Any.mono : ∀ a0 a1 a2 k, LeO (spec_l08Any.f k a0 a1 a2) (spec_l08Any.f (k + 1) a0 a1 a2) := by
 intro a0 a1 a2 k
 have ih0 := spec_l08Any.mono_l k
 unfold spec_l08Any.f
 repeat' first
   | (with_reducible exact ih0 _ _ _ _ _ _)
   | (with_reducible exact spec_l01Long.mono _ _ _)
   | (with_reducible exact spec_l08Store.mono _ _ _ _)
   | (with_reducible exact LeO.refl _)
   | (with_reducible exact LeO.none _)
   | (with_reducible refine LeO.ite ?_ ?_)
   | (with_reducible refine LeO.bind ?_ (fun _ => ?_))
   | exact ih0 _ _ _ _ _ _
   | exact spec_l01Long.mono _ _ _
   | exact spec_l08Store.mono _ _ _ _
   | exact LeO.none _
   | refine LeO.ite ?_ ?_
   | refine LeO.bind ?_ (fun _ => ?_)
def spec_l08Any.T4 : Bool × List (List Nat × List Nat) := (true, [([], []), ([0], [0]), ([], []), ([], []), ([2, 3], [2, 3]), ([4], [4]), ([5], [5]), ([1, 6, 4], [1, 6]), ([0, 1, 2, 3, 4, 5, 6, 7], []), ([8, 7, 7, 0, 1, 2, 3, 4, 5, 6, 7], [7, 8])])
def spec_l08Any.B4 : List Nat := [0, 1, 0, 0, 12, 28, 60, 127, 255, 511]
theorem spec_l08Any.tab4 : rtab .any (opsOf Try.f32 4) = spec_l08Any.T4 := by kernel_rfl
theorem spec_l08Any.bits4 : waitsOk spec_l08Any.T4.2 spec_l08Any.B4 = true := by kernel_rfl
def spec_l08Any.T6 : Bool × List (List Nat × List Nat) := (true, [([], []), ([0], [0]), ([], []), ([], []), ([2, 3], [2, 3]), ([4], [4]), ([5], [5]), ([1, 6, 4], [1, 6]), ([0, 1, 2, 3, 4, 5, 6, 7], []), ([8, 7, 7, 0, 1, 2, 3, 4, 5, 6, 7], [7, 8])])
def spec_l08Any.B6 : List Nat := [0, 1, 0, 0, 12, 28, 60, 127, 255, 511]
theorem spec_l08Any.tab6 : rtab .any (opsOf Try.f32 6) = spec_l08Any.T6 := by kernel_rfl
theorem spec_l08Any.bits6 : waitsOk spec_l08Any.T6.2 spec_l08Any.B6 = true := by kernel_rfl
set_option maxHeartbeats 8000000 in
set_option maxRecDepth 100000 in
theorem spec_l08Any.calls (k : Nat) (g : Nat) (s0_0 : List Int) (s0_1 : Int) (s0_2 : Int) (r1 : List (S59)) (r2 : List (S39)) (r3 : ByteArray) (r4 : Int) (r5 : Int) (w0 w : World) (hI : IsS62 w0 w g s0_0 s0_1 s0_2) (hB : Below w0.heap.size w0 w) (h : spec_l08Any.f k s0_0 s0_1 s0_2 = some (r1,r2,r3,r4,r5)) :
  Calls Try.prog 32 #[.pointer (some ⟨g,0,none⟩)] w fun e w' => ∃ v0_ v1_ : Value,e = .returned (.agg #[v0_,v1_,.string r3]) ∧ Kd.R k59 59 w' w.heap.size (fun _ => True) v0_ r1 ∧ Kd.R k39 39 w' w.heap.size (fun _ => True) v1_ r2 ∧ IsS62 w0 w' g s0_0 r4 r5 ∧ Below w0.heap.size w0 w' ∧ KeepBut w w' g none:=by
 have hu35:=Try.underlying35
 have hu59:=Try.underlying59
 have hu39:=Try.underlying39
 have HI0:=aM hI
 have HK:=aM (KeepBut.refl w g none)
 have HL:=aM hB.size
 clear hI
 have HW0:=aM hB.size
 have HB:=aM hB
 clear hB
 have H : ((spec_l08Store.f k s0_0 s0_1 s0_2).bind fun bt293 => ((spec_l08Copy.f bt293.1 bt293.2.1 bt293.2.2.1).bind fun bt302 => ((spec_l01Below.f s0_0 bt293.2.2.2.1 bt293.2.2.2.2 12).bind fun bt310 => (if bt310.1 = 0 then ((spec_l01Pick.f s0_0 bt310.2.1 bt310.2.2 (([(⟨#[97]⟩ : ByteArray),(⟨#[122,122]⟩ : ByteArray),(⟨#[49]⟩ : ByteArray)] : List ByteArray))).bind fun bt316 => (if bt302.1.length < 4398046511104 then (some ((bt302.1 ++ [(⟨bt316.1,(⟨#[]⟩ : ByteArray)⟩ : S59)]),bt302.2.1,bt302.2.2,bt316.2.1,bt316.2.2)) else (none))) else (if bt310.1 = 1 then ((spec_l01Pick.f s0_0 bt310.2.1 bt310.2.2 (([(⟨#[97]⟩ : ByteArray),(⟨#[122,122]⟩ : ByteArray),(⟨#[]⟩ : ByteArray)] : List ByteArray))).bind fun bt325 => (if bt302.2.1.length < 2932031007402 then (some (bt302.1,(bt302.2.1 ++ [(⟨bt325.1,(⟨#[]⟩ : ByteArray),(⟨#[]⟩ : ByteArray)⟩ : S39)]),bt302.2.2,bt325.2.1,bt325.2.2)) else (none))) else (if bt310.1 = 2 then ((spec_l01Below.f s0_0 bt310.2.1 bt310.2.2 2).bind fun bt331 => ((spec_l01Long.f k (wrap64 (3000 + bt331.1)) 65).bind fun t334 => (some (bt302.1,bt302.2.1,t334,bt331.2.1,bt331.2.2)))) else (if bt310.1 = 3 then (spec_l08Any.l0 k s0_0 bt310.2.1 bt310.2.2 bt302.1 bt302.2.1 bt302.2.2) else (some (bt302.1,bt302.2.1,bt302.2.2,bt310.2.1,bt310.2.2))))))))) = some (r1,r2,r3,r4,r5):=h
 clear h
 replace H:=Option.bind_eq_some_iff.mp H
 obtain ⟨⟨t293,t296,t299,t300,t301⟩,A20,H⟩:=H
 replace H : ((spec_l08Copy.f t293 t296 t299).bind fun bt302 => ((spec_l01Below.f s0_0 t300 t301 12).bind fun bt310 => (if bt310.1 = 0 then ((spec_l01Pick.f s0_0 bt310.2.1 bt310.2.2 (([(⟨#[97]⟩ : ByteArray),(⟨#[122,122]⟩ : ByteArray),(⟨#[49]⟩ : ByteArray)] : List ByteArray))).bind fun bt316 => (if bt302.1.length < 4398046511104 then (some ((bt302.1 ++ [(⟨bt316.1,(⟨#[]⟩ : ByteArray)⟩ : S59)]),bt302.2.1,bt302.2.2,bt316.2.1,bt316.2.2)) else (none))) else (if bt310.1 = 1 then ((spec_l01Pick.f s0_0 bt310.2.1 bt310.2.2 (([(⟨#[97]⟩ : ByteArray),(⟨#[122,122]⟩ : ByteArray),(⟨#[]⟩ : ByteArray)] : List ByteArray))).bind fun bt325 => (if bt302.2.1.length < 2932031007402 then (some (bt302.1,(bt302.2.1 ++ [(⟨bt325.1,(⟨#[]⟩ : ByteArray),(⟨#[]⟩ : ByteArray)⟩ : S39)]),bt302.2.2,bt325.2.1,bt325.2.2)) else (none))) else (if bt310.1 = 2 then ((spec_l01Below.f s0_0 bt310.2.1 bt310.2.2 2).bind fun bt331 => ((spec_l01Long.f k (wrap64 (3000 + bt331.1)) 65).bind fun t334 => (some (bt302.1,bt302.2.1,t334,bt331.2.1,bt331.2.2)))) else (if bt310.1 = 3 then (spec_l08Any.l0 k s0_0 bt310.2.1 bt310.2.2 bt302.1 bt302.2.1 bt302.2.2) else (some (bt302.1,bt302.2.1,bt302.2.2,bt310.2.1,bt310.2.2)))))))) = some (r1,r2,r3,r4,r5):=H
 have A2:=aM A20
 clear A20
 replace H:=Option.bind_eq_some_iff.mp H
 obtain ⟨⟨t302,t305,t308⟩,A30,H⟩:=H
 replace H : ((spec_l01Below.f s0_0 t300 t301 12).bind fun bt310 => (if bt310.1 = 0 then ((spec_l01Pick.f s0_0 bt310.2.1 bt310.2.2 (([(⟨#[97]⟩ : ByteArray),(⟨#[122,122]⟩ : ByteArray),(⟨#[49]⟩ : ByteArray)] : List ByteArray))).bind fun bt316 => (if t302.length < 4398046511104 then (some ((t302 ++ [(⟨bt316.1,(⟨#[]⟩ : ByteArray)⟩ : S59)]),t305,t308,bt316.2.1,bt316.2.2)) else (none))) else (if bt310.1 = 1 then ((spec_l01Pick.f s0_0 bt310.2.1 bt310.2.2 (([(⟨#[97]⟩ : ByteArray),(⟨#[122,122]⟩ : ByteArray),(⟨#[]⟩ : ByteArray)] : List ByteArray))).bind fun bt325 => (if t305.length < 2932031007402 then (some (t302,(t305 ++ [(⟨bt325.1,(⟨#[]⟩ : ByteArray),(⟨#[]⟩ : ByteArray)⟩ : S39)]),t308,bt325.2.1,bt325.2.2)) else (none))) else (if bt310.1 = 2 then ((spec_l01Below.f s0_0 bt310.2.1 bt310.2.2 2).bind fun bt331 => ((spec_l01Long.f k (wrap64 (3000 + bt331.1)) 65).bind fun t334 => (some (t302,t305,t334,bt331.2.1,bt331.2.2)))) else (if bt310.1 = 3 then (spec_l08Any.l0 k s0_0 bt310.2.1 bt310.2.2 t302 t305 t308) else (some (t302,t305,t308,bt310.2.1,bt310.2.2))))))) = some (r1,r2,r3,r4,r5):=H
 have A3:=aM A30
 clear A30
 replace H:=Option.bind_eq_some_iff.mp H
 obtain ⟨⟨t310,t311,t312⟩,A40,H⟩:=H
 replace H : (if t310 = 0 then ((spec_l01Pick.f s0_0 t311 t312 (([(⟨#[97]⟩ : ByteArray),(⟨#[122,122]⟩ : ByteArray),(⟨#[49]⟩ : ByteArray)] : List ByteArray))).bind fun bt316 => (if t302.length < 4398046511104 then (some ((t302 ++ [(⟨bt316.1,(⟨#[]⟩ : ByteArray)⟩ : S59)]),t305,t308,bt316.2.1,bt316.2.2)) else (none))) else (if t310 = 1 then ((spec_l01Pick.f s0_0 t311 t312 (([(⟨#[97]⟩ : ByteArray),(⟨#[122,122]⟩ : ByteArray),(⟨#[]⟩ : ByteArray)] : List ByteArray))).bind fun bt325 => (if t305.length < 2932031007402 then (some (t302,(t305 ++ [(⟨bt325.1,(⟨#[]⟩ : ByteArray),(⟨#[]⟩ : ByteArray)⟩ : S39)]),t308,bt325.2.1,bt325.2.2)) else (none))) else (if t310 = 2 then ((spec_l01Below.f s0_0 t311 t312 2).bind fun bt331 => ((spec_l01Long.f k (wrap64 (3000 + bt331.1)) 65).bind fun t334 => (some (t302,t305,t334,bt331.2.1,bt331.2.2)))) else (if t310 = 3 then (spec_l08Any.l0 k s0_0 t311 t312 t302 t305 t308) else (some (t302,t305,t308,t311,t312)))))) = some (r1,r2,r3,r4,r5):=H
 have A4:=aM A40
 clear A40
 by_cases c5 : t310 = 0
 ·rw [if_pos c5] at H
  have c5b0 : (t310 == 0) = true:=beq_iff_eq.mpr c5
  have c5b1 : (t310 != 0) = false:=bne_eq_false_iff_eq.mpr c5
  clear c5
  obtain ⟨y313,hy313⟩ : ∃ y_ : List ByteArray,y_ = (([(⟨#[97]⟩ : ByteArray),(⟨#[122,122]⟩ : ByteArray),(⟨#[49]⟩ : ByteArray)] : List ByteArray)):=⟨_,rfl⟩
  replace H : ((spec_l01Pick.f s0_0 t311 t312 y313).bind fun bt316 => (if t302.length < 4398046511104 then (some ((t302 ++ [(⟨bt316.1,(⟨#[]⟩ : ByteArray)⟩ : S59)]),t305,t308,bt316.2.1,bt316.2.2)) else (none))) = some (r1,r2,r3,r4,r5):=by first|(rw [hy313];with_reducible exact H)|(have H2_:=(Option.bind_some _ _).symm.trans H;rw [hy313];with_reducible exact H2_)|(have H2_:=(Option.bind_some _ _).symm.trans H;with_reducible exact H2_)|with_reducible exact H|(rw [hy313];exact H)|exact H
  have Ny313:=aM hy313
  clear hy313
  replace H:=Option.bind_eq_some_iff.mp H
  obtain ⟨⟨t316,t317,t318⟩,A60,H⟩:=H
  replace H : (if t302.length < 4398046511104 then (some ((t302 ++ [(⟨t316,(⟨#[]⟩ : ByteArray)⟩ : S59)]),t305,t308,t317,t318)) else (none)) = some (r1,r2,r3,r4,r5):=H
  have A6:=aM A60
  clear A60
  by_cases c7 : t302.length < 4398046511104
  ·rw [if_pos c7] at H
   have LMc7:=aM c7
   clear c7
   obtain ⟨y319,hy319⟩ : ∃ y_ : List (S59),y_ = (t302 ++ [(⟨t316,(⟨#[]⟩ : ByteArray)⟩ : S59)]):=⟨_,rfl⟩
   replace H : (some (y319,t305,t308,t317,t318)) = some (r1,r2,r3,r4,r5):=by first|(rw [hy319];with_reducible exact H)|(have H2_:=(Option.bind_some _ _).symm.trans H;rw [hy319];with_reducible exact H2_)|(have H2_:=(Option.bind_some _ _).symm.trans H;with_reducible exact H2_)|with_reducible exact H|(rw [hy319];exact H)|exact H
   have Ny319:=aM hy319
   clear hy319
   simp only [Option.some.injEq,Prod.mk.injEq] at H
   obtain ⟨rfl,rfl,rfl,rfl,rfl⟩:=H
   go_enter Try.func32,Try.ntmps32
   try go_wp2_with (first|((with_reducible refine gate_dst (N:=2) rfl ?_);refine box_event ?hg (N:=2) ?hd (cs:=#[.slice none 0 0,.slice none 0 0,.string (⟨#[]⟩ : ByteArray)]) (t:=35) ?hr ?_;(case hd => rfl);(case hg => rfl);(case hr => first|(go_simp;done)|(go_simp;rfl));intro gb292 hg w8 hbox hb;have n0_:=aM (IsS62.below (by repeat (first|(with_reducible first|exact HI0.out|apply IsS62.alloc|apply IsS62.drewN|apply IsS62.drew|apply IsS62.set_1|apply IsS62.set_2)|exact HI0.out)) hb);have n1_:=aM (KeepBut.trans (by repeat (first|(with_reducible first|exact HK.out|apply KeepBut.set_|apply keep_drewN|apply keep_drew|apply keep_alloc)|exact HK.out)) (KeepBut.of_below hb g none) (.inl rfl));have n2_:=aM (lP (by repeat (first|(with_reducible first|exact HB.out|apply lA|apply lN|apply lD|refine lS ?_ (IsS62.ge HI0.out))|exact HB.out)) hb);have n3_:=aM (hbox);have n4_:=aM ((by rw [hg];exact (keep_size (w:=w) (g:=g) (row:=none) (by repeat (first|(with_reducible first|exact HK.out|apply KeepBut.set_|apply keep_drewN|apply keep_drew|apply keep_alloc)|exact HK.out))) : w.heap.size ≤ gb292));have n5_:=aM ((Nat.le_trans HW0.out (by rw [hg];exact (keep_size (w:=w) (g:=g) (row:=none) (by repeat (first|(with_reducible first|exact HK.out|apply KeepBut.set_|apply keep_drewN|apply keep_drew|apply keep_alloc)|exact HK.out))) : w.heap.size ≤ gb292) : w0.heap.size ≤ gb292));have n6_:=aM ((by rw [hg];exact Nat.ne_of_lt (IsS62.lt (show IsS62 w0 _ g s0_0 s0_1 s0_2 from by repeat (first|(with_reducible first|exact HI0.out|apply IsS62.alloc|apply IsS62.drewN|apply IsS62.drew|apply IsS62.set_1|apply IsS62.set_2)|exact HI0.out))) : g ≠ gb292));have n7_:=aM ((by rw [hg];exact Nat.ne_of_gt (IsS62.lt (show IsS62 w0 _ g s0_0 s0_1 s0_2 from by repeat (first|(with_reducible first|exact HI0.out|apply IsS62.alloc|apply IsS62.drewN|apply IsS62.drew|apply IsS62.set_1|apply IsS62.set_2)|exact HI0.out))) : gb292 ≠ g));clear HI0 HK HB;have HI0:=n0_;have HK:=n1_;have HB:=n2_;have BK292:=n3_;have GW292:=n4_;have GE292:=n5_;have NB0_292:=n6_;have NB292_0:=n7_;clear n0_ n1_ n2_ n3_ n4_ n5_ n6_ n7_ hb hbox hg)|((with_reducible refine gate_callee (f:=27) rfl ?_);refine goesL_ (some 5) rfl rfl Try.func27 (by kernel_rfl) rfl #[.pointer (some ⟨g,0,none⟩)] rfl (by (try simp only [List.map_toArray,List.map_cons,List.map_nil]);first|done|rfl|(simp only [List.length_drop,List.length_take];rfl)) ?_;(with_reducible refine (spec_l08Store.calls k g s0_0 s0_1 s0_2 t293 t296 t299 t300 t301 w0 _ ?side1 ?side2 A2.out).mono ?_);(case side1 => repeat (first|(with_reducible first|exact HI0.out|apply IsS62.alloc|apply IsS62.drewN|apply IsS62.drew|apply IsS62.set_1|apply IsS62.set_2|refine IsS62.far ?_ NB0_292.out _)|exact HI0.out));(case side2 => repeat (first|(with_reducible first|exact HB.out|apply lA|apply lN|apply lD|refine lS ?_ (IsS62.ge HI0.out)|refine lS ?_ GE292.out)|exact HB.out));rintro e w9 ⟨v294,v297,rfl,ho0,ho1,hi,hb,hk⟩;refine ⟨_,rfl,?_⟩;have n0_:=aM (KeepBut.blk hk (g':=gb292) (o:=.cells #[.slice none 0 0,.slice none 0 0,.string (⟨#[]⟩ : ByteArray)] 35 (0,0)) (by (with_reducible repeat (first|refine bN ?_ _|refine bD ?_|refine bA ?_ _));exact BK292.out) NB292_0.out (by simp));have n1_:=aM (rL ho0 (keep_size (w:=w) (g:=g) (row:=none) (by repeat (first|(with_reducible first|exact HK.out|apply KeepBut.set_|apply keep_drewN|apply keep_drew|apply keep_alloc|refine keep_far ?_ GW292.out _)|exact HK.out))));have n2_:=aM (rL ho1 (keep_size (w:=w) (g:=g) (row:=none) (by repeat (first|(with_reducible first|exact HK.out|apply KeepBut.set_|apply keep_drewN|apply keep_drew|apply keep_alloc|refine keep_far ?_ GW292.out _)|exact HK.out))));have n3_:=aM (KeepBut.trans (by repeat (first|(with_reducible first|exact HK.out|apply KeepBut.set_|apply keep_drewN|apply keep_drew|apply keep_alloc|refine keep_far ?_ GW292.out _)|exact HK.out)) hk (.inl rfl));have n4_:=aM (hb);have n5_:=aM (hi);clear BK292 HK HB HI0;have BK292:=n0_;have HO295:=n1_;have HO298:=n2_;have HK:=n3_;have HB:=n4_;have HI0:=n5_;clear n0_ n1_ n2_ n3_ n4_ n5_;(try clear hb);(try clear hb2);(try clear hk);(try clear hi);(try clear ho0);(try clear ho1);obtain ⟨Ao10,co10,eo10⟩:=Kd.R_slice HO295.out;subst eo10;obtain ⟨Ao11,co11,eo11⟩:=Kd.R_slice HO298.out;subst eo11)|((with_reducible refine gate_callee (f:=35) rfl ?_);refine goesL_ (some 6) rfl rfl Try.func35 (by kernel_rfl) rfl #[.agg #[.slice Ao10 t293.length co10,.slice Ao11 t296.length co11,.string t299]] rfl (by (try simp only [List.map_toArray,List.map_cons,List.map_nil]);first|done|rfl|(simp only [List.length_drop,List.length_take];rfl)) ?_;(with_reducible refine (spec_l08Copy.calls _ _ t293 _ _ t296 t299 t302 t305 t308 _ ?side1 ?side2 ?side3 ?side4 A3.out).mono ?_);(case side1 => repeat (first|exact (rR HO295.out).2.2|(with_reducible first|refine cA ?_ _|refine cN ?_ _|refine cD ?_)));(case side2 => exact (rR HO295.out).2.1);(case side3 => repeat (first|exact (rR HO298.out).2.2|(with_reducible first|refine cA ?_ _|refine cN ?_ _|refine cD ?_)));(case side4 => exact (rR HO298.out).2.1);rintro e w12 ⟨v303,v306,rfl,ho0,ho1,hb⟩;refine ⟨_,rfl,?_⟩;have n0_:=aM (rE (rZ HO295.out) (rS ho0) hb);have n1_:=aM (rE (rZ HO298.out) (rS ho1) hb);have n2_:=aM (rL (rW ho0 (rT (rZ HO295.out))) (keep_size (w:=w) (g:=g) (row:=none) (by repeat (first|(with_reducible first|exact HK.out|apply KeepBut.set_|apply keep_drewN|apply keep_drew|apply keep_alloc|refine keep_far ?_ GW292.out _)|exact HK.out))));have n3_:=aM (rL (rW ho1 (rT (rZ HO298.out))) (keep_size (w:=w) (g:=g) (row:=none) (by repeat (first|(with_reducible first|exact HK.out|apply KeepBut.set_|apply keep_drewN|apply keep_drew|apply keep_alloc|refine keep_far ?_ GW292.out _)|exact HK.out))));have n4_:=aM (IsS62.below (by repeat (first|(with_reducible first|exact HI0.out|apply IsS62.alloc|apply IsS62.drewN|apply IsS62.drew|apply IsS62.set_1|apply IsS62.set_2|refine IsS62.far ?_ NB0_292.out _)|exact HI0.out)) hb);have n5_:=aM (bH BK292.out hb);have n6_:=aM (KeepBut.trans (by repeat (first|(with_reducible first|exact HK.out|apply KeepBut.set_|apply keep_drewN|apply keep_drew|apply keep_alloc|refine keep_far ?_ GW292.out _)|exact HK.out)) (KeepBut.of_below hb g none) (.inl rfl));have n7_:=aM (lP (by repeat (first|(with_reducible first|exact HB.out|apply lA|apply lN|apply lD|refine lS ?_ (IsS62.ge HI0.out)|refine lS ?_ GE292.out)|exact HB.out)) hb);clear HO295 HO298 HI0 BK292 HK HB;have HO295:=n0_;have HO298:=n1_;have HO304:=n2_;have HO307:=n3_;have HI0:=n4_;have BK292:=n5_;have HK:=n6_;have HB:=n7_;clear n0_ n1_ n2_ n3_ n4_ n5_ n6_ n7_;(try clear hb);(try clear hb2);(try clear hk);(try clear hi);(try clear ho0);(try clear ho1))|((with_reducible refine gate_dst (N:=3) rfl ?_);refine box_event ?hg (N:=3) ?hd (cs:=#[.slice none 0 0,.slice none 0 0,.string (⟨#[]⟩ : ByteArray)]) (t:=35) ?hr ?_;(case hd => rfl);(case hg => rfl);(case hr => first|(go_simp;done)|(go_simp;rfl));intro gb309 hg w13 hbox hb;have n0_:=aM (rH HO295.out hb);have n1_:=aM (rH HO298.out hb);have n2_:=aM (rH HO304.out hb);have n3_:=aM (rH HO307.out hb);have n4_:=aM (IsS62.below (by repeat (first|(with_reducible first|exact HI0.out|apply IsS62.alloc|apply IsS62.drewN|apply IsS62.drew|apply IsS62.set_1|apply IsS62.set_2|refine IsS62.far ?_ NB0_292.out _)|exact HI0.out)) hb);have n5_:=aM (bH BK292.out hb);have n6_:=aM (KeepBut.trans (by repeat (first|(with_reducible first|exact HK.out|apply KeepBut.set_|apply keep_drewN|apply keep_drew|apply keep_alloc|refine keep_far ?_ GW292.out _)|exact HK.out)) (KeepBut.of_below hb g none) (.inl rfl));have n7_:=aM (lP (by repeat (first|(with_reducible first|exact HB.out|apply lA|apply lN|apply lD|refine lS ?_ (IsS62.ge HI0.out)|refine lS ?_ GE292.out)|exact HB.out)) hb);have n8_:=aM (hbox);have n9_:=aM ((by rw [hg];exact (keep_size (w:=w) (g:=g) (row:=none) (by repeat (first|(with_reducible first|exact HK.out|apply KeepBut.set_|apply keep_drewN|apply keep_drew|apply keep_alloc|refine keep_far ?_ GW292.out _)|exact HK.out))) : w.heap.size ≤ gb309));have n10_:=aM ((Nat.le_trans HW0.out (by rw [hg];exact (keep_size (w:=w) (g:=g) (row:=none) (by repeat (first|(with_reducible first|exact HK.out|apply KeepBut.set_|apply keep_drewN|apply keep_drew|apply keep_alloc|refine keep_far ?_ GW292.out _)|exact HK.out))) : w.heap.size ≤ gb309) : w0.heap.size ≤ gb309));have n11_:=aM ((nL hg BK292.out : gb292 ≠ gb309));have n12_:=aM ((nG hg BK292.out : gb309 ≠ gb292));have n13_:=aM ((by rw [hg];exact Nat.ne_of_lt (IsS62.lt (show IsS62 w0 _ g s0_0 t300 t301 from by repeat (first|(with_reducible first|exact HI0.out|apply IsS62.alloc|apply IsS62.drewN|apply IsS62.drew|apply IsS62.set_1|apply IsS62.set_2|refine IsS62.far ?_ NB0_292.out _)|exact HI0.out))) : g ≠ gb309));have n14_:=aM ((by rw [hg];exact Nat.ne_of_gt (IsS62.lt (show IsS62 w0 _ g s0_0 t300 t301 from by repeat (first|(with_reducible first|exact HI0.out|apply IsS62.alloc|apply IsS62.drewN|apply IsS62.drew|apply IsS62.set_1|apply IsS62.set_2|refine IsS62.far ?_ NB0_292.out _)|exact HI0.out))) : gb309 ≠ g));clear HO295 HO298 HO304 HO307 HI0 BK292 HK HB;have HO295:=n0_;have HO298:=n1_;have HO304:=n2_;have HO307:=n3_;have HI0:=n4_;have BK292:=n5_;have HK:=n6_;have HB:=n7_;have BK309:=n8_;have GW309:=n9_;have GE309:=n10_;have NB292_309:=n11_;have NB309_292:=n12_;have NB0_309:=n13_;have NB309_0:=n14_;clear n0_ n1_ n2_ n3_ n4_ n5_ n6_ n7_ n8_ n9_ n10_ n11_ n12_ n13_ n14_ hb hbox hg;obtain ⟨Ao14,co14,eo14⟩:=Kd.R_slice HO304.out;subst eo14;have hnb15:=NB309_292.out;have hnc15:=NB292_309.out;have hnb16:=NB309_0.out;have hnc16:=NB0_309.out;obtain ⟨⟨hcz17_0,hcz17_1,hcz17_2⟩,hfz17_0,hfz17_1,hfz17_2⟩:=bC3 BK309.out;obtain ⟨Ao18,co18,eo18⟩:=Kd.R_slice HO307.out;subst eo18)|((with_reducible refine gate_callee (f:=24) rfl ?_);refine goesL_ (some 8) rfl rfl Try.func24 (by kernel_rfl) rfl #[.pointer (some ⟨g,0,none⟩),.int .i64 12] rfl (by (try simp only [List.map_toArray,List.map_cons,List.map_nil]);first|done|rfl|(simp only [List.length_drop,List.length_take];rfl)) ?_;(with_reducible refine (spec_l01Below.calls g s0_0 t300 t301 12 t310 t311 t312 w0 _ ?side1 ?side2 A4.out).mono ?_);(case side1 => repeat (first|(with_reducible first|exact HI0.out|apply IsS62.alloc|apply IsS62.drewN|apply IsS62.drew|apply IsS62.set_1|apply IsS62.set_2|refine IsS62.far ?_ NB0_292.out _|refine IsS62.far ?_ NB0_309.out _)|exact HI0.out));(case side2 => repeat (first|(with_reducible first|exact HB.out|apply lA|apply lN|apply lD|refine lS ?_ (IsS62.ge HI0.out)|refine lS ?_ GE292.out|refine lS ?_ GE309.out)|exact HB.out));rintro e w19 ⟨rfl,hi,hb,hk⟩;refine ⟨_,rfl,?_⟩;have n0_:=aM (KeepBut.blk hk (g':=gb292) (o:=.cells #[.slice none 0 0,.slice none 0 0,.string (⟨#[]⟩ : ByteArray)] 35 (0,0)) (by (with_reducible repeat (first|refine bN ?_ _|refine bD ?_|refine bA ?_ _));refine blk_far ?_ NB292_309.out _;(with_reducible repeat (first|refine bN ?_ _|refine bD ?_|refine bA ?_ _));refine blk_far ?_ NB292_309.out _;(with_reducible repeat (first|refine bN ?_ _|refine bD ?_|refine bA ?_ _));refine blk_far ?_ NB292_309.out _;(with_reducible repeat (first|refine bN ?_ _|refine bD ?_|refine bA ?_ _));exact BK292.out) NB292_0.out (by simp));have n1_:=aM (Kd.R_mono (Kd.R_keep (IsS62.apart (show IsS62 w0 _ g s0_0 t300 t301 from by repeat (first|(with_reducible first|exact HI0.out|apply IsS62.alloc|apply IsS62.drewN|apply IsS62.drew|apply IsS62.set_1|apply IsS62.set_2|refine IsS62.far ?_ NB0_292.out _|refine IsS62.far ?_ NB0_309.out _)|exact HI0.out)) (by (with_reducible repeat (first|apply rA|apply rN|apply rD));exact (Kd.R_mono (rF (rF (rF (rY HO295.out BK309.out (by decide)) (fun _ hk => hk.2) _) (fun _ hk => hk.2) _) (fun _ hk => hk.2) _) (fun _ h_ => h_.1))) (by decide)) hk (fun _ h => h.2)) (fun _ h => h.1));have n2_:=aM (Kd.R_mono (Kd.R_keep (IsS62.apart (show IsS62 w0 _ g s0_0 t300 t301 from by repeat (first|(with_reducible first|exact HI0.out|apply IsS62.alloc|apply IsS62.drewN|apply IsS62.drew|apply IsS62.set_1|apply IsS62.set_2|refine IsS62.far ?_ NB0_292.out _|refine IsS62.far ?_ NB0_309.out _)|exact HI0.out)) (by (with_reducible repeat (first|apply rA|apply rN|apply rD));exact (Kd.R_mono (rF (rF (rF (rY HO298.out BK309.out (by decide)) (fun _ hk => hk.2) _) (fun _ hk => hk.2) _) (fun _ hk => hk.2) _) (fun _ h_ => h_.1))) (by decide)) hk (fun _ h => h.2)) (fun _ h => h.1));have n3_:=aM (Kd.R_mono (Kd.R_keep (IsS62.apart (show IsS62 w0 _ g s0_0 t300 t301 from by repeat (first|(with_reducible first|exact HI0.out|apply IsS62.alloc|apply IsS62.drewN|apply IsS62.drew|apply IsS62.set_1|apply IsS62.set_2|refine IsS62.far ?_ NB0_292.out _|refine IsS62.far ?_ NB0_309.out _)|exact HI0.out)) (by (with_reducible repeat (first|apply rA|apply rN|apply rD));exact (Kd.R_mono (rF (rF (rF (rY HO304.out BK309.out (by decide)) (fun _ hk => hk.2) _) (fun _ hk => hk.2) _) (fun _ hk => hk.2) _) (fun _ h_ => h_.1))) (by decide)) hk (fun _ h => h.2)) (fun _ h => h.1));have n4_:=aM (Kd.R_mono (Kd.R_keep (IsS62.apart (show IsS62 w0 _ g s0_0 t300 t301 from by repeat (first|(with_reducible first|exact HI0.out|apply IsS62.alloc|apply IsS62.drewN|apply IsS62.drew|apply IsS62.set_1|apply IsS62.set_2|refine IsS62.far ?_ NB0_292.out _|refine IsS62.far ?_ NB0_309.out _)|exact HI0.out)) (by (with_reducible repeat (first|apply rA|apply rN|apply rD));exact (Kd.R_mono (rF (rF (rF (rY HO307.out BK309.out (by decide)) (fun _ hk => hk.2) _) (fun _ hk => hk.2) _) (fun _ hk => hk.2) _) (fun _ h_ => h_.1))) (by decide)) hk (fun _ h => h.2)) (fun _ h => h.1));have n5_:=aM (KeepBut.blk hk (g':=gb309) (o:=.cells #[.slice Ao14 t302.length co14,.slice Ao18 t305.length co18,.string t308] 35 (0,0)) (by (with_reducible repeat (first|refine bN ?_ _|refine bD ?_|refine bA ?_ _));refine blk_put (cs:=#[.slice Ao14 t302.length co14,.slice Ao18 t305.length co18,.string (⟨#[]⟩ : ByteArray)]) ?_ 2 _ rfl;(with_reducible repeat (first|refine bN ?_ _|refine bD ?_|refine bA ?_ _));refine blk_put (cs:=#[.slice Ao14 t302.length co14,.slice none 0 0,.string (⟨#[]⟩ : ByteArray)]) ?_ 1 _ rfl;(with_reducible repeat (first|refine bN ?_ _|refine bD ?_|refine bA ?_ _));refine blk_put (cs:=#[.slice none 0 0,.slice none 0 0,.string (⟨#[]⟩ : ByteArray)]) ?_ 0 _ rfl;(with_reducible repeat (first|refine bN ?_ _|refine bD ?_|refine bA ?_ _));exact BK309.out) NB309_0.out (by simp));have n6_:=aM (KeepBut.trans (by repeat (first|(with_reducible first|exact HK.out|apply KeepBut.set_|apply keep_drewN|apply keep_drew|apply keep_alloc|refine keep_far ?_ GW292.out _|refine keep_far ?_ GW309.out _)|exact HK.out)) hk (.inl rfl));have n7_:=aM (hb);have n8_:=aM (hi);clear BK292 HO295 HO298 HO304 HO307 BK309 HK HB HI0;have BK292:=n0_;have HO295:=n1_;have HO298:=n2_;have HO304:=n3_;have HO307:=n4_;have BK309:=n5_;have HK:=n6_;have HB:=n7_;have HI0:=n8_;clear n0_ n1_ n2_ n3_ n4_ n5_ n6_ n7_ n8_;(try clear hb);(try clear hb2);(try clear hk);(try clear hi)))
   have n0_:=aM (rD HO295.out)
   have n1_:=aM (rD HO298.out)
   have n2_:=aM (rD HO304.out)
   have n3_:=aM (rD HO307.out)
   have n4_:=aM (bD BK292.out)
   have n5_:=aM (bD BK309.out)
   have n6_:=aM (IsS62.drew HI0.out)
   have n7_:=aM (keep_drew HK.out)
   have n8_:=aM (lD HB.out)
   clear HO295
   clear HO298
   clear HO304
   clear HO307
   clear BK292
   clear BK309
   clear HI0
   clear HK
   clear HB
   have HO295:=n0_
   have HO298:=n1_
   have HO304:=n2_
   have HO307:=n3_
   have BK292:=n4_
   have BK309:=n5_
   have HI0:=n6_
   have HK:=n7_
   have HB:=n8_
   clear n0_ n1_ n2_ n3_ n4_ n5_ n6_ n7_ n8_
   refine start_ (n:=10) (S:=fun w' => w'.cell? ⟨gb309,0,none⟩ = some (.slice Ao14 t302.length co14) ∧ w'.cell? ⟨gb309,1,none⟩ = some (.slice Ao18 t305.length co18) ∧ w'.cell? ⟨gb309,2,none⟩ = some (.string t308)) (ds:=[9]) #[bf,bf,bf,bf,bf,bf,bf,bf,bf,bf] (by kernel_rfl) rfl rfl ⟨(bC BK309.out 0).trans rfl,(bC BK309.out 1).trans rfl,(bC BK309.out 2).trans rfl⟩ (fun hHeld => ?_);refine with_tabW spec_l08Any.tab4 spec_l08Any.bits4 (fun HT_ HW_ => ?_)
   generalize w19.drew = w20 at HO295 HO298 HO304 HO307 BK292 BK309 HI0 HK HB hHeld ⊢
   refine pQ (i:=0) (N:=some 11) (v:=?_) (a':=?_) #[bT,bf,bf,bf,bf,bf,bf,bf,bf,bf] (any_of HT_.out (by kernel_rfl)) ?_ ?_ ?_
   rotate_left
   ·intro w';go_simp;with_reducible rfl
   rotate_left
   ·simp only [Act.put,q_ia8,q_cz8,q_cs8,i64_w,i32_w];rfl
   refine pQ (i:=2) (N:=some 13) (v:=?_) (a':=?_) #[bT,bf,bT,bf,bf,bf,bf,bf,bf,bf] (any_of HT_.out (by kernel_rfl)) ?_ ?_ ?_
   rotate_left
   ·intro w';go_simp;with_reducible rfl
   rotate_left
   ·simp only [Act.put,q_ia8,q_cz8,q_cs8,i64_w,i32_w];rfl
   refine take_ (i:=1) (N:=some 12) (v:=?_) (a':=?_) #[bT,bT,bT,bf,bf,bf,bf,bf,bf,bf] rfl rfl (take_ofW HT_.out HW_.out (by kernel_rfl)) (fun _ _ _ h => h) (Or.inl ⟨by rfl,?_⟩) hHeld ?_ ?_
   rotate_left
   ·rintro w' ⟨s0,s1,s2⟩
    go_simp
    with_reducible rfl
   rotate_left
   ·simp only [Act.put,q_ia8,q_cz8,q_cs8,i64_w,i32_w];rfl
   refine one_ (i:=3) (N:=some 14) #[bT,bT,bT,bT,bf,bf,bf,bf,bf,bf] rfl rfl (one_of HT_.out (by kernel_rfl)) (by decide) (fun K hK => ?_)
   refine Kd.R_lit_step Kd.string _ 9 ?hg (N:=14) ?hd (xs:=([(⟨#[97]⟩ : ByteArray),(⟨#[122,122]⟩ : ByteArray),(⟨#[49]⟩ : ByteArray)] : List ByteArray)) (inner:=[.string (⟨#[97]⟩ : ByteArray),.string (⟨#[122,122]⟩ : ByteArray),.string (⟨#[49]⟩ : ByteArray)]) (ok:=fun _ => True) (okp:=fun _ => True) ?hr ?hp (fun _ hk => hk) trivial (Below.refl _ _) (Nat.le_refl _) (by simp) ?_;(case hd => rfl);(case hg => rfl);(case hr => first|(go_simp;done)|(go_simp;rfl));(case hp => exact (Reps.one (show Kd.M Kd.string _ _ _ (⟨#[97]⟩ : ByteArray) [.string (⟨#[97]⟩ : ByteArray)] from rfl) (Reps.one (show Kd.M Kd.string _ _ _ (⟨#[122,122]⟩ : ByteArray) [.string (⟨#[122,122]⟩ : ByteArray)] from rfl) (Reps.one (show Kd.M Kd.string _ _ _ (⟨#[49]⟩ : ByteArray) [.string (⟨#[49]⟩ : ByteArray)] from rfl) (Reps.none _ _)))))
   intro v314 w21 ho22 hb hg_ hnew_
   clear hg_ hnew_
   (first|rw [← Ny313.out] at ho22|(simp only [Int.reduceToNat] at ho22;rw [← Ny313.out] at ho22))
   have n0_:=aM (rH HO295.out hb)
   have n1_:=aM (rH HO298.out hb)
   have n2_:=aM (rH HO304.out hb)
   have n3_:=aM (rH HO307.out hb)
   have n4_:=aM (rL ho22 (keep_size (w:=w) (g:=g) (row:=none) (by repeat (first|(with_reducible first|exact HK.out|apply KeepBut.set_|apply keep_drewN|apply keep_drew|apply keep_alloc|refine keep_far ?_ GW292.out _|refine keep_far ?_ GW309.out _)|exact HK.out))))
   have n5_:=aM (IsS62.below (by repeat (first|(with_reducible first|exact HI0.out|apply IsS62.alloc|apply IsS62.drewN|apply IsS62.drew|apply IsS62.set_1|apply IsS62.set_2|refine IsS62.far ?_ NB0_292.out _|refine IsS62.far ?_ NB0_309.out _)|exact HI0.out)) hb)
   have n6_:=aM (bH BK292.out hb)
   have n7_:=aM (bH BK309.out hb)
   have n8_:=aM (KeepBut.trans (by repeat (first|(with_reducible first|exact HK.out|apply KeepBut.set_|apply keep_drewN|apply keep_drew|apply keep_alloc|refine keep_far ?_ GW292.out _|refine keep_far ?_ GW309.out _)|exact HK.out)) (KeepBut.of_below hb g none) (.inl rfl))
   have n9_:=aM (lP (by repeat (first|(with_reducible first|exact HB.out|apply lA|apply lN|apply lD|refine lS ?_ (IsS62.ge HI0.out)|refine lS ?_ GE292.out|refine lS ?_ GE309.out)|exact HB.out)) hb)
   clear HO295
   clear HO298
   clear HO304
   clear HO307
   clear HI0
   clear BK292
   clear BK309
   clear HK
   clear HB
   have HO295:=n0_
   have HO298:=n1_
   have HO304:=n2_
   have HO307:=n3_
   have HO315:=n4_
   have HI0:=n5_
   have BK292:=n6_
   have BK309:=n7_
   have HK:=n8_
   have HB:=n9_
   clear n0_ n1_ n2_ n3_ n4_ n5_ n6_ n7_ n8_ n9_
   clear hb ho22
   obtain ⟨Ao23,co23,eo23⟩:=Kd.R_slice HO315.out
   (first|subst eo23|(injection eo23 with f1_ f2_ f3_;have f4_:=f1_.symm;have f5_:=f3_.symm;clear f1_ f2_ f3_;subst f4_;subst f5_))
   refine hK.out _ _ ⟨(bC BK309.out 0).trans rfl,(bC BK309.out 1).trans rfl,(bC BK309.out 2).trans rfl⟩ (fun hHeld => ?_)
   clear hK K
   refine norm_ (a':=?_) ?_ ?_
   rotate_left
   ·show Act.put _ (some 14) _ = _
    simp only [Act.put,q_ia8,q_cz8,q_cs8,i64_w,i32_w]
    rfl
   refine one_ (i:=4) (N:=some 15) #[bT,bT,bT,bT,bT,bf,bf,bf,bf,bf] rfl rfl (one_of HT_.out (by kernel_rfl)) (by decide) (fun K hK => ?_)
   refine goes_ Try.func34 (by kernel_rfl) rfl #[.pointer (some ⟨g,0,none⟩),.slice Ao23 y313.length co23] (by rfl) rfl rfl (by (try simp only [List.map_toArray,List.map_cons,List.map_nil]);first|done|rfl|(simp only [List.length_drop,List.length_take];rfl)) ?_
   with_reducible refine (spec_l01Pick.calls g s0_0 t311 t312 _ _ y313 t316 t317 t318 w0 _ ?side1 ?side2 ?side3 ?side4 ?side5 A6.out).mono ?_
   (case side1 => repeat (first|(with_reducible first|exact HI0.out|apply IsS62.alloc|apply IsS62.drewN|apply IsS62.drew|apply IsS62.set_1|apply IsS62.set_2|refine IsS62.far ?_ NB0_292.out _|refine IsS62.far ?_ NB0_309.out _)|exact HI0.out))
   (case side2 => repeat (first|(with_reducible first|exact HB.out|apply lA|apply lN|apply lD|refine lS ?_ (IsS62.ge HI0.out)|refine lS ?_ GE292.out|refine lS ?_ GE309.out)|exact HB.out))
   (case side3 => repeat (first|exact (rR HO315.out).2.2|(with_reducible first|refine cA ?_ _|refine cN ?_ _|refine cD ?_)))
   (case side4 => exact (rR HO315.out).2.1)
   (case side5 => exact far_slice (IsS62.own_ne HI0.out HO315.out (by decide)))
   rintro e w24 ⟨rfl,hi,hb,hk⟩
   refine ⟨_,rfl,?_⟩
   have n0_:=aM (KeepBut.blk hk (g':=gb292) (o:=.cells #[.slice none 0 0,.slice none 0 0,.string (⟨#[]⟩ : ByteArray)] 35 (0,0)) (by (with_reducible repeat (first|refine bN ?_ _|refine bD ?_|refine bA ?_ _));exact BK292.out) NB292_0.out (by simp))
   have n1_:=aM (Kd.R_mono (Kd.R_keep (IsS62.apart (show IsS62 w0 _ g s0_0 t311 t312 from by repeat (first|(with_reducible first|exact HI0.out|apply IsS62.alloc|apply IsS62.drewN|apply IsS62.drew|apply IsS62.set_1|apply IsS62.set_2|refine IsS62.far ?_ NB0_292.out _|refine IsS62.far ?_ NB0_309.out _)|exact HI0.out)) (rZ HO295.out) (by decide)) hk (fun _ h => h.2)) (fun _ h => h.1))
   have n2_:=aM (Kd.R_mono (Kd.R_keep (IsS62.apart (show IsS62 w0 _ g s0_0 t311 t312 from by repeat (first|(with_reducible first|exact HI0.out|apply IsS62.alloc|apply IsS62.drewN|apply IsS62.drew|apply IsS62.set_1|apply IsS62.set_2|refine IsS62.far ?_ NB0_292.out _|refine IsS62.far ?_ NB0_309.out _)|exact HI0.out)) (rZ HO298.out) (by decide)) hk (fun _ h => h.2)) (fun _ h => h.1))
   have n3_:=aM (Kd.R_mono (Kd.R_keep (IsS62.apart (show IsS62 w0 _ g s0_0 t311 t312 from by repeat (first|(with_reducible first|exact HI0.out|apply IsS62.alloc|apply IsS62.drewN|apply IsS62.drew|apply IsS62.set_1|apply IsS62.set_2|refine IsS62.far ?_ NB0_292.out _|refine IsS62.far ?_ NB0_309.out _)|exact HI0.out)) (rZ HO304.out) (by decide)) hk (fun _ h => h.2)) (fun _ h => h.1))
   have n4_:=aM (Kd.R_mono (Kd.R_keep (IsS62.apart (show IsS62 w0 _ g s0_0 t311 t312 from by repeat (first|(with_reducible first|exact HI0.out|apply IsS62.alloc|apply IsS62.drewN|apply IsS62.drew|apply IsS62.set_1|apply IsS62.set_2|refine IsS62.far ?_ NB0_292.out _|refine IsS62.far ?_ NB0_309.out _)|exact HI0.out)) (rZ HO307.out) (by decide)) hk (fun _ h => h.2)) (fun _ h => h.1))
   have n5_:=aM (KeepBut.blk hk (g':=gb309) (o:=.cells #[.slice Ao14 t302.length co14,.slice Ao18 t305.length co18,.string t308] 35 (0,0)) (by (with_reducible repeat (first|refine bN ?_ _|refine bD ?_|refine bA ?_ _));exact BK309.out) NB309_0.out (by simp))
   have n6_:=aM (Kd.R_mono (Kd.R_keep (IsS62.apart (show IsS62 w0 _ g s0_0 t311 t312 from by repeat (first|(with_reducible first|exact HI0.out|apply IsS62.alloc|apply IsS62.drewN|apply IsS62.drew|apply IsS62.set_1|apply IsS62.set_2|refine IsS62.far ?_ NB0_292.out _|refine IsS62.far ?_ NB0_309.out _)|exact HI0.out)) (rZ HO315.out) (by decide)) hk (fun _ h => h.2)) (fun _ h => h.1))
   have n7_:=aM (KeepBut.trans (by repeat (first|(with_reducible first|exact HK.out|apply KeepBut.set_|apply keep_drewN|apply keep_drew|apply keep_alloc|refine keep_far ?_ GW292.out _|refine keep_far ?_ GW309.out _)|exact HK.out)) hk (.inl rfl))
   have n8_:=aM (hb)
   have n9_:=aM (hi)
   clear BK292
   clear HO295
   clear HO298
   clear HO304
   clear HO307
   clear BK309
   clear HO315
   clear HK
   clear HB
   clear HI0
   have BK292:=n0_
   have HO295:=n1_
   have HO298:=n2_
   have HO304:=n3_
   have HO307:=n4_
   have BK309:=n5_
   have HO315:=n6_
   have HK:=n7_
   have HB:=n8_
   have HI0:=n9_
   clear n0_ n1_ n2_ n3_ n4_ n5_ n6_ n7_ n8_ n9_
   (try clear hb)
   (try clear hb2)
   (try clear hk)
   (try clear hi)
   refine hK.out _ _ ⟨(bC BK309.out 0).trans rfl,(bC BK309.out 1).trans rfl,(bC BK309.out 2).trans rfl⟩ (fun hHeld => ?_)
   clear hK K
   refine norm_ (a':=?_) ?_ ?_
   rotate_left
   ·show Act.put _ (some 15) _ = _
    simp only [Act.put,q_ia8,q_cz8,q_cs8,i64_w,i32_w]
    rfl
   refine pQ (i:=5) (N:=some 16) (v:=?_) (a':=?_) #[bT,bT,bT,bT,bT,bT,bf,bf,bf,bf] (any_of HT_.out (by kernel_rfl)) ?_ ?_ ?_
   rotate_left
   ·intro w';go_simp;with_reducible rfl
   rotate_left
   ·simp only [Act.put,q_ia8,q_cz8,q_cs8,i64_w,i32_w];rfl
   refine one_ (i:=6) (N:=some 17) #[bT,bT,bT,bT,bT,bT,bT,bf,bf,bf] rfl rfl (one_of HT_.out (by kernel_rfl)) (by decide) (fun K hK => ?_)
   refine value_ (w1:=?_) (v:=?_) (by rfl) rfl ?_ ?_
   rotate_left 2
   ·go_simp
    constructor
    ·rfl
    ·rfl
   refine hK.out _ _ ⟨(bC (bA BK309.out _) 0).trans rfl,(bC (bA BK309.out _) 1).trans rfl,(bC (bA BK309.out _) 2).trans rfl⟩ (fun hHeld => ?_)
   clear hK K
   refine norm_ (a':=?_) ?_ ?_
   rotate_left
   ·show Act.put _ (some 17) _ = _
    simp only [Act.put,q_ia8,q_cz8,q_cs8,i64_w,i32_w]
    rfl
   refine one_ (i:=7) (N:=some 18) #[bT,bT,bT,bT,bT,bT,bT,bT,bf,bf] rfl rfl (one_of HT_.out (by kernel_rfl)) (by decide) (fun K hK => ?_)
   refine Kd.R_append_step k59 w.heap.size (by rfl) (.tmp 12) (.tmp 17) 32 59 (.agg #[(.string ⟨#[]⟩),(.string ⟨#[]⟩)]) 32 rfl Try.underlying32 info59 rfl (by decide) (by omega) (.slice Ao14 t302.length co14) t302 (⟨t316,(⟨#[]⟩ : ByteArray)⟩ : S59) [.string t316,.string (⟨#[]⟩ : ByteArray)] (fun k_ => some k_ ≠ (.slice Ao10 t293.length co10 : Value).ownBlock) (fun _ => False) rfl rfl ?aP (fun _ hk => hk.elim) ?aF ?aO (Below.refl _ _) ?aS ?aL ?_
   (case aP => exact k59_mkM _ _ _ (⟨t316,(⟨#[]⟩ : ByteArray)⟩ : S59))
   (case aF => exact (fun k_ hk => Kd.fresh' (rT (rZ HO295.out)) k_ hk))
   (case aO => exact (by (with_reducible repeat (first|apply rA|apply rN|apply rD));exact Kd.R_mono HO304.out (fun _ hk => hk.2)))
   (case aS => exact (keep_size (w:=w) (g:=g) (row:=none) (by repeat (first|(with_reducible first|exact HK.out|apply KeepBut.set_|apply keep_drewN|apply keep_drew|apply keep_alloc|refine keep_far ?_ GW292.out _|refine keep_far ?_ GW309.out _)|exact HK.out))))
   (case aL => have:=LMc7.out;omega)
   intro v320 w25 ho hb hg hat
   rw [← Ny319.out] at ho
   have n0_:=aM (IsS62.grown (by repeat (first|(with_reducible first|exact HI0.out|apply IsS62.alloc|apply IsS62.drewN|apply IsS62.drew|apply IsS62.set_1|apply IsS62.set_2|refine IsS62.far ?_ NB0_292.out _|refine IsS62.far ?_ NB0_309.out _)|exact HI0.out)) hg (IsS62.own_ne HI0.out HO304.out (by decide)))
   have n1_:=aM (blk_grown (g:=gb292) (o:=.cells #[.slice none 0 0,.slice none 0 0,.string (⟨#[]⟩ : ByteArray)] 35 (0,0)) (by (with_reducible repeat (first|refine bN ?_ _|refine bD ?_|refine bA ?_ _));exact BK292.out) hg (Kd.R_ne HO304.out BK292.out (by decide)))
   have n2_:=aM (Kd.R_after (ok:=(fun _ => True)) (rZ HO295.out) hg hat)
   have n3_:=aM (Kd.R_over' (rZ HO298.out) (Kd.R_typed (rZ HO304.out)) (by decide) hg)
   have n4_:=aM (Kd.R_over' (rZ HO307.out) (Kd.R_typed (rZ HO304.out)) (by decide) hg)
   have n5_:=aM (blk_grown (g:=gb309) (o:=.cells #[.slice Ao14 t302.length co14,.slice Ao18 t305.length co18,.string t308] 35 (0,0)) (by (with_reducible repeat (first|refine bN ?_ _|refine bD ?_|refine bA ?_ _));exact BK309.out) hg (Kd.R_ne HO304.out BK309.out (by decide)))
   have n6_:=aM (Kd.R_over' (rZ HO315.out) (Kd.R_typed (rZ HO304.out)) (by decide) hg)
   have n7_:=aM (below_weaken (by repeat (first|(with_reducible first|exact HB.out|apply lA|apply lN|apply lD|refine lS ?_ (IsS62.ge HI0.out)|refine lS ?_ GE292.out|refine lS ?_ GE309.out)|exact HB.out)) HL.out hb)
   have n8_:=aM (KeepBut.trans (by repeat (first|(with_reducible first|exact HK.out|apply KeepBut.set_|apply keep_drewN|apply keep_drew|apply keep_alloc|refine keep_far ?_ GW292.out _|refine keep_far ?_ GW309.out _)|exact HK.out)) (KeepBut.of_grown hg g) (Kd.R_base2 HO304.out))
   have n9_:=aM (ho)
   clear HI0
   clear BK292
   clear HO295
   clear HO298
   clear HO307
   clear BK309
   clear HO315
   clear HB
   clear HK
   clear HO304
   have HI0:=n0_
   have BK292:=n1_
   have HO295:=n2_
   have HO298:=n3_
   have HO307:=n4_
   have BK309:=n5_
   have HO315:=n6_
   have HB:=n7_
   have HK:=n8_
   have HO321:=n9_
   clear n0_ n1_ n2_ n3_ n4_ n5_ n6_ n7_ n8_ n9_
   clear ho hb hg hat
   obtain ⟨Ao26,co26,eo26⟩:=Kd.R_slice HO321.out
   (first|subst eo26|(injection eo26 with f1_ f2_ f3_;have f4_:=f1_.symm;have f5_:=f3_.symm;clear f1_ f2_ f3_;subst f4_;subst f5_))
   refine hK.out _ _ ⟨(bC BK309.out 0).trans rfl,(bC BK309.out 1).trans rfl,(bC BK309.out 2).trans rfl⟩ (fun hHeld => ?_)
   clear hK K
   refine norm_ (a':=?_) ?_ ?_
   rotate_left
   ·show Act.put _ (some 18) _ = _
    simp only [Act.put,q_ia8,q_cz8,q_cs8,i64_w,i32_w]
    rfl
   refine pQ (i:=8) (N:=some 19) (v:=?_) (a':=?_) #[bT,bT,bT,bT,bT,bT,bT,bT,bT,bf] (any_of HT_.out (by kernel_rfl)) ?_ ?_ ?_
   rotate_left
   ·intro w';go_simp;with_reducible rfl
   rotate_left
   ·simp only [Act.put,q_ia8,q_cz8,q_cs8,i64_w,i32_w];rfl
   refine last_ (i:=9) (N:=none) #[bT,bT,bT,bT,bT,bT,bT,bT,bT,bT] rfl rfl (one_of HT_.out (by kernel_rfl)) (by decide) (fun K hK => ?_)
   have hs27 : w25.cell? ⟨gb309,0,none⟩ = some (.slice Ao14 t302.length co14):=(bC BK309.out 0).trans rfl
   have hfs27:=bF BK309.out 0
   have hns27_0:=NB292_309.out
   have hms27_0:=NB309_292.out
   refine skip_ (w1:=?_) (by rfl) rfl ?_ ?_
   rotate_left
   ·go_simp
    rfl
   refine hK.out _ _ ?_
   clear hK K
   refine done_ (done_of HT_.out (by kernel_rfl)) ?_
   obtain ⟨⟨hcz28_0,hcz28_1,hcz28_2⟩,hfz28_0,hfz28_1,hfz28_2⟩:=bC3 BK309.out
   have hnb29:=NB292_0.out
   have hnc29:=NB0_292.out
   obtain ⟨⟨hcz30_0,hcz30_1,hcz30_2⟩,hfz30_0,hfz30_1,hfz30_2⟩:=bC3 BK292.out
   try go_wp2
   refine bodyPost_ret (results_cell_row rfl _ _ gb292 35 #[.slice Ao26 y319.length co26,.slice Ao18 t305.length co18,.string t308] (0,0) _ rfl (by (with_reducible repeat (first|refine bN ?_ _|refine bD ?_|refine bA ?_ _));refine blk_put (cs:=#[.slice Ao26 y319.length co26,.slice Ao18 t305.length co18,.string (⟨#[]⟩ : ByteArray)]) ?_ 2 _ rfl;(with_reducible repeat (first|refine bN ?_ _|refine bD ?_|refine bA ?_ _));refine blk_put (cs:=#[.slice Ao26 y319.length co26,.slice none 0 0,.string (⟨#[]⟩ : ByteArray)]) ?_ 1 _ rfl;(with_reducible repeat (first|refine bN ?_ _|refine bD ?_|refine bA ?_ _));refine blk_put (cs:=#[.slice none 0 0,.slice none 0 0,.string (⟨#[]⟩ : ByteArray)]) ?_ 0 _ rfl;(with_reducible repeat (first|refine bN ?_ _|refine bD ?_|refine bA ?_ _));refine blk_far ?_ NB292_309.out _;(with_reducible repeat (first|refine bN ?_ _|refine bD ?_|refine bA ?_ _));exact BK292.out) Try.underlying35 rfl (by kernel_rfl)) rfl ?_
   exact ⟨_,_,by first|rfl|(simp [errW_none,errW_some] <;> rfl)|(simp [*,errW_none,errW_some] <;> rfl),by (with_reducible repeat (first|apply rA|apply rN|apply rD));exact Kd.R_mono (rF (rF (rF (rF (rY (rY HO321.out BK309.out (by decide)) BK292.out (by decide)) (fun _ hk => hk.1.2) _) (fun _ hk => hk.2) _) (fun _ hk => hk.2) _) (fun _ hk => hk.2) _) (fun _ hk => trivial),by (with_reducible repeat (first|apply rA|apply rN|apply rD));exact Kd.R_mono (rF (rF (rF (rF (rY (rY HO307.out BK309.out (by decide)) BK292.out (by decide)) (fun _ hk => hk.1.2) _) (fun _ hk => hk.2) _) (fun _ hk => hk.2) _) (fun _ hk => hk.2) _) (fun _ hk => trivial),by repeat (first|(with_reducible first|exact HI0.out|apply IsS62.alloc|apply IsS62.drewN|apply IsS62.drew|apply IsS62.set_1|apply IsS62.set_2|refine IsS62.far ?_ NB0_292.out _|refine IsS62.far ?_ NB0_309.out _)|exact HI0.out),by repeat (first|(with_reducible first|exact HB.out|apply lA|apply lN|apply lD|refine lS ?_ (IsS62.ge HI0.out)|refine lS ?_ GE292.out|refine lS ?_ GE309.out)|exact HB.out),by repeat (first|(with_reducible first|exact HK.out|apply KeepBut.set_|apply keep_drewN|apply keep_drew|apply keep_alloc|refine keep_far ?_ GW292.out _|refine keep_far ?_ GW309.out _)|exact HK.out)⟩
  ·rw [if_neg c7] at H
   exact absurd H (by simp)
 ·rw [if_neg c5] at H
  have c5b0 : (t310 == 0) = false:=beq_eq_false_iff_ne.mpr c5
  have c5b1 : (t310 != 0) = true:=bne_iff_ne.mpr c5
  by_cases c31 : t310 = 1
  ·rw [if_pos c31] at H
   have c31b0 : (t310 == 1) = true:=beq_iff_eq.mpr c31
   have c31b1 : (t310 != 1) = false:=bne_eq_false_iff_eq.mpr c31
   clear c31
   obtain ⟨y322,hy322⟩ : ∃ y_ : List ByteArray,y_ = (([(⟨#[97]⟩ : ByteArray),(⟨#[122,122]⟩ : ByteArray),(⟨#[]⟩ : ByteArray)] : List ByteArray)):=⟨_,rfl⟩
   replace H : ((spec_l01Pick.f s0_0 t311 t312 y322).bind fun bt325 => (if t305.length < 2932031007402 then (some (t302,(t305 ++ [(⟨bt325.1,(⟨#[]⟩ : ByteArray),(⟨#[]⟩ : ByteArray)⟩ : S39)]),t308,bt325.2.1,bt325.2.2)) else (none))) = some (r1,r2,r3,r4,r5):=by first|(rw [hy322];with_reducible exact H)|(have H2_:=(Option.bind_some _ _).symm.trans H;rw [hy322];with_reducible exact H2_)|(have H2_:=(Option.bind_some _ _).symm.trans H;with_reducible exact H2_)|with_reducible exact H|(rw [hy322];exact H)|exact H
   have Ny322:=aM hy322
   clear hy322
   replace H:=Option.bind_eq_some_iff.mp H
   obtain ⟨⟨t325,t326,t327⟩,A320,H⟩:=H
   replace H : (if t305.length < 2932031007402 then (some (t302,(t305 ++ [(⟨t325,(⟨#[]⟩ : ByteArray),(⟨#[]⟩ : ByteArray)⟩ : S39)]),t308,t326,t327)) else (none)) = some (r1,r2,r3,r4,r5):=H
   have A32:=aM A320
   clear A320
   by_cases c33 : t305.length < 2932031007402
   ·rw [if_pos c33] at H
    have LMc33:=aM c33
    clear c33
    obtain ⟨y328,hy328⟩ : ∃ y_ : List (S39),y_ = (t305 ++ [(⟨t325,(⟨#[]⟩ : ByteArray),(⟨#[]⟩ : ByteArray)⟩ : S39)]):=⟨_,rfl⟩
    replace H : (some (t302,y328,t308,t326,t327)) = some (r1,r2,r3,r4,r5):=by first|(rw [hy328];with_reducible exact H)|(have H2_:=(Option.bind_some _ _).symm.trans H;rw [hy328];with_reducible exact H2_)|(have H2_:=(Option.bind_some _ _).symm.trans H;with_reducible exact H2_)|with_reducible exact H|(rw [hy328];exact H)|exact H
    have Ny328:=aM hy328
    clear hy328
    simp only [Option.some.injEq,Prod.mk.injEq] at H
    obtain ⟨rfl,rfl,rfl,rfl,rfl⟩:=H
    go_enter Try.func32,Try.ntmps32
    try go_wp2_with (first|((with_reducible refine gate_dst (N:=2) rfl ?_);refine box_event ?hg (N:=2) ?hd (cs:=#[.slice none 0 0,.slice none 0 0,.string (⟨#[]⟩ : ByteArray)]) (t:=35) ?hr ?_;(case hd => rfl);(case hg => rfl);(case hr => first|(go_simp;done)|(go_simp;rfl));intro gb292 hg w34 hbox hb;have n0_:=aM (IsS62.below (by repeat (first|(with_reducible first|exact HI0.out|apply IsS62.alloc|apply IsS62.drewN|apply IsS62.drew|apply IsS62.set_1|apply IsS62.set_2)|exact HI0.out)) hb);have n1_:=aM (KeepBut.trans (by repeat (first|(with_reducible first|exact HK.out|apply KeepBut.set_|apply keep_drewN|apply keep_drew|apply keep_alloc)|exact HK.out)) (KeepBut.of_below hb g none) (.inl rfl));have n2_:=aM (lP (by repeat (first|(with_reducible first|exact HB.out|apply lA|apply lN|apply lD|refine lS ?_ (IsS62.ge HI0.out))|exact HB.out)) hb);have n3_:=aM (hbox);have n4_:=aM ((by rw [hg];exact (keep_size (w:=w) (g:=g) (row:=none) (by repeat (first|(with_reducible first|exact HK.out|apply KeepBut.set_|apply keep_drewN|apply keep_drew|apply keep_alloc)|exact HK.out))) : w.heap.size ≤ gb292));have n5_:=aM ((Nat.le_trans HW0.out (by rw [hg];exact (keep_size (w:=w) (g:=g) (row:=none) (by repeat (first|(with_reducible first|exact HK.out|apply KeepBut.set_|apply keep_drewN|apply keep_drew|apply keep_alloc)|exact HK.out))) : w.heap.size ≤ gb292) : w0.heap.size ≤ gb292));have n6_:=aM ((by rw [hg];exact Nat.ne_of_lt (IsS62.lt (show IsS62 w0 _ g s0_0 s0_1 s0_2 from by repeat (first|(with_reducible first|exact HI0.out|apply IsS62.alloc|apply IsS62.drewN|apply IsS62.drew|apply IsS62.set_1|apply IsS62.set_2)|exact HI0.out))) : g ≠ gb292));have n7_:=aM ((by rw [hg];exact Nat.ne_of_gt (IsS62.lt (show IsS62 w0 _ g s0_0 s0_1 s0_2 from by repeat (first|(with_reducible first|exact HI0.out|apply IsS62.alloc|apply IsS62.drewN|apply IsS62.drew|apply IsS62.set_1|apply IsS62.set_2)|exact HI0.out))) : gb292 ≠ g));clear HI0 HK HB;have HI0:=n0_;have HK:=n1_;have HB:=n2_;have BK292:=n3_;have GW292:=n4_;have GE292:=n5_;have NB0_292:=n6_;have NB292_0:=n7_;clear n0_ n1_ n2_ n3_ n4_ n5_ n6_ n7_ hb hbox hg)|((with_reducible refine gate_callee (f:=27) rfl ?_);refine goesL_ (some 5) rfl rfl Try.func27 (by kernel_rfl) rfl #[.pointer (some ⟨g,0,none⟩)] rfl (by (try simp only [List.map_toArray,List.map_cons,List.map_nil]);first|done|rfl|(simp only [List.length_drop,List.length_take];rfl)) ?_;(with_reducible refine (spec_l08Store.calls k g s0_0 s0_1 s0_2 t293 t296 t299 t300 t301 w0 _ ?side1 ?side2 A2.out).mono ?_);(case side1 => repeat (first|(with_reducible first|exact HI0.out|apply IsS62.alloc|apply IsS62.drewN|apply IsS62.drew|apply IsS62.set_1|apply IsS62.set_2|refine IsS62.far ?_ NB0_292.out _)|exact HI0.out));(case side2 => repeat (first|(with_reducible first|exact HB.out|apply lA|apply lN|apply lD|refine lS ?_ (IsS62.ge HI0.out)|refine lS ?_ GE292.out)|exact HB.out));rintro e w35 ⟨v294,v297,rfl,ho0,ho1,hi,hb,hk⟩;refine ⟨_,rfl,?_⟩;have n0_:=aM (KeepBut.blk hk (g':=gb292) (o:=.cells #[.slice none 0 0,.slice none 0 0,.string (⟨#[]⟩ : ByteArray)] 35 (0,0)) (by (with_reducible repeat (first|refine bN ?_ _|refine bD ?_|refine bA ?_ _));exact BK292.out) NB292_0.out (by simp));have n1_:=aM (rL ho0 (keep_size (w:=w) (g:=g) (row:=none) (by repeat (first|(with_reducible first|exact HK.out|apply KeepBut.set_|apply keep_drewN|apply keep_drew|apply keep_alloc|refine keep_far ?_ GW292.out _)|exact HK.out))));have n2_:=aM (rL ho1 (keep_size (w:=w) (g:=g) (row:=none) (by repeat (first|(with_reducible first|exact HK.out|apply KeepBut.set_|apply keep_drewN|apply keep_drew|apply keep_alloc|refine keep_far ?_ GW292.out _)|exact HK.out))));have n3_:=aM (KeepBut.trans (by repeat (first|(with_reducible first|exact HK.out|apply KeepBut.set_|apply keep_drewN|apply keep_drew|apply keep_alloc|refine keep_far ?_ GW292.out _)|exact HK.out)) hk (.inl rfl));have n4_:=aM (hb);have n5_:=aM (hi);clear BK292 HK HB HI0;have BK292:=n0_;have HO295:=n1_;have HO298:=n2_;have HK:=n3_;have HB:=n4_;have HI0:=n5_;clear n0_ n1_ n2_ n3_ n4_ n5_;(try clear hb);(try clear hb2);(try clear hk);(try clear hi);(try clear ho0);(try clear ho1);obtain ⟨Ao36,co36,eo36⟩:=Kd.R_slice HO295.out;subst eo36;obtain ⟨Ao37,co37,eo37⟩:=Kd.R_slice HO298.out;subst eo37)|((with_reducible refine gate_callee (f:=35) rfl ?_);refine goesL_ (some 6) rfl rfl Try.func35 (by kernel_rfl) rfl #[.agg #[.slice Ao36 t293.length co36,.slice Ao37 t296.length co37,.string t299]] rfl (by (try simp only [List.map_toArray,List.map_cons,List.map_nil]);first|done|rfl|(simp only [List.length_drop,List.length_take];rfl)) ?_;(with_reducible refine (spec_l08Copy.calls _ _ t293 _ _ t296 t299 t302 t305 t308 _ ?side1 ?side2 ?side3 ?side4 A3.out).mono ?_);(case side1 => repeat (first|exact (rR HO295.out).2.2|(with_reducible first|refine cA ?_ _|refine cN ?_ _|refine cD ?_)));(case side2 => exact (rR HO295.out).2.1);(case side3 => repeat (first|exact (rR HO298.out).2.2|(with_reducible first|refine cA ?_ _|refine cN ?_ _|refine cD ?_)));(case side4 => exact (rR HO298.out).2.1);rintro e w38 ⟨v303,v306,rfl,ho0,ho1,hb⟩;refine ⟨_,rfl,?_⟩;have n0_:=aM (rE (rZ HO295.out) (rS ho0) hb);have n1_:=aM (rE (rZ HO298.out) (rS ho1) hb);have n2_:=aM (rL (rW ho0 (rT (rZ HO295.out))) (keep_size (w:=w) (g:=g) (row:=none) (by repeat (first|(with_reducible first|exact HK.out|apply KeepBut.set_|apply keep_drewN|apply keep_drew|apply keep_alloc|refine keep_far ?_ GW292.out _)|exact HK.out))));have n3_:=aM (rL (rW ho1 (rT (rZ HO298.out))) (keep_size (w:=w) (g:=g) (row:=none) (by repeat (first|(with_reducible first|exact HK.out|apply KeepBut.set_|apply keep_drewN|apply keep_drew|apply keep_alloc|refine keep_far ?_ GW292.out _)|exact HK.out))));have n4_:=aM (IsS62.below (by repeat (first|(with_reducible first|exact HI0.out|apply IsS62.alloc|apply IsS62.drewN|apply IsS62.drew|apply IsS62.set_1|apply IsS62.set_2|refine IsS62.far ?_ NB0_292.out _)|exact HI0.out)) hb);have n5_:=aM (bH BK292.out hb);have n6_:=aM (KeepBut.trans (by repeat (first|(with_reducible first|exact HK.out|apply KeepBut.set_|apply keep_drewN|apply keep_drew|apply keep_alloc|refine keep_far ?_ GW292.out _)|exact HK.out)) (KeepBut.of_below hb g none) (.inl rfl));have n7_:=aM (lP (by repeat (first|(with_reducible first|exact HB.out|apply lA|apply lN|apply lD|refine lS ?_ (IsS62.ge HI0.out)|refine lS ?_ GE292.out)|exact HB.out)) hb);clear HO295 HO298 HI0 BK292 HK HB;have HO295:=n0_;have HO298:=n1_;have HO304:=n2_;have HO307:=n3_;have HI0:=n4_;have BK292:=n5_;have HK:=n6_;have HB:=n7_;clear n0_ n1_ n2_ n3_ n4_ n5_ n6_ n7_;(try clear hb);(try clear hb2);(try clear hk);(try clear hi);(try clear ho0);(try clear ho1))|((with_reducible refine gate_dst (N:=3) rfl ?_);refine box_event ?hg (N:=3) ?hd (cs:=#[.slice none 0 0,.slice none 0 0,.string (⟨#[]⟩ : ByteArray)]) (t:=35) ?hr ?_;(case hd => rfl);(case hg => rfl);(case hr => first|(go_simp;done)|(go_simp;rfl));intro gb309 hg w39 hbox hb;have n0_:=aM (rH HO295.out hb);have n1_:=aM (rH HO298.out hb);have n2_:=aM (rH HO304.out hb);have n3_:=aM (rH HO307.out hb);have n4_:=aM (IsS62.below (by repeat (first|(with_reducible first|exact HI0.out|apply IsS62.alloc|apply IsS62.drewN|apply IsS62.drew|apply IsS62.set_1|apply IsS62.set_2|refine IsS62.far ?_ NB0_292.out _)|exact HI0.out)) hb);have n5_:=aM (bH BK292.out hb);have n6_:=aM (KeepBut.trans (by repeat (first|(with_reducible first|exact HK.out|apply KeepBut.set_|apply keep_drewN|apply keep_drew|apply keep_alloc|refine keep_far ?_ GW292.out _)|exact HK.out)) (KeepBut.of_below hb g none) (.inl rfl));have n7_:=aM (lP (by repeat (first|(with_reducible first|exact HB.out|apply lA|apply lN|apply lD|refine lS ?_ (IsS62.ge HI0.out)|refine lS ?_ GE292.out)|exact HB.out)) hb);have n8_:=aM (hbox);have n9_:=aM ((by rw [hg];exact (keep_size (w:=w) (g:=g) (row:=none) (by repeat (first|(with_reducible first|exact HK.out|apply KeepBut.set_|apply keep_drewN|apply keep_drew|apply keep_alloc|refine keep_far ?_ GW292.out _)|exact HK.out))) : w.heap.size ≤ gb309));have n10_:=aM ((Nat.le_trans HW0.out (by rw [hg];exact (keep_size (w:=w) (g:=g) (row:=none) (by repeat (first|(with_reducible first|exact HK.out|apply KeepBut.set_|apply keep_drewN|apply keep_drew|apply keep_alloc|refine keep_far ?_ GW292.out _)|exact HK.out))) : w.heap.size ≤ gb309) : w0.heap.size ≤ gb309));have n11_:=aM ((nL hg BK292.out : gb292 ≠ gb309));have n12_:=aM ((nG hg BK292.out : gb309 ≠ gb292));have n13_:=aM ((by rw [hg];exact Nat.ne_of_lt (IsS62.lt (show IsS62 w0 _ g s0_0 t300 t301 from by repeat (first|(with_reducible first|exact HI0.out|apply IsS62.alloc|apply IsS62.drewN|apply IsS62.drew|apply IsS62.set_1|apply IsS62.set_2|refine IsS62.far ?_ NB0_292.out _)|exact HI0.out))) : g ≠ gb309));have n14_:=aM ((by rw [hg];exact Nat.ne_of_gt (IsS62.lt (show IsS62 w0 _ g s0_0 t300 t301 from by repeat (first|(with_reducible first|exact HI0.out|apply IsS62.alloc|apply IsS62.drewN|apply IsS62.drew|apply IsS62.set_1|apply IsS62.set_2|refine IsS62.far ?_ NB0_292.out _)|exact HI0.out))) : gb309 ≠ g));clear HO295 HO298 HO304 HO307 HI0 BK292 HK HB;have HO295:=n0_;have HO298:=n1_;have HO304:=n2_;have HO307:=n3_;have HI0:=n4_;have BK292:=n5_;have HK:=n6_;have HB:=n7_;have BK309:=n8_;have GW309:=n9_;have GE309:=n10_;have NB292_309:=n11_;have NB309_292:=n12_;have NB0_309:=n13_;have NB309_0:=n14_;clear n0_ n1_ n2_ n3_ n4_ n5_ n6_ n7_ n8_ n9_ n10_ n11_ n12_ n13_ n14_ hb hbox hg;obtain ⟨Ao40,co40,eo40⟩:=Kd.R_slice HO304.out;subst eo40;have hnb41:=NB309_292.out;have hnc41:=NB292_309.out;have hnb42:=NB309_0.out;have hnc42:=NB0_309.out;obtain ⟨⟨hcz43_0,hcz43_1,hcz43_2⟩,hfz43_0,hfz43_1,hfz43_2⟩:=bC3 BK309.out;obtain ⟨Ao44,co44,eo44⟩:=Kd.R_slice HO307.out;subst eo44)|((with_reducible refine gate_callee (f:=24) rfl ?_);refine goesL_ (some 8) rfl rfl Try.func24 (by kernel_rfl) rfl #[.pointer (some ⟨g,0,none⟩),.int .i64 12] rfl (by (try simp only [List.map_toArray,List.map_cons,List.map_nil]);first|done|rfl|(simp only [List.length_drop,List.length_take];rfl)) ?_;(with_reducible refine (spec_l01Below.calls g s0_0 t300 t301 12 t310 t311 t312 w0 _ ?side1 ?side2 A4.out).mono ?_);(case side1 => repeat (first|(with_reducible first|exact HI0.out|apply IsS62.alloc|apply IsS62.drewN|apply IsS62.drew|apply IsS62.set_1|apply IsS62.set_2|refine IsS62.far ?_ NB0_292.out _|refine IsS62.far ?_ NB0_309.out _)|exact HI0.out));(case side2 => repeat (first|(with_reducible first|exact HB.out|apply lA|apply lN|apply lD|refine lS ?_ (IsS62.ge HI0.out)|refine lS ?_ GE292.out|refine lS ?_ GE309.out)|exact HB.out));rintro e w45 ⟨rfl,hi,hb,hk⟩;refine ⟨_,rfl,?_⟩;have n0_:=aM (KeepBut.blk hk (g':=gb292) (o:=.cells #[.slice none 0 0,.slice none 0 0,.string (⟨#[]⟩ : ByteArray)] 35 (0,0)) (by (with_reducible repeat (first|refine bN ?_ _|refine bD ?_|refine bA ?_ _));refine blk_far ?_ NB292_309.out _;(with_reducible repeat (first|refine bN ?_ _|refine bD ?_|refine bA ?_ _));refine blk_far ?_ NB292_309.out _;(with_reducible repeat (first|refine bN ?_ _|refine bD ?_|refine bA ?_ _));refine blk_far ?_ NB292_309.out _;(with_reducible repeat (first|refine bN ?_ _|refine bD ?_|refine bA ?_ _));exact BK292.out) NB292_0.out (by simp));have n1_:=aM (Kd.R_mono (Kd.R_keep (IsS62.apart (show IsS62 w0 _ g s0_0 t300 t301 from by repeat (first|(with_reducible first|exact HI0.out|apply IsS62.alloc|apply IsS62.drewN|apply IsS62.drew|apply IsS62.set_1|apply IsS62.set_2|refine IsS62.far ?_ NB0_292.out _|refine IsS62.far ?_ NB0_309.out _)|exact HI0.out)) (by (with_reducible repeat (first|apply rA|apply rN|apply rD));exact (Kd.R_mono (rF (rF (rF (rY HO295.out BK309.out (by decide)) (fun _ hk => hk.2) _) (fun _ hk => hk.2) _) (fun _ hk => hk.2) _) (fun _ h_ => h_.1))) (by decide)) hk (fun _ h => h.2)) (fun _ h => h.1));have n2_:=aM (Kd.R_mono (Kd.R_keep (IsS62.apart (show IsS62 w0 _ g s0_0 t300 t301 from by repeat (first|(with_reducible first|exact HI0.out|apply IsS62.alloc|apply IsS62.drewN|apply IsS62.drew|apply IsS62.set_1|apply IsS62.set_2|refine IsS62.far ?_ NB0_292.out _|refine IsS62.far ?_ NB0_309.out _)|exact HI0.out)) (by (with_reducible repeat (first|apply rA|apply rN|apply rD));exact (Kd.R_mono (rF (rF (rF (rY HO298.out BK309.out (by decide)) (fun _ hk => hk.2) _) (fun _ hk => hk.2) _) (fun _ hk => hk.2) _) (fun _ h_ => h_.1))) (by decide)) hk (fun _ h => h.2)) (fun _ h => h.1));have n3_:=aM (Kd.R_mono (Kd.R_keep (IsS62.apart (show IsS62 w0 _ g s0_0 t300 t301 from by repeat (first|(with_reducible first|exact HI0.out|apply IsS62.alloc|apply IsS62.drewN|apply IsS62.drew|apply IsS62.set_1|apply IsS62.set_2|refine IsS62.far ?_ NB0_292.out _|refine IsS62.far ?_ NB0_309.out _)|exact HI0.out)) (by (with_reducible repeat (first|apply rA|apply rN|apply rD));exact (Kd.R_mono (rF (rF (rF (rY HO304.out BK309.out (by decide)) (fun _ hk => hk.2) _) (fun _ hk => hk.2) _) (fun _ hk => hk.2) _) (fun _ h_ => h_.1))) (by decide)) hk (fun _ h => h.2)) (fun _ h => h.1));have n4_:=aM (Kd.R_mono (Kd.R_keep (IsS62.apart (show IsS62 w0 _ g s0_0 t300 t301 from by repeat (first|(with_reducible first|exact HI0.out|apply IsS62.alloc|apply IsS62.drewN|apply IsS62.drew|apply IsS62.set_1|apply IsS62.set_2|refine IsS62.far ?_ NB0_292.out _|refine IsS62.far ?_ NB0_309.out _)|exact HI0.out)) (by (with_reducible repeat (first|apply rA|apply rN|apply rD));exact (Kd.R_mono (rF (rF (rF (rY HO307.out BK309.out (by decide)) (fun _ hk => hk.2) _) (fun _ hk => hk.2) _) (fun _ hk => hk.2) _) (fun _ h_ => h_.1))) (by decide)) hk (fun _ h => h.2)) (fun _ h => h.1));have n5_:=aM (KeepBut.blk hk (g':=gb309) (o:=.cells #[.slice Ao40 t302.length co40,.slice Ao44 t305.length co44,.string t308] 35 (0,0)) (by (with_reducible repeat (first|refine bN ?_ _|refine bD ?_|refine bA ?_ _));refine blk_put (cs:=#[.slice Ao40 t302.length co40,.slice Ao44 t305.length co44,.string (⟨#[]⟩ : ByteArray)]) ?_ 2 _ rfl;(with_reducible repeat (first|refine bN ?_ _|refine bD ?_|refine bA ?_ _));refine blk_put (cs:=#[.slice Ao40 t302.length co40,.slice none 0 0,.string (⟨#[]⟩ : ByteArray)]) ?_ 1 _ rfl;(with_reducible repeat (first|refine bN ?_ _|refine bD ?_|refine bA ?_ _));refine blk_put (cs:=#[.slice none 0 0,.slice none 0 0,.string (⟨#[]⟩ : ByteArray)]) ?_ 0 _ rfl;(with_reducible repeat (first|refine bN ?_ _|refine bD ?_|refine bA ?_ _));exact BK309.out) NB309_0.out (by simp));have n6_:=aM (KeepBut.trans (by repeat (first|(with_reducible first|exact HK.out|apply KeepBut.set_|apply keep_drewN|apply keep_drew|apply keep_alloc|refine keep_far ?_ GW292.out _|refine keep_far ?_ GW309.out _)|exact HK.out)) hk (.inl rfl));have n7_:=aM (hb);have n8_:=aM (hi);clear BK292 HO295 HO298 HO304 HO307 BK309 HK HB HI0;have BK292:=n0_;have HO295:=n1_;have HO298:=n2_;have HO304:=n3_;have HO307:=n4_;have BK309:=n5_;have HK:=n6_;have HB:=n7_;have HI0:=n8_;clear n0_ n1_ n2_ n3_ n4_ n5_ n6_ n7_ n8_;(try clear hb);(try clear hb2);(try clear hk);(try clear hi)))
    have n0_:=aM (rD HO295.out)
    have n1_:=aM (rD HO298.out)
    have n2_:=aM (rD HO304.out)
    have n3_:=aM (rD HO307.out)
    have n4_:=aM (bD BK292.out)
    have n5_:=aM (bD BK309.out)
    have n6_:=aM (IsS62.drew HI0.out)
    have n7_:=aM (keep_drew HK.out)
    have n8_:=aM (lD HB.out)
    clear HO295
    clear HO298
    clear HO304
    clear HO307
    clear BK292
    clear BK309
    clear HI0
    clear HK
    clear HB
    have HO295:=n0_
    have HO298:=n1_
    have HO304:=n2_
    have HO307:=n3_
    have BK292:=n4_
    have BK309:=n5_
    have HI0:=n6_
    have HK:=n7_
    have HB:=n8_
    clear n0_ n1_ n2_ n3_ n4_ n5_ n6_ n7_ n8_
    refine start_ (n:=10) (S:=fun w' => w'.cell? ⟨gb309,0,none⟩ = some (.slice Ao40 t302.length co40) ∧ w'.cell? ⟨gb309,1,none⟩ = some (.slice Ao44 t305.length co44) ∧ w'.cell? ⟨gb309,2,none⟩ = some (.string t308)) (ds:=[9]) #[bf,bf,bf,bf,bf,bf,bf,bf,bf,bf] (by kernel_rfl) rfl rfl ⟨(bC BK309.out 0).trans rfl,(bC BK309.out 1).trans rfl,(bC BK309.out 2).trans rfl⟩ (fun hHeld => ?_);refine with_tabW spec_l08Any.tab6 spec_l08Any.bits6 (fun HT_ HW_ => ?_)
    generalize w45.drew = w46 at HO295 HO298 HO304 HO307 BK292 BK309 HI0 HK HB hHeld ⊢
    refine pQ (i:=0) (N:=some 22) (v:=?_) (a':=?_) #[bT,bf,bf,bf,bf,bf,bf,bf,bf,bf] (any_of HT_.out (by kernel_rfl)) ?_ ?_ ?_
    rotate_left
    ·intro w';go_simp;with_reducible rfl
    rotate_left
    ·simp only [Act.put,q_ia8,q_cz8,q_cs8,i64_w,i32_w];rfl
    refine pQ (i:=2) (N:=some 24) (v:=?_) (a':=?_) #[bT,bf,bT,bf,bf,bf,bf,bf,bf,bf] (any_of HT_.out (by kernel_rfl)) ?_ ?_ ?_
    rotate_left
    ·intro w';go_simp;with_reducible rfl
    rotate_left
    ·simp only [Act.put,q_ia8,q_cz8,q_cs8,i64_w,i32_w];rfl
    refine take_ (i:=1) (N:=some 23) (v:=?_) (a':=?_) #[bT,bT,bT,bf,bf,bf,bf,bf,bf,bf] rfl rfl (take_ofW HT_.out HW_.out (by kernel_rfl)) (fun _ _ _ h => h) (Or.inl ⟨by rfl,?_⟩) hHeld ?_ ?_
    rotate_left
    ·rintro w' ⟨s0,s1,s2⟩
     go_simp
     with_reducible rfl
    rotate_left
    ·simp only [Act.put,q_ia8,q_cz8,q_cs8,i64_w,i32_w];rfl
    refine one_ (i:=3) (N:=some 25) #[bT,bT,bT,bT,bf,bf,bf,bf,bf,bf] rfl rfl (one_of HT_.out (by kernel_rfl)) (by decide) (fun K hK => ?_)
    refine Kd.R_lit_step Kd.string _ 9 ?hg (N:=25) ?hd (xs:=([(⟨#[97]⟩ : ByteArray),(⟨#[122,122]⟩ : ByteArray),(⟨#[]⟩ : ByteArray)] : List ByteArray)) (inner:=[.string (⟨#[97]⟩ : ByteArray),.string (⟨#[122,122]⟩ : ByteArray),.string (⟨#[]⟩ : ByteArray)]) (ok:=fun _ => True) (okp:=fun _ => True) ?hr ?hp (fun _ hk => hk) trivial (Below.refl _ _) (Nat.le_refl _) (by simp) ?_;(case hd => rfl);(case hg => rfl);(case hr => first|(go_simp;done)|(go_simp;rfl));(case hp => exact (Reps.one (show Kd.M Kd.string _ _ _ (⟨#[97]⟩ : ByteArray) [.string (⟨#[97]⟩ : ByteArray)] from rfl) (Reps.one (show Kd.M Kd.string _ _ _ (⟨#[122,122]⟩ : ByteArray) [.string (⟨#[122,122]⟩ : ByteArray)] from rfl) (Reps.one (show Kd.M Kd.string _ _ _ (⟨#[]⟩ : ByteArray) [.string (⟨#[]⟩ : ByteArray)] from rfl) (Reps.none _ _)))))
    intro v323 w47 ho48 hb hg_ hnew_
    clear hg_ hnew_
    (first|rw [← Ny322.out] at ho48|(simp only [Int.reduceToNat] at ho48;rw [← Ny322.out] at ho48))
    have n0_:=aM (rH HO295.out hb)
    have n1_:=aM (rH HO298.out hb)
    have n2_:=aM (rH HO304.out hb)
    have n3_:=aM (rH HO307.out hb)
    have n4_:=aM (rL ho48 (keep_size (w:=w) (g:=g) (row:=none) (by repeat (first|(with_reducible first|exact HK.out|apply KeepBut.set_|apply keep_drewN|apply keep_drew|apply keep_alloc|refine keep_far ?_ GW292.out _|refine keep_far ?_ GW309.out _)|exact HK.out))))
    have n5_:=aM (IsS62.below (by repeat (first|(with_reducible first|exact HI0.out|apply IsS62.alloc|apply IsS62.drewN|apply IsS62.drew|apply IsS62.set_1|apply IsS62.set_2|refine IsS62.far ?_ NB0_292.out _|refine IsS62.far ?_ NB0_309.out _)|exact HI0.out)) hb)
    have n6_:=aM (bH BK292.out hb)
    have n7_:=aM (bH BK309.out hb)
    have n8_:=aM (KeepBut.trans (by repeat (first|(with_reducible first|exact HK.out|apply KeepBut.set_|apply keep_drewN|apply keep_drew|apply keep_alloc|refine keep_far ?_ GW292.out _|refine keep_far ?_ GW309.out _)|exact HK.out)) (KeepBut.of_below hb g none) (.inl rfl))
    have n9_:=aM (lP (by repeat (first|(with_reducible first|exact HB.out|apply lA|apply lN|apply lD|refine lS ?_ (IsS62.ge HI0.out)|refine lS ?_ GE292.out|refine lS ?_ GE309.out)|exact HB.out)) hb)
    clear HO295
    clear HO298
    clear HO304
    clear HO307
    clear HI0
    clear BK292
    clear BK309
    clear HK
    clear HB
    have HO295:=n0_
    have HO298:=n1_
    have HO304:=n2_
    have HO307:=n3_
    have HO324:=n4_
    have HI0:=n5_
    have BK292:=n6_
    have BK309:=n7_
    have HK:=n8_
    have HB:=n9_
    clear n0_ n1_ n2_ n3_ n4_ n5_ n6_ n7_ n8_ n9_
    clear hb ho48
    obtain ⟨Ao49,co49,eo49⟩:=Kd.R_slice HO324.out
    (first|subst eo49|(injection eo49 with f1_ f2_ f3_;have f4_:=f1_.symm;have f5_:=f3_.symm;clear f1_ f2_ f3_;subst f4_;subst f5_))
    refine hK.out _ _ ⟨(bC BK309.out 0).trans rfl,(bC BK309.out 1).trans rfl,(bC BK309.out 2).trans rfl⟩ (fun hHeld => ?_)
    clear hK K
    refine norm_ (a':=?_) ?_ ?_
    rotate_left
    ·show Act.put _ (some 25) _ = _
     simp only [Act.put,q_ia8,q_cz8,q_cs8,i64_w,i32_w]
     rfl
    refine one_ (i:=4) (N:=some 26) #[bT,bT,bT,bT,bT,bf,bf,bf,bf,bf] rfl rfl (one_of HT_.out (by kernel_rfl)) (by decide) (fun K hK => ?_)
    refine goes_ Try.func34 (by kernel_rfl) rfl #[.pointer (some ⟨g,0,none⟩),.slice Ao49 y322.length co49] (by rfl) rfl rfl (by (try simp only [List.map_toArray,List.map_cons,List.map_nil]);first|done|rfl|(simp only [List.length_drop,List.length_take];rfl)) ?_
    with_reducible refine (spec_l01Pick.calls g s0_0 t311 t312 _ _ y322 t325 t326 t327 w0 _ ?side1 ?side2 ?side3 ?side4 ?side5 A32.out).mono ?_
    (case side1 => repeat (first|(with_reducible first|exact HI0.out|apply IsS62.alloc|apply IsS62.drewN|apply IsS62.drew|apply IsS62.set_1|apply IsS62.set_2|refine IsS62.far ?_ NB0_292.out _|refine IsS62.far ?_ NB0_309.out _)|exact HI0.out))
    (case side2 => repeat (first|(with_reducible first|exact HB.out|apply lA|apply lN|apply lD|refine lS ?_ (IsS62.ge HI0.out)|refine lS ?_ GE292.out|refine lS ?_ GE309.out)|exact HB.out))
    (case side3 => repeat (first|exact (rR HO324.out).2.2|(with_reducible first|refine cA ?_ _|refine cN ?_ _|refine cD ?_)))
    (case side4 => exact (rR HO324.out).2.1)
    (case side5 => exact far_slice (IsS62.own_ne HI0.out HO324.out (by decide)))
    rintro e w50 ⟨rfl,hi,hb,hk⟩
    refine ⟨_,rfl,?_⟩
    have n0_:=aM (KeepBut.blk hk (g':=gb292) (o:=.cells #[.slice none 0 0,.slice none 0 0,.string (⟨#[]⟩ : ByteArray)] 35 (0,0)) (by (with_reducible repeat (first|refine bN ?_ _|refine bD ?_|refine bA ?_ _));exact BK292.out) NB292_0.out (by simp))
    have n1_:=aM (Kd.R_mono (Kd.R_keep (IsS62.apart (show IsS62 w0 _ g s0_0 t311 t312 from by repeat (first|(with_reducible first|exact HI0.out|apply IsS62.alloc|apply IsS62.drewN|apply IsS62.drew|apply IsS62.set_1|apply IsS62.set_2|refine IsS62.far ?_ NB0_292.out _|refine IsS62.far ?_ NB0_309.out _)|exact HI0.out)) (rZ HO295.out) (by decide)) hk (fun _ h => h.2)) (fun _ h => h.1))
    have n2_:=aM (Kd.R_mono (Kd.R_keep (IsS62.apart (show IsS62 w0 _ g s0_0 t311 t312 from by repeat (first|(with_reducible first|exact HI0.out|apply IsS62.alloc|apply IsS62.drewN|apply IsS62.drew|apply IsS62.set_1|apply IsS62.set_2|refine IsS62.far ?_ NB0_292.out _|refine IsS62.far ?_ NB0_309.out _)|exact HI0.out)) (rZ HO298.out) (by decide)) hk (fun _ h => h.2)) (fun _ h => h.1))
    have n3_:=aM (Kd.R_mono (Kd.R_keep (IsS62.apart (show IsS62 w0 _ g s0_0 t311 t312 from by repeat (first|(with_reducible first|exact HI0.out|apply IsS62.alloc|apply IsS62.drewN|apply IsS62.drew|apply IsS62.set_1|apply IsS62.set_2|refine IsS62.far ?_ NB0_292.out _|refine IsS62.far ?_ NB0_309.out _)|exact HI0.out)) (rZ HO304.out) (by decide)) hk (fun _ h => h.2)) (fun _ h => h.1))
    have n4_:=aM (Kd.R_mono (Kd.R_keep (IsS62.apart (show IsS62 w0 _ g s0_0 t311 t312 from by repeat (first|(with_reducible first|exact HI0.out|apply IsS62.alloc|apply IsS62.drewN|apply IsS62.drew|apply IsS62.set_1|apply IsS62.set_2|refine IsS62.far ?_ NB0_292.out _|refine IsS62.far ?_ NB0_309.out _)|exact HI0.out)) (rZ HO307.out) (by decide)) hk (fun _ h => h.2)) (fun _ h => h.1))
    have n5_:=aM (KeepBut.blk hk (g':=gb309) (o:=.cells #[.slice Ao40 t302.length co40,.slice Ao44 t305.length co44,.string t308] 35 (0,0)) (by (with_reducible repeat (first|refine bN ?_ _|refine bD ?_|refine bA ?_ _));exact BK309.out) NB309_0.out (by simp))
    have n6_:=aM (Kd.R_mono (Kd.R_keep (IsS62.apart (show IsS62 w0 _ g s0_0 t311 t312 from by repeat (first|(with_reducible first|exact HI0.out|apply IsS62.alloc|apply IsS62.drewN|apply IsS62.drew|apply IsS62.set_1|apply IsS62.set_2|refine IsS62.far ?_ NB0_292.out _|refine IsS62.far ?_ NB0_309.out _)|exact HI0.out)) (rZ HO324.out) (by decide)) hk (fun _ h => h.2)) (fun _ h => h.1))
    have n7_:=aM (KeepBut.trans (by repeat (first|(with_reducible first|exact HK.out|apply KeepBut.set_|apply keep_drewN|apply keep_drew|apply keep_alloc|refine keep_far ?_ GW292.out _|refine keep_far ?_ GW309.out _)|exact HK.out)) hk (.inl rfl))
    have n8_:=aM (hb)
    have n9_:=aM (hi)
    clear BK292
    clear HO295
    clear HO298
    clear HO304
    clear HO307
    clear BK309
    clear HO324
    clear HK
    clear HB
    clear HI0
    have BK292:=n0_
    have HO295:=n1_
    have HO298:=n2_
    have HO304:=n3_
    have HO307:=n4_
    have BK309:=n5_
    have HO324:=n6_
    have HK:=n7_
    have HB:=n8_
    have HI0:=n9_
    clear n0_ n1_ n2_ n3_ n4_ n5_ n6_ n7_ n8_ n9_
    (try clear hb)
    (try clear hb2)
    (try clear hk)
    (try clear hi)
    refine hK.out _ _ ⟨(bC BK309.out 0).trans rfl,(bC BK309.out 1).trans rfl,(bC BK309.out 2).trans rfl⟩ (fun hHeld => ?_)
    clear hK K
    refine norm_ (a':=?_) ?_ ?_
    rotate_left
    ·show Act.put _ (some 26) _ = _
     simp only [Act.put,q_ia8,q_cz8,q_cs8,i64_w,i32_w]
     rfl
    refine pQ (i:=5) (N:=some 27) (v:=?_) (a':=?_) #[bT,bT,bT,bT,bT,bT,bf,bf,bf,bf] (any_of HT_.out (by kernel_rfl)) ?_ ?_ ?_
    rotate_left
    ·intro w';go_simp;with_reducible rfl
    rotate_left
    ·simp only [Act.put,q_ia8,q_cz8,q_cs8,i64_w,i32_w];rfl
    refine one_ (i:=6) (N:=some 28) #[bT,bT,bT,bT,bT,bT,bT,bf,bf,bf] rfl rfl (one_of HT_.out (by kernel_rfl)) (by decide) (fun K hK => ?_)
    refine value_ (w1:=?_) (v:=?_) (by rfl) rfl ?_ ?_
    rotate_left 2
    ·go_simp
     constructor
     ·rfl
     ·rfl
    refine hK.out _ _ ⟨(bC (bA BK309.out _) 0).trans rfl,(bC (bA BK309.out _) 1).trans rfl,(bC (bA BK309.out _) 2).trans rfl⟩ (fun hHeld => ?_)
    clear hK K
    refine norm_ (a':=?_) ?_ ?_
    rotate_left
    ·show Act.put _ (some 28) _ = _
     simp only [Act.put,q_ia8,q_cz8,q_cs8,i64_w,i32_w]
     rfl
    refine one_ (i:=7) (N:=some 29) #[bT,bT,bT,bT,bT,bT,bT,bT,bf,bf] rfl rfl (one_of HT_.out (by kernel_rfl)) (by decide) (fun K hK => ?_)
    refine Kd.R_append_step k39 w.heap.size (by rfl) (.tmp 23) (.tmp 28) 33 39 (.agg #[(.string ⟨#[]⟩),(.string ⟨#[]⟩),(.string ⟨#[]⟩)]) 48 rfl Try.underlying33 info39 rfl (by decide) (by omega) (.slice Ao44 t305.length co44) t305 (⟨t325,(⟨#[]⟩ : ByteArray),(⟨#[]⟩ : ByteArray)⟩ : S39) [.string t325,.string (⟨#[]⟩ : ByteArray),.string (⟨#[]⟩ : ByteArray)] (fun k_ => some k_ ≠ (.slice Ao37 t296.length co37 : Value).ownBlock) (fun _ => False) rfl rfl ?aP (fun _ hk => hk.elim) ?aF ?aO (Below.refl _ _) ?aS ?aL ?_
    (case aP => exact k39_mkM _ _ _ (⟨t325,(⟨#[]⟩ : ByteArray),(⟨#[]⟩ : ByteArray)⟩ : S39))
    (case aF => exact (fun k_ hk => Kd.fresh' (rT (rZ HO298.out)) k_ hk))
    (case aO => exact (by (with_reducible repeat (first|apply rA|apply rN|apply rD));exact Kd.R_mono HO307.out (fun _ hk => hk.2)))
    (case aS => exact (keep_size (w:=w) (g:=g) (row:=none) (by repeat (first|(with_reducible first|exact HK.out|apply KeepBut.set_|apply keep_drewN|apply keep_drew|apply keep_alloc|refine keep_far ?_ GW292.out _|refine keep_far ?_ GW309.out _)|exact HK.out))))
    (case aL => have:=LMc33.out;omega)
    intro v329 w51 ho hb hg hat
    rw [← Ny328.out] at ho
    have n0_:=aM (IsS62.grown (by repeat (first|(with_reducible first|exact HI0.out|apply IsS62.alloc|apply IsS62.drewN|apply IsS62.drew|apply IsS62.set_1|apply IsS62.set_2|refine IsS62.far ?_ NB0_292.out _|refine IsS62.far ?_ NB0_309.out _)|exact HI0.out)) hg (IsS62.own_ne HI0.out HO307.out (by decide)))
    have n1_:=aM (blk_grown (g:=gb292) (o:=.cells #[.slice none 0 0,.slice none 0 0,.string (⟨#[]⟩ : ByteArray)] 35 (0,0)) (by (with_reducible repeat (first|refine bN ?_ _|refine bD ?_|refine bA ?_ _));exact BK292.out) hg (Kd.R_ne HO307.out BK292.out (by decide)))
    have n2_:=aM (Kd.R_over' (rZ HO295.out) (Kd.R_typed (rZ HO307.out)) (by decide) hg)
    have n3_:=aM (Kd.R_after (ok:=(fun _ => True)) (rZ HO298.out) hg hat)
    have n4_:=aM (Kd.R_over' (rZ HO304.out) (Kd.R_typed (rZ HO307.out)) (by decide) hg)
    have n5_:=aM (blk_grown (g:=gb309) (o:=.cells #[.slice Ao40 t302.length co40,.slice Ao44 t305.length co44,.string t308] 35 (0,0)) (by (with_reducible repeat (first|refine bN ?_ _|refine bD ?_|refine bA ?_ _));exact BK309.out) hg (Kd.R_ne HO307.out BK309.out (by decide)))
    have n6_:=aM (Kd.R_over' (rZ HO324.out) (Kd.R_typed (rZ HO307.out)) (by decide) hg)
    have n7_:=aM (below_weaken (by repeat (first|(with_reducible first|exact HB.out|apply lA|apply lN|apply lD|refine lS ?_ (IsS62.ge HI0.out)|refine lS ?_ GE292.out|refine lS ?_ GE309.out)|exact HB.out)) HL.out hb)
    have n8_:=aM (KeepBut.trans (by repeat (first|(with_reducible first|exact HK.out|apply KeepBut.set_|apply keep_drewN|apply keep_drew|apply keep_alloc|refine keep_far ?_ GW292.out _|refine keep_far ?_ GW309.out _)|exact HK.out)) (KeepBut.of_grown hg g) (Kd.R_base2 HO307.out))
    have n9_:=aM (ho)
    clear HI0
    clear BK292
    clear HO295
    clear HO298
    clear HO304
    clear BK309
    clear HO324
    clear HB
    clear HK
    clear HO307
    have HI0:=n0_
    have BK292:=n1_
    have HO295:=n2_
    have HO298:=n3_
    have HO304:=n4_
    have BK309:=n5_
    have HO324:=n6_
    have HB:=n7_
    have HK:=n8_
    have HO330:=n9_
    clear n0_ n1_ n2_ n3_ n4_ n5_ n6_ n7_ n8_ n9_
    clear ho hb hg hat
    obtain ⟨Ao52,co52,eo52⟩:=Kd.R_slice HO330.out
    (first|subst eo52|(injection eo52 with f1_ f2_ f3_;have f4_:=f1_.symm;have f5_:=f3_.symm;clear f1_ f2_ f3_;subst f4_;subst f5_))
    refine hK.out _ _ ⟨(bC BK309.out 0).trans rfl,(bC BK309.out 1).trans rfl,(bC BK309.out 2).trans rfl⟩ (fun hHeld => ?_)
    clear hK K
    refine norm_ (a':=?_) ?_ ?_
    rotate_left
    ·show Act.put _ (some 29) _ = _
     simp only [Act.put,q_ia8,q_cz8,q_cs8,i64_w,i32_w]
     rfl
    refine pQ (i:=8) (N:=some 30) (v:=?_) (a':=?_) #[bT,bT,bT,bT,bT,bT,bT,bT,bT,bf] (any_of HT_.out (by kernel_rfl)) ?_ ?_ ?_
    rotate_left
    ·intro w';go_simp;with_reducible rfl
    rotate_left
    ·simp only [Act.put,q_ia8,q_cz8,q_cs8,i64_w,i32_w];rfl
    refine last_ (i:=9) (N:=none) #[bT,bT,bT,bT,bT,bT,bT,bT,bT,bT] rfl rfl (one_of HT_.out (by kernel_rfl)) (by decide) (fun K hK => ?_)
    have hs53 : w51.cell? ⟨gb309,1,none⟩ = some (.slice Ao44 t305.length co44):=(bC BK309.out 1).trans rfl
    have hfs53:=bF BK309.out 1
    have hns53_0:=NB292_309.out
    have hms53_0:=NB309_292.out
    refine skip_ (w1:=?_) (by rfl) rfl ?_ ?_
    rotate_left
    ·go_simp
     rfl
    refine hK.out _ _ ?_
    clear hK K
    refine done_ (done_of HT_.out (by kernel_rfl)) ?_
    obtain ⟨⟨hcz54_0,hcz54_1,hcz54_2⟩,hfz54_0,hfz54_1,hfz54_2⟩:=bC3 BK309.out
    have hnb55:=NB292_0.out
    have hnc55:=NB0_292.out
    obtain ⟨⟨hcz56_0,hcz56_1,hcz56_2⟩,hfz56_0,hfz56_1,hfz56_2⟩:=bC3 BK292.out
    try go_wp2
    refine bodyPost_ret (results_cell_row rfl _ _ gb292 35 #[.slice Ao40 t302.length co40,.slice Ao52 y328.length co52,.string t308] (0,0) _ rfl (by (with_reducible repeat (first|refine bN ?_ _|refine bD ?_|refine bA ?_ _));refine blk_put (cs:=#[.slice Ao40 t302.length co40,.slice Ao52 y328.length co52,.string (⟨#[]⟩ : ByteArray)]) ?_ 2 _ rfl;(with_reducible repeat (first|refine bN ?_ _|refine bD ?_|refine bA ?_ _));refine blk_put (cs:=#[.slice Ao40 t302.length co40,.slice none 0 0,.string (⟨#[]⟩ : ByteArray)]) ?_ 1 _ rfl;(with_reducible repeat (first|refine bN ?_ _|refine bD ?_|refine bA ?_ _));refine blk_put (cs:=#[.slice none 0 0,.slice none 0 0,.string (⟨#[]⟩ : ByteArray)]) ?_ 0 _ rfl;(with_reducible repeat (first|refine bN ?_ _|refine bD ?_|refine bA ?_ _));refine blk_far ?_ NB292_309.out _;(with_reducible repeat (first|refine bN ?_ _|refine bD ?_|refine bA ?_ _));exact BK292.out) Try.underlying35 rfl (by kernel_rfl)) rfl ?_
    exact ⟨_,_,by first|rfl|(simp [errW_none,errW_some] <;> rfl)|(simp [*,errW_none,errW_some] <;> rfl),by (with_reducible repeat (first|apply rA|apply rN|apply rD));exact Kd.R_mono (rF (rF (rF (rF (rY (rY HO304.out BK309.out (by decide)) BK292.out (by decide)) (fun _ hk => hk.1.2) _) (fun _ hk => hk.2) _) (fun _ hk => hk.2) _) (fun _ hk => hk.2) _) (fun _ hk => trivial),by (with_reducible repeat (first|apply rA|apply rN|apply rD));exact Kd.R_mono (rF (rF (rF (rF (rY (rY HO330.out BK309.out (by decide)) BK292.out (by decide)) (fun _ hk => hk.1.2) _) (fun _ hk => hk.2) _) (fun _ hk => hk.2) _) (fun _ hk => hk.2) _) (fun _ hk => trivial),by repeat (first|(with_reducible first|exact HI0.out|apply IsS62.alloc|apply IsS62.drewN|apply IsS62.drew|apply IsS62.set_1|apply IsS62.set_2|refine IsS62.far ?_ NB0_292.out _|refine IsS62.far ?_ NB0_309.out _)|exact HI0.out),by repeat (first|(with_reducible first|exact HB.out|apply lA|apply lN|apply lD|refine lS ?_ (IsS62.ge HI0.out)|refine lS ?_ GE292.out|refine lS ?_ GE309.out)|exact HB.out),by repeat (first|(with_reducible first|exact HK.out|apply KeepBut.set_|apply keep_drewN|apply keep_drew|apply keep_alloc|refine keep_far ?_ GW292.out _|refine keep_far ?_ GW309.out _)|exact HK.out)⟩
   ·rw [if_neg c33] at H
    exact absurd H (by simp)
  ·rw [if_neg c31] at H
   have c31b0 : (t310 == 1) = false:=beq_eq_false_iff_ne.mpr c31
   have c31b1 : (t310 != 1) = true:=bne_iff_ne.mpr c31
   by_cases c57 : t310 = 2
   ·rw [if_pos c57] at H
    have c57b0 : (t310 == 2) = true:=beq_iff_eq.mpr c57
    have c57b1 : (t310 != 2) = false:=bne_eq_false_iff_eq.mpr c57
    clear c57
    replace H:=Option.bind_eq_some_iff.mp H
    obtain ⟨⟨t331,t332,t333⟩,A580,H⟩:=H
    replace H : ((spec_l01Long.f k (wrap64 (3000 + t331)) 65).bind fun t334 => (some (t302,t305,t334,t332,t333))) = some (r1,r2,r3,r4,r5):=H
    have A58:=aM A580
    clear A580
    replace H:=Option.bind_eq_some_iff.mp H
    obtain ⟨t334,A590,H⟩:=H
    replace H : (some (t302,t305,t334,t332,t333)) = some (r1,r2,r3,r4,r5):=H
    have A59:=aM A590
    clear A590
    simp only [Option.some.injEq,Prod.mk.injEq] at H
    obtain ⟨rfl,rfl,rfl,rfl,rfl⟩:=H
    go_enter Try.func32,Try.ntmps32
    go_wp2_with (first|((with_reducible refine gate_dst (N:=2) rfl ?_);refine box_event ?hg (N:=2) ?hd (cs:=#[.slice none 0 0,.slice none 0 0,.string (⟨#[]⟩ : ByteArray)]) (t:=35) ?hr ?_;(case hd => rfl);(case hg => rfl);(case hr => first|(go_simp;done)|(go_simp;rfl));intro gb292 hg w60 hbox hb;have n0_:=aM (IsS62.below (by repeat (first|(with_reducible first|exact HI0.out|apply IsS62.alloc|apply IsS62.drewN|apply IsS62.drew|apply IsS62.set_1|apply IsS62.set_2)|exact HI0.out)) hb);have n1_:=aM (KeepBut.trans (by repeat (first|(with_reducible first|exact HK.out|apply KeepBut.set_|apply keep_drewN|apply keep_drew|apply keep_alloc)|exact HK.out)) (KeepBut.of_below hb g none) (.inl rfl));have n2_:=aM (lP (by repeat (first|(with_reducible first|exact HB.out|apply lA|apply lN|apply lD|refine lS ?_ (IsS62.ge HI0.out))|exact HB.out)) hb);have n3_:=aM (hbox);have n4_:=aM ((by rw [hg];exact (keep_size (w:=w) (g:=g) (row:=none) (by repeat (first|(with_reducible first|exact HK.out|apply KeepBut.set_|apply keep_drewN|apply keep_drew|apply keep_alloc)|exact HK.out))) : w.heap.size ≤ gb292));have n5_:=aM ((Nat.le_trans HW0.out (by rw [hg];exact (keep_size (w:=w) (g:=g) (row:=none) (by repeat (first|(with_reducible first|exact HK.out|apply KeepBut.set_|apply keep_drewN|apply keep_drew|apply keep_alloc)|exact HK.out))) : w.heap.size ≤ gb292) : w0.heap.size ≤ gb292));have n6_:=aM ((by rw [hg];exact Nat.ne_of_lt (IsS62.lt (show IsS62 w0 _ g s0_0 s0_1 s0_2 from by repeat (first|(with_reducible first|exact HI0.out|apply IsS62.alloc|apply IsS62.drewN|apply IsS62.drew|apply IsS62.set_1|apply IsS62.set_2)|exact HI0.out))) : g ≠ gb292));have n7_:=aM ((by rw [hg];exact Nat.ne_of_gt (IsS62.lt (show IsS62 w0 _ g s0_0 s0_1 s0_2 from by repeat (first|(with_reducible first|exact HI0.out|apply IsS62.alloc|apply IsS62.drewN|apply IsS62.drew|apply IsS62.set_1|apply IsS62.set_2)|exact HI0.out))) : gb292 ≠ g));clear HI0 HK HB;have HI0:=n0_;have HK:=n1_;have HB:=n2_;have BK292:=n3_;have GW292:=n4_;have GE292:=n5_;have NB0_292:=n6_;have NB292_0:=n7_;clear n0_ n1_ n2_ n3_ n4_ n5_ n6_ n7_ hb hbox hg)|((with_reducible refine gate_callee (f:=27) rfl ?_);refine goesL_ (some 5) rfl rfl Try.func27 (by kernel_rfl) rfl #[.pointer (some ⟨g,0,none⟩)] rfl (by (try simp only [List.map_toArray,List.map_cons,List.map_nil]);first|done|rfl|(simp only [List.length_drop,List.length_take];rfl)) ?_;(with_reducible refine (spec_l08Store.calls k g s0_0 s0_1 s0_2 t293 t296 t299 t300 t301 w0 _ ?side1 ?side2 A2.out).mono ?_);(case side1 => repeat (first|(with_reducible first|exact HI0.out|apply IsS62.alloc|apply IsS62.drewN|apply IsS62.drew|apply IsS62.set_1|apply IsS62.set_2|refine IsS62.far ?_ NB0_292.out _)|exact HI0.out));(case side2 => repeat (first|(with_reducible first|exact HB.out|apply lA|apply lN|apply lD|refine lS ?_ (IsS62.ge HI0.out)|refine lS ?_ GE292.out)|exact HB.out));rintro e w61 ⟨v294,v297,rfl,ho0,ho1,hi,hb,hk⟩;refine ⟨_,rfl,?_⟩;have n0_:=aM (KeepBut.blk hk (g':=gb292) (o:=.cells #[.slice none 0 0,.slice none 0 0,.string (⟨#[]⟩ : ByteArray)] 35 (0,0)) (by (with_reducible repeat (first|refine bN ?_ _|refine bD ?_|refine bA ?_ _));exact BK292.out) NB292_0.out (by simp));have n1_:=aM (rL ho0 (keep_size (w:=w) (g:=g) (row:=none) (by repeat (first|(with_reducible first|exact HK.out|apply KeepBut.set_|apply keep_drewN|apply keep_drew|apply keep_alloc|refine keep_far ?_ GW292.out _)|exact HK.out))));have n2_:=aM (rL ho1 (keep_size (w:=w) (g:=g) (row:=none) (by repeat (first|(with_reducible first|exact HK.out|apply KeepBut.set_|apply keep_drewN|apply keep_drew|apply keep_alloc|refine keep_far ?_ GW292.out _)|exact HK.out))));have n3_:=aM (KeepBut.trans (by repeat (first|(with_reducible first|exact HK.out|apply KeepBut.set_|apply keep_drewN|apply keep_drew|apply keep_alloc|refine keep_far ?_ GW292.out _)|exact HK.out)) hk (.inl rfl));have n4_:=aM (hb);have n5_:=aM (hi);clear BK292 HK HB HI0;have BK292:=n0_;have HO295:=n1_;have HO298:=n2_;have HK:=n3_;have HB:=n4_;have HI0:=n5_;clear n0_ n1_ n2_ n3_ n4_ n5_;(try clear hb);(try clear hb2);(try clear hk);(try clear hi);(try clear ho0);(try clear ho1);obtain ⟨Ao62,co62,eo62⟩:=Kd.R_slice HO295.out;subst eo62;obtain ⟨Ao63,co63,eo63⟩:=Kd.R_slice HO298.out;subst eo63)|((with_reducible refine gate_callee (f:=35) rfl ?_);refine goesL_ (some 6) rfl rfl Try.func35 (by kernel_rfl) rfl #[.agg #[.slice Ao62 t293.length co62,.slice Ao63 t296.length co63,.string t299]] rfl (by (try simp only [List.map_toArray,List.map_cons,List.map_nil]);first|done|rfl|(simp only [List.length_drop,List.length_take];rfl)) ?_;(with_reducible refine (spec_l08Copy.calls _ _ t293 _ _ t296 t299 t302 t305 t308 _ ?side1 ?side2 ?side3 ?side4 A3.out).mono ?_);(case side1 => repeat (first|exact (rR HO295.out).2.2|(with_reducible first|refine cA ?_ _|refine cN ?_ _|refine cD ?_)));(case side2 => exact (rR HO295.out).2.1);(case side3 => repeat (first|exact (rR HO298.out).2.2|(with_reducible first|refine cA ?_ _|refine cN ?_ _|refine cD ?_)));(case side4 => exact (rR HO298.out).2.1);rintro e w64 ⟨v303,v306,rfl,ho0,ho1,hb⟩;refine ⟨_,rfl,?_⟩;have n0_:=aM (rE (rZ HO295.out) (rS ho0) hb);have n1_:=aM (rE (rZ HO298.out) (rS ho1) hb);have n2_:=aM (rL (rW ho0 (rT (rZ HO295.out))) (keep_size (w:=w) (g:=g) (row:=none) (by repeat (first|(with_reducible first|exact HK.out|apply KeepBut.set_|apply keep_drewN|apply keep_drew|apply keep_alloc|refine keep_far ?_ GW292.out _)|exact HK.out))));have n3_:=aM (rL (rW ho1 (rT (rZ HO298.out))) (keep_size (w:=w) (g:=g) (row:=none) (by repeat (first|(with_reducible first|exact HK.out|apply KeepBut.set_|apply keep_drewN|apply keep_drew|apply keep_alloc|refine keep_far ?_ GW292.out _)|exact HK.out))));have n4_:=aM (IsS62.below (by repeat (first|(with_reducible first|exact HI0.out|apply IsS62.alloc|apply IsS62.drewN|apply IsS62.drew|apply IsS62.set_1|apply IsS62.set_2|refine IsS62.far ?_ NB0_292.out _)|exact HI0.out)) hb);have n5_:=aM (bH BK292.out hb);have n6_:=aM (KeepBut.trans (by repeat (first|(with_reducible first|exact HK.out|apply KeepBut.set_|apply keep_drewN|apply keep_drew|apply keep_alloc|refine keep_far ?_ GW292.out _)|exact HK.out)) (KeepBut.of_below hb g none) (.inl rfl));have n7_:=aM (lP (by repeat (first|(with_reducible first|exact HB.out|apply lA|apply lN|apply lD|refine lS ?_ (IsS62.ge HI0.out)|refine lS ?_ GE292.out)|exact HB.out)) hb);clear HO295 HO298 HI0 BK292 HK HB;have HO295:=n0_;have HO298:=n1_;have HO304:=n2_;have HO307:=n3_;have HI0:=n4_;have BK292:=n5_;have HK:=n6_;have HB:=n7_;clear n0_ n1_ n2_ n3_ n4_ n5_ n6_ n7_;(try clear hb);(try clear hb2);(try clear hk);(try clear hi);(try clear ho0);(try clear ho1))|((with_reducible refine gate_dst (N:=3) rfl ?_);refine box_event ?hg (N:=3) ?hd (cs:=#[.slice none 0 0,.slice none 0 0,.string (⟨#[]⟩ : ByteArray)]) (t:=35) ?hr ?_;(case hd => rfl);(case hg => rfl);(case hr => first|(go_simp;done)|(go_simp;rfl));intro gb309 hg w65 hbox hb;have n0_:=aM (rH HO295.out hb);have n1_:=aM (rH HO298.out hb);have n2_:=aM (rH HO304.out hb);have n3_:=aM (rH HO307.out hb);have n4_:=aM (IsS62.below (by repeat (first|(with_reducible first|exact HI0.out|apply IsS62.alloc|apply IsS62.drewN|apply IsS62.drew|apply IsS62.set_1|apply IsS62.set_2|refine IsS62.far ?_ NB0_292.out _)|exact HI0.out)) hb);have n5_:=aM (bH BK292.out hb);have n6_:=aM (KeepBut.trans (by repeat (first|(with_reducible first|exact HK.out|apply KeepBut.set_|apply keep_drewN|apply keep_drew|apply keep_alloc|refine keep_far ?_ GW292.out _)|exact HK.out)) (KeepBut.of_below hb g none) (.inl rfl));have n7_:=aM (lP (by repeat (first|(with_reducible first|exact HB.out|apply lA|apply lN|apply lD|refine lS ?_ (IsS62.ge HI0.out)|refine lS ?_ GE292.out)|exact HB.out)) hb);have n8_:=aM (hbox);have n9_:=aM ((by rw [hg];exact (keep_size (w:=w) (g:=g) (row:=none) (by repeat (first|(with_reducible first|exact HK.out|apply KeepBut.set_|apply keep_drewN|apply keep_drew|apply keep_alloc|refine keep_far ?_ GW292.out _)|exact HK.out))) : w.heap.size ≤ gb309));have n10_:=aM ((Nat.le_trans HW0.out (by rw [hg];exact (keep_size (w:=w) (g:=g) (row:=none) (by repeat (first|(with_reducible first|exact HK.out|apply KeepBut.set_|apply keep_drewN|apply keep_drew|apply keep_alloc|refine keep_far ?_ GW292.out _)|exact HK.out))) : w.heap.size ≤ gb309) : w0.heap.size ≤ gb309));have n11_:=aM ((nL hg BK292.out : gb292 ≠ gb309));have n12_:=aM ((nG hg BK292.out : gb309 ≠ gb292));have n13_:=aM ((by rw [hg];exact Nat.ne_of_lt (IsS62.lt (show IsS62 w0 _ g s0_0 t300 t301 from by repeat (first|(with_reducible first|exact HI0.out|apply IsS62.alloc|apply IsS62.drewN|apply IsS62.drew|apply IsS62.set_1|apply IsS62.set_2|refine IsS62.far ?_ NB0_292.out _)|exact HI0.out))) : g ≠ gb309));have n14_:=aM ((by rw [hg];exact Nat.ne_of_gt (IsS62.lt (show IsS62 w0 _ g s0_0 t300 t301 from by repeat (first|(with_reducible first|exact HI0.out|apply IsS62.alloc|apply IsS62.drewN|apply IsS62.drew|apply IsS62.set_1|apply IsS62.set_2|refine IsS62.far ?_ NB0_292.out _)|exact HI0.out))) : gb309 ≠ g));clear HO295 HO298 HO304 HO307 HI0 BK292 HK HB;have HO295:=n0_;have HO298:=n1_;have HO304:=n2_;have HO307:=n3_;have HI0:=n4_;have BK292:=n5_;have HK:=n6_;have HB:=n7_;have BK309:=n8_;have GW309:=n9_;have GE309:=n10_;have NB292_309:=n11_;have NB309_292:=n12_;have NB0_309:=n13_;have NB309_0:=n14_;clear n0_ n1_ n2_ n3_ n4_ n5_ n6_ n7_ n8_ n9_ n10_ n11_ n12_ n13_ n14_ hb hbox hg;obtain ⟨Ao66,co66,eo66⟩:=Kd.R_slice HO304.out;subst eo66;have hnb67:=NB309_292.out;have hnc67:=NB292_309.out;have hnb68:=NB309_0.out;have hnc68:=NB0_309.out;obtain ⟨⟨hcz69_0,hcz69_1,hcz69_2⟩,hfz69_0,hfz69_1,hfz69_2⟩:=bC3 BK309.out;obtain ⟨Ao70,co70,eo70⟩:=Kd.R_slice HO307.out;subst eo70)|((with_reducible refine gate_callee (f:=24) rfl ?_);refine goesL_ (some 8) rfl rfl Try.func24 (by kernel_rfl) rfl #[.pointer (some ⟨g,0,none⟩),.int .i64 12] rfl (by (try simp only [List.map_toArray,List.map_cons,List.map_nil]);first|done|rfl|(simp only [List.length_drop,List.length_take];rfl)) ?_;(with_reducible refine (spec_l01Below.calls g s0_0 t300 t301 12 t310 t311 t312 w0 _ ?side1 ?side2 A4.out).mono ?_);(case side1 => repeat (first|(with_reducible first|exact HI0.out|apply IsS62.alloc|apply IsS62.drewN|apply IsS62.drew|apply IsS62.set_1|apply IsS62.set_2|refine IsS62.far ?_ NB0_292.out _|refine IsS62.far ?_ NB0_309.out _)|exact HI0.out));(case side2 => repeat (first|(with_reducible first|exact HB.out|apply lA|apply lN|apply lD|refine lS ?_ (IsS62.ge HI0.out)|refine lS ?_ GE292.out|refine lS ?_ GE309.out)|exact HB.out));rintro e w71 ⟨rfl,hi,hb,hk⟩;refine ⟨_,rfl,?_⟩;have n0_:=aM (KeepBut.blk hk (g':=gb292) (o:=.cells #[.slice none 0 0,.slice none 0 0,.string (⟨#[]⟩ : ByteArray)] 35 (0,0)) (by (with_reducible repeat (first|refine bN ?_ _|refine bD ?_|refine bA ?_ _));refine blk_far ?_ NB292_309.out _;(with_reducible repeat (first|refine bN ?_ _|refine bD ?_|refine bA ?_ _));refine blk_far ?_ NB292_309.out _;(with_reducible repeat (first|refine bN ?_ _|refine bD ?_|refine bA ?_ _));refine blk_far ?_ NB292_309.out _;(with_reducible repeat (first|refine bN ?_ _|refine bD ?_|refine bA ?_ _));exact BK292.out) NB292_0.out (by simp));have n1_:=aM (Kd.R_mono (Kd.R_keep (IsS62.apart (show IsS62 w0 _ g s0_0 t300 t301 from by repeat (first|(with_reducible first|exact HI0.out|apply IsS62.alloc|apply IsS62.drewN|apply IsS62.drew|apply IsS62.set_1|apply IsS62.set_2|refine IsS62.far ?_ NB0_292.out _|refine IsS62.far ?_ NB0_309.out _)|exact HI0.out)) (by (with_reducible repeat (first|apply rA|apply rN|apply rD));exact (Kd.R_mono (rF (rF (rF (rY HO295.out BK309.out (by decide)) (fun _ hk => hk.2) _) (fun _ hk => hk.2) _) (fun _ hk => hk.2) _) (fun _ h_ => h_.1))) (by decide)) hk (fun _ h => h.2)) (fun _ h => h.1));have n2_:=aM (Kd.R_mono (Kd.R_keep (IsS62.apart (show IsS62 w0 _ g s0_0 t300 t301 from by repeat (first|(with_reducible first|exact HI0.out|apply IsS62.alloc|apply IsS62.drewN|apply IsS62.drew|apply IsS62.set_1|apply IsS62.set_2|refine IsS62.far ?_ NB0_292.out _|refine IsS62.far ?_ NB0_309.out _)|exact HI0.out)) (by (with_reducible repeat (first|apply rA|apply rN|apply rD));exact (Kd.R_mono (rF (rF (rF (rY HO298.out BK309.out (by decide)) (fun _ hk => hk.2) _) (fun _ hk => hk.2) _) (fun _ hk => hk.2) _) (fun _ h_ => h_.1))) (by decide)) hk (fun _ h => h.2)) (fun _ h => h.1));have n3_:=aM (Kd.R_mono (Kd.R_keep (IsS62.apart (show IsS62 w0 _ g s0_0 t300 t301 from by repeat (first|(with_reducible first|exact HI0.out|apply IsS62.alloc|apply IsS62.drewN|apply IsS62.drew|apply IsS62.set_1|apply IsS62.set_2|refine IsS62.far ?_ NB0_292.out _|refine IsS62.far ?_ NB0_309.out _)|exact HI0.out)) (by (with_reducible repeat (first|apply rA|apply rN|apply rD));exact (Kd.R_mono (rF (rF (rF (rY HO304.out BK309.out (by decide)) (fun _ hk => hk.2) _) (fun _ hk => hk.2) _) (fun _ hk => hk.2) _) (fun _ h_ => h_.1))) (by decide)) hk (fun _ h => h.2)) (fun _ h => h.1));have n4_:=aM (Kd.R_mono (Kd.R_keep (IsS62.apart (show IsS62 w0 _ g s0_0 t300 t301 from by repeat (first|(with_reducible first|exact HI0.out|apply IsS62.alloc|apply IsS62.drewN|apply IsS62.drew|apply IsS62.set_1|apply IsS62.set_2|refine IsS62.far ?_ NB0_292.out _|refine IsS62.far ?_ NB0_309.out _)|exact HI0.out)) (by (with_reducible repeat (first|apply rA|apply rN|apply rD));exact (Kd.R_mono (rF (rF (rF (rY HO307.out BK309.out (by decide)) (fun _ hk => hk.2) _) (fun _ hk => hk.2) _) (fun _ hk => hk.2) _) (fun _ h_ => h_.1))) (by decide)) hk (fun _ h => h.2)) (fun _ h => h.1));have n5_:=aM (KeepBut.blk hk (g':=gb309) (o:=.cells #[.slice Ao66 t302.length co66,.slice Ao70 t305.length co70,.string t308] 35 (0,0)) (by (with_reducible repeat (first|refine bN ?_ _|refine bD ?_|refine bA ?_ _));refine blk_put (cs:=#[.slice Ao66 t302.length co66,.slice Ao70 t305.length co70,.string (⟨#[]⟩ : ByteArray)]) ?_ 2 _ rfl;(with_reducible repeat (first|refine bN ?_ _|refine bD ?_|refine bA ?_ _));refine blk_put (cs:=#[.slice Ao66 t302.length co66,.slice none 0 0,.string (⟨#[]⟩ : ByteArray)]) ?_ 1 _ rfl;(with_reducible repeat (first|refine bN ?_ _|refine bD ?_|refine bA ?_ _));refine blk_put (cs:=#[.slice none 0 0,.slice none 0 0,.string (⟨#[]⟩ : ByteArray)]) ?_ 0 _ rfl;(with_reducible repeat (first|refine bN ?_ _|refine bD ?_|refine bA ?_ _));exact BK309.out) NB309_0.out (by simp));have n6_:=aM (KeepBut.trans (by repeat (first|(with_reducible first|exact HK.out|apply KeepBut.set_|apply keep_drewN|apply keep_drew|apply keep_alloc|refine keep_far ?_ GW292.out _|refine keep_far ?_ GW309.out _)|exact HK.out)) hk (.inl rfl));have n7_:=aM (hb);have n8_:=aM (hi);clear BK292 HO295 HO298 HO304 HO307 BK309 HK HB HI0;have BK292:=n0_;have HO295:=n1_;have HO298:=n2_;have HO304:=n3_;have HO307:=n4_;have BK309:=n5_;have HK:=n6_;have HB:=n7_;have HI0:=n8_;clear n0_ n1_ n2_ n3_ n4_ n5_ n6_ n7_ n8_;(try clear hb);(try clear hb2);(try clear hk);(try clear hi))|((with_reducible refine gate_callee (f:=24) rfl ?_);refine goesL_ (some 34) rfl rfl Try.func24 (by kernel_rfl) rfl #[.pointer (some ⟨g,0,none⟩),.int .i64 2] rfl (by (try simp only [List.map_toArray,List.map_cons,List.map_nil]);first|done|rfl|(simp only [List.length_drop,List.length_take];rfl)) ?_;(with_reducible refine (spec_l01Below.calls g s0_0 t311 t312 2 t331 t332 t333 w0 _ ?side1 ?side2 A58.out).mono ?_);(case side1 => repeat (first|(with_reducible first|exact HI0.out|apply IsS62.alloc|apply IsS62.drewN|apply IsS62.drew|apply IsS62.set_1|apply IsS62.set_2|refine IsS62.far ?_ NB0_292.out _|refine IsS62.far ?_ NB0_309.out _)|exact HI0.out));(case side2 => repeat (first|(with_reducible first|exact HB.out|apply lA|apply lN|apply lD|refine lS ?_ (IsS62.ge HI0.out)|refine lS ?_ GE292.out|refine lS ?_ GE309.out)|exact HB.out));rintro e w72 ⟨rfl,hi,hb,hk⟩;refine ⟨_,rfl,?_⟩;have n0_:=aM (KeepBut.blk hk (g':=gb292) (o:=.cells #[.slice none 0 0,.slice none 0 0,.string (⟨#[]⟩ : ByteArray)] 35 (0,0)) (by (with_reducible repeat (first|refine bN ?_ _|refine bD ?_|refine bA ?_ _));exact BK292.out) NB292_0.out (by simp));have n1_:=aM (Kd.R_mono (Kd.R_keep (IsS62.apart (show IsS62 w0 _ g s0_0 t311 t312 from by repeat (first|(with_reducible first|exact HI0.out|apply IsS62.alloc|apply IsS62.drewN|apply IsS62.drew|apply IsS62.set_1|apply IsS62.set_2|refine IsS62.far ?_ NB0_292.out _|refine IsS62.far ?_ NB0_309.out _)|exact HI0.out)) (rZ HO295.out) (by decide)) hk (fun _ h => h.2)) (fun _ h => h.1));have n2_:=aM (Kd.R_mono (Kd.R_keep (IsS62.apart (show IsS62 w0 _ g s0_0 t311 t312 from by repeat (first|(with_reducible first|exact HI0.out|apply IsS62.alloc|apply IsS62.drewN|apply IsS62.drew|apply IsS62.set_1|apply IsS62.set_2|refine IsS62.far ?_ NB0_292.out _|refine IsS62.far ?_ NB0_309.out _)|exact HI0.out)) (rZ HO298.out) (by decide)) hk (fun _ h => h.2)) (fun _ h => h.1));have n3_:=aM (Kd.R_mono (Kd.R_keep (IsS62.apart (show IsS62 w0 _ g s0_0 t311 t312 from by repeat (first|(with_reducible first|exact HI0.out|apply IsS62.alloc|apply IsS62.drewN|apply IsS62.drew|apply IsS62.set_1|apply IsS62.set_2|refine IsS62.far ?_ NB0_292.out _|refine IsS62.far ?_ NB0_309.out _)|exact HI0.out)) (rZ HO304.out) (by decide)) hk (fun _ h => h.2)) (fun _ h => h.1));have n4_:=aM (Kd.R_mono (Kd.R_keep (IsS62.apart (show IsS62 w0 _ g s0_0 t311 t312 from by repeat (first|(with_reducible first|exact HI0.out|apply IsS62.alloc|apply IsS62.drewN|apply IsS62.drew|apply IsS62.set_1|apply IsS62.set_2|refine IsS62.far ?_ NB0_292.out _|refine IsS62.far ?_ NB0_309.out _)|exact HI0.out)) (rZ HO307.out) (by decide)) hk (fun _ h => h.2)) (fun _ h => h.1));have n5_:=aM (KeepBut.blk hk (g':=gb309) (o:=.cells #[.slice Ao66 t302.length co66,.slice Ao70 t305.length co70,.string t308] 35 (0,0)) (by (with_reducible repeat (first|refine bN ?_ _|refine bD ?_|refine bA ?_ _));exact BK309.out) NB309_0.out (by simp));have n6_:=aM (KeepBut.trans (by repeat (first|(with_reducible first|exact HK.out|apply KeepBut.set_|apply keep_drewN|apply keep_drew|apply keep_alloc|refine keep_far ?_ GW292.out _|refine keep_far ?_ GW309.out _)|exact HK.out)) hk (.inl rfl));have n7_:=aM (hb);have n8_:=aM (hi);clear BK292 HO295 HO298 HO304 HO307 BK309 HK HB HI0;have BK292:=n0_;have HO295:=n1_;have HO298:=n2_;have HO304:=n3_;have HO307:=n4_;have BK309:=n5_;have HK:=n6_;have HB:=n7_;have HI0:=n8_;clear n0_ n1_ n2_ n3_ n4_ n5_ n6_ n7_ n8_;(try clear hb);(try clear hb2);(try clear hk);(try clear hi))|((with_reducible refine gate_callee (f:=44) rfl ?_);refine goesL_ (some 36) rfl rfl Try.func44 (by kernel_rfl) rfl #[.int .i64 (wrap64 (3000 + t331)),.int .u8 65] rfl (by (try simp only [List.map_toArray,List.map_cons,List.map_nil]);first|done|rfl|(simp only [List.length_drop,List.length_take];rfl)) ?_;(with_reducible refine (spec_l01Long.calls k (wrap64 (3000 + t331)) 65 t334 _ A59.out).mono ?_);rintro e w73 ⟨rfl,hb⟩;refine ⟨_,rfl,?_⟩;have n0_:=aM (rH HO295.out hb);have n1_:=aM (rH HO298.out hb);have n2_:=aM (rH HO304.out hb);have n3_:=aM (rH HO307.out hb);have n4_:=aM (IsS62.below (by repeat (first|(with_reducible first|exact HI0.out|apply IsS62.alloc|apply IsS62.drewN|apply IsS62.drew|apply IsS62.set_1|apply IsS62.set_2|refine IsS62.far ?_ NB0_292.out _|refine IsS62.far ?_ NB0_309.out _)|exact HI0.out)) hb);have n5_:=aM (bH BK292.out hb);have n6_:=aM (bH BK309.out hb);have n7_:=aM (KeepBut.trans (by repeat (first|(with_reducible first|exact HK.out|apply KeepBut.set_|apply keep_drewN|apply keep_drew|apply keep_alloc|refine keep_far ?_ GW292.out _|refine keep_far ?_ GW309.out _)|exact HK.out)) (KeepBut.of_below hb g none) (.inl rfl));have n8_:=aM (lP (by repeat (first|(with_reducible first|exact HB.out|apply lA|apply lN|apply lD|refine lS ?_ (IsS62.ge HI0.out)|refine lS ?_ GE292.out|refine lS ?_ GE309.out)|exact HB.out)) hb);clear HO295 HO298 HO304 HO307 HI0 BK292 BK309 HK HB;have HO295:=n0_;have HO298:=n1_;have HO304:=n2_;have HO307:=n3_;have HI0:=n4_;have BK292:=n5_;have BK309:=n6_;have HK:=n7_;have HB:=n8_;clear n0_ n1_ n2_ n3_ n4_ n5_ n6_ n7_ n8_;(try clear hb);(try clear hb2);(try clear hk);(try clear hi);obtain ⟨⟨hcz74_0,hcz74_1,hcz74_2⟩,hfz74_0,hfz74_1,hfz74_2⟩:=bC3 BK309.out;have hnb75:=NB292_0.out;have hnc75:=NB0_292.out;obtain ⟨⟨hcz76_0,hcz76_1,hcz76_2⟩,hfz76_0,hfz76_1,hfz76_2⟩:=bC3 BK292.out))
    refine bodyPost_ret (results_cell_row rfl _ _ gb292 35 #[.slice Ao66 t302.length co66,.slice Ao70 t305.length co70,.string t334] (0,0) _ rfl (by (with_reducible repeat (first|refine bN ?_ _|refine bD ?_|refine bA ?_ _));refine blk_put (cs:=#[.slice Ao66 t302.length co66,.slice Ao70 t305.length co70,.string (⟨#[]⟩ : ByteArray)]) ?_ 2 _ rfl;(with_reducible repeat (first|refine bN ?_ _|refine bD ?_|refine bA ?_ _));refine blk_put (cs:=#[.slice Ao66 t302.length co66,.slice none 0 0,.string (⟨#[]⟩ : ByteArray)]) ?_ 1 _ rfl;(with_reducible repeat (first|refine bN ?_ _|refine bD ?_|refine bA ?_ _));refine blk_put (cs:=#[.slice none 0 0,.slice none 0 0,.string (⟨#[]⟩ : ByteArray)]) ?_ 0 _ rfl;(with_reducible repeat (first|refine bN ?_ _|refine bD ?_|refine bA ?_ _));refine blk_far ?_ NB292_309.out _;(with_reducible repeat (first|refine bN ?_ _|refine bD ?_|refine bA ?_ _));exact BK292.out) Try.underlying35 rfl (by kernel_rfl)) rfl ?_
    exact ⟨_,_,by first|rfl|(simp [errW_none,errW_some] <;> rfl)|(simp [*,errW_none,errW_some] <;> rfl),by (with_reducible repeat (first|apply rA|apply rN|apply rD));exact Kd.R_mono (rF (rF (rF (rF (rY (rY HO304.out BK309.out (by decide)) BK292.out (by decide)) (fun _ hk => hk.1.2) _) (fun _ hk => hk.2) _) (fun _ hk => hk.2) _) (fun _ hk => hk.2) _) (fun _ hk => trivial),by (with_reducible repeat (first|apply rA|apply rN|apply rD));exact Kd.R_mono (rF (rF (rF (rF (rY (rY HO307.out BK309.out (by decide)) BK292.out (by decide)) (fun _ hk => hk.1.2) _) (fun _ hk => hk.2) _) (fun _ hk => hk.2) _) (fun _ hk => hk.2) _) (fun _ hk => trivial),by repeat (first|(with_reducible first|exact HI0.out|apply IsS62.alloc|apply IsS62.drewN|apply IsS62.drew|apply IsS62.set_1|apply IsS62.set_2|refine IsS62.far ?_ NB0_292.out _|refine IsS62.far ?_ NB0_309.out _)|exact HI0.out),by repeat (first|(with_reducible first|exact HB.out|apply lA|apply lN|apply lD|refine lS ?_ (IsS62.ge HI0.out)|refine lS ?_ GE292.out|refine lS ?_ GE309.out)|exact HB.out),by repeat (first|(with_reducible first|exact HK.out|apply KeepBut.set_|apply keep_drewN|apply keep_drew|apply keep_alloc|refine keep_far ?_ GW292.out _|refine keep_far ?_ GW309.out _)|exact HK.out)⟩
   ·rw [if_neg c57] at H
    have c57b0 : (t310 == 2) = false:=beq_eq_false_iff_ne.mpr c57
    have c57b1 : (t310 != 2) = true:=bne_iff_ne.mpr c57
    by_cases c77 : t310 = 3
    ·rw [if_pos c77] at H
     have c77b0 : (t310 == 3) = true:=beq_iff_eq.mpr c77
     have c77b1 : (t310 != 3) = false:=bne_eq_false_iff_eq.mpr c77
     clear c77
     have H':=aM H
     clear H
     go_enter Try.func32,Try.ntmps32
     go_wp2_with (first|((with_reducible refine gate_dst (N:=2) rfl ?_);refine box_event ?hg (N:=2) ?hd (cs:=#[.slice none 0 0,.slice none 0 0,.string (⟨#[]⟩ : ByteArray)]) (t:=35) ?hr ?_;(case hd => rfl);(case hg => rfl);(case hr => first|(go_simp;done)|(go_simp;rfl));intro gb292 hg w78 hbox hb;have n0_:=aM (IsS62.below (by repeat (first|(with_reducible first|exact HI0.out|apply IsS62.alloc|apply IsS62.drewN|apply IsS62.drew|apply IsS62.set_1|apply IsS62.set_2)|exact HI0.out)) hb);have n1_:=aM (KeepBut.trans (by repeat (first|(with_reducible first|exact HK.out|apply KeepBut.set_|apply keep_drewN|apply keep_drew|apply keep_alloc)|exact HK.out)) (KeepBut.of_below hb g none) (.inl rfl));have n2_:=aM (lP (by repeat (first|(with_reducible first|exact HB.out|apply lA|apply lN|apply lD|refine lS ?_ (IsS62.ge HI0.out))|exact HB.out)) hb);have n3_:=aM (hbox);have n4_:=aM ((by rw [hg];exact (keep_size (w:=w) (g:=g) (row:=none) (by repeat (first|(with_reducible first|exact HK.out|apply KeepBut.set_|apply keep_drewN|apply keep_drew|apply keep_alloc)|exact HK.out))) : w.heap.size ≤ gb292));have n5_:=aM ((Nat.le_trans HW0.out (by rw [hg];exact (keep_size (w:=w) (g:=g) (row:=none) (by repeat (first|(with_reducible first|exact HK.out|apply KeepBut.set_|apply keep_drewN|apply keep_drew|apply keep_alloc)|exact HK.out))) : w.heap.size ≤ gb292) : w0.heap.size ≤ gb292));have n6_:=aM ((by rw [hg];exact Nat.ne_of_lt (IsS62.lt (show IsS62 w0 _ g s0_0 s0_1 s0_2 from by repeat (first|(with_reducible first|exact HI0.out|apply IsS62.alloc|apply IsS62.drewN|apply IsS62.drew|apply IsS62.set_1|apply IsS62.set_2)|exact HI0.out))) : g ≠ gb292));have n7_:=aM ((by rw [hg];exact Nat.ne_of_gt (IsS62.lt (show IsS62 w0 _ g s0_0 s0_1 s0_2 from by repeat (first|(with_reducible first|exact HI0.out|apply IsS62.alloc|apply IsS62.drewN|apply IsS62.drew|apply IsS62.set_1|apply IsS62.set_2)|exact HI0.out))) : gb292 ≠ g));clear HI0 HK HB;have HI0:=n0_;have HK:=n1_;have HB:=n2_;have BK292:=n3_;have GW292:=n4_;have GE292:=n5_;have NB0_292:=n6_;have NB292_0:=n7_;clear n0_ n1_ n2_ n3_ n4_ n5_ n6_ n7_ hb hbox hg)|((with_reducible refine gate_callee (f:=27) rfl ?_);refine goesL_ (some 5) rfl rfl Try.func27 (by kernel_rfl) rfl #[.pointer (some ⟨g,0,none⟩)] rfl (by (try simp only [List.map_toArray,List.map_cons,List.map_nil]);first|done|rfl|(simp only [List.length_drop,List.length_take];rfl)) ?_;(with_reducible refine (spec_l08Store.calls k g s0_0 s0_1 s0_2 t293 t296 t299 t300 t301 w0 _ ?side1 ?side2 A2.out).mono ?_);(case side1 => repeat (first|(with_reducible first|exact HI0.out|apply IsS62.alloc|apply IsS62.drewN|apply IsS62.drew|apply IsS62.set_1|apply IsS62.set_2|refine IsS62.far ?_ NB0_292.out _)|exact HI0.out));(case side2 => repeat (first|(with_reducible first|exact HB.out|apply lA|apply lN|apply lD|refine lS ?_ (IsS62.ge HI0.out)|refine lS ?_ GE292.out)|exact HB.out));rintro e w79 ⟨v294,v297,rfl,ho0,ho1,hi,hb,hk⟩;refine ⟨_,rfl,?_⟩;have n0_:=aM (KeepBut.blk hk (g':=gb292) (o:=.cells #[.slice none 0 0,.slice none 0 0,.string (⟨#[]⟩ : ByteArray)] 35 (0,0)) (by (with_reducible repeat (first|refine bN ?_ _|refine bD ?_|refine bA ?_ _));exact BK292.out) NB292_0.out (by simp));have n1_:=aM (rL ho0 (keep_size (w:=w) (g:=g) (row:=none) (by repeat (first|(with_reducible first|exact HK.out|apply KeepBut.set_|apply keep_drewN|apply keep_drew|apply keep_alloc|refine keep_far ?_ GW292.out _)|exact HK.out))));have n2_:=aM (rL ho1 (keep_size (w:=w) (g:=g) (row:=none) (by repeat (first|(with_reducible first|exact HK.out|apply KeepBut.set_|apply keep_drewN|apply keep_drew|apply keep_alloc|refine keep_far ?_ GW292.out _)|exact HK.out))));have n3_:=aM (KeepBut.trans (by repeat (first|(with_reducible first|exact HK.out|apply KeepBut.set_|apply keep_drewN|apply keep_drew|apply keep_alloc|refine keep_far ?_ GW292.out _)|exact HK.out)) hk (.inl rfl));have n4_:=aM (hb);have n5_:=aM (hi);clear BK292 HK HB HI0;have BK292:=n0_;have HO295:=n1_;have HO298:=n2_;have HK:=n3_;have HB:=n4_;have HI0:=n5_;clear n0_ n1_ n2_ n3_ n4_ n5_;(try clear hb);(try clear hb2);(try clear hk);(try clear hi);(try clear ho0);(try clear ho1);obtain ⟨Ao80,co80,eo80⟩:=Kd.R_slice HO295.out;subst eo80;obtain ⟨Ao81,co81,eo81⟩:=Kd.R_slice HO298.out;subst eo81)|((with_reducible refine gate_callee (f:=35) rfl ?_);refine goesL_ (some 6) rfl rfl Try.func35 (by kernel_rfl) rfl #[.agg #[.slice Ao80 t293.length co80,.slice Ao81 t296.length co81,.string t299]] rfl (by (try simp only [List.map_toArray,List.map_cons,List.map_nil]);first|done|rfl|(simp only [List.length_drop,List.length_take];rfl)) ?_;(with_reducible refine (spec_l08Copy.calls _ _ t293 _ _ t296 t299 t302 t305 t308 _ ?side1 ?side2 ?side3 ?side4 A3.out).mono ?_);(case side1 => repeat (first|exact (rR HO295.out).2.2|(with_reducible first|refine cA ?_ _|refine cN ?_ _|refine cD ?_)));(case side2 => exact (rR HO295.out).2.1);(case side3 => repeat (first|exact (rR HO298.out).2.2|(with_reducible first|refine cA ?_ _|refine cN ?_ _|refine cD ?_)));(case side4 => exact (rR HO298.out).2.1);rintro e w82 ⟨v303,v306,rfl,ho0,ho1,hb⟩;refine ⟨_,rfl,?_⟩;have n0_:=aM (rE (rZ HO295.out) (rS ho0) hb);have n1_:=aM (rE (rZ HO298.out) (rS ho1) hb);have n2_:=aM (rL (rW ho0 (rT (rZ HO295.out))) (keep_size (w:=w) (g:=g) (row:=none) (by repeat (first|(with_reducible first|exact HK.out|apply KeepBut.set_|apply keep_drewN|apply keep_drew|apply keep_alloc|refine keep_far ?_ GW292.out _)|exact HK.out))));have n3_:=aM (rL (rW ho1 (rT (rZ HO298.out))) (keep_size (w:=w) (g:=g) (row:=none) (by repeat (first|(with_reducible first|exact HK.out|apply KeepBut.set_|apply keep_drewN|apply keep_drew|apply keep_alloc|refine keep_far ?_ GW292.out _)|exact HK.out))));have n4_:=aM (IsS62.below (by repeat (first|(with_reducible first|exact HI0.out|apply IsS62.alloc|apply IsS62.drewN|apply IsS62.drew|apply IsS62.set_1|apply IsS62.set_2|refine IsS62.far ?_ NB0_292.out _)|exact HI0.out)) hb);have n5_:=aM (bH BK292.out hb);have n6_:=aM (KeepBut.trans (by repeat (first|(with_reducible first|exact HK.out|apply KeepBut.set_|apply keep_drewN|apply keep_drew|apply keep_alloc|refine keep_far ?_ GW292.out _)|exact HK.out)) (KeepBut.of_below hb g none) (.inl rfl));have n7_:=aM (lP (by repeat (first|(with_reducible first|exact HB.out|apply lA|apply lN|apply lD|refine lS ?_ (IsS62.ge HI0.out)|refine lS ?_ GE292.out)|exact HB.out)) hb);clear HO295 HO298 HI0 BK292 HK HB;have HO295:=n0_;have HO298:=n1_;have HO304:=n2_;have HO307:=n3_;have HI0:=n4_;have BK292:=n5_;have HK:=n6_;have HB:=n7_;clear n0_ n1_ n2_ n3_ n4_ n5_ n6_ n7_;(try clear hb);(try clear hb2);(try clear hk);(try clear hi);(try clear ho0);(try clear ho1))|((with_reducible refine gate_dst (N:=3) rfl ?_);refine box_event ?hg (N:=3) ?hd (cs:=#[.slice none 0 0,.slice none 0 0,.string (⟨#[]⟩ : ByteArray)]) (t:=35) ?hr ?_;(case hd => rfl);(case hg => rfl);(case hr => first|(go_simp;done)|(go_simp;rfl));intro gb309 hg w83 hbox hb;have n0_:=aM (rH HO295.out hb);have n1_:=aM (rH HO298.out hb);have n2_:=aM (rH HO304.out hb);have n3_:=aM (rH HO307.out hb);have n4_:=aM (IsS62.below (by repeat (first|(with_reducible first|exact HI0.out|apply IsS62.alloc|apply IsS62.drewN|apply IsS62.drew|apply IsS62.set_1|apply IsS62.set_2|refine IsS62.far ?_ NB0_292.out _)|exact HI0.out)) hb);have n5_:=aM (bH BK292.out hb);have n6_:=aM (KeepBut.trans (by repeat (first|(with_reducible first|exact HK.out|apply KeepBut.set_|apply keep_drewN|apply keep_drew|apply keep_alloc|refine keep_far ?_ GW292.out _)|exact HK.out)) (KeepBut.of_below hb g none) (.inl rfl));have n7_:=aM (lP (by repeat (first|(with_reducible first|exact HB.out|apply lA|apply lN|apply lD|refine lS ?_ (IsS62.ge HI0.out)|refine lS ?_ GE292.out)|exact HB.out)) hb);have n8_:=aM (hbox);have n9_:=aM ((by rw [hg];exact (keep_size (w:=w) (g:=g) (row:=none) (by repeat (first|(with_reducible first|exact HK.out|apply KeepBut.set_|apply keep_drewN|apply keep_drew|apply keep_alloc|refine keep_far ?_ GW292.out _)|exact HK.out))) : w.heap.size ≤ gb309));have n10_:=aM ((Nat.le_trans HW0.out (by rw [hg];exact (keep_size (w:=w) (g:=g) (row:=none) (by repeat (first|(with_reducible first|exact HK.out|apply KeepBut.set_|apply keep_drewN|apply keep_drew|apply keep_alloc|refine keep_far ?_ GW292.out _)|exact HK.out))) : w.heap.size ≤ gb309) : w0.heap.size ≤ gb309));have n11_:=aM ((nL hg BK292.out : gb292 ≠ gb309));have n12_:=aM ((nG hg BK292.out : gb309 ≠ gb292));have n13_:=aM ((by rw [hg];exact Nat.ne_of_lt (IsS62.lt (show IsS62 w0 _ g s0_0 t300 t301 from by repeat (first|(with_reducible first|exact HI0.out|apply IsS62.alloc|apply IsS62.drewN|apply IsS62.drew|apply IsS62.set_1|apply IsS62.set_2|refine IsS62.far ?_ NB0_292.out _)|exact HI0.out))) : g ≠ gb309));have n14_:=aM ((by rw [hg];exact Nat.ne_of_gt (IsS62.lt (show IsS62 w0 _ g s0_0 t300 t301 from by repeat (first|(with_reducible first|exact HI0.out|apply IsS62.alloc|apply IsS62.drewN|apply IsS62.drew|apply IsS62.set_1|apply IsS62.set_2|refine IsS62.far ?_ NB0_292.out _)|exact HI0.out))) : gb309 ≠ g));clear HO295 HO298 HO304 HO307 HI0 BK292 HK HB;have HO295:=n0_;have HO298:=n1_;have HO304:=n2_;have HO307:=n3_;have HI0:=n4_;have BK292:=n5_;have HK:=n6_;have HB:=n7_;have BK309:=n8_;have GW309:=n9_;have GE309:=n10_;have NB292_309:=n11_;have NB309_292:=n12_;have NB0_309:=n13_;have NB309_0:=n14_;clear n0_ n1_ n2_ n3_ n4_ n5_ n6_ n7_ n8_ n9_ n10_ n11_ n12_ n13_ n14_ hb hbox hg;obtain ⟨Ao84,co84,eo84⟩:=Kd.R_slice HO304.out;subst eo84;have hnb85:=NB309_292.out;have hnc85:=NB292_309.out;have hnb86:=NB309_0.out;have hnc86:=NB0_309.out;obtain ⟨⟨hcz87_0,hcz87_1,hcz87_2⟩,hfz87_0,hfz87_1,hfz87_2⟩:=bC3 BK309.out;obtain ⟨Ao88,co88,eo88⟩:=Kd.R_slice HO307.out;subst eo88)|((with_reducible refine gate_callee (f:=24) rfl ?_);refine goesL_ (some 8) rfl rfl Try.func24 (by kernel_rfl) rfl #[.pointer (some ⟨g,0,none⟩),.int .i64 12] rfl (by (try simp only [List.map_toArray,List.map_cons,List.map_nil]);first|done|rfl|(simp only [List.length_drop,List.length_take];rfl)) ?_;(with_reducible refine (spec_l01Below.calls g s0_0 t300 t301 12 t310 t311 t312 w0 _ ?side1 ?side2 A4.out).mono ?_);(case side1 => repeat (first|(with_reducible first|exact HI0.out|apply IsS62.alloc|apply IsS62.drewN|apply IsS62.drew|apply IsS62.set_1|apply IsS62.set_2|refine IsS62.far ?_ NB0_292.out _|refine IsS62.far ?_ NB0_309.out _)|exact HI0.out));(case side2 => repeat (first|(with_reducible first|exact HB.out|apply lA|apply lN|apply lD|refine lS ?_ (IsS62.ge HI0.out)|refine lS ?_ GE292.out|refine lS ?_ GE309.out)|exact HB.out));rintro e w89 ⟨rfl,hi,hb,hk⟩;refine ⟨_,rfl,?_⟩;have n0_:=aM (KeepBut.blk hk (g':=gb292) (o:=.cells #[.slice none 0 0,.slice none 0 0,.string (⟨#[]⟩ : ByteArray)] 35 (0,0)) (by (with_reducible repeat (first|refine bN ?_ _|refine bD ?_|refine bA ?_ _));refine blk_far ?_ NB292_309.out _;(with_reducible repeat (first|refine bN ?_ _|refine bD ?_|refine bA ?_ _));refine blk_far ?_ NB292_309.out _;(with_reducible repeat (first|refine bN ?_ _|refine bD ?_|refine bA ?_ _));refine blk_far ?_ NB292_309.out _;(with_reducible repeat (first|refine bN ?_ _|refine bD ?_|refine bA ?_ _));exact BK292.out) NB292_0.out (by simp));have n1_:=aM (Kd.R_mono (Kd.R_keep (IsS62.apart (show IsS62 w0 _ g s0_0 t300 t301 from by repeat (first|(with_reducible first|exact HI0.out|apply IsS62.alloc|apply IsS62.drewN|apply IsS62.drew|apply IsS62.set_1|apply IsS62.set_2|refine IsS62.far ?_ NB0_292.out _|refine IsS62.far ?_ NB0_309.out _)|exact HI0.out)) (by (with_reducible repeat (first|apply rA|apply rN|apply rD));exact (Kd.R_mono (rF (rF (rF (rY HO295.out BK309.out (by decide)) (fun _ hk => hk.2) _) (fun _ hk => hk.2) _) (fun _ hk => hk.2) _) (fun _ h_ => h_.1))) (by decide)) hk (fun _ h => h.2)) (fun _ h => h.1));have n2_:=aM (Kd.R_mono (Kd.R_keep (IsS62.apart (show IsS62 w0 _ g s0_0 t300 t301 from by repeat (first|(with_reducible first|exact HI0.out|apply IsS62.alloc|apply IsS62.drewN|apply IsS62.drew|apply IsS62.set_1|apply IsS62.set_2|refine IsS62.far ?_ NB0_292.out _|refine IsS62.far ?_ NB0_309.out _)|exact HI0.out)) (by (with_reducible repeat (first|apply rA|apply rN|apply rD));exact (Kd.R_mono (rF (rF (rF (rY HO298.out BK309.out (by decide)) (fun _ hk => hk.2) _) (fun _ hk => hk.2) _) (fun _ hk => hk.2) _) (fun _ h_ => h_.1))) (by decide)) hk (fun _ h => h.2)) (fun _ h => h.1));have n3_:=aM (Kd.R_mono (Kd.R_keep (IsS62.apart (show IsS62 w0 _ g s0_0 t300 t301 from by repeat (first|(with_reducible first|exact HI0.out|apply IsS62.alloc|apply IsS62.drewN|apply IsS62.drew|apply IsS62.set_1|apply IsS62.set_2|refine IsS62.far ?_ NB0_292.out _|refine IsS62.far ?_ NB0_309.out _)|exact HI0.out)) (by (with_reducible repeat (first|apply rA|apply rN|apply rD));exact (Kd.R_mono (rF (rF (rF (rY HO304.out BK309.out (by decide)) (fun _ hk => hk.2) _) (fun _ hk => hk.2) _) (fun _ hk => hk.2) _) (fun _ h_ => h_.1))) (by decide)) hk (fun _ h => h.2)) (fun _ h => h.1));have n4_:=aM (Kd.R_mono (Kd.R_keep (IsS62.apart (show IsS62 w0 _ g s0_0 t300 t301 from by repeat (first|(with_reducible first|exact HI0.out|apply IsS62.alloc|apply IsS62.drewN|apply IsS62.drew|apply IsS62.set_1|apply IsS62.set_2|refine IsS62.far ?_ NB0_292.out _|refine IsS62.far ?_ NB0_309.out _)|exact HI0.out)) (by (with_reducible repeat (first|apply rA|apply rN|apply rD));exact (Kd.R_mono (rF (rF (rF (rY HO307.out BK309.out (by decide)) (fun _ hk => hk.2) _) (fun _ hk => hk.2) _) (fun _ hk => hk.2) _) (fun _ h_ => h_.1))) (by decide)) hk (fun _ h => h.2)) (fun _ h => h.1));have n5_:=aM (KeepBut.blk hk (g':=gb309) (o:=.cells #[.slice Ao84 t302.length co84,.slice Ao88 t305.length co88,.string t308] 35 (0,0)) (by (with_reducible repeat (first|refine bN ?_ _|refine bD ?_|refine bA ?_ _));refine blk_put (cs:=#[.slice Ao84 t302.length co84,.slice Ao88 t305.length co88,.string (⟨#[]⟩ : ByteArray)]) ?_ 2 _ rfl;(with_reducible repeat (first|refine bN ?_ _|refine bD ?_|refine bA ?_ _));refine blk_put (cs:=#[.slice Ao84 t302.length co84,.slice none 0 0,.string (⟨#[]⟩ : ByteArray)]) ?_ 1 _ rfl;(with_reducible repeat (first|refine bN ?_ _|refine bD ?_|refine bA ?_ _));refine blk_put (cs:=#[.slice none 0 0,.slice none 0 0,.string (⟨#[]⟩ : ByteArray)]) ?_ 0 _ rfl;(with_reducible repeat (first|refine bN ?_ _|refine bD ?_|refine bA ?_ _));exact BK309.out) NB309_0.out (by simp));have n6_:=aM (KeepBut.trans (by repeat (first|(with_reducible first|exact HK.out|apply KeepBut.set_|apply keep_drewN|apply keep_drew|apply keep_alloc|refine keep_far ?_ GW292.out _|refine keep_far ?_ GW309.out _)|exact HK.out)) hk (.inl rfl));have n7_:=aM (hb);have n8_:=aM (hi);clear BK292 HO295 HO298 HO304 HO307 BK309 HK HB HI0;have BK292:=n0_;have HO295:=n1_;have HO298:=n2_;have HO304:=n3_;have HO307:=n4_;have BK309:=n5_;have HK:=n6_;have HB:=n7_;have HI0:=n8_;clear n0_ n1_ n2_ n3_ n4_ n5_ n6_ n7_ n8_;(try clear hb);(try clear hb2);(try clear hk);(try clear hi)))
     go_loopg [] k (fun kq w' => ∃ (x1001_1 : Int) (x1002_1 : Int) (x310000_1 : List (S59)) (u310000 : Value),Aside0 (spec_l08Any.l0 kq s0_0 x1001_1 x1002_1 x310000_1 t305 t308 = some (r1,r2,r3,r4,r5)) ∧ Aside0 (kq ≤ k) ∧ Aside0 (Kd.R k59 59 w' w.heap.size (fun _ => True) u310000 x310000_1) ∧ Aside0 (Kd.R k39 39 w' w.heap.size (fun _ => True) (.slice Ao88 t305.length co88) t305) ∧ Aside0 (w'.heap[gb292]? = some (.cells #[(.slice none 0 0),(.slice none 0 0),.string (⟨#[]⟩ : ByteArray)] 35 (0,0))) ∧ Aside0 (w'.heap[gb309]? = some (.cells #[u310000,(.slice Ao88 t305.length co88),.string t308] 35 (0,0))) ∧ Aside0 (IsS62 w0 w' g s0_0 x1001_1 x1002_1) ∧ Aside0 (KeepBut w w' g none) ∧ Aside0 (Below w0.heap.size w0 w'))
     case atStart => exact ⟨(t311),(t312),(t302),(.slice Ao84 t302.length co84),H',⟨Nat.le_refl _⟩,⟨by (with_reducible repeat (first|apply rA|apply rN|apply rD));exact Kd.R_mono HO304.out (fun _ hk => trivial)⟩,⟨by (with_reducible repeat (first|apply rA|apply rN|apply rD));exact Kd.R_mono HO307.out (fun _ hk => trivial)⟩,⟨by (with_reducible repeat (first|refine bN ?_ _|refine bD ?_|refine bA ?_ _));exact BK292.out⟩,⟨by (with_reducible repeat (first|refine bN ?_ _|refine bD ?_|refine bA ?_ _));exact BK309.out⟩,⟨by repeat (first|(with_reducible first|exact HI0.out|apply IsS62.alloc|apply IsS62.drewN|apply IsS62.drew|apply IsS62.set_1|apply IsS62.set_2|refine IsS62.far ?_ NB0_292.out _|refine IsS62.far ?_ NB0_309.out _)|exact HI0.out)⟩,⟨by repeat (first|(with_reducible first|exact HK.out|apply KeepBut.set_|apply keep_drewN|apply keep_drew|apply keep_alloc|refine keep_far ?_ GW292.out _|refine keep_far ?_ GW309.out _)|exact HK.out)⟩,⟨by repeat (first|(with_reducible first|exact HB.out|apply lA|apply lN|apply lD|refine lS ?_ (IsS62.ge HI0.out)|refine lS ?_ GE292.out|refine lS ?_ GE309.out)|exact HB.out)⟩⟩
     case round =>
      clear H'
      try clear c1
      try clear c2
      try clear p2
      try clear c3
      try clear c4
      try clear c5
      try clear c5b0
      try clear c5b1
      try clear c6
      try clear p6
      try clear c7
      try clear c8
      try clear c15
      try clear c16
      try clear c24
      try clear c27
      try clear c29
      try clear c31
      try clear c31b0
      try clear c31b1
      try clear c32
      try clear c33
      try clear c34
      try clear c35
      try clear c41
      try clear c42
      try clear c44
      try clear c55
      try clear c57
      try clear c57b0
      try clear c57b1
      try clear p64
      try clear c67
      try clear c68
      try clear c75
      try clear c77
      try clear c77b0
      try clear c77b1
      try clear c85
      try clear c86
      try clear hcz17_0
      try clear hcz17_1
      try clear hcz17_2
      try clear hcz28_0
      try clear hcz28_1
      try clear hcz28_2
      try clear hcz30_0
      try clear hcz30_1
      try clear hcz30_2
      try clear hcz43_0
      try clear hcz43_1
      try clear hcz43_2
      try clear hcz54_0
      try clear hcz54_1
      try clear hcz54_2
      try clear hcz56_0
      try clear hcz56_1
      try clear hcz56_2
      try clear hcz69_0
      try clear hcz69_1
      try clear hcz69_2
      try clear hcz74_0
      try clear hcz74_1
      try clear hcz74_2
      try clear hcz76_0
      try clear hcz76_1
      try clear hcz76_2
      try clear hcz87_0
      try clear hcz87_1
      try clear hcz87_2
      obtain ⟨x1001_1,x1002_1,x310000_1,u310000,HA,HK1,HO_310000,HO_310001,BK292,BK309,HI0,HK,HB⟩:=hrel
      cases gk with
      |zero => exact absurd HA.out (by simp [spec_l08Any.l0])
      |succ k1 =>
       have H:=HA.out
       clear HA
       simp only [spec_l08Any.l0] at H
       replace H:=Option.bind_eq_some_iff.mp H
       obtain ⟨⟨t335,t336,t337⟩,A900,H⟩:=H
       replace H : (if (x310000_1.length : Int) < (wrap64 (59 + t335)) then ((some (([(wrap64 (97 + (wrap64 ((x310000_1.length : Int) / 26)))) % 256,97 + ((x310000_1.length : Int) % 26)] : List Int) : List Int)).bind fun y338 => (if 2 + (strOfNums y338).size ≤ 9223372036854775807 then (if x310000_1.length < 4398046511104 then (spec_l08Any.l0 k1 s0_0 t336 t337 (x310000_1 ++ [(⟨(⟨#[122,122]⟩ : ByteArray) ++ (strOfNums y338),(⟨#[]⟩ : ByteArray)⟩ : S59)]) t305 t308) else (none)) else (none))) else (some (x310000_1,t305,t308,t336,t337))) = some (r1,r2,r3,r4,r5):=H
       have A90:=aM A900
       clear A900
       by_cases c91 : (x310000_1.length : Int) < (wrap64 (59 + t335))
       ·rw [if_pos c91] at H
        have c91b0 : decide ((x310000_1.length : Int) < (wrap64 (59 + t335))) = true:=decide_eq_true c91
        clear c91
        obtain ⟨y338,hy338⟩ : ∃ y_ : List Int,y_ = (([(wrap64 (97 + (wrap64 ((x310000_1.length : Int) / 26)))) % 256,97 + ((x310000_1.length : Int) % 26)] : List Int)):=⟨_,rfl⟩
        replace H : (if 2 + (strOfNums y338).size ≤ 9223372036854775807 then (if x310000_1.length < 4398046511104 then (spec_l08Any.l0 k1 s0_0 t336 t337 (x310000_1 ++ [(⟨(⟨#[122,122]⟩ : ByteArray) ++ (strOfNums y338),(⟨#[]⟩ : ByteArray)⟩ : S59)]) t305 t308) else (none)) else (none)) = some (r1,r2,r3,r4,r5):=by first|(rw [hy338];with_reducible exact H)|(have H2_:=(Option.bind_some _ _).symm.trans H;rw [hy338];with_reducible exact H2_)|(have H2_:=(Option.bind_some _ _).symm.trans H;with_reducible exact H2_)|with_reducible exact H|(rw [hy338];exact H)|exact H
        have Ny338:=aM hy338
        clear hy338
        by_cases c92 : 2 + (strOfNums y338).size ≤ 9223372036854775807
        ·rw [if_pos c92] at H
         have c92b0:=eq_true c92
         have c92b1 : decide (2 + (strOfNums y338).size ≤ 9223372036854775807) = true:=decide_eq_true c92
         try have c92b2 : (9223372036854775807 < 2 + (strOfNums y338).size) = False:=eq_false (Nat.not_lt.2 c92)
         by_cases c93 : x310000_1.length < 4398046511104
         ·rw [if_pos c93] at H
          have LMc93:=aM c93
          clear c93
          obtain ⟨y341,hy341⟩ : ∃ y_ : List (S59),y_ = (x310000_1 ++ [(⟨(⟨#[122,122]⟩ : ByteArray) ++ (strOfNums y338),(⟨#[]⟩ : ByteArray)⟩ : S59)]):=⟨_,rfl⟩
          replace H : (spec_l08Any.l0 k1 s0_0 t336 t337 y341 t305 t308) = some (r1,r2,r3,r4,r5):=by first|(rw [hy341];with_reducible exact H)|(have H2_:=(Option.bind_some _ _).symm.trans H;rw [hy341];with_reducible exact H2_)|(have H2_:=(Option.bind_some _ _).symm.trans H;with_reducible exact H2_)|with_reducible exact H|(rw [hy341];exact H)|exact H
          have Ny341:=aM hy341
          clear hy341
          have H':=aM H
          clear H
          try go_wp2
          have n0_:=aM (rD HO_310000.out)
          have n1_:=aM (rD HO_310001.out)
          have n2_:=aM (bD BK292.out)
          have n3_:=aM (bD BK309.out)
          have n4_:=aM (IsS62.drew HI0.out)
          have n5_:=aM (keep_drew HK.out)
          have n6_:=aM (lD HB.out)
          clear HO_310000
          clear HO_310001
          clear BK292
          clear BK309
          clear HI0
          clear HK
          clear HB
          have HO_310000:=n0_
          have HO_310001:=n1_
          have BK292:=n2_
          have BK309:=n3_
          have HI0:=n4_
          have HK:=n5_
          have HB:=n6_
          clear n0_ n1_ n2_ n3_ n4_ n5_ n6_
          obtain ⟨Ao95,co95,eo95⟩:=Kd.R_slice HO_310000.out
          (first|subst eo95|(injection eo95 with f1_ f2_ f3_;have f4_:=f1_.symm;have f5_:=f3_.symm;clear f1_ f2_ f3_;subst f4_;subst f5_))
          refine start_ (n:=7) (S:=fun w' => w'.cell? ⟨gb309,0,none⟩ = some (.slice Ao95 x310000_1.length co95) ∧ w'.cell? ⟨gb309,1,none⟩ = some (.slice Ao88 t305.length co88) ∧ w'.cell? ⟨gb309,2,none⟩ = some (.string t308)) (ds:=[]) #[bf,bf,bf,bf,bf,bf,bf] (by kernel_rfl) rfl rfl ⟨(bC BK309.out 0).trans rfl,(bC BK309.out 1).trans rfl,(bC BK309.out 2).trans rfl⟩ (fun hHeld => ?_)
          generalize wr.drew = w94 at HO_310000 HO_310001 BK292 BK309 HI0 HK HB hHeld ⊢
          refine pure_ (i:=0) (N:=some 40) (v:=?_) (a':=?_) #[bT,bf,bf,bf,bf,bf,bf] rfl rfl (by kernel_rfl) (fun _ _ _ h => h) (Or.inl ⟨by rfl,?_⟩) ?_ ?_
          rotate_left
          ·intro w';go_simp;with_reducible rfl
          rotate_left
          ·simp only [Act.put,q_ia8,q_cz8,q_cs8,i64_w,i32_w];rfl
          refine pure_ (i:=3) (N:=some 43) (v:=?_) (a':=?_) #[bT,bf,bf,bT,bf,bf,bf] rfl rfl (by kernel_rfl) (fun _ _ _ h => h) (Or.inl ⟨by rfl,?_⟩) ?_ ?_
          rotate_left
          ·intro w';go_simp;with_reducible rfl
          rotate_left
          ·simp only [Act.put,q_ia8,q_cz8,q_cs8,i64_w,i32_w];rfl
          refine take_ (i:=1) (N:=some 41) (v:=?_) (a':=?_) #[bT,bT,bf,bT,bf,bf,bf] rfl rfl (by kernel_rfl) (fun _ _ _ h => h) (Or.inl ⟨by rfl,?_⟩) hHeld ?_ ?_
          rotate_left
          ·rintro w' ⟨s0,s1,s2⟩
           go_simp
           with_reducible rfl
          rotate_left
          ·simp only [Act.put,q_ia8,q_cz8,q_cs8,i64_w,i32_w];rfl
          refine pure_ (i:=2) (N:=some 42) (v:=?_) (a':=?_) #[bT,bT,bT,bT,bf,bf,bf] rfl rfl (by kernel_rfl) (fun _ _ _ h => h) (Or.inl ⟨by rfl,?_⟩) ?_ ?_
          rotate_left
          ·intro w';go_simp;with_reducible rfl
          rotate_left
          ·simp only [Act.put,q_ia8,q_cz8,q_cs8,i64_w,i32_w];rfl
          refine one_ (i:=4) (N:=some 44) #[bT,bT,bT,bT,bT,bf,bf] rfl rfl (by kernel_rfl) (by decide) (fun K hK => ?_)
          refine goes_ Try.func24 (by kernel_rfl) rfl #[.pointer (some ⟨g,0,none⟩),.int .i64 3] (by rfl) rfl rfl (by (try simp only [List.map_toArray,List.map_cons,List.map_nil]);first|done|rfl|(simp only [List.length_drop,List.length_take];rfl)) ?_
          with_reducible refine (spec_l01Below.calls g s0_0 x1001_1 x1002_1 3 t335 t336 t337 w0 _ ?side1 ?side2 A90.out).mono ?_
          (case side1 => repeat (first|(with_reducible first|exact HI0.out|apply IsS62.alloc|apply IsS62.drewN|apply IsS62.drew|apply IsS62.set_1|apply IsS62.set_2|refine IsS62.far ?_ NB0_292.out _|refine IsS62.far ?_ NB0_309.out _)|exact HI0.out))
          (case side2 => repeat (first|(with_reducible first|exact HB.out|apply lA|apply lN|apply lD|refine lS ?_ (IsS62.ge HI0.out)|refine lS ?_ GE292.out|refine lS ?_ GE309.out)|exact HB.out))
          rintro e w96 ⟨rfl,hi,hb,hk⟩
          refine ⟨_,rfl,?_⟩
          have n0_:=aM (Kd.R_mono (Kd.R_keep (IsS62.apart (show IsS62 w0 _ g s0_0 x1001_1 x1002_1 from by repeat (first|(with_reducible first|exact HI0.out|apply IsS62.alloc|apply IsS62.drewN|apply IsS62.drew|apply IsS62.set_1|apply IsS62.set_2|refine IsS62.far ?_ NB0_292.out _|refine IsS62.far ?_ NB0_309.out _)|exact HI0.out)) (rZ HO_310000.out) (by decide)) hk (fun _ h => h.2)) (fun _ h => h.1))
          have n1_:=aM (Kd.R_mono (Kd.R_keep (IsS62.apart (show IsS62 w0 _ g s0_0 x1001_1 x1002_1 from by repeat (first|(with_reducible first|exact HI0.out|apply IsS62.alloc|apply IsS62.drewN|apply IsS62.drew|apply IsS62.set_1|apply IsS62.set_2|refine IsS62.far ?_ NB0_292.out _|refine IsS62.far ?_ NB0_309.out _)|exact HI0.out)) (rZ HO_310001.out) (by decide)) hk (fun _ h => h.2)) (fun _ h => h.1))
          have n2_:=aM (KeepBut.blk hk (g':=gb292) (o:=.cells #[.slice none 0 0,.slice none 0 0,.string (⟨#[]⟩ : ByteArray)] 35 (0,0)) (by (with_reducible repeat (first|refine bN ?_ _|refine bD ?_|refine bA ?_ _));exact BK292.out) NB292_0.out (by simp))
          have n3_:=aM (KeepBut.blk hk (g':=gb309) (o:=.cells #[.slice Ao95 x310000_1.length co95,.slice Ao88 t305.length co88,.string t308] 35 (0,0)) (by (with_reducible repeat (first|refine bN ?_ _|refine bD ?_|refine bA ?_ _));exact BK309.out) NB309_0.out (by simp))
          have n4_:=aM (KeepBut.trans (by repeat (first|(with_reducible first|exact HK.out|apply KeepBut.set_|apply keep_drewN|apply keep_drew|apply keep_alloc|refine keep_far ?_ GW292.out _|refine keep_far ?_ GW309.out _)|exact HK.out)) hk (.inl rfl))
          have n5_:=aM (hb)
          have n6_:=aM (hi)
          clear HO_310000
          clear HO_310001
          clear BK292
          clear BK309
          clear HK
          clear HB
          clear HI0
          have HO_310000:=n0_
          have HO_310001:=n1_
          have BK292:=n2_
          have BK309:=n3_
          have HK:=n4_
          have HB:=n5_
          have HI0:=n6_
          clear n0_ n1_ n2_ n3_ n4_ n5_ n6_
          (try clear hb)
          (try clear hb2)
          (try clear hk)
          (try clear hi)
          refine hK.out _ _ ⟨(bC BK309.out 0).trans rfl,(bC BK309.out 1).trans rfl,(bC BK309.out 2).trans rfl⟩ (fun hHeld => ?_)
          clear hK K
          refine norm_ (a':=?_) ?_ ?_
          rotate_left
          ·show Act.put _ (some 44) _ = _
           simp only [Act.put,q_ia8,q_cz8,q_cs8,i64_w,i32_w]
           rfl
          refine pure_ (i:=5) (N:=some 45) (v:=?_) (a':=?_) #[bT,bT,bT,bT,bT,bT,bf] rfl rfl (by kernel_rfl) (fun _ _ _ h => h) (Or.inl ⟨by rfl,?_⟩) ?_ ?_
          rotate_left
          ·intro w';go_simp;with_reducible rfl
          rotate_left
          ·simp only [Act.put,q_ia8,q_cz8,q_cs8,i64_w,i32_w];rfl
          refine pure_ (i:=6) (N:=some 46) (v:=?_) (a':=?_) #[bT,bT,bT,bT,bT,bT,bT] rfl rfl (by kernel_rfl) (fun _ _ _ h => h) (Or.inl ⟨by rfl,?_⟩) ?_ ?_
          rotate_left
          ·intro w';go_simp;with_reducible rfl
          rotate_left
          ·simp only [Act.put,q_ia8,q_cz8,q_cs8,i64_w,i32_w];rfl
          refine done_ (by kernel_rfl) ?_
          have hnb97:=NB309_292.out
          have hnc97:=NB292_309.out
          have hnb98:=NB309_0.out
          have hnc98:=NB0_309.out
          obtain ⟨⟨hcz99_0,hcz99_1,hcz99_2⟩,hfz99_0,hfz99_1,hfz99_2⟩:=bC3 BK309.out
          try go_wp2_with (first|((with_reducible refine gate_dst (N:=61) rfl ?_);refine Kd.R_lit (Kd.int .u8) _ 5 ?hg (N:=61) ?hd (xs:=([(wrap64 (97 + (wrap64 ((x310000_1.length : Int) / 26)))) % 256,97 + ((x310000_1.length : Int) % 26)] : List Int)) (inner:=[.int .u8 ((wrap64 (97 + (wrap64 ((x310000_1.length : Int) / 26)))) % 256),.int .u8 (97 + ((x310000_1.length : Int) % 26))]) (ok:=fun _ => True) (okp:=fun _ => True) ?hr ?hp (fun _ hk => hk) trivial (Below.refl _ _) (Nat.le_refl _) (by simp) ?_;(case hd => rfl);(case hg => rfl);(case hr => first|(go_simp;done)|(go_simp;rfl));(case hp => exact (Reps.one (show Kd.M (Kd.int .u8) _ _ _ ((wrap64 (97 + (wrap64 ((x310000_1.length : Int) / 26)))) % 256) [.int .u8 ((wrap64 (97 + (wrap64 ((x310000_1.length : Int) / 26)))) % 256)] from rfl) (Reps.one (show Kd.M (Kd.int .u8) _ _ _ (97 + ((x310000_1.length : Int) % 26)) [.int .u8 (97 + ((x310000_1.length : Int) % 26))] from rfl) (Reps.none _ _))));intro v339 w100 ho101 hb hg_ hnew_;clear hg_ hnew_;(first|rw [← Ny338.out] at ho101|(simp only [Int.reduceToNat] at ho101;rw [← Ny338.out] at ho101));have n0_:=aM (rH HO_310000.out hb);have n1_:=aM (rH HO_310001.out hb);have n2_:=aM (rL ho101 (keep_size (w:=w) (g:=g) (row:=none) (by repeat (first|(with_reducible first|exact HK.out|apply KeepBut.set_|apply keep_drewN|apply keep_drew|apply keep_alloc|refine keep_far ?_ GW292.out _|refine keep_far ?_ GW309.out _)|exact HK.out))));have n3_:=aM (bH BK292.out hb);have n4_:=aM (bH BK309.out hb);have n5_:=aM (IsS62.below (by repeat (first|(with_reducible first|exact HI0.out|apply IsS62.alloc|apply IsS62.drewN|apply IsS62.drew|apply IsS62.set_1|apply IsS62.set_2|refine IsS62.far ?_ NB0_292.out _|refine IsS62.far ?_ NB0_309.out _)|exact HI0.out)) hb);have n6_:=aM (KeepBut.trans (by repeat (first|(with_reducible first|exact HK.out|apply KeepBut.set_|apply keep_drewN|apply keep_drew|apply keep_alloc|refine keep_far ?_ GW292.out _|refine keep_far ?_ GW309.out _)|exact HK.out)) (KeepBut.of_below hb g none) (.inl rfl));have n7_:=aM (lP (by repeat (first|(with_reducible first|exact HB.out|apply lA|apply lN|apply lD|refine lS ?_ (IsS62.ge HI0.out)|refine lS ?_ GE292.out|refine lS ?_ GE309.out)|exact HB.out)) hb);clear HO_310000 HO_310001 BK292 BK309 HI0 HK HB;have HO_310000:=n0_;have HO_310001:=n1_;have HO340:=n2_;have BK292:=n3_;have BK309:=n4_;have HI0:=n5_;have HK:=n6_;have HB:=n7_;clear n0_ n1_ n2_ n3_ n4_ n5_ n6_ n7_ hb ho101;have hcv102:=own_string (P:=Try.prog) Try.underlying22 Try.underlying5 Try.underlying9 (Kd.own_of_R HO340.out))|((with_reducible refine gate_builtin (b:=.append) (xs:=#[.tmp 48,.tmp 65]) rfl ?_);at_builtin;refine Kd.R_append k59 w.heap.size rfl (.tmp 48) (.tmp 65) 32 59 (.agg #[(.string ⟨#[]⟩),(.string ⟨#[]⟩)]) 32 rfl Try.underlying32 info59 rfl (by decide) (by omega) (.slice Ao95 x310000_1.length co95) x310000_1 (⟨(⟨#[122,122]⟩ : ByteArray) ++ (strOfNums y338),(⟨#[]⟩ : ByteArray)⟩ : S59) [.string ((⟨#[122,122]⟩ : ByteArray) ++ (strOfNums y338)),.string (⟨#[]⟩ : ByteArray)] (fun _ => True) (fun _ => False) rfl rfl ?aP (fun _ hk => hk.elim) ?aF ?aO (Below.refl _ _) ?aS ?aL ?_;(case aP => exact k59_mkM _ _ _ (⟨(⟨#[122,122]⟩ : ByteArray) ++ (strOfNums y338),(⟨#[]⟩ : ByteArray)⟩ : S59));(case aF => exact (fun _ _ => trivial));(case aO => exact (rZ HO_310000.out));(case aS => exact (keep_size (w:=w) (g:=g) (row:=none) (by repeat (first|(with_reducible first|exact HK.out|apply KeepBut.set_|apply keep_drewN|apply keep_drew|apply keep_alloc|refine keep_far ?_ GW292.out _|refine keep_far ?_ GW309.out _)|exact HK.out))));(case aL => have:=LMc93.out;omega);intro v342 w103 ho hb hg hat;rw [← Ny341.out] at ho;have n0_:=aM (Kd.R_over' (rZ HO_310001.out) (Kd.R_typed (rZ HO_310000.out)) (by decide) hg);have n1_:=aM (blk_grown (g:=gb292) (o:=.cells #[.slice none 0 0,.slice none 0 0,.string (⟨#[]⟩ : ByteArray)] 35 (0,0)) (by (with_reducible repeat (first|refine bN ?_ _|refine bD ?_|refine bA ?_ _));exact BK292.out) hg (Kd.R_ne HO_310000.out BK292.out (by decide)));have n2_:=aM (blk_grown (g:=gb309) (o:=.cells #[.slice Ao95 x310000_1.length co95,.slice Ao88 t305.length co88,.string t308] 35 (0,0)) (by (with_reducible repeat (first|refine bN ?_ _|refine bD ?_|refine bA ?_ _));exact BK309.out) hg (Kd.R_ne HO_310000.out BK309.out (by decide)));have n3_:=aM (IsS62.grown (by repeat (first|(with_reducible first|exact HI0.out|apply IsS62.alloc|apply IsS62.drewN|apply IsS62.drew|apply IsS62.set_1|apply IsS62.set_2|refine IsS62.far ?_ NB0_292.out _|refine IsS62.far ?_ NB0_309.out _)|exact HI0.out)) hg (IsS62.own_ne HI0.out HO_310000.out (by decide)));have n4_:=aM (Kd.R_over' (rZ HO340.out) (Kd.R_typed (rZ HO_310000.out)) (by decide) hg);have n5_:=aM (below_weaken (by repeat (first|(with_reducible first|exact HB.out|apply lA|apply lN|apply lD|refine lS ?_ (IsS62.ge HI0.out)|refine lS ?_ GE292.out|refine lS ?_ GE309.out)|exact HB.out)) HL.out hb);have n6_:=aM (KeepBut.trans (by repeat (first|(with_reducible first|exact HK.out|apply KeepBut.set_|apply keep_drewN|apply keep_drew|apply keep_alloc|refine keep_far ?_ GW292.out _|refine keep_far ?_ GW309.out _)|exact HK.out)) (KeepBut.of_grown hg g) (Kd.R_base2 HO_310000.out));have n7_:=aM (ho);clear HO_310001 BK292 BK309 HI0 HO340 HB HK HO_310000;have HO_310001:=n0_;have BK292:=n1_;have BK309:=n2_;have HI0:=n3_;have HO340:=n4_;have HB:=n5_;have HK:=n6_;have HO343:=n7_;clear n0_ n1_ n2_ n3_ n4_ n5_ n6_ n7_ ho hb hg hat;obtain ⟨Ao104,co104,eo104⟩:=Kd.R_slice HO343.out;subst eo104;obtain ⟨⟨hcz105_0,hcz105_1,hcz105_2⟩,hfz105_0,hfz105_1,hfz105_2⟩:=bC3 BK309.out))
          go_roundg k1
          case measure => have:=HK1.out;omega
          case rel => exact ⟨(t336),(t337),(y341),(.slice Ao104 y341.length co104),H',⟨by have:=HK1.out;omega⟩,⟨by (with_reducible repeat (first|apply rA|apply rN|apply rD));exact Kd.R_mono (rF (rY HO343.out BK309.out (by decide)) (fun _ hk => hk.2) _) (fun _ hk => trivial)⟩,⟨by (with_reducible repeat (first|apply rA|apply rN|apply rD));exact Kd.R_mono (rF (rY HO_310001.out BK309.out (by decide)) (fun _ hk => hk.2) _) (fun _ hk => trivial)⟩,⟨by (with_reducible repeat (first|refine bN ?_ _|refine bD ?_|refine bA ?_ _));refine blk_far ?_ NB292_309.out _;(with_reducible repeat (first|refine bN ?_ _|refine bD ?_|refine bA ?_ _));exact BK292.out⟩,⟨by (with_reducible repeat (first|refine bN ?_ _|refine bD ?_|refine bA ?_ _));refine blk_put (cs:=#[.slice Ao95 x310000_1.length co95,.slice Ao88 t305.length co88,.string t308]) ?_ 0 _ rfl;(with_reducible repeat (first|refine bN ?_ _|refine bD ?_|refine bA ?_ _));exact BK309.out⟩,⟨by repeat (first|(with_reducible first|exact HI0.out|apply IsS62.alloc|apply IsS62.drewN|apply IsS62.drew|apply IsS62.set_1|apply IsS62.set_2|refine IsS62.far ?_ NB0_292.out _|refine IsS62.far ?_ NB0_309.out _)|exact HI0.out)⟩,⟨by repeat (first|(with_reducible first|exact HK.out|apply KeepBut.set_|apply keep_drewN|apply keep_drew|apply keep_alloc|refine keep_far ?_ GW292.out _|refine keep_far ?_ GW309.out _)|exact HK.out)⟩,⟨by repeat (first|(with_reducible first|exact HB.out|apply lA|apply lN|apply lD|refine lS ?_ (IsS62.ge HI0.out)|refine lS ?_ GE292.out|refine lS ?_ GE309.out)|exact HB.out)⟩⟩
         ·rw [if_neg c93] at H
          exact absurd H (by simp)
        ·rw [if_neg c92] at H
         exact absurd H (by simp)
       ·rw [if_neg c91] at H
        have c91b0 : decide ((x310000_1.length : Int) < (wrap64 (59 + t335))) = false:=decide_eq_false c91
        clear c91
        simp only [Option.some.injEq,Prod.mk.injEq] at H
        obtain ⟨rfl,rfl,rfl,rfl,rfl⟩:=H
        try go_wp2
        have n0_:=aM (rD HO_310000.out)
        have n1_:=aM (rD HO_310001.out)
        have n2_:=aM (bD BK292.out)
        have n3_:=aM (bD BK309.out)
        have n4_:=aM (IsS62.drew HI0.out)
        have n5_:=aM (keep_drew HK.out)
        have n6_:=aM (lD HB.out)
        clear HO_310000
        clear HO_310001
        clear BK292
        clear BK309
        clear HI0
        clear HK
        clear HB
        have HO_310000:=n0_
        have HO_310001:=n1_
        have BK292:=n2_
        have BK309:=n3_
        have HI0:=n4_
        have HK:=n5_
        have HB:=n6_
        clear n0_ n1_ n2_ n3_ n4_ n5_ n6_
        obtain ⟨Ao107,co107,eo107⟩:=Kd.R_slice HO_310000.out
        (first|subst eo107|(injection eo107 with f1_ f2_ f3_;have f4_:=f1_.symm;have f5_:=f3_.symm;clear f1_ f2_ f3_;subst f4_;subst f5_))
        refine start_ (n:=7) (S:=fun w' => w'.cell? ⟨gb309,0,none⟩ = some (.slice Ao107 x310000_1.length co107) ∧ w'.cell? ⟨gb309,1,none⟩ = some (.slice Ao88 t305.length co88) ∧ w'.cell? ⟨gb309,2,none⟩ = some (.string t308)) (ds:=[]) #[bf,bf,bf,bf,bf,bf,bf] (by kernel_rfl) rfl rfl ⟨(bC BK309.out 0).trans rfl,(bC BK309.out 1).trans rfl,(bC BK309.out 2).trans rfl⟩ (fun hHeld => ?_)
        generalize wr.drew = w106 at HO_310000 HO_310001 BK292 BK309 HI0 HK HB hHeld ⊢
        refine pure_ (i:=0) (N:=some 40) (v:=?_) (a':=?_) #[bT,bf,bf,bf,bf,bf,bf] rfl rfl (by kernel_rfl) (fun _ _ _ h => h) (Or.inl ⟨by rfl,?_⟩) ?_ ?_
        rotate_left
        ·intro w';go_simp;with_reducible rfl
        rotate_left
        ·simp only [Act.put,q_ia8,q_cz8,q_cs8,i64_w,i32_w];rfl
        refine pure_ (i:=3) (N:=some 43) (v:=?_) (a':=?_) #[bT,bf,bf,bT,bf,bf,bf] rfl rfl (by kernel_rfl) (fun _ _ _ h => h) (Or.inl ⟨by rfl,?_⟩) ?_ ?_
        rotate_left
        ·intro w';go_simp;with_reducible rfl
        rotate_left
        ·simp only [Act.put,q_ia8,q_cz8,q_cs8,i64_w,i32_w];rfl
        refine take_ (i:=1) (N:=some 41) (v:=?_) (a':=?_) #[bT,bT,bf,bT,bf,bf,bf] rfl rfl (by kernel_rfl) (fun _ _ _ h => h) (Or.inl ⟨by rfl,?_⟩) hHeld ?_ ?_
        rotate_left
        ·rintro w' ⟨s0,s1,s2⟩
         go_simp
         with_reducible rfl
        rotate_left
        ·simp only [Act.put,q_ia8,q_cz8,q_cs8,i64_w,i32_w];rfl
        refine pure_ (i:=2) (N:=some 42) (v:=?_) (a':=?_) #[bT,bT,bT,bT,bf,bf,bf] rfl rfl (by kernel_rfl) (fun _ _ _ h => h) (Or.inl ⟨by rfl,?_⟩) ?_ ?_
        rotate_left
        ·intro w';go_simp;with_reducible rfl
        rotate_left
        ·simp only [Act.put,q_ia8,q_cz8,q_cs8,i64_w,i32_w];rfl
        refine one_ (i:=4) (N:=some 44) #[bT,bT,bT,bT,bT,bf,bf] rfl rfl (by kernel_rfl) (by decide) (fun K hK => ?_)
        refine goes_ Try.func24 (by kernel_rfl) rfl #[.pointer (some ⟨g,0,none⟩),.int .i64 3] (by rfl) rfl rfl (by (try simp only [List.map_toArray,List.map_cons,List.map_nil]);first|done|rfl|(simp only [List.length_drop,List.length_take];rfl)) ?_
        with_reducible refine (spec_l01Below.calls g s0_0 x1001_1 x1002_1 3 t335 t336 t337 w0 _ ?side1 ?side2 A90.out).mono ?_
        (case side1 => repeat (first|(with_reducible first|exact HI0.out|apply IsS62.alloc|apply IsS62.drewN|apply IsS62.drew|apply IsS62.set_1|apply IsS62.set_2|refine IsS62.far ?_ NB0_292.out _|refine IsS62.far ?_ NB0_309.out _)|exact HI0.out))
        (case side2 => repeat (first|(with_reducible first|exact HB.out|apply lA|apply lN|apply lD|refine lS ?_ (IsS62.ge HI0.out)|refine lS ?_ GE292.out|refine lS ?_ GE309.out)|exact HB.out))
        rintro e w108 ⟨rfl,hi,hb,hk⟩
        refine ⟨_,rfl,?_⟩
        have n0_:=aM (Kd.R_mono (Kd.R_keep (IsS62.apart (show IsS62 w0 _ g s0_0 x1001_1 x1002_1 from by repeat (first|(with_reducible first|exact HI0.out|apply IsS62.alloc|apply IsS62.drewN|apply IsS62.drew|apply IsS62.set_1|apply IsS62.set_2|refine IsS62.far ?_ NB0_292.out _|refine IsS62.far ?_ NB0_309.out _)|exact HI0.out)) (rZ HO_310000.out) (by decide)) hk (fun _ h => h.2)) (fun _ h => h.1))
        have n1_:=aM (Kd.R_mono (Kd.R_keep (IsS62.apart (show IsS62 w0 _ g s0_0 x1001_1 x1002_1 from by repeat (first|(with_reducible first|exact HI0.out|apply IsS62.alloc|apply IsS62.drewN|apply IsS62.drew|apply IsS62.set_1|apply IsS62.set_2|refine IsS62.far ?_ NB0_292.out _|refine IsS62.far ?_ NB0_309.out _)|exact HI0.out)) (rZ HO_310001.out) (by decide)) hk (fun _ h => h.2)) (fun _ h => h.1))
        have n2_:=aM (KeepBut.blk hk (g':=gb292) (o:=.cells #[.slice none 0 0,.slice none 0 0,.string (⟨#[]⟩ : ByteArray)] 35 (0,0)) (by (with_reducible repeat (first|refine bN ?_ _|refine bD ?_|refine bA ?_ _));exact BK292.out) NB292_0.out (by simp))
        have n3_:=aM (KeepBut.blk hk (g':=gb309) (o:=.cells #[.slice Ao107 x310000_1.length co107,.slice Ao88 t305.length co88,.string t308] 35 (0,0)) (by (with_reducible repeat (first|refine bN ?_ _|refine bD ?_|refine bA ?_ _));exact BK309.out) NB309_0.out (by simp))
        have n4_:=aM (KeepBut.trans (by repeat (first|(with_reducible first|exact HK.out|apply KeepBut.set_|apply keep_drewN|apply keep_drew|apply keep_alloc|refine keep_far ?_ GW292.out _|refine keep_far ?_ GW309.out _)|exact HK.out)) hk (.inl rfl))
        have n5_:=aM (hb)
        have n6_:=aM (hi)
        clear HO_310000
        clear HO_310001
        clear BK292
        clear BK309
        clear HK
        clear HB
        clear HI0
        have HO_310000:=n0_
        have HO_310001:=n1_
        have BK292:=n2_
        have BK309:=n3_
        have HK:=n4_
        have HB:=n5_
        have HI0:=n6_
        clear n0_ n1_ n2_ n3_ n4_ n5_ n6_
        (try clear hb)
        (try clear hb2)
        (try clear hk)
        (try clear hi)
        refine hK.out _ _ ⟨(bC BK309.out 0).trans rfl,(bC BK309.out 1).trans rfl,(bC BK309.out 2).trans rfl⟩ (fun hHeld => ?_)
        clear hK K
        refine norm_ (a':=?_) ?_ ?_
        rotate_left
        ·show Act.put _ (some 44) _ = _
         simp only [Act.put,q_ia8,q_cz8,q_cs8,i64_w,i32_w]
         rfl
        refine pure_ (i:=5) (N:=some 45) (v:=?_) (a':=?_) #[bT,bT,bT,bT,bT,bT,bf] rfl rfl (by kernel_rfl) (fun _ _ _ h => h) (Or.inl ⟨by rfl,?_⟩) ?_ ?_
        rotate_left
        ·intro w';go_simp;with_reducible rfl
        rotate_left
        ·simp only [Act.put,q_ia8,q_cz8,q_cs8,i64_w,i32_w];rfl
        refine pure_ (i:=6) (N:=some 46) (v:=?_) (a':=?_) #[bT,bT,bT,bT,bT,bT,bT] rfl rfl (by kernel_rfl) (fun _ _ _ h => h) (Or.inl ⟨by rfl,?_⟩) ?_ ?_
        rotate_left
        ·intro w';go_simp;with_reducible rfl
        rotate_left
        ·simp only [Act.put,q_ia8,q_cz8,q_cs8,i64_w,i32_w];rfl
        refine done_ (by kernel_rfl) ?_
        have hnb109:=NB309_292.out
        have hnc109:=NB292_309.out
        have hnb110:=NB309_0.out
        have hnc110:=NB0_309.out
        obtain ⟨⟨hcz111_0,hcz111_1,hcz111_2⟩,hfz111_0,hfz111_1,hfz111_2⟩:=bC3 BK309.out
        have hnb112:=NB292_0.out
        have hnc112:=NB0_292.out
        obtain ⟨⟨hcz113_0,hcz113_1,hcz113_2⟩,hfz113_0,hfz113_1,hfz113_2⟩:=bC3 BK292.out
        try go_wp2
        refine bodyPost_ret (results_cell_row rfl _ _ gb292 35 #[.slice Ao107 x310000_1.length co107,.slice Ao88 t305.length co88,.string t308] (0,0) _ rfl (by (with_reducible repeat (first|refine bN ?_ _|refine bD ?_|refine bA ?_ _));refine blk_put (cs:=#[.slice Ao107 x310000_1.length co107,.slice Ao88 t305.length co88,.string (⟨#[]⟩ : ByteArray)]) ?_ 2 _ rfl;(with_reducible repeat (first|refine bN ?_ _|refine bD ?_|refine bA ?_ _));refine blk_put (cs:=#[.slice Ao107 x310000_1.length co107,.slice none 0 0,.string (⟨#[]⟩ : ByteArray)]) ?_ 1 _ rfl;(with_reducible repeat (first|refine bN ?_ _|refine bD ?_|refine bA ?_ _));refine blk_put (cs:=#[.slice none 0 0,.slice none 0 0,.string (⟨#[]⟩ : ByteArray)]) ?_ 0 _ rfl;(with_reducible repeat (first|refine bN ?_ _|refine bD ?_|refine bA ?_ _));exact BK292.out) Try.underlying35 rfl (by kernel_rfl)) rfl ?_
        exact ⟨_,_,by first|rfl|(simp [errW_none,errW_some] <;> rfl)|(simp [*,errW_none,errW_some] <;> rfl),by (with_reducible repeat (first|apply rA|apply rN|apply rD));exact Kd.R_mono (rF (rF (rF (rY HO_310000.out BK292.out (by decide)) (fun _ hk => hk.2) _) (fun _ hk => hk.2) _) (fun _ hk => hk.2) _) (fun _ hk => trivial),by (with_reducible repeat (first|apply rA|apply rN|apply rD));exact Kd.R_mono (rF (rF (rF (rY HO_310001.out BK292.out (by decide)) (fun _ hk => hk.2) _) (fun _ hk => hk.2) _) (fun _ hk => hk.2) _) (fun _ hk => trivial),by repeat (first|(with_reducible first|exact HI0.out|apply IsS62.alloc|apply IsS62.drewN|apply IsS62.drew|apply IsS62.set_1|apply IsS62.set_2|refine IsS62.far ?_ NB0_292.out _|refine IsS62.far ?_ NB0_309.out _)|exact HI0.out),by repeat (first|(with_reducible first|exact HB.out|apply lA|apply lN|apply lD|refine lS ?_ (IsS62.ge HI0.out)|refine lS ?_ GE292.out|refine lS ?_ GE309.out)|exact HB.out),by repeat (first|(with_reducible first|exact HK.out|apply KeepBut.set_|apply keep_drewN|apply keep_drew|apply keep_alloc|refine keep_far ?_ GW292.out _|refine keep_far ?_ GW309.out _)|exact HK.out)⟩
    ·rw [if_neg c77] at H
     have c77b0 : (t310 == 3) = false:=beq_eq_false_iff_ne.mpr c77
     have c77b1 : (t310 != 3) = true:=bne_iff_ne.mpr c77
     simp only [Option.some.injEq,Prod.mk.injEq] at H
     obtain ⟨rfl,rfl,rfl,rfl,rfl⟩:=H
     go_enter Try.func32,Try.ntmps32
     go_wp2_with (first|((with_reducible refine gate_dst (N:=2) rfl ?_);refine box_event ?hg (N:=2) ?hd (cs:=#[.slice none 0 0,.slice none 0 0,.string (⟨#[]⟩ : ByteArray)]) (t:=35) ?hr ?_;(case hd => rfl);(case hg => rfl);(case hr => first|(go_simp;done)|(go_simp;rfl));intro gb292 hg w114 hbox hb;have n0_:=aM (IsS62.below (by repeat (first|(with_reducible first|exact HI0.out|apply IsS62.alloc|apply IsS62.drewN|apply IsS62.drew|apply IsS62.set_1|apply IsS62.set_2)|exact HI0.out)) hb);have n1_:=aM (KeepBut.trans (by repeat (first|(with_reducible first|exact HK.out|apply KeepBut.set_|apply keep_drewN|apply keep_drew|apply keep_alloc)|exact HK.out)) (KeepBut.of_below hb g none) (.inl rfl));have n2_:=aM (lP (by repeat (first|(with_reducible first|exact HB.out|apply lA|apply lN|apply lD|refine lS ?_ (IsS62.ge HI0.out))|exact HB.out)) hb);have n3_:=aM (hbox);have n4_:=aM ((by rw [hg];exact (keep_size (w:=w) (g:=g) (row:=none) (by repeat (first|(with_reducible first|exact HK.out|apply KeepBut.set_|apply keep_drewN|apply keep_drew|apply keep_alloc)|exact HK.out))) : w.heap.size ≤ gb292));have n5_:=aM ((Nat.le_trans HW0.out (by rw [hg];exact (keep_size (w:=w) (g:=g) (row:=none) (by repeat (first|(with_reducible first|exact HK.out|apply KeepBut.set_|apply keep_drewN|apply keep_drew|apply keep_alloc)|exact HK.out))) : w.heap.size ≤ gb292) : w0.heap.size ≤ gb292));have n6_:=aM ((by rw [hg];exact Nat.ne_of_lt (IsS62.lt (show IsS62 w0 _ g s0_0 s0_1 s0_2 from by repeat (first|(with_reducible first|exact HI0.out|apply IsS62.alloc|apply IsS62.drewN|apply IsS62.drew|apply IsS62.set_1|apply IsS62.set_2)|exact HI0.out))) : g ≠ gb292));have n7_:=aM ((by rw [hg];exact Nat.ne_of_gt (IsS62.lt (show IsS62 w0 _ g s0_0 s0_1 s0_2 from by repeat (first|(with_reducible first|exact HI0.out|apply IsS62.alloc|apply IsS62.drewN|apply IsS62.drew|apply IsS62.set_1|apply IsS62.set_2)|exact HI0.out))) : gb292 ≠ g));clear HI0 HK HB;have HI0:=n0_;have HK:=n1_;have HB:=n2_;have BK292:=n3_;have GW292:=n4_;have GE292:=n5_;have NB0_292:=n6_;have NB292_0:=n7_;clear n0_ n1_ n2_ n3_ n4_ n5_ n6_ n7_ hb hbox hg)|((with_reducible refine gate_callee (f:=27) rfl ?_);refine goesL_ (some 5) rfl rfl Try.func27 (by kernel_rfl) rfl #[.pointer (some ⟨g,0,none⟩)] rfl (by (try simp only [List.map_toArray,List.map_cons,List.map_nil]);first|done|rfl|(simp only [List.length_drop,List.length_take];rfl)) ?_;(with_reducible refine (spec_l08Store.calls k g s0_0 s0_1 s0_2 t293 t296 t299 t300 t301 w0 _ ?side1 ?side2 A2.out).mono ?_);(case side1 => repeat (first|(with_reducible first|exact HI0.out|apply IsS62.alloc|apply IsS62.drewN|apply IsS62.drew|apply IsS62.set_1|apply IsS62.set_2|refine IsS62.far ?_ NB0_292.out _)|exact HI0.out));(case side2 => repeat (first|(with_reducible first|exact HB.out|apply lA|apply lN|apply lD|refine lS ?_ (IsS62.ge HI0.out)|refine lS ?_ GE292.out)|exact HB.out));rintro e w115 ⟨v294,v297,rfl,ho0,ho1,hi,hb,hk⟩;refine ⟨_,rfl,?_⟩;have n0_:=aM (KeepBut.blk hk (g':=gb292) (o:=.cells #[.slice none 0 0,.slice none 0 0,.string (⟨#[]⟩ : ByteArray)] 35 (0,0)) (by (with_reducible repeat (first|refine bN ?_ _|refine bD ?_|refine bA ?_ _));exact BK292.out) NB292_0.out (by simp));have n1_:=aM (rL ho0 (keep_size (w:=w) (g:=g) (row:=none) (by repeat (first|(with_reducible first|exact HK.out|apply KeepBut.set_|apply keep_drewN|apply keep_drew|apply keep_alloc|refine keep_far ?_ GW292.out _)|exact HK.out))));have n2_:=aM (rL ho1 (keep_size (w:=w) (g:=g) (row:=none) (by repeat (first|(with_reducible first|exact HK.out|apply KeepBut.set_|apply keep_drewN|apply keep_drew|apply keep_alloc|refine keep_far ?_ GW292.out _)|exact HK.out))));have n3_:=aM (KeepBut.trans (by repeat (first|(with_reducible first|exact HK.out|apply KeepBut.set_|apply keep_drewN|apply keep_drew|apply keep_alloc|refine keep_far ?_ GW292.out _)|exact HK.out)) hk (.inl rfl));have n4_:=aM (hb);have n5_:=aM (hi);clear BK292 HK HB HI0;have BK292:=n0_;have HO295:=n1_;have HO298:=n2_;have HK:=n3_;have HB:=n4_;have HI0:=n5_;clear n0_ n1_ n2_ n3_ n4_ n5_;(try clear hb);(try clear hb2);(try clear hk);(try clear hi);(try clear ho0);(try clear ho1);obtain ⟨Ao116,co116,eo116⟩:=Kd.R_slice HO295.out;subst eo116;obtain ⟨Ao117,co117,eo117⟩:=Kd.R_slice HO298.out;subst eo117)|((with_reducible refine gate_callee (f:=35) rfl ?_);refine goesL_ (some 6) rfl rfl Try.func35 (by kernel_rfl) rfl #[.agg #[.slice Ao116 t293.length co116,.slice Ao117 t296.length co117,.string t299]] rfl (by (try simp only [List.map_toArray,List.map_cons,List.map_nil]);first|done|rfl|(simp only [List.length_drop,List.length_take];rfl)) ?_;(with_reducible refine (spec_l08Copy.calls _ _ t293 _ _ t296 t299 t302 t305 t308 _ ?side1 ?side2 ?side3 ?side4 A3.out).mono ?_);(case side1 => repeat (first|exact (rR HO295.out).2.2|(with_reducible first|refine cA ?_ _|refine cN ?_ _|refine cD ?_)));(case side2 => exact (rR HO295.out).2.1);(case side3 => repeat (first|exact (rR HO298.out).2.2|(with_reducible first|refine cA ?_ _|refine cN ?_ _|refine cD ?_)));(case side4 => exact (rR HO298.out).2.1);rintro e w118 ⟨v303,v306,rfl,ho0,ho1,hb⟩;refine ⟨_,rfl,?_⟩;have n0_:=aM (rE (rZ HO295.out) (rS ho0) hb);have n1_:=aM (rE (rZ HO298.out) (rS ho1) hb);have n2_:=aM (rL (rW ho0 (rT (rZ HO295.out))) (keep_size (w:=w) (g:=g) (row:=none) (by repeat (first|(with_reducible first|exact HK.out|apply KeepBut.set_|apply keep_drewN|apply keep_drew|apply keep_alloc|refine keep_far ?_ GW292.out _)|exact HK.out))));have n3_:=aM (rL (rW ho1 (rT (rZ HO298.out))) (keep_size (w:=w) (g:=g) (row:=none) (by repeat (first|(with_reducible first|exact HK.out|apply KeepBut.set_|apply keep_drewN|apply keep_drew|apply keep_alloc|refine keep_far ?_ GW292.out _)|exact HK.out))));have n4_:=aM (IsS62.below (by repeat (first|(with_reducible first|exact HI0.out|apply IsS62.alloc|apply IsS62.drewN|apply IsS62.drew|apply IsS62.set_1|apply IsS62.set_2|refine IsS62.far ?_ NB0_292.out _)|exact HI0.out)) hb);have n5_:=aM (bH BK292.out hb);have n6_:=aM (KeepBut.trans (by repeat (first|(with_reducible first|exact HK.out|apply KeepBut.set_|apply keep_drewN|apply keep_drew|apply keep_alloc|refine keep_far ?_ GW292.out _)|exact HK.out)) (KeepBut.of_below hb g none) (.inl rfl));have n7_:=aM (lP (by repeat (first|(with_reducible first|exact HB.out|apply lA|apply lN|apply lD|refine lS ?_ (IsS62.ge HI0.out)|refine lS ?_ GE292.out)|exact HB.out)) hb);clear HO295 HO298 HI0 BK292 HK HB;have HO295:=n0_;have HO298:=n1_;have HO304:=n2_;have HO307:=n3_;have HI0:=n4_;have BK292:=n5_;have HK:=n6_;have HB:=n7_;clear n0_ n1_ n2_ n3_ n4_ n5_ n6_ n7_;(try clear hb);(try clear hb2);(try clear hk);(try clear hi);(try clear ho0);(try clear ho1))|((with_reducible refine gate_dst (N:=3) rfl ?_);refine box_event ?hg (N:=3) ?hd (cs:=#[.slice none 0 0,.slice none 0 0,.string (⟨#[]⟩ : ByteArray)]) (t:=35) ?hr ?_;(case hd => rfl);(case hg => rfl);(case hr => first|(go_simp;done)|(go_simp;rfl));intro gb309 hg w119 hbox hb;have n0_:=aM (rH HO295.out hb);have n1_:=aM (rH HO298.out hb);have n2_:=aM (rH HO304.out hb);have n3_:=aM (rH HO307.out hb);have n4_:=aM (IsS62.below (by repeat (first|(with_reducible first|exact HI0.out|apply IsS62.alloc|apply IsS62.drewN|apply IsS62.drew|apply IsS62.set_1|apply IsS62.set_2|refine IsS62.far ?_ NB0_292.out _)|exact HI0.out)) hb);have n5_:=aM (bH BK292.out hb);have n6_:=aM (KeepBut.trans (by repeat (first|(with_reducible first|exact HK.out|apply KeepBut.set_|apply keep_drewN|apply keep_drew|apply keep_alloc|refine keep_far ?_ GW292.out _)|exact HK.out)) (KeepBut.of_below hb g none) (.inl rfl));have n7_:=aM (lP (by repeat (first|(with_reducible first|exact HB.out|apply lA|apply lN|apply lD|refine lS ?_ (IsS62.ge HI0.out)|refine lS ?_ GE292.out)|exact HB.out)) hb);have n8_:=aM (hbox);have n9_:=aM ((by rw [hg];exact (keep_size (w:=w) (g:=g) (row:=none) (by repeat (first|(with_reducible first|exact HK.out|apply KeepBut.set_|apply keep_drewN|apply keep_drew|apply keep_alloc|refine keep_far ?_ GW292.out _)|exact HK.out))) : w.heap.size ≤ gb309));have n10_:=aM ((Nat.le_trans HW0.out (by rw [hg];exact (keep_size (w:=w) (g:=g) (row:=none) (by repeat (first|(with_reducible first|exact HK.out|apply KeepBut.set_|apply keep_drewN|apply keep_drew|apply keep_alloc|refine keep_far ?_ GW292.out _)|exact HK.out))) : w.heap.size ≤ gb309) : w0.heap.size ≤ gb309));have n11_:=aM ((nL hg BK292.out : gb292 ≠ gb309));have n12_:=aM ((nG hg BK292.out : gb309 ≠ gb292));have n13_:=aM ((by rw [hg];exact Nat.ne_of_lt (IsS62.lt (show IsS62 w0 _ g s0_0 t300 t301 from by repeat (first|(with_reducible first|exact HI0.out|apply IsS62.alloc|apply IsS62.drewN|apply IsS62.drew|apply IsS62.set_1|apply IsS62.set_2|refine IsS62.far ?_ NB0_292.out _)|exact HI0.out))) : g ≠ gb309));have n14_:=aM ((by rw [hg];exact Nat.ne_of_gt (IsS62.lt (show IsS62 w0 _ g s0_0 t300 t301 from by repeat (first|(with_reducible first|exact HI0.out|apply IsS62.alloc|apply IsS62.drewN|apply IsS62.drew|apply IsS62.set_1|apply IsS62.set_2|refine IsS62.far ?_ NB0_292.out _)|exact HI0.out))) : gb309 ≠ g));clear HO295 HO298 HO304 HO307 HI0 BK292 HK HB;have HO295:=n0_;have HO298:=n1_;have HO304:=n2_;have HO307:=n3_;have HI0:=n4_;have BK292:=n5_;have HK:=n6_;have HB:=n7_;have BK309:=n8_;have GW309:=n9_;have GE309:=n10_;have NB292_309:=n11_;have NB309_292:=n12_;have NB0_309:=n13_;have NB309_0:=n14_;clear n0_ n1_ n2_ n3_ n4_ n5_ n6_ n7_ n8_ n9_ n10_ n11_ n12_ n13_ n14_ hb hbox hg;obtain ⟨Ao120,co120,eo120⟩:=Kd.R_slice HO304.out;subst eo120;have hnb121:=NB309_292.out;have hnc121:=NB292_309.out;have hnb122:=NB309_0.out;have hnc122:=NB0_309.out;obtain ⟨⟨hcz123_0,hcz123_1,hcz123_2⟩,hfz123_0,hfz123_1,hfz123_2⟩:=bC3 BK309.out;obtain ⟨Ao124,co124,eo124⟩:=Kd.R_slice HO307.out;subst eo124)|((with_reducible refine gate_callee (f:=24) rfl ?_);refine goesL_ (some 8) rfl rfl Try.func24 (by kernel_rfl) rfl #[.pointer (some ⟨g,0,none⟩),.int .i64 12] rfl (by (try simp only [List.map_toArray,List.map_cons,List.map_nil]);first|done|rfl|(simp only [List.length_drop,List.length_take];rfl)) ?_;(with_reducible refine (spec_l01Below.calls g s0_0 t300 t301 12 t310 t311 t312 w0 _ ?side1 ?side2 A4.out).mono ?_);(case side1 => repeat (first|(with_reducible first|exact HI0.out|apply IsS62.alloc|apply IsS62.drewN|apply IsS62.drew|apply IsS62.set_1|apply IsS62.set_2|refine IsS62.far ?_ NB0_292.out _|refine IsS62.far ?_ NB0_309.out _)|exact HI0.out));(case side2 => repeat (first|(with_reducible first|exact HB.out|apply lA|apply lN|apply lD|refine lS ?_ (IsS62.ge HI0.out)|refine lS ?_ GE292.out|refine lS ?_ GE309.out)|exact HB.out));rintro e w125 ⟨rfl,hi,hb,hk⟩;refine ⟨_,rfl,?_⟩;have n0_:=aM (KeepBut.blk hk (g':=gb292) (o:=.cells #[.slice none 0 0,.slice none 0 0,.string (⟨#[]⟩ : ByteArray)] 35 (0,0)) (by (with_reducible repeat (first|refine bN ?_ _|refine bD ?_|refine bA ?_ _));refine blk_far ?_ NB292_309.out _;(with_reducible repeat (first|refine bN ?_ _|refine bD ?_|refine bA ?_ _));refine blk_far ?_ NB292_309.out _;(with_reducible repeat (first|refine bN ?_ _|refine bD ?_|refine bA ?_ _));refine blk_far ?_ NB292_309.out _;(with_reducible repeat (first|refine bN ?_ _|refine bD ?_|refine bA ?_ _));exact BK292.out) NB292_0.out (by simp));have n1_:=aM (Kd.R_mono (Kd.R_keep (IsS62.apart (show IsS62 w0 _ g s0_0 t300 t301 from by repeat (first|(with_reducible first|exact HI0.out|apply IsS62.alloc|apply IsS62.drewN|apply IsS62.drew|apply IsS62.set_1|apply IsS62.set_2|refine IsS62.far ?_ NB0_292.out _|refine IsS62.far ?_ NB0_309.out _)|exact HI0.out)) (by (with_reducible repeat (first|apply rA|apply rN|apply rD));exact (Kd.R_mono (rF (rF (rF (rY HO295.out BK309.out (by decide)) (fun _ hk => hk.2) _) (fun _ hk => hk.2) _) (fun _ hk => hk.2) _) (fun _ h_ => h_.1))) (by decide)) hk (fun _ h => h.2)) (fun _ h => h.1));have n2_:=aM (Kd.R_mono (Kd.R_keep (IsS62.apart (show IsS62 w0 _ g s0_0 t300 t301 from by repeat (first|(with_reducible first|exact HI0.out|apply IsS62.alloc|apply IsS62.drewN|apply IsS62.drew|apply IsS62.set_1|apply IsS62.set_2|refine IsS62.far ?_ NB0_292.out _|refine IsS62.far ?_ NB0_309.out _)|exact HI0.out)) (by (with_reducible repeat (first|apply rA|apply rN|apply rD));exact (Kd.R_mono (rF (rF (rF (rY HO298.out BK309.out (by decide)) (fun _ hk => hk.2) _) (fun _ hk => hk.2) _) (fun _ hk => hk.2) _) (fun _ h_ => h_.1))) (by decide)) hk (fun _ h => h.2)) (fun _ h => h.1));have n3_:=aM (Kd.R_mono (Kd.R_keep (IsS62.apart (show IsS62 w0 _ g s0_0 t300 t301 from by repeat (first|(with_reducible first|exact HI0.out|apply IsS62.alloc|apply IsS62.drewN|apply IsS62.drew|apply IsS62.set_1|apply IsS62.set_2|refine IsS62.far ?_ NB0_292.out _|refine IsS62.far ?_ NB0_309.out _)|exact HI0.out)) (by (with_reducible repeat (first|apply rA|apply rN|apply rD));exact (Kd.R_mono (rF (rF (rF (rY HO304.out BK309.out (by decide)) (fun _ hk => hk.2) _) (fun _ hk => hk.2) _) (fun _ hk => hk.2) _) (fun _ h_ => h_.1))) (by decide)) hk (fun _ h => h.2)) (fun _ h => h.1));have n4_:=aM (Kd.R_mono (Kd.R_keep (IsS62.apart (show IsS62 w0 _ g s0_0 t300 t301 from by repeat (first|(with_reducible first|exact HI0.out|apply IsS62.alloc|apply IsS62.drewN|apply IsS62.drew|apply IsS62.set_1|apply IsS62.set_2|refine IsS62.far ?_ NB0_292.out _|refine IsS62.far ?_ NB0_309.out _)|exact HI0.out)) (by (with_reducible repeat (first|apply rA|apply rN|apply rD));exact (Kd.R_mono (rF (rF (rF (rY HO307.out BK309.out (by decide)) (fun _ hk => hk.2) _) (fun _ hk => hk.2) _) (fun _ hk => hk.2) _) (fun _ h_ => h_.1))) (by decide)) hk (fun _ h => h.2)) (fun _ h => h.1));have n5_:=aM (KeepBut.blk hk (g':=gb309) (o:=.cells #[.slice Ao120 t302.length co120,.slice Ao124 t305.length co124,.string t308] 35 (0,0)) (by (with_reducible repeat (first|refine bN ?_ _|refine bD ?_|refine bA ?_ _));refine blk_put (cs:=#[.slice Ao120 t302.length co120,.slice Ao124 t305.length co124,.string (⟨#[]⟩ : ByteArray)]) ?_ 2 _ rfl;(with_reducible repeat (first|refine bN ?_ _|refine bD ?_|refine bA ?_ _));refine blk_put (cs:=#[.slice Ao120 t302.length co120,.slice none 0 0,.string (⟨#[]⟩ : ByteArray)]) ?_ 1 _ rfl;(with_reducible repeat (first|refine bN ?_ _|refine bD ?_|refine bA ?_ _));refine blk_put (cs:=#[.slice none 0 0,.slice none 0 0,.string (⟨#[]⟩ : ByteArray)]) ?_ 0 _ rfl;(with_reducible repeat (first|refine bN ?_ _|refine bD ?_|refine bA ?_ _));exact BK309.out) NB309_0.out (by simp));have n6_:=aM (KeepBut.trans (by repeat (first|(with_reducible first|exact HK.out|apply KeepBut.set_|apply keep_drewN|apply keep_drew|apply keep_alloc|refine keep_far ?_ GW292.out _|refine keep_far ?_ GW309.out _)|exact HK.out)) hk (.inl rfl));have n7_:=aM (hb);have n8_:=aM (hi);clear BK292 HO295 HO298 HO304 HO307 BK309 HK HB HI0;have BK292:=n0_;have HO295:=n1_;have HO298:=n2_;have HO304:=n3_;have HO307:=n4_;have BK309:=n5_;have HK:=n6_;have HB:=n7_;have HI0:=n8_;clear n0_ n1_ n2_ n3_ n4_ n5_ n6_ n7_ n8_;(try clear hb);(try clear hb2);(try clear hk);(try clear hi);obtain ⟨⟨hcz126_0,hcz126_1,hcz126_2⟩,hfz126_0,hfz126_1,hfz126_2⟩:=bC3 BK309.out;have hnb127:=NB292_0.out;have hnc127:=NB0_292.out;obtain ⟨⟨hcz128_0,hcz128_1,hcz128_2⟩,hfz128_0,hfz128_1,hfz128_2⟩:=bC3 BK292.out))
     refine bodyPost_ret (results_cell_row rfl _ _ gb292 35 #[.slice Ao120 t302.length co120,.slice Ao124 t305.length co124,.string t308] (0,0) _ rfl (by (with_reducible repeat (first|refine bN ?_ _|refine bD ?_|refine bA ?_ _));refine blk_put (cs:=#[.slice Ao120 t302.length co120,.slice Ao124 t305.length co124,.string (⟨#[]⟩ : ByteArray)]) ?_ 2 _ rfl;(with_reducible repeat (first|refine bN ?_ _|refine bD ?_|refine bA ?_ _));refine blk_put (cs:=#[.slice Ao120 t302.length co120,.slice none 0 0,.string (⟨#[]⟩ : ByteArray)]) ?_ 1 _ rfl;(with_reducible repeat (first|refine bN ?_ _|refine bD ?_|refine bA ?_ _));refine blk_put (cs:=#[.slice none 0 0,.slice none 0 0,.string (⟨#[]⟩ : ByteArray)]) ?_ 0 _ rfl;(with_reducible repeat (first|refine bN ?_ _|refine bD ?_|refine bA ?_ _));exact BK292.out) Try.underlying35 rfl (by kernel_rfl)) rfl ?_
     exact ⟨_,_,by first|rfl|(simp [errW_none,errW_some] <;> rfl)|(simp [*,errW_none,errW_some] <;> rfl),by (with_reducible repeat (first|apply rA|apply rN|apply rD));exact Kd.R_mono (rF (rF (rF (rY HO304.out BK292.out (by decide)) (fun _ hk => hk.2) _) (fun _ hk => hk.2) _) (fun _ hk => hk.2) _) (fun _ hk => trivial),by (with_reducible repeat (first|apply rA|apply rN|apply rD));exact Kd.R_mono (rF (rF (rF (rY HO307.out BK292.out (by decide)) (fun _ hk => hk.2) _) (fun _ hk => hk.2) _) (fun _ hk => hk.2) _) (fun _ hk => trivial),by repeat (first|(with_reducible first|exact HI0.out|apply IsS62.alloc|apply IsS62.drewN|apply IsS62.drew|apply IsS62.set_1|apply IsS62.set_2|refine IsS62.far ?_ NB0_292.out _|refine IsS62.far ?_ NB0_309.out _)|exact HI0.out),by repeat (first|(with_reducible first|exact HB.out|apply lA|apply lN|apply lD|refine lS ?_ (IsS62.ge HI0.out)|refine lS ?_ GE292.out|refine lS ?_ GE309.out)|exact HB.out),by repeat (first|(with_reducible first|exact HK.out|apply KeepBut.set_|apply keep_drewN|apply keep_drew|apply keep_alloc|refine keep_far ?_ GW292.out _|refine keep_far ?_ GW309.out _)|exact HK.out)⟩

end Go.Proofs.Ytekngkljphlliaa.QFnSays
