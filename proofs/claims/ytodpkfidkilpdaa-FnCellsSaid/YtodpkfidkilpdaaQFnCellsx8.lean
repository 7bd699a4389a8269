-- A text of this session, made by wip/own_print.py (the kit's print with additions of ours).
import Derived.Test.YtodpkfidkilpdaaQFnCellsx0
import Derived.Test.YtodpkfidkilpdaaQFnCellsx4
import Derived.Test.YtodpkfidkilpdaaQFnCellsx6
import Derived.Test.YtodpkfidkilpdaaQFnCellsx7
namespace Go.Proofs.Ytodpkfidkilpdaa.QFnCells
open Go.RowKit Go.Proofs.YtodpkfidkilpdaaW.PrintWords Go.Proofs.YtodpkfidkilpdaaW.PrintLast Go.Proofs.YtodpkfidkilpdaaW.PrintMore
attribute [local go_sem] max2_int min2_int max_two min_two max_three min_three max_four min_four   -- for this text's walks alone
set_option linter.unusedVariables false
set_option linter.unusedSimpArgs false
open Bool renaming true → bT, false → bf
open Go.Proofs.YtodpkfidkilpdaaW.PrintWords.Kd renaming R_alloc → rA, R_drewN → rN, R_drew → rD, C_alloc → cA, C_drewN → cN, C_drew → cD, R_far → rF, R_below → rB, R_lower → rL, R_lt → rT, R_base → rS, C_below → cB, R_types → rY, R_elder' → rE, R_reads' → rR, R_new' → rW
open Go.Proofs.YtodpkfidkilpdaaW.PrintWords renaming blk_drewN → bN, blk_drew → bD, blk_alloc → bA, below_set → lS, pw_below_drewN → lN, below_drew1 → lD, below_alloc → lA, blk_cell → bC, blk_below → bB, below_size → lZ, below_step → lP, blk_lt → bL, blk_frozen → bF
open Go.Proofs.YtodpkfidkilpdaaW.PrintWords.Aside0 renaming mk → aM
theorem q_ia6 {α : Type} (l : List α) (i : Nat) (a : α) : l.toArray.setIfInBounds i a = (l.set i a).toArray := List.setIfInBounds_toArray ..
theorem q_cz6 {α : Type} (a b : α) (l : List α) : (a :: l).set 0 b = b :: l := rfl
theorem q_cs6 {α : Type} (a b : α) (l : List α) (n : Nat) : (a :: l).set (n + 1) b = a :: l.set n b := rfl

/-! ### spec_l08Store: function 66 -/
def spec_l08Store.l0 : Nat → Int → List Int → Int → Int → List (S53) → List (S57) → ByteArray → Option ((List (S53)) × (List (S57)) × ByteArray × Int × Int)
 | 0, _, _, _, _, _, _, _ => none
 | k + 1, x4, x1000, x1001, x1002, x260000, x260001, x260002 => (spec_l01Below.f x1000 x1001 x1002 8).bind fun bt260 => (if x4 < bt260.1 then ((spec_l01Below.f x1000 bt260.2.1 bt260.2.2 3).bind fun bt263 => (if bt263.1 = 0 then ((spec_l08Name.f x1000 bt263.2.1 bt263.2.2).bind fun bt266 => ((spec_l03Val.f x1000 bt266.2.1 bt266.2.2).bind fun bt269 => ((spec_SetVar.f k x260000 x260001 x260002 bt266.1 bt269.1).bind fun bt272 => (spec_l08Store.l0 k (wrap64 (x4 + 1)) x1000 bt269.2.1 bt269.2.2 bt272.1 bt272.2.1 bt272.2.2)))) else (if bt263.1 = 1 then ((spec_l01Pick.f x1000 bt263.2.1 bt263.2.2 (([(⟨#[116]⟩ : ByteArray), (⟨#[117]⟩ : ByteArray)] : List ByteArray))).bind fun bt282 => ((spec_l03Val.f x1000 bt282.2.1 bt282.2.2).bind fun bt285 => ((spec_l03Val.f x1000 bt285.2.1 bt285.2.2).bind fun bt288 => ((spec_SetCell.f k x260000 x260001 x260002 bt282.1 bt285.1 bt288.1).bind fun bt291 => (spec_l08Store.l0 k (wrap64 (x4 + 1)) x1000 bt288.2.1 bt288.2.2 bt291.1 bt291.2.1 bt291.2.2))))) else ((spec_l03Val.f x1000 bt263.2.1 bt263.2.2).bind fun bt298 => ((spec_Say.f x260000 x260001 x260002 bt298.1).bind fun bt301 => (spec_l08Store.l0 k (wrap64 (x4 + 1)) x1000 bt298.2.1 bt298.2.2 bt301.1 bt301.2.1 bt301.2.2)))))) else (some (x260000, x260001, x260002, bt260.2.1, bt260.2.2)))
def spec_l08Store.f (k : Nat) (s0_0 : List Int) (s0_1 : Int) (s0_2 : Int) : Option ((List (S53)) × (List (S57)) × ByteArray × Int × Int) := spec_l08Store.l0 k 0 s0_0 s0_1 s0_2 ([] : List (S53)) ([] : List (S57)) (⟨#[]⟩ : ByteArray)
theorem spec_l08Store.mono_l : ∀ k, (∀ y0 y1 y2 y3 y4 y5 y6, LeO (spec_l08Store.l0 k y0 y1 y2 y3 y4 y5 y6) (spec_l08Store.l0 (k + 1) y0 y1 y2 y3 y4 y5 y6))
 | 0 => fun _ _ _ _ _ _ _ r h => by simp [spec_l08Store.l0] at h
 | k + 1 => by
  have ih0 := spec_l08Store.mono_l k
  ·intro y0 y1 y2 y3 y4 y5 y6
   unfold spec_l08Store.l0
   repeat' first
   | (with_reducible exact ih0 _ _ _ _ _ _ _)
   | (with_reducible exact spec_SetCell.mono _ _ _ _ _ _ _)
   | (with_reducible exact spec_SetVar.mono _ _ _ _ _ _)
   | (with_reducible exact LeO.refl _)
   | (with_reducible exact LeO.none _)
   | (with_reducible refine LeO.ite ?_ ?_)
   | (with_reducible refine LeO.bind ?_ (fun _ => ?_))
   | exact ih0 _ _ _ _ _ _ _
   | exact spec_SetCell.mono _ _ _ _ _ _ _
   | exact spec_SetVar.mono _ _ _ _ _ _
   | exact LeO.none _
   | refine LeO.ite ?_ ?_
   | refine LeO.bind ?_ (fun _ => ?_)
theorem spec_l08Store.mono : ∀ a0 a1 a2 k, LeO (spec_l08Store.f k a0 a1 a2) (spec_l08Store.f (k + 1) a0 a1 a2) := by
 intro a0 a1 a2 k
 have ih0 := spec_l08Store.mono_l k
 unfold spec_l08Store.f
 repeat' first
   | (with_reducible exact ih0 _ _ _ _ _ _ _)
   | (with_reducible exact spec_SetCell.mono _ _ _ _ _ _ _)
   | (with_reducible exact spec_SetVar.mono _ _ _ _ _ _)
   | (with_reducible exact LeO.refl _)
   | (with_reducible exact LeO.none _)
   | (with_reducible refine LeO.ite ?_ ?_)
   | (with_reducible refine LeO.bind ?_ (fun _ => ?_))
   | exact ih0 _ _ _ _ _ _ _
   | exact spec_SetCell.mono _ _ _ _ _ _ _
   | exact spec_SetVar.mono _ _ _ _ _ _
   | exact LeO.none _
   | refine LeO.ite ?_ ?_
   | refine LeO.bind ?_ (fun _ => ?_)
def spec_l08Store.T10 : Bool × List (List Nat × List Nat) := (true, [([], []), ([], []), ([], []), ([1, 2], [1, 2]), ([], []), ([4, 3], [4]), ([], []), ([6, 5], [6]), ([0, 3, 5, 7, 7], [0, 3, 5, 7]), ([8, 8, 0, 1, 2, 3, 4, 5, 6, 7, 8], [8])])
def spec_l08Store.B10 : List Nat := [0, 0, 0, 6, 0, 30, 0, 126, 255, 511]
theorem spec_l08Store.tab10 : rtab .any (opsOf Try.f66 10) = spec_l08Store.T10 := by kernel_rfl
theorem spec_l08Store.bits10 : waitsOk spec_l08Store.T10.2 spec_l08Store.B10 = true := by kernel_rfl
set_option maxHeartbeats 8000000 in
set_option maxRecDepth 100000 in
theorem spec_l08Store.calls (k : Nat) (g : Nat) (s0_0 : List Int) (s0_1 : Int) (s0_2 : Int) (r1 : List (S53)) (r2 : List (S57)) (r3 : ByteArray) (r4 : Int) (r5 : Int) (w0 w : World) (hI : IsS88 w0 w g s0_0 s0_1 s0_2) (hB : Below w0.heap.size w0 w) (h : spec_l08Store.f k s0_0 s0_1 s0_2 = some (r1,r2,r3,r4,r5)) :
  Calls Try.prog 66 #[.pointer (some ⟨g,0,none⟩)] w fun e w' => ∃ v0_ v1_ : Value,e = .returned (.agg #[v0_,v1_,.string r3]) ∧ Kd.R k53 53 w' w.heap.size (fun _ => True) v0_ r1 ∧ Kd.R k57 57 w' w.heap.size (fun _ => True) v1_ r2 ∧ IsS88 w0 w' g s0_0 r4 r5 ∧ Below w0.heap.size w0 w' ∧ KeepBut w w' g none:=by
 have hu38:=Try.underlying38
 have HI0:=aM hI
 have HK:=aM (KeepBut.refl w g none)
 have HL:=aM hB.size
 clear hI
 have HW0:=aM hB.size
 have HB:=aM hB
 clear hB
 have H : (spec_l08Store.l0 k 0 s0_0 s0_1 s0_2 ([] : List (S53)) ([] : List (S57)) (⟨#[]⟩ : ByteArray)) = some (r1,r2,r3,r4,r5):=h
 clear h
 have H':=aM H
 clear H
 go_enter Try.func66,Try.ntmps66
 go_wp2_with (first|((with_reducible refine gate_dst (N:=2) rfl ?_);refine box_event ?hg (N:=2) ?hd (cs:=#[.slice none 0 0,.slice none 0 0,.string (⟨#[]⟩ : ByteArray)]) (t:=38) ?hr ?_;(case hd => rfl);(case hg => rfl);(case hr => first|(go_simp;done)|(go_simp;rfl));intro gb258 hg w2 hbox hb;have n0_:=aM (IsS88.below (by repeat (first|(with_reducible first|exact HI0.out|apply IsS88.alloc|apply IsS88.drewN|apply IsS88.drew|apply IsS88.set_1|apply IsS88.set_2)|exact HI0.out)) hb);have n1_:=aM (KeepBut.trans (by repeat (first|(with_reducible first|exact HK.out|apply KeepBut.set_|apply keep_drewN|apply keep_drew|apply keep_alloc)|exact HK.out)) (KeepBut.of_below hb g none) (.inl rfl));have n2_:=aM (lP (by repeat (first|(with_reducible first|exact HB.out|apply lA|apply lN|apply lD|refine lS ?_ (IsS88.ge HI0.out))|exact HB.out)) hb);have n3_:=aM (hbox);have n4_:=aM ((by rw [hg];exact (keep_size (w:=w) (g:=g) (row:=none) (by repeat (first|(with_reducible first|exact HK.out|apply KeepBut.set_|apply keep_drewN|apply keep_drew|apply keep_alloc)|exact HK.out))) : w.heap.size ≤ gb258));have n5_:=aM ((Nat.le_trans HW0.out (by rw [hg];exact (keep_size (w:=w) (g:=g) (row:=none) (by repeat (first|(with_reducible first|exact HK.out|apply KeepBut.set_|apply keep_drewN|apply keep_drew|apply keep_alloc)|exact HK.out))) : w.heap.size ≤ gb258) : w0.heap.size ≤ gb258));have n6_:=aM ((by rw [hg];exact Nat.ne_of_lt (IsS88.lt (show IsS88 w0 _ g s0_0 s0_1 s0_2 from by repeat (first|(with_reducible first|exact HI0.out|apply IsS88.alloc|apply IsS88.drewN|apply IsS88.drew|apply IsS88.set_1|apply IsS88.set_2)|exact HI0.out))) : g ≠ gb258));have n7_:=aM ((by rw [hg];exact Nat.ne_of_gt (IsS88.lt (show IsS88 w0 _ g s0_0 s0_1 s0_2 from by repeat (first|(with_reducible first|exact HI0.out|apply IsS88.alloc|apply IsS88.drewN|apply IsS88.drew|apply IsS88.set_1|apply IsS88.set_2)|exact HI0.out))) : gb258 ≠ g));clear HI0 HK HB;have HI0:=n0_;have HK:=n1_;have HB:=n2_;have BK258:=n3_;have GW258:=n4_;have GE258:=n5_;have NB0_258:=n6_;have NB258_0:=n7_;clear n0_ n1_ n2_ n3_ n4_ n5_ n6_ n7_ hb hbox hg)|((with_reducible refine gate_dst (N:=3) rfl ?_);refine box_event ?hg (N:=3) ?hd (cs:=#[.slice none 0 0,.slice none 0 0,.string (⟨#[]⟩ : ByteArray)]) (t:=38) ?hr ?_;(case hd => rfl);(case hg => rfl);(case hr => first|(go_simp;done)|(go_simp;rfl));intro gb259 hg w3 hbox hb;have n0_:=aM (IsS88.below (by repeat (first|(with_reducible first|exact HI0.out|apply IsS88.alloc|apply IsS88.drewN|apply IsS88.drew|apply IsS88.set_1|apply IsS88.set_2|refine IsS88.far ?_ NB0_258.out _)|exact HI0.out)) hb);have n1_:=aM (bH BK258.out hb);have n2_:=aM (KeepBut.trans (by repeat (first|(with_reducible first|exact HK.out|apply KeepBut.set_|apply keep_drewN|apply keep_drew|apply keep_alloc|refine keep_far ?_ GW258.out _)|exact HK.out)) (KeepBut.of_below hb g none) (.inl rfl));have n3_:=aM (lP (by repeat (first|(with_reducible first|exact HB.out|apply lA|apply lN|apply lD|refine lS ?_ (IsS88.ge HI0.out)|refine lS ?_ GE258.out)|exact HB.out)) hb);have n4_:=aM (hbox);have n5_:=aM ((by rw [hg];exact (keep_size (w:=w) (g:=g) (row:=none) (by repeat (first|(with_reducible first|exact HK.out|apply KeepBut.set_|apply keep_drewN|apply keep_drew|apply keep_alloc|refine keep_far ?_ GW258.out _)|exact HK.out))) : w.heap.size ≤ gb259));have n6_:=aM ((Nat.le_trans HW0.out (by rw [hg];exact (keep_size (w:=w) (g:=g) (row:=none) (by repeat (first|(with_reducible first|exact HK.out|apply KeepBut.set_|apply keep_drewN|apply keep_drew|apply keep_alloc|refine keep_far ?_ GW258.out _)|exact HK.out))) : w.heap.size ≤ gb259) : w0.heap.size ≤ gb259));have n7_:=aM ((nL hg BK258.out : gb258 ≠ gb259));have n8_:=aM ((nG hg BK258.out : gb259 ≠ gb258));have n9_:=aM ((by rw [hg];exact Nat.ne_of_lt (IsS88.lt (show IsS88 w0 _ g s0_0 s0_1 s0_2 from by repeat (first|(with_reducible first|exact HI0.out|apply IsS88.alloc|apply IsS88.drewN|apply IsS88.drew|apply IsS88.set_1|apply IsS88.set_2|refine IsS88.far ?_ NB0_258.out _)|exact HI0.out))) : g ≠ gb259));have n10_:=aM ((by rw [hg];exact Nat.ne_of_gt (IsS88.lt (show IsS88 w0 _ g s0_0 s0_1 s0_2 from by repeat (first|(with_reducible first|exact HI0.out|apply IsS88.alloc|apply IsS88.drewN|apply IsS88.drew|apply IsS88.set_1|apply IsS88.set_2|refine IsS88.far ?_ NB0_258.out _)|exact HI0.out))) : gb259 ≠ g));clear HI0 BK258 HK HB;have HI0:=n0_;have BK258:=n1_;have HK:=n2_;have HB:=n3_;have BK259:=n4_;have GW259:=n5_;have GE259:=n6_;have NB258_259:=n7_;have NB259_258:=n8_;have NB0_259:=n9_;have NB259_0:=n10_;clear n0_ n1_ n2_ n3_ n4_ n5_ n6_ n7_ n8_ n9_ n10_ hb hbox hg;have hnb4:=NB259_258.out;have hnc4:=NB258_259.out;have hnb5:=NB259_0.out;have hnc5:=NB0_259.out;obtain ⟨⟨hcz6_0,hcz6_1,hcz6_2⟩,hfz6_0,hfz6_1,hfz6_2⟩:=bC3 BK259.out))
 go_loopg [4] k (fun kq v4 w' => ∃ (x4_1 : Int) (x1001_1 : Int) (x1002_1 : Int) (x260000_1 : List (S53)) (x260001_1 : List (S57)) (x260002_1 : ByteArray) (u260000 : Value) (u260001 : Value),v4 = .int .i64 x4_1 ∧ Aside0 (spec_l08Store.l0 kq x4_1 s0_0 x1001_1 x1002_1 x260000_1 x260001_1 x260002_1 = some (r1,r2,r3,r4,r5)) ∧ Aside0 (kq ≤ k) ∧ Aside0 (Kd.R k53 53 w' w.heap.size (fun _ => True) u260000 x260000_1) ∧ Aside0 (Kd.R k57 57 w' w.heap.size (fun _ => True) u260001 x260001_1) ∧ Aside0 (w'.heap[gb258]? = some (.cells #[(.slice none 0 0),(.slice none 0 0),.string (⟨#[]⟩ : ByteArray)] 38 (0,0))) ∧ Aside0 (w'.heap[gb259]? = some (.cells #[u260000,u260001,.string x260002_1] 38 (0,0))) ∧ Aside0 (IsS88 w0 w' g s0_0 x1001_1 x1002_1) ∧ Aside0 (KeepBut w w' g none) ∧ Aside0 (Below w0.heap.size w0 w'))
 case atStart => exact ⟨(0),(s0_1),(s0_2),(([] : List (S53))),(([] : List (S57))),((⟨#[]⟩ : ByteArray)),(.slice none 0 0),(.slice none 0 0),(by first|rfl|(simp;done)|(simp [*];done)),H',⟨Nat.le_refl _⟩,⟨by first|exact Kd.R_nil _ _ _ _ _|exact Kd.N_nil _ _ _ _ _|exact Kd.V_nil _ _ _ _ _|exact Kd.Q_nil _ _ _ _ _|exact Kd.S_nil _ _ _ _ _⟩,⟨by first|exact Kd.R_nil _ _ _ _ _|exact Kd.N_nil _ _ _ _ _|exact Kd.V_nil _ _ _ _ _|exact Kd.Q_nil _ _ _ _ _|exact Kd.S_nil _ _ _ _ _⟩,⟨by (with_reducible repeat (first|refine bN ?_ _|refine bD ?_|refine bA ?_ _));refine blk_far ?_ NB258_259.out _;(with_reducible repeat (first|refine bN ?_ _|refine bD ?_|refine bA ?_ _));refine blk_far ?_ NB258_259.out _;(with_reducible repeat (first|refine bN ?_ _|refine bD ?_|refine bA ?_ _));refine blk_far ?_ NB258_259.out _;(with_reducible repeat (first|refine bN ?_ _|refine bD ?_|refine bA ?_ _));exact BK258.out⟩,⟨by (with_reducible repeat (first|refine bN ?_ _|refine bD ?_|refine bA ?_ _));refine blk_put (cs:=#[.slice none 0 0,.slice none 0 0,.string (⟨#[]⟩ : ByteArray)]) ?_ 2 _ rfl;(with_reducible repeat (first|refine bN ?_ _|refine bD ?_|refine bA ?_ _));refine blk_put (cs:=#[.slice none 0 0,.slice none 0 0,.string (⟨#[]⟩ : ByteArray)]) ?_ 1 _ rfl;(with_reducible repeat (first|refine bN ?_ _|refine bD ?_|refine bA ?_ _));refine blk_put (cs:=#[.slice none 0 0,.slice none 0 0,.string (⟨#[]⟩ : ByteArray)]) ?_ 0 _ rfl;(with_reducible repeat (first|refine bN ?_ _|refine bD ?_|refine bA ?_ _));exact BK259.out⟩,⟨by repeat (first|(with_reducible first|exact HI0.out|apply IsS88.alloc|apply IsS88.drewN|apply IsS88.drew|apply IsS88.set_1|apply IsS88.set_2|refine IsS88.far ?_ NB0_258.out _|refine IsS88.far ?_ NB0_259.out _)|exact HI0.out)⟩,⟨by repeat (first|(with_reducible first|exact HK.out|apply KeepBut.set_|apply keep_drewN|apply keep_drew|apply keep_alloc|refine keep_far ?_ GW258.out _|refine keep_far ?_ GW259.out _)|exact HK.out)⟩,⟨by repeat (first|(with_reducible first|exact HB.out|apply lA|apply lN|apply lD|refine lS ?_ (IsS88.ge HI0.out)|refine lS ?_ GE258.out|refine lS ?_ GE259.out)|exact HB.out)⟩⟩
 case round =>
  clear H'
  try clear p2
  try clear c4
  try clear c5
  try clear c6
  try clear hcz6_0
  try clear hcz6_1
  try clear hcz6_2
  obtain ⟨x4_1,x1001_1,x1002_1,x260000_1,x260001_1,x260002_1,u260000,u260001,rfl,HA,HK1,HO_260000,HO_260001,BK258,BK259,HI0,HK,HB⟩:=hrel
  cases gk with
  |zero => exact absurd HA.out (by simp [spec_l08Store.l0])
  |succ k1 =>
   have H:=HA.out
   clear HA
   simp only [spec_l08Store.l0] at H
   replace H:=Option.bind_eq_some_iff.mp H
   obtain ⟨⟨t260,t261,t262⟩,A70,H⟩:=H
   replace H : (if x4_1 < t260 then ((spec_l01Below.f s0_0 t261 t262 3).bind fun bt263 => (if bt263.1 = 0 then ((spec_l08Name.f s0_0 bt263.2.1 bt263.2.2).bind fun bt266 => ((spec_l03Val.f s0_0 bt266.2.1 bt266.2.2).bind fun bt269 => ((spec_SetVar.f k1 x260000_1 x260001_1 x260002_1 bt266.1 bt269.1).bind fun bt272 => (spec_l08Store.l0 k1 (wrap64 (x4_1 + 1)) s0_0 bt269.2.1 bt269.2.2 bt272.1 bt272.2.1 bt272.2.2)))) else (if bt263.1 = 1 then ((spec_l01Pick.f s0_0 bt263.2.1 bt263.2.2 (([(⟨#[116]⟩ : ByteArray),(⟨#[117]⟩ : ByteArray)] : List ByteArray))).bind fun bt282 => ((spec_l03Val.f s0_0 bt282.2.1 bt282.2.2).bind fun bt285 => ((spec_l03Val.f s0_0 bt285.2.1 bt285.2.2).bind fun bt288 => ((spec_SetCell.f k1 x260000_1 x260001_1 x260002_1 bt282.1 bt285.1 bt288.1).bind fun bt291 => (spec_l08Store.l0 k1 (wrap64 (x4_1 + 1)) s0_0 bt288.2.1 bt288.2.2 bt291.1 bt291.2.1 bt291.2.2))))) else ((spec_l03Val.f s0_0 bt263.2.1 bt263.2.2).bind fun bt298 => ((spec_Say.f x260000_1 x260001_1 x260002_1 bt298.1).bind fun bt301 => (spec_l08Store.l0 k1 (wrap64 (x4_1 + 1)) s0_0 bt298.2.1 bt298.2.2 bt301.1 bt301.2.1 bt301.2.2)))))) else (some (x260000_1,x260001_1,x260002_1,t261,t262))) = some (r1,r2,r3,r4,r5):=H
   have A7:=aM A70
   clear A70
   by_cases c8 : x4_1 < t260
   ·rw [if_pos c8] at H
    have c8b0 : decide (x4_1 < t260) = true:=decide_eq_true c8
    clear c8
    replace H:=Option.bind_eq_some_iff.mp H
    obtain ⟨⟨t263,t264,t265⟩,A90,H⟩:=H
    replace H : (if t263 = 0 then ((spec_l08Name.f s0_0 t264 t265).bind fun bt266 => ((spec_l03Val.f s0_0 bt266.2.1 bt266.2.2).bind fun bt269 => ((spec_SetVar.f k1 x260000_1 x260001_1 x260002_1 bt266.1 bt269.1).bind fun bt272 => (spec_l08Store.l0 k1 (wrap64 (x4_1 + 1)) s0_0 bt269.2.1 bt269.2.2 bt272.1 bt272.2.1 bt272.2.2)))) else (if t263 = 1 then ((spec_l01Pick.f s0_0 t264 t265 (([(⟨#[116]⟩ : ByteArray),(⟨#[117]⟩ : ByteArray)] : List ByteArray))).bind fun bt282 => ((spec_l03Val.f s0_0 bt282.2.1 bt282.2.2).bind fun bt285 => ((spec_l03Val.f s0_0 bt285.2.1 bt285.2.2).bind fun bt288 => ((spec_SetCell.f k1 x260000_1 x260001_1 x260002_1 bt282.1 bt285.1 bt288.1).bind fun bt291 => (spec_l08Store.l0 k1 (wrap64 (x4_1 + 1)) s0_0 bt288.2.1 bt288.2.2 bt291.1 bt291.2.1 bt291.2.2))))) else ((spec_l03Val.f s0_0 t264 t265).bind fun bt298 => ((spec_Say.f x260000_1 x260001_1 x260002_1 bt298.1).bind fun bt301 => (spec_l08Store.l0 k1 (wrap64 (x4_1 + 1)) s0_0 bt298.2.1 bt298.2.2 bt301.1 bt301.2.1 bt301.2.2))))) = some (r1,r2,r3,r4,r5):=H
    have A9:=aM A90
    clear A90
    by_cases c10 : t263 = 0
    ·rw [if_pos c10] at H
     have c10b0 : (t263 == 0) = true:=beq_iff_eq.mpr c10
     have c10b1 : (t263 != 0) = false:=bne_eq_false_iff_eq.mpr c10
     clear c10
     replace H:=Option.bind_eq_some_iff.mp H
     obtain ⟨⟨t266,t267,t268⟩,A110,H⟩:=H
     replace H : ((spec_l03Val.f s0_0 t267 t268).bind fun bt269 => ((spec_SetVar.f k1 x260000_1 x260001_1 x260002_1 t266 bt269.1).bind fun bt272 => (spec_l08Store.l0 k1 (wrap64 (x4_1 + 1)) s0_0 bt269.2.1 bt269.2.2 bt272.1 bt272.2.1 bt272.2.2))) = some (r1,r2,r3,r4,r5):=H
     have A11:=aM A110
     clear A110
     replace H:=Option.bind_eq_some_iff.mp H
     obtain ⟨⟨t269,t270,t271⟩,A120,H⟩:=H
     replace H : ((spec_SetVar.f k1 x260000_1 x260001_1 x260002_1 t266 t269).bind fun bt272 => (spec_l08Store.l0 k1 (wrap64 (x4_1 + 1)) s0_0 t270 t271 bt272.1 bt272.2.1 bt272.2.2)) = some (r1,r2,r3,r4,r5):=H
     have A12:=aM A120
     clear A120
     replace H:=Option.bind_eq_some_iff.mp H
     obtain ⟨⟨t272,t275,t278⟩,A130,H⟩:=H
     replace H : (spec_l08Store.l0 k1 (wrap64 (x4_1 + 1)) s0_0 t270 t271 t272 t275 t278) = some (r1,r2,r3,r4,r5):=H
     have A13:=aM A130
     clear A130
     have H':=aM H
     clear H
     try go_wp2_with (first|((with_reducible refine gate_callee (f:=46) rfl ?_);refine goesL_ (some 8) rfl rfl Try.func46 (by kernel_rfl) rfl #[.pointer (some ⟨g,0,none⟩),.int .i64 8] rfl (by (try simp only [List.map_toArray,List.map_cons,List.map_nil]);first|done|rfl|(simp only [List.length_drop,List.length_take];rfl)) ?_;(with_reducible refine (spec_l01Below.calls g s0_0 x1001_1 x1002_1 8 t260 t261 t262 w0 _ ?side1 ?side2 A7.out).mono ?_);(case side1 => repeat (first|(with_reducible first|exact HI0.out|apply IsS88.alloc|apply IsS88.drewN|apply IsS88.drew|apply IsS88.set_1|apply IsS88.set_2|refine IsS88.far ?_ NB0_258.out _|refine IsS88.far ?_ NB0_259.out _)|exact HI0.out));(case side2 => repeat (first|(with_reducible first|exact HB.out|apply lA|apply lN|apply lD|refine lS ?_ (IsS88.ge HI0.out)|refine lS ?_ GE258.out|refine lS ?_ GE259.out)|exact HB.out));rintro e w14 ⟨rfl,hi,hb,hk⟩;refine ⟨_,rfl,?_⟩;have n0_:=aM (Kd.R_mono (Kd.R_keep (IsS88.apart (show IsS88 w0 _ g s0_0 x1001_1 x1002_1 from by repeat (first|(with_reducible first|exact HI0.out|apply IsS88.alloc|apply IsS88.drewN|apply IsS88.drew|apply IsS88.set_1|apply IsS88.set_2|refine IsS88.far ?_ NB0_258.out _|refine IsS88.far ?_ NB0_259.out _)|exact HI0.out)) (rZ HO_260000.out) (by decide)) hk (fun _ h => h.2)) (fun _ h => h.1));have n1_:=aM (Kd.R_mono (Kd.R_keep (IsS88.apart (show IsS88 w0 _ g s0_0 x1001_1 x1002_1 from by repeat (first|(with_reducible first|exact HI0.out|apply IsS88.alloc|apply IsS88.drewN|apply IsS88.drew|apply IsS88.set_1|apply IsS88.set_2|refine IsS88.far ?_ NB0_258.out _|refine IsS88.far ?_ NB0_259.out _)|exact HI0.out)) (rZ HO_260001.out) (by decide)) hk (fun _ h => h.2)) (fun _ h => h.1));have n2_:=aM (KeepBut.blk hk (g':=gb258) (o:=.cells #[.slice none 0 0,.slice none 0 0,.string (⟨#[]⟩ : ByteArray)] 38 (0,0)) (by (with_reducible repeat (first|refine bN ?_ _|refine bD ?_|refine bA ?_ _));exact BK258.out) NB258_0.out (by simp));have n3_:=aM (KeepBut.blk hk (g':=gb259) (o:=.cells #[u260000,u260001,.string x260002_1] 38 (0,0)) (by (with_reducible repeat (first|refine bN ?_ _|refine bD ?_|refine bA ?_ _));exact BK259.out) NB259_0.out (by simp));have n4_:=aM (KeepBut.trans (by repeat (first|(with_reducible first|exact HK.out|apply KeepBut.set_|apply keep_drewN|apply keep_drew|apply keep_alloc|refine keep_far ?_ GW258.out _|refine keep_far ?_ GW259.out _)|exact HK.out)) hk (.inl rfl));have n5_:=aM (hb);have n6_:=aM (hi);clear HO_260000 HO_260001 BK258 BK259 HK HB HI0;have HO_260000:=n0_;have HO_260001:=n1_;have BK258:=n2_;have BK259:=n3_;have HK:=n4_;have HB:=n5_;have HI0:=n6_;clear n0_ n1_ n2_ n3_ n4_ n5_ n6_;(try clear hb);(try clear hb2);(try clear hk);(try clear hi))|((with_reducible refine gate_callee (f:=46) rfl ?_);refine goesL_ (some 13) rfl rfl Try.func46 (by kernel_rfl) rfl #[.pointer (some ⟨g,0,none⟩),.int .i64 3] rfl (by (try simp only [List.map_toArray,List.map_cons,List.map_nil]);first|done|rfl|(simp only [List.length_drop,List.length_take];rfl)) ?_;(with_reducible refine (spec_l01Below.calls g s0_0 t261 t262 3 t263 t264 t265 w0 _ ?side1 ?side2 A9.out).mono ?_);(case side1 => repeat (first|(with_reducible first|exact HI0.out|apply IsS88.alloc|apply IsS88.drewN|apply IsS88.drew|apply IsS88.set_1|apply IsS88.set_2|refine IsS88.far ?_ NB0_258.out _|refine IsS88.far ?_ NB0_259.out _)|exact HI0.out));(case side2 => repeat (first|(with_reducible first|exact HB.out|apply lA|apply lN|apply lD|refine lS ?_ (IsS88.ge HI0.out)|refine lS ?_ GE258.out|refine lS ?_ GE259.out)|exact HB.out));rintro e w15 ⟨rfl,hi,hb,hk⟩;refine ⟨_,rfl,?_⟩;have n0_:=aM (Kd.R_mono (Kd.R_keep (IsS88.apart (show IsS88 w0 _ g s0_0 t261 t262 from by repeat (first|(with_reducible first|exact HI0.out|apply IsS88.alloc|apply IsS88.drewN|apply IsS88.drew|apply IsS88.set_1|apply IsS88.set_2|refine IsS88.far ?_ NB0_258.out _|refine IsS88.far ?_ NB0_259.out _)|exact HI0.out)) (rZ HO_260000.out) (by decide)) hk (fun _ h => h.2)) (fun _ h => h.1));have n1_:=aM (Kd.R_mono (Kd.R_keep (IsS88.apart (show IsS88 w0 _ g s0_0 t261 t262 from by repeat (first|(with_reducible first|exact HI0.out|apply IsS88.alloc|apply IsS88.drewN|apply IsS88.drew|apply IsS88.set_1|apply IsS88.set_2|refine IsS88.far ?_ NB0_258.out _|refine IsS88.far ?_ NB0_259.out _)|exact HI0.out)) (rZ HO_260001.out) (by decide)) hk (fun _ h => h.2)) (fun _ h => h.1));have n2_:=aM (KeepBut.blk hk (g':=gb258) (o:=.cells #[.slice none 0 0,.slice none 0 0,.string (⟨#[]⟩ : ByteArray)] 38 (0,0)) (by (with_reducible repeat (first|refine bN ?_ _|refine bD ?_|refine bA ?_ _));exact BK258.out) NB258_0.out (by simp));have n3_:=aM (KeepBut.blk hk (g':=gb259) (o:=.cells #[u260000,u260001,.string x260002_1] 38 (0,0)) (by (with_reducible repeat (first|refine bN ?_ _|refine bD ?_|refine bA ?_ _));exact BK259.out) NB259_0.out (by simp));have n4_:=aM (KeepBut.trans (by repeat (first|(with_reducible first|exact HK.out|apply KeepBut.set_|apply keep_drewN|apply keep_drew|apply keep_alloc|refine keep_far ?_ GW258.out _|refine keep_far ?_ GW259.out _)|exact HK.out)) hk (.inl rfl));have n5_:=aM (hb);have n6_:=aM (hi);clear HO_260000 HO_260001 BK258 BK259 HK HB HI0;have HO_260000:=n0_;have HO_260001:=n1_;have BK258:=n2_;have BK259:=n3_;have HK:=n4_;have HB:=n5_;have HI0:=n6_;clear n0_ n1_ n2_ n3_ n4_ n5_ n6_;(try clear hb);(try clear hb2);(try clear hk);(try clear hi)))
     have n0_:=aM (rD HO_260000.out)
     have n1_:=aM (rD HO_260001.out)
     have n2_:=aM (bD BK258.out)
     have n3_:=aM (bD BK259.out)
     have n4_:=aM (IsS88.drew HI0.out)
     have n5_:=aM (keep_drew HK.out)
     have n6_:=aM (lD HB.out)
     clear HO_260000
     clear HO_260001
     clear BK258
     clear BK259
     clear HI0
     clear HK
     clear HB
     have HO_260000:=n0_
     have HO_260001:=n1_
     have BK258:=n2_
     have BK259:=n3_
     have HI0:=n4_
     have HK:=n5_
     have HB:=n6_
     clear n0_ n1_ n2_ n3_ n4_ n5_ n6_
     refine start_ (n:=7) (S:=fun w' => w'.cell? ⟨gb259,0,none⟩ = some (u260000) ∧ w'.cell? ⟨gb259,1,none⟩ = some (u260001) ∧ w'.cell? ⟨gb259,2,none⟩ = some (.string x260002_1)) (ds:=[6]) #[bf,bf,bf,bf,bf,bf,bf] (by kernel_rfl) rfl rfl ⟨(bC BK259.out 0).trans rfl,(bC BK259.out 1).trans rfl,(bC BK259.out 2).trans rfl⟩ (fun hHeld => ?_)
     generalize w15.drew = w16 at HO_260000 HO_260001 BK258 BK259 HI0 HK HB hHeld ⊢
     refine pure_ (i:=1) (N:=some 21) (v:=?_) (a':=?_) #[bf,bT,bf,bf,bf,bf,bf] rfl rfl (by kernel_rfl) (fun _ _ _ h => h) (Or.inl ⟨by rfl,?_⟩) ?_ ?_
     rotate_left
     ·intro w';go_simp;with_reducible rfl
     rotate_left
     ·simp only [Act.put,q_ia6,q_cz6,q_cs6,i64_w,i32_w];rfl
     refine pure_ (i:=3) (N:=some 23) (v:=?_) (a':=?_) #[bf,bT,bf,bT,bf,bf,bf] rfl rfl (by kernel_rfl) (fun _ _ _ h => h) (Or.inl ⟨by rfl,?_⟩) ?_ ?_
     rotate_left
     ·intro w';go_simp;with_reducible rfl
     rotate_left
     ·simp only [Act.put,q_ia6,q_cz6,q_cs6,i64_w,i32_w];rfl
     refine take_ (i:=0) (N:=some 20) (v:=?_) (a':=?_) #[bT,bT,bf,bT,bf,bf,bf] rfl rfl (by kernel_rfl) (fun _ _ _ h => h) (Or.inl ⟨by rfl,?_⟩) hHeld ?_ ?_
     rotate_left
     ·rintro w' ⟨s0,s1,s2⟩
      go_simp
      with_reducible rfl
     rotate_left
     ·simp only [Act.put,q_ia6,q_cz6,q_cs6,i64_w,i32_w];rfl
     refine one_ (i:=2) (N:=some 22) #[bT,bT,bT,bT,bf,bf,bf] rfl rfl (by kernel_rfl) (by decide) (fun K hK => ?_)
     refine goes_ Try.func81 (by kernel_rfl) rfl #[.pointer (some ⟨g,0,none⟩)] (by rfl) rfl rfl (by (try simp only [List.map_toArray,List.map_cons,List.map_nil]);first|done|rfl|(simp only [List.length_drop,List.length_take];rfl)) ?_
     with_reducible refine (spec_l08Name.calls g s0_0 t264 t265 t266 t267 t268 w0 _ ?side1 ?side2 A11.out).mono ?_
     (case side1 => repeat (first|(with_reducible first|exact HI0.out|apply IsS88.alloc|apply IsS88.drewN|apply IsS88.drew|apply IsS88.set_1|apply IsS88.set_2|refine IsS88.far ?_ NB0_258.out _|refine IsS88.far ?_ NB0_259.out _)|exact HI0.out))
     (case side2 => repeat (first|(with_reducible first|exact HB.out|apply lA|apply lN|apply lD|refine lS ?_ (IsS88.ge HI0.out)|refine lS ?_ GE258.out|refine lS ?_ GE259.out)|exact HB.out))
     rintro e w17 ⟨rfl,hi,hb,hk⟩
     refine ⟨_,rfl,?_⟩
     have n0_:=aM (Kd.R_mono (Kd.R_keep (IsS88.apart (show IsS88 w0 _ g s0_0 t264 t265 from by repeat (first|(with_reducible first|exact HI0.out|apply IsS88.alloc|apply IsS88.drewN|apply IsS88.drew|apply IsS88.set_1|apply IsS88.set_2|refine IsS88.far ?_ NB0_258.out _|refine IsS88.far ?_ NB0_259.out _)|exact HI0.out)) (rZ HO_260000.out) (by decide)) hk (fun _ h => h.2)) (fun _ h => h.1))
     have n1_:=aM (Kd.R_mono (Kd.R_keep (IsS88.apart (show IsS88 w0 _ g s0_0 t264 t265 from by repeat (first|(with_reducible first|exact HI0.out|apply IsS88.alloc|apply IsS88.drewN|apply IsS88.drew|apply IsS88.set_1|apply IsS88.set_2|refine IsS88.far ?_ NB0_258.out _|refine IsS88.far ?_ NB0_259.out _)|exact HI0.out)) (rZ HO_260001.out) (by decide)) hk (fun _ h => h.2)) (fun _ h => h.1))
     have n2_:=aM (KeepBut.blk hk (g':=gb258) (o:=.cells #[.slice none 0 0,.slice none 0 0,.string (⟨#[]⟩ : ByteArray)] 38 (0,0)) (by (with_reducible repeat (first|refine bN ?_ _|refine bD ?_|refine bA ?_ _));exact BK258.out) NB258_0.out (by simp))
     have n3_:=aM (KeepBut.blk hk (g':=gb259) (o:=.cells #[u260000,u260001,.string x260002_1] 38 (0,0)) (by (with_reducible repeat (first|refine bN ?_ _|refine bD ?_|refine bA ?_ _));exact BK259.out) NB259_0.out (by simp))
     have n4_:=aM (KeepBut.trans (by repeat (first|(with_reducible first|exact HK.out|apply KeepBut.set_|apply keep_drewN|apply keep_drew|apply keep_alloc|refine keep_far ?_ GW258.out _|refine keep_far ?_ GW259.out _)|exact HK.out)) hk (.inl rfl))
     have n5_:=aM (hb)
     have n6_:=aM (hi)
     clear HO_260000
     clear HO_260001
     clear BK258
     clear BK259
     clear HK
     clear HB
     clear HI0
     have HO_260000:=n0_
     have HO_260001:=n1_
     have BK258:=n2_
     have BK259:=n3_
     have HK:=n4_
     have HB:=n5_
     have HI0:=n6_
     clear n0_ n1_ n2_ n3_ n4_ n5_ n6_
     (try clear hb)
     (try clear hb2)
     (try clear hk)
     (try clear hi)
     refine hK.out _ _ ⟨(bC BK259.out 0).trans rfl,(bC BK259.out 1).trans rfl,(bC BK259.out 2).trans rfl⟩ (fun hHeld => ?_)
     clear hK K
     refine norm_ (a':=?_) ?_ ?_
     rotate_left
     ·show Act.put _ (some 22) _ = _
      simp only [Act.put,q_ia6,q_cz6,q_cs6,i64_w,i32_w]
      rfl
     refine one_ (i:=4) (N:=some 24) #[bT,bT,bT,bT,bT,bf,bf] rfl rfl (by kernel_rfl) (by decide) (fun K hK => ?_)
     refine goes_ Try.func82 (by kernel_rfl) rfl #[.pointer (some ⟨g,0,none⟩)] (by rfl) rfl rfl (by (try simp only [List.map_toArray,List.map_cons,List.map_nil]);first|done|rfl|(simp only [List.length_drop,List.length_take];rfl)) ?_
     with_reducible refine (spec_l03Val.calls g s0_0 t267 t268 t269 t270 t271 w0 _ ?side1 ?side2 A12.out).mono ?_
     (case side1 => repeat (first|(with_reducible first|exact HI0.out|apply IsS88.alloc|apply IsS88.drewN|apply IsS88.drew|apply IsS88.set_1|apply IsS88.set_2|refine IsS88.far ?_ NB0_258.out _|refine IsS88.far ?_ NB0_259.out _)|exact HI0.out))
     (case side2 => repeat (first|(with_reducible first|exact HB.out|apply lA|apply lN|apply lD|refine lS ?_ (IsS88.ge HI0.out)|refine lS ?_ GE258.out|refine lS ?_ GE259.out)|exact HB.out))
     rintro e w18 ⟨rfl,hi,hb,hk⟩
     refine ⟨_,rfl,?_⟩
     have n0_:=aM (Kd.R_mono (Kd.R_keep (IsS88.apart (show IsS88 w0 _ g s0_0 t267 t268 from by repeat (first|(with_reducible first|exact HI0.out|apply IsS88.alloc|apply IsS88.drewN|apply IsS88.drew|apply IsS88.set_1|apply IsS88.set_2|refine IsS88.far ?_ NB0_258.out _|refine IsS88.far ?_ NB0_259.out _)|exact HI0.out)) (rZ HO_260000.out) (by decide)) hk (fun _ h => h.2)) (fun _ h => h.1))
     have n1_:=aM (Kd.R_mono (Kd.R_keep (IsS88.apart (show IsS88 w0 _ g s0_0 t267 t268 from by repeat (first|(with_reducible first|exact HI0.out|apply IsS88.alloc|apply IsS88.drewN|apply IsS88.drew|apply IsS88.set_1|apply IsS88.set_2|refine IsS88.far ?_ NB0_258.out _|refine IsS88.far ?_ NB0_259.out _)|exact HI0.out)) (rZ HO_260001.out) (by decide)) hk (fun _ h => h.2)) (fun _ h => h.1))
     have n2_:=aM (KeepBut.blk hk (g':=gb258) (o:=.cells #[.slice none 0 0,.slice none 0 0,.string (⟨#[]⟩ : ByteArray)] 38 (0,0)) (by (with_reducible repeat (first|refine bN ?_ _|refine bD ?_|refine bA ?_ _));exact BK258.out) NB258_0.out (by simp))
     have n3_:=aM (KeepBut.blk hk (g':=gb259) (o:=.cells #[u260000,u260001,.string x260002_1] 38 (0,0)) (by (with_reducible repeat (first|refine bN ?_ _|refine bD ?_|refine bA ?_ _));exact BK259.out) NB259_0.out (by simp))
     have n4_:=aM (KeepBut.trans (by repeat (first|(with_reducible first|exact HK.out|apply KeepBut.set_|apply keep_drewN|apply keep_drew|apply keep_alloc|refine keep_far ?_ GW258.out _|refine keep_far ?_ GW259.out _)|exact HK.out)) hk (.inl rfl))
     have n5_:=aM (hb)
     have n6_:=aM (hi)
     clear HO_260000
     clear HO_260001
     clear BK258
     clear BK259
     clear HK
     clear HB
     clear HI0
     have HO_260000:=n0_
     have HO_260001:=n1_
     have BK258:=n2_
     have BK259:=n3_
     have HK:=n4_
     have HB:=n5_
     have HI0:=n6_
     clear n0_ n1_ n2_ n3_ n4_ n5_ n6_
     (try clear hb)
     (try clear hb2)
     (try clear hk)
     (try clear hi)
     obtain ⟨Ao19,co19,eo19⟩:=Kd.R_slice HO_260000.out
     (first|subst eo19|(injection eo19 with f1_ f2_ f3_;have f4_:=f1_.symm;have f5_:=f3_.symm;clear f1_ f2_ f3_;subst f4_;subst f5_))
     obtain ⟨Ao20,co20,eo20⟩:=Kd.R_slice HO_260001.out
     (first|subst eo20|(injection eo20 with f1_ f2_ f3_;have f4_:=f1_.symm;have f5_:=f3_.symm;clear f1_ f2_ f3_;subst f4_;subst f5_))
     refine hK.out _ _ ⟨(bC BK259.out 0).trans rfl,(bC BK259.out 1).trans rfl,(bC BK259.out 2).trans rfl⟩ (fun hHeld => ?_)
     clear hK K
     refine norm_ (a':=?_) ?_ ?_
     rotate_left
     ·show Act.put _ (some 24) _ = _
      simp only [Act.put,q_ia6,q_cz6,q_cs6,i64_w,i32_w]
      rfl
     refine one_ (i:=5) (N:=some 25) #[bT,bT,bT,bT,bT,bT,bf] rfl rfl (by kernel_rfl) (by decide) (fun K hK => ?_)
     refine goes_ Try.func28 (by kernel_rfl) rfl #[.agg #[.slice Ao19 x260000_1.length co19,.slice Ao20 x260001_1.length co20,.string x260002_1],.string t266,.string t269] (by rfl) rfl rfl (by (try simp only [List.map_toArray,List.map_cons,List.map_nil]);first|done|rfl|(simp only [List.length_drop,List.length_take];rfl)) ?_
     with_reducible refine (spec_SetVar.calls k1 _ _ x260000_1 _ _ x260001_1 x260002_1 t266 t269 t272 t275 t278 _ ?side1 ?side2 ?side3 ?side4 A13.out).mono ?_
     (case side1 => repeat (first|exact (rR HO_260000.out).2.2|(with_reducible first|refine cA ?_ _|refine cN ?_ _|refine cD ?_)))
     (case side2 => exact (rR HO_260000.out).2.1)
     (case side3 => repeat (first|exact (rR HO_260001.out).2.2|(with_reducible first|refine cA ?_ _|refine cN ?_ _|refine cD ?_)))
     (case side4 => exact (rR HO_260001.out).2.1)
     rintro e w21 ⟨v273,v276,rfl,ho0,ho1,hb⟩
     refine ⟨_,rfl,?_⟩
     have n0_:=aM (rE (rZ HO_260000.out) (rS ho0) hb)
     have n1_:=aM (rE (rZ HO_260001.out) (rS ho1) hb)
     have n2_:=aM (rL (rW ho0 (rT (rZ HO_260000.out))) (keep_size (w:=w) (g:=g) (row:=none) (by repeat (first|(with_reducible first|exact HK.out|apply KeepBut.set_|apply keep_drewN|apply keep_drew|apply keep_alloc|refine keep_far ?_ GW258.out _|refine keep_far ?_ GW259.out _)|exact HK.out))))
     have n3_:=aM (rL (rW ho1 (rT (rZ HO_260001.out))) (keep_size (w:=w) (g:=g) (row:=none) (by repeat (first|(with_reducible first|exact HK.out|apply KeepBut.set_|apply keep_drewN|apply keep_drew|apply keep_alloc|refine keep_far ?_ GW258.out _|refine keep_far ?_ GW259.out _)|exact HK.out))))
     have n4_:=aM (bH BK258.out hb)
     have n5_:=aM (bH BK259.out hb)
     have n6_:=aM (IsS88.below (by repeat (first|(with_reducible first|exact HI0.out|apply IsS88.alloc|apply IsS88.drewN|apply IsS88.drew|apply IsS88.set_1|apply IsS88.set_2|refine IsS88.far ?_ NB0_258.out _|refine IsS88.far ?_ NB0_259.out _)|exact HI0.out)) hb)
     have n7_:=aM (KeepBut.trans (by repeat (first|(with_reducible first|exact HK.out|apply KeepBut.set_|apply keep_drewN|apply keep_drew|apply keep_alloc|refine keep_far ?_ GW258.out _|refine keep_far ?_ GW259.out _)|exact HK.out)) (KeepBut.of_below hb g none) (.inl rfl))
     have n8_:=aM (lP (by repeat (first|(with_reducible first|exact HB.out|apply lA|apply lN|apply lD|refine lS ?_ (IsS88.ge HI0.out)|refine lS ?_ GE258.out|refine lS ?_ GE259.out)|exact HB.out)) hb)
     clear HO_260000
     clear HO_260001
     clear BK258
     clear BK259
     clear HI0
     clear HK
     clear HB
     have HO_260000:=n0_
     have HO_260001:=n1_
     have HO274:=n2_
     have HO277:=n3_
     have BK258:=n4_
     have BK259:=n5_
     have HI0:=n6_
     have HK:=n7_
     have HB:=n8_
     clear n0_ n1_ n2_ n3_ n4_ n5_ n6_ n7_ n8_
     (try clear hb)
     (try clear hb2)
     (try clear hk)
     (try clear hi)
     (try clear ho0)
     (try clear ho1)
     obtain ⟨Ao22,co22,eo22⟩:=Kd.R_slice HO274.out
     (first|subst eo22|(injection eo22 with f1_ f2_ f3_;have f4_:=f1_.symm;have f5_:=f3_.symm;clear f1_ f2_ f3_;subst f4_;subst f5_))
     obtain ⟨Ao24,co24,eo24⟩:=Kd.R_slice HO277.out
     (first|subst eo24|(injection eo24 with f1_ f2_ f3_;have f4_:=f1_.symm;have f5_:=f3_.symm;clear f1_ f2_ f3_;subst f4_;subst f5_))
     refine hK.out _ _ ⟨(bC BK259.out 0).trans rfl,(bC BK259.out 1).trans rfl,(bC BK259.out 2).trans rfl⟩ (fun hHeld => ?_)
     clear hK K
     refine norm_ (a':=?_) ?_ ?_
     rotate_left
     ·show Act.put _ (some 25) _ = _
      simp only [Act.put,q_ia6,q_cz6,q_cs6,i64_w,i32_w]
      rfl
     refine last_ (i:=6) (N:=none) #[bT,bT,bT,bT,bT,bT,bT] rfl rfl (by kernel_rfl) (by decide) (fun K hK => ?_)
     have hs23 : w21.cell? ⟨gb259,0,none⟩ = some (.slice Ao19 x260000_1.length co19):=(bC BK259.out 0).trans rfl
     have hfs23:=bF BK259.out 0
     have hns23_0:=NB258_259.out
     have hms23_0:=NB259_258.out
     have hs25 : w21.cell? ⟨gb259,1,none⟩ = some (.slice Ao20 x260001_1.length co20):=(bC BK259.out 1).trans rfl
     have hfs25:=bF BK259.out 1
     have hns25_0:=NB258_259.out
     have hms25_0:=NB259_258.out
     have hs26 : w21.cell? ⟨gb259,2,none⟩ = some (.string x260002_1):=(bC BK259.out 2).trans rfl
     have hfs26:=bF BK259.out 2
     have hns26_0:=NB258_259.out
     have hms26_0:=NB259_258.out
     refine skip_ (w1:=?_) (by rfl) rfl ?_ ?_
     rotate_left
     ·go_simp
      rfl
     refine hK.out _ _ ?_
     clear hK K
     refine done_ (by kernel_rfl) ?_
     try go_wp2
     go_roundg k1
     case measure => have:=HK1.out;omega
     case rel => exact ⟨(wrap64 (x4_1 + 1)),(t270),(t271),(t272),(t275),(t278),(.slice Ao22 t272.length co22),(.slice Ao24 t275.length co24),(by first|rfl|(simp;done)|(simp [*];done)),H',⟨by have:=HK1.out;omega⟩,⟨by (with_reducible repeat (first|apply rA|apply rN|apply rD));exact Kd.R_mono (rF (rF (rF (rY HO274.out BK259.out (by decide)) (fun _ hk => hk.2) _) (fun _ hk => hk.2) _) (fun _ hk => hk.2) _) (fun _ hk => trivial)⟩,⟨by (with_reducible repeat (first|apply rA|apply rN|apply rD));exact Kd.R_mono (rF (rF (rF (rY HO277.out BK259.out (by decide)) (fun _ hk => hk.2) _) (fun _ hk => hk.2) _) (fun _ hk => hk.2) _) (fun _ hk => trivial)⟩,⟨by (with_reducible repeat (first|refine bN ?_ _|refine bD ?_|refine bA ?_ _));refine blk_far ?_ NB258_259.out _;(with_reducible repeat (first|refine bN ?_ _|refine bD ?_|refine bA ?_ _));refine blk_far ?_ NB258_259.out _;(with_reducible repeat (first|refine bN ?_ _|refine bD ?_|refine bA ?_ _));refine blk_far ?_ NB258_259.out _;(with_reducible repeat (first|refine bN ?_ _|refine bD ?_|refine bA ?_ _));exact BK258.out⟩,⟨by (with_reducible repeat (first|refine bN ?_ _|refine bD ?_|refine bA ?_ _));refine blk_put (cs:=#[.slice Ao22 t272.length co22,.slice Ao24 t275.length co24,.string x260002_1]) ?_ 2 _ rfl;(with_reducible repeat (first|refine bN ?_ _|refine bD ?_|refine bA ?_ _));refine blk_put (cs:=#[.slice Ao22 t272.length co22,.slice Ao20 x260001_1.length co20,.string x260002_1]) ?_ 1 _ rfl;(with_reducible repeat (first|refine bN ?_ _|refine bD ?_|refine bA ?_ _));refine blk_put (cs:=#[.slice Ao19 x260000_1.length co19,.slice Ao20 x260001_1.length co20,.string x260002_1]) ?_ 0 _ rfl;(with_reducible repeat (first|refine bN ?_ _|refine bD ?_|refine bA ?_ _));exact BK259.out⟩,⟨by repeat (first|(with_reducible first|exact HI0.out|apply IsS88.alloc|apply IsS88.drewN|apply IsS88.drew|apply IsS88.set_1|apply IsS88.set_2|refine IsS88.far ?_ NB0_258.out _|refine IsS88.far ?_ NB0_259.out _)|exact HI0.out)⟩,⟨by repeat (first|(with_reducible first|exact HK.out|apply KeepBut.set_|apply keep_drewN|apply keep_drew|apply keep_alloc|refine keep_far ?_ GW258.out _|refine keep_far ?_ GW259.out _)|exact HK.out)⟩,⟨by repeat (first|(with_reducible first|exact HB.out|apply lA|apply lN|apply lD|refine lS ?_ (IsS88.ge HI0.out)|refine lS ?_ GE258.out|refine lS ?_ GE259.out)|exact HB.out)⟩⟩
    ·rw [if_neg c10] at H
     have c10b0 : (t263 == 0) = false:=beq_eq_false_iff_ne.mpr c10
     have c10b1 : (t263 != 0) = true:=bne_iff_ne.mpr c10
     by_cases c27 : t263 = 1
     ·rw [if_pos c27] at H
      have c27b0 : (t263 == 1) = true:=beq_iff_eq.mpr c27
      have c27b1 : (t263 != 1) = false:=bne_eq_false_iff_eq.mpr c27
      clear c27
      obtain ⟨y279,hy279⟩ : ∃ y_ : List ByteArray,y_ = (([(⟨#[116]⟩ : ByteArray),(⟨#[117]⟩ : ByteArray)] : List ByteArray)):=⟨_,rfl⟩
      replace H : ((spec_l01Pick.f s0_0 t264 t265 y279).bind fun bt282 => ((spec_l03Val.f s0_0 bt282.2.1 bt282.2.2).bind fun bt285 => ((spec_l03Val.f s0_0 bt285.2.1 bt285.2.2).bind fun bt288 => ((spec_SetCell.f k1 x260000_1 x260001_1 x260002_1 bt282.1 bt285.1 bt288.1).bind fun bt291 => (spec_l08Store.l0 k1 (wrap64 (x4_1 + 1)) s0_0 bt288.2.1 bt288.2.2 bt291.1 bt291.2.1 bt291.2.2))))) = some (r1,r2,r3,r4,r5):=by first|(rw [hy279];with_reducible exact H)|(have H2_:=(Option.bind_some _ _).symm.trans H;rw [hy279];with_reducible exact H2_)|(have H2_:=(Option.bind_some _ _).symm.trans H;with_reducible exact H2_)|with_reducible exact H|(rw [hy279];exact H)|exact H
      have Ny279:=aM hy279
      clear hy279
      replace H:=Option.bind_eq_some_iff.mp H
      obtain ⟨⟨t282,t283,t284⟩,A280,H⟩:=H
      replace H : ((spec_l03Val.f s0_0 t283 t284).bind fun bt285 => ((spec_l03Val.f s0_0 bt285.2.1 bt285.2.2).bind fun bt288 => ((spec_SetCell.f k1 x260000_1 x260001_1 x260002_1 t282 bt285.1 bt288.1).bind fun bt291 => (spec_l08Store.l0 k1 (wrap64 (x4_1 + 1)) s0_0 bt288.2.1 bt288.2.2 bt291.1 bt291.2.1 bt291.2.2)))) = some (r1,r2,r3,r4,r5):=H
      have A28:=aM A280
      clear A280
      replace H:=Option.bind_eq_some_iff.mp H
      obtain ⟨⟨t285,t286,t287⟩,A290,H⟩:=H
      replace H : ((spec_l03Val.f s0_0 t286 t287).bind fun bt288 => ((spec_SetCell.f k1 x260000_1 x260001_1 x260002_1 t282 t285 bt288.1).bind fun bt291 => (spec_l08Store.l0 k1 (wrap64 (x4_1 + 1)) s0_0 bt288.2.1 bt288.2.2 bt291.1 bt291.2.1 bt291.2.2))) = some (r1,r2,r3,r4,r5):=H
      have A29:=aM A290
      clear A290
      replace H:=Option.bind_eq_some_iff.mp H
      obtain ⟨⟨t288,t289,t290⟩,A300,H⟩:=H
      replace H : ((spec_SetCell.f k1 x260000_1 x260001_1 x260002_1 t282 t285 t288).bind fun bt291 => (spec_l08Store.l0 k1 (wrap64 (x4_1 + 1)) s0_0 t289 t290 bt291.1 bt291.2.1 bt291.2.2)) = some (r1,r2,r3,r4,r5):=H
      have A30:=aM A300
      clear A300
      replace H:=Option.bind_eq_some_iff.mp H
      obtain ⟨⟨t291,t294,t297⟩,A310,H⟩:=H
      replace H : (spec_l08Store.l0 k1 (wrap64 (x4_1 + 1)) s0_0 t289 t290 t291 t294 t297) = some (r1,r2,r3,r4,r5):=H
      have A31:=aM A310
      clear A310
      have H':=aM H
      clear H
      try go_wp2_with (first|((with_reducible refine gate_callee (f:=46) rfl ?_);refine goesL_ (some 8) rfl rfl Try.func46 (by kernel_rfl) rfl #[.pointer (some ⟨g,0,none⟩),.int .i64 8] rfl (by (try simp only [List.map_toArray,List.map_cons,List.map_nil]);first|done|rfl|(simp only [List.length_drop,List.length_take];rfl)) ?_;(with_reducible refine (spec_l01Below.calls g s0_0 x1001_1 x1002_1 8 t260 t261 t262 w0 _ ?side1 ?side2 A7.out).mono ?_);(case side1 => repeat (first|(with_reducible first|exact HI0.out|apply IsS88.alloc|apply IsS88.drewN|apply IsS88.drew|apply IsS88.set_1|apply IsS88.set_2|refine IsS88.far ?_ NB0_258.out _|refine IsS88.far ?_ NB0_259.out _)|exact HI0.out));(case side2 => repeat (first|(with_reducible first|exact HB.out|apply lA|apply lN|apply lD|refine lS ?_ (IsS88.ge HI0.out)|refine lS ?_ GE258.out|refine lS ?_ GE259.out)|exact HB.out));rintro e w32 ⟨rfl,hi,hb,hk⟩;refine ⟨_,rfl,?_⟩;have n0_:=aM (Kd.R_mono (Kd.R_keep (IsS88.apart (show IsS88 w0 _ g s0_0 x1001_1 x1002_1 from by repeat (first|(with_reducible first|exact HI0.out|apply IsS88.alloc|apply IsS88.drewN|apply IsS88.drew|apply IsS88.set_1|apply IsS88.set_2|refine IsS88.far ?_ NB0_258.out _|refine IsS88.far ?_ NB0_259.out _)|exact HI0.out)) (rZ HO_260000.out) (by decide)) hk (fun _ h => h.2)) (fun _ h => h.1));have n1_:=aM (Kd.R_mono (Kd.R_keep (IsS88.apart (show IsS88 w0 _ g s0_0 x1001_1 x1002_1 from by repeat (first|(with_reducible first|exact HI0.out|apply IsS88.alloc|apply IsS88.drewN|apply IsS88.drew|apply IsS88.set_1|apply IsS88.set_2|refine IsS88.far ?_ NB0_258.out _|refine IsS88.far ?_ NB0_259.out _)|exact HI0.out)) (rZ HO_260001.out) (by decide)) hk (fun _ h => h.2)) (fun _ h => h.1));have n2_:=aM (KeepBut.blk hk (g':=gb258) (o:=.cells #[.slice none 0 0,.slice none 0 0,.string (⟨#[]⟩ : ByteArray)] 38 (0,0)) (by (with_reducible repeat (first|refine bN ?_ _|refine bD ?_|refine bA ?_ _));exact BK258.out) NB258_0.out (by simp));have n3_:=aM (KeepBut.blk hk (g':=gb259) (o:=.cells #[u260000,u260001,.string x260002_1] 38 (0,0)) (by (with_reducible repeat (first|refine bN ?_ _|refine bD ?_|refine bA ?_ _));exact BK259.out) NB259_0.out (by simp));have n4_:=aM (KeepBut.trans (by repeat (first|(with_reducible first|exact HK.out|apply KeepBut.set_|apply keep_drewN|apply keep_drew|apply keep_alloc|refine keep_far ?_ GW258.out _|refine keep_far ?_ GW259.out _)|exact HK.out)) hk (.inl rfl));have n5_:=aM (hb);have n6_:=aM (hi);clear HO_260000 HO_260001 BK258 BK259 HK HB HI0;have HO_260000:=n0_;have HO_260001:=n1_;have BK258:=n2_;have BK259:=n3_;have HK:=n4_;have HB:=n5_;have HI0:=n6_;clear n0_ n1_ n2_ n3_ n4_ n5_ n6_;(try clear hb);(try clear hb2);(try clear hk);(try clear hi))|((with_reducible refine gate_callee (f:=46) rfl ?_);refine goesL_ (some 13) rfl rfl Try.func46 (by kernel_rfl) rfl #[.pointer (some ⟨g,0,none⟩),.int .i64 3] rfl (by (try simp only [List.map_toArray,List.map_cons,List.map_nil]);first|done|rfl|(simp only [List.length_drop,List.length_take];rfl)) ?_;(with_reducible refine (spec_l01Below.calls g s0_0 t261 t262 3 t263 t264 t265 w0 _ ?side1 ?side2 A9.out).mono ?_);(case side1 => repeat (first|(with_reducible first|exact HI0.out|apply IsS88.alloc|apply IsS88.drewN|apply IsS88.drew|apply IsS88.set_1|apply IsS88.set_2|refine IsS88.far ?_ NB0_258.out _|refine IsS88.far ?_ NB0_259.out _)|exact HI0.out));(case side2 => repeat (first|(with_reducible first|exact HB.out|apply lA|apply lN|apply lD|refine lS ?_ (IsS88.ge HI0.out)|refine lS ?_ GE258.out|refine lS ?_ GE259.out)|exact HB.out));rintro e w33 ⟨rfl,hi,hb,hk⟩;refine ⟨_,rfl,?_⟩;have n0_:=aM (Kd.R_mono (Kd.R_keep (IsS88.apart (show IsS88 w0 _ g s0_0 t261 t262 from by repeat (first|(with_reducible first|exact HI0.out|apply IsS88.alloc|apply IsS88.drewN|apply IsS88.drew|apply IsS88.set_1|apply IsS88.set_2|refine IsS88.far ?_ NB0_258.out _|refine IsS88.far ?_ NB0_259.out _)|exact HI0.out)) (rZ HO_260000.out) (by decide)) hk (fun _ h => h.2)) (fun _ h => h.1));have n1_:=aM (Kd.R_mono (Kd.R_keep (IsS88.apart (show IsS88 w0 _ g s0_0 t261 t262 from by repeat (first|(with_reducible first|exact HI0.out|apply IsS88.alloc|apply IsS88.drewN|apply IsS88.drew|apply IsS88.set_1|apply IsS88.set_2|refine IsS88.far ?_ NB0_258.out _|refine IsS88.far ?_ NB0_259.out _)|exact HI0.out)) (rZ HO_260001.out) (by decide)) hk (fun _ h => h.2)) (fun _ h => h.1));have n2_:=aM (KeepBut.blk hk (g':=gb258) (o:=.cells #[.slice none 0 0,.slice none 0 0,.string (⟨#[]⟩ : ByteArray)] 38 (0,0)) (by (with_reducible repeat (first|refine bN ?_ _|refine bD ?_|refine bA ?_ _));exact BK258.out) NB258_0.out (by simp));have n3_:=aM (KeepBut.blk hk (g':=gb259) (o:=.cells #[u260000,u260001,.string x260002_1] 38 (0,0)) (by (with_reducible repeat (first|refine bN ?_ _|refine bD ?_|refine bA ?_ _));exact BK259.out) NB259_0.out (by simp));have n4_:=aM (KeepBut.trans (by repeat (first|(with_reducible first|exact HK.out|apply KeepBut.set_|apply keep_drewN|apply keep_drew|apply keep_alloc|refine keep_far ?_ GW258.out _|refine keep_far ?_ GW259.out _)|exact HK.out)) hk (.inl rfl));have n5_:=aM (hb);have n6_:=aM (hi);clear HO_260000 HO_260001 BK258 BK259 HK HB HI0;have HO_260000:=n0_;have HO_260001:=n1_;have BK258:=n2_;have BK259:=n3_;have HK:=n4_;have HB:=n5_;have HI0:=n6_;clear n0_ n1_ n2_ n3_ n4_ n5_ n6_;(try clear hb);(try clear hb2);(try clear hk);(try clear hi)))
      have n0_:=aM (rD HO_260000.out)
      have n1_:=aM (rD HO_260001.out)
      have n2_:=aM (bD BK258.out)
      have n3_:=aM (bD BK259.out)
      have n4_:=aM (IsS88.drew HI0.out)
      have n5_:=aM (keep_drew HK.out)
      have n6_:=aM (lD HB.out)
      clear HO_260000
      clear HO_260001
      clear BK258
      clear BK259
      clear HI0
      clear HK
      clear HB
      have HO_260000:=n0_
      have HO_260001:=n1_
      have BK258:=n2_
      have BK259:=n3_
      have HI0:=n4_
      have HK:=n5_
      have HB:=n6_
      clear n0_ n1_ n2_ n3_ n4_ n5_ n6_
      refine start_ (n:=10) (S:=fun w' => w'.cell? ⟨gb259,0,none⟩ = some (u260000) ∧ w'.cell? ⟨gb259,1,none⟩ = some (u260001) ∧ w'.cell? ⟨gb259,2,none⟩ = some (.string x260002_1)) (ds:=[9]) #[bf,bf,bf,bf,bf,bf,bf,bf,bf,bf] (by kernel_rfl) rfl rfl ⟨(bC BK259.out 0).trans rfl,(bC BK259.out 1).trans rfl,(bC BK259.out 2).trans rfl⟩ (fun hHeld => ?_);refine with_tabW spec_l08Store.tab10 spec_l08Store.bits10 (fun HT_ HW_ => ?_)
      generalize w33.drew = w34 at HO_260000 HO_260001 BK258 BK259 HI0 HK HB hHeld ⊢
      refine pQ (i:=1) (N:=some 29) (v:=?_) (a':=?_) #[bf,bT,bf,bf,bf,bf,bf,bf,bf,bf] (any_of HT_.out (by kernel_rfl)) ?_ ?_ ?_
      rotate_left
      ·intro w';go_simp;with_reducible rfl
      rotate_left
      ·simp only [Act.put,q_ia6,q_cz6,q_cs6,i64_w,i32_w];rfl
      refine pQ (i:=4) (N:=some 32) (v:=?_) (a':=?_) #[bf,bT,bf,bf,bT,bf,bf,bf,bf,bf] (any_of HT_.out (by kernel_rfl)) ?_ ?_ ?_
      rotate_left
      ·intro w';go_simp;with_reducible rfl
      rotate_left
      ·simp only [Act.put,q_ia6,q_cz6,q_cs6,i64_w,i32_w];rfl
      refine pQ (i:=6) (N:=some 34) (v:=?_) (a':=?_) #[bf,bT,bf,bf,bT,bf,bT,bf,bf,bf] (any_of HT_.out (by kernel_rfl)) ?_ ?_ ?_
      rotate_left
      ·intro w';go_simp;with_reducible rfl
      rotate_left
      ·simp only [Act.put,q_ia6,q_cz6,q_cs6,i64_w,i32_w];rfl
      refine take_ (i:=0) (N:=some 28) (v:=?_) (a':=?_) #[bT,bT,bf,bf,bT,bf,bT,bf,bf,bf] rfl rfl (take_ofW HT_.out HW_.out (by kernel_rfl)) (fun _ _ _ h => h) (Or.inl ⟨by rfl,?_⟩) hHeld ?_ ?_
      rotate_left
      ·rintro w' ⟨s0,s1,s2⟩
       go_simp
       with_reducible rfl
      rotate_left
      ·simp only [Act.put,q_ia6,q_cz6,q_cs6,i64_w,i32_w];rfl
      refine one_ (i:=2) (N:=some 30) #[bT,bT,bT,bf,bT,bf,bT,bf,bf,bf] rfl rfl (one_of HT_.out (by kernel_rfl)) (by decide) (fun K hK => ?_)
      refine Kd.R_lit_step Kd.string _ 9 ?hg (N:=30) ?hd (xs:=([(⟨#[116]⟩ : ByteArray),(⟨#[117]⟩ : ByteArray)] : List ByteArray)) (inner:=[.string (⟨#[116]⟩ : ByteArray),.string (⟨#[117]⟩ : ByteArray)]) (ok:=fun _ => True) (okp:=fun _ => True) ?hr ?hp (fun _ hk => hk) trivial (Below.refl _ _) (Nat.le_refl _) (by simp) ?_;(case hd => rfl);(case hg => rfl);(case hr => first|(go_simp;done)|(go_simp;rfl));(case hp => exact (Reps.one (show Kd.M Kd.string _ _ _ (⟨#[116]⟩ : ByteArray) [.string (⟨#[116]⟩ : ByteArray)] from rfl) (Reps.one (show Kd.M Kd.string _ _ _ (⟨#[117]⟩ : ByteArray) [.string (⟨#[117]⟩ : ByteArray)] from rfl) (Reps.none _ _))))
      intro v280 w35 ho36 hb hg_ hnew_
      clear hg_ hnew_
      (first|rw [← Ny279.out] at ho36|(simp only [Int.reduceToNat] at ho36;rw [← Ny279.out] at ho36))
      have n0_:=aM (rH HO_260000.out hb)
      have n1_:=aM (rH HO_260001.out hb)
      have n2_:=aM (rL ho36 (keep_size (w:=w) (g:=g) (row:=none) (by repeat (first|(with_reducible first|exact HK.out|apply KeepBut.set_|apply keep_drewN|apply keep_drew|apply keep_alloc|refine keep_far ?_ GW258.out _|refine keep_far ?_ GW259.out _)|exact HK.out))))
      have n3_:=aM (bH BK258.out hb)
      have n4_:=aM (bH BK259.out hb)
      have n5_:=aM (IsS88.below (by repeat (first|(with_reducible first|exact HI0.out|apply IsS88.alloc|apply IsS88.drewN|apply IsS88.drew|apply IsS88.set_1|apply IsS88.set_2|refine IsS88.far ?_ NB0_258.out _|refine IsS88.far ?_ NB0_259.out _)|exact HI0.out)) hb)
      have n6_:=aM (KeepBut.trans (by repeat (first|(with_reducible first|exact HK.out|apply KeepBut.set_|apply keep_drewN|apply keep_drew|apply keep_alloc|refine keep_far ?_ GW258.out _|refine keep_far ?_ GW259.out _)|exact HK.out)) (KeepBut.of_below hb g none) (.inl rfl))
      have n7_:=aM (lP (by repeat (first|(with_reducible first|exact HB.out|apply lA|apply lN|apply lD|refine lS ?_ (IsS88.ge HI0.out)|refine lS ?_ GE258.out|refine lS ?_ GE259.out)|exact HB.out)) hb)
      clear HO_260000
      clear HO_260001
      clear BK258
      clear BK259
      clear HI0
      clear HK
      clear HB
      have HO_260000:=n0_
      have HO_260001:=n1_
      have HO281:=n2_
      have BK258:=n3_
      have BK259:=n4_
      have HI0:=n5_
      have HK:=n6_
      have HB:=n7_
      clear n0_ n1_ n2_ n3_ n4_ n5_ n6_ n7_
      clear hb ho36
      obtain ⟨Ao37,co37,eo37⟩:=Kd.R_slice HO281.out
      (first|subst eo37|(injection eo37 with f1_ f2_ f3_;have f4_:=f1_.symm;have f5_:=f3_.symm;clear f1_ f2_ f3_;subst f4_;subst f5_))
      refine hK.out _ _ ⟨(bC BK259.out 0).trans rfl,(bC BK259.out 1).trans rfl,(bC BK259.out 2).trans rfl⟩ (fun hHeld => ?_)
      clear hK K
      refine norm_ (a':=?_) ?_ ?_
      rotate_left
      ·show Act.put _ (some 30) _ = _
       simp only [Act.put,q_ia6,q_cz6,q_cs6,i64_w,i32_w]
       rfl
      refine one_ (i:=3) (N:=some 31) #[bT,bT,bT,bT,bT,bf,bT,bf,bf,bf] rfl rfl (one_of HT_.out (by kernel_rfl)) (by decide) (fun K hK => ?_)
      refine goes_ Try.func71 (by kernel_rfl) rfl #[.pointer (some ⟨g,0,none⟩),.slice Ao37 y279.length co37] (by rfl) rfl rfl (by (try simp only [List.map_toArray,List.map_cons,List.map_nil]);first|done|rfl|(simp only [List.length_drop,List.length_take];rfl)) ?_
      with_reducible refine (spec_l01Pick.calls g s0_0 t264 t265 _ _ y279 t282 t283 t284 w0 _ ?side1 ?side2 ?side3 ?side4 ?side5 A28.out).mono ?_
      (case side1 => repeat (first|(with_reducible first|exact HI0.out|apply IsS88.alloc|apply IsS88.drewN|apply IsS88.drew|apply IsS88.set_1|apply IsS88.set_2|refine IsS88.far ?_ NB0_258.out _|refine IsS88.far ?_ NB0_259.out _)|exact HI0.out))
      (case side2 => repeat (first|(with_reducible first|exact HB.out|apply lA|apply lN|apply lD|refine lS ?_ (IsS88.ge HI0.out)|refine lS ?_ GE258.out|refine lS ?_ GE259.out)|exact HB.out))
      (case side3 => repeat (first|exact (rR HO281.out).2.2|(with_reducible first|refine cA ?_ _|refine cN ?_ _|refine cD ?_)))
      (case side4 => exact (rR HO281.out).2.1)
      (case side5 => exact far_slice (IsS88.own_ne HI0.out HO281.out (by decide)))
      rintro e w38 ⟨rfl,hi,hb,hk⟩
      refine ⟨_,rfl,?_⟩
      have n0_:=aM (Kd.R_mono (Kd.R_keep (IsS88.apart (show IsS88 w0 _ g s0_0 t264 t265 from by repeat (first|(with_reducible first|exact HI0.out|apply IsS88.alloc|apply IsS88.drewN|apply IsS88.drew|apply IsS88.set_1|apply IsS88.set_2|refine IsS88.far ?_ NB0_258.out _|refine IsS88.far ?_ NB0_259.out _)|exact HI0.out)) (rZ HO_260000.out) (by decide)) hk (fun _ h => h.2)) (fun _ h => h.1))
      have n1_:=aM (Kd.R_mono (Kd.R_keep (IsS88.apart (show IsS88 w0 _ g s0_0 t264 t265 from by repeat (first|(with_reducible first|exact HI0.out|apply IsS88.alloc|apply IsS88.drewN|apply IsS88.drew|apply IsS88.set_1|apply IsS88.set_2|refine IsS88.far ?_ NB0_258.out _|refine IsS88.far ?_ NB0_259.out _)|exact HI0.out)) (rZ HO_260001.out) (by decide)) hk (fun _ h => h.2)) (fun _ h => h.1))
      have n2_:=aM (KeepBut.blk hk (g':=gb258) (o:=.cells #[.slice none 0 0,.slice none 0 0,.string (⟨#[]⟩ : ByteArray)] 38 (0,0)) (by (with_reducible repeat (first|refine bN ?_ _|refine bD ?_|refine bA ?_ _));exact BK258.out) NB258_0.out (by simp))
      have n3_:=aM (KeepBut.blk hk (g':=gb259) (o:=.cells #[u260000,u260001,.string x260002_1] 38 (0,0)) (by (with_reducible repeat (first|refine bN ?_ _|refine bD ?_|refine bA ?_ _));exact BK259.out) NB259_0.out (by simp))
      have n4_:=aM (Kd.R_mono (Kd.R_keep (IsS88.apart (show IsS88 w0 _ g s0_0 t264 t265 from by repeat (first|(with_reducible first|exact HI0.out|apply IsS88.alloc|apply IsS88.drewN|apply IsS88.drew|apply IsS88.set_1|apply IsS88.set_2|refine IsS88.far ?_ NB0_258.out _|refine IsS88.far ?_ NB0_259.out _)|exact HI0.out)) (rZ HO281.out) (by decide)) hk (fun _ h => h.2)) (fun _ h => h.1))
      have n5_:=aM (KeepBut.trans (by repeat (first|(with_reducible first|exact HK.out|apply KeepBut.set_|apply keep_drewN|apply keep_drew|apply keep_alloc|refine keep_far ?_ GW258.out _|refine keep_far ?_ GW259.out _)|exact HK.out)) hk (.inl rfl))
      have n6_:=aM (hb)
      have n7_:=aM (hi)
      clear HO_260000
      clear HO_260001
      clear BK258
      clear BK259
      clear HO281
      clear HK
      clear HB
      clear HI0
      have HO_260000:=n0_
      have HO_260001:=n1_
      have BK258:=n2_
      have BK259:=n3_
      have HO281:=n4_
      have HK:=n5_
      have HB:=n6_
      have HI0:=n7_
      clear n0_ n1_ n2_ n3_ n4_ n5_ n6_ n7_
      (try clear hb)
      (try clear hb2)
      (try clear hk)
      (try clear hi)
      refine hK.out _ _ ⟨(bC BK259.out 0).trans rfl,(bC BK259.out 1).trans rfl,(bC BK259.out 2).trans rfl⟩ (fun hHeld => ?_)
      clear hK K
      refine norm_ (a':=?_) ?_ ?_
      rotate_left
      ·show Act.put _ (some 31) _ = _
       simp only [Act.put,q_ia6,q_cz6,q_cs6,i64_w,i32_w]
       rfl
      refine one_ (i:=5) (N:=some 33) #[bT,bT,bT,bT,bT,bT,bT,bf,bf,bf] rfl rfl (one_of HT_.out (by kernel_rfl)) (by decide) (fun K hK => ?_)
      refine goes_ Try.func82 (by kernel_rfl) rfl #[.pointer (some ⟨g,0,none⟩)] (by rfl) rfl rfl (by (try simp only [List.map_toArray,List.map_cons,List.map_nil]);first|done|rfl|(simp only [List.length_drop,List.length_take];rfl)) ?_
      with_reducible refine (spec_l03Val.calls g s0_0 t283 t284 t285 t286 t287 w0 _ ?side1 ?side2 A29.out).mono ?_
      (case side1 => repeat (first|(with_reducible first|exact HI0.out|apply IsS88.alloc|apply IsS88.drewN|apply IsS88.drew|apply IsS88.set_1|apply IsS88.set_2|refine IsS88.far ?_ NB0_258.out _|refine IsS88.far ?_ NB0_259.out _)|exact HI0.out))
      (case side2 => repeat (first|(with_reducible first|exact HB.out|apply lA|apply lN|apply lD|refine lS ?_ (IsS88.ge HI0.out)|refine lS ?_ GE258.out|refine lS ?_ GE259.out)|exact HB.out))
      rintro e w39 ⟨rfl,hi,hb,hk⟩
      refine ⟨_,rfl,?_⟩
      have n0_:=aM (Kd.R_mono (Kd.R_keep (IsS88.apart (show IsS88 w0 _ g s0_0 t283 t284 from by repeat (first|(with_reducible first|exact HI0.out|apply IsS88.alloc|apply IsS88.drewN|apply IsS88.drew|apply IsS88.set_1|apply IsS88.set_2|refine IsS88.far ?_ NB0_258.out _|refine IsS88.far ?_ NB0_259.out _)|exact HI0.out)) (rZ HO_260000.out) (by decide)) hk (fun _ h => h.2)) (fun _ h => h.1))
      have n1_:=aM (Kd.R_mono (Kd.R_keep (IsS88.apart (show IsS88 w0 _ g s0_0 t283 t284 from by repeat (first|(with_reducible first|exact HI0.out|apply IsS88.alloc|apply IsS88.drewN|apply IsS88.drew|apply IsS88.set_1|apply IsS88.set_2|refine IsS88.far ?_ NB0_258.out _|refine IsS88.far ?_ NB0_259.out _)|exact HI0.out)) (rZ HO_260001.out) (by decide)) hk (fun _ h => h.2)) (fun _ h => h.1))
      have n2_:=aM (KeepBut.blk hk (g':=gb258) (o:=.cells #[.slice none 0 0,.slice none 0 0,.string (⟨#[]⟩ : ByteArray)] 38 (0,0)) (by (with_reducible repeat (first|refine bN ?_ _|refine bD ?_|refine bA ?_ _));exact BK258.out) NB258_0.out (by simp))
      have n3_:=aM (KeepBut.blk hk (g':=gb259) (o:=.cells #[u260000,u260001,.string x260002_1] 38 (0,0)) (by (with_reducible repeat (first|refine bN ?_ _|refine bD ?_|refine bA ?_ _));exact BK259.out) NB259_0.out (by simp))
      have n4_:=aM (Kd.R_mono (Kd.R_keep (IsS88.apart (show IsS88 w0 _ g s0_0 t283 t284 from by repeat (first|(with_reducible first|exact HI0.out|apply IsS88.alloc|apply IsS88.drewN|apply IsS88.drew|apply IsS88.set_1|apply IsS88.set_2|refine IsS88.far ?_ NB0_258.out _|refine IsS88.far ?_ NB0_259.out _)|exact HI0.out)) (rZ HO281.out) (by decide)) hk (fun _ h => h.2)) (fun _ h => h.1))
      have n5_:=aM (KeepBut.trans (by repeat (first|(with_reducible first|exact HK.out|apply KeepBut.set_|apply keep_drewN|apply keep_drew|apply keep_alloc|refine keep_far ?_ GW258.out _|refine keep_far ?_ GW259.out _)|exact HK.out)) hk (.inl rfl))
      have n6_:=aM (hb)
      have n7_:=aM (hi)
      clear HO_260000
      clear HO_260001
      clear BK258
      clear BK259
      clear HO281
      clear HK
      clear HB
      clear HI0
      have HO_260000:=n0_
      have HO_260001:=n1_
      have BK258:=n2_
      have BK259:=n3_
      have HO281:=n4_
      have HK:=n5_
      have HB:=n6_
      have HI0:=n7_
      clear n0_ n1_ n2_ n3_ n4_ n5_ n6_ n7_
      (try clear hb)
      (try clear hb2)
      (try clear hk)
      (try clear hi)
      refine hK.out _ _ ⟨(bC BK259.out 0).trans rfl,(bC BK259.out 1).trans rfl,(bC BK259.out 2).trans rfl⟩ (fun hHeld => ?_)
      clear hK K
      refine norm_ (a':=?_) ?_ ?_
      rotate_left
      ·show Act.put _ (some 33) _ = _
       simp only [Act.put,q_ia6,q_cz6,q_cs6,i64_w,i32_w]
       rfl
      refine one_ (i:=7) (N:=some 35) #[bT,bT,bT,bT,bT,bT,bT,bT,bf,bf] rfl rfl (one_of HT_.out (by kernel_rfl)) (by decide) (fun K hK => ?_)
      refine goes_ Try.func82 (by kernel_rfl) rfl #[.pointer (some ⟨g,0,none⟩)] (by rfl) rfl rfl (by (try simp only [List.map_toArray,List.map_cons,List.map_nil]);first|done|rfl|(simp only [List.length_drop,List.length_take];rfl)) ?_
      with_reducible refine (spec_l03Val.calls g s0_0 t286 t287 t288 t289 t290 w0 _ ?side1 ?side2 A30.out).mono ?_
      (case side1 => repeat (first|(with_reducible first|exact HI0.out|apply IsS88.alloc|apply IsS88.drewN|apply IsS88.drew|apply IsS88.set_1|apply IsS88.set_2|refine IsS88.far ?_ NB0_258.out _|refine IsS88.far ?_ NB0_259.out _)|exact HI0.out))
      (case side2 => repeat (first|(with_reducible first|exact HB.out|apply lA|apply lN|apply lD|refine lS ?_ (IsS88.ge HI0.out)|refine lS ?_ GE258.out|refine lS ?_ GE259.out)|exact HB.out))
      rintro e w40 ⟨rfl,hi,hb,hk⟩
      refine ⟨_,rfl,?_⟩
      have n0_:=aM (Kd.R_mono (Kd.R_keep (IsS88.apart (show IsS88 w0 _ g s0_0 t286 t287 from by repeat (first|(with_reducible first|exact HI0.out|apply IsS88.alloc|apply IsS88.drewN|apply IsS88.drew|apply IsS88.set_1|apply IsS88.set_2|refine IsS88.far ?_ NB0_258.out _|refine IsS88.far ?_ NB0_259.out _)|exact HI0.out)) (rZ HO_260000.out) (by decide)) hk (fun _ h => h.2)) (fun _ h => h.1))
      have n1_:=aM (Kd.R_mono (Kd.R_keep (IsS88.apart (show IsS88 w0 _ g s0_0 t286 t287 from by repeat (first|(with_reducible first|exact HI0.out|apply IsS88.alloc|apply IsS88.drewN|apply IsS88.drew|apply IsS88.set_1|apply IsS88.set_2|refine IsS88.far ?_ NB0_258.out _|refine IsS88.far ?_ NB0_259.out _)|exact HI0.out)) (rZ HO_260001.out) (by decide)) hk (fun _ h => h.2)) (fun _ h => h.1))
      have n2_:=aM (KeepBut.blk hk (g':=gb258) (o:=.cells #[.slice none 0 0,.slice none 0 0,.string (⟨#[]⟩ : ByteArray)] 38 (0,0)) (by (with_reducible repeat (first|refine bN ?_ _|refine bD ?_|refine bA ?_ _));exact BK258.out) NB258_0.out (by simp))
      have n3_:=aM (KeepBut.blk hk (g':=gb259) (o:=.cells #[u260000,u260001,.string x260002_1] 38 (0,0)) (by (with_reducible repeat (first|refine bN ?_ _|refine bD ?_|refine bA ?_ _));exact BK259.out) NB259_0.out (by simp))
      have n4_:=aM (Kd.R_mono (Kd.R_keep (IsS88.apart (show IsS88 w0 _ g s0_0 t286 t287 from by repeat (first|(with_reducible first|exact HI0.out|apply IsS88.alloc|apply IsS88.drewN|apply IsS88.drew|apply IsS88.set_1|apply IsS88.set_2|refine IsS88.far ?_ NB0_258.out _|refine IsS88.far ?_ NB0_259.out _)|exact HI0.out)) (rZ HO281.out) (by decide)) hk (fun _ h => h.2)) (fun _ h => h.1))
      have n5_:=aM (KeepBut.trans (by repeat (first|(with_reducible first|exact HK.out|apply KeepBut.set_|apply keep_drewN|apply keep_drew|apply keep_alloc|refine keep_far ?_ GW258.out _|refine keep_far ?_ GW259.out _)|exact HK.out)) hk (.inl rfl))
      have n6_:=aM (hb)
      have n7_:=aM (hi)
      clear HO_260000
      clear HO_260001
      clear BK258
      clear BK259
      clear HO281
      clear HK
      clear HB
      clear HI0
      have HO_260000:=n0_
      have HO_260001:=n1_
      have BK258:=n2_
      have BK259:=n3_
      have HO281:=n4_
      have HK:=n5_
      have HB:=n6_
      have HI0:=n7_
      clear n0_ n1_ n2_ n3_ n4_ n5_ n6_ n7_
      (try clear hb)
      (try clear hb2)
      (try clear hk)
      (try clear hi)
      obtain ⟨Ao41,co41,eo41⟩:=Kd.R_slice HO_260000.out
      (first|subst eo41|(injection eo41 with f1_ f2_ f3_;have f4_:=f1_.symm;have f5_:=f3_.symm;clear f1_ f2_ f3_;subst f4_;subst f5_))
      obtain ⟨Ao42,co42,eo42⟩:=Kd.R_slice HO_260001.out
      (first|subst eo42|(injection eo42 with f1_ f2_ f3_;have f4_:=f1_.symm;have f5_:=f3_.symm;clear f1_ f2_ f3_;subst f4_;subst f5_))
      refine hK.out _ _ ⟨(bC BK259.out 0).trans rfl,(bC BK259.out 1).trans rfl,(bC BK259.out 2).trans rfl⟩ (fun hHeld => ?_)
      clear hK K
      refine norm_ (a':=?_) ?_ ?_
      rotate_left
      ·show Act.put _ (some 35) _ = _
       simp only [Act.put,q_ia6,q_cz6,q_cs6,i64_w,i32_w]
       rfl
      refine one_ (i:=8) (N:=some 36) #[bT,bT,bT,bT,bT,bT,bT,bT,bT,bf] rfl rfl (one_of HT_.out (by kernel_rfl)) (by decide) (fun K hK => ?_)
      refine goes_ Try.func30 (by kernel_rfl) rfl #[.agg #[.slice Ao41 x260000_1.length co41,.slice Ao42 x260001_1.length co42,.string x260002_1],.string t282,.string t285,.string t288] (by rfl) rfl rfl (by (try simp only [List.map_toArray,List.map_cons,List.map_nil]);first|done|rfl|(simp only [List.length_drop,List.length_take];rfl)) ?_
      with_reducible refine (spec_SetCell.calls k1 _ _ x260000_1 _ _ x260001_1 x260002_1 t282 t285 t288 t291 t294 t297 _ ?side1 ?side2 ?side3 ?side4 A31.out).mono ?_
      (case side1 => repeat (first|exact (rR HO_260000.out).2.2|(with_reducible first|refine cA ?_ _|refine cN ?_ _|refine cD ?_)))
      (case side2 => exact (rR HO_260000.out).2.1)
      (case side3 => repeat (first|exact (rR HO_260001.out).2.2|(with_reducible first|refine cA ?_ _|refine cN ?_ _|refine cD ?_)))
      (case side4 => exact (rR HO_260001.out).2.1)
      rintro e w43 ⟨v292,v295,rfl,ho0,ho1,hb⟩
      refine ⟨_,rfl,?_⟩
      have n0_:=aM (rE (rZ HO_260000.out) (rS ho0) hb)
      have n1_:=aM (rE (rZ HO_260001.out) (rS ho1) hb)
      have n2_:=aM (rH HO281.out hb)
      have n3_:=aM (rL (rW ho0 (rT (rZ HO_260000.out))) (keep_size (w:=w) (g:=g) (row:=none) (by repeat (first|(with_reducible first|exact HK.out|apply KeepBut.set_|apply keep_drewN|apply keep_drew|apply keep_alloc|refine keep_far ?_ GW258.out _|refine keep_far ?_ GW259.out _)|exact HK.out))))
      have n4_:=aM (rL (rW ho1 (rT (rZ HO_260001.out))) (keep_size (w:=w) (g:=g) (row:=none) (by repeat (first|(with_reducible first|exact HK.out|apply KeepBut.set_|apply keep_drewN|apply keep_drew|apply keep_alloc|refine keep_far ?_ GW258.out _|refine keep_far ?_ GW259.out _)|exact HK.out))))
      have n5_:=aM (bH BK258.out hb)
      have n6_:=aM (bH BK259.out hb)
      have n7_:=aM (IsS88.below (by repeat (first|(with_reducible first|exact HI0.out|apply IsS88.alloc|apply IsS88.drewN|apply IsS88.drew|apply IsS88.set_1|apply IsS88.set_2|refine IsS88.far ?_ NB0_258.out _|refine IsS88.far ?_ NB0_259.out _)|exact HI0.out)) hb)
      have n8_:=aM (KeepBut.trans (by repeat (first|(with_reducible first|exact HK.out|apply KeepBut.set_|apply keep_drewN|apply keep_drew|apply keep_alloc|refine keep_far ?_ GW258.out _|refine keep_far ?_ GW259.out _)|exact HK.out)) (KeepBut.of_below hb g none) (.inl rfl))
      have n9_:=aM (lP (by repeat (first|(with_reducible first|exact HB.out|apply lA|apply lN|apply lD|refine lS ?_ (IsS88.ge HI0.out)|refine lS ?_ GE258.out|refine lS ?_ GE259.out)|exact HB.out)) hb)
      clear HO_260000
      clear HO_260001
      clear HO281
      clear BK258
      clear BK259
      clear HI0
      clear HK
      clear HB
      have HO_260000:=n0_
      have HO_260001:=n1_
      have HO281:=n2_
      have HO293:=n3_
      have HO296:=n4_
      have BK258:=n5_
      have BK259:=n6_
      have HI0:=n7_
      have HK:=n8_
      have HB:=n9_
      clear n0_ n1_ n2_ n3_ n4_ n5_ n6_ n7_ n8_ n9_
      (try clear hb)
      (try clear hb2)
      (try clear hk)
      (try clear hi)
      (try clear ho0)
      (try clear ho1)
      obtain ⟨Ao44,co44,eo44⟩:=Kd.R_slice HO293.out
      (first|subst eo44|(injection eo44 with f1_ f2_ f3_;have f4_:=f1_.symm;have f5_:=f3_.symm;clear f1_ f2_ f3_;subst f4_;subst f5_))
      obtain ⟨Ao46,co46,eo46⟩:=Kd.R_slice HO296.out
      (first|subst eo46|(injection eo46 with f1_ f2_ f3_;have f4_:=f1_.symm;have f5_:=f3_.symm;clear f1_ f2_ f3_;subst f4_;subst f5_))
      refine hK.out _ _ ⟨(bC BK259.out 0).trans rfl,(bC BK259.out 1).trans rfl,(bC BK259.out 2).trans rfl⟩ (fun hHeld => ?_)
      clear hK K
      refine norm_ (a':=?_) ?_ ?_
      rotate_left
      ·show Act.put _ (some 36) _ = _
       simp only [Act.put,q_ia6,q_cz6,q_cs6,i64_w,i32_w]
       rfl
      refine last_ (i:=9) (N:=none) #[bT,bT,bT,bT,bT,bT,bT,bT,bT,bT] rfl rfl (one_of HT_.out (by kernel_rfl)) (by decide) (fun K hK => ?_)
      have hs45 : w43.cell? ⟨gb259,0,none⟩ = some (.slice Ao41 x260000_1.length co41):=(bC BK259.out 0).trans rfl
      have hfs45:=bF BK259.out 0
      have hns45_0:=NB258_259.out
      have hms45_0:=NB259_258.out
      have hs47 : w43.cell? ⟨gb259,1,none⟩ = some (.slice Ao42 x260001_1.length co42):=(bC BK259.out 1).trans rfl
      have hfs47:=bF BK259.out 1
      have hns47_0:=NB258_259.out
      have hms47_0:=NB259_258.out
      have hs48 : w43.cell? ⟨gb259,2,none⟩ = some (.string x260002_1):=(bC BK259.out 2).trans rfl
      have hfs48:=bF BK259.out 2
      have hns48_0:=NB258_259.out
      have hms48_0:=NB259_258.out
      refine skip_ (w1:=?_) (by rfl) rfl ?_ ?_
      rotate_left
      ·go_simp
       rfl
      refine hK.out _ _ ?_
      clear hK K
      refine done_ (done_of HT_.out (by kernel_rfl)) ?_
      try go_wp2
      go_roundg k1
      case measure => have:=HK1.out;omega
      case rel => exact ⟨(wrap64 (x4_1 + 1)),(t289),(t290),(t291),(t294),(t297),(.slice Ao44 t291.length co44),(.slice Ao46 t294.length co46),(by first|rfl|(simp;done)|(simp [*];done)),H',⟨by have:=HK1.out;omega⟩,⟨by (with_reducible repeat (first|apply rA|apply rN|apply rD));exact Kd.R_mono (rF (rF (rF (rY HO293.out BK259.out (by decide)) (fun _ hk => hk.2) _) (fun _ hk => hk.2) _) (fun _ hk => hk.2) _) (fun _ hk => trivial)⟩,⟨by (with_reducible repeat (first|apply rA|apply rN|apply rD));exact Kd.R_mono (rF (rF (rF (rY HO296.out BK259.out (by decide)) (fun _ hk => hk.2) _) (fun _ hk => hk.2) _) (fun _ hk => hk.2) _) (fun _ hk => trivial)⟩,⟨by (with_reducible repeat (first|refine bN ?_ _|refine bD ?_|refine bA ?_ _));refine blk_far ?_ NB258_259.out _;(with_reducible repeat (first|refine bN ?_ _|refine bD ?_|refine bA ?_ _));refine blk_far ?_ NB258_259.out _;(with_reducible repeat (first|refine bN ?_ _|refine bD ?_|refine bA ?_ _));refine blk_far ?_ NB258_259.out _;(with_reducible repeat (first|refine bN ?_ _|refine bD ?_|refine bA ?_ _));exact BK258.out⟩,⟨by (with_reducible repeat (first|refine bN ?_ _|refine bD ?_|refine bA ?_ _));refine blk_put (cs:=#[.slice Ao44 t291.length co44,.slice Ao46 t294.length co46,.string x260002_1]) ?_ 2 _ rfl;(with_reducible repeat (first|refine bN ?_ _|refine bD ?_|refine bA ?_ _));refine blk_put (cs:=#[.slice Ao44 t291.length co44,.slice Ao42 x260001_1.length co42,.string x260002_1]) ?_ 1 _ rfl;(with_reducible repeat (first|refine bN ?_ _|refine bD ?_|refine bA ?_ _));refine blk_put (cs:=#[.slice Ao41 x260000_1.length co41,.slice Ao42 x260001_1.length co42,.string x260002_1]) ?_ 0 _ rfl;(with_reducible repeat (first|refine bN ?_ _|refine bD ?_|refine bA ?_ _));exact BK259.out⟩,⟨by repeat (first|(with_reducible first|exact HI0.out|apply IsS88.alloc|apply IsS88.drewN|apply IsS88.drew|apply IsS88.set_1|apply IsS88.set_2|refine IsS88.far ?_ NB0_258.out _|refine IsS88.far ?_ NB0_259.out _)|exact HI0.out)⟩,⟨by repeat (first|(with_reducible first|exact HK.out|apply KeepBut.set_|apply keep_drewN|apply keep_drew|apply keep_alloc|refine keep_far ?_ GW258.out _|refine keep_far ?_ GW259.out _)|exact HK.out)⟩,⟨by repeat (first|(with_reducible first|exact HB.out|apply lA|apply lN|apply lD|refine lS ?_ (IsS88.ge HI0.out)|refine lS ?_ GE258.out|refine lS ?_ GE259.out)|exact HB.out)⟩⟩
     ·rw [if_neg c27] at H
      have c27b0 : (t263 == 1) = false:=beq_eq_false_iff_ne.mpr c27
      have c27b1 : (t263 != 1) = true:=bne_iff_ne.mpr c27
      replace H:=Option.bind_eq_some_iff.mp H
      obtain ⟨⟨t298,t299,t300⟩,A490,H⟩:=H
      replace H : ((spec_Say.f x260000_1 x260001_1 x260002_1 t298).bind fun bt301 => (spec_l08Store.l0 k1 (wrap64 (x4_1 + 1)) s0_0 t299 t300 bt301.1 bt301.2.1 bt301.2.2)) = some (r1,r2,r3,r4,r5):=H
      have A49:=aM A490
      clear A490
      replace H:=Option.bind_eq_some_iff.mp H
      obtain ⟨⟨t301,t304,t307⟩,A500,H⟩:=H
      replace H : (spec_l08Store.l0 k1 (wrap64 (x4_1 + 1)) s0_0 t299 t300 t301 t304 t307) = some (r1,r2,r3,r4,r5):=H
      have A50:=aM A500
      clear A500
      have H':=aM H
      clear H
      try go_wp2_with (first|((with_reducible refine gate_callee (f:=46) rfl ?_);refine goesL_ (some 8) rfl rfl Try.func46 (by kernel_rfl) rfl #[.pointer (some ⟨g,0,none⟩),.int .i64 8] rfl (by (try simp only [List.map_toArray,List.map_cons,List.map_nil]);first|done|rfl|(simp only [List.length_drop,List.length_take];rfl)) ?_;(with_reducible refine (spec_l01Below.calls g s0_0 x1001_1 x1002_1 8 t260 t261 t262 w0 _ ?side1 ?side2 A7.out).mono ?_);(case side1 => repeat (first|(with_reducible first|exact HI0.out|apply IsS88.alloc|apply IsS88.drewN|apply IsS88.drew|apply IsS88.set_1|apply IsS88.set_2|refine IsS88.far ?_ NB0_258.out _|refine IsS88.far ?_ NB0_259.out _)|exact HI0.out));(case side2 => repeat (first|(with_reducible first|exact HB.out|apply lA|apply lN|apply lD|refine lS ?_ (IsS88.ge HI0.out)|refine lS ?_ GE258.out|refine lS ?_ GE259.out)|exact HB.out));rintro e w51 ⟨rfl,hi,hb,hk⟩;refine ⟨_,rfl,?_⟩;have n0_:=aM (Kd.R_mono (Kd.R_keep (IsS88.apart (show IsS88 w0 _ g s0_0 x1001_1 x1002_1 from by repeat (first|(with_reducible first|exact HI0.out|apply IsS88.alloc|apply IsS88.drewN|apply IsS88.drew|apply IsS88.set_1|apply IsS88.set_2|refine IsS88.far ?_ NB0_258.out _|refine IsS88.far ?_ NB0_259.out _)|exact HI0.out)) (rZ HO_260000.out) (by decide)) hk (fun _ h => h.2)) (fun _ h => h.1));have n1_:=aM (Kd.R_mono (Kd.R_keep (IsS88.apart (show IsS88 w0 _ g s0_0 x1001_1 x1002_1 from by repeat (first|(with_reducible first|exact HI0.out|apply IsS88.alloc|apply IsS88.drewN|apply IsS88.drew|apply IsS88.set_1|apply IsS88.set_2|refine IsS88.far ?_ NB0_258.out _|refine IsS88.far ?_ NB0_259.out _)|exact HI0.out)) (rZ HO_260001.out) (by decide)) hk (fun _ h => h.2)) (fun _ h => h.1));have n2_:=aM (KeepBut.blk hk (g':=gb258) (o:=.cells #[.slice none 0 0,.slice none 0 0,.string (⟨#[]⟩ : ByteArray)] 38 (0,0)) (by (with_reducible repeat (first|refine bN ?_ _|refine bD ?_|refine bA ?_ _));exact BK258.out) NB258_0.out (by simp));have n3_:=aM (KeepBut.blk hk (g':=gb259) (o:=.cells #[u260000,u260001,.string x260002_1] 38 (0,0)) (by (with_reducible repeat (first|refine bN ?_ _|refine bD ?_|refine bA ?_ _));exact BK259.out) NB259_0.out (by simp));have n4_:=aM (KeepBut.trans (by repeat (first|(with_reducible first|exact HK.out|apply KeepBut.set_|apply keep_drewN|apply keep_drew|apply keep_alloc|refine keep_far ?_ GW258.out _|refine keep_far ?_ GW259.out _)|exact HK.out)) hk (.inl rfl));have n5_:=aM (hb);have n6_:=aM (hi);clear HO_260000 HO_260001 BK258 BK259 HK HB HI0;have HO_260000:=n0_;have HO_260001:=n1_;have BK258:=n2_;have BK259:=n3_;have HK:=n4_;have HB:=n5_;have HI0:=n6_;clear n0_ n1_ n2_ n3_ n4_ n5_ n6_;(try clear hb);(try clear hb2);(try clear hk);(try clear hi))|((with_reducible refine gate_callee (f:=46) rfl ?_);refine goesL_ (some 13) rfl rfl Try.func46 (by kernel_rfl) rfl #[.pointer (some ⟨g,0,none⟩),.int .i64 3] rfl (by (try simp only [List.map_toArray,List.map_cons,List.map_nil]);first|done|rfl|(simp only [List.length_drop,List.length_take];rfl)) ?_;(with_reducible refine (spec_l01Below.calls g s0_0 t261 t262 3 t263 t264 t265 w0 _ ?side1 ?side2 A9.out).mono ?_);(case side1 => repeat (first|(with_reducible first|exact HI0.out|apply IsS88.alloc|apply IsS88.drewN|apply IsS88.drew|apply IsS88.set_1|apply IsS88.set_2|refine IsS88.far ?_ NB0_258.out _|refine IsS88.far ?_ NB0_259.out _)|exact HI0.out));(case side2 => repeat (first|(with_reducible first|exact HB.out|apply lA|apply lN|apply lD|refine lS ?_ (IsS88.ge HI0.out)|refine lS ?_ GE258.out|refine lS ?_ GE259.out)|exact HB.out));rintro e w52 ⟨rfl,hi,hb,hk⟩;refine ⟨_,rfl,?_⟩;have n0_:=aM (Kd.R_mono (Kd.R_keep (IsS88.apart (show IsS88 w0 _ g s0_0 t261 t262 from by repeat (first|(with_reducible first|exact HI0.out|apply IsS88.alloc|apply IsS88.drewN|apply IsS88.drew|apply IsS88.set_1|apply IsS88.set_2|refine IsS88.far ?_ NB0_258.out _|refine IsS88.far ?_ NB0_259.out _)|exact HI0.out)) (rZ HO_260000.out) (by decide)) hk (fun _ h => h.2)) (fun _ h => h.1));have n1_:=aM (Kd.R_mono (Kd.R_keep (IsS88.apart (show IsS88 w0 _ g s0_0 t261 t262 from by repeat (first|(with_reducible first|exact HI0.out|apply IsS88.alloc|apply IsS88.drewN|apply IsS88.drew|apply IsS88.set_1|apply IsS88.set_2|refine IsS88.far ?_ NB0_258.out _|refine IsS88.far ?_ NB0_259.out _)|exact HI0.out)) (rZ HO_260001.out) (by decide)) hk (fun _ h => h.2)) (fun _ h => h.1));have n2_:=aM (KeepBut.blk hk (g':=gb258) (o:=.cells #[.slice none 0 0,.slice none 0 0,.string (⟨#[]⟩ : ByteArray)] 38 (0,0)) (by (with_reducible repeat (first|refine bN ?_ _|refine bD ?_|refine bA ?_ _));exact BK258.out) NB258_0.out (by simp));have n3_:=aM (KeepBut.blk hk (g':=gb259) (o:=.cells #[u260000,u260001,.string x260002_1] 38 (0,0)) (by (with_reducible repeat (first|refine bN ?_ _|refine bD ?_|refine bA ?_ _));exact BK259.out) NB259_0.out (by simp));have n4_:=aM (KeepBut.trans (by repeat (first|(with_reducible first|exact HK.out|apply KeepBut.set_|apply keep_drewN|apply keep_drew|apply keep_alloc|refine keep_far ?_ GW258.out _|refine keep_far ?_ GW259.out _)|exact HK.out)) hk (.inl rfl));have n5_:=aM (hb);have n6_:=aM (hi);clear HO_260000 HO_260001 BK258 BK259 HK HB HI0;have HO_260000:=n0_;have HO_260001:=n1_;have BK258:=n2_;have BK259:=n3_;have HK:=n4_;have HB:=n5_;have HI0:=n6_;clear n0_ n1_ n2_ n3_ n4_ n5_ n6_;(try clear hb);(try clear hb2);(try clear hk);(try clear hi)))
      have n0_:=aM (rD HO_260000.out)
      have n1_:=aM (rD HO_260001.out)
      have n2_:=aM (bD BK258.out)
      have n3_:=aM (bD BK259.out)
      have n4_:=aM (IsS88.drew HI0.out)
      have n5_:=aM (keep_drew HK.out)
      have n6_:=aM (lD HB.out)
      clear HO_260000
      clear HO_260001
      clear BK258
      clear BK259
      clear HI0
      clear HK
      clear HB
      have HO_260000:=n0_
      have HO_260001:=n1_
      have BK258:=n2_
      have BK259:=n3_
      have HI0:=n4_
      have HK:=n5_
      have HB:=n6_
      clear n0_ n1_ n2_ n3_ n4_ n5_ n6_
      refine start_ (n:=5) (S:=fun w' => w'.cell? ⟨gb259,0,none⟩ = some (u260000) ∧ w'.cell? ⟨gb259,1,none⟩ = some (u260001) ∧ w'.cell? ⟨gb259,2,none⟩ = some (.string x260002_1)) (ds:=[4]) #[bf,bf,bf,bf,bf] (by kernel_rfl) rfl rfl ⟨(bC BK259.out 0).trans rfl,(bC BK259.out 1).trans rfl,(bC BK259.out 2).trans rfl⟩ (fun hHeld => ?_)
      generalize w52.drew = w53 at HO_260000 HO_260001 BK258 BK259 HI0 HK HB hHeld ⊢
      refine pure_ (i:=1) (N:=some 15) (v:=?_) (a':=?_) #[bf,bT,bf,bf,bf] rfl rfl (by kernel_rfl) (fun _ _ _ h => h) (Or.inl ⟨by rfl,?_⟩) ?_ ?_
      rotate_left
      ·intro w';go_simp;with_reducible rfl
      rotate_left
      ·simp only [Act.put,q_ia6,q_cz6,q_cs6,i64_w,i32_w];rfl
      refine take_ (i:=0) (N:=some 14) (v:=?_) (a':=?_) #[bT,bT,bf,bf,bf] rfl rfl (by kernel_rfl) (fun _ _ _ h => h) (Or.inl ⟨by rfl,?_⟩) hHeld ?_ ?_
      rotate_left
      ·rintro w' ⟨s0,s1,s2⟩
       go_simp
       with_reducible rfl
      rotate_left
      ·simp only [Act.put,q_ia6,q_cz6,q_cs6,i64_w,i32_w];rfl
      refine one_ (i:=2) (N:=some 16) #[bT,bT,bT,bf,bf] rfl rfl (by kernel_rfl) (by decide) (fun K hK => ?_)
      refine goes_ Try.func82 (by kernel_rfl) rfl #[.pointer (some ⟨g,0,none⟩)] (by rfl) rfl rfl (by (try simp only [List.map_toArray,List.map_cons,List.map_nil]);first|done|rfl|(simp only [List.length_drop,List.length_take];rfl)) ?_
      with_reducible refine (spec_l03Val.calls g s0_0 t264 t265 t298 t299 t300 w0 _ ?side1 ?side2 A49.out).mono ?_
      (case side1 => repeat (first|(with_reducible first|exact HI0.out|apply IsS88.alloc|apply IsS88.drewN|apply IsS88.drew|apply IsS88.set_1|apply IsS88.set_2|refine IsS88.far ?_ NB0_258.out _|refine IsS88.far ?_ NB0_259.out _)|exact HI0.out))
      (case side2 => repeat (first|(with_reducible first|exact HB.out|apply lA|apply lN|apply lD|refine lS ?_ (IsS88.ge HI0.out)|refine lS ?_ GE258.out|refine lS ?_ GE259.out)|exact HB.out))
      rintro e w54 ⟨rfl,hi,hb,hk⟩
      refine ⟨_,rfl,?_⟩
      have n0_:=aM (Kd.R_mono (Kd.R_keep (IsS88.apart (show IsS88 w0 _ g s0_0 t264 t265 from by repeat (first|(with_reducible first|exact HI0.out|apply IsS88.alloc|apply IsS88.drewN|apply IsS88.drew|apply IsS88.set_1|apply IsS88.set_2|refine IsS88.far ?_ NB0_258.out _|refine IsS88.far ?_ NB0_259.out _)|exact HI0.out)) (rZ HO_260000.out) (by decide)) hk (fun _ h => h.2)) (fun _ h => h.1))
      have n1_:=aM (Kd.R_mono (Kd.R_keep (IsS88.apart (show IsS88 w0 _ g s0_0 t264 t265 from by repeat (first|(with_reducible first|exact HI0.out|apply IsS88.alloc|apply IsS88.drewN|apply IsS88.drew|apply IsS88.set_1|apply IsS88.set_2|refine IsS88.far ?_ NB0_258.out _|refine IsS88.far ?_ NB0_259.out _)|exact HI0.out)) (rZ HO_260001.out) (by decide)) hk (fun _ h => h.2)) (fun _ h => h.1))
      have n2_:=aM (KeepBut.blk hk (g':=gb258) (o:=.cells #[.slice none 0 0,.slice none 0 0,.string (⟨#[]⟩ : ByteArray)] 38 (0,0)) (by (with_reducible repeat (first|refine bN ?_ _|refine bD ?_|refine bA ?_ _));exact BK258.out) NB258_0.out (by simp))
      have n3_:=aM (KeepBut.blk hk (g':=gb259) (o:=.cells #[u260000,u260001,.string x260002_1] 38 (0,0)) (by (with_reducible repeat (first|refine bN ?_ _|refine bD ?_|refine bA ?_ _));exact BK259.out) NB259_0.out (by simp))
      have n4_:=aM (KeepBut.trans (by repeat (first|(with_reducible first|exact HK.out|apply KeepBut.set_|apply keep_drewN|apply keep_drew|apply keep_alloc|refine keep_far ?_ GW258.out _|refine keep_far ?_ GW259.out _)|exact HK.out)) hk (.inl rfl))
      have n5_:=aM (hb)
      have n6_:=aM (hi)
      clear HO_260000
      clear HO_260001
      clear BK258
      clear BK259
      clear HK
      clear HB
      clear HI0
      have HO_260000:=n0_
      have HO_260001:=n1_
      have BK258:=n2_
      have BK259:=n3_
      have HK:=n4_
      have HB:=n5_
      have HI0:=n6_
      clear n0_ n1_ n2_ n3_ n4_ n5_ n6_
      (try clear hb)
      (try clear hb2)
      (try clear hk)
      (try clear hi)
      obtain ⟨Ao55,co55,eo55⟩:=Kd.R_slice HO_260000.out
      (first|subst eo55|(injection eo55 with f1_ f2_ f3_;have f4_:=f1_.symm;have f5_:=f3_.symm;clear f1_ f2_ f3_;subst f4_;subst f5_))
      obtain ⟨Ao56,co56,eo56⟩:=Kd.R_slice HO_260001.out
      (first|subst eo56|(injection eo56 with f1_ f2_ f3_;have f4_:=f1_.symm;have f5_:=f3_.symm;clear f1_ f2_ f3_;subst f4_;subst f5_))
      refine hK.out _ _ ⟨(bC BK259.out 0).trans rfl,(bC BK259.out 1).trans rfl,(bC BK259.out 2).trans rfl⟩ (fun hHeld => ?_)
      clear hK K
      refine norm_ (a':=?_) ?_ ?_
      rotate_left
      ·show Act.put _ (some 16) _ = _
       simp only [Act.put,q_ia6,q_cz6,q_cs6,i64_w,i32_w]
       rfl
      refine one_ (i:=3) (N:=some 17) #[bT,bT,bT,bT,bf] rfl rfl (by kernel_rfl) (by decide) (fun K hK => ?_)
      refine goes_ Try.func20 (by kernel_rfl) rfl #[.agg #[.slice Ao55 x260000_1.length co55,.slice Ao56 x260001_1.length co56,.string x260002_1],.string t298] (by rfl) rfl rfl (by (try simp only [List.map_toArray,List.map_cons,List.map_nil]);first|done|rfl|(simp only [List.length_drop,List.length_take];rfl)) ?_
      with_reducible refine (spec_Say.calls _ _ x260000_1 _ _ x260001_1 x260002_1 t298 t301 t304 t307 _ ?side1 ?side2 ?side3 ?side4 A50.out).mono ?_
      (case side1 => repeat (first|exact (rR HO_260000.out).2.2|(with_reducible first|refine cA ?_ _|refine cN ?_ _|refine cD ?_)))
      (case side2 => exact (rR HO_260000.out).2.1)
      (case side3 => repeat (first|exact (rR HO_260001.out).2.2|(with_reducible first|refine cA ?_ _|refine cN ?_ _|refine cD ?_)))
      (case side4 => exact (rR HO_260001.out).2.1)
      rintro e w57 ⟨v302,v305,rfl,ho0,ho1,hb⟩
      refine ⟨_,rfl,?_⟩
      have n0_:=aM (rE (rZ HO_260000.out) (rS ho0) hb)
      have n1_:=aM (rE (rZ HO_260001.out) (rS ho1) hb)
      have n2_:=aM (rL (rW ho0 (rT (rZ HO_260000.out))) (keep_size (w:=w) (g:=g) (row:=none) (by repeat (first|(with_reducible first|exact HK.out|apply KeepBut.set_|apply keep_drewN|apply keep_drew|apply keep_alloc|refine keep_far ?_ GW258.out _|refine keep_far ?_ GW259.out _)|exact HK.out))))
      have n3_:=aM (rL (rW ho1 (rT (rZ HO_260001.out))) (keep_size (w:=w) (g:=g) (row:=none) (by repeat (first|(with_reducible first|exact HK.out|apply KeepBut.set_|apply keep_drewN|apply keep_drew|apply keep_alloc|refine keep_far ?_ GW258.out _|refine keep_far ?_ GW259.out _)|exact HK.out))))
      have n4_:=aM (bH BK258.out hb)
      have n5_:=aM (bH BK259.out hb)
      have n6_:=aM (IsS88.below (by repeat (first|(with_reducible first|exact HI0.out|apply IsS88.alloc|apply IsS88.drewN|apply IsS88.drew|apply IsS88.set_1|apply IsS88.set_2|refine IsS88.far ?_ NB0_258.out _|refine IsS88.far ?_ NB0_259.out _)|exact HI0.out)) hb)
      have n7_:=aM (KeepBut.trans (by repeat (first|(with_reducible first|exact HK.out|apply KeepBut.set_|apply keep_drewN|apply keep_drew|apply keep_alloc|refine keep_far ?_ GW258.out _|refine keep_far ?_ GW259.out _)|exact HK.out)) (KeepBut.of_below hb g none) (.inl rfl))
      have n8_:=aM (lP (by repeat (first|(with_reducible first|exact HB.out|apply lA|apply lN|apply lD|refine lS ?_ (IsS88.ge HI0.out)|refine lS ?_ GE258.out|refine lS ?_ GE259.out)|exact HB.out)) hb)
      clear HO_260000
      clear HO_260001
      clear BK258
      clear BK259
      clear HI0
      clear HK
      clear HB
      have HO_260000:=n0_
      have HO_260001:=n1_
      have HO303:=n2_
      have HO306:=n3_
      have BK258:=n4_
      have BK259:=n5_
      have HI0:=n6_
      have HK:=n7_
      have HB:=n8_
      clear n0_ n1_ n2_ n3_ n4_ n5_ n6_ n7_ n8_
      (try clear hb)
      (try clear hb2)
      (try clear hk)
      (try clear hi)
      (try clear ho0)
      (try clear ho1)
      obtain ⟨Ao58,co58,eo58⟩:=Kd.R_slice HO303.out
      (first|subst eo58|(injection eo58 with f1_ f2_ f3_;have f4_:=f1_.symm;have f5_:=f3_.symm;clear f1_ f2_ f3_;subst f4_;subst f5_))
      obtain ⟨Ao60,co60,eo60⟩:=Kd.R_slice HO306.out
      (first|subst eo60|(injection eo60 with f1_ f2_ f3_;have f4_:=f1_.symm;have f5_:=f3_.symm;clear f1_ f2_ f3_;subst f4_;subst f5_))
      refine hK.out _ _ ⟨(bC BK259.out 0).trans rfl,(bC BK259.out 1).trans rfl,(bC BK259.out 2).trans rfl⟩ (fun hHeld => ?_)
      clear hK K
      refine norm_ (a':=?_) ?_ ?_
      rotate_left
      ·show Act.put _ (some 17) _ = _
       simp only [Act.put,q_ia6,q_cz6,q_cs6,i64_w,i32_w]
       rfl
      refine last_ (i:=4) (N:=none) #[bT,bT,bT,bT,bT] rfl rfl (by kernel_rfl) (by decide) (fun K hK => ?_)
      have hs59 : w57.cell? ⟨gb259,0,none⟩ = some (.slice Ao55 x260000_1.length co55):=(bC BK259.out 0).trans rfl
      have hfs59:=bF BK259.out 0
      have hns59_0:=NB258_259.out
      have hms59_0:=NB259_258.out
      have hs61 : w57.cell? ⟨gb259,1,none⟩ = some (.slice Ao56 x260001_1.length co56):=(bC BK259.out 1).trans rfl
      have hfs61:=bF BK259.out 1
      have hns61_0:=NB258_259.out
      have hms61_0:=NB259_258.out
      have hs62 : w57.cell? ⟨gb259,2,none⟩ = some (.string x260002_1):=(bC BK259.out 2).trans rfl
      have hfs62:=bF BK259.out 2
      have hns62_0:=NB258_259.out
      have hms62_0:=NB259_258.out
      refine skip_ (w1:=?_) (by rfl) rfl ?_ ?_
      rotate_left
      ·go_simp
       rfl
      refine hK.out _ _ ?_
      clear hK K
      refine done_ (by kernel_rfl) ?_
      try go_wp2
      go_roundg k1
      case measure => have:=HK1.out;omega
      case rel => exact ⟨(wrap64 (x4_1 + 1)),(t299),(t300),(t301),(t304),(t307),(.slice Ao58 t301.length co58),(.slice Ao60 t304.length co60),(by first|rfl|(simp;done)|(simp [*];done)),H',⟨by have:=HK1.out;omega⟩,⟨by (with_reducible repeat (first|apply rA|apply rN|apply rD));exact Kd.R_mono (rF (rF (rF (rY HO303.out BK259.out (by decide)) (fun _ hk => hk.2) _) (fun _ hk => hk.2) _) (fun _ hk => hk.2) _) (fun _ hk => trivial)⟩,⟨by (with_reducible repeat (first|apply rA|apply rN|apply rD));exact Kd.R_mono (rF (rF (rF (rY HO306.out BK259.out (by decide)) (fun _ hk => hk.2) _) (fun _ hk => hk.2) _) (fun _ hk => hk.2) _) (fun _ hk => trivial)⟩,⟨by (with_reducible repeat (first|refine bN ?_ _|refine bD ?_|refine bA ?_ _));refine blk_far ?_ NB258_259.out _;(with_reducible repeat (first|refine bN ?_ _|refine bD ?_|refine bA ?_ _));refine blk_far ?_ NB258_259.out _;(with_reducible repeat (first|refine bN ?_ _|refine bD ?_|refine bA ?_ _));refine blk_far ?_ NB258_259.out _;(with_reducible repeat (first|refine bN ?_ _|refine bD ?_|refine bA ?_ _));exact BK258.out⟩,⟨by (with_reducible repeat (first|refine bN ?_ _|refine bD ?_|refine bA ?_ _));refine blk_put (cs:=#[.slice Ao58 t301.length co58,.slice Ao60 t304.length co60,.string x260002_1]) ?_ 2 _ rfl;(with_reducible repeat (first|refine bN ?_ _|refine bD ?_|refine bA ?_ _));refine blk_put (cs:=#[.slice Ao58 t301.length co58,.slice Ao56 x260001_1.length co56,.string x260002_1]) ?_ 1 _ rfl;(with_reducible repeat (first|refine bN ?_ _|refine bD ?_|refine bA ?_ _));refine blk_put (cs:=#[.slice Ao55 x260000_1.length co55,.slice Ao56 x260001_1.length co56,.string x260002_1]) ?_ 0 _ rfl;(with_reducible repeat (first|refine bN ?_ _|refine bD ?_|refine bA ?_ _));exact BK259.out⟩,⟨by repeat (first|(with_reducible first|exact HI0.out|apply IsS88.alloc|apply IsS88.drewN|apply IsS88.drew|apply IsS88.set_1|apply IsS88.set_2|refine IsS88.far ?_ NB0_258.out _|refine IsS88.far ?_ NB0_259.out _)|exact HI0.out)⟩,⟨by repeat (first|(with_reducible first|exact HK.out|apply KeepBut.set_|apply keep_drewN|apply keep_drew|apply keep_alloc|refine keep_far ?_ GW258.out _|refine keep_far ?_ GW259.out _)|exact HK.out)⟩,⟨by repeat (first|(with_reducible first|exact HB.out|apply lA|apply lN|apply lD|refine lS ?_ (IsS88.ge HI0.out)|refine lS ?_ GE258.out|refine lS ?_ GE259.out)|exact HB.out)⟩⟩
   ·rw [if_neg c8] at H
    have c8b0 : decide (x4_1 < t260) = false:=decide_eq_false c8
    clear c8
    simp only [Option.some.injEq,Prod.mk.injEq] at H
    obtain ⟨rfl,rfl,rfl,rfl,rfl⟩:=H
    go_wp2_with (first|((with_reducible refine gate_callee (f:=46) rfl ?_);refine goesL_ (some 8) rfl rfl Try.func46 (by kernel_rfl) rfl #[.pointer (some ⟨g,0,none⟩),.int .i64 8] rfl (by (try simp only [List.map_toArray,List.map_cons,List.map_nil]);first|done|rfl|(simp only [List.length_drop,List.length_take];rfl)) ?_;(with_reducible refine (spec_l01Below.calls g s0_0 x1001_1 x1002_1 8 t260 t261 t262 w0 _ ?side1 ?side2 A7.out).mono ?_);(case side1 => repeat (first|(with_reducible first|exact HI0.out|apply IsS88.alloc|apply IsS88.drewN|apply IsS88.drew|apply IsS88.set_1|apply IsS88.set_2|refine IsS88.far ?_ NB0_258.out _|refine IsS88.far ?_ NB0_259.out _)|exact HI0.out));(case side2 => repeat (first|(with_reducible first|exact HB.out|apply lA|apply lN|apply lD|refine lS ?_ (IsS88.ge HI0.out)|refine lS ?_ GE258.out|refine lS ?_ GE259.out)|exact HB.out));rintro e w63 ⟨rfl,hi,hb,hk⟩;refine ⟨_,rfl,?_⟩;have n0_:=aM (Kd.R_mono (Kd.R_keep (IsS88.apart (show IsS88 w0 _ g s0_0 x1001_1 x1002_1 from by repeat (first|(with_reducible first|exact HI0.out|apply IsS88.alloc|apply IsS88.drewN|apply IsS88.drew|apply IsS88.set_1|apply IsS88.set_2|refine IsS88.far ?_ NB0_258.out _|refine IsS88.far ?_ NB0_259.out _)|exact HI0.out)) (rZ HO_260000.out) (by decide)) hk (fun _ h => h.2)) (fun _ h => h.1));have n1_:=aM (Kd.R_mono (Kd.R_keep (IsS88.apart (show IsS88 w0 _ g s0_0 x1001_1 x1002_1 from by repeat (first|(with_reducible first|exact HI0.out|apply IsS88.alloc|apply IsS88.drewN|apply IsS88.drew|apply IsS88.set_1|apply IsS88.set_2|refine IsS88.far ?_ NB0_258.out _|refine IsS88.far ?_ NB0_259.out _)|exact HI0.out)) (rZ HO_260001.out) (by decide)) hk (fun _ h => h.2)) (fun _ h => h.1));have n2_:=aM (KeepBut.blk hk (g':=gb258) (o:=.cells #[.slice none 0 0,.slice none 0 0,.string (⟨#[]⟩ : ByteArray)] 38 (0,0)) (by (with_reducible repeat (first|refine bN ?_ _|refine bD ?_|refine bA ?_ _));exact BK258.out) NB258_0.out (by simp));have n3_:=aM (KeepBut.blk hk (g':=gb259) (o:=.cells #[u260000,u260001,.string x260002_1] 38 (0,0)) (by (with_reducible repeat (first|refine bN ?_ _|refine bD ?_|refine bA ?_ _));exact BK259.out) NB259_0.out (by simp));have n4_:=aM (KeepBut.trans (by repeat (first|(with_reducible first|exact HK.out|apply KeepBut.set_|apply keep_drewN|apply keep_drew|apply keep_alloc|refine keep_far ?_ GW258.out _|refine keep_far ?_ GW259.out _)|exact HK.out)) hk (.inl rfl));have n5_:=aM (hb);have n6_:=aM (hi);clear HO_260000 HO_260001 BK258 BK259 HK HB HI0;have HO_260000:=n0_;have HO_260001:=n1_;have BK258:=n2_;have BK259:=n3_;have HK:=n4_;have HB:=n5_;have HI0:=n6_;clear n0_ n1_ n2_ n3_ n4_ n5_ n6_;(try clear hb);(try clear hb2);(try clear hk);(try clear hi);have hnb64:=NB259_258.out;have hnc64:=NB258_259.out;have hnb65:=NB259_0.out;have hnc65:=NB0_259.out;obtain ⟨⟨hcz66_0,hcz66_1,hcz66_2⟩,hfz66_0,hfz66_1,hfz66_2⟩:=bC3 BK259.out;obtain ⟨Ao67,co67,eo67⟩:=Kd.R_slice HO_260000.out;subst eo67;have hnb68:=NB258_0.out;have hnc68:=NB0_258.out;obtain ⟨⟨hcz69_0,hcz69_1,hcz69_2⟩,hfz69_0,hfz69_1,hfz69_2⟩:=bC3 BK258.out;obtain ⟨Ao70,co70,eo70⟩:=Kd.R_slice HO_260001.out;subst eo70))
    refine bodyPost_ret (results_cell_row rfl _ _ gb258 38 #[.slice Ao67 x260000_1.length co67,.slice Ao70 x260001_1.length co70,.string x260002_1] (0,0) _ rfl (by (with_reducible repeat (first|refine bN ?_ _|refine bD ?_|refine bA ?_ _));refine blk_put (cs:=#[.slice Ao67 x260000_1.length co67,.slice Ao70 x260001_1.length co70,.string (⟨#[]⟩ : ByteArray)]) ?_ 2 _ rfl;(with_reducible repeat (first|refine bN ?_ _|refine bD ?_|refine bA ?_ _));refine blk_put (cs:=#[.slice Ao67 x260000_1.length co67,.slice none 0 0,.string (⟨#[]⟩ : ByteArray)]) ?_ 1 _ rfl;(with_reducible repeat (first|refine bN ?_ _|refine bD ?_|refine bA ?_ _));refine blk_put (cs:=#[.slice none 0 0,.slice none 0 0,.string (⟨#[]⟩ : ByteArray)]) ?_ 0 _ rfl;(with_reducible repeat (first|refine bN ?_ _|refine bD ?_|refine bA ?_ _));exact BK258.out) Try.underlying38 rfl (by kernel_rfl)) rfl ?_
    exact ⟨_,_,by first|rfl|(simp [errW_none,errW_some] <;> rfl)|(simp [*,errW_none,errW_some] <;> rfl),by (with_reducible repeat (first|apply rA|apply rN|apply rD));exact Kd.R_mono (rF (rF (rF (rY HO_260000.out BK258.out (by decide)) (fun _ hk => hk.2) _) (fun _ hk => hk.2) _) (fun _ hk => hk.2) _) (fun _ hk => trivial),by (with_reducible repeat (first|apply rA|apply rN|apply rD));exact Kd.R_mono (rF (rF (rF (rY HO_260001.out BK258.out (by decide)) (fun _ hk => hk.2) _) (fun _ hk => hk.2) _) (fun _ hk => hk.2) _) (fun _ hk => trivial),by repeat (first|(with_reducible first|exact HI0.out|apply IsS88.alloc|apply IsS88.drewN|apply IsS88.drew|apply IsS88.set_1|apply IsS88.set_2|refine IsS88.far ?_ NB0_258.out _|refine IsS88.far ?_ NB0_259.out _)|exact HI0.out),by repeat (first|(with_reducible first|exact HB.out|apply lA|apply lN|apply lD|refine lS ?_ (IsS88.ge HI0.out)|refine lS ?_ GE258.out|refine lS ?_ GE259.out)|exact HB.out),by repeat (first|(with_reducible first|exact HK.out|apply KeepBut.set_|apply keep_drewN|apply keep_drew|apply keep_alloc|refine keep_far ?_ GW258.out _|refine keep_far ?_ GW259.out _)|exact HK.out)⟩

end Go.Proofs.Ytodpkfidkilpdaa.QFnCells
