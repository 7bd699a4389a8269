-- A text of this session, made by wip/own_print.py (the kit's print with additions of ours).
import Derived.Test.YtekngkljphlliaaQFnSaysx0
import Derived.Test.YtekngkljphlliaaQFnSaysx4
import Derived.Test.YtekngkljphlliaaQFnSaysx5
import Derived.Test.YtekngkljphlliaaQFnSaysx6
import Derived.Test.YtekngkljphlliaaQFnSaysx7
namespace Go.Proofs.Ytekngkljphlliaa.QFnSays
open Go.RowKit Go.Proofs.YtekngkljphlliaaW.PrintWords Go.Proofs.YtekngkljphlliaaW.PrintLast Go.Proofs.YtekngkljphlliaaW.PrintMore
attribute [local go_sem] max2_int min2_int max_two min_two max_three min_three max_four min_four   -- for this text's walks alone
set_option linter.unusedVariables false
set_option linter.unusedSimpArgs false
open Bool renaming true → bT, false → bf
open Go.Proofs.YtekngkljphlliaaW.PrintWords.Kd renaming R_alloc → rA, R_drewN → rN, R_drew → rD, C_alloc → cA, C_drewN → cN, C_drew → cD, R_far → rF, R_below → rB, R_lower → rL, R_lt → rT, R_base → rS, C_below → cB, R_types → rY, R_elder' → rE, R_reads' → rR, R_new' → rW
open Go.Proofs.YtekngkljphlliaaW.PrintWords renaming blk_drewN → bN, blk_drew → bD, blk_alloc → bA, below_set → lS, pw_below_drewN → lN, below_drew1 → lD, below_alloc → lA, blk_cell → bC, blk_below → bB, below_size → lZ, below_step → lP, blk_lt → bL, blk_frozen → bF
open Go.Proofs.YtekngkljphlliaaW.PrintWords.Aside0 renaming mk → aM
theorem q_ia6 {α : Type} (l : List α) (i : Nat) (a : α) : l.toArray.setIfInBounds i a = (l.set i a).toArray := List.setIfInBounds_toArray ..
theorem q_cz6 {α : Type} (a b : α) (l : List α) : (a :: l).set 0 b = b :: l := rfl
theorem q_cs6 {α : Type} (a b : α) (l : List α) (n : Nat) : (a :: l).set (n + 1) b = a :: l.set n b := rfl

/-! ### spec_l08Store: function 27 -/
def spec_l08Store.l0 : Nat → Int → List Int → Int → Int → List (S59) → List (S39) → ByteArray → Option ((List (S59)) × (List (S39)) × ByteArray × Int × Int)
 | 0, _, _, _, _, _, _, _ => none
 | k + 1, x4, x1000, x1001, x1002, x240000, x240001, x240002 => (spec_l01Below.f x1000 x1001 x1002 8).bind fun bt240 => (if x4 < bt240.1 then ((spec_l01Below.f x1000 bt240.2.1 bt240.2.2 3).bind fun bt243 => (if bt243.1 = 0 then ((spec_l08Name.f x1000 bt243.2.1 bt243.2.2).bind fun bt246 => ((spec_l03Val.f x1000 bt246.2.1 bt246.2.2).bind fun bt249 => ((spec_SetVar.f k x240000 x240001 x240002 bt246.1 bt249.1).bind fun bt252 => (spec_l08Store.l0 k (wrap64 (x4 + 1)) x1000 bt249.2.1 bt249.2.2 bt252.1 bt252.2.1 bt252.2.2)))) else (if bt243.1 = 1 then ((spec_l01Pick.f x1000 bt243.2.1 bt243.2.2 (([(⟨#[116]⟩ : ByteArray), (⟨#[117]⟩ : ByteArray)] : List ByteArray))).bind fun bt262 => ((spec_l03Val.f x1000 bt262.2.1 bt262.2.2).bind fun bt265 => ((spec_l03Val.f x1000 bt265.2.1 bt265.2.2).bind fun bt268 => ((spec_SetCell.f k x240000 x240001 x240002 bt262.1 bt265.1 bt268.1).bind fun bt271 => (spec_l08Store.l0 k (wrap64 (x4 + 1)) x1000 bt268.2.1 bt268.2.2 bt271.1 bt271.2.1 bt271.2.2))))) else ((spec_l03Val.f x1000 bt243.2.1 bt243.2.2).bind fun bt278 => ((spec_Say.f x240000 x240001 x240002 bt278.1).bind fun bt281 => (spec_l08Store.l0 k (wrap64 (x4 + 1)) x1000 bt278.2.1 bt278.2.2 bt281.1 bt281.2.1 bt281.2.2)))))) else (some (x240000, x240001, x240002, bt240.2.1, bt240.2.2)))
def spec_l08Store.f (k : Nat) (s0_0 : List Int) (s0_1 : Int) (s0_2 : Int) : Option ((List (S59)) × (List (S39)) × ByteArray × Int × Int) := spec_l08Store.l0 k 0 s0_0 s0_1 s0_2 ([] : List (S59)) ([] : List (S39)) (⟨#[]⟩ : ByteArray)
theorem spec_l08Store.mono_l : ∀ k, (∀ y0 y1 y2 y3 y4 y5 y6, LeO (spec_l08Store.l0 k y0 y1 y2 y3 y4 y5 y6) (spec_l08Store.l0 (k + 1) y0 y1 y2 y3 y4 y5 y6))
 | 0 => fun _ _ _ _ _ _ _ r h => by simp [spec_l08Store.l0] at h
 | k + 1 => by
  have ih0 := spec_l08Store.mono_l k
  ·intro y0 y1 y2 y3 y4 y5 y6
   unfold spec_l08Store.l0
   repeat' first
   | (with_reducible exact ih0 _ _ _ _ _ _ _)
   | (with_reducible exact spec_SetCell.mono _ _ _ _ _ _ _)
   | (with_reducible exact spec_SetVar.mono _ _ _ _ _ _)
   | (with_reducible exact LeO.refl _)
   | (with_reducible exact LeO.none _)
   | (with_reducible refine LeO.ite ?_ ?_)
   | (with_reducible refine LeO.bind ?_ (fun _ => ?_))
   | exact ih0 _ _ _ _ _ _ _
   | exact spec_SetCell.mono _ _ _ _ _ _ _
   | exact spec_SetVar.mono _ _ _ _ _ _
   | exact LeO.none _
   | refine LeO.ite ?_ ?_
   | refine LeO.bind ?_ (fun _ => ?_)
theorem spec_l08Store.mono : ∀ a0 a1 a2 k, LeO (spec_l08Store.f k a0 a1 a2) (spec_l08Store.f (k + 1) a0 a1 a2) := by
 intro a0 a1 a2 k
 have ih0 := spec_l08Store.mono_l k
 unfold spec_l08Store.f
 repeat' first
   | (with_reducible exact ih0 _ _ _ _ _ _ _)
   | (with_reducible exact spec_SetCell.mono _ _ _ _ _ _ _)
   | (with_reducible exact spec_SetVar.mono _ _ _ _ _ _)
   | (with_reducible exact LeO.refl _)
   | (with_reducible exact LeO.none _)
   | (with_reducible refine LeO.ite ?_ ?_)
   | (with_reducible refine LeO.bind ?_ (fun _ => ?_))
   | exact ih0 _ _ _ _ _ _ _
   | exact spec_SetCell.mono _ _ _ _ _ _ _
   | exact spec_SetVar.mono _ _ _ _ _ _
   | exact LeO.none _
   | refine LeO.ite ?_ ?_
   | refine LeO.bind ?_ (fun _ => ?_)
def spec_l08Store.T10 : Bool × List (List Nat × List Nat) := (true, [([], []), ([], []), ([], []), ([1, 2], [1, 2]), ([], []), ([4, 3], [4]), ([], []), ([6, 5], [6]), ([0, 3, 5, 7, 7], [0, 3, 5, 7]), ([8, 8, 0, 1, 2, 3, 4, 5, 6, 7, 8], [8])])
def spec_l08Store.B10 : List Nat := [0, 0, 0, 6, 0, 30, 0, 126, 255, 511]
theorem spec_l08Store.tab10 : rtab .any (opsOf Try.f27 10) = spec_l08Store.T10 := by kernel_rfl
theorem spec_l08Store.bits10 : waitsOk spec_l08Store.T10.2 spec_l08Store.B10 = true := by kernel_rfl
set_option maxHeartbeats 8000000 in
set_option maxRecDepth 100000 in
theorem spec_l08Store.calls (k : Nat) (g : Nat) (s0_0 : List Int) (s0_1 : Int) (s0_2 : Int) (r1 : List (S59)) (r2 : List (S39)) (r3 : ByteArray) (r4 : Int) (r5 : Int) (w0 w : World) (hI : IsS62 w0 w g s0_0 s0_1 s0_2) (hB : Below w0.heap.size w0 w) (h : spec_l08Store.f k s0_0 s0_1 s0_2 = some (r1,r2,r3,r4,r5)) :
  Calls Try.prog 27 #[.pointer (some ⟨g,0,none⟩)] w fun e w' => ∃ v0_ v1_ : Value,e = .returned (.agg #[v0_,v1_,.string r3]) ∧ Kd.R k59 59 w' w.heap.size (fun _ => True) v0_ r1 ∧ Kd.R k39 39 w' w.heap.size (fun _ => True) v1_ r2 ∧ IsS62 w0 w' g s0_0 r4 r5 ∧ Below w0.heap.size w0 w' ∧ KeepBut w w' g none:=by
 have hu35:=Try.underlying35
 have HI0:=aM hI
 have HK:=aM (KeepBut.refl w g none)
 have HL:=aM hB.size
 clear hI
 have HW0:=aM hB.size
 have HB:=aM hB
 clear hB
 have H : (spec_l08Store.l0 k 0 s0_0 s0_1 s0_2 ([] : List (S59)) ([] : List (S39)) (⟨#[]⟩ : ByteArray)) = some (r1,r2,r3,r4,r5):=h
 clear h
 have H':=aM H
 clear H
 go_enter Try.func27,Try.ntmps27
 go_wp2_with (first|((with_reducible refine gate_dst (N:=2) rfl ?_);refine box_event ?hg (N:=2) ?hd (cs:=#[.slice none 0 0,.slice none 0 0,.string (⟨#[]⟩ : ByteArray)]) (t:=35) ?hr ?_;(case hd => rfl);(case hg => rfl);(case hr => first|(go_simp;done)|(go_simp;rfl));intro gb238 hg w2 hbox hb;have n0_:=aM (IsS62.below (by repeat (first|(with_reducible first|exact HI0.out|apply IsS62.alloc|apply IsS62.drewN|apply IsS62.drew|apply IsS62.set_1|apply IsS62.set_2)|exact HI0.out)) hb);have n1_:=aM (KeepBut.trans (by repeat (first|(with_reducible first|exact HK.out|apply KeepBut.set_|apply keep_drewN|apply keep_drew|apply keep_alloc)|exact HK.out)) (KeepBut.of_below hb g none) (.inl rfl));have n2_:=aM (lP (by repeat (first|(with_reducible first|exact HB.out|apply lA|apply lN|apply lD|refine lS ?_ (IsS62.ge HI0.out))|exact HB.out)) hb);have n3_:=aM (hbox);have n4_:=aM ((by rw [hg];exact (keep_size (w:=w) (g:=g) (row:=none) (by repeat (first|(with_reducible first|exact HK.out|apply KeepBut.set_|apply keep_drewN|apply keep_drew|apply keep_alloc)|exact HK.out))) : w.heap.size ≤ gb238));have n5_:=aM ((Nat.le_trans HW0.out (by rw [hg];exact (keep_size (w:=w) (g:=g) (row:=none) (by repeat (first|(with_reducible first|exact HK.out|apply KeepBut.set_|apply keep_drewN|apply keep_drew|apply keep_alloc)|exact HK.out))) : w.heap.size ≤ gb238) : w0.heap.size ≤ gb238));have n6_:=aM ((by rw [hg];exact Nat.ne_of_lt (IsS62.lt (show IsS62 w0 _ g s0_0 s0_1 s0_2 from by repeat (first|(with_reducible first|exact HI0.out|apply IsS62.alloc|apply IsS62.drewN|apply IsS62.drew|apply IsS62.set_1|apply IsS62.set_2)|exact HI0.out))) : g ≠ gb238));have n7_:=aM ((by rw [hg];exact Nat.ne_of_gt (IsS62.lt (show IsS62 w0 _ g s0_0 s0_1 s0_2 from by repeat (first|(with_reducible first|exact HI0.out|apply IsS62.alloc|apply IsS62.drewN|apply IsS62.drew|apply IsS62.set_1|apply IsS62.set_2)|exact HI0.out))) : gb238 ≠ g));clear HI0 HK HB;have HI0:=n0_;have HK:=n1_;have HB:=n2_;have BK238:=n3_;have GW238:=n4_;have GE238:=n5_;have NB0_238:=n6_;have NB238_0:=n7_;clear n0_ n1_ n2_ n3_ n4_ n5_ n6_ n7_ hb hbox hg)|((with_reducible refine gate_dst (N:=3) rfl ?_);refine box_event ?hg (N:=3) ?hd (cs:=#[.slice none 0 0,.slice none 0 0,.string (⟨#[]⟩ : ByteArray)]) (t:=35) ?hr ?_;(case hd => rfl);(case hg => rfl);(case hr => first|(go_simp;done)|(go_simp;rfl));intro gb239 hg w3 hbox hb;have n0_:=aM (IsS62.below (by repeat (first|(with_reducible first|exact HI0.out|apply IsS62.alloc|apply IsS62.drewN|apply IsS62.drew|apply IsS62.set_1|apply IsS62.set_2|refine IsS62.far ?_ NB0_238.out _)|exact HI0.out)) hb);have n1_:=aM (bH BK238.out hb);have n2_:=aM (KeepBut.trans (by repeat (first|(with_reducible first|exact HK.out|apply KeepBut.set_|apply keep_drewN|apply keep_drew|apply keep_alloc|refine keep_far ?_ GW238.out _)|exact HK.out)) (KeepBut.of_below hb g none) (.inl rfl));have n3_:=aM (lP (by repeat (first|(with_reducible first|exact HB.out|apply lA|apply lN|apply lD|refine lS ?_ (IsS62.ge HI0.out)|refine lS ?_ GE238.out)|exact HB.out)) hb);have n4_:=aM (hbox);have n5_:=aM ((by rw [hg];exact (keep_size (w:=w) (g:=g) (row:=none) (by repeat (first|(with_reducible first|exact HK.out|apply KeepBut.set_|apply keep_drewN|apply keep_drew|apply keep_alloc|refine keep_far ?_ GW238.out _)|exact HK.out))) : w.heap.size ≤ gb239));have n6_:=aM ((Nat.le_trans HW0.out (by rw [hg];exact (keep_size (w:=w) (g:=g) (row:=none) (by repeat (first|(with_reducible first|exact HK.out|apply KeepBut.set_|apply keep_drewN|apply keep_drew|apply keep_alloc|refine keep_far ?_ GW238.out _)|exact HK.out))) : w.heap.size ≤ gb239) : w0.heap.size ≤ gb239));have n7_:=aM ((nL hg BK238.out : gb238 ≠ gb239));have n8_:=aM ((nG hg BK238.out : gb239 ≠ gb238));have n9_:=aM ((by rw [hg];exact Nat.ne_of_lt (IsS62.lt (show IsS62 w0 _ g s0_0 s0_1 s0_2 from by repeat (first|(with_reducible first|exact HI0.out|apply IsS62.alloc|apply IsS62.drewN|apply IsS62.drew|apply IsS62.set_1|apply IsS62.set_2|refine IsS62.far ?_ NB0_238.out _)|exact HI0.out))) : g ≠ gb239));have n10_:=aM ((by rw [hg];exact Nat.ne_of_gt (IsS62.lt (show IsS62 w0 _ g s0_0 s0_1 s0_2 from by repeat (first|(with_reducible first|exact HI0.out|apply IsS62.alloc|apply IsS62.drewN|apply IsS62.drew|apply IsS62.set_1|apply IsS62.set_2|refine IsS62.far ?_ NB0_238.out _)|exact HI0.out))) : gb239 ≠ g));clear HI0 BK238 HK HB;have HI0:=n0_;have BK238:=n1_;have HK:=n2_;have HB:=n3_;have BK239:=n4_;have GW239:=n5_;have GE239:=n6_;have NB238_239:=n7_;have NB239_238:=n8_;have NB0_239:=n9_;have NB239_0:=n10_;clear n0_ n1_ n2_ n3_ n4_ n5_ n6_ n7_ n8_ n9_ n10_ hb hbox hg;have hnb4:=NB239_238.out;have hnc4:=NB238_239.out;have hnb5:=NB239_0.out;have hnc5:=NB0_239.out;obtain ⟨⟨hcz6_0,hcz6_1,hcz6_2⟩,hfz6_0,hfz6_1,hfz6_2⟩:=bC3 BK239.out))
 go_loopg [4] k (fun kq v4 w' => ∃ (x4_1 : Int) (x1001_1 : Int) (x1002_1 : Int) (x240000_1 : List (S59)) (x240001_1 : List (S39)) (x240002_1 : ByteArray) (u240000 : Value) (u240001 : Value),v4 = .int .i64 x4_1 ∧ Aside0 (spec_l08Store.l0 kq x4_1 s0_0 x1001_1 x1002_1 x240000_1 x240001_1 x240002_1 = some (r1,r2,r3,r4,r5)) ∧ Aside0 (kq ≤ k) ∧ Aside0 (Kd.R k59 59 w' w.heap.size (fun _ => True) u240000 x240000_1) ∧ Aside0 (Kd.R k39 39 w' w.heap.size (fun _ => True) u240001 x240001_1) ∧ Aside0 (w'.heap[gb238]? = some (.cells #[(.slice none 0 0),(.slice none 0 0),.string (⟨#[]⟩ : ByteArray)] 35 (0,0))) ∧ Aside0 (w'.heap[gb239]? = some (.cells #[u240000,u240001,.string x240002_1] 35 (0,0))) ∧ Aside0 (IsS62 w0 w' g s0_0 x1001_1 x1002_1) ∧ Aside0 (KeepBut w w' g none) ∧ Aside0 (Below w0.heap.size w0 w'))
 case atStart => exact ⟨(0),(s0_1),(s0_2),(([] : List (S59))),(([] : List (S39))),((⟨#[]⟩ : ByteArray)),(.slice none 0 0),(.slice none 0 0),(by first|rfl|(simp;done)|(simp [*];done)),H',⟨Nat.le_refl _⟩,⟨by first|exact Kd.R_nil _ _ _ _ _|exact Kd.N_nil _ _ _ _ _|exact Kd.V_nil _ _ _ _ _|exact Kd.Q_nil _ _ _ _ _|exact Kd.S_nil _ _ _ _ _⟩,⟨by first|exact Kd.R_nil _ _ _ _ _|exact Kd.N_nil _ _ _ _ _|exact Kd.V_nil _ _ _ _ _|exact Kd.Q_nil _ _ _ _ _|exact Kd.S_nil _ _ _ _ _⟩,⟨by (with_reducible repeat (first|refine bN ?_ _|refine bD ?_|refine bA ?_ _));refine blk_far ?_ NB238_239.out _;(with_reducible repeat (first|refine bN ?_ _|refine bD ?_|refine bA ?_ _));refine blk_far ?_ NB238_239.out _;(with_reducible repeat (first|refine bN ?_ _|refine bD ?_|refine bA ?_ _));refine blk_far ?_ NB238_239.out _;(with_reducible repeat (first|refine bN ?_ _|refine bD ?_|refine bA ?_ _));exact BK238.out⟩,⟨by (with_reducible repeat (first|refine bN ?_ _|refine bD ?_|refine bA ?_ _));refine blk_put (cs:=#[.slice none 0 0,.slice none 0 0,.string (⟨#[]⟩ : ByteArray)]) ?_ 2 _ rfl;(with_reducible repeat (first|refine bN ?_ _|refine bD ?_|refine bA ?_ _));refine blk_put (cs:=#[.slice none 0 0,.slice none 0 0,.string (⟨#[]⟩ : ByteArray)]) ?_ 1 _ rfl;(with_reducible repeat (first|refine bN ?_ _|refine bD ?_|refine bA ?_ _));refine blk_put (cs:=#[.slice none 0 0,.slice none 0 0,.string (⟨#[]⟩ : ByteArray)]) ?_ 0 _ rfl;(with_reducible repeat (first|refine bN ?_ _|refine bD ?_|refine bA ?_ _));exact BK239.out⟩,⟨by repeat (first|(with_reducible first|exact HI0.out|apply IsS62.alloc|apply IsS62.drewN|apply IsS62.drew|apply IsS62.set_1|apply IsS62.set_2|refine IsS62.far ?_ NB0_238.out _|refine IsS62.far ?_ NB0_239.out _)|exact HI0.out)⟩,⟨by repeat (first|(with_reducible first|exact HK.out|apply KeepBut.set_|apply keep_drewN|apply keep_drew|apply keep_alloc|refine keep_far ?_ GW238.out _|refine keep_far ?_ GW239.out _)|exact HK.out)⟩,⟨by repeat (first|(with_reducible first|exact HB.out|apply lA|apply lN|apply lD|refine lS ?_ (IsS62.ge HI0.out)|refine lS ?_ GE238.out|refine lS ?_ GE239.out)|exact HB.out)⟩⟩
 case round =>
  clear H'
  try clear c2
  try clear p2
  try clear c4
  try clear c5
  try clear hcz6_0
  try clear hcz6_1
  try clear hcz6_2
  obtain ⟨x4_1,x1001_1,x1002_1,x240000_1,x240001_1,x240002_1,u240000,u240001,rfl,HA,HK1,HO_240000,HO_240001,BK238,BK239,HI0,HK,HB⟩:=hrel
  cases gk with
  |zero => exact absurd HA.out (by simp [spec_l08Store.l0])
  |succ k1 =>
   have H:=HA.out
   clear HA
   simp only [spec_l08Store.l0] at H
   replace H:=Option.bind_eq_some_iff.mp H
   obtain ⟨⟨t240,t241,t242⟩,A70,H⟩:=H
   replace H : (if x4_1 < t240 then ((spec_l01Below.f s0_0 t241 t242 3).bind fun bt243 => (if bt243.1 = 0 then ((spec_l08Name.f s0_0 bt243.2.1 bt243.2.2).bind fun bt246 => ((spec_l03Val.f s0_0 bt246.2.1 bt246.2.2).bind fun bt249 => ((spec_SetVar.f k1 x240000_1 x240001_1 x240002_1 bt246.1 bt249.1).bind fun bt252 => (spec_l08Store.l0 k1 (wrap64 (x4_1 + 1)) s0_0 bt249.2.1 bt249.2.2 bt252.1 bt252.2.1 bt252.2.2)))) else (if bt243.1 = 1 then ((spec_l01Pick.f s0_0 bt243.2.1 bt243.2.2 (([(⟨#[116]⟩ : ByteArray),(⟨#[117]⟩ : ByteArray)] : List ByteArray))).bind fun bt262 => ((spec_l03Val.f s0_0 bt262.2.1 bt262.2.2).bind fun bt265 => ((spec_l03Val.f s0_0 bt265.2.1 bt265.2.2).bind fun bt268 => ((spec_SetCell.f k1 x240000_1 x240001_1 x240002_1 bt262.1 bt265.1 bt268.1).bind fun bt271 => (spec_l08Store.l0 k1 (wrap64 (x4_1 + 1)) s0_0 bt268.2.1 bt268.2.2 bt271.1 bt271.2.1 bt271.2.2))))) else ((spec_l03Val.f s0_0 bt243.2.1 bt243.2.2).bind fun bt278 => ((spec_Say.f x240000_1 x240001_1 x240002_1 bt278.1).bind fun bt281 => (spec_l08Store.l0 k1 (wrap64 (x4_1 + 1)) s0_0 bt278.2.1 bt278.2.2 bt281.1 bt281.2.1 bt281.2.2)))))) else (some (x240000_1,x240001_1,x240002_1,t241,t242))) = some (r1,r2,r3,r4,r5):=H
   have A7:=aM A70
   clear A70
   by_cases c8 : x4_1 < t240
   ·rw [if_pos c8] at H
    have c8b0 : decide (x4_1 < t240) = true:=decide_eq_true c8
    clear c8
    replace H:=Option.bind_eq_some_iff.mp H
    obtain ⟨⟨t243,t244,t245⟩,A90,H⟩:=H
    replace H : (if t243 = 0 then ((spec_l08Name.f s0_0 t244 t245).bind fun bt246 => ((spec_l03Val.f s0_0 bt246.2.1 bt246.2.2).bind fun bt249 => ((spec_SetVar.f k1 x240000_1 x240001_1 x240002_1 bt246.1 bt249.1).bind fun bt252 => (spec_l08Store.l0 k1 (wrap64 (x4_1 + 1)) s0_0 bt249.2.1 bt249.2.2 bt252.1 bt252.2.1 bt252.2.2)))) else (if t243 = 1 then ((spec_l01Pick.f s0_0 t244 t245 (([(⟨#[116]⟩ : ByteArray),(⟨#[117]⟩ : ByteArray)] : List ByteArray))).bind fun bt262 => ((spec_l03Val.f s0_0 bt262.2.1 bt262.2.2).bind fun bt265 => ((spec_l03Val.f s0_0 bt265.2.1 bt265.2.2).bind fun bt268 => ((spec_SetCell.f k1 x240000_1 x240001_1 x240002_1 bt262.1 bt265.1 bt268.1).bind fun bt271 => (spec_l08Store.l0 k1 (wrap64 (x4_1 + 1)) s0_0 bt268.2.1 bt268.2.2 bt271.1 bt271.2.1 bt271.2.2))))) else ((spec_l03Val.f s0_0 t244 t245).bind fun bt278 => ((spec_Say.f x240000_1 x240001_1 x240002_1 bt278.1).bind fun bt281 => (spec_l08Store.l0 k1 (wrap64 (x4_1 + 1)) s0_0 bt278.2.1 bt278.2.2 bt281.1 bt281.2.1 bt281.2.2))))) = some (r1,r2,r3,r4,r5):=H
    have A9:=aM A90
    clear A90
    by_cases c10 : t243 = 0
    ·rw [if_pos c10] at H
     have c10b0 : (t243 == 0) = true:=beq_iff_eq.mpr c10
     have c10b1 : (t243 != 0) = false:=bne_eq_false_iff_eq.mpr c10
     clear c10
     replace H:=Option.bind_eq_some_iff.mp H
     obtain ⟨⟨t246,t247,t248⟩,A110,H⟩:=H
     replace H : ((spec_l03Val.f s0_0 t247 t248).bind fun bt249 => ((spec_SetVar.f k1 x240000_1 x240001_1 x240002_1 t246 bt249.1).bind fun bt252 => (spec_l08Store.l0 k1 (wrap64 (x4_1 + 1)) s0_0 bt249.2.1 bt249.2.2 bt252.1 bt252.2.1 bt252.2.2))) = some (r1,r2,r3,r4,r5):=H
     have A11:=aM A110
     clear A110
     replace H:=Option.bind_eq_some_iff.mp H
     obtain ⟨⟨t249,t250,t251⟩,A120,H⟩:=H
     replace H : ((spec_SetVar.f k1 x240000_1 x240001_1 x240002_1 t246 t249).bind fun bt252 => (spec_l08Store.l0 k1 (wrap64 (x4_1 + 1)) s0_0 t250 t251 bt252.1 bt252.2.1 bt252.2.2)) = some (r1,r2,r3,r4,r5):=H
     have A12:=aM A120
     clear A120
     replace H:=Option.bind_eq_some_iff.mp H
     obtain ⟨⟨t252,t255,t258⟩,A130,H⟩:=H
     replace H : (spec_l08Store.l0 k1 (wrap64 (x4_1 + 1)) s0_0 t250 t251 t252 t255 t258) = some (r1,r2,r3,r4,r5):=H
     have A13:=aM A130
     clear A130
     have H':=aM H
     clear H
     try go_wp2_with (first|((with_reducible refine gate_callee (f:=24) rfl ?_);refine goesL_ (some 8) rfl rfl Try.func24 (by kernel_rfl) rfl #[.pointer (some ⟨g,0,none⟩),.int .i64 8] rfl (by (try simp only [List.map_toArray,List.map_cons,List.map_nil]);first|done|rfl|(simp only [List.length_drop,List.length_take];rfl)) ?_;(with_reducible refine (spec_l01Below.calls g s0_0 x1001_1 x1002_1 8 t240 t241 t242 w0 _ ?side1 ?side2 A7.out).mono ?_);(case side1 => repeat (first|(with_reducible first|exact HI0.out|apply IsS62.alloc|apply IsS62.drewN|apply IsS62.drew|apply IsS62.set_1|apply IsS62.set_2|refine IsS62.far ?_ NB0_238.out _|refine IsS62.far ?_ NB0_239.out _)|exact HI0.out));(case side2 => repeat (first|(with_reducible first|exact HB.out|apply lA|apply lN|apply lD|refine lS ?_ (IsS62.ge HI0.out)|refine lS ?_ GE238.out|refine lS ?_ GE239.out)|exact HB.out));rintro e w14 ⟨rfl,hi,hb,hk⟩;refine ⟨_,rfl,?_⟩;have n0_:=aM (Kd.R_mono (Kd.R_keep (IsS62.apart (show IsS62 w0 _ g s0_0 x1001_1 x1002_1 from by repeat (first|(with_reducible first|exact HI0.out|apply IsS62.alloc|apply IsS62.drewN|apply IsS62.drew|apply IsS62.set_1|apply IsS62.set_2|refine IsS62.far ?_ NB0_238.out _|refine IsS62.far ?_ NB0_239.out _)|exact HI0.out)) (rZ HO_240000.out) (by decide)) hk (fun _ h => h.2)) (fun _ h => h.1));have n1_:=aM (Kd.R_mono (Kd.R_keep (IsS62.apart (show IsS62 w0 _ g s0_0 x1001_1 x1002_1 from by repeat (first|(with_reducible first|exact HI0.out|apply IsS62.alloc|apply IsS62.drewN|apply IsS62.drew|apply IsS62.set_1|apply IsS62.set_2|refine IsS62.far ?_ NB0_238.out _|refine IsS62.far ?_ NB0_239.out _)|exact HI0.out)) (rZ HO_240001.out) (by decide)) hk (fun _ h => h.2)) (fun _ h => h.1));have n2_:=aM (KeepBut.blk hk (g':=gb238) (o:=.cells #[.slice none 0 0,.slice none 0 0,.string (⟨#[]⟩ : ByteArray)] 35 (0,0)) (by (with_reducible repeat (first|refine bN ?_ _|refine bD ?_|refine bA ?_ _));exact BK238.out) NB238_0.out (by simp));have n3_:=aM (KeepBut.blk hk (g':=gb239) (o:=.cells #[u240000,u240001,.string x240002_1] 35 (0,0)) (by (with_reducible repeat (first|refine bN ?_ _|refine bD ?_|refine bA ?_ _));exact BK239.out) NB239_0.out (by simp));have n4_:=aM (KeepBut.trans (by repeat (first|(with_reducible first|exact HK.out|apply KeepBut.set_|apply keep_drewN|apply keep_drew|apply keep_alloc|refine keep_far ?_ GW238.out _|refine keep_far ?_ GW239.out _)|exact HK.out)) hk (.inl rfl));have n5_:=aM (hb);have n6_:=aM (hi);clear HO_240000 HO_240001 BK238 BK239 HK HB HI0;have HO_240000:=n0_;have HO_240001:=n1_;have BK238:=n2_;have BK239:=n3_;have HK:=n4_;have HB:=n5_;have HI0:=n6_;clear n0_ n1_ n2_ n3_ n4_ n5_ n6_;(try clear hb);(try clear hb2);(try clear hk);(try clear hi))|((with_reducible refine gate_callee (f:=24) rfl ?_);refine goesL_ (some 13) rfl rfl Try.func24 (by kernel_rfl) rfl #[.pointer (some ⟨g,0,none⟩),.int .i64 3] rfl (by (try simp only [List.map_toArray,List.map_cons,List.map_nil]);first|done|rfl|(simp only [List.length_drop,List.length_take];rfl)) ?_;(with_reducible refine (spec_l01Below.calls g s0_0 t241 t242 3 t243 t244 t245 w0 _ ?side1 ?side2 A9.out).mono ?_);(case side1 => repeat (first|(with_reducible first|exact HI0.out|apply IsS62.alloc|apply IsS62.drewN|apply IsS62.drew|apply IsS62.set_1|apply IsS62.set_2|refine IsS62.far ?_ NB0_238.out _|refine IsS62.far ?_ NB0_239.out _)|exact HI0.out));(case side2 => repeat (first|(with_reducible first|exact HB.out|apply lA|apply lN|apply lD|refine lS ?_ (IsS62.ge HI0.out)|refine lS ?_ GE238.out|refine lS ?_ GE239.out)|exact HB.out));rintro e w15 ⟨rfl,hi,hb,hk⟩;refine ⟨_,rfl,?_⟩;have n0_:=aM (Kd.R_mono (Kd.R_keep (IsS62.apart (show IsS62 w0 _ g s0_0 t241 t242 from by repeat (first|(with_reducible first|exact HI0.out|apply IsS62.alloc|apply IsS62.drewN|apply IsS62.drew|apply IsS62.set_1|apply IsS62.set_2|refine IsS62.far ?_ NB0_238.out _|refine IsS62.far ?_ NB0_239.out _)|exact HI0.out)) (rZ HO_240000.out) (by decide)) hk (fun _ h => h.2)) (fun _ h => h.1));have n1_:=aM (Kd.R_mono (Kd.R_keep (IsS62.apart (show IsS62 w0 _ g s0_0 t241 t242 from by repeat (first|(with_reducible first|exact HI0.out|apply IsS62.alloc|apply IsS62.drewN|apply IsS62.drew|apply IsS62.set_1|apply IsS62.set_2|refine IsS62.far ?_ NB0_238.out _|refine IsS62.far ?_ NB0_239.out _)|exact HI0.out)) (rZ HO_240001.out) (by decide)) hk (fun _ h => h.2)) (fun _ h => h.1));have n2_:=aM (KeepBut.blk hk (g':=gb238) (o:=.cells #[.slice none 0 0,.slice none 0 0,.string (⟨#[]⟩ : ByteArray)] 35 (0,0)) (by (with_reducible repeat (first|refine bN ?_ _|refine bD ?_|refine bA ?_ _));exact BK238.out) NB238_0.out (by simp));have n3_:=aM (KeepBut.blk hk (g':=gb239) (o:=.cells #[u240000,u240001,.string x240002_1] 35 (0,0)) (by (with_reducible repeat (first|refine bN ?_ _|refine bD ?_|refine bA ?_ _));exact BK239.out) NB239_0.out (by simp));have n4_:=aM (KeepBut.trans (by repeat (first|(with_reducible first|exact HK.out|apply KeepBut.set_|apply keep_drewN|apply keep_drew|apply keep_alloc|refine keep_far ?_ GW238.out _|refine keep_far ?_ GW239.out _)|exact HK.out)) hk (.inl rfl));have n5_:=aM (hb);have n6_:=aM (hi);clear HO_240000 HO_240001 BK238 BK239 HK HB HI0;have HO_240000:=n0_;have HO_240001:=n1_;have BK238:=n2_;have BK239:=n3_;have HK:=n4_;have HB:=n5_;have HI0:=n6_;clear n0_ n1_ n2_ n3_ n4_ n5_ n6_;(try clear hb);(try clear hb2);(try clear hk);(try clear hi)))
     have n0_:=aM (rD HO_240000.out)
     have n1_:=aM (rD HO_240001.out)
     have n2_:=aM (bD BK238.out)
     have n3_:=aM (bD BK239.out)
     have n4_:=aM (IsS62.drew HI0.out)
     have n5_:=aM (keep_drew HK.out)
     have n6_:=aM (lD HB.out)
     clear HO_240000
     clear HO_240001
     clear BK238
     clear BK239
     clear HI0
     clear HK
     clear HB
     have HO_240000:=n0_
     have HO_240001:=n1_
     have BK238:=n2_
     have BK239:=n3_
     have HI0:=n4_
     have HK:=n5_
     have HB:=n6_
     clear n0_ n1_ n2_ n3_ n4_ n5_ n6_
     refine start_ (n:=7) (S:=fun w' => w'.cell? ⟨gb239,0,none⟩ = some (u240000) ∧ w'.cell? ⟨gb239,1,none⟩ = some (u240001) ∧ w'.cell? ⟨gb239,2,none⟩ = some (.string x240002_1)) (ds:=[6]) #[bf,bf,bf,bf,bf,bf,bf] (by kernel_rfl) rfl rfl ⟨(bC BK239.out 0).trans rfl,(bC BK239.out 1).trans rfl,(bC BK239.out 2).trans rfl⟩ (fun hHeld => ?_)
     generalize w15.drew = w16 at HO_240000 HO_240001 BK238 BK239 HI0 HK HB hHeld ⊢
     refine pure_ (i:=1) (N:=some 21) (v:=?_) (a':=?_) #[bf,bT,bf,bf,bf,bf,bf] rfl rfl (by kernel_rfl) (fun _ _ _ h => h) (Or.inl ⟨by rfl,?_⟩) ?_ ?_
     rotate_left
     ·intro w';go_simp;with_reducible rfl
     rotate_left
     ·simp only [Act.put,q_ia6,q_cz6,q_cs6,i64_w,i32_w];rfl
     refine pure_ (i:=3) (N:=some 23) (v:=?_) (a':=?_) #[bf,bT,bf,bT,bf,bf,bf] rfl rfl (by kernel_rfl) (fun _ _ _ h => h) (Or.inl ⟨by rfl,?_⟩) ?_ ?_
     rotate_left
     ·intro w';go_simp;with_reducible rfl
     rotate_left
     ·simp only [Act.put,q_ia6,q_cz6,q_cs6,i64_w,i32_w];rfl
     refine take_ (i:=0) (N:=some 20) (v:=?_) (a':=?_) #[bT,bT,bf,bT,bf,bf,bf] rfl rfl (by kernel_rfl) (fun _ _ _ h => h) (Or.inl ⟨by rfl,?_⟩) hHeld ?_ ?_
     rotate_left
     ·rintro w' ⟨s0,s1,s2⟩
      go_simp
      with_reducible rfl
     rotate_left
     ·simp only [Act.put,q_ia6,q_cz6,q_cs6,i64_w,i32_w];rfl
     refine one_ (i:=2) (N:=some 22) #[bT,bT,bT,bT,bf,bf,bf] rfl rfl (by kernel_rfl) (by decide) (fun K hK => ?_)
     refine goes_ Try.func38 (by kernel_rfl) rfl #[.pointer (some ⟨g,0,none⟩)] (by rfl) rfl rfl (by (try simp only [List.map_toArray,List.map_cons,List.map_nil]);first|done|rfl|(simp only [List.length_drop,List.length_take];rfl)) ?_
     with_reducible refine (spec_l08Name.calls g s0_0 t244 t245 t246 t247 t248 w0 _ ?side1 ?side2 A11.out).mono ?_
     (case side1 => repeat (first|(with_reducible first|exact HI0.out|apply IsS62.alloc|apply IsS62.drewN|apply IsS62.drew|apply IsS62.set_1|apply IsS62.set_2|refine IsS62.far ?_ NB0_238.out _|refine IsS62.far ?_ NB0_239.out _)|exact HI0.out))
     (case side2 => repeat (first|(with_reducible first|exact HB.out|apply lA|apply lN|apply lD|refine lS ?_ (IsS62.ge HI0.out)|refine lS ?_ GE238.out|refine lS ?_ GE239.out)|exact HB.out))
     rintro e w17 ⟨rfl,hi,hb,hk⟩
     refine ⟨_,rfl,?_⟩
     have n0_:=aM (Kd.R_mono (Kd.R_keep (IsS62.apart (show IsS62 w0 _ g s0_0 t244 t245 from by repeat (first|(with_reducible first|exact HI0.out|apply IsS62.alloc|apply IsS62.drewN|apply IsS62.drew|apply IsS62.set_1|apply IsS62.set_2|refine IsS62.far ?_ NB0_238.out _|refine IsS62.far ?_ NB0_239.out _)|exact HI0.out)) (rZ HO_240000.out) (by decide)) hk (fun _ h => h.2)) (fun _ h => h.1))
     have n1_:=aM (Kd.R_mono (Kd.R_keep (IsS62.apart (show IsS62 w0 _ g s0_0 t244 t245 from by repeat (first|(with_reducible first|exact HI0.out|apply IsS62.alloc|apply IsS62.drewN|apply IsS62.drew|apply IsS62.set_1|apply IsS62.set_2|refine IsS62.far ?_ NB0_238.out _|refine IsS62.far ?_ NB0_239.out _)|exact HI0.out)) (rZ HO_240001.out) (by decide)) hk (fun _ h => h.2)) (fun _ h => h.1))
     have n2_:=aM (KeepBut.blk hk (g':=gb238) (o:=.cells #[.slice none 0 0,.slice none 0 0,.string (⟨#[]⟩ : ByteArray)] 35 (0,0)) (by (with_reducible repeat (first|refine bN ?_ _|refine bD ?_|refine bA ?_ _));exact BK238.out) NB238_0.out (by simp))
     have n3_:=aM (KeepBut.blk hk (g':=gb239) (o:=.cells #[u240000,u240001,.string x240002_1] 35 (0,0)) (by (with_reducible repeat (first|refine bN ?_ _|refine bD ?_|refine bA ?_ _));exact BK239.out) NB239_0.out (by simp))
     have n4_:=aM (KeepBut.trans (by repeat (first|(with_reducible first|exact HK.out|apply KeepBut.set_|apply keep_drewN|apply keep_drew|apply keep_alloc|refine keep_far ?_ GW238.out _|refine keep_far ?_ GW239.out _)|exact HK.out)) hk (.inl rfl))
     have n5_:=aM (hb)
     have n6_:=aM (hi)
     clear HO_240000
     clear HO_240001
     clear BK238
     clear BK239
     clear HK
     clear HB
     clear HI0
     have HO_240000:=n0_
     have HO_240001:=n1_
     have BK238:=n2_
     have BK239:=n3_
     have HK:=n4_
     have HB:=n5_
     have HI0:=n6_
     clear n0_ n1_ n2_ n3_ n4_ n5_ n6_
     (try clear hb)
     (try clear hb2)
     (try clear hk)
     (try clear hi)
     refine hK.out _ _ ⟨(bC BK239.out 0).trans rfl,(bC BK239.out 1).trans rfl,(bC BK239.out 2).trans rfl⟩ (fun hHeld => ?_)
     clear hK K
     refine norm_ (a':=?_) ?_ ?_
     rotate_left
     ·show Act.put _ (some 22) _ = _
      simp only [Act.put,q_ia6,q_cz6,q_cs6,i64_w,i32_w]
      rfl
     refine one_ (i:=4) (N:=some 24) #[bT,bT,bT,bT,bT,bf,bf] rfl rfl (by kernel_rfl) (by decide) (fun K hK => ?_)
     refine goes_ Try.func31 (by kernel_rfl) rfl #[.pointer (some ⟨g,0,none⟩)] (by rfl) rfl rfl (by (try simp only [List.map_toArray,List.map_cons,List.map_nil]);first|done|rfl|(simp only [List.length_drop,List.length_take];rfl)) ?_
     with_reducible refine (spec_l03Val.calls g s0_0 t247 t248 t249 t250 t251 w0 _ ?side1 ?side2 A12.out).mono ?_
     (case side1 => repeat (first|(with_reducible first|exact HI0.out|apply IsS62.alloc|apply IsS62.drewN|apply IsS62.drew|apply IsS62.set_1|apply IsS62.set_2|refine IsS62.far ?_ NB0_238.out _|refine IsS62.far ?_ NB0_239.out _)|exact HI0.out))
     (case side2 => repeat (first|(with_reducible first|exact HB.out|apply lA|apply lN|apply lD|refine lS ?_ (IsS62.ge HI0.out)|refine lS ?_ GE238.out|refine lS ?_ GE239.out)|exact HB.out))
     rintro e w18 ⟨rfl,hi,hb,hk⟩
     refine ⟨_,rfl,?_⟩
     have n0_:=aM (Kd.R_mono (Kd.R_keep (IsS62.apart (show IsS62 w0 _ g s0_0 t247 t248 from by repeat (first|(with_reducible first|exact HI0.out|apply IsS62.alloc|apply IsS62.drewN|apply IsS62.drew|apply IsS62.set_1|apply IsS62.set_2|refine IsS62.far ?_ NB0_238.out _|refine IsS62.far ?_ NB0_239.out _)|exact HI0.out)) (rZ HO_240000.out) (by decide)) hk (fun _ h => h.2)) (fun _ h => h.1))
     have n1_:=aM (Kd.R_mono (Kd.R_keep (IsS62.apart (show IsS62 w0 _ g s0_0 t247 t248 from by repeat (first|(with_reducible first|exact HI0.out|apply IsS62.alloc|apply IsS62.drewN|apply IsS62.drew|apply IsS62.set_1|apply IsS62.set_2|refine IsS62.far ?_ NB0_238.out _|refine IsS62.far ?_ NB0_239.out _)|exact HI0.out)) (rZ HO_240001.out) (by decide)) hk (fun _ h => h.2)) (fun _ h => h.1))
     have n2_:=aM (KeepBut.blk hk (g':=gb238) (o:=.cells #[.slice none 0 0,.slice none 0 0,.string (⟨#[]⟩ : ByteArray)] 35 (0,0)) (by (with_reducible repeat (first|refine bN ?_ _|refine bD ?_|refine bA ?_ _));exact BK238.out) NB238_0.out (by simp))
     have n3_:=aM (KeepBut.blk hk (g':=gb239) (o:=.cells #[u240000,u240001,.string x240002_1] 35 (0,0)) (by (with_reducible repeat (first|refine bN ?_ _|refine bD ?_|refine bA ?_ _));exact BK239.out) NB239_0.out (by simp))
     have n4_:=aM (KeepBut.trans (by repeat (first|(with_reducible first|exact HK.out|apply KeepBut.set_|apply keep_drewN|apply keep_drew|apply keep_alloc|refine keep_far ?_ GW238.out _|refine keep_far ?_ GW239.out _)|exact HK.out)) hk (.inl rfl))
     have n5_:=aM (hb)
     have n6_:=aM (hi)
     clear HO_240000
     clear HO_240001
     clear BK238
     clear BK239
     clear HK
     clear HB
     clear HI0
     have HO_240000:=n0_
     have HO_240001:=n1_
     have BK238:=n2_
     have BK239:=n3_
     have HK:=n4_
     have HB:=n5_
     have HI0:=n6_
     clear n0_ n1_ n2_ n3_ n4_ n5_ n6_
     (try clear hb)
     (try clear hb2)
     (try clear hk)
     (try clear hi)
     obtain ⟨Ao19,co19,eo19⟩:=Kd.R_slice HO_240000.out
     (first|subst eo19|(injection eo19 with f1_ f2_ f3_;have f4_:=f1_.symm;have f5_:=f3_.symm;clear f1_ f2_ f3_;subst f4_;subst f5_))
     obtain ⟨Ao20,co20,eo20⟩:=Kd.R_slice HO_240001.out
     (first|subst eo20|(injection eo20 with f1_ f2_ f3_;have f4_:=f1_.symm;have f5_:=f3_.symm;clear f1_ f2_ f3_;subst f4_;subst f5_))
     refine hK.out _ _ ⟨(bC BK239.out 0).trans rfl,(bC BK239.out 1).trans rfl,(bC BK239.out 2).trans rfl⟩ (fun hHeld => ?_)
     clear hK K
     refine norm_ (a':=?_) ?_ ?_
     rotate_left
     ·show Act.put _ (some 24) _ = _
      simp only [Act.put,q_ia6,q_cz6,q_cs6,i64_w,i32_w]
      rfl
     refine one_ (i:=5) (N:=some 25) #[bT,bT,bT,bT,bT,bT,bf] rfl rfl (by kernel_rfl) (by decide) (fun K hK => ?_)
     refine goes_ Try.func37 (by kernel_rfl) rfl #[.agg #[.slice Ao19 x240000_1.length co19,.slice Ao20 x240001_1.length co20,.string x240002_1],.string t246,.string t249] (by rfl) rfl rfl (by (try simp only [List.map_toArray,List.map_cons,List.map_nil]);first|done|rfl|(simp only [List.length_drop,List.length_take];rfl)) ?_
     with_reducible refine (spec_SetVar.calls k1 _ _ x240000_1 _ _ x240001_1 x240002_1 t246 t249 t252 t255 t258 _ ?side1 ?side2 ?side3 ?side4 A13.out).mono ?_
     (case side1 => repeat (first|exact (rR HO_240000.out).2.2|(with_reducible first|refine cA ?_ _|refine cN ?_ _|refine cD ?_)))
     (case side2 => exact (rR HO_240000.out).2.1)
     (case side3 => repeat (first|exact (rR HO_240001.out).2.2|(with_reducible first|refine cA ?_ _|refine cN ?_ _|refine cD ?_)))
     (case side4 => exact (rR HO_240001.out).2.1)
     rintro e w21 ⟨v253,v256,rfl,ho0,ho1,hb⟩
     refine ⟨_,rfl,?_⟩
     have n0_:=aM (rE (rZ HO_240000.out) (rS ho0) hb)
     have n1_:=aM (rE (rZ HO_240001.out) (rS ho1) hb)
     have n2_:=aM (rL (rW ho0 (rT (rZ HO_240000.out))) (keep_size (w:=w) (g:=g) (row:=none) (by repeat (first|(with_reducible first|exact HK.out|apply KeepBut.set_|apply keep_drewN|apply keep_drew|apply keep_alloc|refine keep_far ?_ GW238.out _|refine keep_far ?_ GW239.out _)|exact HK.out))))
     have n3_:=aM (rL (rW ho1 (rT (rZ HO_240001.out))) (keep_size (w:=w) (g:=g) (row:=none) (by repeat (first|(with_reducible first|exact HK.out|apply KeepBut.set_|apply keep_drewN|apply keep_drew|apply keep_alloc|refine keep_far ?_ GW238.out _|refine keep_far ?_ GW239.out _)|exact HK.out))))
     have n4_:=aM (bH BK238.out hb)
     have n5_:=aM (bH BK239.out hb)
     have n6_:=aM (IsS62.below (by repeat (first|(with_reducible first|exact HI0.out|apply IsS62.alloc|apply IsS62.drewN|apply IsS62.drew|apply IsS62.set_1|apply IsS62.set_2|refine IsS62.far ?_ NB0_238.out _|refine IsS62.far ?_ NB0_239.out _)|exact HI0.out)) hb)
     have n7_:=aM (KeepBut.trans (by repeat (first|(with_reducible first|exact HK.out|apply KeepBut.set_|apply keep_drewN|apply keep_drew|apply keep_alloc|refine keep_far ?_ GW238.out _|refine keep_far ?_ GW239.out _)|exact HK.out)) (KeepBut.of_below hb g none) (.inl rfl))
     have n8_:=aM (lP (by repeat (first|(with_reducible first|exact HB.out|apply lA|apply lN|apply lD|refine lS ?_ (IsS62.ge HI0.out)|refine lS ?_ GE238.out|refine lS ?_ GE239.out)|exact HB.out)) hb)
     clear HO_240000
     clear HO_240001
     clear BK238
     clear BK239
     clear HI0
     clear HK
     clear HB
     have HO_240000:=n0_
     have HO_240001:=n1_
     have HO254:=n2_
     have HO257:=n3_
     have BK238:=n4_
     have BK239:=n5_
     have HI0:=n6_
     have HK:=n7_
     have HB:=n8_
     clear n0_ n1_ n2_ n3_ n4_ n5_ n6_ n7_ n8_
     (try clear hb)
     (try clear hb2)
     (try clear hk)
     (try clear hi)
     (try clear ho0)
     (try clear ho1)
     obtain ⟨Ao22,co22,eo22⟩:=Kd.R_slice HO254.out
     (first|subst eo22|(injection eo22 with f1_ f2_ f3_;have f4_:=f1_.symm;have f5_:=f3_.symm;clear f1_ f2_ f3_;subst f4_;subst f5_))
     obtain ⟨Ao24,co24,eo24⟩:=Kd.R_slice HO257.out
     (first|subst eo24|(injection eo24 with f1_ f2_ f3_;have f4_:=f1_.symm;have f5_:=f3_.symm;clear f1_ f2_ f3_;subst f4_;subst f5_))
     refine hK.out _ _ ⟨(bC BK239.out 0).trans rfl,(bC BK239.out 1).trans rfl,(bC BK239.out 2).trans rfl⟩ (fun hHeld => ?_)
     clear hK K
     refine norm_ (a':=?_) ?_ ?_
     rotate_left
     ·show Act.put _ (some 25) _ = _
      simp only [Act.put,q_ia6,q_cz6,q_cs6,i64_w,i32_w]
      rfl
     refine last_ (i:=6) (N:=none) #[bT,bT,bT,bT,bT,bT,bT] rfl rfl (by kernel_rfl) (by decide) (fun K hK => ?_)
     have hs23 : w21.cell? ⟨gb239,0,none⟩ = some (.slice Ao19 x240000_1.length co19):=(bC BK239.out 0).trans rfl
     have hfs23:=bF BK239.out 0
     have hns23_0:=NB238_239.out
     have hms23_0:=NB239_238.out
     have hs25 : w21.cell? ⟨gb239,1,none⟩ = some (.slice Ao20 x240001_1.length co20):=(bC BK239.out 1).trans rfl
     have hfs25:=bF BK239.out 1
     have hns25_0:=NB238_239.out
     have hms25_0:=NB239_238.out
     have hs26 : w21.cell? ⟨gb239,2,none⟩ = some (.string x240002_1):=(bC BK239.out 2).trans rfl
     have hfs26:=bF BK239.out 2
     have hns26_0:=NB238_239.out
     have hms26_0:=NB239_238.out
     refine skip_ (w1:=?_) (by rfl) rfl ?_ ?_
     rotate_left
     ·go_simp
      rfl
     refine hK.out _ _ ?_
     clear hK K
     refine done_ (by kernel_rfl) ?_
     try go_wp2
     go_roundg k1
     case measure => have:=HK1.out;omega
     case rel => exact ⟨(wrap64 (x4_1 + 1)),(t250),(t251),(t252),(t255),(t258),(.slice Ao22 t252.length co22),(.slice Ao24 t255.length co24),(by first|rfl|(simp;done)|(simp [*];done)),H',⟨by have:=HK1.out;omega⟩,⟨by (with_reducible repeat (first|apply rA|apply rN|apply rD));exact Kd.R_mono (rF (rF (rF (rY HO254.out BK239.out (by decide)) (fun _ hk => hk.2) _) (fun _ hk => hk.2) _) (fun _ hk => hk.2) _) (fun _ hk => trivial)⟩,⟨by (with_reducible repeat (first|apply rA|apply rN|apply rD));exact Kd.R_mono (rF (rF (rF (rY HO257.out BK239.out (by decide)) (fun _ hk => hk.2) _) (fun _ hk => hk.2) _) (fun _ hk => hk.2) _) (fun _ hk => trivial)⟩,⟨by (with_reducible repeat (first|refine bN ?_ _|refine bD ?_|refine bA ?_ _));refine blk_far ?_ NB238_239.out _;(with_reducible repeat (first|refine bN ?_ _|refine bD ?_|refine bA ?_ _));refine blk_far ?_ NB238_239.out _;(with_reducible repeat (first|refine bN ?_ _|refine bD ?_|refine bA ?_ _));refine blk_far ?_ NB238_239.out _;(with_reducible repeat (first|refine bN ?_ _|refine bD ?_|refine bA ?_ _));exact BK238.out⟩,⟨by (with_reducible repeat (first|refine bN ?_ _|refine bD ?_|refine bA ?_ _));refine blk_put (cs:=#[.slice Ao22 t252.length co22,.slice Ao24 t255.length co24,.string x240002_1]) ?_ 2 _ rfl;(with_reducible repeat (first|refine bN ?_ _|refine bD ?_|refine bA ?_ _));refine blk_put (cs:=#[.slice Ao22 t252.length co22,.slice Ao20 x240001_1.length co20,.string x240002_1]) ?_ 1 _ rfl;(with_reducible repeat (first|refine bN ?_ _|refine bD ?_|refine bA ?_ _));refine blk_put (cs:=#[.slice Ao19 x240000_1.length co19,.slice Ao20 x240001_1.length co20,.string x240002_1]) ?_ 0 _ rfl;(with_reducible repeat (first|refine bN ?_ _|refine bD ?_|refine bA ?_ _));exact BK239.out⟩,⟨by repeat (first|(with_reducible first|exact HI0.out|apply IsS62.alloc|apply IsS62.drewN|apply IsS62.drew|apply IsS62.set_1|apply IsS62.set_2|refine IsS62.far ?_ NB0_238.out _|refine IsS62.far ?_ NB0_239.out _)|exact HI0.out)⟩,⟨by repeat (first|(with_reducible first|exact HK.out|apply KeepBut.set_|apply keep_drewN|apply keep_drew|apply keep_alloc|refine keep_far ?_ GW238.out _|refine keep_far ?_ GW239.out _)|exact HK.out)⟩,⟨by repeat (first|(with_reducible first|exact HB.out|apply lA|apply lN|apply lD|refine lS ?_ (IsS62.ge HI0.out)|refine lS ?_ GE238.out|refine lS ?_ GE239.out)|exact HB.out)⟩⟩
    ·rw [if_neg c10] at H
     have c10b0 : (t243 == 0) = false:=beq_eq_false_iff_ne.mpr c10
     have c10b1 : (t243 != 0) = true:=bne_iff_ne.mpr c10
     by_cases c27 : t243 = 1
     ·rw [if_pos c27] at H
      have c27b0 : (t243 == 1) = true:=beq_iff_eq.mpr c27
      have c27b1 : (t243 != 1) = false:=bne_eq_false_iff_eq.mpr c27
      clear c27
      obtain ⟨y259,hy259⟩ : ∃ y_ : List ByteArray,y_ = (([(⟨#[116]⟩ : ByteArray),(⟨#[117]⟩ : ByteArray)] : List ByteArray)):=⟨_,rfl⟩
      replace H : ((spec_l01Pick.f s0_0 t244 t245 y259).bind fun bt262 => ((spec_l03Val.f s0_0 bt262.2.1 bt262.2.2).bind fun bt265 => ((spec_l03Val.f s0_0 bt265.2.1 bt265.2.2).bind fun bt268 => ((spec_SetCell.f k1 x240000_1 x240001_1 x240002_1 bt262.1 bt265.1 bt268.1).bind fun bt271 => (spec_l08Store.l0 k1 (wrap64 (x4_1 + 1)) s0_0 bt268.2.1 bt268.2.2 bt271.1 bt271.2.1 bt271.2.2))))) = some (r1,r2,r3,r4,r5):=by first|(rw [hy259];with_reducible exact H)|(have H2_:=(Option.bind_some _ _).symm.trans H;rw [hy259];with_reducible exact H2_)|(have H2_:=(Option.bind_some _ _).symm.trans H;with_reducible exact H2_)|with_reducible exact H|(rw [hy259];exact H)|exact H
      have Ny259:=aM hy259
      clear hy259
      replace H:=Option.bind_eq_some_iff.mp H
      obtain ⟨⟨t262,t263,t264⟩,A280,H⟩:=H
      replace H : ((spec_l03Val.f s0_0 t263 t264).bind fun bt265 => ((spec_l03Val.f s0_0 bt265.2.1 bt265.2.2).bind fun bt268 => ((spec_SetCell.f k1 x240000_1 x240001_1 x240002_1 t262 bt265.1 bt268.1).bind fun bt271 => (spec_l08Store.l0 k1 (wrap64 (x4_1 + 1)) s0_0 bt268.2.1 bt268.2.2 bt271.1 bt271.2.1 bt271.2.2)))) = some (r1,r2,r3,r4,r5):=H
      have A28:=aM A280
      clear A280
      replace H:=Option.bind_eq_some_iff.mp H
      obtain ⟨⟨t265,t266,t267⟩,A290,H⟩:=H
      replace H : ((spec_l03Val.f s0_0 t266 t267).bind fun bt268 => ((spec_SetCell.f k1 x240000_1 x240001_1 x240002_1 t262 t265 bt268.1).bind fun bt271 => (spec_l08Store.l0 k1 (wrap64 (x4_1 + 1)) s0_0 bt268.2.1 bt268.2.2 bt271.1 bt271.2.1 bt271.2.2))) = some (r1,r2,r3,r4,r5):=H
      have A29:=aM A290
      clear A290
      replace H:=Option.bind_eq_some_iff.mp H
      obtain ⟨⟨t268,t269,t270⟩,A300,H⟩:=H
      replace H : ((spec_SetCell.f k1 x240000_1 x240001_1 x240002_1 t262 t265 t268).bind fun bt271 => (spec_l08Store.l0 k1 (wrap64 (x4_1 + 1)) s0_0 t269 t270 bt271.1 bt271.2.1 bt271.2.2)) = some (r1,r2,r3,r4,r5):=H
      have A30:=aM A300
      clear A300
      replace H:=Option.bind_eq_some_iff.mp H
      obtain ⟨⟨t271,t274,t277⟩,A310,H⟩:=H
      replace H : (spec_l08Store.l0 k1 (wrap64 (x4_1 + 1)) s0_0 t269 t270 t271 t274 t277) = some (r1,r2,r3,r4,r5):=H
      have A31:=aM A310
      clear A310
      have H':=aM H
      clear H
      try go_wp2_with (first|((with_reducible refine gate_callee (f:=24) rfl ?_);refine goesL_ (some 8) rfl rfl Try.func24 (by kernel_rfl) rfl #[.pointer (some ⟨g,0,none⟩),.int .i64 8] rfl (by (try simp only [List.map_toArray,List.map_cons,List.map_nil]);first|done|rfl|(simp only [List.length_drop,List.length_take];rfl)) ?_;(with_reducible refine (spec_l01Below.calls g s0_0 x1001_1 x1002_1 8 t240 t241 t242 w0 _ ?side1 ?side2 A7.out).mono ?_);(case side1 => repeat (first|(with_reducible first|exact HI0.out|apply IsS62.alloc|apply IsS62.drewN|apply IsS62.drew|apply IsS62.set_1|apply IsS62.set_2|refine IsS62.far ?_ NB0_238.out _|refine IsS62.far ?_ NB0_239.out _)|exact HI0.out));(case side2 => repeat (first|(with_reducible first|exact HB.out|apply lA|apply lN|apply lD|refine lS ?_ (IsS62.ge HI0.out)|refine lS ?_ GE238.out|refine lS ?_ GE239.out)|exact HB.out));rintro e w32 ⟨rfl,hi,hb,hk⟩;refine ⟨_,rfl,?_⟩;have n0_:=aM (Kd.R_mono (Kd.R_keep (IsS62.apart (show IsS62 w0 _ g s0_0 x1001_1 x1002_1 from by repeat (first|(with_reducible first|exact HI0.out|apply IsS62.alloc|apply IsS62.drewN|apply IsS62.drew|apply IsS62.set_1|apply IsS62.set_2|refine IsS62.far ?_ NB0_238.out _|refine IsS62.far ?_ NB0_239.out _)|exact HI0.out)) (rZ HO_240000.out) (by decide)) hk (fun _ h => h.2)) (fun _ h => h.1));have n1_:=aM (Kd.R_mono (Kd.R_keep (IsS62.apart (show IsS62 w0 _ g s0_0 x1001_1 x1002_1 from by repeat (first|(with_reducible first|exact HI0.out|apply IsS62.alloc|apply IsS62.drewN|apply IsS62.drew|apply IsS62.set_1|apply IsS62.set_2|refine IsS62.far ?_ NB0_238.out _|refine IsS62.far ?_ NB0_239.out _)|exact HI0.out)) (rZ HO_240001.out) (by decide)) hk (fun _ h => h.2)) (fun _ h => h.1));have n2_:=aM (KeepBut.blk hk (g':=gb238) (o:=.cells #[.slice none 0 0,.slice none 0 0,.string (⟨#[]⟩ : ByteArray)] 35 (0,0)) (by (with_reducible repeat (first|refine bN ?_ _|refine bD ?_|refine bA ?_ _));exact BK238.out) NB238_0.out (by simp));have n3_:=aM (KeepBut.blk hk (g':=gb239) (o:=.cells #[u240000,u240001,.string x240002_1] 35 (0,0)) (by (with_reducible repeat (first|refine bN ?_ _|refine bD ?_|refine bA ?_ _));exact BK239.out) NB239_0.out (by simp));have n4_:=aM (KeepBut.trans (by repeat (first|(with_reducible first|exact HK.out|apply KeepBut.set_|apply keep_drewN|apply keep_drew|apply keep_alloc|refine keep_far ?_ GW238.out _|refine keep_far ?_ GW239.out _)|exact HK.out)) hk (.inl rfl));have n5_:=aM (hb);have n6_:=aM (hi);clear HO_240000 HO_240001 BK238 BK239 HK HB HI0;have HO_240000:=n0_;have HO_240001:=n1_;have BK238:=n2_;have BK239:=n3_;have HK:=n4_;have HB:=n5_;have HI0:=n6_;clear n0_ n1_ n2_ n3_ n4_ n5_ n6_;(try clear hb);(try clear hb2);(try clear hk);(try clear hi))|((with_reducible refine gate_callee (f:=24) rfl ?_);refine goesL_ (some 13) rfl rfl Try.func24 (by kernel_rfl) rfl #[.pointer (some ⟨g,0,none⟩),.int .i64 3] rfl (by (try simp only [List.map_toArray,List.map_cons,List.map_nil]);first|done|rfl|(simp only [List.length_drop,List.length_take];rfl)) ?_;(with_reducible refine (spec_l01Below.calls g s0_0 t241 t242 3 t243 t244 t245 w0 _ ?side1 ?side2 A9.out).mono ?_);(case side1 => repeat (first|(with_reducible first|exact HI0.out|apply IsS62.alloc|apply IsS62.drewN|apply IsS62.drew|apply IsS62.set_1|apply IsS62.set_2|refine IsS62.far ?_ NB0_238.out _|refine IsS62.far ?_ NB0_239.out _)|exact HI0.out));(case side2 => repeat (first|(with_reducible first|exact HB.out|apply lA|apply lN|apply lD|refine lS ?_ (IsS62.ge HI0.out)|refine lS ?_ GE238.out|refine lS ?_ GE239.out)|exact HB.out));rintro e w33 ⟨rfl,hi,hb,hk⟩;refine ⟨_,rfl,?_⟩;have n0_:=aM (Kd.R_mono (Kd.R_keep (IsS62.apart (show IsS62 w0 _ g s0_0 t241 t242 from by repeat (first|(with_reducible first|exact HI0.out|apply IsS62.alloc|apply IsS62.drewN|apply IsS62.drew|apply IsS62.set_1|apply IsS62.set_2|refine IsS62.far ?_ NB0_238.out _|refine IsS62.far ?_ NB0_239.out _)|exact HI0.out)) (rZ HO_240000.out) (by decide)) hk (fun _ h => h.2)) (fun _ h => h.1));have n1_:=aM (Kd.R_mono (Kd.R_keep (IsS62.apart (show IsS62 w0 _ g s0_0 t241 t242 from by repeat (first|(with_reducible first|exact HI0.out|apply IsS62.alloc|apply IsS62.drewN|apply IsS62.drew|apply IsS62.set_1|apply IsS62.set_2|refine IsS62.far ?_ NB0_238.out _|refine IsS62.far ?_ NB0_239.out _)|exact HI0.out)) (rZ HO_240001.out) (by decide)) hk (fun _ h => h.2)) (fun _ h => h.1));have n2_:=aM (KeepBut.blk hk (g':=gb238) (o:=.cells #[.slice none 0 0,.slice none 0 0,.string (⟨#[]⟩ : ByteArray)] 35 (0,0)) (by (with_reducible repeat (first|refine bN ?_ _|refine bD ?_|refine bA ?_ _));exact BK238.out) NB238_0.out (by simp));have n3_:=aM (KeepBut.blk hk (g':=gb239) (o:=.cells #[u240000,u240001,.string x240002_1] 35 (0,0)) (by (with_reducible repeat (first|refine bN ?_ _|refine bD ?_|refine bA ?_ _));exact BK239.out) NB239_0.out (by simp));have n4_:=aM (KeepBut.trans (by repeat (first|(with_reducible first|exact HK.out|apply KeepBut.set_|apply keep_drewN|apply keep_drew|apply keep_alloc|refine keep_far ?_ GW238.out _|refine keep_far ?_ GW239.out _)|exact HK.out)) hk (.inl rfl));have n5_:=aM (hb);have n6_:=aM (hi);clear HO_240000 HO_240001 BK238 BK239 HK HB HI0;have HO_240000:=n0_;have HO_240001:=n1_;have BK238:=n2_;have BK239:=n3_;have HK:=n4_;have HB:=n5_;have HI0:=n6_;clear n0_ n1_ n2_ n3_ n4_ n5_ n6_;(try clear hb);(try clear hb2);(try clear hk);(try clear hi)))
      have n0_:=aM (rD HO_240000.out)
      have n1_:=aM (rD HO_240001.out)
      have n2_:=aM (bD BK238.out)
      have n3_:=aM (bD BK239.out)
      have n4_:=aM (IsS62.drew HI0.out)
      have n5_:=aM (keep_drew HK.out)
      have n6_:=aM (lD HB.out)
      clear HO_240000
      clear HO_240001
      clear BK238
      clear BK239
      clear HI0
      clear HK
      clear HB
      have HO_240000:=n0_
      have HO_240001:=n1_
      have BK238:=n2_
      have BK239:=n3_
      have HI0:=n4_
      have HK:=n5_
      have HB:=n6_
      clear n0_ n1_ n2_ n3_ n4_ n5_ n6_
      refine start_ (n:=10) (S:=fun w' => w'.cell? ⟨gb239,0,none⟩ = some (u240000) ∧ w'.cell? ⟨gb239,1,none⟩ = some (u240001) ∧ w'.cell? ⟨gb239,2,none⟩ = some (.string x240002_1)) (ds:=[9]) #[bf,bf,bf,bf,bf,bf,bf,bf,bf,bf] (by kernel_rfl) rfl rfl ⟨(bC BK239.out 0).trans rfl,(bC BK239.out 1).trans rfl,(bC BK239.out 2).trans rfl⟩ (fun hHeld => ?_);refine with_tabW spec_l08Store.tab10 spec_l08Store.bits10 (fun HT_ HW_ => ?_)
      generalize w33.drew = w34 at HO_240000 HO_240001 BK238 BK239 HI0 HK HB hHeld ⊢
      refine pQ (i:=1) (N:=some 29) (v:=?_) (a':=?_) #[bf,bT,bf,bf,bf,bf,bf,bf,bf,bf] (any_of HT_.out (by kernel_rfl)) ?_ ?_ ?_
      rotate_left
      ·intro w';go_simp;with_reducible rfl
      rotate_left
      ·simp only [Act.put,q_ia6,q_cz6,q_cs6,i64_w,i32_w];rfl
      refine pQ (i:=4) (N:=some 32) (v:=?_) (a':=?_) #[bf,bT,bf,bf,bT,bf,bf,bf,bf,bf] (any_of HT_.out (by kernel_rfl)) ?_ ?_ ?_
      rotate_left
      ·intro w';go_simp;with_reducible rfl
      rotate_left
      ·simp only [Act.put,q_ia6,q_cz6,q_cs6,i64_w,i32_w];rfl
      refine pQ (i:=6) (N:=some 34) (v:=?_) (a':=?_) #[bf,bT,bf,bf,bT,bf,bT,bf,bf,bf] (any_of HT_.out (by kernel_rfl)) ?_ ?_ ?_
      rotate_left
      ·intro w';go_simp;with_reducible rfl
      rotate_left
      ·simp only [Act.put,q_ia6,q_cz6,q_cs6,i64_w,i32_w];rfl
      refine take_ (i:=0) (N:=some 28) (v:=?_) (a':=?_) #[bT,bT,bf,bf,bT,bf,bT,bf,bf,bf] rfl rfl (take_ofW HT_.out HW_.out (by kernel_rfl)) (fun _ _ _ h => h) (Or.inl ⟨by rfl,?_⟩) hHeld ?_ ?_
      rotate_left
      ·rintro w' ⟨s0,s1,s2⟩
       go_simp
       with_reducible rfl
      rotate_left
      ·simp only [Act.put,q_ia6,q_cz6,q_cs6,i64_w,i32_w];rfl
      refine one_ (i:=2) (N:=some 30) #[bT,bT,bT,bf,bT,bf,bT,bf,bf,bf] rfl rfl (one_of HT_.out (by kernel_rfl)) (by decide) (fun K hK => ?_)
      refine Kd.R_lit_step Kd.string _ 9 ?hg (N:=30) ?hd (xs:=([(⟨#[116]⟩ : ByteArray),(⟨#[117]⟩ : ByteArray)] : List ByteArray)) (inner:=[.string (⟨#[116]⟩ : ByteArray),.string (⟨#[117]⟩ : ByteArray)]) (ok:=fun _ => True) (okp:=fun _ => True) ?hr ?hp (fun _ hk => hk) trivial (Below.refl _ _) (Nat.le_refl _) (by simp) ?_;(case hd => rfl);(case hg => rfl);(case hr => first|(go_simp;done)|(go_simp;rfl));(case hp => exact (Reps.one (show Kd.M Kd.string _ _ _ (⟨#[116]⟩ : ByteArray) [.string (⟨#[116]⟩ : ByteArray)] from rfl) (Reps.one (show Kd.M Kd.string _ _ _ (⟨#[117]⟩ : ByteArray) [.string (⟨#[117]⟩ : ByteArray)] from rfl) (Reps.none _ _))))
      intro v260 w35 ho36 hb hg_ hnew_
      clear hg_ hnew_
      (first|rw [← Ny259.out] at ho36|(simp only [Int.reduceToNat] at ho36;rw [← Ny259.out] at ho36))
      have n0_:=aM (rH HO_240000.out hb)
      have n1_:=aM (rH HO_240001.out hb)
      have n2_:=aM (rL ho36 (keep_size (w:=w) (g:=g) (row:=none) (by repeat (first|(with_reducible first|exact HK.out|apply KeepBut.set_|apply keep_drewN|apply keep_drew|apply keep_alloc|refine keep_far ?_ GW238.out _|refine keep_far ?_ GW239.out _)|exact HK.out))))
      have n3_:=aM (bH BK238.out hb)
      have n4_:=aM (bH BK239.out hb)
      have n5_:=aM (IsS62.below (by repeat (first|(with_reducible first|exact HI0.out|apply IsS62.alloc|apply IsS62.drewN|apply IsS62.drew|apply IsS62.set_1|apply IsS62.set_2|refine IsS62.far ?_ NB0_238.out _|refine IsS62.far ?_ NB0_239.out _)|exact HI0.out)) hb)
      have n6_:=aM (KeepBut.trans (by repeat (first|(with_reducible first|exact HK.out|apply KeepBut.set_|apply keep_drewN|apply keep_drew|apply keep_alloc|refine keep_far ?_ GW238.out _|refine keep_far ?_ GW239.out _)|exact HK.out)) (KeepBut.of_below hb g none) (.inl rfl))
      have n7_:=aM (lP (by repeat (first|(with_reducible first|exact HB.out|apply lA|apply lN|apply lD|refine lS ?_ (IsS62.ge HI0.out)|refine lS ?_ GE238.out|refine lS ?_ GE239.out)|exact HB.out)) hb)
      clear HO_240000
      clear HO_240001
      clear BK238
      clear BK239
      clear HI0
      clear HK
      clear HB
      have HO_240000:=n0_
      have HO_240001:=n1_
      have HO261:=n2_
      have BK238:=n3_
      have BK239:=n4_
      have HI0:=n5_
      have HK:=n6_
      have HB:=n7_
      clear n0_ n1_ n2_ n3_ n4_ n5_ n6_ n7_
      clear hb ho36
      obtain ⟨Ao37,co37,eo37⟩:=Kd.R_slice HO261.out
      (first|subst eo37|(injection eo37 with f1_ f2_ f3_;have f4_:=f1_.symm;have f5_:=f3_.symm;clear f1_ f2_ f3_;subst f4_;subst f5_))
      refine hK.out _ _ ⟨(bC BK239.out 0).trans rfl,(bC BK239.out 1).trans rfl,(bC BK239.out 2).trans rfl⟩ (fun hHeld => ?_)
      clear hK K
      refine norm_ (a':=?_) ?_ ?_
      rotate_left
      ·show Act.put _ (some 30) _ = _
       simp only [Act.put,q_ia6,q_cz6,q_cs6,i64_w,i32_w]
       rfl
      refine one_ (i:=3) (N:=some 31) #[bT,bT,bT,bT,bT,bf,bT,bf,bf,bf] rfl rfl (one_of HT_.out (by kernel_rfl)) (by decide) (fun K hK => ?_)
      refine goes_ Try.func34 (by kernel_rfl) rfl #[.pointer (some ⟨g,0,none⟩),.slice Ao37 y259.length co37] (by rfl) rfl rfl (by (try simp only [List.map_toArray,List.map_cons,List.map_nil]);first|done|rfl|(simp only [List.length_drop,List.length_take];rfl)) ?_
      with_reducible refine (spec_l01Pick.calls g s0_0 t244 t245 _ _ y259 t262 t263 t264 w0 _ ?side1 ?side2 ?side3 ?side4 ?side5 A28.out).mono ?_
      (case side1 => repeat (first|(with_reducible first|exact HI0.out|apply IsS62.alloc|apply IsS62.drewN|apply IsS62.drew|apply IsS62.set_1|apply IsS62.set_2|refine IsS62.far ?_ NB0_238.out _|refine IsS62.far ?_ NB0_239.out _)|exact HI0.out))
      (case side2 => repeat (first|(with_reducible first|exact HB.out|apply lA|apply lN|apply lD|refine lS ?_ (IsS62.ge HI0.out)|refine lS ?_ GE238.out|refine lS ?_ GE239.out)|exact HB.out))
      (case side3 => repeat (first|exact (rR HO261.out).2.2|(with_reducible first|refine cA ?_ _|refine cN ?_ _|refine cD ?_)))
      (case side4 => exact (rR HO261.out).2.1)
      (case side5 => exact far_slice (IsS62.own_ne HI0.out HO261.out (by decide)))
      rintro e w38 ⟨rfl,hi,hb,hk⟩
      refine ⟨_,rfl,?_⟩
      have n0_:=aM (Kd.R_mono (Kd.R_keep (IsS62.apart (show IsS62 w0 _ g s0_0 t244 t245 from by repeat (first|(with_reducible first|exact HI0.out|apply IsS62.alloc|apply IsS62.drewN|apply IsS62.drew|apply IsS62.set_1|apply IsS62.set_2|refine IsS62.far ?_ NB0_238.out _|refine IsS62.far ?_ NB0_239.out _)|exact HI0.out)) (rZ HO_240000.out) (by decide)) hk (fun _ h => h.2)) (fun _ h => h.1))
      have n1_:=aM (Kd.R_mono (Kd.R_keep (IsS62.apart (show IsS62 w0 _ g s0_0 t244 t245 from by repeat (first|(with_reducible first|exact HI0.out|apply IsS62.alloc|apply IsS62.drewN|apply IsS62.drew|apply IsS62.set_1|apply IsS62.set_2|refine IsS62.far ?_ NB0_238.out _|refine IsS62.far ?_ NB0_239.out _)|exact HI0.out)) (rZ HO_240001.out) (by decide)) hk (fun _ h => h.2)) (fun _ h => h.1))
      have n2_:=aM (KeepBut.blk hk (g':=gb238) (o:=.cells #[.slice none 0 0,.slice none 0 0,.string (⟨#[]⟩ : ByteArray)] 35 (0,0)) (by (with_reducible repeat (first|refine bN ?_ _|refine bD ?_|refine bA ?_ _));exact BK238.out) NB238_0.out (by simp))
      have n3_:=aM (KeepBut.blk hk (g':=gb239) (o:=.cells #[u240000,u240001,.string x240002_1] 35 (0,0)) (by (with_reducible repeat (first|refine bN ?_ _|refine bD ?_|refine bA ?_ _));exact BK239.out) NB239_0.out (by simp))
      have n4_:=aM (Kd.R_mono (Kd.R_keep (IsS62.apart (show IsS62 w0 _ g s0_0 t244 t245 from by repeat (first|(with_reducible first|exact HI0.out|apply IsS62.alloc|apply IsS62.drewN|apply IsS62.drew|apply IsS62.set_1|apply IsS62.set_2|refine IsS62.far ?_ NB0_238.out _|refine IsS62.far ?_ NB0_239.out _)|exact HI0.out)) (rZ HO261.out) (by decide)) hk (fun _ h => h.2)) (fun _ h => h.1))
      have n5_:=aM (KeepBut.trans (by repeat (first|(with_reducible first|exact HK.out|apply KeepBut.set_|apply keep_drewN|apply keep_drew|apply keep_alloc|refine keep_far ?_ GW238.out _|refine keep_far ?_ GW239.out _)|exact HK.out)) hk (.inl rfl))
      have n6_:=aM (hb)
      have n7_:=aM (hi)
      clear HO_240000
      clear HO_240001
      clear BK238
      clear BK239
      clear HO261
      clear HK
      clear HB
      clear HI0
      have HO_240000:=n0_
      have HO_240001:=n1_
      have BK238:=n2_
      have BK239:=n3_
      have HO261:=n4_
      have HK:=n5_
      have HB:=n6_
      have HI0:=n7_
      clear n0_ n1_ n2_ n3_ n4_ n5_ n6_ n7_
      (try clear hb)
      (try clear hb2)
      (try clear hk)
      (try clear hi)
      refine hK.out _ _ ⟨(bC BK239.out 0).trans rfl,(bC BK239.out 1).trans rfl,(bC BK239.out 2).trans rfl⟩ (fun hHeld => ?_)
      clear hK K
      refine norm_ (a':=?_) ?_ ?_
      rotate_left
      ·show Act.put _ (some 31) _ = _
       simp only [Act.put,q_ia6,q_cz6,q_cs6,i64_w,i32_w]
       rfl
      refine one_ (i:=5) (N:=some 33) #[bT,bT,bT,bT,bT,bT,bT,bf,bf,bf] rfl rfl (one_of HT_.out (by kernel_rfl)) (by decide) (fun K hK => ?_)
      refine goes_ Try.func31 (by kernel_rfl) rfl #[.pointer (some ⟨g,0,none⟩)] (by rfl) rfl rfl (by (try simp only [List.map_toArray,List.map_cons,List.map_nil]);first|done|rfl|(simp only [List.length_drop,List.length_take];rfl)) ?_
      with_reducible refine (spec_l03Val.calls g s0_0 t263 t264 t265 t266 t267 w0 _ ?side1 ?side2 A29.out).mono ?_
      (case side1 => repeat (first|(with_reducible first|exact HI0.out|apply IsS62.alloc|apply IsS62.drewN|apply IsS62.drew|apply IsS62.set_1|apply IsS62.set_2|refine IsS62.far ?_ NB0_238.out _|refine IsS62.far ?_ NB0_239.out _)|exact HI0.out))
      (case side2 => repeat (first|(with_reducible first|exact HB.out|apply lA|apply lN|apply lD|refine lS ?_ (IsS62.ge HI0.out)|refine lS ?_ GE238.out|refine lS ?_ GE239.out)|exact HB.out))
      rintro e w39 ⟨rfl,hi,hb,hk⟩
      refine ⟨_,rfl,?_⟩
      have n0_:=aM (Kd.R_mono (Kd.R_keep (IsS62.apart (show IsS62 w0 _ g s0_0 t263 t264 from by repeat (first|(with_reducible first|exact HI0.out|apply IsS62.alloc|apply IsS62.drewN|apply IsS62.drew|apply IsS62.set_1|apply IsS62.set_2|refine IsS62.far ?_ NB0_238.out _|refine IsS62.far ?_ NB0_239.out _)|exact HI0.out)) (rZ HO_240000.out) (by decide)) hk (fun _ h => h.2)) (fun _ h => h.1))
      have n1_:=aM (Kd.R_mono (Kd.R_keep (IsS62.apart (show IsS62 w0 _ g s0_0 t263 t264 from by repeat (first|(with_reducible first|exact HI0.out|apply IsS62.alloc|apply IsS62.drewN|apply IsS62.drew|apply IsS62.set_1|apply IsS62.set_2|refine IsS62.far ?_ NB0_238.out _|refine IsS62.far ?_ NB0_239.out _)|exact HI0.out)) (rZ HO_240001.out) (by decide)) hk (fun _ h => h.2)) (fun _ h => h.1))
      have n2_:=aM (KeepBut.blk hk (g':=gb238) (o:=.cells #[.slice none 0 0,.slice none 0 0,.string (⟨#[]⟩ : ByteArray)] 35 (0,0)) (by (with_reducible repeat (first|refine bN ?_ _|refine bD ?_|refine bA ?_ _));exact BK238.out) NB238_0.out (by simp))
      have n3_:=aM (KeepBut.blk hk (g':=gb239) (o:=.cells #[u240000,u240001,.string x240002_1] 35 (0,0)) (by (with_reducible repeat (first|refine bN ?_ _|refine bD ?_|refine bA ?_ _));exact BK239.out) NB239_0.out (by simp))
      have n4_:=aM (Kd.R_mono (Kd.R_keep (IsS62.apart (show IsS62 w0 _ g s0_0 t263 t264 from by repeat (first|(with_reducible first|exact HI0.out|apply IsS62.alloc|apply IsS62.drewN|apply IsS62.drew|apply IsS62.set_1|apply IsS62.set_2|refine IsS62.far ?_ NB0_238.out _|refine IsS62.far ?_ NB0_239.out _)|exact HI0.out)) (rZ HO261.out) (by decide)) hk (fun _ h => h.2)) (fun _ h => h.1))
      have n5_:=aM (KeepBut.trans (by repeat (first|(with_reducible first|exact HK.out|apply KeepBut.set_|apply keep_drewN|apply keep_drew|apply keep_alloc|refine keep_far ?_ GW238.out _|refine keep_far ?_ GW239.out _)|exact HK.out)) hk (.inl rfl))
      have n6_:=aM (hb)
      have n7_:=aM (hi)
      clear HO_240000
      clear HO_240001
      clear BK238
      clear BK239
      clear HO261
      clear HK
      clear HB
      clear HI0
      have HO_240000:=n0_
      have HO_240001:=n1_
      have BK238:=n2_
      have BK239:=n3_
      have HO261:=n4_
      have HK:=n5_
      have HB:=n6_
      have HI0:=n7_
      clear n0_ n1_ n2_ n3_ n4_ n5_ n6_ n7_
      (try clear hb)
      (try clear hb2)
      (try clear hk)
      (try clear hi)
      refine hK.out _ _ ⟨(bC BK239.out 0).trans rfl,(bC BK239.out 1).trans rfl,(bC BK239.out 2).trans rfl⟩ (fun hHeld => ?_)
      clear hK K
      refine norm_ (a':=?_) ?_ ?_
      rotate_left
      ·show Act.put _ (some 33) _ = _
       simp only [Act.put,q_ia6,q_cz6,q_cs6,i64_w,i32_w]
       rfl
      refine one_ (i:=7) (N:=some 35) #[bT,bT,bT,bT,bT,bT,bT,bT,bf,bf] rfl rfl (one_of HT_.out (by kernel_rfl)) (by decide) (fun K hK => ?_)
      refine goes_ Try.func31 (by kernel_rfl) rfl #[.pointer (some ⟨g,0,none⟩)] (by rfl) rfl rfl (by (try simp only [List.map_toArray,List.map_cons,List.map_nil]);first|done|rfl|(simp only [List.length_drop,List.length_take];rfl)) ?_
      with_reducible refine (spec_l03Val.calls g s0_0 t266 t267 t268 t269 t270 w0 _ ?side1 ?side2 A30.out).mono ?_
      (case side1 => repeat (first|(with_reducible first|exact HI0.out|apply IsS62.alloc|apply IsS62.drewN|apply IsS62.drew|apply IsS62.set_1|apply IsS62.set_2|refine IsS62.far ?_ NB0_238.out _|refine IsS62.far ?_ NB0_239.out _)|exact HI0.out))
      (case side2 => repeat (first|(with_reducible first|exact HB.out|apply lA|apply lN|apply lD|refine lS ?_ (IsS62.ge HI0.out)|refine lS ?_ GE238.out|refine lS ?_ GE239.out)|exact HB.out))
      rintro e w40 ⟨rfl,hi,hb,hk⟩
      refine ⟨_,rfl,?_⟩
      have n0_:=aM (Kd.R_mono (Kd.R_keep (IsS62.apart (show IsS62 w0 _ g s0_0 t266 t267 from by repeat (first|(with_reducible first|exact HI0.out|apply IsS62.alloc|apply IsS62.drewN|apply IsS62.drew|apply IsS62.set_1|apply IsS62.set_2|refine IsS62.far ?_ NB0_238.out _|refine IsS62.far ?_ NB0_239.out _)|exact HI0.out)) (rZ HO_240000.out) (by decide)) hk (fun _ h => h.2)) (fun _ h => h.1))
      have n1_:=aM (Kd.R_mono (Kd.R_keep (IsS62.apart (show IsS62 w0 _ g s0_0 t266 t267 from by repeat (first|(with_reducible first|exact HI0.out|apply IsS62.alloc|apply IsS62.drewN|apply IsS62.drew|apply IsS62.set_1|apply IsS62.set_2|refine IsS62.far ?_ NB0_238.out _|refine IsS62.far ?_ NB0_239.out _)|exact HI0.out)) (rZ HO_240001.out) (by decide)) hk (fun _ h => h.2)) (fun _ h => h.1))
      have n2_:=aM (KeepBut.blk hk (g':=gb238) (o:=.cells #[.slice none 0 0,.slice none 0 0,.string (⟨#[]⟩ : ByteArray)] 35 (0,0)) (by (with_reducible repeat (first|refine bN ?_ _|refine bD ?_|refine bA ?_ _));exact BK238.out) NB238_0.out (by simp))
      have n3_:=aM (KeepBut.blk hk (g':=gb239) (o:=.cells #[u240000,u240001,.string x240002_1] 35 (0,0)) (by (with_reducible repeat (first|refine bN ?_ _|refine bD ?_|refine bA ?_ _));exact BK239.out) NB239_0.out (by simp))
      have n4_:=aM (Kd.R_mono (Kd.R_keep (IsS62.apart (show IsS62 w0 _ g s0_0 t266 t267 from by repeat (first|(with_reducible first|exact HI0.out|apply IsS62.alloc|apply IsS62.drewN|apply IsS62.drew|apply IsS62.set_1|apply IsS62.set_2|refine IsS62.far ?_ NB0_238.out _|refine IsS62.far ?_ NB0_239.out _)|exact HI0.out)) (rZ HO261.out) (by decide)) hk (fun _ h => h.2)) (fun _ h => h.1))
      have n5_:=aM (KeepBut.trans (by repeat (first|(with_reducible first|exact HK.out|apply KeepBut.set_|apply keep_drewN|apply keep_drew|apply keep_alloc|refine keep_far ?_ GW238.out _|refine keep_far ?_ GW239.out _)|exact HK.out)) hk (.inl rfl))
      have n6_:=aM (hb)
      have n7_:=aM (hi)
      clear HO_240000
      clear HO_240001
      clear BK238
      clear BK239
      clear HO261
      clear HK
      clear HB
      clear HI0
      have HO_240000:=n0_
      have HO_240001:=n1_
      have BK238:=n2_
      have BK239:=n3_
      have HO261:=n4_
      have HK:=n5_
      have HB:=n6_
      have HI0:=n7_
      clear n0_ n1_ n2_ n3_ n4_ n5_ n6_ n7_
      (try clear hb)
      (try clear hb2)
      (try clear hk)
      (try clear hi)
      obtain ⟨Ao41,co41,eo41⟩:=Kd.R_slice HO_240000.out
      (first|subst eo41|(injection eo41 with f1_ f2_ f3_;have f4_:=f1_.symm;have f5_:=f3_.symm;clear f1_ f2_ f3_;subst f4_;subst f5_))
      obtain ⟨Ao42,co42,eo42⟩:=Kd.R_slice HO_240001.out
      (first|subst eo42|(injection eo42 with f1_ f2_ f3_;have f4_:=f1_.symm;have f5_:=f3_.symm;clear f1_ f2_ f3_;subst f4_;subst f5_))
      refine hK.out _ _ ⟨(bC BK239.out 0).trans rfl,(bC BK239.out 1).trans rfl,(bC BK239.out 2).trans rfl⟩ (fun hHeld => ?_)
      clear hK K
      refine norm_ (a':=?_) ?_ ?_
      rotate_left
      ·show Act.put _ (some 35) _ = _
       simp only [Act.put,q_ia6,q_cz6,q_cs6,i64_w,i32_w]
       rfl
      refine one_ (i:=8) (N:=some 36) #[bT,bT,bT,bT,bT,bT,bT,bT,bT,bf] rfl rfl (one_of HT_.out (by kernel_rfl)) (by decide) (fun K hK => ?_)
      refine goes_ Try.func39 (by kernel_rfl) rfl #[.agg #[.slice Ao41 x240000_1.length co41,.slice Ao42 x240001_1.length co42,.string x240002_1],.string t262,.string t265,.string t268] (by rfl) rfl rfl (by (try simp only [List.map_toArray,List.map_cons,List.map_nil]);first|done|rfl|(simp only [List.length_drop,List.length_take];rfl)) ?_
      with_reducible refine (spec_SetCell.calls k1 _ _ x240000_1 _ _ x240001_1 x240002_1 t262 t265 t268 t271 t274 t277 _ ?side1 ?side2 ?side3 ?side4 A31.out).mono ?_
      (case side1 => repeat (first|exact (rR HO_240000.out).2.2|(with_reducible first|refine cA ?_ _|refine cN ?_ _|refine cD ?_)))
      (case side2 => exact (rR HO_240000.out).2.1)
      (case side3 => repeat (first|exact (rR HO_240001.out).2.2|(with_reducible first|refine cA ?_ _|refine cN ?_ _|refine cD ?_)))
      (case side4 => exact (rR HO_240001.out).2.1)
      rintro e w43 ⟨v272,v275,rfl,ho0,ho1,hb⟩
      refine ⟨_,rfl,?_⟩
      have n0_:=aM (rE (rZ HO_240000.out) (rS ho0) hb)
      have n1_:=aM (rE (rZ HO_240001.out) (rS ho1) hb)
      have n2_:=aM (rH HO261.out hb)
      have n3_:=aM (rL (rW ho0 (rT (rZ HO_240000.out))) (keep_size (w:=w) (g:=g) (row:=none) (by repeat (first|(with_reducible first|exact HK.out|apply KeepBut.set_|apply keep_drewN|apply keep_drew|apply keep_alloc|refine keep_far ?_ GW238.out _|refine keep_far ?_ GW239.out _)|exact HK.out))))
      have n4_:=aM (rL (rW ho1 (rT (rZ HO_240001.out))) (keep_size (w:=w) (g:=g) (row:=none) (by repeat (first|(with_reducible first|exact HK.out|apply KeepBut.set_|apply keep_drewN|apply keep_drew|apply keep_alloc|refine keep_far ?_ GW238.out _|refine keep_far ?_ GW239.out _)|exact HK.out))))
      have n5_:=aM (bH BK238.out hb)
      have n6_:=aM (bH BK239.out hb)
      have n7_:=aM (IsS62.below (by repeat (first|(with_reducible first|exact HI0.out|apply IsS62.alloc|apply IsS62.drewN|apply IsS62.drew|apply IsS62.set_1|apply IsS62.set_2|refine IsS62.far ?_ NB0_238.out _|refine IsS62.far ?_ NB0_239.out _)|exact HI0.out)) hb)
      have n8_:=aM (KeepBut.trans (by repeat (first|(with_reducible first|exact HK.out|apply KeepBut.set_|apply keep_drewN|apply keep_drew|apply keep_alloc|refine keep_far ?_ GW238.out _|refine keep_far ?_ GW239.out _)|exact HK.out)) (KeepBut.of_below hb g none) (.inl rfl))
      have n9_:=aM (lP (by repeat (first|(with_reducible first|exact HB.out|apply lA|apply lN|apply lD|refine lS ?_ (IsS62.ge HI0.out)|refine lS ?_ GE238.out|refine lS ?_ GE239.out)|exact HB.out)) hb)
      clear HO_240000
      clear HO_240001
      clear HO261
      clear BK238
      clear BK239
      clear HI0
      clear HK
      clear HB
      have HO_240000:=n0_
      have HO_240001:=n1_
      have HO261:=n2_
      have HO273:=n3_
      have HO276:=n4_
      have BK238:=n5_
      have BK239:=n6_
      have HI0:=n7_
      have HK:=n8_
      have HB:=n9_
      clear n0_ n1_ n2_ n3_ n4_ n5_ n6_ n7_ n8_ n9_
      (try clear hb)
      (try clear hb2)
      (try clear hk)
      (try clear hi)
      (try clear ho0)
      (try clear ho1)
      obtain ⟨Ao44,co44,eo44⟩:=Kd.R_slice HO273.out
      (first|subst eo44|(injection eo44 with f1_ f2_ f3_;have f4_:=f1_.symm;have f5_:=f3_.symm;clear f1_ f2_ f3_;subst f4_;subst f5_))
      obtain ⟨Ao46,co46,eo46⟩:=Kd.R_slice HO276.out
      (first|subst eo46|(injection eo46 with f1_ f2_ f3_;have f4_:=f1_.symm;have f5_:=f3_.symm;clear f1_ f2_ f3_;subst f4_;subst f5_))
      refine hK.out _ _ ⟨(bC BK239.out 0).trans rfl,(bC BK239.out 1).trans rfl,(bC BK239.out 2).trans rfl⟩ (fun hHeld => ?_)
      clear hK K
      refine norm_ (a':=?_) ?_ ?_
      rotate_left
      ·show Act.put _ (some 36) _ = _
       simp only [Act.put,q_ia6,q_cz6,q_cs6,i64_w,i32_w]
       rfl
      refine last_ (i:=9) (N:=none) #[bT,bT,bT,bT,bT,bT,bT,bT,bT,bT] rfl rfl (one_of HT_.out (by kernel_rfl)) (by decide) (fun K hK => ?_)
      have hs45 : w43.cell? ⟨gb239,0,none⟩ = some (.slice Ao41 x240000_1.length co41):=(bC BK239.out 0).trans rfl
      have hfs45:=bF BK239.out 0
      have hns45_0:=NB238_239.out
      have hms45_0:=NB239_238.out
      have hs47 : w43.cell? ⟨gb239,1,none⟩ = some (.slice Ao42 x240001_1.length co42):=(bC BK239.out 1).trans rfl
      have hfs47:=bF BK239.out 1
      have hns47_0:=NB238_239.out
      have hms47_0:=NB239_238.out
      have hs48 : w43.cell? ⟨gb239,2,none⟩ = some (.string x240002_1):=(bC BK239.out 2).trans rfl
      have hfs48:=bF BK239.out 2
      have hns48_0:=NB238_239.out
      have hms48_0:=NB239_238.out
      refine skip_ (w1:=?_) (by rfl) rfl ?_ ?_
      rotate_left
      ·go_simp
       rfl
      refine hK.out _ _ ?_
      clear hK K
      refine done_ (done_of HT_.out (by kernel_rfl)) ?_
      try go_wp2
      go_roundg k1
      case measure => have:=HK1.out;omega
      case rel => exact ⟨(wrap64 (x4_1 + 1)),(t269),(t270),(t271),(t274),(t277),(.slice Ao44 t271.length co44),(.slice Ao46 t274.length co46),(by first|rfl|(simp;done)|(simp [*];done)),H',⟨by have:=HK1.out;omega⟩,⟨by (with_reducible repeat (first|apply rA|apply rN|apply rD));exact Kd.R_mono (rF (rF (rF (rY HO273.out BK239.out (by decide)) (fun _ hk => hk.2) _) (fun _ hk => hk.2) _) (fun _ hk => hk.2) _) (fun _ hk => trivial)⟩,⟨by (with_reducible repeat (first|apply rA|apply rN|apply rD));exact Kd.R_mono (rF (rF (rF (rY HO276.out BK239.out (by decide)) (fun _ hk => hk.2) _) (fun _ hk => hk.2) _) (fun _ hk => hk.2) _) (fun _ hk => trivial)⟩,⟨by (with_reducible repeat (first|refine bN ?_ _|refine bD ?_|refine bA ?_ _));refine blk_far ?_ NB238_239.out _;(with_reducible repeat (first|refine bN ?_ _|refine bD ?_|refine bA ?_ _));refine blk_far ?_ NB238_239.out _;(with_reducible repeat (first|refine bN ?_ _|refine bD ?_|refine bA ?_ _));refine blk_far ?_ NB238_239.out _;(with_reducible repeat (first|refine bN ?_ _|refine bD ?_|refine bA ?_ _));exact BK238.out⟩,⟨by (with_reducible repeat (first|refine bN ?_ _|refine bD ?_|refine bA ?_ _));refine blk_put (cs:=#[.slice Ao44 t271.length co44,.slice Ao46 t274.length co46,.string x240002_1]) ?_ 2 _ rfl;(with_reducible repeat (first|refine bN ?_ _|refine bD ?_|refine bA ?_ _));refine blk_put (cs:=#[.slice Ao44 t271.length co44,.slice Ao42 x240001_1.length co42,.string x240002_1]) ?_ 1 _ rfl;(with_reducible repeat (first|refine bN ?_ _|refine bD ?_|refine bA ?_ _));refine blk_put (cs:=#[.slice Ao41 x240000_1.length co41,.slice Ao42 x240001_1.length co42,.string x240002_1]) ?_ 0 _ rfl;(with_reducible repeat (first|refine bN ?_ _|refine bD ?_|refine bA ?_ _));exact BK239.out⟩,⟨by repeat (first|(with_reducible first|exact HI0.out|apply IsS62.alloc|apply IsS62.drewN|apply IsS62.drew|apply IsS62.set_1|apply IsS62.set_2|refine IsS62.far ?_ NB0_238.out _|refine IsS62.far ?_ NB0_239.out _)|exact HI0.out)⟩,⟨by repeat (first|(with_reducible first|exact HK.out|apply KeepBut.set_|apply keep_drewN|apply keep_drew|apply keep_alloc|refine keep_far ?_ GW238.out _|refine keep_far ?_ GW239.out _)|exact HK.out)⟩,⟨by repeat (first|(with_reducible first|exact HB.out|apply lA|apply lN|apply lD|refine lS ?_ (IsS62.ge HI0.out)|refine lS ?_ GE238.out|refine lS ?_ GE239.out)|exact HB.out)⟩⟩
     ·rw [if_neg c27] at H
      have c27b0 : (t243 == 1) = false:=beq_eq_false_iff_ne.mpr c27
      have c27b1 : (t243 != 1) = true:=bne_iff_ne.mpr c27
      replace H:=Option.bind_eq_some_iff.mp H
      obtain ⟨⟨t278,t279,t280⟩,A490,H⟩:=H
      replace H : ((spec_Say.f x240000_1 x240001_1 x240002_1 t278).bind fun bt281 => (spec_l08Store.l0 k1 (wrap64 (x4_1 + 1)) s0_0 t279 t280 bt281.1 bt281.2.1 bt281.2.2)) = some (r1,r2,r3,r4,r5):=H
      have A49:=aM A490
      clear A490
      replace H:=Option.bind_eq_some_iff.mp H
      obtain ⟨⟨t281,t284,t287⟩,A500,H⟩:=H
      replace H : (spec_l08Store.l0 k1 (wrap64 (x4_1 + 1)) s0_0 t279 t280 t281 t284 t287) = some (r1,r2,r3,r4,r5):=H
      have A50:=aM A500
      clear A500
      have H':=aM H
      clear H
      try go_wp2_with (first|((with_reducible refine gate_callee (f:=24) rfl ?_);refine goesL_ (some 8) rfl rfl Try.func24 (by kernel_rfl) rfl #[.pointer (some ⟨g,0,none⟩),.int .i64 8] rfl (by (try simp only [List.map_toArray,List.map_cons,List.map_nil]);first|done|rfl|(simp only [List.length_drop,List.length_take];rfl)) ?_;(with_reducible refine (spec_l01Below.calls g s0_0 x1001_1 x1002_1 8 t240 t241 t242 w0 _ ?side1 ?side2 A7.out).mono ?_);(case side1 => repeat (first|(with_reducible first|exact HI0.out|apply IsS62.alloc|apply IsS62.drewN|apply IsS62.drew|apply IsS62.set_1|apply IsS62.set_2|refine IsS62.far ?_ NB0_238.out _|refine IsS62.far ?_ NB0_239.out _)|exact HI0.out));(case side2 => repeat (first|(with_reducible first|exact HB.out|apply lA|apply lN|apply lD|refine lS ?_ (IsS62.ge HI0.out)|refine lS ?_ GE238.out|refine lS ?_ GE239.out)|exact HB.out));rintro e w51 ⟨rfl,hi,hb,hk⟩;refine ⟨_,rfl,?_⟩;have n0_:=aM (Kd.R_mono (Kd.R_keep (IsS62.apart (show IsS62 w0 _ g s0_0 x1001_1 x1002_1 from by repeat (first|(with_reducible first|exact HI0.out|apply IsS62.alloc|apply IsS62.drewN|apply IsS62.drew|apply IsS62.set_1|apply IsS62.set_2|refine IsS62.far ?_ NB0_238.out _|refine IsS62.far ?_ NB0_239.out _)|exact HI0.out)) (rZ HO_240000.out) (by decide)) hk (fun _ h => h.2)) (fun _ h => h.1));have n1_:=aM (Kd.R_mono (Kd.R_keep (IsS62.apart (show IsS62 w0 _ g s0_0 x1001_1 x1002_1 from by repeat (first|(with_reducible first|exact HI0.out|apply IsS62.alloc|apply IsS62.drewN|apply IsS62.drew|apply IsS62.set_1|apply IsS62.set_2|refine IsS62.far ?_ NB0_238.out _|refine IsS62.far ?_ NB0_239.out _)|exact HI0.out)) (rZ HO_240001.out) (by decide)) hk (fun _ h => h.2)) (fun _ h => h.1));have n2_:=aM (KeepBut.blk hk (g':=gb238) (o:=.cells #[.slice none 0 0,.slice none 0 0,.string (⟨#[]⟩ : ByteArray)] 35 (0,0)) (by (with_reducible repeat (first|refine bN ?_ _|refine bD ?_|refine bA ?_ _));exact BK238.out) NB238_0.out (by simp));have n3_:=aM (KeepBut.blk hk (g':=gb239) (o:=.cells #[u240000,u240001,.string x240002_1] 35 (0,0)) (by (with_reducible repeat (first|refine bN ?_ _|refine bD ?_|refine bA ?_ _));exact BK239.out) NB239_0.out (by simp));have n4_:=aM (KeepBut.trans (by repeat (first|(with_reducible first|exact HK.out|apply KeepBut.set_|apply keep_drewN|apply keep_drew|apply keep_alloc|refine keep_far ?_ GW238.out _|refine keep_far ?_ GW239.out _)|exact HK.out)) hk (.inl rfl));have n5_:=aM (hb);have n6_:=aM (hi);clear HO_240000 HO_240001 BK238 BK239 HK HB HI0;have HO_240000:=n0_;have HO_240001:=n1_;have BK238:=n2_;have BK239:=n3_;have HK:=n4_;have HB:=n5_;have HI0:=n6_;clear n0_ n1_ n2_ n3_ n4_ n5_ n6_;(try clear hb);(try clear hb2);(try clear hk);(try clear hi))|((with_reducible refine gate_callee (f:=24) rfl ?_);refine goesL_ (some 13) rfl rfl Try.func24 (by kernel_rfl) rfl #[.pointer (some ⟨g,0,none⟩),.int .i64 3] rfl (by (try simp only [List.map_toArray,List.map_cons,List.map_nil]);first|done|rfl|(simp only [List.length_drop,List.length_take];rfl)) ?_;(with_reducible refine (spec_l01Below.calls g s0_0 t241 t242 3 t243 t244 t245 w0 _ ?side1 ?side2 A9.out).mono ?_);(case side1 => repeat (first|(with_reducible first|exact HI0.out|apply IsS62.alloc|apply IsS62.drewN|apply IsS62.drew|apply IsS62.set_1|apply IsS62.set_2|refine IsS62.far ?_ NB0_238.out _|refine IsS62.far ?_ NB0_239.out _)|exact HI0.out));(case side2 => repeat (first|(with_reducible first|exact HB.out|apply lA|apply lN|apply lD|refine lS ?_ (IsS62.ge HI0.out)|refine lS ?_ GE238.out|refine lS ?_ GE239.out)|exact HB.out));rintro e w52 ⟨rfl,hi,hb,hk⟩;refine ⟨_,rfl,?_⟩;have n0_:=aM (Kd.R_mono (Kd.R_keep (IsS62.apart (show IsS62 w0 _ g s0_0 t241 t242 from by repeat (first|(with_reducible first|exact HI0.out|apply IsS62.alloc|apply IsS62.drewN|apply IsS62.drew|apply IsS62.set_1|apply IsS62.set_2|refine IsS62.far ?_ NB0_238.out _|refine IsS62.far ?_ NB0_239.out _)|exact HI0.out)) (rZ HO_240000.out) (by decide)) hk (fun _ h => h.2)) (fun _ h => h.1));have n1_:=aM (Kd.R_mono (Kd.R_keep (IsS62.apart (show IsS62 w0 _ g s0_0 t241 t242 from by repeat (first|(with_reducible first|exact HI0.out|apply IsS62.alloc|apply IsS62.drewN|apply IsS62.drew|apply IsS62.set_1|apply IsS62.set_2|refine IsS62.far ?_ NB0_238.out _|refine IsS62.far ?_ NB0_239.out _)|exact HI0.out)) (rZ HO_240001.out) (by decide)) hk (fun _ h => h.2)) (fun _ h => h.1));have n2_:=aM (KeepBut.blk hk (g':=gb238) (o:=.cells #[.slice none 0 0,.slice none 0 0,.string (⟨#[]⟩ : ByteArray)] 35 (0,0)) (by (with_reducible repeat (first|refine bN ?_ _|refine bD ?_|refine bA ?_ _));exact BK238.out) NB238_0.out (by simp));have n3_:=aM (KeepBut.blk hk (g':=gb239) (o:=.cells #[u240000,u240001,.string x240002_1] 35 (0,0)) (by (with_reducible repeat (first|refine bN ?_ _|refine bD ?_|refine bA ?_ _));exact BK239.out) NB239_0.out (by simp));have n4_:=aM (KeepBut.trans (by repeat (first|(with_reducible first|exact HK.out|apply KeepBut.set_|apply keep_drewN|apply keep_drew|apply keep_alloc|refine keep_far ?_ GW238.out _|refine keep_far ?_ GW239.out _)|exact HK.out)) hk (.inl rfl));have n5_:=aM (hb);have n6_:=aM (hi);clear HO_240000 HO_240001 BK238 BK239 HK HB HI0;have HO_240000:=n0_;have HO_240001:=n1_;have BK238:=n2_;have BK239:=n3_;have HK:=n4_;have HB:=n5_;have HI0:=n6_;clear n0_ n1_ n2_ n3_ n4_ n5_ n6_;(try clear hb);(try clear hb2);(try clear hk);(try clear hi)))
      have n0_:=aM (rD HO_240000.out)
      have n1_:=aM (rD HO_240001.out)
      have n2_:=aM (bD BK238.out)
      have n3_:=aM (bD BK239.out)
      have n4_:=aM (IsS62.drew HI0.out)
      have n5_:=aM (keep_drew HK.out)
      have n6_:=aM (lD HB.out)
      clear HO_240000
      clear HO_240001
      clear BK238
      clear BK239
      clear HI0
      clear HK
      clear HB
      have HO_240000:=n0_
      have HO_240001:=n1_
      have BK238:=n2_
      have BK239:=n3_
      have HI0:=n4_
      have HK:=n5_
      have HB:=n6_
      clear n0_ n1_ n2_ n3_ n4_ n5_ n6_
      refine start_ (n:=5) (S:=fun w' => w'.cell? ⟨gb239,0,none⟩ = some (u240000) ∧ w'.cell? ⟨gb239,1,none⟩ = some (u240001) ∧ w'.cell? ⟨gb239,2,none⟩ = some (.string x240002_1)) (ds:=[4]) #[bf,bf,bf,bf,bf] (by kernel_rfl) rfl rfl ⟨(bC BK239.out 0).trans rfl,(bC BK239.out 1).trans rfl,(bC BK239.out 2).trans rfl⟩ (fun hHeld => ?_)
      generalize w52.drew = w53 at HO_240000 HO_240001 BK238 BK239 HI0 HK HB hHeld ⊢
      refine pure_ (i:=1) (N:=some 15) (v:=?_) (a':=?_) #[bf,bT,bf,bf,bf] rfl rfl (by kernel_rfl) (fun _ _ _ h => h) (Or.inl ⟨by rfl,?_⟩) ?_ ?_
      rotate_left
      ·intro w';go_simp;with_reducible rfl
      rotate_left
      ·simp only [Act.put,q_ia6,q_cz6,q_cs6,i64_w,i32_w];rfl
      refine take_ (i:=0) (N:=some 14) (v:=?_) (a':=?_) #[bT,bT,bf,bf,bf] rfl rfl (by kernel_rfl) (fun _ _ _ h => h) (Or.inl ⟨by rfl,?_⟩) hHeld ?_ ?_
      rotate_left
      ·rintro w' ⟨s0,s1,s2⟩
       go_simp
       with_reducible rfl
      rotate_left
      ·simp only [Act.put,q_ia6,q_cz6,q_cs6,i64_w,i32_w];rfl
      refine one_ (i:=2) (N:=some 16) #[bT,bT,bT,bf,bf] rfl rfl (by kernel_rfl) (by decide) (fun K hK => ?_)
      refine goes_ Try.func31 (by kernel_rfl) rfl #[.pointer (some ⟨g,0,none⟩)] (by rfl) rfl rfl (by (try simp only [List.map_toArray,List.map_cons,List.map_nil]);first|done|rfl|(simp only [List.length_drop,List.length_take];rfl)) ?_
      with_reducible refine (spec_l03Val.calls g s0_0 t244 t245 t278 t279 t280 w0 _ ?side1 ?side2 A49.out).mono ?_
      (case side1 => repeat (first|(with_reducible first|exact HI0.out|apply IsS62.alloc|apply IsS62.drewN|apply IsS62.drew|apply IsS62.set_1|apply IsS62.set_2|refine IsS62.far ?_ NB0_238.out _|refine IsS62.far ?_ NB0_239.out _)|exact HI0.out))
      (case side2 => repeat (first|(with_reducible first|exact HB.out|apply lA|apply lN|apply lD|refine lS ?_ (IsS62.ge HI0.out)|refine lS ?_ GE238.out|refine lS ?_ GE239.out)|exact HB.out))
      rintro e w54 ⟨rfl,hi,hb,hk⟩
      refine ⟨_,rfl,?_⟩
      have n0_:=aM (Kd.R_mono (Kd.R_keep (IsS62.apart (show IsS62 w0 _ g s0_0 t244 t245 from by repeat (first|(with_reducible first|exact HI0.out|apply IsS62.alloc|apply IsS62.drewN|apply IsS62.drew|apply IsS62.set_1|apply IsS62.set_2|refine IsS62.far ?_ NB0_238.out _|refine IsS62.far ?_ NB0_239.out _)|exact HI0.out)) (rZ HO_240000.out) (by decide)) hk (fun _ h => h.2)) (fun _ h => h.1))
      have n1_:=aM (Kd.R_mono (Kd.R_keep (IsS62.apart (show IsS62 w0 _ g s0_0 t244 t245 from by repeat (first|(with_reducible first|exact HI0.out|apply IsS62.alloc|apply IsS62.drewN|apply IsS62.drew|apply IsS62.set_1|apply IsS62.set_2|refine IsS62.far ?_ NB0_238.out _|refine IsS62.far ?_ NB0_239.out _)|exact HI0.out)) (rZ HO_240001.out) (by decide)) hk (fun _ h => h.2)) (fun _ h => h.1))
      have n2_:=aM (KeepBut.blk hk (g':=gb238) (o:=.cells #[.slice none 0 0,.slice none 0 0,.string (⟨#[]⟩ : ByteArray)] 35 (0,0)) (by (with_reducible repeat (first|refine bN ?_ _|refine bD ?_|refine bA ?_ _));exact BK238.out) NB238_0.out (by simp))
      have n3_:=aM (KeepBut.blk hk (g':=gb239) (o:=.cells #[u240000,u240001,.string x240002_1] 35 (0,0)) (by (with_reducible repeat (first|refine bN ?_ _|refine bD ?_|refine bA ?_ _));exact BK239.out) NB239_0.out (by simp))
      have n4_:=aM (KeepBut.trans (by repeat (first|(with_reducible first|exact HK.out|apply KeepBut.set_|apply keep_drewN|apply keep_drew|apply keep_alloc|refine keep_far ?_ GW238.out _|refine keep_far ?_ GW239.out _)|exact HK.out)) hk (.inl rfl))
      have n5_:=aM (hb)
      have n6_:=aM (hi)
      clear HO_240000
      clear HO_240001
      clear BK238
      clear BK239
      clear HK
      clear HB
      clear HI0
      have HO_240000:=n0_
      have HO_240001:=n1_
      have BK238:=n2_
      have BK239:=n3_
      have HK:=n4_
      have HB:=n5_
      have HI0:=n6_
      clear n0_ n1_ n2_ n3_ n4_ n5_ n6_
      (try clear hb)
      (try clear hb2)
      (try clear hk)
      (try clear hi)
      obtain ⟨Ao55,co55,eo55⟩:=Kd.R_slice HO_240000.out
      (first|subst eo55|(injection eo55 with f1_ f2_ f3_;have f4_:=f1_.symm;have f5_:=f3_.symm;clear f1_ f2_ f3_;subst f4_;subst f5_))
      obtain ⟨Ao56,co56,eo56⟩:=Kd.R_slice HO_240001.out
      (first|subst eo56|(injection eo56 with f1_ f2_ f3_;have f4_:=f1_.symm;have f5_:=f3_.symm;clear f1_ f2_ f3_;subst f4_;subst f5_))
      refine hK.out _ _ ⟨(bC BK239.out 0).trans rfl,(bC BK239.out 1).trans rfl,(bC BK239.out 2).trans rfl⟩ (fun hHeld => ?_)
      clear hK K
      refine norm_ (a':=?_) ?_ ?_
      rotate_left
      ·show Act.put _ (some 16) _ = _
       simp only [Act.put,q_ia6,q_cz6,q_cs6,i64_w,i32_w]
       rfl
      refine one_ (i:=3) (N:=some 17) #[bT,bT,bT,bT,bf] rfl rfl (by kernel_rfl) (by decide) (fun K hK => ?_)
      refine goes_ Try.func40 (by kernel_rfl) rfl #[.agg #[.slice Ao55 x240000_1.length co55,.slice Ao56 x240001_1.length co56,.string x240002_1],.string t278] (by rfl) rfl rfl (by (try simp only [List.map_toArray,List.map_cons,List.map_nil]);first|done|rfl|(simp only [List.length_drop,List.length_take];rfl)) ?_
      with_reducible refine (spec_Say.calls _ _ x240000_1 _ _ x240001_1 x240002_1 t278 t281 t284 t287 _ ?side1 ?side2 ?side3 ?side4 A50.out).mono ?_
      (case side1 => repeat (first|exact (rR HO_240000.out).2.2|(with_reducible first|refine cA ?_ _|refine cN ?_ _|refine cD ?_)))
      (case side2 => exact (rR HO_240000.out).2.1)
      (case side3 => repeat (first|exact (rR HO_240001.out).2.2|(with_reducible first|refine cA ?_ _|refine cN ?_ _|refine cD ?_)))
      (case side4 => exact (rR HO_240001.out).2.1)
      rintro e w57 ⟨v282,v285,rfl,ho0,ho1,hb⟩
      refine ⟨_,rfl,?_⟩
      have n0_:=aM (rE (rZ HO_240000.out) (rS ho0) hb)
      have n1_:=aM (rE (rZ HO_240001.out) (rS ho1) hb)
      have n2_:=aM (rL (rW ho0 (rT (rZ HO_240000.out))) (keep_size (w:=w) (g:=g) (row:=none) (by repeat (first|(with_reducible first|exact HK.out|apply KeepBut.set_|apply keep_drewN|apply keep_drew|apply keep_alloc|refine keep_far ?_ GW238.out _|refine keep_far ?_ GW239.out _)|exact HK.out))))
      have n3_:=aM (rL (rW ho1 (rT (rZ HO_240001.out))) (keep_size (w:=w) (g:=g) (row:=none) (by repeat (first|(with_reducible first|exact HK.out|apply KeepBut.set_|apply keep_drewN|apply keep_drew|apply keep_alloc|refine keep_far ?_ GW238.out _|refine keep_far ?_ GW239.out _)|exact HK.out))))
      have n4_:=aM (bH BK238.out hb)
      have n5_:=aM (bH BK239.out hb)
      have n6_:=aM (IsS62.below (by repeat (first|(with_reducible first|exact HI0.out|apply IsS62.alloc|apply IsS62.drewN|apply IsS62.drew|apply IsS62.set_1|apply IsS62.set_2|refine IsS62.far ?_ NB0_238.out _|refine IsS62.far ?_ NB0_239.out _)|exact HI0.out)) hb)
      have n7_:=aM (KeepBut.trans (by repeat (first|(with_reducible first|exact HK.out|apply KeepBut.set_|apply keep_drewN|apply keep_drew|apply keep_alloc|refine keep_far ?_ GW238.out _|refine keep_far ?_ GW239.out _)|exact HK.out)) (KeepBut.of_below hb g none) (.inl rfl))
      have n8_:=aM (lP (by repeat (first|(with_reducible first|exact HB.out|apply lA|apply lN|apply lD|refine lS ?_ (IsS62.ge HI0.out)|refine lS ?_ GE238.out|refine lS ?_ GE239.out)|exact HB.out)) hb)
      clear HO_240000
      clear HO_240001
      clear BK238
      clear BK239
      clear HI0
      clear HK
      clear HB
      have HO_240000:=n0_
      have HO_240001:=n1_
      have HO283:=n2_
      have HO286:=n3_
      have BK238:=n4_
      have BK239:=n5_
      have HI0:=n6_
      have HK:=n7_
      have HB:=n8_
      clear n0_ n1_ n2_ n3_ n4_ n5_ n6_ n7_ n8_
      (try clear hb)
      (try clear hb2)
      (try clear hk)
      (try clear hi)
      (try clear ho0)
      (try clear ho1)
      obtain ⟨Ao58,co58,eo58⟩:=Kd.R_slice HO283.out
      (first|subst eo58|(injection eo58 with f1_ f2_ f3_;have f4_:=f1_.symm;have f5_:=f3_.symm;clear f1_ f2_ f3_;subst f4_;subst f5_))
      obtain ⟨Ao60,co60,eo60⟩:=Kd.R_slice HO286.out
      (first|subst eo60|(injection eo60 with f1_ f2_ f3_;have f4_:=f1_.symm;have f5_:=f3_.symm;clear f1_ f2_ f3_;subst f4_;subst f5_))
      refine hK.out _ _ ⟨(bC BK239.out 0).trans rfl,(bC BK239.out 1).trans rfl,(bC BK239.out 2).trans rfl⟩ (fun hHeld => ?_)
      clear hK K
      refine norm_ (a':=?_) ?_ ?_
      rotate_left
      ·show Act.put _ (some 17) _ = _
       simp only [Act.put,q_ia6,q_cz6,q_cs6,i64_w,i32_w]
       rfl
      refine last_ (i:=4) (N:=none) #[bT,bT,bT,bT,bT] rfl rfl (by kernel_rfl) (by decide) (fun K hK => ?_)
      have hs59 : w57.cell? ⟨gb239,0,none⟩ = some (.slice Ao55 x240000_1.length co55):=(bC BK239.out 0).trans rfl
      have hfs59:=bF BK239.out 0
      have hns59_0:=NB238_239.out
      have hms59_0:=NB239_238.out
      have hs61 : w57.cell? ⟨gb239,1,none⟩ = some (.slice Ao56 x240001_1.length co56):=(bC BK239.out 1).trans rfl
      have hfs61:=bF BK239.out 1
      have hns61_0:=NB238_239.out
      have hms61_0:=NB239_238.out
      have hs62 : w57.cell? ⟨gb239,2,none⟩ = some (.string x240002_1):=(bC BK239.out 2).trans rfl
      have hfs62:=bF BK239.out 2
      have hns62_0:=NB238_239.out
      have hms62_0:=NB239_238.out
      refine skip_ (w1:=?_) (by rfl) rfl ?_ ?_
      rotate_left
      ·go_simp
       rfl
      refine hK.out _ _ ?_
      clear hK K
      refine done_ (by kernel_rfl) ?_
      try go_wp2
      go_roundg k1
      case measure => have:=HK1.out;omega
      case rel => exact ⟨(wrap64 (x4_1 + 1)),(t279),(t280),(t281),(t284),(t287),(.slice Ao58 t281.length co58),(.slice Ao60 t284.length co60),(by first|rfl|(simp;done)|(simp [*];done)),H',⟨by have:=HK1.out;omega⟩,⟨by (with_reducible repeat (first|apply rA|apply rN|apply rD));exact Kd.R_mono (rF (rF (rF (rY HO283.out BK239.out (by decide)) (fun _ hk => hk.2) _) (fun _ hk => hk.2) _) (fun _ hk => hk.2) _) (fun _ hk => trivial)⟩,⟨by (with_reducible repeat (first|apply rA|apply rN|apply rD));exact Kd.R_mono (rF (rF (rF (rY HO286.out BK239.out (by decide)) (fun _ hk => hk.2) _) (fun _ hk => hk.2) _) (fun _ hk => hk.2) _) (fun _ hk => trivial)⟩,⟨by (with_reducible repeat (first|refine bN ?_ _|refine bD ?_|refine bA ?_ _));refine blk_far ?_ NB238_239.out _;(with_reducible repeat (first|refine bN ?_ _|refine bD ?_|refine bA ?_ _));refine blk_far ?_ NB238_239.out _;(with_reducible repeat (first|refine bN ?_ _|refine bD ?_|refine bA ?_ _));refine blk_far ?_ NB238_239.out _;(with_reducible repeat (first|refine bN ?_ _|refine bD ?_|refine bA ?_ _));exact BK238.out⟩,⟨by (with_reducible repeat (first|refine bN ?_ _|refine bD ?_|refine bA ?_ _));refine blk_put (cs:=#[.slice Ao58 t281.length co58,.slice Ao60 t284.length co60,.string x240002_1]) ?_ 2 _ rfl;(with_reducible repeat (first|refine bN ?_ _|refine bD ?_|refine bA ?_ _));refine blk_put (cs:=#[.slice Ao58 t281.length co58,.slice Ao56 x240001_1.length co56,.string x240002_1]) ?_ 1 _ rfl;(with_reducible repeat (first|refine bN ?_ _|refine bD ?_|refine bA ?_ _));refine blk_put (cs:=#[.slice Ao55 x240000_1.length co55,.slice Ao56 x240001_1.length co56,.string x240002_1]) ?_ 0 _ rfl;(with_reducible repeat (first|refine bN ?_ _|refine bD ?_|refine bA ?_ _));exact BK239.out⟩,⟨by repeat (first|(with_reducible first|exact HI0.out|apply IsS62.alloc|apply IsS62.drewN|apply IsS62.drew|apply IsS62.set_1|apply IsS62.set_2|refine IsS62.far ?_ NB0_238.out _|refine IsS62.far ?_ NB0_239.out _)|exact HI0.out)⟩,⟨by repeat (first|(with_reducible first|exact HK.out|apply KeepBut.set_|apply keep_drewN|apply keep_drew|apply keep_alloc|refine keep_far ?_ GW238.out _|refine keep_far ?_ GW239.out _)|exact HK.out)⟩,⟨by repeat (first|(with_reducible first|exact HB.out|apply lA|apply lN|apply lD|refine lS ?_ (IsS62.ge HI0.out)|refine lS ?_ GE238.out|refine lS ?_ GE239.out)|exact HB.out)⟩⟩
   ·rw [if_neg c8] at H
    have c8b0 : decide (x4_1 < t240) = false:=decide_eq_false c8
    clear c8
    simp only [Option.some.injEq,Prod.mk.injEq] at H
    obtain ⟨rfl,rfl,rfl,rfl,rfl⟩:=H
    go_wp2_with (first|((with_reducible refine gate_callee (f:=24) rfl ?_);refine goesL_ (some 8) rfl rfl Try.func24 (by kernel_rfl) rfl #[.pointer (some ⟨g,0,none⟩),.int .i64 8] rfl (by (try simp only [List.map_toArray,List.map_cons,List.map_nil]);first|done|rfl|(simp only [List.length_drop,List.length_take];rfl)) ?_;(with_reducible refine (spec_l01Below.calls g s0_0 x1001_1 x1002_1 8 t240 t241 t242 w0 _ ?side1 ?side2 A7.out).mono ?_);(case side1 => repeat (first|(with_reducible first|exact HI0.out|apply IsS62.alloc|apply IsS62.drewN|apply IsS62.drew|apply IsS62.set_1|apply IsS62.set_2|refine IsS62.far ?_ NB0_238.out _|refine IsS62.far ?_ NB0_239.out _)|exact HI0.out));(case side2 => repeat (first|(with_reducible first|exact HB.out|apply lA|apply lN|apply lD|refine lS ?_ (IsS62.ge HI0.out)|refine lS ?_ GE238.out|refine lS ?_ GE239.out)|exact HB.out));rintro e w63 ⟨rfl,hi,hb,hk⟩;refine ⟨_,rfl,?_⟩;have n0_:=aM (Kd.R_mono (Kd.R_keep (IsS62.apart (show IsS62 w0 _ g s0_0 x1001_1 x1002_1 from by repeat (first|(with_reducible first|exact HI0.out|apply IsS62.alloc|apply IsS62.drewN|apply IsS62.drew|apply IsS62.set_1|apply IsS62.set_2|refine IsS62.far ?_ NB0_238.out _|refine IsS62.far ?_ NB0_239.out _)|exact HI0.out)) (rZ HO_240000.out) (by decide)) hk (fun _ h => h.2)) (fun _ h => h.1));have n1_:=aM (Kd.R_mono (Kd.R_keep (IsS62.apart (show IsS62 w0 _ g s0_0 x1001_1 x1002_1 from by repeat (first|(with_reducible first|exact HI0.out|apply IsS62.alloc|apply IsS62.drewN|apply IsS62.drew|apply IsS62.set_1|apply IsS62.set_2|refine IsS62.far ?_ NB0_238.out _|refine IsS62.far ?_ NB0_239.out _)|exact HI0.out)) (rZ HO_240001.out) (by decide)) hk (fun _ h => h.2)) (fun _ h => h.1));have n2_:=aM (KeepBut.blk hk (g':=gb238) (o:=.cells #[.slice none 0 0,.slice none 0 0,.string (⟨#[]⟩ : ByteArray)] 35 (0,0)) (by (with_reducible repeat (first|refine bN ?_ _|refine bD ?_|refine bA ?_ _));exact BK238.out) NB238_0.out (by simp));have n3_:=aM (KeepBut.blk hk (g':=gb239) (o:=.cells #[u240000,u240001,.string x240002_1] 35 (0,0)) (by (with_reducible repeat (first|refine bN ?_ _|refine bD ?_|refine bA ?_ _));exact BK239.out) NB239_0.out (by simp));have n4_:=aM (KeepBut.trans (by repeat (first|(with_reducible first|exact HK.out|apply KeepBut.set_|apply keep_drewN|apply keep_drew|apply keep_alloc|refine keep_far ?_ GW238.out _|refine keep_far ?_ GW239.out _)|exact HK.out)) hk (.inl rfl));have n5_:=aM (hb);have n6_:=aM (hi);clear HO_240000 HO_240001 BK238 BK239 HK HB HI0;have HO_240000:=n0_;have HO_240001:=n1_;have BK238:=n2_;have BK239:=n3_;have HK:=n4_;have HB:=n5_;have HI0:=n6_;clear n0_ n1_ n2_ n3_ n4_ n5_ n6_;(try clear hb);(try clear hb2);(try clear hk);(try clear hi);have hnb64:=NB239_238.out;have hnc64:=NB238_239.out;have hnb65:=NB239_0.out;have hnc65:=NB0_239.out;obtain ⟨⟨hcz66_0,hcz66_1,hcz66_2⟩,hfz66_0,hfz66_1,hfz66_2⟩:=bC3 BK239.out;obtain ⟨Ao67,co67,eo67⟩:=Kd.R_slice HO_240000.out;subst eo67;have hnb68:=NB238_0.out;have hnc68:=NB0_238.out;obtain ⟨⟨hcz69_0,hcz69_1,hcz69_2⟩,hfz69_0,hfz69_1,hfz69_2⟩:=bC3 BK238.out;obtain ⟨Ao70,co70,eo70⟩:=Kd.R_slice HO_240001.out;subst eo70))
    refine bodyPost_ret (results_cell_row rfl _ _ gb238 35 #[.slice Ao67 x240000_1.length co67,.slice Ao70 x240001_1.length co70,.string x240002_1] (0,0) _ rfl (by (with_reducible repeat (first|refine bN ?_ _|refine bD ?_|refine bA ?_ _));refine blk_put (cs:=#[.slice Ao67 x240000_1.length co67,.slice Ao70 x240001_1.length co70,.string (⟨#[]⟩ : ByteArray)]) ?_ 2 _ rfl;(with_reducible repeat (first|refine bN ?_ _|refine bD ?_|refine bA ?_ _));refine blk_put (cs:=#[.slice Ao67 x240000_1.length co67,.slice none 0 0,.string (⟨#[]⟩ : ByteArray)]) ?_ 1 _ rfl;(with_reducible repeat (first|refine bN ?_ _|refine bD ?_|refine bA ?_ _));refine blk_put (cs:=#[.slice none 0 0,.slice none 0 0,.string (⟨#[]⟩ : ByteArray)]) ?_ 0 _ rfl;(with_reducible repeat (first|refine bN ?_ _|refine bD ?_|refine bA ?_ _));exact BK238.out) Try.underlying35 rfl (by kernel_rfl)) rfl ?_
    exact ⟨_,_,by first|rfl|(simp [errW_none,errW_some] <;> rfl)|(simp [*,errW_none,errW_some] <;> rfl),by (with_reducible repeat (first|apply rA|apply rN|apply rD));exact Kd.R_mono (rF (rF (rF (rY HO_240000.out BK238.out (by decide)) (fun _ hk => hk.2) _) (fun _ hk => hk.2) _) (fun _ hk => hk.2) _) (fun _ hk => trivial),by (with_reducible repeat (first|apply rA|apply rN|apply rD));exact Kd.R_mono (rF (rF (rF (rY HO_240001.out BK238.out (by decide)) (fun _ hk => hk.2) _) (fun _ hk => hk.2) _) (fun _ hk => hk.2) _) (fun _ hk => trivial),by repeat (first|(with_reducible first|exact HI0.out|apply IsS62.alloc|apply IsS62.drewN|apply IsS62.drew|apply IsS62.set_1|apply IsS62.set_2|refine IsS62.far ?_ NB0_238.out _|refine IsS62.far ?_ NB0_239.out _)|exact HI0.out),by repeat (first|(with_reducible first|exact HB.out|apply lA|apply lN|apply lD|refine lS ?_ (IsS62.ge HI0.out)|refine lS ?_ GE238.out|refine lS ?_ GE239.out)|exact HB.out),by repeat (first|(with_reducible first|exact HK.out|apply KeepBut.set_|apply keep_drewN|apply keep_drew|apply keep_alloc|refine keep_far ?_ GW238.out _|refine keep_far ?_ GW239.out _)|exact HK.out)⟩

end Go.Proofs.Ytekngkljphlliaa.QFnSays
