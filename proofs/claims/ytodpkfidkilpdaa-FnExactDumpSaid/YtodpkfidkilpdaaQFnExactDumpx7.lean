-- A text of this session, made by wip/own_print.py (the kit's print with additions of ours).
import Derived.Test.YtodpkfidkilpdaaQFnExactDumpx0
import Derived.Test.YtodpkfidkilpdaaQFnExactDumpx6
namespace Go.Proofs.Ytodpkfidkilpdaa.QFnExactDump
open Go.RowKit Go.Proofs.YtodpkfidkilpdaaW.PrintWords Go.Proofs.YtodpkfidkilpdaaW.PrintLast Go.Proofs.YtodpkfidkilpdaaW.PrintMore
attribute [local go_sem] max2_int min2_int max_two min_two max_three min_three max_four min_four   -- for this text's walks alone
set_option linter.unusedVariables false
set_option linter.unusedSimpArgs false
open Bool renaming true → bT, false → bf
open Go.Proofs.YtodpkfidkilpdaaW.PrintWords.Kd renaming R_alloc → rA, R_drewN → rN, R_drew → rD, C_alloc → cA, C_drewN → cN, C_drew → cD, R_far → rF, R_below → rB, R_lower → rL, R_lt → rT, R_base → rS, C_below → cB, R_types → rY, R_elder' → rE, R_reads' → rR, R_new' → rW
open Go.Proofs.YtodpkfidkilpdaaW.PrintWords renaming blk_drewN → bN, blk_drew → bD, blk_alloc → bA, below_set → lS, pw_below_drewN → lN, below_drew1 → lD, below_alloc → lA, blk_cell → bC, blk_below → bB, below_size → lZ, below_step → lP, blk_lt → bL, blk_frozen → bF
open Go.Proofs.YtodpkfidkilpdaaW.PrintWords.Aside0 renaming mk → aM
theorem q_ia7 {α : Type} (l : List α) (i : Nat) (a : α) : l.toArray.setIfInBounds i a = (l.set i a).toArray := List.setIfInBounds_toArray ..
theorem q_cz7 {α : Type} (a b : α) (l : List α) : (a :: l).set 0 b = b :: l := rfl
theorem q_cs7 {α : Type} (a b : α) (l : List α) (n : Nat) : (a :: l).set (n + 1) b = a :: l.set n b := rfl

/-! ### spec_Dump: function 26 -/
def spec_Dump.l0 : Nat → ByteArray → Int → List (S53) → List (S57) → ByteArray → List (S53) → List (S57) → ByteArray → Option ((List (S53)) × (List (S57)) × ByteArray)
 | 0, _, _, _, _, _, _, _, _ => none
 | k + 1, x1, x6, x200000, x200001, x200002, x209000, x209001, x209002 => if x6 < (x200001.length : Int) then (if 0 ≤ x6 then (if ((rd_T57 x200001 x6).f0).toList = x1.toList then (if x209002.size + ((rd_T57 x200001 x6).f1).size ≤ 9223372036854775807 then (if (x209002 ++ ((rd_T57 x200001 x6).f1)).size + 1 ≤ 9223372036854775807 then (if ((x209002 ++ ((rd_T57 x200001 x6).f1)) ++ (⟨#[32]⟩ : ByteArray)).size + ((rd_T57 x200001 x6).f2).size ≤ 9223372036854775807 then (if (((x209002 ++ ((rd_T57 x200001 x6).f1)) ++ (⟨#[32]⟩ : ByteArray)) ++ ((rd_T57 x200001 x6).f2)).size + 1 ≤ 9223372036854775807 then ((spec_l08Out.f ((((x209002 ++ ((rd_T57 x200001 x6).f1)) ++ (⟨#[32]⟩ : ByteArray)) ++ ((rd_T57 x200001 x6).f2)) ++ (⟨#[10]⟩ : ByteArray))).bind fun t212 => (spec_Dump.l0 k x1 (wrap64 (x6 + 1)) x200000 x200001 x200002 x209000 x209001 t212)) else (none)) else (none)) else (none)) else (none)) else (spec_Dump.l0 k x1 (wrap64 (x6 + 1)) x200000 x200001 x200002 x209000 x209001 x209002)) else (none)) else (some (x209000, x209001, x209002))
def spec_Dump.f (k : Nat) (l0_0 : List (S53)) (l0_1 : List (S57)) (a0_2 : ByteArray) (a1 : ByteArray) : Option ((List (S53)) × (List (S57)) × ByteArray) := (spec_l08Copy.f l0_0 l0_1 a0_2).bind fun bt201 => (spec_Dump.l0 k a1 0 l0_0 l0_1 a0_2 bt201.1 bt201.2.1 bt201.2.2)
theorem spec_Dump.mono_l : ∀ k, (∀ y0 y1 y2 y3 y4 y5 y6 y7, LeO (spec_Dump.l0 k y0 y1 y2 y3 y4 y5 y6 y7) (spec_Dump.l0 (k + 1) y0 y1 y2 y3 y4 y5 y6 y7))
 | 0 => fun _ _ _ _ _ _ _ _ r h => by simp [spec_Dump.l0] at h
 | k + 1 => by
  have ih0 := spec_Dump.mono_l k
  ·intro y0 y1 y2 y3 y4 y5 y6 y7
   unfold spec_Dump.l0
   repeat' first
   | (with_reducible exact ih0 _ _ _ _ _ _ _ _)
   | (with_reducible exact LeO.refl _)
   | (with_reducible exact LeO.none _)
   | (with_reducible refine LeO.ite ?_ ?_)
   | (with_reducible refine LeO.bind ?_ (fun _ => ?_))
   | exact ih0 _ _ _ _ _ _ _ _
   | exact LeO.none _
   | refine LeO.ite ?_ ?_
   | refine LeO.bind ?_ (fun _ => ?_)
theorem spec_Dump.mono : ∀ a0 a1 a2 a3 k, LeO (spec_Dump.f k a0 a1 a2 a3) (spec_Dump.f (k + 1) a0 a1 a2 a3) := by
 intro a0 a1 a2 a3 k
 have ih0 := spec_Dump.mono_l k
 unfold spec_Dump.f
 repeat' first
   | (with_reducible exact ih0 _ _ _ _ _ _ _ _)
   | (with_reducible exact LeO.refl _)
   | (with_reducible exact LeO.none _)
   | (with_reducible refine LeO.ite ?_ ?_)
   | (with_reducible refine LeO.bind ?_ (fun _ => ?_))
   | exact ih0 _ _ _ _ _ _ _ _
   | exact LeO.none _
   | refine LeO.ite ?_ ?_
   | refine LeO.bind ?_ (fun _ => ?_)
def spec_Dump.T6 : Bool × List (List Nat × List Nat) := (true, [([], []), ([0], [0]), ([], []), ([2], [2]), ([], []), ([3, 4], [3, 4]), ([5], [5]), ([6], [6]), ([1, 7], [1, 7]), ([8], [8]), ([], []), ([10], [10]), ([], []), ([11, 12], [11, 12]), ([13], [13]), ([14], [14]), ([9, 15], [9, 15]), ([16], [16]), ([17], [17]), ([0, 1, 2, 3, 4, 5, 6, 7, 8, 9, 10, 11, 12, 13, 14, 15, 16, 17, 18], []), ([19, 18, 18, 0, 1, 2, 3, 4, 5, 6, 7, 8, 9, 10, 11, 12, 13, 14, 15, 16, 17, 18], [18, 19])])
def spec_Dump.B6 : List Nat := [0, 1, 0, 4, 0, 28, 60, 124, 255, 511, 0, 1024, 0, 7168, 15360, 31744, 65535, 131071, 262143, 524287, 1048575]
theorem spec_Dump.tab6 : rtab .any (opsOf Try.f26 6) = spec_Dump.T6 := by kernel_rfl
theorem spec_Dump.bits6 : waitsOk spec_Dump.T6.2 spec_Dump.B6 = true := by kernel_rfl
set_option maxHeartbeats 8000000 in
set_option maxRecDepth 100000 in
theorem spec_Dump.calls (k : Nat) (A0_0 : Option Addr) (c0_0 : Nat) (l0_0 : List (S53)) (A0_1 : Option Addr) (c0_1 : Nat) (l0_1 : List (S57)) (a0_2 : ByteArray) (a1 : ByteArray) (r1 : List (S53)) (r2 : List (S57)) (r3 : ByteArray) (w : World) (hr0_0 : Kd.C k53 w A0_0 l0_0.length l0_0) (hc0_0 : l0_0.length ≤ c0_0) (hr0_1 : Kd.C k57 w A0_1 l0_1.length l0_1) (hc0_1 : l0_1.length ≤ c0_1) (h : spec_Dump.f k l0_0 l0_1 a0_2 a1 = some (r1,r2,r3)) :
  Calls Try.prog 26 #[.agg #[.slice A0_0 l0_0.length c0_0,.slice A0_1 l0_1.length c0_1,.string a0_2],.string a1] w fun e w' => ∃ v0_ v1_ : Value,e = .returned (.agg #[v0_,v1_,.string r3]) ∧ Kd.R k53 53 w' w.heap.size (fun _ => True) v0_ r1 ∧ Kd.R k57 57 w' w.heap.size (fun _ => True) v1_ r2 ∧ Below w.heap.size w w':=by
 have hu38:=Try.underlying38
 have HR0_0:=aM hr0_0
 have HC0_0:=aM hc0_0
 clear hr0_0 hc0_0
 have HR0_1:=aM hr0_1
 have HC0_1:=aM hc0_1
 clear hr0_1 hc0_1
 have HB:=aM (Below.refl w.heap.size w)
 have H : ((spec_l08Copy.f l0_0 l0_1 a0_2).bind fun bt201 => (spec_Dump.l0 k a1 0 l0_0 l0_1 a0_2 bt201.1 bt201.2.1 bt201.2.2)) = some (r1,r2,r3):=h
 clear h
 replace H:=Option.bind_eq_some_iff.mp H
 obtain ⟨⟨t201,t204,t207⟩,A30,H⟩:=H
 replace H : (spec_Dump.l0 k a1 0 l0_0 l0_1 a0_2 t201 t204 t207) = some (r1,r2,r3):=H
 have A3:=aM A30
 clear A30
 have H':=aM H
 clear H
 go_enter Try.func26,Try.ntmps26
 go_wp2_with (first|((with_reducible refine gate_dst (N:=2) rfl ?_);refine box_event ?hg (N:=2) ?hd (cs:=#[.slice A0_0 l0_0.length c0_0,.slice A0_1 l0_1.length c0_1,.string a0_2]) (t:=38) ?hr ?_;(case hd => rfl);(case hg => rfl);(case hr => first|(go_simp;done)|(go_simp;rfl));intro gb199 hg w4 hbox hb;have n0_:=aM (lP (by repeat (first|(with_reducible first|exact HB.out|apply lA|apply lN|apply lD)|exact HB.out)) hb);have n1_:=aM (hbox);have n2_:=aM ((by rw [hg];exact (lZ (by repeat (first|(with_reducible first|exact HB.out|apply lA|apply lN|apply lD)|exact HB.out))) : w.heap.size ≤ gb199));have n3_:=aM ((by rw [hg];exact (lZ (by repeat (first|(with_reducible first|exact HB.out|apply lA|apply lN|apply lD)|exact HB.out))) : w.heap.size ≤ gb199));clear HB;have HB:=n0_;have BK199:=n1_;have GW199:=n2_;have GE199:=n3_;clear n0_ n1_ n2_ n3_ hb hbox hg)|((with_reducible refine gate_dst (N:=4) rfl ?_);refine box_event ?hg (N:=4) ?hd (cs:=#[.slice none 0 0,.slice none 0 0,.string (⟨#[]⟩ : ByteArray)]) (t:=38) ?hr ?_;(case hd => rfl);(case hg => rfl);(case hr => first|(go_simp;done)|(go_simp;rfl));intro gb200 hg w5 hbox hb;have n0_:=aM (bB (g:=gb199) (o:=.cells #[.slice A0_0 l0_0.length c0_0,.slice A0_1 l0_1.length c0_1,.string a0_2] 38 (0,0)) (by (with_reducible repeat (first|refine bN ?_ _|refine bD ?_|refine bA ?_ _));exact BK199.out) hb);have n1_:=aM (lP (by repeat (first|(with_reducible first|exact HB.out|apply lA|apply lN|apply lD|refine lS ?_ GE199.out)|exact HB.out)) hb);have n2_:=aM (hbox);have n3_:=aM ((by rw [hg];exact (lZ (by repeat (first|(with_reducible first|exact HB.out|apply lA|apply lN|apply lD|refine lS ?_ GE199.out)|exact HB.out))) : w.heap.size ≤ gb200));have n4_:=aM ((by rw [hg];exact (lZ (by repeat (first|(with_reducible first|exact HB.out|apply lA|apply lN|apply lD|refine lS ?_ GE199.out)|exact HB.out))) : w.heap.size ≤ gb200));have n5_:=aM ((by rw [hg];exact Nat.ne_of_lt (bL (g:=gb199) (o:=.cells #[.slice A0_0 l0_0.length c0_0,.slice A0_1 l0_1.length c0_1,.string a0_2] 38 (0,0)) (by (with_reducible repeat (first|refine bN ?_ _|refine bD ?_|refine bA ?_ _));exact BK199.out)) : gb199 ≠ gb200));have n6_:=aM ((by rw [hg];exact Nat.ne_of_gt (bL (g:=gb199) (o:=.cells #[.slice A0_0 l0_0.length c0_0,.slice A0_1 l0_1.length c0_1,.string a0_2] 38 (0,0)) (by (with_reducible repeat (first|refine bN ?_ _|refine bD ?_|refine bA ?_ _));exact BK199.out)) : gb200 ≠ gb199));clear BK199 HB;have BK199:=n0_;have HB:=n1_;have BK200:=n2_;have GW200:=n3_;have GE200:=n4_;have NB199_200:=n5_;have NB200_199:=n6_;clear n0_ n1_ n2_ n3_ n4_ n5_ n6_ hb hbox hg;have hnb6:=NB199_200.out;have hnc6:=NB200_199.out;have hcz7_0 : w5.cell? ⟨gb199,0,none⟩ = some (.slice A0_0 l0_0.length c0_0):=(bC BK199.out 0).trans rfl;have hcz7_1 : w5.cell? ⟨gb199,1,none⟩ = some (.slice A0_1 l0_1.length c0_1):=(bC BK199.out 1).trans rfl;have hcz7_2 : w5.cell? ⟨gb199,2,none⟩ = some (.string a0_2):=(bC BK199.out 2).trans rfl;have hfz7_0:=bF BK199.out 0;have hfz7_1:=bF BK199.out 1;have hfz7_2:=bF BK199.out 2)|((with_reducible refine gate_callee (f:=50) rfl ?_);refine goesL_ (some 8) rfl rfl Try.func50 (by kernel_rfl) rfl #[.agg #[.slice A0_0 l0_0.length c0_0,.slice A0_1 l0_1.length c0_1,.string a0_2]] rfl (by (try simp only [List.map_toArray,List.map_cons,List.map_nil]);first|done|rfl|(simp only [List.length_drop,List.length_take];rfl)) ?_;(with_reducible refine (spec_l08Copy.calls _ _ l0_0 _ _ l0_1 a0_2 t201 t204 t207 _ ?side1 ?side2 ?side3 ?side4 A3.out).mono ?_);(case side1 => repeat (first|exact (cB HR0_0.out HB.out)|(with_reducible first|refine cA ?_ _|refine cN ?_ _|refine cD ?_)));(case side2 => exact HC0_0.out);(case side3 => repeat (first|exact (cB HR0_1.out HB.out)|(with_reducible first|refine cA ?_ _|refine cN ?_ _|refine cD ?_)));(case side4 => exact HC0_1.out);rintro e w8 ⟨v202,v205,rfl,ho0,ho1,hb⟩;refine ⟨_,rfl,?_⟩;have n0_:=aM (rL ho0 (lZ (by repeat (first|(with_reducible first|exact HB.out|apply lA|apply lN|apply lD|refine lS ?_ GE199.out|refine lS ?_ GE200.out)|exact HB.out))));have n1_:=aM (rL ho1 (lZ (by repeat (first|(with_reducible first|exact HB.out|apply lA|apply lN|apply lD|refine lS ?_ GE199.out|refine lS ?_ GE200.out)|exact HB.out))));have n2_:=aM (bB (g:=gb199) (o:=.cells #[.slice A0_0 l0_0.length c0_0,.slice A0_1 l0_1.length c0_1,.string a0_2] 38 (0,0)) (by (with_reducible repeat (first|refine bN ?_ _|refine bD ?_|refine bA ?_ _));exact BK199.out) hb);have n3_:=aM (bB (g:=gb200) (o:=.cells #[.slice none 0 0,.slice none 0 0,.string (⟨#[]⟩ : ByteArray)] 38 (0,0)) (by (with_reducible repeat (first|refine bN ?_ _|refine bD ?_|refine bA ?_ _));exact BK200.out) hb);have n4_:=aM (lP (by repeat (first|(with_reducible first|exact HB.out|apply lA|apply lN|apply lD|refine lS ?_ GE199.out|refine lS ?_ GE200.out)|exact HB.out)) hb);clear BK199 BK200 HB;have HO203:=n0_;have HO206:=n1_;have BK199:=n2_;have BK200:=n3_;have HB:=n4_;clear n0_ n1_ n2_ n3_ n4_;(try clear hb);(try clear hb2);(try clear hk);(try clear hi);(try clear ho0);(try clear ho1))|((with_reducible refine gate_dst (N:=5) rfl ?_);refine box_event ?hg (N:=5) ?hd (cs:=#[.slice none 0 0,.slice none 0 0,.string (⟨#[]⟩ : ByteArray)]) (t:=38) ?hr ?_;(case hd => rfl);(case hg => rfl);(case hr => first|(go_simp;done)|(go_simp;rfl));intro gb208 hg w9 hbox hb;have n0_:=aM (rB (by (with_reducible repeat (first|apply rA|apply rN|apply rD));exact HO203.out) hb);have n1_:=aM (rB (by (with_reducible repeat (first|apply rA|apply rN|apply rD));exact HO206.out) hb);have n2_:=aM (bB (g:=gb199) (o:=.cells #[.slice A0_0 l0_0.length c0_0,.slice A0_1 l0_1.length c0_1,.string a0_2] 38 (0,0)) (by (with_reducible repeat (first|refine bN ?_ _|refine bD ?_|refine bA ?_ _));exact BK199.out) hb);have n3_:=aM (bB (g:=gb200) (o:=.cells #[.slice none 0 0,.slice none 0 0,.string (⟨#[]⟩ : ByteArray)] 38 (0,0)) (by (with_reducible repeat (first|refine bN ?_ _|refine bD ?_|refine bA ?_ _));exact BK200.out) hb);have n4_:=aM (lP (by repeat (first|(with_reducible first|exact HB.out|apply lA|apply lN|apply lD|refine lS ?_ GE199.out|refine lS ?_ GE200.out)|exact HB.out)) hb);have n5_:=aM (hbox);have n6_:=aM ((by rw [hg];exact (lZ (by repeat (first|(with_reducible first|exact HB.out|apply lA|apply lN|apply lD|refine lS ?_ GE199.out|refine lS ?_ GE200.out)|exact HB.out))) : w.heap.size ≤ gb208));have n7_:=aM ((by rw [hg];exact (lZ (by repeat (first|(with_reducible first|exact HB.out|apply lA|apply lN|apply lD|refine lS ?_ GE199.out|refine lS ?_ GE200.out)|exact HB.out))) : w.heap.size ≤ gb208));have n8_:=aM ((by rw [hg];exact Nat.ne_of_lt (bL (g:=gb199) (o:=.cells #[.slice A0_0 l0_0.length c0_0,.slice A0_1 l0_1.length c0_1,.string a0_2] 38 (0,0)) (by (with_reducible repeat (first|refine bN ?_ _|refine bD ?_|refine bA ?_ _));exact BK199.out)) : gb199 ≠ gb208));have n9_:=aM ((by rw [hg];exact Nat.ne_of_gt (bL (g:=gb199) (o:=.cells #[.slice A0_0 l0_0.length c0_0,.slice A0_1 l0_1.length c0_1,.string a0_2] 38 (0,0)) (by (with_reducible repeat (first|refine bN ?_ _|refine bD ?_|refine bA ?_ _));exact BK199.out)) : gb208 ≠ gb199));have n10_:=aM ((by rw [hg];exact Nat.ne_of_lt (bL (g:=gb200) (o:=.cells #[.slice none 0 0,.slice none 0 0,.string (⟨#[]⟩ : ByteArray)] 38 (0,0)) (by (with_reducible repeat (first|refine bN ?_ _|refine bD ?_|refine bA ?_ _));exact BK200.out)) : gb200 ≠ gb208));have n11_:=aM ((by rw [hg];exact Nat.ne_of_gt (bL (g:=gb200) (o:=.cells #[.slice none 0 0,.slice none 0 0,.string (⟨#[]⟩ : ByteArray)] 38 (0,0)) (by (with_reducible repeat (first|refine bN ?_ _|refine bD ?_|refine bA ?_ _));exact BK200.out)) : gb208 ≠ gb200));clear HO203 HO206 BK199 BK200 HB;have HO203:=n0_;have HO206:=n1_;have BK199:=n2_;have BK200:=n3_;have HB:=n4_;have BK208:=n5_;have GW208:=n6_;have GE208:=n7_;have NB199_208:=n8_;have NB208_199:=n9_;have NB200_208:=n10_;have NB208_200:=n11_;clear n0_ n1_ n2_ n3_ n4_ n5_ n6_ n7_ n8_ n9_ n10_ n11_ hb hbox hg;obtain ⟨Ao10,co10,eo10⟩:=Kd.R_slice HO203.out;subst eo10;have hnb11:=NB208_199.out;have hnc11:=NB199_208.out;have hnb12:=NB208_200.out;have hnc12:=NB200_208.out;have hcz13_0 : w9.cell? ⟨gb208,0,none⟩ = some (.slice none 0 0):=(bC BK208.out 0).trans rfl;have hcz13_1 : w9.cell? ⟨gb208,1,none⟩ = some (.slice none 0 0):=(bC BK208.out 1).trans rfl;have hcz13_2 : w9.cell? ⟨gb208,2,none⟩ = some (.string (⟨#[]⟩ : ByteArray)):=(bC BK208.out 2).trans rfl;have hfz13_0:=bF BK208.out 0;have hfz13_1:=bF BK208.out 1;have hfz13_2:=bF BK208.out 2;obtain ⟨Ao14,co14,eo14⟩:=Kd.R_slice HO206.out;subst eo14))
 go_loopg [6] k (fun kq v6 w' => ∃ (x6_1 : Int) (x209002_1 : ByteArray),v6 = .int .i64 x6_1 ∧ Aside0 (spec_Dump.l0 kq a1 x6_1 l0_0 l0_1 a0_2 t201 t204 x209002_1 = some (r1,r2,r3)) ∧ Aside0 (kq ≤ k) ∧ Aside0 (Kd.R k53 53 w' w.heap.size (fun _ => True) (.slice Ao10 t201.length co10) t201) ∧ Aside0 (Kd.R k57 57 w' w.heap.size (fun _ => True) (.slice Ao14 t204.length co14) t204) ∧ Aside0 (w'.heap[gb199]? = some (.cells #[(.slice A0_0 l0_0.length c0_0),(.slice A0_1 l0_1.length c0_1),.string a0_2] 38 (0,0))) ∧ Aside0 (w'.heap[gb200]? = some (.cells #[(.slice none 0 0),(.slice none 0 0),.string (⟨#[]⟩ : ByteArray)] 38 (0,0))) ∧ Aside0 (w'.heap[gb208]? = some (.cells #[(.slice Ao10 t201.length co10),(.slice Ao14 t204.length co14),.string x209002_1] 38 (0,0))) ∧ Aside0 (Below w.heap.size w w'))
 case atStart => exact ⟨(0),(t207),(by first|rfl|(simp;done)|(simp [*];done)),H',⟨Nat.le_refl _⟩,⟨by (with_reducible repeat (first|apply rA|apply rN|apply rD));exact Kd.R_mono (rF (p:=⟨gb208,2,none⟩) (rF (p:=⟨gb208,1,none⟩) (rF (p:=⟨gb208,0,none⟩) (rY HO203.out BK208.out (by decide)) (fun _ hk => hk.2) (.slice Ao10 t201.length co10)) (fun _ hk => hk.2) (.slice Ao14 t204.length co14)) (fun _ hk => hk.2) (.string t207)) (fun _ hk => trivial)⟩,⟨by (with_reducible repeat (first|apply rA|apply rN|apply rD));exact Kd.R_mono (rF (p:=⟨gb208,2,none⟩) (rF (p:=⟨gb208,1,none⟩) (rF (p:=⟨gb208,0,none⟩) (rY HO206.out BK208.out (by decide)) (fun _ hk => hk.2) (.slice Ao10 t201.length co10)) (fun _ hk => hk.2) (.slice Ao14 t204.length co14)) (fun _ hk => hk.2) (.string t207)) (fun _ hk => trivial)⟩,⟨by (with_reducible repeat (first|refine bN ?_ _|refine bD ?_|refine bA ?_ _));refine blk_far ?_ NB199_208.out _;(with_reducible repeat (first|refine bN ?_ _|refine bD ?_|refine bA ?_ _));refine blk_far ?_ NB199_208.out _;(with_reducible repeat (first|refine bN ?_ _|refine bD ?_|refine bA ?_ _));refine blk_far ?_ NB199_208.out _;(with_reducible repeat (first|refine bN ?_ _|refine bD ?_|refine bA ?_ _));exact BK199.out⟩,⟨by (with_reducible repeat (first|refine bN ?_ _|refine bD ?_|refine bA ?_ _));refine blk_far ?_ NB200_208.out _;(with_reducible repeat (first|refine bN ?_ _|refine bD ?_|refine bA ?_ _));refine blk_far ?_ NB200_208.out _;(with_reducible repeat (first|refine bN ?_ _|refine bD ?_|refine bA ?_ _));refine blk_far ?_ NB200_208.out _;(with_reducible repeat (first|refine bN ?_ _|refine bD ?_|refine bA ?_ _));exact BK200.out⟩,⟨by (with_reducible repeat (first|refine bN ?_ _|refine bD ?_|refine bA ?_ _));refine blk_put (cs:=#[.slice Ao10 t201.length co10,.slice Ao14 t204.length co14,.string (⟨#[]⟩ : ByteArray)]) ?_ 2 _ rfl;(with_reducible repeat (first|refine bN ?_ _|refine bD ?_|refine bA ?_ _));refine blk_put (cs:=#[.slice Ao10 t201.length co10,.slice none 0 0,.string (⟨#[]⟩ : ByteArray)]) ?_ 1 _ rfl;(with_reducible repeat (first|refine bN ?_ _|refine bD ?_|refine bA ?_ _));refine blk_put (cs:=#[.slice none 0 0,.slice none 0 0,.string (⟨#[]⟩ : ByteArray)]) ?_ 0 _ rfl;(with_reducible repeat (first|refine bN ?_ _|refine bD ?_|refine bA ?_ _));exact BK208.out⟩,⟨by repeat (first|(with_reducible first|exact HB.out|apply lA|apply lN|apply lD|refine lS ?_ GE199.out|refine lS ?_ GE200.out|refine lS ?_ GE208.out)|exact HB.out)⟩⟩
 case round =>
  clear H'
  try clear c1
  try clear c2
  try clear p2
  try clear c5
  try clear c6
  try clear c11
  try clear c12
  try clear hcz13_0
  try clear hcz13_1
  try clear hcz13_2
  try clear hcz7_0
  try clear hcz7_1
  try clear hcz7_2
  try clear hfz13_0
  try clear hfz13_1
  try clear hfz13_2
  try clear hfz7_0
  try clear hfz7_1
  try clear hfz7_2
  obtain ⟨x6_1,x209002_1,rfl,HA,HK1,HO_209000,HO_209001,BK199,BK200,BK208,HB⟩:=hrel
  cases gk with
  |zero => exact absurd HA.out (by simp [spec_Dump.l0])
  |succ k1 =>
   have H:=HA.out
   clear HA
   simp only [spec_Dump.l0] at H
   by_cases c15 : x6_1 < (l0_1.length : Int)
   ·rw [if_pos c15] at H
    have c15b0 : decide (x6_1 < (l0_1.length : Int)) = true:=decide_eq_true c15
    clear c15
    by_cases c16 : 0 ≤ x6_1
    ·rw [if_pos c16] at H
     have c16b0 : decide (0 ≤ x6_1) = true:=decide_eq_true c16
     clear c16
     by_cases c17 : ((rd_T57 l0_1 x6_1).f0).toList = a1.toList
     ·rw [if_pos c17] at H
      have c17b0 : (((rd_T57 l0_1 x6_1).f0).toList == a1.toList) = true:=beq_iff_eq.mpr c17
      have c17b1 : (((rd_T57 l0_1 x6_1).f0).toList != a1.toList) = false:=bne_eq_false_iff_eq.mpr c17
      clear c17
      by_cases c18 : x209002_1.size + ((rd_T57 l0_1 x6_1).f1).size ≤ 9223372036854775807
      ·rw [if_pos c18] at H
       have c18b0:=eq_true c18
       have c18b1 : decide (x209002_1.size + ((rd_T57 l0_1 x6_1).f1).size ≤ 9223372036854775807) = true:=decide_eq_true c18
       try have c18b2 : (9223372036854775807 < x209002_1.size + ((rd_T57 l0_1 x6_1).f1).size) = False:=eq_false (Nat.not_lt.2 c18)
       by_cases c19 : (x209002_1 ++ ((rd_T57 l0_1 x6_1).f1)).size + 1 ≤ 9223372036854775807
       ·rw [if_pos c19] at H
        have c19b0:=eq_true c19
        have c19b1 : decide ((x209002_1 ++ ((rd_T57 l0_1 x6_1).f1)).size + 1 ≤ 9223372036854775807) = true:=decide_eq_true c19
        try have c19b2 : (9223372036854775807 < (x209002_1 ++ ((rd_T57 l0_1 x6_1).f1)).size + 1) = False:=eq_false (Nat.not_lt.2 c19)
        try (have c19b7:=c19b2;simp only [ByteArray.size_append] at c19b7)
        by_cases c20 : ((x209002_1 ++ ((rd_T57 l0_1 x6_1).f1)) ++ (⟨#[32]⟩ : ByteArray)).size + ((rd_T57 l0_1 x6_1).f2).size ≤ 9223372036854775807
        ·rw [if_pos c20] at H
         have c20b0:=eq_true c20
         have c20b1 : decide (((x209002_1 ++ ((rd_T57 l0_1 x6_1).f1)) ++ (⟨#[32]⟩ : ByteArray)).size + ((rd_T57 l0_1 x6_1).f2).size ≤ 9223372036854775807) = true:=decide_eq_true c20
         try have c20b2 : (9223372036854775807 < ((x209002_1 ++ ((rd_T57 l0_1 x6_1).f1)) ++ (⟨#[32]⟩ : ByteArray)).size + ((rd_T57 l0_1 x6_1).f2).size) = False:=eq_false (Nat.not_lt.2 c20)
         try (have c20b7:=c20b2;simp only [ByteArray.size_append,show ((⟨#[32]⟩ : ByteArray)).size = 1 from rfl] at c20b7)
         by_cases c21 : (((x209002_1 ++ ((rd_T57 l0_1 x6_1).f1)) ++ (⟨#[32]⟩ : ByteArray)) ++ ((rd_T57 l0_1 x6_1).f2)).size + 1 ≤ 9223372036854775807
         ·rw [if_pos c21] at H
          have c21b0:=eq_true c21
          have c21b1 : decide ((((x209002_1 ++ ((rd_T57 l0_1 x6_1).f1)) ++ (⟨#[32]⟩ : ByteArray)) ++ ((rd_T57 l0_1 x6_1).f2)).size + 1 ≤ 9223372036854775807) = true:=decide_eq_true c21
          try have c21b2 : (9223372036854775807 < (((x209002_1 ++ ((rd_T57 l0_1 x6_1).f1)) ++ (⟨#[32]⟩ : ByteArray)) ++ ((rd_T57 l0_1 x6_1).f2)).size + 1) = False:=eq_false (Nat.not_lt.2 c21)
          try (have c21b7:=c21b2;simp only [ByteArray.size_append,show ((⟨#[32]⟩ : ByteArray)).size = 1 from rfl] at c21b7)
          replace H:=Option.bind_eq_some_iff.mp H
          obtain ⟨t212,A220,H⟩:=H
          replace H : (spec_Dump.l0 k1 a1 (wrap64 (x6_1 + 1)) l0_0 l0_1 a0_2 t201 t204 t212) = some (r1,r2,r3):=H
          have A22:=aM A220
          clear A220
          have H':=aM H
          clear H
          have hnb23:=NB199_200.out
          have hnc23:=NB200_199.out
          have hnb24:=NB199_208.out
          have hnc24:=NB208_199.out
          have hcz25_0 : wr.cell? ⟨gb199,0,none⟩ = some (.slice A0_0 l0_0.length c0_0):=(bC BK199.out 0).trans rfl
          have hcz25_1 : wr.cell? ⟨gb199,1,none⟩ = some (.slice A0_1 l0_1.length c0_1):=(bC BK199.out 1).trans rfl
          have hcz25_2 : wr.cell? ⟨gb199,2,none⟩ = some (.string a0_2):=(bC BK199.out 2).trans rfl
          have hfz25_0:=bF BK199.out 0
          have hfz25_1:=bF BK199.out 1
          have hfz25_2:=bF BK199.out 2
          have p209 : 0 ≤ (x6_1 : Int):=of_decide_eq_true (by first|(with_reducible assumption)|assumption)
          have q209 : x6_1 < (l0_1.length : Int):=of_decide_eq_true (by first|(with_reducible assumption)|assumption)
          obtain ⟨ad209,e209,hx209_0,hx209_1,hx209_2⟩:=at_T57 HR0_1.out x6_1 p209 q209
          cases e209
          replace hx209_0:=(HB.out.cell (World.block_lt_of_cell? w _ hx209_0)).trans hx209_0
          replace hx209_1:=(HB.out.cell (World.block_lt_of_cell? w _ hx209_1)).trans hx209_1
          replace hx209_2:=(HB.out.cell (World.block_lt_of_cell? w _ hx209_2)).trans hx209_2
          replace p209:=eq_true p209
          replace q209:=eq_true q209
          try go_wp2
          have n0_:=aM (rD HO_209000.out)
          have n1_:=aM (rD HO_209001.out)
          have n2_:=aM (bD BK199.out)
          have n3_:=aM (bD BK200.out)
          have n4_:=aM (bD BK208.out)
          have n5_:=aM (lD HB.out)
          clear HO_209000
          clear HO_209001
          clear BK199
          clear BK200
          clear BK208
          clear HB
          have HO_209000:=n0_
          have HO_209001:=n1_
          have BK199:=n2_
          have BK200:=n3_
          have BK208:=n4_
          have HB:=n5_
          clear n0_ n1_ n2_ n3_ n4_ n5_
          have p210 : 0 ≤ (x6_1 : Int):=of_decide_eq_true (by first|(with_reducible assumption)|assumption)
          have q210 : x6_1 < (l0_1.length : Int):=of_decide_eq_true (by first|(with_reducible assumption)|assumption)
          obtain ⟨ad210,e210,hx210_0,hx210_1,hx210_2⟩:=at_T57 HR0_1.out x6_1 p210 q210
          have hw210_2:=hx210_2
          have hw210_1:=hx210_1
          have hw210_0:=hx210_0
          obtain rfl : ad209 = ad210:=(by injection e210)
          replace hx210_0:=(HB.out.cell (World.block_lt_of_cell? w _ hx210_0)).trans hx210_0
          replace hx210_1:=(HB.out.cell (World.block_lt_of_cell? w _ hx210_1)).trans hx210_1
          replace hx210_2:=(HB.out.cell (World.block_lt_of_cell? w _ hx210_2)).trans hx210_2
          replace p210:=eq_true p210
          replace q210:=eq_true q210
          have p211 : 0 ≤ (x6_1 : Int):=of_decide_eq_true (by first|(with_reducible assumption)|assumption)
          have q211 : x6_1 < (l0_1.length : Int):=of_decide_eq_true (by first|(with_reducible assumption)|assumption)
          obtain ⟨ad211,e211,hx211_0,hx211_1,hx211_2⟩:=at_T57 HR0_1.out x6_1 p211 q211
          have hw211_2:=hx211_2
          have hw211_1:=hx211_1
          have hw211_0:=hx211_0
          obtain rfl : ad209 = ad211:=(by injection e211)
          replace hx211_0:=(HB.out.cell (World.block_lt_of_cell? w _ hx211_0)).trans hx211_0
          replace hx211_1:=(HB.out.cell (World.block_lt_of_cell? w _ hx211_1)).trans hx211_1
          replace hx211_2:=(HB.out.cell (World.block_lt_of_cell? w _ hx211_2)).trans hx211_2
          replace p211:=eq_true p211
          replace q211:=eq_true q211
          refine start_ (n:=21) (S:=fun w' => w'.cell? ⟨gb208,0,none⟩ = some (.slice Ao10 t201.length co10) ∧ w'.cell? ⟨gb208,1,none⟩ = some (.slice Ao14 t204.length co14) ∧ w'.cell? ⟨gb208,2,none⟩ = some (.string x209002_1) ∧ w'.cell? ⟨gb199,0,none⟩ = some (.slice A0_0 l0_0.length c0_0) ∧ w'.cell? ⟨gb199,1,none⟩ = some (.slice (some ad209) l0_1.length c0_1) ∧ w'.cell? ⟨gb199,2,none⟩ = some (.string a0_2) ∧ w'.cell? (ad209.add ((x6_1).toNat * 3)) = some (.string ((rd_T57 l0_1 x6_1).f0)) ∧ w'.cell? ⟨(ad209.add ((x6_1).toNat * 3)).block,(ad209.add ((x6_1).toNat * 3)).off + 1,none⟩ = some (.string ((rd_T57 l0_1 x6_1).f1)) ∧ w'.cell? ⟨(ad209.add ((x6_1).toNat * 3)).block,(ad209.add ((x6_1).toNat * 3)).off + 2,none⟩ = some (.string ((rd_T57 l0_1 x6_1).f2)) ∧ w'.cell? (ad209.add ((x6_1).toNat * 3)) = some (.string ((rd_T57 l0_1 x6_1).f0)) ∧ w'.cell? ⟨(ad209.add ((x6_1).toNat * 3)).block,(ad209.add ((x6_1).toNat * 3)).off + 1,none⟩ = some (.string ((rd_T57 l0_1 x6_1).f1)) ∧ w'.cell? ⟨(ad209.add ((x6_1).toNat * 3)).block,(ad209.add ((x6_1).toNat * 3)).off + 2,none⟩ = some (.string ((rd_T57 l0_1 x6_1).f2))) (ds:=[20]) #[bf,bf,bf,bf,bf,bf,bf,bf,bf,bf,bf,bf,bf,bf,bf,bf,bf,bf,bf,bf,bf] (by kernel_rfl) rfl rfl ⟨(bC BK208.out 0).trans rfl,(bC BK208.out 1).trans rfl,(bC BK208.out 2).trans rfl,(bC BK199.out 0).trans rfl,(bC BK199.out 1).trans rfl,(bC BK199.out 2).trans rfl,((HB.out.cell (World.block_lt_of_cell? w _ hw210_0)).trans hw210_0),((HB.out.cell (World.block_lt_of_cell? w _ hw210_1)).trans hw210_1),((HB.out.cell (World.block_lt_of_cell? w _ hw210_2)).trans hw210_2),((HB.out.cell (World.block_lt_of_cell? w _ hw211_0)).trans hw211_0),((HB.out.cell (World.block_lt_of_cell? w _ hw211_1)).trans hw211_1),((HB.out.cell (World.block_lt_of_cell? w _ hw211_2)).trans hw211_2)⟩ (fun hHeld => ?_);refine with_tabW spec_Dump.tab6 spec_Dump.bits6 (fun HT_ HW_ => ?_)
          generalize wr.drew = w26 at HO_209000 HO_209001 BK199 BK200 BK208 HB hx210_0 hx210_1 hx210_2 hx211_0 hx211_1 hx211_2 hHeld ⊢
          refine pure_ (i:=0) (N:=some 24) (v:=?_) (a':=?_) #[bT,bf,bf,bf,bf,bf,bf,bf,bf,bf,bf,bf,bf,bf,bf,bf,bf,bf,bf,bf,bf] rfl rfl (any_of HT_.out (by kernel_rfl)) (fun _ _ _ h => h) (Or.inl ⟨by rfl,?_⟩) ?_ ?_
          rotate_left
          ·intro w';go_simp;with_reducible rfl
          rotate_left
          ·simp only [Act.put,q_ia7,q_cz7,q_cs7,i64_w,i32_w];rfl
          refine pure_ (i:=2) (N:=some 26) (v:=?_) (a':=?_) #[bT,bf,bT,bf,bf,bf,bf,bf,bf,bf,bf,bf,bf,bf,bf,bf,bf,bf,bf,bf,bf] rfl rfl (any_of HT_.out (by kernel_rfl)) (fun _ _ _ h => h) (Or.inl ⟨by rfl,?_⟩) ?_ ?_
          rotate_left
          ·intro w';go_simp;with_reducible rfl
          rotate_left
          ·simp only [Act.put,q_ia7,q_cz7,q_cs7,i64_w,i32_w];rfl
          refine pure_ (i:=4) (N:=some 28) (v:=?_) (a':=?_) #[bT,bf,bT,bf,bT,bf,bf,bf,bf,bf,bf,bf,bf,bf,bf,bf,bf,bf,bf,bf,bf] rfl rfl (any_of HT_.out (by kernel_rfl)) (fun _ _ _ h => h) (Or.inl ⟨by rfl,?_⟩) ?_ ?_
          rotate_left
          ·intro w';go_simp;with_reducible rfl
          rotate_left
          ·simp only [Act.put,q_ia7,q_cz7,q_cs7,i64_w,i32_w];rfl
          refine pure_ (i:=10) (N:=some 34) (v:=?_) (a':=?_) #[bT,bf,bT,bf,bT,bf,bf,bf,bf,bf,bT,bf,bf,bf,bf,bf,bf,bf,bf,bf,bf] rfl rfl (any_of HT_.out (by kernel_rfl)) (fun _ _ _ h => h) (Or.inl ⟨by rfl,?_⟩) ?_ ?_
          rotate_left
          ·intro w';go_simp;with_reducible rfl
          rotate_left
          ·simp only [Act.put,q_ia7,q_cz7,q_cs7,i64_w,i32_w];rfl
          refine pure_ (i:=12) (N:=some 36) (v:=?_) (a':=?_) #[bT,bf,bT,bf,bT,bf,bf,bf,bf,bf,bT,bf,bT,bf,bf,bf,bf,bf,bf,bf,bf] rfl rfl (any_of HT_.out (by kernel_rfl)) (fun _ _ _ h => h) (Or.inl ⟨by rfl,?_⟩) ?_ ?_
          rotate_left
          ·intro w';go_simp;with_reducible rfl
          rotate_left
          ·simp only [Act.put,q_ia7,q_cz7,q_cs7,i64_w,i32_w];rfl
          refine take_ (i:=1) (N:=some 25) (v:=?_) (a':=?_) #[bT,bT,bT,bf,bT,bf,bf,bf,bf,bf,bT,bf,bT,bf,bf,bf,bf,bf,bf,bf,bf] rfl rfl (take_ofW HT_.out HW_.out (by kernel_rfl)) (fun _ _ _ h => h) (Or.inl ⟨by rfl,?_⟩) hHeld ?_ ?_
          rotate_left
          ·rintro w' ⟨s0,s1,s2,s3,s4,s5,s6,s7,s8,s9,s10,s11⟩
           go_simp
           with_reducible rfl
          rotate_left
          ·simp only [Act.put,q_ia7,q_cz7,q_cs7,i64_w,i32_w];rfl
          refine take_ (i:=3) (N:=some 27) (v:=?_) (a':=?_) #[bT,bT,bT,bT,bT,bf,bf,bf,bf,bf,bT,bf,bT,bf,bf,bf,bf,bf,bf,bf,bf] rfl rfl (take_ofW HT_.out HW_.out (by kernel_rfl)) (fun _ _ _ h => h) (Or.inl ⟨by rfl,?_⟩) hHeld ?_ ?_
          rotate_left
          ·rintro w' ⟨s0,s1,s2,s3,s4,s5,s6,s7,s8,s9,s10,s11⟩
           go_simp
           with_reducible rfl
          rotate_left
          ·simp only [Act.put,q_ia7,q_cz7,q_cs7,i64_w,i32_w];rfl
          refine pure_ (i:=5) (N:=some 29) (v:=?_) (a':=?_) #[bT,bT,bT,bT,bT,bT,bf,bf,bf,bf,bT,bf,bT,bf,bf,bf,bf,bf,bf,bf,bf] rfl rfl (any_of HT_.out (by kernel_rfl)) (fun _ _ _ h => h) (Or.inl ⟨by rfl,?_⟩) ?_ ?_
          rotate_left
          ·intro w';go_simp;with_reducible rfl
          rotate_left
          ·simp only [Act.put,q_ia7,q_cz7,q_cs7,i64_w,i32_w];rfl
          refine pure_ (i:=6) (N:=some 30) (v:=?_) (a':=?_) #[bT,bT,bT,bT,bT,bT,bT,bf,bf,bf,bT,bf,bT,bf,bf,bf,bf,bf,bf,bf,bf] rfl rfl (any_of HT_.out (by kernel_rfl)) (fun _ _ _ h => h) (Or.inl ⟨by rfl,?_⟩) ?_ ?_
          rotate_left
          ·intro w';go_simp;with_reducible rfl
          rotate_left
          ·simp only [Act.put,q_ia7,q_cz7,q_cs7,i64_w,i32_w];rfl
          refine take_ (i:=7) (N:=some 31) (v:=?_) (a':=?_) #[bT,bT,bT,bT,bT,bT,bT,bT,bf,bf,bT,bf,bT,bf,bf,bf,bf,bf,bf,bf,bf] rfl rfl (take_ofW HT_.out HW_.out (by kernel_rfl)) (fun _ _ _ h => h) (Or.inl ⟨by rfl,?_⟩) hHeld ?_ ?_
          rotate_left
          ·rintro w' ⟨s0,s1,s2,s3,s4,s5,s6,s7,s8,s9,s10,s11⟩
           go_simp
           with_reducible rfl
          rotate_left
          ·simp only [Act.put,q_ia7,q_cz7,q_cs7,i64_w,i32_w];rfl
          refine pure_ (i:=8) (N:=some 32) (v:=?_) (a':=?_) #[bT,bT,bT,bT,bT,bT,bT,bT,bT,bf,bT,bf,bT,bf,bf,bf,bf,bf,bf,bf,bf] rfl rfl (any_of HT_.out (by kernel_rfl)) (fun _ _ _ h => h) (Or.inl ⟨by rfl,?_⟩) ?_ ?_
          rotate_left
          ·intro w';go_simp;with_reducible rfl
          rotate_left
          ·simp only [Act.put,q_ia7,q_cz7,q_cs7,i64_w,i32_w];rfl
          refine pure_ (i:=9) (N:=some 33) (v:=?_) (a':=?_) #[bT,bT,bT,bT,bT,bT,bT,bT,bT,bT,bT,bf,bT,bf,bf,bf,bf,bf,bf,bf,bf] rfl rfl (any_of HT_.out (by kernel_rfl)) (fun _ _ _ h => h) (Or.inl ⟨by rfl,?_⟩) ?_ ?_
          rotate_left
          ·intro w';go_simp;with_reducible rfl
          rotate_left
          ·simp only [Act.put,q_ia7,q_cz7,q_cs7,i64_w,i32_w];rfl
          refine take_ (i:=11) (N:=some 35) (v:=?_) (a':=?_) #[bT,bT,bT,bT,bT,bT,bT,bT,bT,bT,bT,bT,bT,bf,bf,bf,bf,bf,bf,bf,bf] rfl rfl (take_ofW HT_.out HW_.out (by kernel_rfl)) (fun _ _ _ h => h) (Or.inl ⟨by rfl,?_⟩) hHeld ?_ ?_
          rotate_left
          ·rintro w' ⟨s0,s1,s2,s3,s4,s5,s6,s7,s8,s9,s10,s11⟩
           go_simp
           with_reducible rfl
          rotate_left
          ·simp only [Act.put,q_ia7,q_cz7,q_cs7,i64_w,i32_w];rfl
          refine pure_ (i:=13) (N:=some 37) (v:=?_) (a':=?_) #[bT,bT,bT,bT,bT,bT,bT,bT,bT,bT,bT,bT,bT,bT,bf,bf,bf,bf,bf,bf,bf] rfl rfl (any_of HT_.out (by kernel_rfl)) (fun _ _ _ h => h) (Or.inl ⟨by rfl,?_⟩) ?_ ?_
          rotate_left
          ·intro w';go_simp;with_reducible rfl
          rotate_left
          ·simp only [Act.put,q_ia7,q_cz7,q_cs7,i64_w,i32_w];rfl
          refine pure_ (i:=14) (N:=some 38) (v:=?_) (a':=?_) #[bT,bT,bT,bT,bT,bT,bT,bT,bT,bT,bT,bT,bT,bT,bT,bf,bf,bf,bf,bf,bf] rfl rfl (any_of HT_.out (by kernel_rfl)) (fun _ _ _ h => h) (Or.inl ⟨by rfl,?_⟩) ?_ ?_
          rotate_left
          ·intro w';go_simp;with_reducible rfl
          rotate_left
          ·simp only [Act.put,q_ia7,q_cz7,q_cs7,i64_w,i32_w];rfl
          refine take_ (i:=15) (N:=some 39) (v:=?_) (a':=?_) #[bT,bT,bT,bT,bT,bT,bT,bT,bT,bT,bT,bT,bT,bT,bT,bT,bf,bf,bf,bf,bf] rfl rfl (take_ofW HT_.out HW_.out (by kernel_rfl)) (fun _ _ _ h => h) (Or.inl ⟨by rfl,?_⟩) hHeld ?_ ?_
          rotate_left
          ·rintro w' ⟨s0,s1,s2,s3,s4,s5,s6,s7,s8,s9,s10,s11⟩
           go_simp
           with_reducible rfl
          rotate_left
          ·simp only [Act.put,q_ia7,q_cz7,q_cs7,i64_w,i32_w];rfl
          refine pure_ (i:=16) (N:=some 40) (v:=?_) (a':=?_) #[bT,bT,bT,bT,bT,bT,bT,bT,bT,bT,bT,bT,bT,bT,bT,bT,bT,bf,bf,bf,bf] rfl rfl (any_of HT_.out (by kernel_rfl)) (fun _ _ _ h => h) (Or.inl ⟨by rfl,?_⟩) ?_ ?_
          rotate_left
          ·intro w';go_simp;with_reducible rfl
          rotate_left
          ·simp only [Act.put,q_ia7,q_cz7,q_cs7,i64_w,i32_w];rfl
          refine pure_ (i:=17) (N:=some 41) (v:=?_) (a':=?_) #[bT,bT,bT,bT,bT,bT,bT,bT,bT,bT,bT,bT,bT,bT,bT,bT,bT,bT,bf,bf,bf] rfl rfl (any_of HT_.out (by kernel_rfl)) (fun _ _ _ h => h) (Or.inl ⟨by rfl,?_⟩) ?_ ?_
          rotate_left
          ·intro w';go_simp;with_reducible rfl
          rotate_left
          ·simp only [Act.put,q_ia7,q_cz7,q_cs7,i64_w,i32_w];rfl
          refine one_ (i:=18) (N:=some 42) #[bT,bT,bT,bT,bT,bT,bT,bT,bT,bT,bT,bT,bT,bT,bT,bT,bT,bT,bT,bf,bf] rfl rfl (one_of HT_.out (by kernel_rfl)) (by decide) (fun K hK => ?_)
          refine goes_ Try.func51 (by kernel_rfl) rfl #[.string ((((x209002_1 ++ ((rd_T57 l0_1 x6_1).f1)) ++ (⟨#[32]⟩ : ByteArray)) ++ ((rd_T57 l0_1 x6_1).f2)) ++ (⟨#[10]⟩ : ByteArray))] (by rfl) rfl rfl (by (try simp only [List.map_toArray,List.map_cons,List.map_nil]);first|done|rfl|(simp only [List.length_drop,List.length_take];rfl)) ?_
          with_reducible refine (spec_l08Out.calls ((((x209002_1 ++ ((rd_T57 l0_1 x6_1).f1)) ++ (⟨#[32]⟩ : ByteArray)) ++ ((rd_T57 l0_1 x6_1).f2)) ++ (⟨#[10]⟩ : ByteArray)) t212 _ A22.out).mono ?_
          rintro e w' ⟨rfl,⟨nd,rfl⟩⟩
          refine ⟨_,rfl,?_⟩
          refine hK.out _ _ ⟨(bC BK208.out 0).trans rfl,(bC BK208.out 1).trans rfl,(bC BK208.out 2).trans rfl,(bC BK199.out 0).trans rfl,(bC BK199.out 1).trans rfl,(bC BK199.out 2).trans rfl,((HB.out.cell (World.block_lt_of_cell? w _ hw210_0)).trans hw210_0),((HB.out.cell (World.block_lt_of_cell? w _ hw210_1)).trans hw210_1),((HB.out.cell (World.block_lt_of_cell? w _ hw210_2)).trans hw210_2),((HB.out.cell (World.block_lt_of_cell? w _ hw211_0)).trans hw211_0),((HB.out.cell (World.block_lt_of_cell? w _ hw211_1)).trans hw211_1),((HB.out.cell (World.block_lt_of_cell? w _ hw211_2)).trans hw211_2)⟩ (fun hHeld => ?_)
          clear hK K
          refine norm_ (a':=?_) ?_ ?_
          rotate_left
          ·show Act.put _ (some 42) _ = _
           simp only [Act.put,q_ia7,q_cz7,q_cs7,i64_w,i32_w]
           rfl
          refine pure_ (i:=19) (N:=some 43) (v:=?_) (a':=?_) #[bT,bT,bT,bT,bT,bT,bT,bT,bT,bT,bT,bT,bT,bT,bT,bT,bT,bT,bT,bT,bf] rfl rfl (any_of HT_.out (by kernel_rfl)) (fun _ _ _ h => h) (Or.inl ⟨by rfl,?_⟩) ?_ ?_
          rotate_left
          ·intro w';go_simp;with_reducible rfl
          rotate_left
          ·simp only [Act.put,q_ia7,q_cz7,q_cs7,i64_w,i32_w];rfl
          refine last_ (i:=20) (N:=none) #[bT,bT,bT,bT,bT,bT,bT,bT,bT,bT,bT,bT,bT,bT,bT,bT,bT,bT,bT,bT,bT] rfl rfl (one_of HT_.out (by kernel_rfl)) (by decide) (fun K hK => ?_)
          have hs27 : w26.cell? ⟨gb208,2,none⟩ = some (.string x209002_1):=(bC BK208.out 2).trans rfl
          have hfs27:=bF BK208.out 2
          have hns27_0:=NB199_208.out
          have hns27_1:=NB200_208.out
          have hms27_0:=NB208_199.out
          have hms27_1:=NB208_200.out
          refine skip_ (w1:=?_) (by rfl) rfl ?_ ?_
          rotate_left
          ·go_simp
           rfl
          refine hK.out _ _ ?_
          clear hK K
          refine done_ (done_of HT_.out (by kernel_rfl)) ?_
          try go_wp2
          go_roundg k1
          case measure => have:=HK1.out;omega
          case rel => exact ⟨(wrap64 (x6_1 + 1)),(t212),(by first|rfl|(simp;done)|(simp [*];done)),H',⟨by have:=HK1.out;omega⟩,⟨by (with_reducible repeat (first|apply rA|apply rN|apply rD));exact Kd.R_mono (rF (p:=⟨gb208,2,none⟩) (rY HO_209000.out BK208.out (by decide)) (fun _ hk => hk.2) (.string t212)) (fun _ hk => trivial)⟩,⟨by (with_reducible repeat (first|apply rA|apply rN|apply rD));exact Kd.R_mono (rF (p:=⟨gb208,2,none⟩) (rY HO_209001.out BK208.out (by decide)) (fun _ hk => hk.2) (.string t212)) (fun _ hk => trivial)⟩,⟨by (with_reducible repeat (first|refine bN ?_ _|refine bD ?_|refine bA ?_ _));refine blk_far ?_ NB199_208.out _;(with_reducible repeat (first|refine bN ?_ _|refine bD ?_|refine bA ?_ _));exact BK199.out⟩,⟨by (with_reducible repeat (first|refine bN ?_ _|refine bD ?_|refine bA ?_ _));refine blk_far ?_ NB200_208.out _;(with_reducible repeat (first|refine bN ?_ _|refine bD ?_|refine bA ?_ _));exact BK200.out⟩,⟨by (with_reducible repeat (first|refine bN ?_ _|refine bD ?_|refine bA ?_ _));refine blk_put (cs:=#[.slice Ao10 t201.length co10,.slice Ao14 t204.length co14,.string x209002_1]) ?_ 2 _ rfl;(with_reducible repeat (first|refine bN ?_ _|refine bD ?_|refine bA ?_ _));exact BK208.out⟩,⟨by repeat (first|(with_reducible first|exact HB.out|apply lA|apply lN|apply lD|refine lS ?_ GE199.out|refine lS ?_ GE200.out|refine lS ?_ GE208.out)|exact HB.out)⟩⟩
         ·rw [if_neg c21] at H
          exact absurd H (by simp)
        ·rw [if_neg c20] at H
         exact absurd H (by simp)
       ·rw [if_neg c19] at H
        exact absurd H (by simp)
      ·rw [if_neg c18] at H
       exact absurd H (by simp)
     ·rw [if_neg c17] at H
      have c17b0 : (((rd_T57 l0_1 x6_1).f0).toList == a1.toList) = false:=beq_eq_false_iff_ne.mpr c17
      have c17b1 : (((rd_T57 l0_1 x6_1).f0).toList != a1.toList) = true:=bne_iff_ne.mpr c17
      have H':=aM H
      clear H
      have hnb28:=NB199_200.out
      have hnc28:=NB200_199.out
      have hnb29:=NB199_208.out
      have hnc29:=NB208_199.out
      have hcz30_0 : wr.cell? ⟨gb199,0,none⟩ = some (.slice A0_0 l0_0.length c0_0):=(bC BK199.out 0).trans rfl
      have hcz30_1 : wr.cell? ⟨gb199,1,none⟩ = some (.slice A0_1 l0_1.length c0_1):=(bC BK199.out 1).trans rfl
      have hcz30_2 : wr.cell? ⟨gb199,2,none⟩ = some (.string a0_2):=(bC BK199.out 2).trans rfl
      have hfz30_0:=bF BK199.out 0
      have hfz30_1:=bF BK199.out 1
      have hfz30_2:=bF BK199.out 2
      have p209 : 0 ≤ (x6_1 : Int):=of_decide_eq_true (by first|(with_reducible assumption)|assumption)
      have q209 : x6_1 < (l0_1.length : Int):=of_decide_eq_true (by first|(with_reducible assumption)|assumption)
      obtain ⟨ad209,e209,hx209_0,hx209_1,hx209_2⟩:=at_T57 HR0_1.out x6_1 p209 q209
      cases e209
      replace hx209_0:=(HB.out.cell (World.block_lt_of_cell? w _ hx209_0)).trans hx209_0
      replace hx209_1:=(HB.out.cell (World.block_lt_of_cell? w _ hx209_1)).trans hx209_1
      replace hx209_2:=(HB.out.cell (World.block_lt_of_cell? w _ hx209_2)).trans hx209_2
      replace p209:=eq_true p209
      replace q209:=eq_true q209
      go_wp2
      go_roundg k1
      case measure => have:=HK1.out;omega
      case rel => exact ⟨(wrap64 (x6_1 + 1)),(x209002_1),(by first|rfl|(simp;done)|(simp [*];done)),H',⟨by have:=HK1.out;omega⟩,⟨by (with_reducible repeat (first|apply rA|apply rN|apply rD));exact HO_209000.out⟩,⟨by (with_reducible repeat (first|apply rA|apply rN|apply rD));exact HO_209001.out⟩,⟨by (with_reducible repeat (first|refine bN ?_ _|refine bD ?_|refine bA ?_ _));exact BK199.out⟩,⟨by (with_reducible repeat (first|refine bN ?_ _|refine bD ?_|refine bA ?_ _));exact BK200.out⟩,⟨by (with_reducible repeat (first|refine bN ?_ _|refine bD ?_|refine bA ?_ _));exact BK208.out⟩,⟨by repeat (first|(with_reducible first|exact HB.out|apply lA|apply lN|apply lD|refine lS ?_ GE199.out|refine lS ?_ GE200.out|refine lS ?_ GE208.out)|exact HB.out)⟩⟩
    ·rw [if_neg c16] at H
     exact absurd H (by simp)
   ·rw [if_neg c15] at H
    have c15b0 : decide (x6_1 < (l0_1.length : Int)) = false:=decide_eq_false c15
    clear c15
    simp only [Option.some.injEq,Prod.mk.injEq] at H
    obtain ⟨rfl,rfl,rfl⟩:=H
    have hnb31:=NB199_200.out
    have hnc31:=NB200_199.out
    have hnb32:=NB199_208.out
    have hnc32:=NB208_199.out
    have hcz33_0 : wr.cell? ⟨gb199,0,none⟩ = some (.slice A0_0 l0_0.length c0_0):=(bC BK199.out 0).trans rfl
    have hcz33_1 : wr.cell? ⟨gb199,1,none⟩ = some (.slice A0_1 l0_1.length c0_1):=(bC BK199.out 1).trans rfl
    have hcz33_2 : wr.cell? ⟨gb199,2,none⟩ = some (.string a0_2):=(bC BK199.out 2).trans rfl
    have hfz33_0:=bF BK199.out 0
    have hfz33_1:=bF BK199.out 1
    have hfz33_2:=bF BK199.out 2
    have hnb34:=NB208_200.out
    have hnc34:=NB200_208.out
    have hcz35_0 : wr.cell? ⟨gb208,0,none⟩ = some (.slice Ao10 t201.length co10):=(bC BK208.out 0).trans rfl
    have hcz35_1 : wr.cell? ⟨gb208,1,none⟩ = some (.slice Ao14 t204.length co14):=(bC BK208.out 1).trans rfl
    have hcz35_2 : wr.cell? ⟨gb208,2,none⟩ = some (.string x209002_1):=(bC BK208.out 2).trans rfl
    have hfz35_0:=bF BK208.out 0
    have hfz35_1:=bF BK208.out 1
    have hfz35_2:=bF BK208.out 2
    have hcz36_0 : wr.cell? ⟨gb200,0,none⟩ = some (.slice none 0 0):=(bC BK200.out 0).trans rfl
    have hcz36_1 : wr.cell? ⟨gb200,1,none⟩ = some (.slice none 0 0):=(bC BK200.out 1).trans rfl
    have hcz36_2 : wr.cell? ⟨gb200,2,none⟩ = some (.string (⟨#[]⟩ : ByteArray)):=(bC BK200.out 2).trans rfl
    have hfz36_0:=bF BK200.out 0
    have hfz36_1:=bF BK200.out 1
    have hfz36_2:=bF BK200.out 2
    go_wp2
    refine bodyPost_ret (results_cell_row rfl _ _ gb200 38 #[.slice Ao10 t201.length co10,.slice Ao14 t204.length co14,.string x209002_1] (0,0) _ rfl (by (with_reducible repeat (first|refine bN ?_ _|refine bD ?_|refine bA ?_ _));refine blk_put (cs:=#[.slice Ao10 t201.length co10,.slice Ao14 t204.length co14,.string (⟨#[]⟩ : ByteArray)]) ?_ 2 _ rfl;(with_reducible repeat (first|refine bN ?_ _|refine bD ?_|refine bA ?_ _));refine blk_put (cs:=#[.slice Ao10 t201.length co10,.slice none 0 0,.string (⟨#[]⟩ : ByteArray)]) ?_ 1 _ rfl;(with_reducible repeat (first|refine bN ?_ _|refine bD ?_|refine bA ?_ _));refine blk_put (cs:=#[.slice none 0 0,.slice none 0 0,.string (⟨#[]⟩ : ByteArray)]) ?_ 0 _ rfl;(with_reducible repeat (first|refine bN ?_ _|refine bD ?_|refine bA ?_ _));exact BK200.out) Try.underlying38 rfl (by kernel_rfl)) rfl ?_
    exact ⟨_,_,by first|rfl|(simp [errW_none,errW_some] <;> rfl)|(simp [*,errW_none,errW_some] <;> rfl),by (with_reducible repeat (first|apply rA|apply rN|apply rD));exact Kd.R_mono (rF (p:=⟨gb200,2,none⟩) (rF (p:=⟨gb200,1,none⟩) (rF (p:=⟨gb200,0,none⟩) (rY HO_209000.out BK200.out (by decide)) (fun _ hk => hk.2) (.slice Ao10 t201.length co10)) (fun _ hk => hk.2) (.slice Ao14 t204.length co14)) (fun _ hk => hk.2) (.string x209002_1)) (fun _ hk => trivial),by (with_reducible repeat (first|apply rA|apply rN|apply rD));exact Kd.R_mono (rF (p:=⟨gb200,2,none⟩) (rF (p:=⟨gb200,1,none⟩) (rF (p:=⟨gb200,0,none⟩) (rY HO_209001.out BK200.out (by decide)) (fun _ hk => hk.2) (.slice Ao10 t201.length co10)) (fun _ hk => hk.2) (.slice Ao14 t204.length co14)) (fun _ hk => hk.2) (.string x209002_1)) (fun _ hk => trivial),by repeat (first|(with_reducible first|exact HB.out|apply lA|apply lN|apply lD|refine lS ?_ GE199.out|refine lS ?_ GE200.out|refine lS ?_ GE208.out)|exact HB.out)⟩

end Go.Proofs.Ytodpkfidkilpdaa.QFnExactDump
