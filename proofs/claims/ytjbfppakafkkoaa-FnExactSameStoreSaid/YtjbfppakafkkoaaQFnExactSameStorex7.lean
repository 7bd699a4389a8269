-- A text of this session, made by wip/own_print.py (the kit's print with additions of ours).
import Derived.Test.YtjbfppakafkkoaaQFnExactSameStorex0
import Derived.Test.YtjbfppakafkkoaaQFnExactSameStorex3
import Derived.Test.YtjbfppakafkkoaaQFnExactSameStorex5
import Derived.Test.YtjbfppakafkkoaaQFnExactSameStorex6
namespace Go.Proofs.Ytjbfppakafkkoaa.QFnExactSameStore
open Go.RowKit Go.Proofs.YtjbfppakafkkoaaW.PrintWords Go.Proofs.YtjbfppakafkkoaaW.PrintLast Go.Proofs.YtjbfppakafkkoaaW.PrintMore
attribute [local go_sem] max2_int min2_int max_two min_two max_three min_three max_four min_four   -- for this text's walks alone
set_option linter.unusedVariables false
set_option linter.unusedSimpArgs false
open Go.Proofs.YtjbfppakafkkoaaW.PrintWords.Kd renaming R_alloc → rA, R_drewN → rN, R_drew → rD, C_alloc → cA, C_drewN → cN, C_drew → cD, R_far → rF, R_below → rB, R_lower → rL, R_lt → rT, R_base → rS, C_below → cB, R_types → rY, R_elder' → rE, R_reads' → rR, R_new' → rW
open Go.Proofs.YtjbfppakafkkoaaW.PrintWords renaming blk_drewN → bN, blk_drew → bD, blk_alloc → bA, below_set → lS, pw_below_drewN → lN, below_drew1 → lD, below_alloc → lA, blk_cell → bC, blk_below → bB, below_size → lZ, below_step → lP, blk_lt → bL, blk_frozen → bF
open Go.Proofs.YtjbfppakafkkoaaW.PrintWords.Aside0 renaming mk → aM
theorem q_ia {α : Type} (l : List α) (i : Nat) (a : α) : l.toArray.setIfInBounds i a = (l.set i a).toArray := List.setIfInBounds_toArray ..
theorem q_cz {α : Type} (a b : α) (l : List α) : (a :: l).set 0 b = b :: l := rfl
theorem q_cs {α : Type} (a b : α) (l : List α) (n : Nat) : (a :: l).set (n + 1) b = a :: l.set n b := rfl

/-! ### laws_FnExactSameStore: function 11 -/
def laws_FnExactSameStore.f (k : Nat) (l0_0 : List (S141)) (l0_1 : List (S143)) (a0_2 : ByteArray) (l1_0 : List (S141)) (l1_1 : List (S143)) (a1_2 : ByteArray) : Option (Bool) := (laws_szStore.f k l0_0 l0_1 a0_2 1048576).bind fun t170 => (if t170 < 0 then (some true) else ((laws_szStore.f k l1_0 l1_1 a1_2 t170).bind fun t171 => (if t171 < 0 then (some true) else ((laws_toStore.f k l0_0 l0_1 a0_2).bind fun bt172 => ((laws_toStore.f k l1_0 l1_1 a1_2).bind fun bt179 => ((spec_SameStore.f k bt172.1 bt172.2.1 bt172.2.2 bt179.1 bt179.2.1 bt179.2.2).bind fun t186 => ((laws_toStore.f k l0_0 l0_1 a0_2).bind fun bt187 => ((laws_toStore.f k l1_0 l1_1 a1_2).bind fun bt195 => ((impl_SameStore.f k bt187.1 bt187.2.1 bt187.2.2 bt195.1 bt195.2.1 bt195.2.2).bind fun t203 => (if (t203 != t186) = true then (some false) else ((laws_toStore.f k l0_0 l0_1 a0_2).bind fun bt204 => ((laws_eqStore.f k bt187.1 bt187.2.1 bt187.2.2 bt204.1 bt204.2.1 bt204.2.2).bind fun t211 => (if t211 = true then ((laws_toStore.f k l1_0 l1_1 a1_2).bind fun bt212 => ((laws_eqStore.f k bt195.1 bt195.2.1 bt195.2.2 bt212.1 bt212.2.1 bt212.2.2).bind fun t219 => (if t219 = true then (some true) else (some false)))) else (some false))))))))))))))
theorem laws_FnExactSameStore.mono : ∀ a0 a1 a2 a3 a4 a5 k, LeO (laws_FnExactSameStore.f k a0 a1 a2 a3 a4 a5) (laws_FnExactSameStore.f (k + 1) a0 a1 a2 a3 a4 a5) := by
 intro a0 a1 a2 a3 a4 a5 k
 unfold laws_FnExactSameStore.f
 repeat' first
   | (with_reducible exact impl_SameStore.mono _ _ _ _ _ _ _)
   | (with_reducible exact laws_eqStore.mono _ _ _ _ _ _ _)
   | (with_reducible exact laws_szStore.mono _ _ _ _ _)
   | (with_reducible exact laws_toStore.mono _ _ _ _)
   | (with_reducible exact spec_SameStore.mono _ _ _ _ _ _ _)
   | (with_reducible exact LeO.refl _)
   | (with_reducible exact LeO.none _)
   | (with_reducible refine LeO.ite ?_ ?_)
   | (with_reducible refine LeO.bind ?_ (fun _ => ?_))
   | exact impl_SameStore.mono _ _ _ _ _ _ _
   | exact laws_eqStore.mono _ _ _ _ _ _ _
   | exact laws_szStore.mono _ _ _ _ _
   | exact laws_toStore.mono _ _ _ _
   | exact spec_SameStore.mono _ _ _ _ _ _ _
   | exact LeO.none _
   | refine LeO.ite ?_ ?_
   | refine LeO.bind ?_ (fun _ => ?_)
set_option maxHeartbeats 8000000 in
set_option maxRecDepth 100000 in
theorem laws_FnExactSameStore.calls (k : Nat) (A0_0 : Option Addr) (c0_0 : Nat) (l0_0 : List (S141)) (A0_1 : Option Addr) (c0_1 : Nat) (l0_1 : List (S143)) (a0_2 : ByteArray) (A1_0 : Option Addr) (c1_0 : Nat) (l1_0 : List (S141)) (A1_1 : Option Addr) (c1_1 : Nat) (l1_1 : List (S143)) (a1_2 : ByteArray) (r : Bool) (w : World) (hr0_0 : Kd.C k141 w A0_0 l0_0.length l0_0) (hc0_0 : l0_0.length ≤ c0_0) (hr0_1 : Kd.C k143 w A0_1 l0_1.length l0_1) (hc0_1 : l0_1.length ≤ c0_1) (hr1_0 : Kd.C k141 w A1_0 l1_0.length l1_0) (hc1_0 : l1_0.length ≤ c1_0) (hr1_1 : Kd.C k143 w A1_1 l1_1.length l1_1) (hc1_1 : l1_1.length ≤ c1_1) (h : laws_FnExactSameStore.f k l0_0 l0_1 a0_2 l1_0 l1_1 a1_2 = some r) :
  Calls Try.prog 11 #[.agg #[.slice A0_0 l0_0.length c0_0,.slice A0_1 l0_1.length c0_1,.string a0_2],.agg #[.slice A1_0 l1_0.length c1_0,.slice A1_1 l1_1.length c1_1,.string a1_2]] w fun e w' => e = .returned (.bool r) ∧ Below w.heap.size w w':=by
 have hu48:=Try.underlying48
 have hu54:=Try.underlying54
 have HR0_0:=aM hr0_0
 have HC0_0:=aM hc0_0
 clear hr0_0 hc0_0
 have HR0_1:=aM hr0_1
 have HC0_1:=aM hc0_1
 clear hr0_1 hc0_1
 have HR1_0:=aM hr1_0
 have HC1_0:=aM hc1_0
 clear hr1_0 hc1_0
 have HR1_1:=aM hr1_1
 have HC1_1:=aM hc1_1
 clear hr1_1 hc1_1
 have HB:=aM (Below.refl w.heap.size w)
 have H : ((laws_szStore.f k l0_0 l0_1 a0_2 1048576).bind fun t170 => (if t170 < 0 then (some true) else ((laws_szStore.f k l1_0 l1_1 a1_2 t170).bind fun t171 => (if t171 < 0 then (some true) else ((laws_toStore.f k l0_0 l0_1 a0_2).bind fun bt172 => ((laws_toStore.f k l1_0 l1_1 a1_2).bind fun bt179 => ((spec_SameStore.f k bt172.1 bt172.2.1 bt172.2.2 bt179.1 bt179.2.1 bt179.2.2).bind fun t186 => ((laws_toStore.f k l0_0 l0_1 a0_2).bind fun bt187 => ((laws_toStore.f k l1_0 l1_1 a1_2).bind fun bt195 => ((impl_SameStore.f k bt187.1 bt187.2.1 bt187.2.2 bt195.1 bt195.2.1 bt195.2.2).bind fun t203 => (if (t203 != t186) = true then (some false) else ((laws_toStore.f k l0_0 l0_1 a0_2).bind fun bt204 => ((laws_eqStore.f k bt187.1 bt187.2.1 bt187.2.2 bt204.1 bt204.2.1 bt204.2.2).bind fun t211 => (if t211 = true then ((laws_toStore.f k l1_0 l1_1 a1_2).bind fun bt212 => ((laws_eqStore.f k bt195.1 bt195.2.1 bt195.2.2 bt212.1 bt212.2.1 bt212.2.2).bind fun t219 => (if t219 = true then (some true) else (some false)))) else (some false))))))))))))))) = some r:=h
 clear h
 replace H:=Option.bind_eq_some_iff.mp H
 obtain ⟨t170,A30,H⟩:=H
 replace H : (if t170 < 0 then (some true) else ((laws_szStore.f k l1_0 l1_1 a1_2 t170).bind fun t171 => (if t171 < 0 then (some true) else ((laws_toStore.f k l0_0 l0_1 a0_2).bind fun bt172 => ((laws_toStore.f k l1_0 l1_1 a1_2).bind fun bt179 => ((spec_SameStore.f k bt172.1 bt172.2.1 bt172.2.2 bt179.1 bt179.2.1 bt179.2.2).bind fun t186 => ((laws_toStore.f k l0_0 l0_1 a0_2).bind fun bt187 => ((laws_toStore.f k l1_0 l1_1 a1_2).bind fun bt195 => ((impl_SameStore.f k bt187.1 bt187.2.1 bt187.2.2 bt195.1 bt195.2.1 bt195.2.2).bind fun t203 => (if (t203 != t186) = true then (some false) else ((laws_toStore.f k l0_0 l0_1 a0_2).bind fun bt204 => ((laws_eqStore.f k bt187.1 bt187.2.1 bt187.2.2 bt204.1 bt204.2.1 bt204.2.2).bind fun t211 => (if t211 = true then ((laws_toStore.f k l1_0 l1_1 a1_2).bind fun bt212 => ((laws_eqStore.f k bt195.1 bt195.2.1 bt195.2.2 bt212.1 bt212.2.1 bt212.2.2).bind fun t219 => (if t219 = true then (some true) else (some false)))) else (some false)))))))))))))) = some r:=H
 have A3:=aM A30
 clear A30
 by_cases c4 : t170 < 0
 ·rw [if_pos c4] at H
  have c4b0 : decide (t170 < 0) = true:=decide_eq_true c4
  clear c4
  obtain rfl:=Option.some.inj H
  go_enter Try.func11,Try.ntmps11
  go_wp2_with (first|((with_reducible refine gate_dst (N:=2) rfl ?_);refine box_event ?hg (N:=2) ?hd (cs:=#[.slice A0_0 l0_0.length c0_0,.slice A0_1 l0_1.length c0_1,.string a0_2]) (t:=48) ?hr ?_;(case hd => rfl);(case hg => rfl);(case hr => first|(go_simp;done)|(go_simp;rfl));intro gb168 hg w5 hbox hb;have n0_:=aM (lP (by repeat (first|(with_reducible first|exact HB.out|apply lA|apply lN|apply lD)|exact HB.out)) hb);have n1_:=aM (hbox);have n2_:=aM ((by rw [hg];exact (lZ (by repeat (first|(with_reducible first|exact HB.out|apply lA|apply lN|apply lD)|exact HB.out))) : w.heap.size ≤ gb168));have n3_:=aM ((by rw [hg];exact (lZ (by repeat (first|(with_reducible first|exact HB.out|apply lA|apply lN|apply lD)|exact HB.out))) : w.heap.size ≤ gb168));clear HB;have HB:=n0_;have BK168:=n1_;have GW168:=n2_;have GE168:=n3_;clear n0_ n1_ n2_ n3_ hb hbox hg)|((with_reducible refine gate_dst (N:=3) rfl ?_);refine box_event ?hg (N:=3) ?hd (cs:=#[.slice A1_0 l1_0.length c1_0,.slice A1_1 l1_1.length c1_1,.string a1_2]) (t:=48) ?hr ?_;(case hd => rfl);(case hg => rfl);(case hr => first|(go_simp;done)|(go_simp;rfl));intro gb169 hg w6 hbox hb;have n0_:=aM (bB (g:=gb168) (o:=.cells #[.slice A0_0 l0_0.length c0_0,.slice A0_1 l0_1.length c0_1,.string a0_2] 48 (0,0)) (by (with_reducible repeat (first|refine bN ?_ _|refine bD ?_|refine bA ?_ _));exact BK168.out) hb);have n1_:=aM (lP (by repeat (first|(with_reducible first|exact HB.out|apply lA|apply lN|apply lD|refine lS ?_ GE168.out)|exact HB.out)) hb);have n2_:=aM (hbox);have n3_:=aM ((by rw [hg];exact (lZ (by repeat (first|(with_reducible first|exact HB.out|apply lA|apply lN|apply lD|refine lS ?_ GE168.out)|exact HB.out))) : w.heap.size ≤ gb169));have n4_:=aM ((by rw [hg];exact (lZ (by repeat (first|(with_reducible first|exact HB.out|apply lA|apply lN|apply lD|refine lS ?_ GE168.out)|exact HB.out))) : w.heap.size ≤ gb169));have n5_:=aM ((by rw [hg];exact Nat.ne_of_lt (bL (g:=gb168) (o:=.cells #[.slice A0_0 l0_0.length c0_0,.slice A0_1 l0_1.length c0_1,.string a0_2] 48 (0,0)) (by (with_reducible repeat (first|refine bN ?_ _|refine bD ?_|refine bA ?_ _));exact BK168.out)) : gb168 ≠ gb169));have n6_:=aM ((by rw [hg];exact Nat.ne_of_gt (bL (g:=gb168) (o:=.cells #[.slice A0_0 l0_0.length c0_0,.slice A0_1 l0_1.length c0_1,.string a0_2] 48 (0,0)) (by (with_reducible repeat (first|refine bN ?_ _|refine bD ?_|refine bA ?_ _));exact BK168.out)) : gb169 ≠ gb168));clear BK168 HB;have BK168:=n0_;have HB:=n1_;have BK169:=n2_;have GW169:=n3_;have GE169:=n4_;have NB168_169:=n5_;have NB169_168:=n6_;clear n0_ n1_ n2_ n3_ n4_ n5_ n6_ hb hbox hg;have hnb7:=NB168_169.out;have hnc7:=NB169_168.out;have hcz8_0 : w6.cell? ⟨gb168,0,none⟩ = some (.slice A0_0 l0_0.length c0_0):=(bC BK168.out 0).trans rfl;have hcz8_1 : w6.cell? ⟨gb168,1,none⟩ = some (.slice A0_1 l0_1.length c0_1):=(bC BK168.out 1).trans rfl;have hcz8_2 : w6.cell? ⟨gb168,2,none⟩ = some (.string a0_2):=(bC BK168.out 2).trans rfl;have hfz8_0:=bF BK168.out 0;have hfz8_1:=bF BK168.out 1;have hfz8_2:=bF BK168.out 2)|((with_reducible refine gate_callee (f:=34) rfl ?_);refine goesL_ (some 12) rfl rfl Try.func34 (by kernel_rfl) rfl #[.agg #[.slice A0_0 l0_0.length c0_0,.slice A0_1 l0_1.length c0_1,.string a0_2],.int .i64 1048576] rfl (by (try simp only [List.map_toArray,List.map_cons,List.map_nil]);first|done|rfl|(simp only [List.length_drop,List.length_take];rfl)) ?_;(with_reducible refine (laws_szStore.calls k _ _ l0_0 _ _ l0_1 a0_2 1048576 t170 _ ?side1 ?side2 ?side3 ?side4 A3.out).mono ?_);(case side1 => repeat (first|exact (cB HR0_0.out HB.out)|(with_reducible first|refine cA ?_ _|refine cN ?_ _|refine cD ?_)));(case side2 => exact HC0_0.out);(case side3 => repeat (first|exact (cB HR0_1.out HB.out)|(with_reducible first|refine cA ?_ _|refine cN ?_ _|refine cD ?_)));(case side4 => exact HC0_1.out);rintro e w9 ⟨rfl,hb⟩;refine ⟨_,rfl,?_⟩;have n0_:=aM (bB (g:=gb168) (o:=.cells #[.slice A0_0 l0_0.length c0_0,.slice A0_1 l0_1.length c0_1,.string a0_2] 48 (0,0)) (by (with_reducible repeat (first|refine bN ?_ _|refine bD ?_|refine bA ?_ _));exact BK168.out) hb);have n1_:=aM (bB (g:=gb169) (o:=.cells #[.slice A1_0 l1_0.length c1_0,.slice A1_1 l1_1.length c1_1,.string a1_2] 48 (0,0)) (by (with_reducible repeat (first|refine bN ?_ _|refine bD ?_|refine bA ?_ _));exact BK169.out) hb);have n2_:=aM (lP (by repeat (first|(with_reducible first|exact HB.out|apply lA|apply lN|apply lD|refine lS ?_ GE168.out|refine lS ?_ GE169.out)|exact HB.out)) hb);clear BK168 BK169 HB;have BK168:=n0_;have BK169:=n1_;have HB:=n2_;clear n0_ n1_ n2_;(try clear hb);(try clear hb2);(try clear hk);(try clear hi)))
  go_ret
  exact ⟨by first|rfl|(simp [errW_none,errW_some] <;> rfl)|(simp [*,errW_none,errW_some] <;> rfl),by repeat (first|(with_reducible first|exact HB.out|apply lA|apply lN|apply lD|refine lS ?_ GE168.out|refine lS ?_ GE169.out)|exact HB.out)⟩
 ·rw [if_neg c4] at H
  have c4b0 : decide (t170 < 0) = false:=decide_eq_false c4
  clear c4
  replace H:=Option.bind_eq_some_iff.mp H
  obtain ⟨t171,A100,H⟩:=H
  replace H : (if t171 < 0 then (some true) else ((laws_toStore.f k l0_0 l0_1 a0_2).bind fun bt172 => ((laws_toStore.f k l1_0 l1_1 a1_2).bind fun bt179 => ((spec_SameStore.f k bt172.1 bt172.2.1 bt172.2.2 bt179.1 bt179.2.1 bt179.2.2).bind fun t186 => ((laws_toStore.f k l0_0 l0_1 a0_2).bind fun bt187 => ((laws_toStore.f k l1_0 l1_1 a1_2).bind fun bt195 => ((impl_SameStore.f k bt187.1 bt187.2.1 bt187.2.2 bt195.1 bt195.2.1 bt195.2.2).bind fun t203 => (if (t203 != t186) = true then (some false) else ((laws_toStore.f k l0_0 l0_1 a0_2).bind fun bt204 => ((laws_eqStore.f k bt187.1 bt187.2.1 bt187.2.2 bt204.1 bt204.2.1 bt204.2.2).bind fun t211 => (if t211 = true then ((laws_toStore.f k l1_0 l1_1 a1_2).bind fun bt212 => ((laws_eqStore.f k bt195.1 bt195.2.1 bt195.2.2 bt212.1 bt212.2.1 bt212.2.2).bind fun t219 => (if t219 = true then (some true) else (some false)))) else (some false)))))))))))) = some r:=H
  have A10:=aM A100
  clear A100
  by_cases c11 : t171 < 0
  ·rw [if_pos c11] at H
   have c11b0 : decide (t171 < 0) = true:=decide_eq_true c11
   clear c11
   obtain rfl:=Option.some.inj H
   go_enter Try.func11,Try.ntmps11
   go_wp2_with (first|((with_reducible refine gate_dst (N:=2) rfl ?_);refine box_event ?hg (N:=2) ?hd (cs:=#[.slice A0_0 l0_0.length c0_0,.slice A0_1 l0_1.length c0_1,.string a0_2]) (t:=48) ?hr ?_;(case hd => rfl);(case hg => rfl);(case hr => first|(go_simp;done)|(go_simp;rfl));intro gb168 hg w12 hbox hb;have n0_:=aM (lP (by repeat (first|(with_reducible first|exact HB.out|apply lA|apply lN|apply lD)|exact HB.out)) hb);have n1_:=aM (hbox);have n2_:=aM ((by rw [hg];exact (lZ (by repeat (first|(with_reducible first|exact HB.out|apply lA|apply lN|apply lD)|exact HB.out))) : w.heap.size ≤ gb168));have n3_:=aM ((by rw [hg];exact (lZ (by repeat (first|(with_reducible first|exact HB.out|apply lA|apply lN|apply lD)|exact HB.out))) : w.heap.size ≤ gb168));clear HB;have HB:=n0_;have BK168:=n1_;have GW168:=n2_;have GE168:=n3_;clear n0_ n1_ n2_ n3_ hb hbox hg)|((with_reducible refine gate_dst (N:=3) rfl ?_);refine box_event ?hg (N:=3) ?hd (cs:=#[.slice A1_0 l1_0.length c1_0,.slice A1_1 l1_1.length c1_1,.string a1_2]) (t:=48) ?hr ?_;(case hd => rfl);(case hg => rfl);(case hr => first|(go_simp;done)|(go_simp;rfl));intro gb169 hg w13 hbox hb;have n0_:=aM (bB (g:=gb168) (o:=.cells #[.slice A0_0 l0_0.length c0_0,.slice A0_1 l0_1.length c0_1,.string a0_2] 48 (0,0)) (by (with_reducible repeat (first|refine bN ?_ _|refine bD ?_|refine bA ?_ _));exact BK168.out) hb);have n1_:=aM (lP (by repeat (first|(with_reducible first|exact HB.out|apply lA|apply lN|apply lD|refine lS ?_ GE168.out)|exact HB.out)) hb);have n2_:=aM (hbox);have n3_:=aM ((by rw [hg];exact (lZ (by repeat (first|(with_reducible first|exact HB.out|apply lA|apply lN|apply lD|refine lS ?_ GE168.out)|exact HB.out))) : w.heap.size ≤ gb169));have n4_:=aM ((by rw [hg];exact (lZ (by repeat (first|(with_reducible first|exact HB.out|apply lA|apply lN|apply lD|refine lS ?_ GE168.out)|exact HB.out))) : w.heap.size ≤ gb169));have n5_:=aM ((by rw [hg];exact Nat.ne_of_lt (bL (g:=gb168) (o:=.cells #[.slice A0_0 l0_0.length c0_0,.slice A0_1 l0_1.length c0_1,.string a0_2] 48 (0,0)) (by (with_reducible repeat (first|refine bN ?_ _|refine bD ?_|refine bA ?_ _));exact BK168.out)) : gb168 ≠ gb169));have n6_:=aM ((by rw [hg];exact Nat.ne_of_gt (bL (g:=gb168) (o:=.cells #[.slice A0_0 l0_0.length c0_0,.slice A0_1 l0_1.length c0_1,.string a0_2] 48 (0,0)) (by (with_reducible repeat (first|refine bN ?_ _|refine bD ?_|refine bA ?_ _));exact BK168.out)) : gb169 ≠ gb168));clear BK168 HB;have BK168:=n0_;have HB:=n1_;have BK169:=n2_;have GW169:=n3_;have GE169:=n4_;have NB168_169:=n5_;have NB169_168:=n6_;clear n0_ n1_ n2_ n3_ n4_ n5_ n6_ hb hbox hg;have hnb14:=NB168_169.out;have hnc14:=NB169_168.out;have hcz15_0 : w13.cell? ⟨gb168,0,none⟩ = some (.slice A0_0 l0_0.length c0_0):=(bC BK168.out 0).trans rfl;have hcz15_1 : w13.cell? ⟨gb168,1,none⟩ = some (.slice A0_1 l0_1.length c0_1):=(bC BK168.out 1).trans rfl;have hcz15_2 : w13.cell? ⟨gb168,2,none⟩ = some (.string a0_2):=(bC BK168.out 2).trans rfl;have hfz15_0:=bF BK168.out 0;have hfz15_1:=bF BK168.out 1;have hfz15_2:=bF BK168.out 2)|((with_reducible refine gate_callee (f:=34) rfl ?_);refine goesL_ (some 12) rfl rfl Try.func34 (by kernel_rfl) rfl #[.agg #[.slice A0_0 l0_0.length c0_0,.slice A0_1 l0_1.length c0_1,.string a0_2],.int .i64 1048576] rfl (by (try simp only [List.map_toArray,List.map_cons,List.map_nil]);first|done|rfl|(simp only [List.length_drop,List.length_take];rfl)) ?_;(with_reducible refine (laws_szStore.calls k _ _ l0_0 _ _ l0_1 a0_2 1048576 t170 _ ?side1 ?side2 ?side3 ?side4 A3.out).mono ?_);(case side1 => repeat (first|exact (cB HR0_0.out HB.out)|(with_reducible first|refine cA ?_ _|refine cN ?_ _|refine cD ?_)));(case side2 => exact HC0_0.out);(case side3 => repeat (first|exact (cB HR0_1.out HB.out)|(with_reducible first|refine cA ?_ _|refine cN ?_ _|refine cD ?_)));(case side4 => exact HC0_1.out);rintro e w16 ⟨rfl,hb⟩;refine ⟨_,rfl,?_⟩;have n0_:=aM (bB (g:=gb168) (o:=.cells #[.slice A0_0 l0_0.length c0_0,.slice A0_1 l0_1.length c0_1,.string a0_2] 48 (0,0)) (by (with_reducible repeat (first|refine bN ?_ _|refine bD ?_|refine bA ?_ _));exact BK168.out) hb);have n1_:=aM (bB (g:=gb169) (o:=.cells #[.slice A1_0 l1_0.length c1_0,.slice A1_1 l1_1.length c1_1,.string a1_2] 48 (0,0)) (by (with_reducible repeat (first|refine bN ?_ _|refine bD ?_|refine bA ?_ _));exact BK169.out) hb);have n2_:=aM (lP (by repeat (first|(with_reducible first|exact HB.out|apply lA|apply lN|apply lD|refine lS ?_ GE168.out|refine lS ?_ GE169.out)|exact HB.out)) hb);clear BK168 BK169 HB;have BK168:=n0_;have BK169:=n1_;have HB:=n2_;clear n0_ n1_ n2_;(try clear hb);(try clear hb2);(try clear hk);(try clear hi);have hcz17_0 : w16.cell? ⟨gb169,0,none⟩ = some (.slice A1_0 l1_0.length c1_0):=(bC BK169.out 0).trans rfl;have hcz17_1 : w16.cell? ⟨gb169,1,none⟩ = some (.slice A1_1 l1_1.length c1_1):=(bC BK169.out 1).trans rfl;have hcz17_2 : w16.cell? ⟨gb169,2,none⟩ = some (.string a1_2):=(bC BK169.out 2).trans rfl;have hfz17_0:=bF BK169.out 0;have hfz17_1:=bF BK169.out 1;have hfz17_2:=bF BK169.out 2)|((with_reducible refine gate_callee (f:=34) rfl ?_);refine goesL_ (some 17) rfl rfl Try.func34 (by kernel_rfl) rfl #[.agg #[.slice A1_0 l1_0.length c1_0,.slice A1_1 l1_1.length c1_1,.string a1_2],.int .i64 t170] rfl (by (try simp only [List.map_toArray,List.map_cons,List.map_nil]);first|done|rfl|(simp only [List.length_drop,List.length_take];rfl)) ?_;(with_reducible refine (laws_szStore.calls k _ _ l1_0 _ _ l1_1 a1_2 t170 t171 _ ?side1 ?side2 ?side3 ?side4 A10.out).mono ?_);(case side1 => repeat (first|exact (cB HR1_0.out HB.out)|(with_reducible first|refine cA ?_ _|refine cN ?_ _|refine cD ?_)));(case side2 => exact HC1_0.out);(case side3 => repeat (first|exact (cB HR1_1.out HB.out)|(with_reducible first|refine cA ?_ _|refine cN ?_ _|refine cD ?_)));(case side4 => exact HC1_1.out);rintro e w18 ⟨rfl,hb⟩;refine ⟨_,rfl,?_⟩;have n0_:=aM (bB (g:=gb168) (o:=.cells #[.slice A0_0 l0_0.length c0_0,.slice A0_1 l0_1.length c0_1,.string a0_2] 48 (0,0)) (by (with_reducible repeat (first|refine bN ?_ _|refine bD ?_|refine bA ?_ _));exact BK168.out) hb);have n1_:=aM (bB (g:=gb169) (o:=.cells #[.slice A1_0 l1_0.length c1_0,.slice A1_1 l1_1.length c1_1,.string a1_2] 48 (0,0)) (by (with_reducible repeat (first|refine bN ?_ _|refine bD ?_|refine bA ?_ _));exact BK169.out) hb);have n2_:=aM (lP (by repeat (first|(with_reducible first|exact HB.out|apply lA|apply lN|apply lD|refine lS ?_ GE168.out|refine lS ?_ GE169.out)|exact HB.out)) hb);clear BK168 BK169 HB;have BK168:=n0_;have BK169:=n1_;have HB:=n2_;clear n0_ n1_ n2_;(try clear hb);(try clear hb2);(try clear hk);(try clear hi)))
   go_ret
   exact ⟨by first|rfl|(simp [errW_none,errW_some] <;> rfl)|(simp [*,errW_none,errW_some] <;> rfl),by repeat (first|(with_reducible first|exact HB.out|apply lA|apply lN|apply lD|refine lS ?_ GE168.out|refine lS ?_ GE169.out)|exact HB.out)⟩
  ·rw [if_neg c11] at H
   have c11b0 : decide (t171 < 0) = false:=decide_eq_false c11
   clear c11
   replace H:=Option.bind_eq_some_iff.mp H
   obtain ⟨⟨t172,t175,t178⟩,A190,H⟩:=H
   replace H : ((laws_toStore.f k l1_0 l1_1 a1_2).bind fun bt179 => ((spec_SameStore.f k t172 t175 t178 bt179.1 bt179.2.1 bt179.2.2).bind fun t186 => ((laws_toStore.f k l0_0 l0_1 a0_2).bind fun bt187 => ((laws_toStore.f k l1_0 l1_1 a1_2).bind fun bt195 => ((impl_SameStore.f k bt187.1 bt187.2.1 bt187.2.2 bt195.1 bt195.2.1 bt195.2.2).bind fun t203 => (if (t203 != t186) = true then (some false) else ((laws_toStore.f k l0_0 l0_1 a0_2).bind fun bt204 => ((laws_eqStore.f k bt187.1 bt187.2.1 bt187.2.2 bt204.1 bt204.2.1 bt204.2.2).bind fun t211 => (if t211 = true then ((laws_toStore.f k l1_0 l1_1 a1_2).bind fun bt212 => ((laws_eqStore.f k bt195.1 bt195.2.1 bt195.2.2 bt212.1 bt212.2.1 bt212.2.2).bind fun t219 => (if t219 = true then (some true) else (some false)))) else (some false)))))))))) = some r:=H
   have A19:=aM A190
   clear A190
   replace H:=Option.bind_eq_some_iff.mp H
   obtain ⟨⟨t179,t182,t185⟩,A200,H⟩:=H
   replace H : ((spec_SameStore.f k t172 t175 t178 t179 t182 t185).bind fun t186 => ((laws_toStore.f k l0_0 l0_1 a0_2).bind fun bt187 => ((laws_toStore.f k l1_0 l1_1 a1_2).bind fun bt195 => ((impl_SameStore.f k bt187.1 bt187.2.1 bt187.2.2 bt195.1 bt195.2.1 bt195.2.2).bind fun t203 => (if (t203 != t186) = true then (some false) else ((laws_toStore.f k l0_0 l0_1 a0_2).bind fun bt204 => ((laws_eqStore.f k bt187.1 bt187.2.1 bt187.2.2 bt204.1 bt204.2.1 bt204.2.2).bind fun t211 => (if t211 = true then ((laws_toStore.f k l1_0 l1_1 a1_2).bind fun bt212 => ((laws_eqStore.f k bt195.1 bt195.2.1 bt195.2.2 bt212.1 bt212.2.1 bt212.2.2).bind fun t219 => (if t219 = true then (some true) else (some false)))) else (some false))))))))) = some r:=H
   have A20:=aM A200
   clear A200
   replace H:=Option.bind_eq_some_iff.mp H
   obtain ⟨t186,A210,H⟩:=H
   replace H : ((laws_toStore.f k l0_0 l0_1 a0_2).bind fun bt187 => ((laws_toStore.f k l1_0 l1_1 a1_2).bind fun bt195 => ((impl_SameStore.f k bt187.1 bt187.2.1 bt187.2.2 bt195.1 bt195.2.1 bt195.2.2).bind fun t203 => (if (t203 != t186) = true then (some false) else ((laws_toStore.f k l0_0 l0_1 a0_2).bind fun bt204 => ((laws_eqStore.f k bt187.1 bt187.2.1 bt187.2.2 bt204.1 bt204.2.1 bt204.2.2).bind fun t211 => (if t211 = true then ((laws_toStore.f k l1_0 l1_1 a1_2).bind fun bt212 => ((laws_eqStore.f k bt195.1 bt195.2.1 bt195.2.2 bt212.1 bt212.2.1 bt212.2.2).bind fun t219 => (if t219 = true then (some true) else (some false)))) else (some false)))))))) = some r:=H
   have A21:=aM A210
   clear A210
   replace H:=Option.bind_eq_some_iff.mp H
   obtain ⟨⟨t187,t190,t193⟩,A220,H⟩:=H
   replace H : ((laws_toStore.f k l1_0 l1_1 a1_2).bind fun bt195 => ((impl_SameStore.f k t187 t190 t193 bt195.1 bt195.2.1 bt195.2.2).bind fun t203 => (if (t203 != t186) = true then (some false) else ((laws_toStore.f k l0_0 l0_1 a0_2).bind fun bt204 => ((laws_eqStore.f k t187 t190 t193 bt204.1 bt204.2.1 bt204.2.2).bind fun t211 => (if t211 = true then ((laws_toStore.f k l1_0 l1_1 a1_2).bind fun bt212 => ((laws_eqStore.f k bt195.1 bt195.2.1 bt195.2.2 bt212.1 bt212.2.1 bt212.2.2).bind fun t219 => (if t219 = true then (some true) else (some false)))) else (some false))))))) = some r:=H
   have A22:=aM A220
   clear A220
   replace H:=Option.bind_eq_some_iff.mp H
   obtain ⟨⟨t195,t198,t201⟩,A230,H⟩:=H
   replace H : ((impl_SameStore.f k t187 t190 t193 t195 t198 t201).bind fun t203 => (if (t203 != t186) = true then (some false) else ((laws_toStore.f k l0_0 l0_1 a0_2).bind fun bt204 => ((laws_eqStore.f k t187 t190 t193 bt204.1 bt204.2.1 bt204.2.2).bind fun t211 => (if t211 = true then ((laws_toStore.f k l1_0 l1_1 a1_2).bind fun bt212 => ((laws_eqStore.f k t195 t198 t201 bt212.1 bt212.2.1 bt212.2.2).bind fun t219 => (if t219 = true then (some true) else (some false)))) else (some false)))))) = some r:=H
   have A23:=aM A230
   clear A230
   replace H:=Option.bind_eq_some_iff.mp H
   obtain ⟨t203,A240,H⟩:=H
   replace H : (if (t203 != t186) = true then (some false) else ((laws_toStore.f k l0_0 l0_1 a0_2).bind fun bt204 => ((laws_eqStore.f k t187 t190 t193 bt204.1 bt204.2.1 bt204.2.2).bind fun t211 => (if t211 = true then ((laws_toStore.f k l1_0 l1_1 a1_2).bind fun bt212 => ((laws_eqStore.f k t195 t198 t201 bt212.1 bt212.2.1 bt212.2.2).bind fun t219 => (if t219 = true then (some true) else (some false)))) else (some false))))) = some r:=H
   have A24:=aM A240
   clear A240
   by_cases c25 : (t203 != t186) = true
   ·rw [if_pos c25] at H
    have c25b0 : (t203 != t186) = true:=c25
    (try (have c25b1 : decide (t203 = t186) = false:=by simpa using c25))
    (try (have c25b2 : (t203 == t186) = false:=by simpa using c25))
    (try (have c25b3 : ¬ (t203 = t186):=by simpa using c25))
    clear c25
    obtain rfl:=Option.some.inj H
    go_enter Try.func11,Try.ntmps11
    try go_wp2_with (first|((with_reducible refine gate_dst (N:=2) rfl ?_);refine box_event ?hg (N:=2) ?hd (cs:=#[.slice A0_0 l0_0.length c0_0,.slice A0_1 l0_1.length c0_1,.string a0_2]) (t:=48) ?hr ?_;(case hd => rfl);(case hg => rfl);(case hr => first|(go_simp;done)|(go_simp;rfl));intro gb168 hg w26 hbox hb;have n0_:=aM (lP (by repeat (first|(with_reducible first|exact HB.out|apply lA|apply lN|apply lD)|exact HB.out)) hb);have n1_:=aM (hbox);have n2_:=aM ((by rw [hg];exact (lZ (by repeat (first|(with_reducible first|exact HB.out|apply lA|apply lN|apply lD)|exact HB.out))) : w.heap.size ≤ gb168));have n3_:=aM ((by rw [hg];exact (lZ (by repeat (first|(with_reducible first|exact HB.out|apply lA|apply lN|apply lD)|exact HB.out))) : w.heap.size ≤ gb168));clear HB;have HB:=n0_;have BK168:=n1_;have GW168:=n2_;have GE168:=n3_;clear n0_ n1_ n2_ n3_ hb hbox hg)|((with_reducible refine gate_dst (N:=3) rfl ?_);refine box_event ?hg (N:=3) ?hd (cs:=#[.slice A1_0 l1_0.length c1_0,.slice A1_1 l1_1.length c1_1,.string a1_2]) (t:=48) ?hr ?_;(case hd => rfl);(case hg => rfl);(case hr => first|(go_simp;done)|(go_simp;rfl));intro gb169 hg w27 hbox hb;have n0_:=aM (bB (g:=gb168) (o:=.cells #[.slice A0_0 l0_0.length c0_0,.slice A0_1 l0_1.length c0_1,.string a0_2] 48 (0,0)) (by (with_reducible repeat (first|refine bN ?_ _|refine bD ?_|refine bA ?_ _));exact BK168.out) hb);have n1_:=aM (lP (by repeat (first|(with_reducible first|exact HB.out|apply lA|apply lN|apply lD|refine lS ?_ GE168.out)|exact HB.out)) hb);have n2_:=aM (hbox);have n3_:=aM ((by rw [hg];exact (lZ (by repeat (first|(with_reducible first|exact HB.out|apply lA|apply lN|apply lD|refine lS ?_ GE168.out)|exact HB.out))) : w.heap.size ≤ gb169));have n4_:=aM ((by rw [hg];exact (lZ (by repeat (first|(with_reducible first|exact HB.out|apply lA|apply lN|apply lD|refine lS ?_ GE168.out)|exact HB.out))) : w.heap.size ≤ gb169));have n5_:=aM ((by rw [hg];exact Nat.ne_of_lt (bL (g:=gb168) (o:=.cells #[.slice A0_0 l0_0.length c0_0,.slice A0_1 l0_1.length c0_1,.string a0_2] 48 (0,0)) (by (with_reducible repeat (first|refine bN ?_ _|refine bD ?_|refine bA ?_ _));exact BK168.out)) : gb168 ≠ gb169));have n6_:=aM ((by rw [hg];exact Nat.ne_of_gt (bL (g:=gb168) (o:=.cells #[.slice A0_0 l0_0.length c0_0,.slice A0_1 l0_1.length c0_1,.string a0_2] 48 (0,0)) (by (with_reducible repeat (first|refine bN ?_ _|refine bD ?_|refine bA ?_ _));exact BK168.out)) : gb169 ≠ gb168));clear BK168 HB;have BK168:=n0_;have HB:=n1_;have BK169:=n2_;have GW169:=n3_;have GE169:=n4_;have NB168_169:=n5_;have NB169_168:=n6_;clear n0_ n1_ n2_ n3_ n4_ n5_ n6_ hb hbox hg;have hnb28:=NB168_169.out;have hnc28:=NB169_168.out;have hcz29_0 : w27.cell? ⟨gb168,0,none⟩ = some (.slice A0_0 l0_0.length c0_0):=(bC BK168.out 0).trans rfl;have hcz29_1 : w27.cell? ⟨gb168,1,none⟩ = some (.slice A0_1 l0_1.length c0_1):=(bC BK168.out 1).trans rfl;have hcz29_2 : w27.cell? ⟨gb168,2,none⟩ = some (.string a0_2):=(bC BK168.out 2).trans rfl;have hfz29_0:=bF BK168.out 0;have hfz29_1:=bF BK168.out 1;have hfz29_2:=bF BK168.out 2)|((with_reducible refine gate_callee (f:=34) rfl ?_);refine goesL_ (some 12) rfl rfl Try.func34 (by kernel_rfl) rfl #[.agg #[.slice A0_0 l0_0.length c0_0,.slice A0_1 l0_1.length c0_1,.string a0_2],.int .i64 1048576] rfl (by (try simp only [List.map_toArray,List.map_cons,List.map_nil]);first|done|rfl|(simp only [List.length_drop,List.length_take];rfl)) ?_;(with_reducible refine (laws_szStore.calls k _ _ l0_0 _ _ l0_1 a0_2 1048576 t170 _ ?side1 ?side2 ?side3 ?side4 A3.out).mono ?_);(case side1 => repeat (first|exact (cB HR0_0.out HB.out)|(with_reducible first|refine cA ?_ _|refine cN ?_ _|refine cD ?_)));(case side2 => exact HC0_0.out);(case side3 => repeat (first|exact (cB HR0_1.out HB.out)|(with_reducible first|refine cA ?_ _|refine cN ?_ _|refine cD ?_)));(case side4 => exact HC0_1.out);rintro e w30 ⟨rfl,hb⟩;refine ⟨_,rfl,?_⟩;have n0_:=aM (bB (g:=gb168) (o:=.cells #[.slice A0_0 l0_0.length c0_0,.slice A0_1 l0_1.length c0_1,.string a0_2] 48 (0,0)) (by (with_reducible repeat (first|refine bN ?_ _|refine bD ?_|refine bA ?_ _));exact BK168.out) hb);have n1_:=aM (bB (g:=gb169) (o:=.cells #[.slice A1_0 l1_0.length c1_0,.slice A1_1 l1_1.length c1_1,.string a1_2] 48 (0,0)) (by (with_reducible repeat (first|refine bN ?_ _|refine bD ?_|refine bA ?_ _));exact BK169.out) hb);have n2_:=aM (lP (by repeat (first|(with_reducible first|exact HB.out|apply lA|apply lN|apply lD|refine lS ?_ GE168.out|refine lS ?_ GE169.out)|exact HB.out)) hb);clear BK168 BK169 HB;have BK168:=n0_;have BK169:=n1_;have HB:=n2_;clear n0_ n1_ n2_;(try clear hb);(try clear hb2);(try clear hk);(try clear hi);have hcz31_0 : w30.cell? ⟨gb169,0,none⟩ = some (.slice A1_0 l1_0.length c1_0):=(bC BK169.out 0).trans rfl;have hcz31_1 : w30.cell? ⟨gb169,1,none⟩ = some (.slice A1_1 l1_1.length c1_1):=(bC BK169.out 1).trans rfl;have hcz31_2 : w30.cell? ⟨gb169,2,none⟩ = some (.string a1_2):=(bC BK169.out 2).trans rfl;have hfz31_0:=bF BK169.out 0;have hfz31_1:=bF BK169.out 1;have hfz31_2:=bF BK169.out 2)|((with_reducible refine gate_callee (f:=34) rfl ?_);refine goesL_ (some 17) rfl rfl Try.func34 (by kernel_rfl) rfl #[.agg #[.slice A1_0 l1_0.length c1_0,.slice A1_1 l1_1.length c1_1,.string a1_2],.int .i64 t170] rfl (by (try simp only [List.map_toArray,List.map_cons,List.map_nil]);first|done|rfl|(simp only [List.length_drop,List.length_take];rfl)) ?_;(with_reducible refine (laws_szStore.calls k _ _ l1_0 _ _ l1_1 a1_2 t170 t171 _ ?side1 ?side2 ?side3 ?side4 A10.out).mono ?_);(case side1 => repeat (first|exact (cB HR1_0.out HB.out)|(with_reducible first|refine cA ?_ _|refine cN ?_ _|refine cD ?_)));(case side2 => exact HC1_0.out);(case side3 => repeat (first|exact (cB HR1_1.out HB.out)|(with_reducible first|refine cA ?_ _|refine cN ?_ _|refine cD ?_)));(case side4 => exact HC1_1.out);rintro e w32 ⟨rfl,hb⟩;refine ⟨_,rfl,?_⟩;have n0_:=aM (bB (g:=gb168) (o:=.cells #[.slice A0_0 l0_0.length c0_0,.slice A0_1 l0_1.length c0_1,.string a0_2] 48 (0,0)) (by (with_reducible repeat (first|refine bN ?_ _|refine bD ?_|refine bA ?_ _));exact BK168.out) hb);have n1_:=aM (bB (g:=gb169) (o:=.cells #[.slice A1_0 l1_0.length c1_0,.slice A1_1 l1_1.length c1_1,.string a1_2] 48 (0,0)) (by (with_reducible repeat (first|refine bN ?_ _|refine bD ?_|refine bA ?_ _));exact BK169.out) hb);have n2_:=aM (lP (by repeat (first|(with_reducible first|exact HB.out|apply lA|apply lN|apply lD|refine lS ?_ GE168.out|refine lS ?_ GE169.out)|exact HB.out)) hb);clear BK168 BK169 HB;have BK168:=n0_;have BK169:=n1_;have HB:=n2_;clear n0_ n1_ n2_;(try clear hb);(try clear hb2);(try clear hk);(try clear hi)))
    have n0_:=aM (bD BK168.out)
    have n1_:=aM (bD BK169.out)
    have n2_:=aM (lD HB.out)
    clear BK168
    clear BK169
    clear HB
    have BK168:=n0_
    have BK169:=n1_
    have HB:=n2_
    clear n0_ n1_ n2_
    refine start_ (n:=6) (S:=fun w' => w'.cell? ⟨gb168,0,none⟩ = some (.slice A0_0 l0_0.length c0_0) ∧ w'.cell? ⟨gb168,1,none⟩ = some (.slice A0_1 l0_1.length c0_1) ∧ w'.cell? ⟨gb168,2,none⟩ = some (.string a0_2) ∧ w'.cell? ⟨gb169,0,none⟩ = some (.slice A1_0 l1_0.length c1_0) ∧ w'.cell? ⟨gb169,1,none⟩ = some (.slice A1_1 l1_1.length c1_1) ∧ w'.cell? ⟨gb169,2,none⟩ = some (.string a1_2)) (ds:=[]) #[false,false,false,false,false,false] (by kernel_rfl) rfl rfl ⟨(bC BK168.out 0).trans rfl,(bC BK168.out 1).trans rfl,(bC BK168.out 2).trans rfl,(bC BK169.out 0).trans rfl,(bC BK169.out 1).trans rfl,(bC BK169.out 2).trans rfl⟩ (fun hHeld => ?_)
    generalize w32.drew = w33 at BK168 BK169 HB hHeld ⊢
    refine take_ (i:=0) (N:=some 20) (v:=?_) (a':=?_) #[true,false,false,false,false,false] rfl rfl (by kernel_rfl) (fun _ _ _ h => h) (Or.inl ⟨by rfl,?_⟩) hHeld ?_ ?_
    rotate_left
    ·rintro w' ⟨s0,s1,s2,s3,s4,s5⟩
     go_simp
     with_reducible rfl
    rotate_left
    ·simp only [Act.put,q_ia,q_cz,q_cs,i64_w,i32_w];rfl
    refine take_ (i:=2) (N:=some 22) (v:=?_) (a':=?_) #[true,false,true,false,false,false] rfl rfl (by kernel_rfl) (fun _ _ _ h => h) (Or.inl ⟨by rfl,?_⟩) hHeld ?_ ?_
    rotate_left
    ·rintro w' ⟨s0,s1,s2,s3,s4,s5⟩
     go_simp
     with_reducible rfl
    rotate_left
    ·simp only [Act.put,q_ia,q_cz,q_cs,i64_w,i32_w];rfl
    refine one_ (i:=1) (N:=some 21) #[true,true,true,false,false,false] rfl rfl (by kernel_rfl) (by decide) (fun K hK => ?_)
    refine goes_ Try.func36 (by kernel_rfl) rfl #[.agg #[.slice A0_0 l0_0.length c0_0,.slice A0_1 l0_1.length c0_1,.string a0_2]] (by rfl) rfl rfl (by (try simp only [List.map_toArray,List.map_cons,List.map_nil]);first|done|rfl|(simp only [List.length_drop,List.length_take];rfl)) ?_
    with_reducible refine (laws_toStore.calls k _ _ l0_0 _ _ l0_1 a0_2 t172 t175 t178 _ ?side1 ?side2 ?side3 ?side4 A19.out).mono ?_
    (case side1 => repeat (first|exact (cB HR0_0.out HB.out)|(with_reducible first|refine cA ?_ _|refine cN ?_ _|refine cD ?_)))
    (case side2 => exact HC0_0.out)
    (case side3 => repeat (first|exact (cB HR0_1.out HB.out)|(with_reducible first|refine cA ?_ _|refine cN ?_ _|refine cD ?_)))
    (case side4 => exact HC0_1.out)
    rintro e w34 ⟨v173,v176,rfl,ho0,ho1,hb⟩
    refine ⟨_,rfl,?_⟩
    have n0_:=aM (rL ho0 (lZ (by repeat (first|(with_reducible first|exact HB.out|apply lA|apply lN|apply lD|refine lS ?_ GE168.out|refine lS ?_ GE169.out)|exact HB.out))))
    have n1_:=aM (rL ho1 (lZ (by repeat (first|(with_reducible first|exact HB.out|apply lA|apply lN|apply lD|refine lS ?_ GE168.out|refine lS ?_ GE169.out)|exact HB.out))))
    have n2_:=aM (bB (g:=gb168) (o:=.cells #[.slice A0_0 l0_0.length c0_0,.slice A0_1 l0_1.length c0_1,.string a0_2] 48 (0,0)) (by (with_reducible repeat (first|refine bN ?_ _|refine bD ?_|refine bA ?_ _));exact BK168.out) hb)
    have n3_:=aM (bB (g:=gb169) (o:=.cells #[.slice A1_0 l1_0.length c1_0,.slice A1_1 l1_1.length c1_1,.string a1_2] 48 (0,0)) (by (with_reducible repeat (first|refine bN ?_ _|refine bD ?_|refine bA ?_ _));exact BK169.out) hb)
    have n4_:=aM (lP (by repeat (first|(with_reducible first|exact HB.out|apply lA|apply lN|apply lD|refine lS ?_ GE168.out|refine lS ?_ GE169.out)|exact HB.out)) hb)
    clear BK168
    clear BK169
    clear HB
    have HO174:=n0_
    have HO177:=n1_
    have BK168:=n2_
    have BK169:=n3_
    have HB:=n4_
    clear n0_ n1_ n2_ n3_ n4_
    (try clear hb)
    (try clear hb2)
    (try clear hk)
    (try clear hi)
    (try clear ho0)
    (try clear ho1)
    refine hK.out _ _ ⟨(bC BK168.out 0).trans rfl,(bC BK168.out 1).trans rfl,(bC BK168.out 2).trans rfl,(bC BK169.out 0).trans rfl,(bC BK169.out 1).trans rfl,(bC BK169.out 2).trans rfl⟩ (fun hHeld => ?_)
    clear hK K
    refine norm_ (a':=?_) ?_ ?_
    rotate_left
    ·show Act.put _ (some 21) _ = _
     simp only [Act.put,q_ia,q_cz,q_cs,i64_w,i32_w]
     rfl
    refine one_ (i:=3) (N:=some 23) #[true,true,true,true,false,false] rfl rfl (by kernel_rfl) (by decide) (fun K hK => ?_)
    refine goes_ Try.func36 (by kernel_rfl) rfl #[.agg #[.slice A1_0 l1_0.length c1_0,.slice A1_1 l1_1.length c1_1,.string a1_2]] (by rfl) rfl rfl (by (try simp only [List.map_toArray,List.map_cons,List.map_nil]);first|done|rfl|(simp only [List.length_drop,List.length_take];rfl)) ?_
    with_reducible refine (laws_toStore.calls k _ _ l1_0 _ _ l1_1 a1_2 t179 t182 t185 _ ?side1 ?side2 ?side3 ?side4 A20.out).mono ?_
    (case side1 => repeat (first|exact (cB HR1_0.out HB.out)|(with_reducible first|refine cA ?_ _|refine cN ?_ _|refine cD ?_)))
    (case side2 => exact HC1_0.out)
    (case side3 => repeat (first|exact (cB HR1_1.out HB.out)|(with_reducible first|refine cA ?_ _|refine cN ?_ _|refine cD ?_)))
    (case side4 => exact HC1_1.out)
    rintro e w35 ⟨v180,v183,rfl,ho0,ho1,hb⟩
    refine ⟨_,rfl,?_⟩
    have n0_:=aM (rE (by (with_reducible repeat (first|apply rA|apply rN|apply rD));exact HO174.out) (rS ho0) hb)
    have n1_:=aM (rE (by (with_reducible repeat (first|apply rA|apply rN|apply rD));exact HO177.out) (rS ho1) hb)
    have n2_:=aM (rL (rW ho0 (rT (by (with_reducible repeat (first|apply rA|apply rN|apply rD));exact HO174.out))) (lZ (by repeat (first|(with_reducible first|exact HB.out|apply lA|apply lN|apply lD|refine lS ?_ GE168.out|refine lS ?_ GE169.out)|exact HB.out))))
    have n3_:=aM (rL (rW ho1 (rT (by (with_reducible repeat (first|apply rA|apply rN|apply rD));exact HO177.out))) (lZ (by repeat (first|(with_reducible first|exact HB.out|apply lA|apply lN|apply lD|refine lS ?_ GE168.out|refine lS ?_ GE169.out)|exact HB.out))))
    have n4_:=aM (bB (g:=gb168) (o:=.cells #[.slice A0_0 l0_0.length c0_0,.slice A0_1 l0_1.length c0_1,.string a0_2] 48 (0,0)) (by (with_reducible repeat (first|refine bN ?_ _|refine bD ?_|refine bA ?_ _));exact BK168.out) hb)
    have n5_:=aM (bB (g:=gb169) (o:=.cells #[.slice A1_0 l1_0.length c1_0,.slice A1_1 l1_1.length c1_1,.string a1_2] 48 (0,0)) (by (with_reducible repeat (first|refine bN ?_ _|refine bD ?_|refine bA ?_ _));exact BK169.out) hb)
    have n6_:=aM (lP (by repeat (first|(with_reducible first|exact HB.out|apply lA|apply lN|apply lD|refine lS ?_ GE168.out|refine lS ?_ GE169.out)|exact HB.out)) hb)
    clear HO174
    clear HO177
    clear BK168
    clear BK169
    clear HB
    have HO174:=n0_
    have HO177:=n1_
    have HO181:=n2_
    have HO184:=n3_
    have BK168:=n4_
    have BK169:=n5_
    have HB:=n6_
    clear n0_ n1_ n2_ n3_ n4_ n5_ n6_
    (try clear hb)
    (try clear hb2)
    (try clear hk)
    (try clear hi)
    (try clear ho0)
    (try clear ho1)
    obtain ⟨Ao36,co36,eo36⟩:=Kd.R_slice HO174.out
    (first|subst eo36|(injection eo36 with f1_ f2_ f3_;have f4_:=f1_.symm;have f5_:=f3_.symm;clear f1_ f2_ f3_;subst f4_;subst f5_))
    obtain ⟨Ao37,co37,eo37⟩:=Kd.R_slice HO177.out
    (first|subst eo37|(injection eo37 with f1_ f2_ f3_;have f4_:=f1_.symm;have f5_:=f3_.symm;clear f1_ f2_ f3_;subst f4_;subst f5_))
    obtain ⟨Ao38,co38,eo38⟩:=Kd.R_slice HO181.out
    (first|subst eo38|(injection eo38 with f1_ f2_ f3_;have f4_:=f1_.symm;have f5_:=f3_.symm;clear f1_ f2_ f3_;subst f4_;subst f5_))
    obtain ⟨Ao39,co39,eo39⟩:=Kd.R_slice HO184.out
    (first|subst eo39|(injection eo39 with f1_ f2_ f3_;have f4_:=f1_.symm;have f5_:=f3_.symm;clear f1_ f2_ f3_;subst f4_;subst f5_))
    refine hK.out _ _ ⟨(bC BK168.out 0).trans rfl,(bC BK168.out 1).trans rfl,(bC BK168.out 2).trans rfl,(bC BK169.out 0).trans rfl,(bC BK169.out 1).trans rfl,(bC BK169.out 2).trans rfl⟩ (fun hHeld => ?_)
    clear hK K
    refine norm_ (a':=?_) ?_ ?_
    rotate_left
    ·show Act.put _ (some 23) _ = _
     simp only [Act.put,q_ia,q_cz,q_cs,i64_w,i32_w]
     rfl
    refine one_ (i:=4) (N:=some 24) #[true,true,true,true,true,false] rfl rfl (by kernel_rfl) (by decide) (fun K hK => ?_)
    refine goes_ Try.func44 (by kernel_rfl) rfl #[.agg #[.slice Ao36 t172.length co36,.slice Ao37 t175.length co37,.string t178],.agg #[.slice Ao38 t179.length co38,.slice Ao39 t182.length co39,.string t185]] (by rfl) rfl rfl (by (try simp only [List.map_toArray,List.map_cons,List.map_nil]);first|done|rfl|(simp only [List.length_drop,List.length_take];rfl)) ?_
    with_reducible refine (spec_SameStore.calls k _ _ t172 _ _ t175 t178 _ _ t179 _ _ t182 t185 t186 _ ?side1 ?side2 ?side3 ?side4 ?side5 ?side6 ?side7 ?side8 A21.out).mono ?_
    (case side1 => repeat (first|exact (rR HO174.out).2.2|(with_reducible first|refine cA ?_ _|refine cN ?_ _|refine cD ?_)))
    (case side2 => exact (rR HO174.out).2.1)
    (case side3 => repeat (first|exact (rR HO177.out).2.2|(with_reducible first|refine cA ?_ _|refine cN ?_ _|refine cD ?_)))
    (case side4 => exact (rR HO177.out).2.1)
    (case side5 => repeat (first|exact (rR HO181.out).2.2|(with_reducible first|refine cA ?_ _|refine cN ?_ _|refine cD ?_)))
    (case side6 => exact (rR HO181.out).2.1)
    (case side7 => repeat (first|exact (rR HO184.out).2.2|(with_reducible first|refine cA ?_ _|refine cN ?_ _|refine cD ?_)))
    (case side8 => exact (rR HO184.out).2.1)
    rintro e w40 ⟨rfl,hb⟩
    refine ⟨_,rfl,?_⟩
    have n0_:=aM (rB (by (with_reducible repeat (first|apply rA|apply rN|apply rD));exact HO174.out) hb)
    have n1_:=aM (rB (by (with_reducible repeat (first|apply rA|apply rN|apply rD));exact HO177.out) hb)
    have n2_:=aM (rB (by (with_reducible repeat (first|apply rA|apply rN|apply rD));exact HO181.out) hb)
    have n3_:=aM (rB (by (with_reducible repeat (first|apply rA|apply rN|apply rD));exact HO184.out) hb)
    have n4_:=aM (bB (g:=gb168) (o:=.cells #[.slice A0_0 l0_0.length c0_0,.slice A0_1 l0_1.length c0_1,.string a0_2] 48 (0,0)) (by (with_reducible repeat (first|refine bN ?_ _|refine bD ?_|refine bA ?_ _));exact BK168.out) hb)
    have n5_:=aM (bB (g:=gb169) (o:=.cells #[.slice A1_0 l1_0.length c1_0,.slice A1_1 l1_1.length c1_1,.string a1_2] 48 (0,0)) (by (with_reducible repeat (first|refine bN ?_ _|refine bD ?_|refine bA ?_ _));exact BK169.out) hb)
    have n6_:=aM (lP (by repeat (first|(with_reducible first|exact HB.out|apply lA|apply lN|apply lD|refine lS ?_ GE168.out|refine lS ?_ GE169.out)|exact HB.out)) hb)
    clear HO174
    clear HO177
    clear HO181
    clear HO184
    clear BK168
    clear BK169
    clear HB
    have HO174:=n0_
    have HO177:=n1_
    have HO181:=n2_
    have HO184:=n3_
    have BK168:=n4_
    have BK169:=n5_
    have HB:=n6_
    clear n0_ n1_ n2_ n3_ n4_ n5_ n6_
    (try clear hb)
    (try clear hb2)
    (try clear hk)
    (try clear hi)
    refine hK.out _ _ ⟨(bC BK168.out 0).trans rfl,(bC BK168.out 1).trans rfl,(bC BK168.out 2).trans rfl,(bC BK169.out 0).trans rfl,(bC BK169.out 1).trans rfl,(bC BK169.out 2).trans rfl⟩ (fun hHeld => ?_)
    clear hK K
    refine norm_ (a':=?_) ?_ ?_
    rotate_left
    ·show Act.put _ (some 24) _ = _
     simp only [Act.put,q_ia,q_cz,q_cs,i64_w,i32_w]
     rfl
    refine pure_ (i:=5) (N:=some 6) (v:=?_) (a':=?_) #[true,true,true,true,true,true] rfl rfl (by kernel_rfl) (fun _ _ _ h => h) (Or.inl ⟨by rfl,?_⟩) ?_ ?_
    rotate_left
    ·intro w';go_simp;with_reducible rfl
    rotate_left
    ·simp only [Act.put,q_ia,q_cz,q_cs,i64_w,i32_w];rfl
    refine done_ (by kernel_rfl) ?_
    have hcz41_0 : w40.cell? ⟨gb168,0,none⟩ = some (.slice A0_0 l0_0.length c0_0):=(bC BK168.out 0).trans rfl
    have hcz41_1 : w40.cell? ⟨gb168,1,none⟩ = some (.slice A0_1 l0_1.length c0_1):=(bC BK168.out 1).trans rfl
    have hcz41_2 : w40.cell? ⟨gb168,2,none⟩ = some (.string a0_2):=(bC BK168.out 2).trans rfl
    have hfz41_0:=bF BK168.out 0
    have hfz41_1:=bF BK168.out 1
    have hfz41_2:=bF BK168.out 2
    try go_wp2_with (first|((with_reducible refine gate_callee (f:=36) rfl ?_);refine goesL_ (some 26) rfl rfl Try.func36 (by kernel_rfl) rfl #[.agg #[.slice A0_0 l0_0.length c0_0,.slice A0_1 l0_1.length c0_1,.string a0_2]] rfl (by (try simp only [List.map_toArray,List.map_cons,List.map_nil]);first|done|rfl|(simp only [List.length_drop,List.length_take];rfl)) ?_;(with_reducible refine (laws_toStore.calls k _ _ l0_0 _ _ l0_1 a0_2 t187 t190 t193 _ ?side1 ?side2 ?side3 ?side4 A22.out).mono ?_);(case side1 => repeat (first|exact (cB HR0_0.out HB.out)|(with_reducible first|refine cA ?_ _|refine cN ?_ _|refine cD ?_)));(case side2 => exact HC0_0.out);(case side3 => repeat (first|exact (cB HR0_1.out HB.out)|(with_reducible first|refine cA ?_ _|refine cN ?_ _|refine cD ?_)));(case side4 => exact HC0_1.out);rintro e w42 ⟨v188,v191,rfl,ho0,ho1,hb⟩;refine ⟨_,rfl,?_⟩;have n0_:=aM (rE (by (with_reducible repeat (first|apply rA|apply rN|apply rD));exact HO174.out) (rS ho0) hb);have n1_:=aM (rE (by (with_reducible repeat (first|apply rA|apply rN|apply rD));exact HO177.out) (rS ho1) hb);have n2_:=aM (rE (by (with_reducible repeat (first|apply rA|apply rN|apply rD));exact HO181.out) (rS ho0) hb);have n3_:=aM (rE (by (with_reducible repeat (first|apply rA|apply rN|apply rD));exact HO184.out) (rS ho1) hb);have n4_:=aM (rL (rW (rW ho0 (rT (by (with_reducible repeat (first|apply rA|apply rN|apply rD));exact HO174.out))) (rT (by (with_reducible repeat (first|apply rA|apply rN|apply rD));exact HO181.out))) (lZ (by repeat (first|(with_reducible first|exact HB.out|apply lA|apply lN|apply lD|refine lS ?_ GE168.out|refine lS ?_ GE169.out)|exact HB.out))));have n5_:=aM (rL (rW (rW ho1 (rT (by (with_reducible repeat (first|apply rA|apply rN|apply rD));exact HO177.out))) (rT (by (with_reducible repeat (first|apply rA|apply rN|apply rD));exact HO184.out))) (lZ (by repeat (first|(with_reducible first|exact HB.out|apply lA|apply lN|apply lD|refine lS ?_ GE168.out|refine lS ?_ GE169.out)|exact HB.out))));have n6_:=aM (bB (g:=gb168) (o:=.cells #[.slice A0_0 l0_0.length c0_0,.slice A0_1 l0_1.length c0_1,.string a0_2] 48 (0,0)) (by (with_reducible repeat (first|refine bN ?_ _|refine bD ?_|refine bA ?_ _));exact BK168.out) hb);have n7_:=aM (bB (g:=gb169) (o:=.cells #[.slice A1_0 l1_0.length c1_0,.slice A1_1 l1_1.length c1_1,.string a1_2] 48 (0,0)) (by (with_reducible repeat (first|refine bN ?_ _|refine bD ?_|refine bA ?_ _));exact BK169.out) hb);have n8_:=aM (lP (by repeat (first|(with_reducible first|exact HB.out|apply lA|apply lN|apply lD|refine lS ?_ GE168.out|refine lS ?_ GE169.out)|exact HB.out)) hb);clear HO174 HO177 HO181 HO184 BK168 BK169 HB;have HO174:=n0_;have HO177:=n1_;have HO181:=n2_;have HO184:=n3_;have HO189:=n4_;have HO192:=n5_;have BK168:=n6_;have BK169:=n7_;have HB:=n8_;clear n0_ n1_ n2_ n3_ n4_ n5_ n6_ n7_ n8_;(try clear hb);(try clear hb2);(try clear hk);(try clear hi);(try clear ho0);(try clear ho1))|((with_reducible refine gate_dst (N:=7) rfl ?_);refine box_event ?hg (N:=7) ?hd (cs:=#[.slice none 0 0,.slice none 0 0,.string (⟨#[]⟩ : ByteArray)]) (t:=54) ?hr ?_;(case hd => rfl);(case hg => rfl);(case hr => first|(go_simp;done)|(go_simp;rfl));intro gb194 hg w43 hbox hb;have n0_:=aM (rB (by (with_reducible repeat (first|apply rA|apply rN|apply rD));exact HO174.out) hb);have n1_:=aM (rB (by (with_reducible repeat (first|apply rA|apply rN|apply rD));exact HO177.out) hb);have n2_:=aM (rB (by (with_reducible repeat (first|apply rA|apply rN|apply rD));exact HO181.out) hb);have n3_:=aM (rB (by (with_reducible repeat (first|apply rA|apply rN|apply rD));exact HO184.out) hb);have n4_:=aM (rB (by (with_reducible repeat (first|apply rA|apply rN|apply rD));exact HO189.out) hb);have n5_:=aM (rB (by (with_reducible repeat (first|apply rA|apply rN|apply rD));exact HO192.out) hb);have n6_:=aM (bB (g:=gb168) (o:=.cells #[.slice A0_0 l0_0.length c0_0,.slice A0_1 l0_1.length c0_1,.string a0_2] 48 (0,0)) (by (with_reducible repeat (first|refine bN ?_ _|refine bD ?_|refine bA ?_ _));exact BK168.out) hb);have n7_:=aM (bB (g:=gb169) (o:=.cells #[.slice A1_0 l1_0.length c1_0,.slice A1_1 l1_1.length c1_1,.string a1_2] 48 (0,0)) (by (with_reducible repeat (first|refine bN ?_ _|refine bD ?_|refine bA ?_ _));exact BK169.out) hb);have n8_:=aM (lP (by repeat (first|(with_reducible first|exact HB.out|apply lA|apply lN|apply lD|refine lS ?_ GE168.out|refine lS ?_ GE169.out)|exact HB.out)) hb);have n9_:=aM (hbox);have n10_:=aM ((by rw [hg];exact (lZ (by repeat (first|(with_reducible first|exact HB.out|apply lA|apply lN|apply lD|refine lS ?_ GE168.out|refine lS ?_ GE169.out)|exact HB.out))) : w.heap.size ≤ gb194));have n11_:=aM ((by rw [hg];exact (lZ (by repeat (first|(with_reducible first|exact HB.out|apply lA|apply lN|apply lD|refine lS ?_ GE168.out|refine lS ?_ GE169.out)|exact HB.out))) : w.heap.size ≤ gb194));have n12_:=aM ((by rw [hg];exact Nat.ne_of_lt (bL (g:=gb168) (o:=.cells #[.slice A0_0 l0_0.length c0_0,.slice A0_1 l0_1.length c0_1,.string a0_2] 48 (0,0)) (by (with_reducible repeat (first|refine bN ?_ _|refine bD ?_|refine bA ?_ _));exact BK168.out)) : gb168 ≠ gb194));have n13_:=aM ((by rw [hg];exact Nat.ne_of_gt (bL (g:=gb168) (o:=.cells #[.slice A0_0 l0_0.length c0_0,.slice A0_1 l0_1.length c0_1,.string a0_2] 48 (0,0)) (by (with_reducible repeat (first|refine bN ?_ _|refine bD ?_|refine bA ?_ _));exact BK168.out)) : gb194 ≠ gb168));have n14_:=aM ((by rw [hg];exact Nat.ne_of_lt (bL (g:=gb169) (o:=.cells #[.slice A1_0 l1_0.length c1_0,.slice A1_1 l1_1.length c1_1,.string a1_2] 48 (0,0)) (by (with_reducible repeat (first|refine bN ?_ _|refine bD ?_|refine bA ?_ _));exact BK169.out)) : gb169 ≠ gb194));have n15_:=aM ((by rw [hg];exact Nat.ne_of_gt (bL (g:=gb169) (o:=.cells #[.slice A1_0 l1_0.length c1_0,.slice A1_1 l1_1.length c1_1,.string a1_2] 48 (0,0)) (by (with_reducible repeat (first|refine bN ?_ _|refine bD ?_|refine bA ?_ _));exact BK169.out)) : gb194 ≠ gb169));clear HO174 HO177 HO181 HO184 HO189 HO192 BK168 BK169 HB;have HO174:=n0_;have HO177:=n1_;have HO181:=n2_;have HO184:=n3_;have HO189:=n4_;have HO192:=n5_;have BK168:=n6_;have BK169:=n7_;have HB:=n8_;have BK194:=n9_;have GW194:=n10_;have GE194:=n11_;have NB168_194:=n12_;have NB194_168:=n13_;have NB169_194:=n14_;have NB194_169:=n15_;clear n0_ n1_ n2_ n3_ n4_ n5_ n6_ n7_ n8_ n9_ n10_ n11_ n12_ n13_ n14_ n15_ hb hbox hg;obtain ⟨Ao44,co44,eo44⟩:=Kd.R_slice HO189.out;subst eo44;have hnb45:=NB194_168.out;have hnc45:=NB168_194.out;have hnb46:=NB194_169.out;have hnc46:=NB169_194.out;have hcz47_0 : w43.cell? ⟨gb194,0,none⟩ = some (.slice none 0 0):=(bC BK194.out 0).trans rfl;have hcz47_1 : w43.cell? ⟨gb194,1,none⟩ = some (.slice none 0 0):=(bC BK194.out 1).trans rfl;have hcz47_2 : w43.cell? ⟨gb194,2,none⟩ = some (.string (⟨#[]⟩ : ByteArray)):=(bC BK194.out 2).trans rfl;have hfz47_0:=bF BK194.out 0;have hfz47_1:=bF BK194.out 1;have hfz47_2:=bF BK194.out 2;obtain ⟨Ao48,co48,eo48⟩:=Kd.R_slice HO192.out;subst eo48;have hcz49_0 : w43.cell? ⟨gb169,0,none⟩ = some (.slice A1_0 l1_0.length c1_0):=(bC BK169.out 0).trans rfl;have hcz49_1 : w43.cell? ⟨gb169,1,none⟩ = some (.slice A1_1 l1_1.length c1_1):=(bC BK169.out 1).trans rfl;have hcz49_2 : w43.cell? ⟨gb169,2,none⟩ = some (.string a1_2):=(bC BK169.out 2).trans rfl;have hfz49_0:=bF BK169.out 0;have hfz49_1:=bF BK169.out 1;have hfz49_2:=bF BK169.out 2)|((with_reducible refine gate_callee (f:=36) rfl ?_);refine goesL_ (some 28) rfl rfl Try.func36 (by kernel_rfl) rfl #[.agg #[.slice A1_0 l1_0.length c1_0,.slice A1_1 l1_1.length c1_1,.string a1_2]] rfl (by (try simp only [List.map_toArray,List.map_cons,List.map_nil]);first|done|rfl|(simp only [List.length_drop,List.length_take];rfl)) ?_;(with_reducible refine (laws_toStore.calls k _ _ l1_0 _ _ l1_1 a1_2 t195 t198 t201 _ ?side1 ?side2 ?side3 ?side4 A23.out).mono ?_);(case side1 => exact cB HR1_0.out (by repeat (first|(with_reducible first|exact HB.out|apply lA|apply lN|apply lD|refine lS ?_ GE168.out|refine lS ?_ GE169.out|refine lS ?_ GE194.out)|exact HB.out)));(case side2 => exact HC1_0.out);(case side3 => exact cB HR1_1.out (by repeat (first|(with_reducible first|exact HB.out|apply lA|apply lN|apply lD|refine lS ?_ GE168.out|refine lS ?_ GE169.out|refine lS ?_ GE194.out)|exact HB.out)));(case side4 => exact HC1_1.out);rintro e w50 ⟨v196,v199,rfl,ho0,ho1,hb⟩;refine ⟨_,rfl,?_⟩;have n0_:=aM (rE (by (with_reducible repeat (first|apply rA|apply rN|apply rD));exact (Kd.R_mono (rF (p:=⟨gb194,2,none⟩) (rF (p:=⟨gb194,1,none⟩) (rF (p:=⟨gb194,0,none⟩) (rY HO174.out BK194.out (by decide)) (fun _ hk => hk.2) (.slice Ao44 t187.length co44)) (fun _ hk => hk.2) (.slice Ao48 t190.length co48)) (fun _ hk => hk.2) (.string t193)) (fun _ h_ => h_.1))) (rS ho0) hb);have n1_:=aM (rE (by (with_reducible repeat (first|apply rA|apply rN|apply rD));exact (Kd.R_mono (rF (p:=⟨gb194,2,none⟩) (rF (p:=⟨gb194,1,none⟩) (rF (p:=⟨gb194,0,none⟩) (rY HO177.out BK194.out (by decide)) (fun _ hk => hk.2) (.slice Ao44 t187.length co44)) (fun _ hk => hk.2) (.slice Ao48 t190.length co48)) (fun _ hk => hk.2) (.string t193)) (fun _ h_ => h_.1))) (rS ho1) hb);have n2_:=aM (rE (by (with_reducible repeat (first|apply rA|apply rN|apply rD));exact (Kd.R_mono (rF (p:=⟨gb194,2,none⟩) (rF (p:=⟨gb194,1,none⟩) (rF (p:=⟨gb194,0,none⟩) (rY HO181.out BK194.out (by decide)) (fun _ hk => hk.2) (.slice Ao44 t187.length co44)) (fun _ hk => hk.2) (.slice Ao48 t190.length co48)) (fun _ hk => hk.2) (.string t193)) (fun _ h_ => h_.1))) (rS ho0) hb);have n3_:=aM (rE (by (with_reducible repeat (first|apply rA|apply rN|apply rD));exact (Kd.R_mono (rF (p:=⟨gb194,2,none⟩) (rF (p:=⟨gb194,1,none⟩) (rF (p:=⟨gb194,0,none⟩) (rY HO184.out BK194.out (by decide)) (fun _ hk => hk.2) (.slice Ao44 t187.length co44)) (fun _ hk => hk.2) (.slice Ao48 t190.length co48)) (fun _ hk => hk.2) (.string t193)) (fun _ h_ => h_.1))) (rS ho1) hb);have n4_:=aM (rE (by (with_reducible repeat (first|apply rA|apply rN|apply rD));exact (Kd.R_mono (rF (p:=⟨gb194,2,none⟩) (rF (p:=⟨gb194,1,none⟩) (rF (p:=⟨gb194,0,none⟩) (rY HO189.out BK194.out (by decide)) (fun _ hk => hk.2) (.slice Ao44 t187.length co44)) (fun _ hk => hk.2) (.slice Ao48 t190.length co48)) (fun _ hk => hk.2) (.string t193)) (fun _ h_ => h_.1))) (rS ho0) hb);have n5_:=aM (rE (by (with_reducible repeat (first|apply rA|apply rN|apply rD));exact (Kd.R_mono (rF (p:=⟨gb194,2,none⟩) (rF (p:=⟨gb194,1,none⟩) (rF (p:=⟨gb194,0,none⟩) (rY HO192.out BK194.out (by decide)) (fun _ hk => hk.2) (.slice Ao44 t187.length co44)) (fun _ hk => hk.2) (.slice Ao48 t190.length co48)) (fun _ hk => hk.2) (.string t193)) (fun _ h_ => h_.1))) (rS ho1) hb);have n6_:=aM (rL (rW (rW (rW ho0 (rT (by (with_reducible repeat (first|apply rA|apply rN|apply rD));exact (Kd.R_mono (rF (p:=⟨gb194,2,none⟩) (rF (p:=⟨gb194,1,none⟩) (rF (p:=⟨gb194,0,none⟩) (rY HO174.out BK194.out (by decide)) (fun _ hk => hk.2) (.slice Ao44 t187.length co44)) (fun _ hk => hk.2) (.slice Ao48 t190.length co48)) (fun _ hk => hk.2) (.string t193)) (fun _ h_ => h_.1))))) (rT (by (with_reducible repeat (first|apply rA|apply rN|apply rD));exact (Kd.R_mono (rF (p:=⟨gb194,2,none⟩) (rF (p:=⟨gb194,1,none⟩) (rF (p:=⟨gb194,0,none⟩) (rY HO181.out BK194.out (by decide)) (fun _ hk => hk.2) (.slice Ao44 t187.length co44)) (fun _ hk => hk.2) (.slice Ao48 t190.length co48)) (fun _ hk => hk.2) (.string t193)) (fun _ h_ => h_.1))))) (rT (by (with_reducible repeat (first|apply rA|apply rN|apply rD));exact (Kd.R_mono (rF (p:=⟨gb194,2,none⟩) (rF (p:=⟨gb194,1,none⟩) (rF (p:=⟨gb194,0,none⟩) (rY HO189.out BK194.out (by decide)) (fun _ hk => hk.2) (.slice Ao44 t187.length co44)) (fun _ hk => hk.2) (.slice Ao48 t190.length co48)) (fun _ hk => hk.2) (.string t193)) (fun _ h_ => h_.1))))) (lZ (by repeat (first|(with_reducible first|exact HB.out|apply lA|apply lN|apply lD|refine lS ?_ GE168.out|refine lS ?_ GE169.out|refine lS ?_ GE194.out)|exact HB.out))));have n7_:=aM (rL (rW (rW (rW ho1 (rT (by (with_reducible repeat (first|apply rA|apply rN|apply rD));exact (Kd.R_mono (rF (p:=⟨gb194,2,none⟩) (rF (p:=⟨gb194,1,none⟩) (rF (p:=⟨gb194,0,none⟩) (rY HO177.out BK194.out (by decide)) (fun _ hk => hk.2) (.slice Ao44 t187.length co44)) (fun _ hk => hk.2) (.slice Ao48 t190.length co48)) (fun _ hk => hk.2) (.string t193)) (fun _ h_ => h_.1))))) (rT (by (with_reducible repeat (first|apply rA|apply rN|apply rD));exact (Kd.R_mono (rF (p:=⟨gb194,2,none⟩) (rF (p:=⟨gb194,1,none⟩) (rF (p:=⟨gb194,0,none⟩) (rY HO184.out BK194.out (by decide)) (fun _ hk => hk.2) (.slice Ao44 t187.length co44)) (fun _ hk => hk.2) (.slice Ao48 t190.length co48)) (fun _ hk => hk.2) (.string t193)) (fun _ h_ => h_.1))))) (rT (by (with_reducible repeat (first|apply rA|apply rN|apply rD));exact (Kd.R_mono (rF (p:=⟨gb194,2,none⟩) (rF (p:=⟨gb194,1,none⟩) (rF (p:=⟨gb194,0,none⟩) (rY HO192.out BK194.out (by decide)) (fun _ hk => hk.2) (.slice Ao44 t187.length co44)) (fun _ hk => hk.2) (.slice Ao48 t190.length co48)) (fun _ hk => hk.2) (.string t193)) (fun _ h_ => h_.1))))) (lZ (by repeat (first|(with_reducible first|exact HB.out|apply lA|apply lN|apply lD|refine lS ?_ GE168.out|refine lS ?_ GE169.out|refine lS ?_ GE194.out)|exact HB.out))));have n8_:=aM (bB (g:=gb168) (o:=.cells #[.slice A0_0 l0_0.length c0_0,.slice A0_1 l0_1.length c0_1,.string a0_2] 48 (0,0)) (by (with_reducible repeat (first|refine bN ?_ _|refine bD ?_|refine bA ?_ _));refine blk_far ?_ NB168_194.out _;(with_reducible repeat (first|refine bN ?_ _|refine bD ?_|refine bA ?_ _));refine blk_far ?_ NB168_194.out _;(with_reducible repeat (first|refine bN ?_ _|refine bD ?_|refine bA ?_ _));refine blk_far ?_ NB168_194.out _;(with_reducible repeat (first|refine bN ?_ _|refine bD ?_|refine bA ?_ _));exact BK168.out) hb);have n9_:=aM (bB (g:=gb169) (o:=.cells #[.slice A1_0 l1_0.length c1_0,.slice A1_1 l1_1.length c1_1,.string a1_2] 48 (0,0)) (by (with_reducible repeat (first|refine bN ?_ _|refine bD ?_|refine bA ?_ _));refine blk_far ?_ NB169_194.out _;(with_reducible repeat (first|refine bN ?_ _|refine bD ?_|refine bA ?_ _));refine blk_far ?_ NB169_194.out _;(with_reducible repeat (first|refine bN ?_ _|refine bD ?_|refine bA ?_ _));refine blk_far ?_ NB169_194.out _;(with_reducible repeat (first|refine bN ?_ _|refine bD ?_|refine bA ?_ _));exact BK169.out) hb);have n10_:=aM (bB (g:=gb194) (o:=.cells #[.slice Ao44 t187.length co44,.slice Ao48 t190.length co48,.string t193] 54 (0,0)) (by (with_reducible repeat (first|refine bN ?_ _|refine bD ?_|refine bA ?_ _));refine blk_put (cs:=#[.slice Ao44 t187.length co44,.slice Ao48 t190.length co48,.string (⟨#[]⟩ : ByteArray)]) ?_ 2 _ rfl;(with_reducible repeat (first|refine bN ?_ _|refine bD ?_|refine bA ?_ _));refine blk_put (cs:=#[.slice Ao44 t187.length co44,.slice none 0 0,.string (⟨#[]⟩ : ByteArray)]) ?_ 1 _ rfl;(with_reducible repeat (first|refine bN ?_ _|refine bD ?_|refine bA ?_ _));refine blk_put (cs:=#[.slice none 0 0,.slice none 0 0,.string (⟨#[]⟩ : ByteArray)]) ?_ 0 _ rfl;(with_reducible repeat (first|refine bN ?_ _|refine bD ?_|refine bA ?_ _));exact BK194.out) hb);have n11_:=aM (lP (by repeat (first|(with_reducible first|exact HB.out|apply lA|apply lN|apply lD|refine lS ?_ GE168.out|refine lS ?_ GE169.out|refine lS ?_ GE194.out)|exact HB.out)) hb);clear HO174 HO177 HO181 HO184 HO189 HO192 BK168 BK169 BK194 HB;have HO174:=n0_;have HO177:=n1_;have HO181:=n2_;have HO184:=n3_;have HO189:=n4_;have HO192:=n5_;have HO197:=n6_;have HO200:=n7_;have BK168:=n8_;have BK169:=n9_;have BK194:=n10_;have HB:=n11_;clear n0_ n1_ n2_ n3_ n4_ n5_ n6_ n7_ n8_ n9_ n10_ n11_;(try clear hb);(try clear hb2);(try clear hk);(try clear hi);(try clear ho0);(try clear ho1))|((with_reducible refine gate_dst (N:=8) rfl ?_);refine box_event ?hg (N:=8) ?hd (cs:=#[.slice none 0 0,.slice none 0 0,.string (⟨#[]⟩ : ByteArray)]) (t:=54) ?hr ?_;(case hd => rfl);(case hg => rfl);(case hr => first|(go_simp;done)|(go_simp;rfl));intro gb202 hg w51 hbox hb;have n0_:=aM (rB (by (with_reducible repeat (first|apply rA|apply rN|apply rD));exact HO174.out) hb);have n1_:=aM (rB (by (with_reducible repeat (first|apply rA|apply rN|apply rD));exact HO177.out) hb);have n2_:=aM (rB (by (with_reducible repeat (first|apply rA|apply rN|apply rD));exact HO181.out) hb);have n3_:=aM (rB (by (with_reducible repeat (first|apply rA|apply rN|apply rD));exact HO184.out) hb);have n4_:=aM (rB (by (with_reducible repeat (first|apply rA|apply rN|apply rD));exact HO189.out) hb);have n5_:=aM (rB (by (with_reducible repeat (first|apply rA|apply rN|apply rD));exact HO192.out) hb);have n6_:=aM (rB (by (with_reducible repeat (first|apply rA|apply rN|apply rD));exact HO197.out) hb);have n7_:=aM (rB (by (with_reducible repeat (first|apply rA|apply rN|apply rD));exact HO200.out) hb);have n8_:=aM (bB (g:=gb168) (o:=.cells #[.slice A0_0 l0_0.length c0_0,.slice A0_1 l0_1.length c0_1,.string a0_2] 48 (0,0)) (by (with_reducible repeat (first|refine bN ?_ _|refine bD ?_|refine bA ?_ _));exact BK168.out) hb);have n9_:=aM (bB (g:=gb169) (o:=.cells #[.slice A1_0 l1_0.length c1_0,.slice A1_1 l1_1.length c1_1,.string a1_2] 48 (0,0)) (by (with_reducible repeat (first|refine bN ?_ _|refine bD ?_|refine bA ?_ _));exact BK169.out) hb);have n10_:=aM (bB (g:=gb194) (o:=.cells #[.slice Ao44 t187.length co44,.slice Ao48 t190.length co48,.string t193] 54 (0,0)) (by (with_reducible repeat (first|refine bN ?_ _|refine bD ?_|refine bA ?_ _));exact BK194.out) hb);have n11_:=aM (lP (by repeat (first|(with_reducible first|exact HB.out|apply lA|apply lN|apply lD|refine lS ?_ GE168.out|refine lS ?_ GE169.out|refine lS ?_ GE194.out)|exact HB.out)) hb);have n12_:=aM (hbox);have n13_:=aM ((by rw [hg];exact (lZ (by repeat (first|(with_reducible first|exact HB.out|apply lA|apply lN|apply lD|refine lS ?_ GE168.out|refine lS ?_ GE169.out|refine lS ?_ GE194.out)|exact HB.out))) : w.heap.size ≤ gb202));have n14_:=aM ((by rw [hg];exact (lZ (by repeat (first|(with_reducible first|exact HB.out|apply lA|apply lN|apply lD|refine lS ?_ GE168.out|refine lS ?_ GE169.out|refine lS ?_ GE194.out)|exact HB.out))) : w.heap.size ≤ gb202));have n15_:=aM ((by rw [hg];exact Nat.ne_of_lt (bL (g:=gb168) (o:=.cells #[.slice A0_0 l0_0.length c0_0,.slice A0_1 l0_1.length c0_1,.string a0_2] 48 (0,0)) (by (with_reducible repeat (first|refine bN ?_ _|refine bD ?_|refine bA ?_ _));exact BK168.out)) : gb168 ≠ gb202));have n16_:=aM ((by rw [hg];exact Nat.ne_of_gt (bL (g:=gb168) (o:=.cells #[.slice A0_0 l0_0.length c0_0,.slice A0_1 l0_1.length c0_1,.string a0_2] 48 (0,0)) (by (with_reducible repeat (first|refine bN ?_ _|refine bD ?_|refine bA ?_ _));exact BK168.out)) : gb202 ≠ gb168));have n17_:=aM ((by rw [hg];exact Nat.ne_of_lt (bL (g:=gb169) (o:=.cells #[.slice A1_0 l1_0.length c1_0,.slice A1_1 l1_1.length c1_1,.string a1_2] 48 (0,0)) (by (with_reducible repeat (first|refine bN ?_ _|refine bD ?_|refine bA ?_ _));exact BK169.out)) : gb169 ≠ gb202));have n18_:=aM ((by rw [hg];exact Nat.ne_of_gt (bL (g:=gb169) (o:=.cells #[.slice A1_0 l1_0.length c1_0,.slice A1_1 l1_1.length c1_1,.string a1_2] 48 (0,0)) (by (with_reducible repeat (first|refine bN ?_ _|refine bD ?_|refine bA ?_ _));exact BK169.out)) : gb202 ≠ gb169));have n19_:=aM ((by rw [hg];exact Nat.ne_of_lt (bL (g:=gb194) (o:=.cells #[.slice Ao44 t187.length co44,.slice Ao48 t190.length co48,.string t193] 54 (0,0)) (by (with_reducible repeat (first|refine bN ?_ _|refine bD ?_|refine bA ?_ _));exact BK194.out)) : gb194 ≠ gb202));have n20_:=aM ((by rw [hg];exact Nat.ne_of_gt (bL (g:=gb194) (o:=.cells #[.slice Ao44 t187.length co44,.slice Ao48 t190.length co48,.string t193] 54 (0,0)) (by (with_reducible repeat (first|refine bN ?_ _|refine bD ?_|refine bA ?_ _));exact BK194.out)) : gb202 ≠ gb194));clear HO174 HO177 HO181 HO184 HO189 HO192 HO197 HO200 BK168 BK169 BK194 HB;have HO174:=n0_;have HO177:=n1_;have HO181:=n2_;have HO184:=n3_;have HO189:=n4_;have HO192:=n5_;have HO197:=n6_;have HO200:=n7_;have BK168:=n8_;have BK169:=n9_;have BK194:=n10_;have HB:=n11_;have BK202:=n12_;have GW202:=n13_;have GE202:=n14_;have NB168_202:=n15_;have NB202_168:=n16_;have NB169_202:=n17_;have NB202_169:=n18_;have NB194_202:=n19_;have NB202_194:=n20_;clear n0_ n1_ n2_ n3_ n4_ n5_ n6_ n7_ n8_ n9_ n10_ n11_ n12_ n13_ n14_ n15_ n16_ n17_ n18_ n19_ n20_ hb hbox hg;obtain ⟨Ao52,co52,eo52⟩:=Kd.R_slice HO197.out;subst eo52;have hnb53:=NB202_168.out;have hnc53:=NB168_202.out;have hnb54:=NB202_169.out;have hnc54:=NB169_202.out;have hnb55:=NB202_194.out;have hnc55:=NB194_202.out;have hcz56_0 : w51.cell? ⟨gb202,0,none⟩ = some (.slice none 0 0):=(bC BK202.out 0).trans rfl;have hcz56_1 : w51.cell? ⟨gb202,1,none⟩ = some (.slice none 0 0):=(bC BK202.out 1).trans rfl;have hcz56_2 : w51.cell? ⟨gb202,2,none⟩ = some (.string (⟨#[]⟩ : ByteArray)):=(bC BK202.out 2).trans rfl;have hfz56_0:=bF BK202.out 0;have hfz56_1:=bF BK202.out 1;have hfz56_2:=bF BK202.out 2;obtain ⟨Ao57,co57,eo57⟩:=Kd.R_slice HO200.out;subst eo57;have hcz58_0 : w51.cell? ⟨gb194,0,none⟩ = some (.slice Ao44 t187.length co44):=(bC BK194.out 0).trans rfl;have hcz58_1 : w51.cell? ⟨gb194,1,none⟩ = some (.slice Ao48 t190.length co48):=(bC BK194.out 1).trans rfl;have hcz58_2 : w51.cell? ⟨gb194,2,none⟩ = some (.string t193):=(bC BK194.out 2).trans rfl;have hfz58_0:=bF BK194.out 0;have hfz58_1:=bF BK194.out 1;have hfz58_2:=bF BK194.out 2)|((with_reducible refine gate_callee (f:=45) rfl ?_);refine goesL_ (some 31) rfl rfl Try.func45 (by kernel_rfl) rfl #[.agg #[.slice Ao44 t187.length co44,.slice Ao48 t190.length co48,.string t193],.agg #[.slice Ao52 t195.length co52,.slice Ao57 t198.length co57,.string t201]] rfl (by (try simp only [List.map_toArray,List.map_cons,List.map_nil]);first|done|rfl|(simp only [List.length_drop,List.length_take];rfl)) ?_;(with_reducible refine (impl_SameStore.calls k _ _ t187 _ _ t190 t193 _ _ t195 _ _ t198 t201 t203 _ ?side1 ?side2 ?side3 ?side4 ?side5 ?side6 ?side7 ?side8 A24.out).mono ?_);(case side1 => refine (rR (e:=105) (base:=w.heap.size) (ok:=fun k_ => (((True ∧ some k_ ≠ (.slice Ao36 t172.length co36 : Value).ownBlock) ∧ some k_ ≠ (.slice Ao38 t179.length co38 : Value).ownBlock) ∧ some k_ ≠ (.slice Ao52 t195.length co52 : Value).ownBlock)) (n:=t187.length) (c:=co44) ?_).2.2;exact (by (with_reducible repeat (first|apply rA|apply rN|apply rD));exact (Kd.R_mono (rF (p:=⟨gb202,2,none⟩) (rF (p:=⟨gb202,1,none⟩) (rF (p:=⟨gb202,0,none⟩) (rY HO189.out BK202.out (by decide)) (fun _ hk => hk.2) (.slice Ao52 t195.length co52)) (fun _ hk => hk.2) (.slice Ao57 t198.length co57)) (fun _ hk => hk.2) (.string t201)) (fun _ h_ => h_.1))));(case side2 => exact (rR HO189.out).2.1);(case side3 => refine (rR (e:=61) (base:=w.heap.size) (ok:=fun k_ => (((True ∧ some k_ ≠ (.slice Ao37 t175.length co37 : Value).ownBlock) ∧ some k_ ≠ (.slice Ao39 t182.length co39 : Value).ownBlock) ∧ some k_ ≠ (.slice Ao57 t198.length co57 : Value).ownBlock)) (n:=t190.length) (c:=co48) ?_).2.2;exact (by (with_reducible repeat (first|apply rA|apply rN|apply rD));exact (Kd.R_mono (rF (p:=⟨gb202,2,none⟩) (rF (p:=⟨gb202,1,none⟩) (rF (p:=⟨gb202,0,none⟩) (rY HO192.out BK202.out (by decide)) (fun _ hk => hk.2) (.slice Ao52 t195.length co52)) (fun _ hk => hk.2) (.slice Ao57 t198.length co57)) (fun _ hk => hk.2) (.string t201)) (fun _ h_ => h_.1))));(case side4 => exact (rR HO192.out).2.1);(case side5 => refine (rR (e:=105) (base:=w.heap.size) (ok:=fun k_ => (((True ∧ some k_ ≠ (.slice Ao36 t172.length co36 : Value).ownBlock) ∧ some k_ ≠ (.slice Ao38 t179.length co38 : Value).ownBlock) ∧ some k_ ≠ (.slice Ao44 t187.length co44 : Value).ownBlock)) (n:=t195.length) (c:=co52) ?_).2.2;exact (by (with_reducible repeat (first|apply rA|apply rN|apply rD));exact (Kd.R_mono (rF (p:=⟨gb202,2,none⟩) (rF (p:=⟨gb202,1,none⟩) (rF (p:=⟨gb202,0,none⟩) (rY HO197.out BK202.out (by decide)) (fun _ hk => hk.2) (.slice Ao52 t195.length co52)) (fun _ hk => hk.2) (.slice Ao57 t198.length co57)) (fun _ hk => hk.2) (.string t201)) (fun _ h_ => h_.1))));(case side6 => exact (rR HO197.out).2.1);(case side7 => refine (rR (e:=61) (base:=w.heap.size) (ok:=fun k_ => (((True ∧ some k_ ≠ (.slice Ao37 t175.length co37 : Value).ownBlock) ∧ some k_ ≠ (.slice Ao39 t182.length co39 : Value).ownBlock) ∧ some k_ ≠ (.slice Ao48 t190.length co48 : Value).ownBlock)) (n:=t198.length) (c:=co57) ?_).2.2;exact (by (with_reducible repeat (first|apply rA|apply rN|apply rD));exact (Kd.R_mono (rF (p:=⟨gb202,2,none⟩) (rF (p:=⟨gb202,1,none⟩) (rF (p:=⟨gb202,0,none⟩) (rY HO200.out BK202.out (by decide)) (fun _ hk => hk.2) (.slice Ao52 t195.length co52)) (fun _ hk => hk.2) (.slice Ao57 t198.length co57)) (fun _ hk => hk.2) (.string t201)) (fun _ h_ => h_.1))));(case side8 => exact (rR HO200.out).2.1);rintro e w59 ⟨rfl,hb⟩;refine ⟨_,rfl,?_⟩;have n0_:=aM (rB (by (with_reducible repeat (first|apply rA|apply rN|apply rD));exact (Kd.R_mono (rF (p:=⟨gb202,2,none⟩) (rF (p:=⟨gb202,1,none⟩) (rF (p:=⟨gb202,0,none⟩) (rY HO174.out BK202.out (by decide)) (fun _ hk => hk.2) (.slice Ao52 t195.length co52)) (fun _ hk => hk.2) (.slice Ao57 t198.length co57)) (fun _ hk => hk.2) (.string t201)) (fun _ h_ => h_.1))) hb);have n1_:=aM (rB (by (with_reducible repeat (first|apply rA|apply rN|apply rD));exact (Kd.R_mono (rF (p:=⟨gb202,2,none⟩) (rF (p:=⟨gb202,1,none⟩) (rF (p:=⟨gb202,0,none⟩) (rY HO177.out BK202.out (by decide)) (fun _ hk => hk.2) (.slice Ao52 t195.length co52)) (fun _ hk => hk.2) (.slice Ao57 t198.length co57)) (fun _ hk => hk.2) (.string t201)) (fun _ h_ => h_.1))) hb);have n2_:=aM (rB (by (with_reducible repeat (first|apply rA|apply rN|apply rD));exact (Kd.R_mono (rF (p:=⟨gb202,2,none⟩) (rF (p:=⟨gb202,1,none⟩) (rF (p:=⟨gb202,0,none⟩) (rY HO181.out BK202.out (by decide)) (fun _ hk => hk.2) (.slice Ao52 t195.length co52)) (fun _ hk => hk.2) (.slice Ao57 t198.length co57)) (fun _ hk => hk.2) (.string t201)) (fun _ h_ => h_.1))) hb);have n3_:=aM (rB (by (with_reducible repeat (first|apply rA|apply rN|apply rD));exact (Kd.R_mono (rF (p:=⟨gb202,2,none⟩) (rF (p:=⟨gb202,1,none⟩) (rF (p:=⟨gb202,0,none⟩) (rY HO184.out BK202.out (by decide)) (fun _ hk => hk.2) (.slice Ao52 t195.length co52)) (fun _ hk => hk.2) (.slice Ao57 t198.length co57)) (fun _ hk => hk.2) (.string t201)) (fun _ h_ => h_.1))) hb);have n4_:=aM (rB (by (with_reducible repeat (first|apply rA|apply rN|apply rD));exact (Kd.R_mono (rF (p:=⟨gb202,2,none⟩) (rF (p:=⟨gb202,1,none⟩) (rF (p:=⟨gb202,0,none⟩) (rY HO189.out BK202.out (by decide)) (fun _ hk => hk.2) (.slice Ao52 t195.length co52)) (fun _ hk => hk.2) (.slice Ao57 t198.length co57)) (fun _ hk => hk.2) (.string t201)) (fun _ h_ => h_.1))) hb);have n5_:=aM (rB (by (with_reducible repeat (first|apply rA|apply rN|apply rD));exact (Kd.R_mono (rF (p:=⟨gb202,2,none⟩) (rF (p:=⟨gb202,1,none⟩) (rF (p:=⟨gb202,0,none⟩) (rY HO192.out BK202.out (by decide)) (fun _ hk => hk.2) (.slice Ao52 t195.length co52)) (fun _ hk => hk.2) (.slice Ao57 t198.length co57)) (fun _ hk => hk.2) (.string t201)) (fun _ h_ => h_.1))) hb);have n6_:=aM (rB (by (with_reducible repeat (first|apply rA|apply rN|apply rD));exact (Kd.R_mono (rF (p:=⟨gb202,2,none⟩) (rF (p:=⟨gb202,1,none⟩) (rF (p:=⟨gb202,0,none⟩) (rY HO197.out BK202.out (by decide)) (fun _ hk => hk.2) (.slice Ao52 t195.length co52)) (fun _ hk => hk.2) (.slice Ao57 t198.length co57)) (fun _ hk => hk.2) (.string t201)) (fun _ h_ => h_.1))) hb);have n7_:=aM (rB (by (with_reducible repeat (first|apply rA|apply rN|apply rD));exact (Kd.R_mono (rF (p:=⟨gb202,2,none⟩) (rF (p:=⟨gb202,1,none⟩) (rF (p:=⟨gb202,0,none⟩) (rY HO200.out BK202.out (by decide)) (fun _ hk => hk.2) (.slice Ao52 t195.length co52)) (fun _ hk => hk.2) (.slice Ao57 t198.length co57)) (fun _ hk => hk.2) (.string t201)) (fun _ h_ => h_.1))) hb);have n8_:=aM (bB (g:=gb168) (o:=.cells #[.slice A0_0 l0_0.length c0_0,.slice A0_1 l0_1.length c0_1,.string a0_2] 48 (0,0)) (by (with_reducible repeat (first|refine bN ?_ _|refine bD ?_|refine bA ?_ _));refine blk_far ?_ NB168_202.out _;(with_reducible repeat (first|refine bN ?_ _|refine bD ?_|refine bA ?_ _));refine blk_far ?_ NB168_202.out _;(with_reducible repeat (first|refine bN ?_ _|refine bD ?_|refine bA ?_ _));refine blk_far ?_ NB168_202.out _;(with_reducible repeat (first|refine bN ?_ _|refine bD ?_|refine bA ?_ _));exact BK168.out) hb);have n9_:=aM (bB (g:=gb169) (o:=.cells #[.slice A1_0 l1_0.length c1_0,.slice A1_1 l1_1.length c1_1,.string a1_2] 48 (0,0)) (by (with_reducible repeat (first|refine bN ?_ _|refine bD ?_|refine bA ?_ _));refine blk_far ?_ NB169_202.out _;(with_reducible repeat (first|refine bN ?_ _|refine bD ?_|refine bA ?_ _));refine blk_far ?_ NB169_202.out _;(with_reducible repeat (first|refine bN ?_ _|refine bD ?_|refine bA ?_ _));refine blk_far ?_ NB169_202.out _;(with_reducible repeat (first|refine bN ?_ _|refine bD ?_|refine bA ?_ _));exact BK169.out) hb);have n10_:=aM (bB (g:=gb194) (o:=.cells #[.slice Ao44 t187.length co44,.slice Ao48 t190.length co48,.string t193] 54 (0,0)) (by (with_reducible repeat (first|refine bN ?_ _|refine bD ?_|refine bA ?_ _));refine blk_far ?_ NB194_202.out _;(with_reducible repeat (first|refine bN ?_ _|refine bD ?_|refine bA ?_ _));refine blk_far ?_ NB194_202.out _;(with_reducible repeat (first|refine bN ?_ _|refine bD ?_|refine bA ?_ _));refine blk_far ?_ NB194_202.out _;(with_reducible repeat (first|refine bN ?_ _|refine bD ?_|refine bA ?_ _));exact BK194.out) hb);have n11_:=aM (bB (g:=gb202) (o:=.cells #[.slice Ao52 t195.length co52,.slice Ao57 t198.length co57,.string t201] 54 (0,0)) (by (with_reducible repeat (first|refine bN ?_ _|refine bD ?_|refine bA ?_ _));refine blk_put (cs:=#[.slice Ao52 t195.length co52,.slice Ao57 t198.length co57,.string (⟨#[]⟩ : ByteArray)]) ?_ 2 _ rfl;(with_reducible repeat (first|refine bN ?_ _|refine bD ?_|refine bA ?_ _));refine blk_put (cs:=#[.slice Ao52 t195.length co52,.slice none 0 0,.string (⟨#[]⟩ : ByteArray)]) ?_ 1 _ rfl;(with_reducible repeat (first|refine bN ?_ _|refine bD ?_|refine bA ?_ _));refine blk_put (cs:=#[.slice none 0 0,.slice none 0 0,.string (⟨#[]⟩ : ByteArray)]) ?_ 0 _ rfl;(with_reducible repeat (first|refine bN ?_ _|refine bD ?_|refine bA ?_ _));exact BK202.out) hb);have n12_:=aM (lP (by repeat (first|(with_reducible first|exact HB.out|apply lA|apply lN|apply lD|refine lS ?_ GE168.out|refine lS ?_ GE169.out|refine lS ?_ GE194.out|refine lS ?_ GE202.out)|exact HB.out)) hb);clear HO174 HO177 HO181 HO184 HO189 HO192 HO197 HO200 BK168 BK169 BK194 BK202 HB;have HO174:=n0_;have HO177:=n1_;have HO181:=n2_;have HO184:=n3_;have HO189:=n4_;have HO192:=n5_;have HO197:=n6_;have HO200:=n7_;have BK168:=n8_;have BK169:=n9_;have BK194:=n10_;have BK202:=n11_;have HB:=n12_;clear n0_ n1_ n2_ n3_ n4_ n5_ n6_ n7_ n8_ n9_ n10_ n11_ n12_;(try clear hb);(try clear hb2);(try clear hk);(try clear hi)))
    go_ret
    exact ⟨by first|rfl|(simp [errW_none,errW_some] <;> rfl)|(simp [*,errW_none,errW_some] <;> rfl),by repeat (first|(with_reducible first|exact HB.out|apply lA|apply lN|apply lD|refine lS ?_ GE168.out|refine lS ?_ GE169.out|refine lS ?_ GE194.out|refine lS ?_ GE202.out)|exact HB.out)⟩
   ·rw [if_neg c25] at H
    have c25b0 : (t203 != t186) = false:=by simpa using c25
    (try (have c25b1 : decide (t203 = t186) = true:=by simpa using c25))
    (try (have c25b2 : (t203 == t186) = true:=by simpa using c25))
    clear c25
    replace H:=Option.bind_eq_some_iff.mp H
    obtain ⟨⟨t204,t207,t210⟩,A600,H⟩:=H
    replace H : ((laws_eqStore.f k t187 t190 t193 t204 t207 t210).bind fun t211 => (if t211 = true then ((laws_toStore.f k l1_0 l1_1 a1_2).bind fun bt212 => ((laws_eqStore.f k t195 t198 t201 bt212.1 bt212.2.1 bt212.2.2).bind fun t219 => (if t219 = true then (some true) else (some false)))) else (some false))) = some r:=H
    have A60:=aM A600
    clear A600
    replace H:=Option.bind_eq_some_iff.mp H
    obtain ⟨t211,A610,H⟩:=H
    replace H : (if t211 = true then ((laws_toStore.f k l1_0 l1_1 a1_2).bind fun bt212 => ((laws_eqStore.f k t195 t198 t201 bt212.1 bt212.2.1 bt212.2.2).bind fun t219 => (if t219 = true then (some true) else (some false)))) else (some false)) = some r:=H
    have A61:=aM A610
    clear A610
    by_cases c62 : t211 = true
    ·subst c62
     have H1 : ((laws_toStore.f k l1_0 l1_1 a1_2).bind fun bt212 => ((laws_eqStore.f k t195 t198 t201 bt212.1 bt212.2.1 bt212.2.2).bind fun t219 => (if t219 = true then (some true) else (some false)))) = some r:=by rw [if_pos rfl] at H;exact H
     clear H
     have H:=H1
     clear H1
     replace H:=Option.bind_eq_some_iff.mp H
     obtain ⟨⟨t212,t215,t218⟩,A630,H⟩:=H
     replace H : ((laws_eqStore.f k t195 t198 t201 t212 t215 t218).bind fun t219 => (if t219 = true then (some true) else (some false))) = some r:=H
     have A63:=aM A630
     clear A630
     replace H:=Option.bind_eq_some_iff.mp H
     obtain ⟨t219,A640,H⟩:=H
     replace H : (if t219 = true then (some true) else (some false)) = some r:=H
     have A64:=aM A640
     clear A640
     by_cases c65 : t219 = true
     ·subst c65
      have H1 : (some true) = some r:=by rw [if_pos rfl] at H;exact H
      clear H
      have H:=H1
      clear H1
      obtain rfl:=Option.some.inj H
      go_enter Try.func11,Try.ntmps11
      try go_wp2_with (first|((with_reducible refine gate_dst (N:=2) rfl ?_);refine box_event ?hg (N:=2) ?hd (cs:=#[.slice A0_0 l0_0.length c0_0,.slice A0_1 l0_1.length c0_1,.string a0_2]) (t:=48) ?hr ?_;(case hd => rfl);(case hg => rfl);(case hr => first|(go_simp;done)|(go_simp;rfl));intro gb168 hg w66 hbox hb;have n0_:=aM (lP (by repeat (first|(with_reducible first|exact HB.out|apply lA|apply lN|apply lD)|exact HB.out)) hb);have n1_:=aM (hbox);have n2_:=aM ((by rw [hg];exact (lZ (by repeat (first|(with_reducible first|exact HB.out|apply lA|apply lN|apply lD)|exact HB.out))) : w.heap.size ≤ gb168));have n3_:=aM ((by rw [hg];exact (lZ (by repeat (first|(with_reducible first|exact HB.out|apply lA|apply lN|apply lD)|exact HB.out))) : w.heap.size ≤ gb168));clear HB;have HB:=n0_;have BK168:=n1_;have GW168:=n2_;have GE168:=n3_;clear n0_ n1_ n2_ n3_ hb hbox hg)|((with_reducible refine gate_dst (N:=3) rfl ?_);refine box_event ?hg (N:=3) ?hd (cs:=#[.slice A1_0 l1_0.length c1_0,.slice A1_1 l1_1.length c1_1,.string a1_2]) (t:=48) ?hr ?_;(case hd => rfl);(case hg => rfl);(case hr => first|(go_simp;done)|(go_simp;rfl));intro gb169 hg w67 hbox hb;have n0_:=aM (bB (g:=gb168) (o:=.cells #[.slice A0_0 l0_0.length c0_0,.slice A0_1 l0_1.length c0_1,.string a0_2] 48 (0,0)) (by (with_reducible repeat (first|refine bN ?_ _|refine bD ?_|refine bA ?_ _));exact BK168.out) hb);have n1_:=aM (lP (by repeat (first|(with_reducible first|exact HB.out|apply lA|apply lN|apply lD|refine lS ?_ GE168.out)|exact HB.out)) hb);have n2_:=aM (hbox);have n3_:=aM ((by rw [hg];exact (lZ (by repeat (first|(with_reducible first|exact HB.out|apply lA|apply lN|apply lD|refine lS ?_ GE168.out)|exact HB.out))) : w.heap.size ≤ gb169));have n4_:=aM ((by rw [hg];exact (lZ (by repeat (first|(with_reducible first|exact HB.out|apply lA|apply lN|apply lD|refine lS ?_ GE168.out)|exact HB.out))) : w.heap.size ≤ gb169));have n5_:=aM ((by rw [hg];exact Nat.ne_of_lt (bL (g:=gb168) (o:=.cells #[.slice A0_0 l0_0.length c0_0,.slice A0_1 l0_1.length c0_1,.string a0_2] 48 (0,0)) (by (with_reducible repeat (first|refine bN ?_ _|refine bD ?_|refine bA ?_ _));exact BK168.out)) : gb168 ≠ gb169));have n6_:=aM ((by rw [hg];exact Nat.ne_of_gt (bL (g:=gb168) (o:=.cells #[.slice A0_0 l0_0.length c0_0,.slice A0_1 l0_1.length c0_1,.string a0_2] 48 (0,0)) (by (with_reducible repeat (first|refine bN ?_ _|refine bD ?_|refine bA ?_ _));exact BK168.out)) : gb169 ≠ gb168));clear BK168 HB;have BK168:=n0_;have HB:=n1_;have BK169:=n2_;have GW169:=n3_;have GE169:=n4_;have NB168_169:=n5_;have NB169_168:=n6_;clear n0_ n1_ n2_ n3_ n4_ n5_ n6_ hb hbox hg;have hnb68:=NB168_169.out;have hnc68:=NB169_168.out;have hcz69_0 : w67.cell? ⟨gb168,0,none⟩ = some (.slice A0_0 l0_0.length c0_0):=(bC BK168.out 0).trans rfl;have hcz69_1 : w67.cell? ⟨gb168,1,none⟩ = some (.slice A0_1 l0_1.length c0_1):=(bC BK168.out 1).trans rfl;have hcz69_2 : w67.cell? ⟨gb168,2,none⟩ = some (.string a0_2):=(bC BK168.out 2).trans rfl;have hfz69_0:=bF BK168.out 0;have hfz69_1:=bF BK168.out 1;have hfz69_2:=bF BK168.out 2)|((with_reducible refine gate_callee (f:=34) rfl ?_);refine goesL_ (some 12) rfl rfl Try.func34 (by kernel_rfl) rfl #[.agg #[.slice A0_0 l0_0.length c0_0,.slice A0_1 l0_1.length c0_1,.string a0_2],.int .i64 1048576] rfl (by (try simp only [List.map_toArray,List.map_cons,List.map_nil]);first|done|rfl|(simp only [List.length_drop,List.length_take];rfl)) ?_;(with_reducible refine (laws_szStore.calls k _ _ l0_0 _ _ l0_1 a0_2 1048576 t170 _ ?side1 ?side2 ?side3 ?side4 A3.out).mono ?_);(case side1 => repeat (first|exact (cB HR0_0.out HB.out)|(with_reducible first|refine cA ?_ _|refine cN ?_ _|refine cD ?_)));(case side2 => exact HC0_0.out);(case side3 => repeat (first|exact (cB HR0_1.out HB.out)|(with_reducible first|refine cA ?_ _|refine cN ?_ _|refine cD ?_)));(case side4 => exact HC0_1.out);rintro e w70 ⟨rfl,hb⟩;refine ⟨_,rfl,?_⟩;have n0_:=aM (bB (g:=gb168) (o:=.cells #[.slice A0_0 l0_0.length c0_0,.slice A0_1 l0_1.length c0_1,.string a0_2] 48 (0,0)) (by (with_reducible repeat (first|refine bN ?_ _|refine bD ?_|refine bA ?_ _));exact BK168.out) hb);have n1_:=aM (bB (g:=gb169) (o:=.cells #[.slice A1_0 l1_0.length c1_0,.slice A1_1 l1_1.length c1_1,.string a1_2] 48 (0,0)) (by (with_reducible repeat (first|refine bN ?_ _|refine bD ?_|refine bA ?_ _));exact BK169.out) hb);have n2_:=aM (lP (by repeat (first|(with_reducible first|exact HB.out|apply lA|apply lN|apply lD|refine lS ?_ GE168.out|refine lS ?_ GE169.out)|exact HB.out)) hb);clear BK168 BK169 HB;have BK168:=n0_;have BK169:=n1_;have HB:=n2_;clear n0_ n1_ n2_;(try clear hb);(try clear hb2);(try clear hk);(try clear hi);have hcz71_0 : w70.cell? ⟨gb169,0,none⟩ = some (.slice A1_0 l1_0.length c1_0):=(bC BK169.out 0).trans rfl;have hcz71_1 : w70.cell? ⟨gb169,1,none⟩ = some (.slice A1_1 l1_1.length c1_1):=(bC BK169.out 1).trans rfl;have hcz71_2 : w70.cell? ⟨gb169,2,none⟩ = some (.string a1_2):=(bC BK169.out 2).trans rfl;have hfz71_0:=bF BK169.out 0;have hfz71_1:=bF BK169.out 1;have hfz71_2:=bF BK169.out 2)|((with_reducible refine gate_callee (f:=34) rfl ?_);refine goesL_ (some 17) rfl rfl Try.func34 (by kernel_rfl) rfl #[.agg #[.slice A1_0 l1_0.length c1_0,.slice A1_1 l1_1.length c1_1,.string a1_2],.int .i64 t170] rfl (by (try simp only [List.map_toArray,List.map_cons,List.map_nil]);first|done|rfl|(simp only [List.length_drop,List.length_take];rfl)) ?_;(with_reducible refine (laws_szStore.calls k _ _ l1_0 _ _ l1_1 a1_2 t170 t171 _ ?side1 ?side2 ?side3 ?side4 A10.out).mono ?_);(case side1 => repeat (first|exact (cB HR1_0.out HB.out)|(with_reducible first|refine cA ?_ _|refine cN ?_ _|refine cD ?_)));(case side2 => exact HC1_0.out);(case side3 => repeat (first|exact (cB HR1_1.out HB.out)|(with_reducible first|refine cA ?_ _|refine cN ?_ _|refine cD ?_)));(case side4 => exact HC1_1.out);rintro e w72 ⟨rfl,hb⟩;refine ⟨_,rfl,?_⟩;have n0_:=aM (bB (g:=gb168) (o:=.cells #[.slice A0_0 l0_0.length c0_0,.slice A0_1 l0_1.length c0_1,.string a0_2] 48 (0,0)) (by (with_reducible repeat (first|refine bN ?_ _|refine bD ?_|refine bA ?_ _));exact BK168.out) hb);have n1_:=aM (bB (g:=gb169) (o:=.cells #[.slice A1_0 l1_0.length c1_0,.slice A1_1 l1_1.length c1_1,.string a1_2] 48 (0,0)) (by (with_reducible repeat (first|refine bN ?_ _|refine bD ?_|refine bA ?_ _));exact BK169.out) hb);have n2_:=aM (lP (by repeat (first|(with_reducible first|exact HB.out|apply lA|apply lN|apply lD|refine lS ?_ GE168.out|refine lS ?_ GE169.out)|exact HB.out)) hb);clear BK168 BK169 HB;have BK168:=n0_;have BK169:=n1_;have HB:=n2_;clear n0_ n1_ n2_;(try clear hb);(try clear hb2);(try clear hk);(try clear hi)))
      have n0_:=aM (bD BK168.out)
      have n1_:=aM (bD BK169.out)
      have n2_:=aM (lD HB.out)
      clear BK168
      clear BK169
      clear HB
      have BK168:=n0_
      have BK169:=n1_
      have HB:=n2_
      clear n0_ n1_ n2_
      refine start_ (n:=6) (S:=fun w' => w'.cell? ⟨gb168,0,none⟩ = some (.slice A0_0 l0_0.length c0_0) ∧ w'.cell? ⟨gb168,1,none⟩ = some (.slice A0_1 l0_1.length c0_1) ∧ w'.cell? ⟨gb168,2,none⟩ = some (.string a0_2) ∧ w'.cell? ⟨gb169,0,none⟩ = some (.slice A1_0 l1_0.length c1_0) ∧ w'.cell? ⟨gb169,1,none⟩ = some (.slice A1_1 l1_1.length c1_1) ∧ w'.cell? ⟨gb169,2,none⟩ = some (.string a1_2)) (ds:=[]) #[false,false,false,false,false,false] (by kernel_rfl) rfl rfl ⟨(bC BK168.out 0).trans rfl,(bC BK168.out 1).trans rfl,(bC BK168.out 2).trans rfl,(bC BK169.out 0).trans rfl,(bC BK169.out 1).trans rfl,(bC BK169.out 2).trans rfl⟩ (fun hHeld => ?_)
      generalize w72.drew = w73 at BK168 BK169 HB hHeld ⊢
      refine take_ (i:=0) (N:=some 20) (v:=?_) (a':=?_) #[true,false,false,false,false,false] rfl rfl (by kernel_rfl) (fun _ _ _ h => h) (Or.inl ⟨by rfl,?_⟩) hHeld ?_ ?_
      rotate_left
      ·rintro w' ⟨s0,s1,s2,s3,s4,s5⟩
       go_simp
       with_reducible rfl
      rotate_left
      ·simp only [Act.put,q_ia,q_cz,q_cs,i64_w,i32_w];rfl
      refine take_ (i:=2) (N:=some 22) (v:=?_) (a':=?_) #[true,false,true,false,false,false] rfl rfl (by kernel_rfl) (fun _ _ _ h => h) (Or.inl ⟨by rfl,?_⟩) hHeld ?_ ?_
      rotate_left
      ·rintro w' ⟨s0,s1,s2,s3,s4,s5⟩
       go_simp
       with_reducible rfl
      rotate_left
      ·simp only [Act.put,q_ia,q_cz,q_cs,i64_w,i32_w];rfl
      refine one_ (i:=1) (N:=some 21) #[true,true,true,false,false,false] rfl rfl (by kernel_rfl) (by decide) (fun K hK => ?_)
      refine goes_ Try.func36 (by kernel_rfl) rfl #[.agg #[.slice A0_0 l0_0.length c0_0,.slice A0_1 l0_1.length c0_1,.string a0_2]] (by rfl) rfl rfl (by (try simp only [List.map_toArray,List.map_cons,List.map_nil]);first|done|rfl|(simp only [List.length_drop,List.length_take];rfl)) ?_
      with_reducible refine (laws_toStore.calls k _ _ l0_0 _ _ l0_1 a0_2 t172 t175 t178 _ ?side1 ?side2 ?side3 ?side4 A19.out).mono ?_
      (case side1 => repeat (first|exact (cB HR0_0.out HB.out)|(with_reducible first|refine cA ?_ _|refine cN ?_ _|refine cD ?_)))
      (case side2 => exact HC0_0.out)
      (case side3 => repeat (first|exact (cB HR0_1.out HB.out)|(with_reducible first|refine cA ?_ _|refine cN ?_ _|refine cD ?_)))
      (case side4 => exact HC0_1.out)
      rintro e w74 ⟨v173,v176,rfl,ho0,ho1,hb⟩
      refine ⟨_,rfl,?_⟩
      have n0_:=aM (rL ho0 (lZ (by repeat (first|(with_reducible first|exact HB.out|apply lA|apply lN|apply lD|refine lS ?_ GE168.out|refine lS ?_ GE169.out)|exact HB.out))))
      have n1_:=aM (rL ho1 (lZ (by repeat (first|(with_reducible first|exact HB.out|apply lA|apply lN|apply lD|refine lS ?_ GE168.out|refine lS ?_ GE169.out)|exact HB.out))))
      have n2_:=aM (bB (g:=gb168) (o:=.cells #[.slice A0_0 l0_0.length c0_0,.slice A0_1 l0_1.length c0_1,.string a0_2] 48 (0,0)) (by (with_reducible repeat (first|refine bN ?_ _|refine bD ?_|refine bA ?_ _));exact BK168.out) hb)
      have n3_:=aM (bB (g:=gb169) (o:=.cells #[.slice A1_0 l1_0.length c1_0,.slice A1_1 l1_1.length c1_1,.string a1_2] 48 (0,0)) (by (with_reducible repeat (first|refine bN ?_ _|refine bD ?_|refine bA ?_ _));exact BK169.out) hb)
      have n4_:=aM (lP (by repeat (first|(with_reducible first|exact HB.out|apply lA|apply lN|apply lD|refine lS ?_ GE168.out|refine lS ?_ GE169.out)|exact HB.out)) hb)
      clear BK168
      clear BK169
      clear HB
      have HO174:=n0_
      have HO177:=n1_
      have BK168:=n2_
      have BK169:=n3_
      have HB:=n4_
      clear n0_ n1_ n2_ n3_ n4_
      (try clear hb)
      (try clear hb2)
      (try clear hk)
      (try clear hi)
      (try clear ho0)
      (try clear ho1)
      refine hK.out _ _ ⟨(bC BK168.out 0).trans rfl,(bC BK168.out 1).trans rfl,(bC BK168.out 2).trans rfl,(bC BK169.out 0).trans rfl,(bC BK169.out 1).trans rfl,(bC BK169.out 2).trans rfl⟩ (fun hHeld => ?_)
      clear hK K
      refine norm_ (a':=?_) ?_ ?_
      rotate_left
      ·show Act.put _ (some 21) _ = _
       simp only [Act.put,q_ia,q_cz,q_cs,i64_w,i32_w]
       rfl
      refine one_ (i:=3) (N:=some 23) #[true,true,true,true,false,false] rfl rfl (by kernel_rfl) (by decide) (fun K hK => ?_)
      refine goes_ Try.func36 (by kernel_rfl) rfl #[.agg #[.slice A1_0 l1_0.length c1_0,.slice A1_1 l1_1.length c1_1,.string a1_2]] (by rfl) rfl rfl (by (try simp only [List.map_toArray,List.map_cons,List.map_nil]);first|done|rfl|(simp only [List.length_drop,List.length_take];rfl)) ?_
      with_reducible refine (laws_toStore.calls k _ _ l1_0 _ _ l1_1 a1_2 t179 t182 t185 _ ?side1 ?side2 ?side3 ?side4 A20.out).mono ?_
      (case side1 => repeat (first|exact (cB HR1_0.out HB.out)|(with_reducible first|refine cA ?_ _|refine cN ?_ _|refine cD ?_)))
      (case side2 => exact HC1_0.out)
      (case side3 => repeat (first|exact (cB HR1_1.out HB.out)|(with_reducible first|refine cA ?_ _|refine cN ?_ _|refine cD ?_)))
      (case side4 => exact HC1_1.out)
      rintro e w75 ⟨v180,v183,rfl,ho0,ho1,hb⟩
      refine ⟨_,rfl,?_⟩
      have n0_:=aM (rE (by (with_reducible repeat (first|apply rA|apply rN|apply rD));exact HO174.out) (rS ho0) hb)
      have n1_:=aM (rE (by (with_reducible repeat (first|apply rA|apply rN|apply rD));exact HO177.out) (rS ho1) hb)
      have n2_:=aM (rL (rW ho0 (rT (by (with_reducible repeat (first|apply rA|apply rN|apply rD));exact HO174.out))) (lZ (by repeat (first|(with_reducible first|exact HB.out|apply lA|apply lN|apply lD|refine lS ?_ GE168.out|refine lS ?_ GE169.out)|exact HB.out))))
      have n3_:=aM (rL (rW ho1 (rT (by (with_reducible repeat (first|apply rA|apply rN|apply rD));exact HO177.out))) (lZ (by repeat (first|(with_reducible first|exact HB.out|apply lA|apply lN|apply lD|refine lS ?_ GE168.out|refine lS ?_ GE169.out)|exact HB.out))))
      have n4_:=aM (bB (g:=gb168) (o:=.cells #[.slice A0_0 l0_0.length c0_0,.slice A0_1 l0_1.length c0_1,.string a0_2] 48 (0,0)) (by (with_reducible repeat (first|refine bN ?_ _|refine bD ?_|refine bA ?_ _));exact BK168.out) hb)
      have n5_:=aM (bB (g:=gb169) (o:=.cells #[.slice A1_0 l1_0.length c1_0,.slice A1_1 l1_1.length c1_1,.string a1_2] 48 (0,0)) (by (with_reducible repeat (first|refine bN ?_ _|refine bD ?_|refine bA ?_ _));exact BK169.out) hb)
      have n6_:=aM (lP (by repeat (first|(with_reducible first|exact HB.out|apply lA|apply lN|apply lD|refine lS ?_ GE168.out|refine lS ?_ GE169.out)|exact HB.out)) hb)
      clear HO174
      clear HO177
      clear BK168
      clear BK169
      clear HB
      have HO174:=n0_
      have HO177:=n1_
      have HO181:=n2_
      have HO184:=n3_
      have BK168:=n4_
      have BK169:=n5_
      have HB:=n6_
      clear n0_ n1_ n2_ n3_ n4_ n5_ n6_
      (try clear hb)
      (try clear hb2)
      (try clear hk)
      (try clear hi)
      (try clear ho0)
      (try clear ho1)
      obtain ⟨Ao76,co76,eo76⟩:=Kd.R_slice HO174.out
      (first|subst eo76|(injection eo76 with f1_ f2_ f3_;have f4_:=f1_.symm;have f5_:=f3_.symm;clear f1_ f2_ f3_;subst f4_;subst f5_))
      obtain ⟨Ao77,co77,eo77⟩:=Kd.R_slice HO177.out
      (first|subst eo77|(injection eo77 with f1_ f2_ f3_;have f4_:=f1_.symm;have f5_:=f3_.symm;clear f1_ f2_ f3_;subst f4_;subst f5_))
      obtain ⟨Ao78,co78,eo78⟩:=Kd.R_slice HO181.out
      (first|subst eo78|(injection eo78 with f1_ f2_ f3_;have f4_:=f1_.symm;have f5_:=f3_.symm;clear f1_ f2_ f3_;subst f4_;subst f5_))
      obtain ⟨Ao79,co79,eo79⟩:=Kd.R_slice HO184.out
      (first|subst eo79|(injection eo79 with f1_ f2_ f3_;have f4_:=f1_.symm;have f5_:=f3_.symm;clear f1_ f2_ f3_;subst f4_;subst f5_))
      refine hK.out _ _ ⟨(bC BK168.out 0).trans rfl,(bC BK168.out 1).trans rfl,(bC BK168.out 2).trans rfl,(bC BK169.out 0).trans rfl,(bC BK169.out 1).trans rfl,(bC BK169.out 2).trans rfl⟩ (fun hHeld => ?_)
      clear hK K
      refine norm_ (a':=?_) ?_ ?_
      rotate_left
      ·show Act.put _ (some 23) _ = _
       simp only [Act.put,q_ia,q_cz,q_cs,i64_w,i32_w]
       rfl
      refine one_ (i:=4) (N:=some 24) #[true,true,true,true,true,false] rfl rfl (by kernel_rfl) (by decide) (fun K hK => ?_)
      refine goes_ Try.func44 (by kernel_rfl) rfl #[.agg #[.slice Ao76 t172.length co76,.slice Ao77 t175.length co77,.string t178],.agg #[.slice Ao78 t179.length co78,.slice Ao79 t182.length co79,.string t185]] (by rfl) rfl rfl (by (try simp only [List.map_toArray,List.map_cons,List.map_nil]);first|done|rfl|(simp only [List.length_drop,List.length_take];rfl)) ?_
      with_reducible refine (spec_SameStore.calls k _ _ t172 _ _ t175 t178 _ _ t179 _ _ t182 t185 t186 _ ?side1 ?side2 ?side3 ?side4 ?side5 ?side6 ?side7 ?side8 A21.out).mono ?_
      (case side1 => repeat (first|exact (rR HO174.out).2.2|(with_reducible first|refine cA ?_ _|refine cN ?_ _|refine cD ?_)))
      (case side2 => exact (rR HO174.out).2.1)
      (case side3 => repeat (first|exact (rR HO177.out).2.2|(with_reducible first|refine cA ?_ _|refine cN ?_ _|refine cD ?_)))
      (case side4 => exact (rR HO177.out).2.1)
      (case side5 => repeat (first|exact (rR HO181.out).2.2|(with_reducible first|refine cA ?_ _|refine cN ?_ _|refine cD ?_)))
      (case side6 => exact (rR HO181.out).2.1)
      (case side7 => repeat (first|exact (rR HO184.out).2.2|(with_reducible first|refine cA ?_ _|refine cN ?_ _|refine cD ?_)))
      (case side8 => exact (rR HO184.out).2.1)
      rintro e w80 ⟨rfl,hb⟩
      refine ⟨_,rfl,?_⟩
      have n0_:=aM (rB (by (with_reducible repeat (first|apply rA|apply rN|apply rD));exact HO174.out) hb)
      have n1_:=aM (rB (by (with_reducible repeat (first|apply rA|apply rN|apply rD));exact HO177.out) hb)
      have n2_:=aM (rB (by (with_reducible repeat (first|apply rA|apply rN|apply rD));exact HO181.out) hb)
      have n3_:=aM (rB (by (with_reducible repeat (first|apply rA|apply rN|apply rD));exact HO184.out) hb)
      have n4_:=aM (bB (g:=gb168) (o:=.cells #[.slice A0_0 l0_0.length c0_0,.slice A0_1 l0_1.length c0_1,.string a0_2] 48 (0,0)) (by (with_reducible repeat (first|refine bN ?_ _|refine bD ?_|refine bA ?_ _));exact BK168.out) hb)
      have n5_:=aM (bB (g:=gb169) (o:=.cells #[.slice A1_0 l1_0.length c1_0,.slice A1_1 l1_1.length c1_1,.string a1_2] 48 (0,0)) (by (with_reducible repeat (first|refine bN ?_ _|refine bD ?_|refine bA ?_ _));exact BK169.out) hb)
      have n6_:=aM (lP (by repeat (first|(with_reducible first|exact HB.out|apply lA|apply lN|apply lD|refine lS ?_ GE168.out|refine lS ?_ GE169.out)|exact HB.out)) hb)
      clear HO174
      clear HO177
      clear HO181
      clear HO184
      clear BK168
      clear BK169
      clear HB
      have HO174:=n0_
      have HO177:=n1_
      have HO181:=n2_
      have HO184:=n3_
      have BK168:=n4_
      have BK169:=n5_
      have HB:=n6_
      clear n0_ n1_ n2_ n3_ n4_ n5_ n6_
      (try clear hb)
      (try clear hb2)
      (try clear hk)
      (try clear hi)
      refine hK.out _ _ ⟨(bC BK168.out 0).trans rfl,(bC BK168.out 1).trans rfl,(bC BK168.out 2).trans rfl,(bC BK169.out 0).trans rfl,(bC BK169.out 1).trans rfl,(bC BK169.out 2).trans rfl⟩ (fun hHeld => ?_)
      clear hK K
      refine norm_ (a':=?_) ?_ ?_
      rotate_left
      ·show Act.put _ (some 24) _ = _
       simp only [Act.put,q_ia,q_cz,q_cs,i64_w,i32_w]
       rfl
      refine pure_ (i:=5) (N:=some 6) (v:=?_) (a':=?_) #[true,true,true,true,true,true] rfl rfl (by kernel_rfl) (fun _ _ _ h => h) (Or.inl ⟨by rfl,?_⟩) ?_ ?_
      rotate_left
      ·intro w';go_simp;with_reducible rfl
      rotate_left
      ·simp only [Act.put,q_ia,q_cz,q_cs,i64_w,i32_w];rfl
      refine done_ (by kernel_rfl) ?_
      have hcz81_0 : w80.cell? ⟨gb168,0,none⟩ = some (.slice A0_0 l0_0.length c0_0):=(bC BK168.out 0).trans rfl
      have hcz81_1 : w80.cell? ⟨gb168,1,none⟩ = some (.slice A0_1 l0_1.length c0_1):=(bC BK168.out 1).trans rfl
      have hcz81_2 : w80.cell? ⟨gb168,2,none⟩ = some (.string a0_2):=(bC BK168.out 2).trans rfl
      have hfz81_0:=bF BK168.out 0
      have hfz81_1:=bF BK168.out 1
      have hfz81_2:=bF BK168.out 2
      try go_wp2_with (first|((with_reducible refine gate_callee (f:=36) rfl ?_);refine goesL_ (some 26) rfl rfl Try.func36 (by kernel_rfl) rfl #[.agg #[.slice A0_0 l0_0.length c0_0,.slice A0_1 l0_1.length c0_1,.string a0_2]] rfl (by (try simp only [List.map_toArray,List.map_cons,List.map_nil]);first|done|rfl|(simp only [List.length_drop,List.length_take];rfl)) ?_;(with_reducible refine (laws_toStore.calls k _ _ l0_0 _ _ l0_1 a0_2 t187 t190 t193 _ ?side1 ?side2 ?side3 ?side4 A22.out).mono ?_);(case side1 => repeat (first|exact (cB HR0_0.out HB.out)|(with_reducible first|refine cA ?_ _|refine cN ?_ _|refine cD ?_)));(case side2 => exact HC0_0.out);(case side3 => repeat (first|exact (cB HR0_1.out HB.out)|(with_reducible first|refine cA ?_ _|refine cN ?_ _|refine cD ?_)));(case side4 => exact HC0_1.out);rintro e w82 ⟨v188,v191,rfl,ho0,ho1,hb⟩;refine ⟨_,rfl,?_⟩;have n0_:=aM (rE (by (with_reducible repeat (first|apply rA|apply rN|apply rD));exact HO174.out) (rS ho0) hb);have n1_:=aM (rE (by (with_reducible repeat (first|apply rA|apply rN|apply rD));exact HO177.out) (rS ho1) hb);have n2_:=aM (rE (by (with_reducible repeat (first|apply rA|apply rN|apply rD));exact HO181.out) (rS ho0) hb);have n3_:=aM (rE (by (with_reducible repeat (first|apply rA|apply rN|apply rD));exact HO184.out) (rS ho1) hb);have n4_:=aM (rL (rW (rW ho0 (rT (by (with_reducible repeat (first|apply rA|apply rN|apply rD));exact HO174.out))) (rT (by (with_reducible repeat (first|apply rA|apply rN|apply rD));exact HO181.out))) (lZ (by repeat (first|(with_reducible first|exact HB.out|apply lA|apply lN|apply lD|refine lS ?_ GE168.out|refine lS ?_ GE169.out)|exact HB.out))));have n5_:=aM (rL (rW (rW ho1 (rT (by (with_reducible repeat (first|apply rA|apply rN|apply rD));exact HO177.out))) (rT (by (with_reducible repeat (first|apply rA|apply rN|apply rD));exact HO184.out))) (lZ (by repeat (first|(with_reducible first|exact HB.out|apply lA|apply lN|apply lD|refine lS ?_ GE168.out|refine lS ?_ GE169.out)|exact HB.out))));have n6_:=aM (bB (g:=gb168) (o:=.cells #[.slice A0_0 l0_0.length c0_0,.slice A0_1 l0_1.length c0_1,.string a0_2] 48 (0,0)) (by (with_reducible repeat (first|refine bN ?_ _|refine bD ?_|refine bA ?_ _));exact BK168.out) hb);have n7_:=aM (bB (g:=gb169) (o:=.cells #[.slice A1_0 l1_0.length c1_0,.slice A1_1 l1_1.length c1_1,.string a1_2] 48 (0,0)) (by (with_reducible repeat (first|refine bN ?_ _|refine bD ?_|refine bA ?_ _));exact BK169.out) hb);have n8_:=aM (lP (by repeat (first|(with_reducible first|exact HB.out|apply lA|apply lN|apply lD|refine lS ?_ GE168.out|refine lS ?_ GE169.out)|exact HB.out)) hb);clear HO174 HO177 HO181 HO184 BK168 BK169 HB;have HO174:=n0_;have HO177:=n1_;have HO181:=n2_;have HO184:=n3_;have HO189:=n4_;have HO192:=n5_;have BK168:=n6_;have BK169:=n7_;have HB:=n8_;clear n0_ n1_ n2_ n3_ n4_ n5_ n6_ n7_ n8_;(try clear hb);(try clear hb2);(try clear hk);(try clear hi);(try clear ho0);(try clear ho1))|((with_reducible refine gate_dst (N:=7) rfl ?_);refine box_event ?hg (N:=7) ?hd (cs:=#[.slice none 0 0,.slice none 0 0,.string (⟨#[]⟩ : ByteArray)]) (t:=54) ?hr ?_;(case hd => rfl);(case hg => rfl);(case hr => first|(go_simp;done)|(go_simp;rfl));intro gb194 hg w83 hbox hb;have n0_:=aM (rB (by (with_reducible repeat (first|apply rA|apply rN|apply rD));exact HO174.out) hb);have n1_:=aM (rB (by (with_reducible repeat (first|apply rA|apply rN|apply rD));exact HO177.out) hb);have n2_:=aM (rB (by (with_reducible repeat (first|apply rA|apply rN|apply rD));exact HO181.out) hb);have n3_:=aM (rB (by (with_reducible repeat (first|apply rA|apply rN|apply rD));exact HO184.out) hb);have n4_:=aM (rB (by (with_reducible repeat (first|apply rA|apply rN|apply rD));exact HO189.out) hb);have n5_:=aM (rB (by (with_reducible repeat (first|apply rA|apply rN|apply rD));exact HO192.out) hb);have n6_:=aM (bB (g:=gb168) (o:=.cells #[.slice A0_0 l0_0.length c0_0,.slice A0_1 l0_1.length c0_1,.string a0_2] 48 (0,0)) (by (with_reducible repeat (first|refine bN ?_ _|refine bD ?_|refine bA ?_ _));exact BK168.out) hb);have n7_:=aM (bB (g:=gb169) (o:=.cells #[.slice A1_0 l1_0.length c1_0,.slice A1_1 l1_1.length c1_1,.string a1_2] 48 (0,0)) (by (with_reducible repeat (first|refine bN ?_ _|refine bD ?_|refine bA ?_ _));exact BK169.out) hb);have n8_:=aM (lP (by repeat (first|(with_reducible first|exact HB.out|apply lA|apply lN|apply lD|refine lS ?_ GE168.out|refine lS ?_ GE169.out)|exact HB.out)) hb);have n9_:=aM (hbox);have n10_:=aM ((by rw [hg];exact (lZ (by repeat (first|(with_reducible first|exact HB.out|apply lA|apply lN|apply lD|refine lS ?_ GE168.out|refine lS ?_ GE169.out)|exact HB.out))) : w.heap.size ≤ gb194));have n11_:=aM ((by rw [hg];exact (lZ (by repeat (first|(with_reducible first|exact HB.out|apply lA|apply lN|apply lD|refine lS ?_ GE168.out|refine lS ?_ GE169.out)|exact HB.out))) : w.heap.size ≤ gb194));have n12_:=aM ((by rw [hg];exact Nat.ne_of_lt (bL (g:=gb168) (o:=.cells #[.slice A0_0 l0_0.length c0_0,.slice A0_1 l0_1.length c0_1,.string a0_2] 48 (0,0)) (by (with_reducible repeat (first|refine bN ?_ _|refine bD ?_|refine bA ?_ _));exact BK168.out)) : gb168 ≠ gb194));have n13_:=aM ((by rw [hg];exact Nat.ne_of_gt (bL (g:=gb168) (o:=.cells #[.slice A0_0 l0_0.length c0_0,.slice A0_1 l0_1.length c0_1,.string a0_2] 48 (0,0)) (by (with_reducible repeat (first|refine bN ?_ _|refine bD ?_|refine bA ?_ _));exact BK168.out)) : gb194 ≠ gb168));have n14_:=aM ((by rw [hg];exact Nat.ne_of_lt (bL (g:=gb169) (o:=.cells #[.slice A1_0 l1_0.length c1_0,.slice A1_1 l1_1.length c1_1,.string a1_2] 48 (0,0)) (by (with_reducible repeat (first|refine bN ?_ _|refine bD ?_|refine bA ?_ _));exact BK169.out)) : gb169 ≠ gb194));have n15_:=aM ((by rw [hg];exact Nat.ne_of_gt (bL (g:=gb169) (o:=.cells #[.slice A1_0 l1_0.length c1_0,.slice A1_1 l1_1.length c1_1,.string a1_2] 48 (0,0)) (by (with_reducible repeat (first|refine bN ?_ _|refine bD ?_|refine bA ?_ _));exact BK169.out)) : gb194 ≠ gb169));clear HO174 HO177 HO181 HO184 HO189 HO192 BK168 BK169 HB;have HO174:=n0_;have HO177:=n1_;have HO181:=n2_;have HO184:=n3_;have HO189:=n4_;have HO192:=n5_;have BK168:=n6_;have BK169:=n7_;have HB:=n8_;have BK194:=n9_;have GW194:=n10_;have GE194:=n11_;have NB168_194:=n12_;have NB194_168:=n13_;have NB169_194:=n14_;have NB194_169:=n15_;clear n0_ n1_ n2_ n3_ n4_ n5_ n6_ n7_ n8_ n9_ n10_ n11_ n12_ n13_ n14_ n15_ hb hbox hg;obtain ⟨Ao84,co84,eo84⟩:=Kd.R_slice HO189.out;subst eo84;have hnb85:=NB194_168.out;have hnc85:=NB168_194.out;have hnb86:=NB194_169.out;have hnc86:=NB169_194.out;have hcz87_0 : w83.cell? ⟨gb194,0,none⟩ = some (.slice none 0 0):=(bC BK194.out 0).trans rfl;have hcz87_1 : w83.cell? ⟨gb194,1,none⟩ = some (.slice none 0 0):=(bC BK194.out 1).trans rfl;have hcz87_2 : w83.cell? ⟨gb194,2,none⟩ = some (.string (⟨#[]⟩ : ByteArray)):=(bC BK194.out 2).trans rfl;have hfz87_0:=bF BK194.out 0;have hfz87_1:=bF BK194.out 1;have hfz87_2:=bF BK194.out 2;obtain ⟨Ao88,co88,eo88⟩:=Kd.R_slice HO192.out;subst eo88;have hcz89_0 : w83.cell? ⟨gb169,0,none⟩ = some (.slice A1_0 l1_0.length c1_0):=(bC BK169.out 0).trans rfl;have hcz89_1 : w83.cell? ⟨gb169,1,none⟩ = some (.slice A1_1 l1_1.length c1_1):=(bC BK169.out 1).trans rfl;have hcz89_2 : w83.cell? ⟨gb169,2,none⟩ = some (.string a1_2):=(bC BK169.out 2).trans rfl;have hfz89_0:=bF BK169.out 0;have hfz89_1:=bF BK169.out 1;have hfz89_2:=bF BK169.out 2)|((with_reducible refine gate_callee (f:=36) rfl ?_);refine goesL_ (some 28) rfl rfl Try.func36 (by kernel_rfl) rfl #[.agg #[.slice A1_0 l1_0.length c1_0,.slice A1_1 l1_1.length c1_1,.string a1_2]] rfl (by (try simp only [List.map_toArray,List.map_cons,List.map_nil]);first|done|rfl|(simp only [List.length_drop,List.length_take];rfl)) ?_;(with_reducible refine (laws_toStore.calls k _ _ l1_0 _ _ l1_1 a1_2 t195 t198 t201 _ ?side1 ?side2 ?side3 ?side4 A23.out).mono ?_);(case side1 => exact cB HR1_0.out (by repeat (first|(with_reducible first|exact HB.out|apply lA|apply lN|apply lD|refine lS ?_ GE168.out|refine lS ?_ GE169.out|refine lS ?_ GE194.out)|exact HB.out)));(case side2 => exact HC1_0.out);(case side3 => exact cB HR1_1.out (by repeat (first|(with_reducible first|exact HB.out|apply lA|apply lN|apply lD|refine lS ?_ GE168.out|refine lS ?_ GE169.out|refine lS ?_ GE194.out)|exact HB.out)));(case side4 => exact HC1_1.out);rintro e w90 ⟨v196,v199,rfl,ho0,ho1,hb⟩;refine ⟨_,rfl,?_⟩;have n0_:=aM (rE (by (with_reducible repeat (first|apply rA|apply rN|apply rD));exact (Kd.R_mono (rF (p:=⟨gb194,2,none⟩) (rF (p:=⟨gb194,1,none⟩) (rF (p:=⟨gb194,0,none⟩) (rY HO174.out BK194.out (by decide)) (fun _ hk => hk.2) (.slice Ao84 t187.length co84)) (fun _ hk => hk.2) (.slice Ao88 t190.length co88)) (fun _ hk => hk.2) (.string t193)) (fun _ h_ => h_.1))) (rS ho0) hb);have n1_:=aM (rE (by (with_reducible repeat (first|apply rA|apply rN|apply rD));exact (Kd.R_mono (rF (p:=⟨gb194,2,none⟩) (rF (p:=⟨gb194,1,none⟩) (rF (p:=⟨gb194,0,none⟩) (rY HO177.out BK194.out (by decide)) (fun _ hk => hk.2) (.slice Ao84 t187.length co84)) (fun _ hk => hk.2) (.slice Ao88 t190.length co88)) (fun _ hk => hk.2) (.string t193)) (fun _ h_ => h_.1))) (rS ho1) hb);have n2_:=aM (rE (by (with_reducible repeat (first|apply rA|apply rN|apply rD));exact (Kd.R_mono (rF (p:=⟨gb194,2,none⟩) (rF (p:=⟨gb194,1,none⟩) (rF (p:=⟨gb194,0,none⟩) (rY HO181.out BK194.out (by decide)) (fun _ hk => hk.2) (.slice Ao84 t187.length co84)) (fun _ hk => hk.2) (.slice Ao88 t190.length co88)) (fun _ hk => hk.2) (.string t193)) (fun _ h_ => h_.1))) (rS ho0) hb);have n3_:=aM (rE (by (with_reducible repeat (first|apply rA|apply rN|apply rD));exact (Kd.R_mono (rF (p:=⟨gb194,2,none⟩) (rF (p:=⟨gb194,1,none⟩) (rF (p:=⟨gb194,0,none⟩) (rY HO184.out BK194.out (by decide)) (fun _ hk => hk.2) (.slice Ao84 t187.length co84)) (fun _ hk => hk.2) (.slice Ao88 t190.length co88)) (fun _ hk => hk.2) (.string t193)) (fun _ h_ => h_.1))) (rS ho1) hb);have n4_:=aM (rE (by (with_reducible repeat (first|apply rA|apply rN|apply rD));exact (Kd.R_mono (rF (p:=⟨gb194,2,none⟩) (rF (p:=⟨gb194,1,none⟩) (rF (p:=⟨gb194,0,none⟩) (rY HO189.out BK194.out (by decide)) (fun _ hk => hk.2) (.slice Ao84 t187.length co84)) (fun _ hk => hk.2) (.slice Ao88 t190.length co88)) (fun _ hk => hk.2) (.string t193)) (fun _ h_ => h_.1))) (rS ho0) hb);have n5_:=aM (rE (by (with_reducible repeat (first|apply rA|apply rN|apply rD));exact (Kd.R_mono (rF (p:=⟨gb194,2,none⟩) (rF (p:=⟨gb194,1,none⟩) (rF (p:=⟨gb194,0,none⟩) (rY HO192.out BK194.out (by decide)) (fun _ hk => hk.2) (.slice Ao84 t187.length co84)) (fun _ hk => hk.2) (.slice Ao88 t190.length co88)) (fun _ hk => hk.2) (.string t193)) (fun _ h_ => h_.1))) (rS ho1) hb);have n6_:=aM (rL (rW (rW (rW ho0 (rT (by (with_reducible repeat (first|apply rA|apply rN|apply rD));exact (Kd.R_mono (rF (p:=⟨gb194,2,none⟩) (rF (p:=⟨gb194,1,none⟩) (rF (p:=⟨gb194,0,none⟩) (rY HO174.out BK194.out (by decide)) (fun _ hk => hk.2) (.slice Ao84 t187.length co84)) (fun _ hk => hk.2) (.slice Ao88 t190.length co88)) (fun _ hk => hk.2) (.string t193)) (fun _ h_ => h_.1))))) (rT (by (with_reducible repeat (first|apply rA|apply rN|apply rD));exact (Kd.R_mono (rF (p:=⟨gb194,2,none⟩) (rF (p:=⟨gb194,1,none⟩) (rF (p:=⟨gb194,0,none⟩) (rY HO181.out BK194.out (by decide)) (fun _ hk => hk.2) (.slice Ao84 t187.length co84)) (fun _ hk => hk.2) (.slice Ao88 t190.length co88)) (fun _ hk => hk.2) (.string t193)) (fun _ h_ => h_.1))))) (rT (by (with_reducible repeat (first|apply rA|apply rN|apply rD));exact (Kd.R_mono (rF (p:=⟨gb194,2,none⟩) (rF (p:=⟨gb194,1,none⟩) (rF (p:=⟨gb194,0,none⟩) (rY HO189.out BK194.out (by decide)) (fun _ hk => hk.2) (.slice Ao84 t187.length co84)) (fun _ hk => hk.2) (.slice Ao88 t190.length co88)) (fun _ hk => hk.2) (.string t193)) (fun _ h_ => h_.1))))) (lZ (by repeat (first|(with_reducible first|exact HB.out|apply lA|apply lN|apply lD|refine lS ?_ GE168.out|refine lS ?_ GE169.out|refine lS ?_ GE194.out)|exact HB.out))));have n7_:=aM (rL (rW (rW (rW ho1 (rT (by (with_reducible repeat (first|apply rA|apply rN|apply rD));exact (Kd.R_mono (rF (p:=⟨gb194,2,none⟩) (rF (p:=⟨gb194,1,none⟩) (rF (p:=⟨gb194,0,none⟩) (rY HO177.out BK194.out (by decide)) (fun _ hk => hk.2) (.slice Ao84 t187.length co84)) (fun _ hk => hk.2) (.slice Ao88 t190.length co88)) (fun _ hk => hk.2) (.string t193)) (fun _ h_ => h_.1))))) (rT (by (with_reducible repeat (first|apply rA|apply rN|apply rD));exact (Kd.R_mono (rF (p:=⟨gb194,2,none⟩) (rF (p:=⟨gb194,1,none⟩) (rF (p:=⟨gb194,0,none⟩) (rY HO184.out BK194.out (by decide)) (fun _ hk => hk.2) (.slice Ao84 t187.length co84)) (fun _ hk => hk.2) (.slice Ao88 t190.length co88)) (fun _ hk => hk.2) (.string t193)) (fun _ h_ => h_.1))))) (rT (by (with_reducible repeat (first|apply rA|apply rN|apply rD));exact (Kd.R_mono (rF (p:=⟨gb194,2,none⟩) (rF (p:=⟨gb194,1,none⟩) (rF (p:=⟨gb194,0,none⟩) (rY HO192.out BK194.out (by decide)) (fun _ hk => hk.2) (.slice Ao84 t187.length co84)) (fun _ hk => hk.2) (.slice Ao88 t190.length co88)) (fun _ hk => hk.2) (.string t193)) (fun _ h_ => h_.1))))) (lZ (by repeat (first|(with_reducible first|exact HB.out|apply lA|apply lN|apply lD|refine lS ?_ GE168.out|refine lS ?_ GE169.out|refine lS ?_ GE194.out)|exact HB.out))));have n8_:=aM (bB (g:=gb168) (o:=.cells #[.slice A0_0 l0_0.length c0_0,.slice A0_1 l0_1.length c0_1,.string a0_2] 48 (0,0)) (by (with_reducible repeat (first|refine bN ?_ _|refine bD ?_|refine bA ?_ _));refine blk_far ?_ NB168_194.out _;(with_reducible repeat (first|refine bN ?_ _|refine bD ?_|refine bA ?_ _));refine blk_far ?_ NB168_194.out _;(with_reducible repeat (first|refine bN ?_ _|refine bD ?_|refine bA ?_ _));refine blk_far ?_ NB168_194.out _;(with_reducible repeat (first|refine bN ?_ _|refine bD ?_|refine bA ?_ _));exact BK168.out) hb);have n9_:=aM (bB (g:=gb169) (o:=.cells #[.slice A1_0 l1_0.length c1_0,.slice A1_1 l1_1.length c1_1,.string a1_2] 48 (0,0)) (by (with_reducible repeat (first|refine bN ?_ _|refine bD ?_|refine bA ?_ _));refine blk_far ?_ NB169_194.out _;(with_reducible repeat (first|refine bN ?_ _|refine bD ?_|refine bA ?_ _));refine blk_far ?_ NB169_194.out _;(with_reducible repeat (first|refine bN ?_ _|refine bD ?_|refine bA ?_ _));refine blk_far ?_ NB169_194.out _;(with_reducible repeat (first|refine bN ?_ _|refine bD ?_|refine bA ?_ _));exact BK169.out) hb);have n10_:=aM (bB (g:=gb194) (o:=.cells #[.slice Ao84 t187.length co84,.slice Ao88 t190.length co88,.string t193] 54 (0,0)) (by (with_reducible repeat (first|refine bN ?_ _|refine bD ?_|refine bA ?_ _));refine blk_put (cs:=#[.slice Ao84 t187.length co84,.slice Ao88 t190.length co88,.string (⟨#[]⟩ : ByteArray)]) ?_ 2 _ rfl;(with_reducible repeat (first|refine bN ?_ _|refine bD ?_|refine bA ?_ _));refine blk_put (cs:=#[.slice Ao84 t187.length co84,.slice none 0 0,.string (⟨#[]⟩ : ByteArray)]) ?_ 1 _ rfl;(with_reducible repeat (first|refine bN ?_ _|refine bD ?_|refine bA ?_ _));refine blk_put (cs:=#[.slice none 0 0,.slice none 0 0,.string (⟨#[]⟩ : ByteArray)]) ?_ 0 _ rfl;(with_reducible repeat (first|refine bN ?_ _|refine bD ?_|refine bA ?_ _));exact BK194.out) hb);have n11_:=aM (lP (by repeat (first|(with_reducible first|exact HB.out|apply lA|apply lN|apply lD|refine lS ?_ GE168.out|refine lS ?_ GE169.out|refine lS ?_ GE194.out)|exact HB.out)) hb);clear HO174 HO177 HO181 HO184 HO189 HO192 BK168 BK169 BK194 HB;have HO174:=n0_;have HO177:=n1_;have HO181:=n2_;have HO184:=n3_;have HO189:=n4_;have HO192:=n5_;have HO197:=n6_;have HO200:=n7_;have BK168:=n8_;have BK169:=n9_;have BK194:=n10_;have HB:=n11_;clear n0_ n1_ n2_ n3_ n4_ n5_ n6_ n7_ n8_ n9_ n10_ n11_;(try clear hb);(try clear hb2);(try clear hk);(try clear hi);(try clear ho0);(try clear ho1))|((with_reducible refine gate_dst (N:=8) rfl ?_);refine box_event ?hg (N:=8) ?hd (cs:=#[.slice none 0 0,.slice none 0 0,.string (⟨#[]⟩ : ByteArray)]) (t:=54) ?hr ?_;(case hd => rfl);(case hg => rfl);(case hr => first|(go_simp;done)|(go_simp;rfl));intro gb202 hg w91 hbox hb;have n0_:=aM (rB (by (with_reducible repeat (first|apply rA|apply rN|apply rD));exact HO174.out) hb);have n1_:=aM (rB (by (with_reducible repeat (first|apply rA|apply rN|apply rD));exact HO177.out) hb);have n2_:=aM (rB (by (with_reducible repeat (first|apply rA|apply rN|apply rD));exact HO181.out) hb);have n3_:=aM (rB (by (with_reducible repeat (first|apply rA|apply rN|apply rD));exact HO184.out) hb);have n4_:=aM (rB (by (with_reducible repeat (first|apply rA|apply rN|apply rD));exact HO189.out) hb);have n5_:=aM (rB (by (with_reducible repeat (first|apply rA|apply rN|apply rD));exact HO192.out) hb);have n6_:=aM (rB (by (with_reducible repeat (first|apply rA|apply rN|apply rD));exact HO197.out) hb);have n7_:=aM (rB (by (with_reducible repeat (first|apply rA|apply rN|apply rD));exact HO200.out) hb);have n8_:=aM (bB (g:=gb168) (o:=.cells #[.slice A0_0 l0_0.length c0_0,.slice A0_1 l0_1.length c0_1,.string a0_2] 48 (0,0)) (by (with_reducible repeat (first|refine bN ?_ _|refine bD ?_|refine bA ?_ _));exact BK168.out) hb);have n9_:=aM (bB (g:=gb169) (o:=.cells #[.slice A1_0 l1_0.length c1_0,.slice A1_1 l1_1.length c1_1,.string a1_2] 48 (0,0)) (by (with_reducible repeat (first|refine bN ?_ _|refine bD ?_|refine bA ?_ _));exact BK169.out) hb);have n10_:=aM (bB (g:=gb194) (o:=.cells #[.slice Ao84 t187.length co84,.slice Ao88 t190.length co88,.string t193] 54 (0,0)) (by (with_reducible repeat (first|refine bN ?_ _|refine bD ?_|refine bA ?_ _));exact BK194.out) hb);have n11_:=aM (lP (by repeat (first|(with_reducible first|exact HB.out|apply lA|apply lN|apply lD|refine lS ?_ GE168.out|refine lS ?_ GE169.out|refine lS ?_ GE194.out)|exact HB.out)) hb);have n12_:=aM (hbox);have n13_:=aM ((by rw [hg];exact (lZ (by repeat (first|(with_reducible first|exact HB.out|apply lA|apply lN|apply lD|refine lS ?_ GE168.out|refine lS ?_ GE169.out|refine lS ?_ GE194.out)|exact HB.out))) : w.heap.size ≤ gb202));have n14_:=aM ((by rw [hg];exact (lZ (by repeat (first|(with_reducible first|exact HB.out|apply lA|apply lN|apply lD|refine lS ?_ GE168.out|refine lS ?_ GE169.out|refine lS ?_ GE194.out)|exact HB.out))) : w.heap.size ≤ gb202));have n15_:=aM ((by rw [hg];exact Nat.ne_of_lt (bL (g:=gb168) (o:=.cells #[.slice A0_0 l0_0.length c0_0,.slice A0_1 l0_1.length c0_1,.string a0_2] 48 (0,0)) (by (with_reducible repeat (first|refine bN ?_ _|refine bD ?_|refine bA ?_ _));exact BK168.out)) : gb168 ≠ gb202));have n16_:=aM ((by rw [hg];exact Nat.ne_of_gt (bL (g:=gb168) (o:=.cells #[.slice A0_0 l0_0.length c0_0,.slice A0_1 l0_1.length c0_1,.string a0_2] 48 (0,0)) (by (with_reducible repeat (first|refine bN ?_ _|refine bD ?_|refine bA ?_ _));exact BK168.out)) : gb202 ≠ gb168));have n17_:=aM ((by rw [hg];exact Nat.ne_of_lt (bL (g:=gb169) (o:=.cells #[.slice A1_0 l1_0.length c1_0,.slice A1_1 l1_1.length c1_1,.string a1_2] 48 (0,0)) (by (with_reducible repeat (first|refine bN ?_ _|refine bD ?_|refine bA ?_ _));exact BK169.out)) : gb169 ≠ gb202));have n18_:=aM ((by rw [hg];exact Nat.ne_of_gt (bL (g:=gb169) (o:=.cells #[.slice A1_0 l1_0.length c1_0,.slice A1_1 l1_1.length c1_1,.string a1_2] 48 (0,0)) (by (with_reducible repeat (first|refine bN ?_ _|refine bD ?_|refine bA ?_ _));exact BK169.out)) : gb202 ≠ gb169));have n19_:=aM ((by rw [hg];exact Nat.ne_of_lt (bL (g:=gb194) (o:=.cells #[.slice Ao84 t187.length co84,.slice Ao88 t190.length co88,.string t193] 54 (0,0)) (by (with_reducible repeat (first|refine bN ?_ _|refine bD ?_|refine bA ?_ _));exact BK194.out)) : gb194 ≠ gb202));have n20_:=aM ((by rw [hg];exact Nat.ne_of_gt (bL (g:=gb194) (o:=.cells #[.slice Ao84 t187.length co84,.slice Ao88 t190.length co88,.string t193] 54 (0,0)) (by (with_reducible repeat (first|refine bN ?_ _|refine bD ?_|refine bA ?_ _));exact BK194.out)) : gb202 ≠ gb194));clear HO174 HO177 HO181 HO184 HO189 HO192 HO197 HO200 BK168 BK169 BK194 HB;have HO174:=n0_;have HO177:=n1_;have HO181:=n2_;have HO184:=n3_;have HO189:=n4_;have HO192:=n5_;have HO197:=n6_;have HO200:=n7_;have BK168:=n8_;have BK169:=n9_;have BK194:=n10_;have HB:=n11_;have BK202:=n12_;have GW202:=n13_;have GE202:=n14_;have NB168_202:=n15_;have NB202_168:=n16_;have NB169_202:=n17_;have NB202_169:=n18_;have NB194_202:=n19_;have NB202_194:=n20_;clear n0_ n1_ n2_ n3_ n4_ n5_ n6_ n7_ n8_ n9_ n10_ n11_ n12_ n13_ n14_ n15_ n16_ n17_ n18_ n19_ n20_ hb hbox hg;obtain ⟨Ao92,co92,eo92⟩:=Kd.R_slice HO197.out;subst eo92;have hnb93:=NB202_168.out;have hnc93:=NB168_202.out;have hnb94:=NB202_169.out;have hnc94:=NB169_202.out;have hnb95:=NB202_194.out;have hnc95:=NB194_202.out;have hcz96_0 : w91.cell? ⟨gb202,0,none⟩ = some (.slice none 0 0):=(bC BK202.out 0).trans rfl;have hcz96_1 : w91.cell? ⟨gb202,1,none⟩ = some (.slice none 0 0):=(bC BK202.out 1).trans rfl;have hcz96_2 : w91.cell? ⟨gb202,2,none⟩ = some (.string (⟨#[]⟩ : ByteArray)):=(bC BK202.out 2).trans rfl;have hfz96_0:=bF BK202.out 0;have hfz96_1:=bF BK202.out 1;have hfz96_2:=bF BK202.out 2;obtain ⟨Ao97,co97,eo97⟩:=Kd.R_slice HO200.out;subst eo97;have hcz98_0 : w91.cell? ⟨gb194,0,none⟩ = some (.slice Ao84 t187.length co84):=(bC BK194.out 0).trans rfl;have hcz98_1 : w91.cell? ⟨gb194,1,none⟩ = some (.slice Ao88 t190.length co88):=(bC BK194.out 1).trans rfl;have hcz98_2 : w91.cell? ⟨gb194,2,none⟩ = some (.string t193):=(bC BK194.out 2).trans rfl;have hfz98_0:=bF BK194.out 0;have hfz98_1:=bF BK194.out 1;have hfz98_2:=bF BK194.out 2)|((with_reducible refine gate_callee (f:=45) rfl ?_);refine goesL_ (some 31) rfl rfl Try.func45 (by kernel_rfl) rfl #[.agg #[.slice Ao84 t187.length co84,.slice Ao88 t190.length co88,.string t193],.agg #[.slice Ao92 t195.length co92,.slice Ao97 t198.length co97,.string t201]] rfl (by (try simp only [List.map_toArray,List.map_cons,List.map_nil]);first|done|rfl|(simp only [List.length_drop,List.length_take];rfl)) ?_;(with_reducible refine (impl_SameStore.calls k _ _ t187 _ _ t190 t193 _ _ t195 _ _ t198 t201 t203 _ ?side1 ?side2 ?side3 ?side4 ?side5 ?side6 ?side7 ?side8 A24.out).mono ?_);(case side1 => refine (rR (e:=105) (base:=w.heap.size) (ok:=fun k_ => (((True ∧ some k_ ≠ (.slice Ao76 t172.length co76 : Value).ownBlock) ∧ some k_ ≠ (.slice Ao78 t179.length co78 : Value).ownBlock) ∧ some k_ ≠ (.slice Ao92 t195.length co92 : Value).ownBlock)) (n:=t187.length) (c:=co84) ?_).2.2;exact (by (with_reducible repeat (first|apply rA|apply rN|apply rD));exact (Kd.R_mono (rF (p:=⟨gb202,2,none⟩) (rF (p:=⟨gb202,1,none⟩) (rF (p:=⟨gb202,0,none⟩) (rY HO189.out BK202.out (by decide)) (fun _ hk => hk.2) (.slice Ao92 t195.length co92)) (fun _ hk => hk.2) (.slice Ao97 t198.length co97)) (fun _ hk => hk.2) (.string t201)) (fun _ h_ => h_.1))));(case side2 => exact (rR HO189.out).2.1);(case side3 => refine (rR (e:=61) (base:=w.heap.size) (ok:=fun k_ => (((True ∧ some k_ ≠ (.slice Ao77 t175.length co77 : Value).ownBlock) ∧ some k_ ≠ (.slice Ao79 t182.length co79 : Value).ownBlock) ∧ some k_ ≠ (.slice Ao97 t198.length co97 : Value).ownBlock)) (n:=t190.length) (c:=co88) ?_).2.2;exact (by (with_reducible repeat (first|apply rA|apply rN|apply rD));exact (Kd.R_mono (rF (p:=⟨gb202,2,none⟩) (rF (p:=⟨gb202,1,none⟩) (rF (p:=⟨gb202,0,none⟩) (rY HO192.out BK202.out (by decide)) (fun _ hk => hk.2) (.slice Ao92 t195.length co92)) (fun _ hk => hk.2) (.slice Ao97 t198.length co97)) (fun _ hk => hk.2) (.string t201)) (fun _ h_ => h_.1))));(case side4 => exact (rR HO192.out).2.1);(case side5 => refine (rR (e:=105) (base:=w.heap.size) (ok:=fun k_ => (((True ∧ some k_ ≠ (.slice Ao76 t172.length co76 : Value).ownBlock) ∧ some k_ ≠ (.slice Ao78 t179.length co78 : Value).ownBlock) ∧ some k_ ≠ (.slice Ao84 t187.length co84 : Value).ownBlock)) (n:=t195.length) (c:=co92) ?_).2.2;exact (by (with_reducible repeat (first|apply rA|apply rN|apply rD));exact (Kd.R_mono (rF (p:=⟨gb202,2,none⟩) (rF (p:=⟨gb202,1,none⟩) (rF (p:=⟨gb202,0,none⟩) (rY HO197.out BK202.out (by decide)) (fun _ hk => hk.2) (.slice Ao92 t195.length co92)) (fun _ hk => hk.2) (.slice Ao97 t198.length co97)) (fun _ hk => hk.2) (.string t201)) (fun _ h_ => h_.1))));(case side6 => exact (rR HO197.out).2.1);(case side7 => refine (rR (e:=61) (base:=w.heap.size) (ok:=fun k_ => (((True ∧ some k_ ≠ (.slice Ao77 t175.length co77 : Value).ownBlock) ∧ some k_ ≠ (.slice Ao79 t182.length co79 : Value).ownBlock) ∧ some k_ ≠ (.slice Ao88 t190.length co88 : Value).ownBlock)) (n:=t198.length) (c:=co97) ?_).2.2;exact (by (with_reducible repeat (first|apply rA|apply rN|apply rD));exact (Kd.R_mono (rF (p:=⟨gb202,2,none⟩) (rF (p:=⟨gb202,1,none⟩) (rF (p:=⟨gb202,0,none⟩) (rY HO200.out BK202.out (by decide)) (fun _ hk => hk.2) (.slice Ao92 t195.length co92)) (fun _ hk => hk.2) (.slice Ao97 t198.length co97)) (fun _ hk => hk.2) (.string t201)) (fun _ h_ => h_.1))));(case side8 => exact (rR HO200.out).2.1);rintro e w99 ⟨rfl,hb⟩;refine ⟨_,rfl,?_⟩;have n0_:=aM (rB (by (with_reducible repeat (first|apply rA|apply rN|apply rD));exact (Kd.R_mono (rF (p:=⟨gb202,2,none⟩) (rF (p:=⟨gb202,1,none⟩) (rF (p:=⟨gb202,0,none⟩) (rY HO174.out BK202.out (by decide)) (fun _ hk => hk.2) (.slice Ao92 t195.length co92)) (fun _ hk => hk.2) (.slice Ao97 t198.length co97)) (fun _ hk => hk.2) (.string t201)) (fun _ h_ => h_.1))) hb);have n1_:=aM (rB (by (with_reducible repeat (first|apply rA|apply rN|apply rD));exact (Kd.R_mono (rF (p:=⟨gb202,2,none⟩) (rF (p:=⟨gb202,1,none⟩) (rF (p:=⟨gb202,0,none⟩) (rY HO177.out BK202.out (by decide)) (fun _ hk => hk.2) (.slice Ao92 t195.length co92)) (fun _ hk => hk.2) (.slice Ao97 t198.length co97)) (fun _ hk => hk.2) (.string t201)) (fun _ h_ => h_.1))) hb);have n2_:=aM (rB (by (with_reducible repeat (first|apply rA|apply rN|apply rD));exact (Kd.R_mono (rF (p:=⟨gb202,2,none⟩) (rF (p:=⟨gb202,1,none⟩) (rF (p:=⟨gb202,0,none⟩) (rY HO181.out BK202.out (by decide)) (fun _ hk => hk.2) (.slice Ao92 t195.length co92)) (fun _ hk => hk.2) (.slice Ao97 t198.length co97)) (fun _ hk => hk.2) (.string t201)) (fun _ h_ => h_.1))) hb);have n3_:=aM (rB (by (with_reducible repeat (first|apply rA|apply rN|apply rD));exact (Kd.R_mono (rF (p:=⟨gb202,2,none⟩) (rF (p:=⟨gb202,1,none⟩) (rF (p:=⟨gb202,0,none⟩) (rY HO184.out BK202.out (by decide)) (fun _ hk => hk.2) (.slice Ao92 t195.length co92)) (fun _ hk => hk.2) (.slice Ao97 t198.length co97)) (fun _ hk => hk.2) (.string t201)) (fun _ h_ => h_.1))) hb);have n4_:=aM (rB (by (with_reducible repeat (first|apply rA|apply rN|apply rD));exact (Kd.R_mono (rF (p:=⟨gb202,2,none⟩) (rF (p:=⟨gb202,1,none⟩) (rF (p:=⟨gb202,0,none⟩) (rY HO189.out BK202.out (by decide)) (fun _ hk => hk.2) (.slice Ao92 t195.length co92)) (fun _ hk => hk.2) (.slice Ao97 t198.length co97)) (fun _ hk => hk.2) (.string t201)) (fun _ h_ => h_.1))) hb);have n5_:=aM (rB (by (with_reducible repeat (first|apply rA|apply rN|apply rD));exact (Kd.R_mono (rF (p:=⟨gb202,2,none⟩) (rF (p:=⟨gb202,1,none⟩) (rF (p:=⟨gb202,0,none⟩) (rY HO192.out BK202.out (by decide)) (fun _ hk => hk.2) (.slice Ao92 t195.length co92)) (fun _ hk => hk.2) (.slice Ao97 t198.length co97)) (fun _ hk => hk.2) (.string t201)) (fun _ h_ => h_.1))) hb);have n6_:=aM (rB (by (with_reducible repeat (first|apply rA|apply rN|apply rD));exact (Kd.R_mono (rF (p:=⟨gb202,2,none⟩) (rF (p:=⟨gb202,1,none⟩) (rF (p:=⟨gb202,0,none⟩) (rY HO197.out BK202.out (by decide)) (fun _ hk => hk.2) (.slice Ao92 t195.length co92)) (fun _ hk => hk.2) (.slice Ao97 t198.length co97)) (fun _ hk => hk.2) (.string t201)) (fun _ h_ => h_.1))) hb);have n7_:=aM (rB (by (with_reducible repeat (first|apply rA|apply rN|apply rD));exact (Kd.R_mono (rF (p:=⟨gb202,2,none⟩) (rF (p:=⟨gb202,1,none⟩) (rF (p:=⟨gb202,0,none⟩) (rY HO200.out BK202.out (by decide)) (fun _ hk => hk.2) (.slice Ao92 t195.length co92)) (fun _ hk => hk.2) (.slice Ao97 t198.length co97)) (fun _ hk => hk.2) (.string t201)) (fun _ h_ => h_.1))) hb);have n8_:=aM (bB (g:=gb168) (o:=.cells #[.slice A0_0 l0_0.length c0_0,.slice A0_1 l0_1.length c0_1,.string a0_2] 48 (0,0)) (by (with_reducible repeat (first|refine bN ?_ _|refine bD ?_|refine bA ?_ _));refine blk_far ?_ NB168_202.out _;(with_reducible repeat (first|refine bN ?_ _|refine bD ?_|refine bA ?_ _));refine blk_far ?_ NB168_202.out _;(with_reducible repeat (first|refine bN ?_ _|refine bD ?_|refine bA ?_ _));refine blk_far ?_ NB168_202.out _;(with_reducible repeat (first|refine bN ?_ _|refine bD ?_|refine bA ?_ _));exact BK168.out) hb);have n9_:=aM (bB (g:=gb169) (o:=.cells #[.slice A1_0 l1_0.length c1_0,.slice A1_1 l1_1.length c1_1,.string a1_2] 48 (0,0)) (by (with_reducible repeat (first|refine bN ?_ _|refine bD ?_|refine bA ?_ _));refine blk_far ?_ NB169_202.out _;(with_reducible repeat (first|refine bN ?_ _|refine bD ?_|refine bA ?_ _));refine blk_far ?_ NB169_202.out _;(with_reducible repeat (first|refine bN ?_ _|refine bD ?_|refine bA ?_ _));refine blk_far ?_ NB169_202.out _;(with_reducible repeat (first|refine bN ?_ _|refine bD ?_|refine bA ?_ _));exact BK169.out) hb);have n10_:=aM (bB (g:=gb194) (o:=.cells #[.slice Ao84 t187.length co84,.slice Ao88 t190.length co88,.string t193] 54 (0,0)) (by (with_reducible repeat (first|refine bN ?_ _|refine bD ?_|refine bA ?_ _));refine blk_far ?_ NB194_202.out _;(with_reducible repeat (first|refine bN ?_ _|refine bD ?_|refine bA ?_ _));refine blk_far ?_ NB194_202.out _;(with_reducible repeat (first|refine bN ?_ _|refine bD ?_|refine bA ?_ _));refine blk_far ?_ NB194_202.out _;(with_reducible repeat (first|refine bN ?_ _|refine bD ?_|refine bA ?_ _));exact BK194.out) hb);have n11_:=aM (bB (g:=gb202) (o:=.cells #[.slice Ao92 t195.length co92,.slice Ao97 t198.length co97,.string t201] 54 (0,0)) (by (with_reducible repeat (first|refine bN ?_ _|refine bD ?_|refine bA ?_ _));refine blk_put (cs:=#[.slice Ao92 t195.length co92,.slice Ao97 t198.length co97,.string (⟨#[]⟩ : ByteArray)]) ?_ 2 _ rfl;(with_reducible repeat (first|refine bN ?_ _|refine bD ?_|refine bA ?_ _));refine blk_put (cs:=#[.slice Ao92 t195.length co92,.slice none 0 0,.string (⟨#[]⟩ : ByteArray)]) ?_ 1 _ rfl;(with_reducible repeat (first|refine bN ?_ _|refine bD ?_|refine bA ?_ _));refine blk_put (cs:=#[.slice none 0 0,.slice none 0 0,.string (⟨#[]⟩ : ByteArray)]) ?_ 0 _ rfl;(with_reducible repeat (first|refine bN ?_ _|refine bD ?_|refine bA ?_ _));exact BK202.out) hb);have n12_:=aM (lP (by repeat (first|(with_reducible first|exact HB.out|apply lA|apply lN|apply lD|refine lS ?_ GE168.out|refine lS ?_ GE169.out|refine lS ?_ GE194.out|refine lS ?_ GE202.out)|exact HB.out)) hb);clear HO174 HO177 HO181 HO184 HO189 HO192 HO197 HO200 BK168 BK169 BK194 BK202 HB;have HO174:=n0_;have HO177:=n1_;have HO181:=n2_;have HO184:=n3_;have HO189:=n4_;have HO192:=n5_;have HO197:=n6_;have HO200:=n7_;have BK168:=n8_;have BK169:=n9_;have BK194:=n10_;have BK202:=n11_;have HB:=n12_;clear n0_ n1_ n2_ n3_ n4_ n5_ n6_ n7_ n8_ n9_ n10_ n11_ n12_;(try clear hb);(try clear hb2);(try clear hk);(try clear hi)))
      have n0_:=aM (rD HO174.out)
      have n1_:=aM (rD HO177.out)
      have n2_:=aM (rD HO181.out)
      have n3_:=aM (rD HO184.out)
      have n4_:=aM (rD HO189.out)
      have n5_:=aM (rD HO192.out)
      have n6_:=aM (rD HO197.out)
      have n7_:=aM (rD HO200.out)
      have n8_:=aM (bD BK168.out)
      have n9_:=aM (bD BK169.out)
      have n10_:=aM (bD BK194.out)
      have n11_:=aM (bD BK202.out)
      have n12_:=aM (lD HB.out)
      clear HO174
      clear HO177
      clear HO181
      clear HO184
      clear HO189
      clear HO192
      clear HO197
      clear HO200
      clear BK168
      clear BK169
      clear BK194
      clear BK202
      clear HB
      have HO174:=n0_
      have HO177:=n1_
      have HO181:=n2_
      have HO184:=n3_
      have HO189:=n4_
      have HO192:=n5_
      have HO197:=n6_
      have HO200:=n7_
      have BK168:=n8_
      have BK169:=n9_
      have BK194:=n10_
      have BK202:=n11_
      have HB:=n12_
      clear n0_ n1_ n2_ n3_ n4_ n5_ n6_ n7_ n8_ n9_ n10_ n11_ n12_
      refine start_ (n:=5) (S:=fun w' => w'.cell? ⟨gb194,0,none⟩ = some (.slice Ao84 t187.length co84) ∧ w'.cell? ⟨gb194,1,none⟩ = some (.slice Ao88 t190.length co88) ∧ w'.cell? ⟨gb194,2,none⟩ = some (.string t193) ∧ w'.cell? ⟨gb168,0,none⟩ = some (.slice A0_0 l0_0.length c0_0) ∧ w'.cell? ⟨gb168,1,none⟩ = some (.slice A0_1 l0_1.length c0_1) ∧ w'.cell? ⟨gb168,2,none⟩ = some (.string a0_2)) (ds:=[]) #[false,false,false,false,false] (by kernel_rfl) rfl rfl ⟨(bC BK194.out 0).trans rfl,(bC BK194.out 1).trans rfl,(bC BK194.out 2).trans rfl,(bC BK168.out 0).trans rfl,(bC BK168.out 1).trans rfl,(bC BK168.out 2).trans rfl⟩ (fun hHeld => ?_)
      generalize w99.drew = w100 at HO174 HO177 HO181 HO184 HO189 HO192 HO197 HO200 BK168 BK169 BK194 BK202 HB hHeld ⊢
      refine take_ (i:=0) (N:=some 35) (v:=?_) (a':=?_) #[true,false,false,false,false] rfl rfl (by kernel_rfl) (fun _ _ _ h => h) (Or.inl ⟨by rfl,?_⟩) hHeld ?_ ?_
      rotate_left
      ·rintro w' ⟨s0,s1,s2,s3,s4,s5⟩
       go_simp
       with_reducible rfl
      rotate_left
      ·simp only [Act.put,q_ia,q_cz,q_cs,i64_w,i32_w];rfl
      refine take_ (i:=1) (N:=some 36) (v:=?_) (a':=?_) #[true,true,false,false,false] rfl rfl (by kernel_rfl) (fun _ _ _ h => h) (Or.inl ⟨by rfl,?_⟩) hHeld ?_ ?_
      rotate_left
      ·rintro w' ⟨s0,s1,s2,s3,s4,s5⟩
       go_simp
       with_reducible rfl
      rotate_left
      ·simp only [Act.put,q_ia,q_cz,q_cs,i64_w,i32_w];rfl
      refine one_ (i:=2) (N:=some 37) #[true,true,true,false,false] rfl rfl (by kernel_rfl) (by decide) (fun K hK => ?_)
      refine goes_ Try.func36 (by kernel_rfl) rfl #[.agg #[.slice A0_0 l0_0.length c0_0,.slice A0_1 l0_1.length c0_1,.string a0_2]] (by rfl) rfl rfl (by (try simp only [List.map_toArray,List.map_cons,List.map_nil]);first|done|rfl|(simp only [List.length_drop,List.length_take];rfl)) ?_
      with_reducible refine (laws_toStore.calls k _ _ l0_0 _ _ l0_1 a0_2 t204 t207 t210 _ ?side1 ?side2 ?side3 ?side4 A60.out).mono ?_
      (case side1 => repeat (first|exact (cB HR0_0.out HB.out)|(with_reducible first|refine cA ?_ _|refine cN ?_ _|refine cD ?_)))
      (case side2 => exact HC0_0.out)
      (case side3 => repeat (first|exact (cB HR0_1.out HB.out)|(with_reducible first|refine cA ?_ _|refine cN ?_ _|refine cD ?_)))
      (case side4 => exact HC0_1.out)
      rintro e w101 ⟨v205,v208,rfl,ho0,ho1,hb⟩
      refine ⟨_,rfl,?_⟩
      have n0_:=aM (rE (by (with_reducible repeat (first|apply rA|apply rN|apply rD));exact HO174.out) (rS ho0) hb)
      have n1_:=aM (rE (by (with_reducible repeat (first|apply rA|apply rN|apply rD));exact HO177.out) (rS ho1) hb)
      have n2_:=aM (rE (by (with_reducible repeat (first|apply rA|apply rN|apply rD));exact HO181.out) (rS ho0) hb)
      have n3_:=aM (rE (by (with_reducible repeat (first|apply rA|apply rN|apply rD));exact HO184.out) (rS ho1) hb)
      have n4_:=aM (rE (by (with_reducible repeat (first|apply rA|apply rN|apply rD));exact HO189.out) (rS ho0) hb)
      have n5_:=aM (rE (by (with_reducible repeat (first|apply rA|apply rN|apply rD));exact HO192.out) (rS ho1) hb)
      have n6_:=aM (rE (by (with_reducible repeat (first|apply rA|apply rN|apply rD));exact HO197.out) (rS ho0) hb)
      have n7_:=aM (rE (by (with_reducible repeat (first|apply rA|apply rN|apply rD));exact HO200.out) (rS ho1) hb)
      have n8_:=aM (rL (rW (rW (rW (rW ho0 (rT (by (with_reducible repeat (first|apply rA|apply rN|apply rD));exact HO174.out))) (rT (by (with_reducible repeat (first|apply rA|apply rN|apply rD));exact HO181.out))) (rT (by (with_reducible repeat (first|apply rA|apply rN|apply rD));exact HO189.out))) (rT (by (with_reducible repeat (first|apply rA|apply rN|apply rD));exact HO197.out))) (lZ (by repeat (first|(with_reducible first|exact HB.out|apply lA|apply lN|apply lD|refine lS ?_ GE168.out|refine lS ?_ GE169.out|refine lS ?_ GE194.out|refine lS ?_ GE202.out)|exact HB.out))))
      have n9_:=aM (rL (rW (rW (rW (rW ho1 (rT (by (with_reducible repeat (first|apply rA|apply rN|apply rD));exact HO177.out))) (rT (by (with_reducible repeat (first|apply rA|apply rN|apply rD));exact HO184.out))) (rT (by (with_reducible repeat (first|apply rA|apply rN|apply rD));exact HO192.out))) (rT (by (with_reducible repeat (first|apply rA|apply rN|apply rD));exact HO200.out))) (lZ (by repeat (first|(with_reducible first|exact HB.out|apply lA|apply lN|apply lD|refine lS ?_ GE168.out|refine lS ?_ GE169.out|refine lS ?_ GE194.out|refine lS ?_ GE202.out)|exact HB.out))))
      have n10_:=aM (bB (g:=gb168) (o:=.cells #[.slice A0_0 l0_0.length c0_0,.slice A0_1 l0_1.length c0_1,.string a0_2] 48 (0,0)) (by (with_reducible repeat (first|refine bN ?_ _|refine bD ?_|refine bA ?_ _));exact BK168.out) hb)
      have n11_:=aM (bB (g:=gb169) (o:=.cells #[.slice A1_0 l1_0.length c1_0,.slice A1_1 l1_1.length c1_1,.string a1_2] 48 (0,0)) (by (with_reducible repeat (first|refine bN ?_ _|refine bD ?_|refine bA ?_ _));exact BK169.out) hb)
      have n12_:=aM (bB (g:=gb194) (o:=.cells #[.slice Ao84 t187.length co84,.slice Ao88 t190.length co88,.string t193] 54 (0,0)) (by (with_reducible repeat (first|refine bN ?_ _|refine bD ?_|refine bA ?_ _));exact BK194.out) hb)
      have n13_:=aM (bB (g:=gb202) (o:=.cells #[.slice Ao92 t195.length co92,.slice Ao97 t198.length co97,.string t201] 54 (0,0)) (by (with_reducible repeat (first|refine bN ?_ _|refine bD ?_|refine bA ?_ _));exact BK202.out) hb)
      have n14_:=aM (lP (by repeat (first|(with_reducible first|exact HB.out|apply lA|apply lN|apply lD|refine lS ?_ GE168.out|refine lS ?_ GE169.out|refine lS ?_ GE194.out|refine lS ?_ GE202.out)|exact HB.out)) hb)
      clear HO174
      clear HO177
      clear HO181
      clear HO184
      clear HO189
      clear HO192
      clear HO197
      clear HO200
      clear BK168
      clear BK169
      clear BK194
      clear BK202
      clear HB
      have HO174:=n0_
      have HO177:=n1_
      have HO181:=n2_
      have HO184:=n3_
      have HO189:=n4_
      have HO192:=n5_
      have HO197:=n6_
      have HO200:=n7_
      have HO206:=n8_
      have HO209:=n9_
      have BK168:=n10_
      have BK169:=n11_
      have BK194:=n12_
      have BK202:=n13_
      have HB:=n14_
      clear n0_ n1_ n2_ n3_ n4_ n5_ n6_ n7_ n8_ n9_ n10_ n11_ n12_ n13_ n14_
      (try clear hb)
      (try clear hb2)
      (try clear hk)
      (try clear hi)
      (try clear ho0)
      (try clear ho1)
      obtain ⟨Ao102,co102,eo102⟩:=Kd.R_slice HO206.out
      (first|subst eo102|(injection eo102 with f1_ f2_ f3_;have f4_:=f1_.symm;have f5_:=f3_.symm;clear f1_ f2_ f3_;subst f4_;subst f5_))
      obtain ⟨Ao103,co103,eo103⟩:=Kd.R_slice HO209.out
      (first|subst eo103|(injection eo103 with f1_ f2_ f3_;have f4_:=f1_.symm;have f5_:=f3_.symm;clear f1_ f2_ f3_;subst f4_;subst f5_))
      refine hK.out _ _ ⟨(bC BK194.out 0).trans rfl,(bC BK194.out 1).trans rfl,(bC BK194.out 2).trans rfl,(bC BK168.out 0).trans rfl,(bC BK168.out 1).trans rfl,(bC BK168.out 2).trans rfl⟩ (fun hHeld => ?_)
      clear hK K
      refine norm_ (a':=?_) ?_ ?_
      rotate_left
      ·show Act.put _ (some 37) _ = _
       simp only [Act.put,q_ia,q_cz,q_cs,i64_w,i32_w]
       rfl
      refine one_ (i:=3) (N:=some 38) #[true,true,true,true,false] rfl rfl (by kernel_rfl) (by decide) (fun K hK => ?_)
      refine goes_ Try.func38 (by kernel_rfl) rfl #[.agg #[.slice Ao84 t187.length co84,.slice Ao88 t190.length co88,.string t193],.agg #[.slice Ao102 t204.length co102,.slice Ao103 t207.length co103,.string t210]] (by rfl) rfl rfl (by (try simp only [List.map_toArray,List.map_cons,List.map_nil]);first|done|rfl|(simp only [List.length_drop,List.length_take];rfl)) ?_
      with_reducible refine (laws_eqStore.calls k _ _ t187 _ _ t190 t193 _ _ t204 _ _ t207 t210 true _ ?side1 ?side2 ?side3 ?side4 ?side5 ?side6 ?side7 ?side8 A61.out).mono ?_
      (case side1 => repeat (first|exact (rR HO189.out).2.2|(with_reducible first|refine cA ?_ _|refine cN ?_ _|refine cD ?_)))
      (case side2 => exact (rR HO189.out).2.1)
      (case side3 => repeat (first|exact (rR HO192.out).2.2|(with_reducible first|refine cA ?_ _|refine cN ?_ _|refine cD ?_)))
      (case side4 => exact (rR HO192.out).2.1)
      (case side5 => repeat (first|exact (rR HO206.out).2.2|(with_reducible first|refine cA ?_ _|refine cN ?_ _|refine cD ?_)))
      (case side6 => exact (rR HO206.out).2.1)
      (case side7 => repeat (first|exact (rR HO209.out).2.2|(with_reducible first|refine cA ?_ _|refine cN ?_ _|refine cD ?_)))
      (case side8 => exact (rR HO209.out).2.1)
      rintro e w104 ⟨rfl,hb⟩
      refine ⟨_,rfl,?_⟩
      have n0_:=aM (rB (by (with_reducible repeat (first|apply rA|apply rN|apply rD));exact HO174.out) hb)
      have n1_:=aM (rB (by (with_reducible repeat (first|apply rA|apply rN|apply rD));exact HO177.out) hb)
      have n2_:=aM (rB (by (with_reducible repeat (first|apply rA|apply rN|apply rD));exact HO181.out) hb)
      have n3_:=aM (rB (by (with_reducible repeat (first|apply rA|apply rN|apply rD));exact HO184.out) hb)
      have n4_:=aM (rB (by (with_reducible repeat (first|apply rA|apply rN|apply rD));exact HO189.out) hb)
      have n5_:=aM (rB (by (with_reducible repeat (first|apply rA|apply rN|apply rD));exact HO192.out) hb)
      have n6_:=aM (rB (by (with_reducible repeat (first|apply rA|apply rN|apply rD));exact HO197.out) hb)
      have n7_:=aM (rB (by (with_reducible repeat (first|apply rA|apply rN|apply rD));exact HO200.out) hb)
      have n8_:=aM (rB (by (with_reducible repeat (first|apply rA|apply rN|apply rD));exact HO206.out) hb)
      have n9_:=aM (rB (by (with_reducible repeat (first|apply rA|apply rN|apply rD));exact HO209.out) hb)
      have n10_:=aM (bB (g:=gb168) (o:=.cells #[.slice A0_0 l0_0.length c0_0,.slice A0_1 l0_1.length c0_1,.string a0_2] 48 (0,0)) (by (with_reducible repeat (first|refine bN ?_ _|refine bD ?_|refine bA ?_ _));exact BK168.out) hb)
      have n11_:=aM (bB (g:=gb169) (o:=.cells #[.slice A1_0 l1_0.length c1_0,.slice A1_1 l1_1.length c1_1,.string a1_2] 48 (0,0)) (by (with_reducible repeat (first|refine bN ?_ _|refine bD ?_|refine bA ?_ _));exact BK169.out) hb)
      have n12_:=aM (bB (g:=gb194) (o:=.cells #[.slice Ao84 t187.length co84,.slice Ao88 t190.length co88,.string t193] 54 (0,0)) (by (with_reducible repeat (first|refine bN ?_ _|refine bD ?_|refine bA ?_ _));exact BK194.out) hb)
      have n13_:=aM (bB (g:=gb202) (o:=.cells #[.slice Ao92 t195.length co92,.slice Ao97 t198.length co97,.string t201] 54 (0,0)) (by (with_reducible repeat (first|refine bN ?_ _|refine bD ?_|refine bA ?_ _));exact BK202.out) hb)
      have n14_:=aM (lP (by repeat (first|(with_reducible first|exact HB.out|apply lA|apply lN|apply lD|refine lS ?_ GE168.out|refine lS ?_ GE169.out|refine lS ?_ GE194.out|refine lS ?_ GE202.out)|exact HB.out)) hb)
      clear HO174
      clear HO177
      clear HO181
      clear HO184
      clear HO189
      clear HO192
      clear HO197
      clear HO200
      clear HO206
      clear HO209
      clear BK168
      clear BK169
      clear BK194
      clear BK202
      clear HB
      have HO174:=n0_
      have HO177:=n1_
      have HO181:=n2_
      have HO184:=n3_
      have HO189:=n4_
      have HO192:=n5_
      have HO197:=n6_
      have HO200:=n7_
      have HO206:=n8_
      have HO209:=n9_
      have BK168:=n10_
      have BK169:=n11_
      have BK194:=n12_
      have BK202:=n13_
      have HB:=n14_
      clear n0_ n1_ n2_ n3_ n4_ n5_ n6_ n7_ n8_ n9_ n10_ n11_ n12_ n13_ n14_
      (try clear hb)
      (try clear hb2)
      (try clear hk)
      (try clear hi)
      refine hK.out _ _ ⟨(bC BK194.out 0).trans rfl,(bC BK194.out 1).trans rfl,(bC BK194.out 2).trans rfl,(bC BK168.out 0).trans rfl,(bC BK168.out 1).trans rfl,(bC BK168.out 2).trans rfl⟩ (fun hHeld => ?_)
      clear hK K
      refine norm_ (a':=?_) ?_ ?_
      rotate_left
      ·show Act.put _ (some 38) _ = _
       simp only [Act.put,q_ia,q_cz,q_cs,i64_w,i32_w]
       rfl
      refine pure_ (i:=4) (N:=some 39) (v:=?_) (a':=?_) #[true,true,true,true,true] rfl rfl (by kernel_rfl) (fun _ _ _ h => h) (Or.inl ⟨by rfl,?_⟩) ?_ ?_
      rotate_left
      ·intro w';go_simp;with_reducible rfl
      rotate_left
      ·simp only [Act.put,q_ia,q_cz,q_cs,i64_w,i32_w];rfl
      refine done_ (by kernel_rfl) ?_
      try go_wp2
      have n0_:=aM (rD HO174.out)
      have n1_:=aM (rD HO177.out)
      have n2_:=aM (rD HO181.out)
      have n3_:=aM (rD HO184.out)
      have n4_:=aM (rD HO189.out)
      have n5_:=aM (rD HO192.out)
      have n6_:=aM (rD HO197.out)
      have n7_:=aM (rD HO200.out)
      have n8_:=aM (rD HO206.out)
      have n9_:=aM (rD HO209.out)
      have n10_:=aM (bD BK168.out)
      have n11_:=aM (bD BK169.out)
      have n12_:=aM (bD BK194.out)
      have n13_:=aM (bD BK202.out)
      have n14_:=aM (lD HB.out)
      clear HO174
      clear HO177
      clear HO181
      clear HO184
      clear HO189
      clear HO192
      clear HO197
      clear HO200
      clear HO206
      clear HO209
      clear BK168
      clear BK169
      clear BK194
      clear BK202
      clear HB
      have HO174:=n0_
      have HO177:=n1_
      have HO181:=n2_
      have HO184:=n3_
      have HO189:=n4_
      have HO192:=n5_
      have HO197:=n6_
      have HO200:=n7_
      have HO206:=n8_
      have HO209:=n9_
      have BK168:=n10_
      have BK169:=n11_
      have BK194:=n12_
      have BK202:=n13_
      have HB:=n14_
      clear n0_ n1_ n2_ n3_ n4_ n5_ n6_ n7_ n8_ n9_ n10_ n11_ n12_ n13_ n14_
      refine start_ (n:=5) (S:=fun w' => w'.cell? ⟨gb202,0,none⟩ = some (.slice Ao92 t195.length co92) ∧ w'.cell? ⟨gb202,1,none⟩ = some (.slice Ao97 t198.length co97) ∧ w'.cell? ⟨gb202,2,none⟩ = some (.string t201) ∧ w'.cell? ⟨gb169,0,none⟩ = some (.slice A1_0 l1_0.length c1_0) ∧ w'.cell? ⟨gb169,1,none⟩ = some (.slice A1_1 l1_1.length c1_1) ∧ w'.cell? ⟨gb169,2,none⟩ = some (.string a1_2)) (ds:=[]) #[false,false,false,false,false] (by kernel_rfl) rfl rfl ⟨(bC BK202.out 0).trans rfl,(bC BK202.out 1).trans rfl,(bC BK202.out 2).trans rfl,(bC BK169.out 0).trans rfl,(bC BK169.out 1).trans rfl,(bC BK169.out 2).trans rfl⟩ (fun hHeld => ?_)
      generalize w104.drew = w105 at HO174 HO177 HO181 HO184 HO189 HO192 HO197 HO200 HO206 HO209 BK168 BK169 BK194 BK202 HB hHeld ⊢
      refine take_ (i:=0) (N:=some 40) (v:=?_) (a':=?_) #[true,false,false,false,false] rfl rfl (by kernel_rfl) (fun _ _ _ h => h) (Or.inl ⟨by rfl,?_⟩) hHeld ?_ ?_
      rotate_left
      ·rintro w' ⟨s0,s1,s2,s3,s4,s5⟩
       go_simp
       with_reducible rfl
      rotate_left
      ·simp only [Act.put,q_ia,q_cz,q_cs,i64_w,i32_w];rfl
      refine take_ (i:=1) (N:=some 41) (v:=?_) (a':=?_) #[true,true,false,false,false] rfl rfl (by kernel_rfl) (fun _ _ _ h => h) (Or.inl ⟨by rfl,?_⟩) hHeld ?_ ?_
      rotate_left
      ·rintro w' ⟨s0,s1,s2,s3,s4,s5⟩
       go_simp
       with_reducible rfl
      rotate_left
      ·simp only [Act.put,q_ia,q_cz,q_cs,i64_w,i32_w];rfl
      refine one_ (i:=2) (N:=some 42) #[true,true,true,false,false] rfl rfl (by kernel_rfl) (by decide) (fun K hK => ?_)
      refine goes_ Try.func36 (by kernel_rfl) rfl #[.agg #[.slice A1_0 l1_0.length c1_0,.slice A1_1 l1_1.length c1_1,.string a1_2]] (by rfl) rfl rfl (by (try simp only [List.map_toArray,List.map_cons,List.map_nil]);first|done|rfl|(simp only [List.length_drop,List.length_take];rfl)) ?_
      with_reducible refine (laws_toStore.calls k _ _ l1_0 _ _ l1_1 a1_2 t212 t215 t218 _ ?side1 ?side2 ?side3 ?side4 A63.out).mono ?_
      (case side1 => repeat (first|exact (cB HR1_0.out HB.out)|(with_reducible first|refine cA ?_ _|refine cN ?_ _|refine cD ?_)))
      (case side2 => exact HC1_0.out)
      (case side3 => repeat (first|exact (cB HR1_1.out HB.out)|(with_reducible first|refine cA ?_ _|refine cN ?_ _|refine cD ?_)))
      (case side4 => exact HC1_1.out)
      rintro e w106 ⟨v213,v216,rfl,ho0,ho1,hb⟩
      refine ⟨_,rfl,?_⟩
      have n0_:=aM (rE (by (with_reducible repeat (first|apply rA|apply rN|apply rD));exact HO174.out) (rS ho0) hb)
      have n1_:=aM (rE (by (with_reducible repeat (first|apply rA|apply rN|apply rD));exact HO177.out) (rS ho1) hb)
      have n2_:=aM (rE (by (with_reducible repeat (first|apply rA|apply rN|apply rD));exact HO181.out) (rS ho0) hb)
      have n3_:=aM (rE (by (with_reducible repeat (first|apply rA|apply rN|apply rD));exact HO184.out) (rS ho1) hb)
      have n4_:=aM (rE (by (with_reducible repeat (first|apply rA|apply rN|apply rD));exact HO189.out) (rS ho0) hb)
      have n5_:=aM (rE (by (with_reducible repeat (first|apply rA|apply rN|apply rD));exact HO192.out) (rS ho1) hb)
      have n6_:=aM (rE (by (with_reducible repeat (first|apply rA|apply rN|apply rD));exact HO197.out) (rS ho0) hb)
      have n7_:=aM (rE (by (with_reducible repeat (first|apply rA|apply rN|apply rD));exact HO200.out) (rS ho1) hb)
      have n8_:=aM (rE (by (with_reducible repeat (first|apply rA|apply rN|apply rD));exact HO206.out) (rS ho0) hb)
      have n9_:=aM (rE (by (with_reducible repeat (first|apply rA|apply rN|apply rD));exact HO209.out) (rS ho1) hb)
      have n10_:=aM (rL (rW (rW (rW (rW (rW ho0 (rT (by (with_reducible repeat (first|apply rA|apply rN|apply rD));exact HO174.out))) (rT (by (with_reducible repeat (first|apply rA|apply rN|apply rD));exact HO181.out))) (rT (by (with_reducible repeat (first|apply rA|apply rN|apply rD));exact HO189.out))) (rT (by (with_reducible repeat (first|apply rA|apply rN|apply rD));exact HO197.out))) (rT (by (with_reducible repeat (first|apply rA|apply rN|apply rD));exact HO206.out))) (lZ (by repeat (first|(with_reducible first|exact HB.out|apply lA|apply lN|apply lD|refine lS ?_ GE168.out|refine lS ?_ GE169.out|refine lS ?_ GE194.out|refine lS ?_ GE202.out)|exact HB.out))))
      have n11_:=aM (rL (rW (rW (rW (rW (rW ho1 (rT (by (with_reducible repeat (first|apply rA|apply rN|apply rD));exact HO177.out))) (rT (by (with_reducible repeat (first|apply rA|apply rN|apply rD));exact HO184.out))) (rT (by (with_reducible repeat (first|apply rA|apply rN|apply rD));exact HO192.out))) (rT (by (with_reducible repeat (first|apply rA|apply rN|apply rD));exact HO200.out))) (rT (by (with_reducible repeat (first|apply rA|apply rN|apply rD));exact HO209.out))) (lZ (by repeat (first|(with_reducible first|exact HB.out|apply lA|apply lN|apply lD|refine lS ?_ GE168.out|refine lS ?_ GE169.out|refine lS ?_ GE194.out|refine lS ?_ GE202.out)|exact HB.out))))
      have n12_:=aM (bB (g:=gb168) (o:=.cells #[.slice A0_0 l0_0.length c0_0,.slice A0_1 l0_1.length c0_1,.string a0_2] 48 (0,0)) (by (with_reducible repeat (first|refine bN ?_ _|refine bD ?_|refine bA ?_ _));exact BK168.out) hb)
      have n13_:=aM (bB (g:=gb169) (o:=.cells #[.slice A1_0 l1_0.length c1_0,.slice A1_1 l1_1.length c1_1,.string a1_2] 48 (0,0)) (by (with_reducible repeat (first|refine bN ?_ _|refine bD ?_|refine bA ?_ _));exact BK169.out) hb)
      have n14_:=aM (bB (g:=gb194) (o:=.cells #[.slice Ao84 t187.length co84,.slice Ao88 t190.length co88,.string t193] 54 (0,0)) (by (with_reducible repeat (first|refine bN ?_ _|refine bD ?_|refine bA ?_ _));exact BK194.out) hb)
      have n15_:=aM (bB (g:=gb202) (o:=.cells #[.slice Ao92 t195.length co92,.slice Ao97 t198.length co97,.string t201] 54 (0,0)) (by (with_reducible repeat (first|refine bN ?_ _|refine bD ?_|refine bA ?_ _));exact BK202.out) hb)
      have n16_:=aM (lP (by repeat (first|(with_reducible first|exact HB.out|apply lA|apply lN|apply lD|refine lS ?_ GE168.out|refine lS ?_ GE169.out|refine lS ?_ GE194.out|refine lS ?_ GE202.out)|exact HB.out)) hb)
      clear HO174
      clear HO177
      clear HO181
      clear HO184
      clear HO189
      clear HO192
      clear HO197
      clear HO200
      clear HO206
      clear HO209
      clear BK168
      clear BK169
      clear BK194
      clear BK202
      clear HB
      have HO174:=n0_
      have HO177:=n1_
      have HO181:=n2_
      have HO184:=n3_
      have HO189:=n4_
      have HO192:=n5_
      have HO197:=n6_
      have HO200:=n7_
      have HO206:=n8_
      have HO209:=n9_
      have HO214:=n10_
      have HO217:=n11_
      have BK168:=n12_
      have BK169:=n13_
      have BK194:=n14_
      have BK202:=n15_
      have HB:=n16_
      clear n0_ n1_ n2_ n3_ n4_ n5_ n6_ n7_ n8_ n9_ n10_ n11_ n12_ n13_ n14_ n15_ n16_
      (try clear hb)
      (try clear hb2)
      (try clear hk)
      (try clear hi)
      (try clear ho0)
      (try clear ho1)
      obtain ⟨Ao107,co107,eo107⟩:=Kd.R_slice HO214.out
      (first|subst eo107|(injection eo107 with f1_ f2_ f3_;have f4_:=f1_.symm;have f5_:=f3_.symm;clear f1_ f2_ f3_;subst f4_;subst f5_))
      obtain ⟨Ao108,co108,eo108⟩:=Kd.R_slice HO217.out
      (first|subst eo108|(injection eo108 with f1_ f2_ f3_;have f4_:=f1_.symm;have f5_:=f3_.symm;clear f1_ f2_ f3_;subst f4_;subst f5_))
      refine hK.out _ _ ⟨(bC BK202.out 0).trans rfl,(bC BK202.out 1).trans rfl,(bC BK202.out 2).trans rfl,(bC BK169.out 0).trans rfl,(bC BK169.out 1).trans rfl,(bC BK169.out 2).trans rfl⟩ (fun hHeld => ?_)
      clear hK K
      refine norm_ (a':=?_) ?_ ?_
      rotate_left
      ·show Act.put _ (some 42) _ = _
       simp only [Act.put,q_ia,q_cz,q_cs,i64_w,i32_w]
       rfl
      refine one_ (i:=3) (N:=some 43) #[true,true,true,true,false] rfl rfl (by kernel_rfl) (by decide) (fun K hK => ?_)
      refine goes_ Try.func38 (by kernel_rfl) rfl #[.agg #[.slice Ao92 t195.length co92,.slice Ao97 t198.length co97,.string t201],.agg #[.slice Ao107 t212.length co107,.slice Ao108 t215.length co108,.string t218]] (by rfl) rfl rfl (by (try simp only [List.map_toArray,List.map_cons,List.map_nil]);first|done|rfl|(simp only [List.length_drop,List.length_take];rfl)) ?_
      with_reducible refine (laws_eqStore.calls k _ _ t195 _ _ t198 t201 _ _ t212 _ _ t215 t218 true _ ?side1 ?side2 ?side3 ?side4 ?side5 ?side6 ?side7 ?side8 A64.out).mono ?_
      (case side1 => repeat (first|exact (rR HO197.out).2.2|(with_reducible first|refine cA ?_ _|refine cN ?_ _|refine cD ?_)))
      (case side2 => exact (rR HO197.out).2.1)
      (case side3 => repeat (first|exact (rR HO200.out).2.2|(with_reducible first|refine cA ?_ _|refine cN ?_ _|refine cD ?_)))
      (case side4 => exact (rR HO200.out).2.1)
      (case side5 => repeat (first|exact (rR HO214.out).2.2|(with_reducible first|refine cA ?_ _|refine cN ?_ _|refine cD ?_)))
      (case side6 => exact (rR HO214.out).2.1)
      (case side7 => repeat (first|exact (rR HO217.out).2.2|(with_reducible first|refine cA ?_ _|refine cN ?_ _|refine cD ?_)))
      (case side8 => exact (rR HO217.out).2.1)
      rintro e w109 ⟨rfl,hb⟩
      refine ⟨_,rfl,?_⟩
      have n0_:=aM (rB (by (with_reducible repeat (first|apply rA|apply rN|apply rD));exact HO174.out) hb)
      have n1_:=aM (rB (by (with_reducible repeat (first|apply rA|apply rN|apply rD));exact HO177.out) hb)
      have n2_:=aM (rB (by (with_reducible repeat (first|apply rA|apply rN|apply rD));exact HO181.out) hb)
      have n3_:=aM (rB (by (with_reducible repeat (first|apply rA|apply rN|apply rD));exact HO184.out) hb)
      have n4_:=aM (rB (by (with_reducible repeat (first|apply rA|apply rN|apply rD));exact HO189.out) hb)
      have n5_:=aM (rB (by (with_reducible repeat (first|apply rA|apply rN|apply rD));exact HO192.out) hb)
      have n6_:=aM (rB (by (with_reducible repeat (first|apply rA|apply rN|apply rD));exact HO197.out) hb)
      have n7_:=aM (rB (by (with_reducible repeat (first|apply rA|apply rN|apply rD));exact HO200.out) hb)
      have n8_:=aM (rB (by (with_reducible repeat (first|apply rA|apply rN|apply rD));exact HO206.out) hb)
      have n9_:=aM (rB (by (with_reducible repeat (first|apply rA|apply rN|apply rD));exact HO209.out) hb)
      have n10_:=aM (rB (by (with_reducible repeat (first|apply rA|apply rN|apply rD));exact HO214.out) hb)
      have n11_:=aM (rB (by (with_reducible repeat (first|apply rA|apply rN|apply rD));exact HO217.out) hb)
      have n12_:=aM (bB (g:=gb168) (o:=.cells #[.slice A0_0 l0_0.length c0_0,.slice A0_1 l0_1.length c0_1,.string a0_2] 48 (0,0)) (by (with_reducible repeat (first|refine bN ?_ _|refine bD ?_|refine bA ?_ _));exact BK168.out) hb)
      have n13_:=aM (bB (g:=gb169) (o:=.cells #[.slice A1_0 l1_0.length c1_0,.slice A1_1 l1_1.length c1_1,.string a1_2] 48 (0,0)) (by (with_reducible repeat (first|refine bN ?_ _|refine bD ?_|refine bA ?_ _));exact BK169.out) hb)
      have n14_:=aM (bB (g:=gb194) (o:=.cells #[.slice Ao84 t187.length co84,.slice Ao88 t190.length co88,.string t193] 54 (0,0)) (by (with_reducible repeat (first|refine bN ?_ _|refine bD ?_|refine bA ?_ _));exact BK194.out) hb)
      have n15_:=aM (bB (g:=gb202) (o:=.cells #[.slice Ao92 t195.length co92,.slice Ao97 t198.length co97,.string t201] 54 (0,0)) (by (with_reducible repeat (first|refine bN ?_ _|refine bD ?_|refine bA ?_ _));exact BK202.out) hb)
      have n16_:=aM (lP (by repeat (first|(with_reducible first|exact HB.out|apply lA|apply lN|apply lD|refine lS ?_ GE168.out|refine lS ?_ GE169.out|refine lS ?_ GE194.out|refine lS ?_ GE202.out)|exact HB.out)) hb)
      clear HO174
      clear HO177
      clear HO181
      clear HO184
      clear HO189
      clear HO192
      clear HO197
      clear HO200
      clear HO206
      clear HO209
      clear HO214
      clear HO217
      clear BK168
      clear BK169
      clear BK194
      clear BK202
      clear HB
      have HO174:=n0_
      have HO177:=n1_
      have HO181:=n2_
      have HO184:=n3_
      have HO189:=n4_
      have HO192:=n5_
      have HO197:=n6_
      have HO200:=n7_
      have HO206:=n8_
      have HO209:=n9_
      have HO214:=n10_
      have HO217:=n11_
      have BK168:=n12_
      have BK169:=n13_
      have BK194:=n14_
      have BK202:=n15_
      have HB:=n16_
      clear n0_ n1_ n2_ n3_ n4_ n5_ n6_ n7_ n8_ n9_ n10_ n11_ n12_ n13_ n14_ n15_ n16_
      (try clear hb)
      (try clear hb2)
      (try clear hk)
      (try clear hi)
      refine hK.out _ _ ⟨(bC BK202.out 0).trans rfl,(bC BK202.out 1).trans rfl,(bC BK202.out 2).trans rfl,(bC BK169.out 0).trans rfl,(bC BK169.out 1).trans rfl,(bC BK169.out 2).trans rfl⟩ (fun hHeld => ?_)
      clear hK K
      refine norm_ (a':=?_) ?_ ?_
      rotate_left
      ·show Act.put _ (some 43) _ = _
       simp only [Act.put,q_ia,q_cz,q_cs,i64_w,i32_w]
       rfl
      refine pure_ (i:=4) (N:=some 44) (v:=?_) (a':=?_) #[true,true,true,true,true] rfl rfl (by kernel_rfl) (fun _ _ _ h => h) (Or.inl ⟨by rfl,?_⟩) ?_ ?_
      rotate_left
      ·intro w';go_simp;with_reducible rfl
      rotate_left
      ·simp only [Act.put,q_ia,q_cz,q_cs,i64_w,i32_w];rfl
      refine done_ (by kernel_rfl) ?_
      try go_wp2
      go_ret
      exact ⟨by first|rfl|(simp [errW_none,errW_some] <;> rfl)|(simp [*,errW_none,errW_some] <;> rfl),by repeat (first|(with_reducible first|exact HB.out|apply lA|apply lN|apply lD|refine lS ?_ GE168.out|refine lS ?_ GE169.out|refine lS ?_ GE194.out|refine lS ?_ GE202.out)|exact HB.out)⟩
     ·replace c65:=Bool.eq_false_iff.mpr c65
      subst c65
      have H1 : (some false) = some r:=by rw [if_neg (show ¬ (false = true) by decide)] at H;exact H
      clear H
      have H:=H1
      clear H1
      obtain rfl:=Option.some.inj H
      go_enter Try.func11,Try.ntmps11
      try go_wp2_with (first|((with_reducible refine gate_dst (N:=2) rfl ?_);refine box_event ?hg (N:=2) ?hd (cs:=#[.slice A0_0 l0_0.length c0_0,.slice A0_1 l0_1.length c0_1,.string a0_2]) (t:=48) ?hr ?_;(case hd => rfl);(case hg => rfl);(case hr => first|(go_simp;done)|(go_simp;rfl));intro gb168 hg w110 hbox hb;have n0_:=aM (lP (by repeat (first|(with_reducible first|exact HB.out|apply lA|apply lN|apply lD)|exact HB.out)) hb);have n1_:=aM (hbox);have n2_:=aM ((by rw [hg];exact (lZ (by repeat (first|(with_reducible first|exact HB.out|apply lA|apply lN|apply lD)|exact HB.out))) : w.heap.size ≤ gb168));have n3_:=aM ((by rw [hg];exact (lZ (by repeat (first|(with_reducible first|exact HB.out|apply lA|apply lN|apply lD)|exact HB.out))) : w.heap.size ≤ gb168));clear HB;have HB:=n0_;have BK168:=n1_;have GW168:=n2_;have GE168:=n3_;clear n0_ n1_ n2_ n3_ hb hbox hg)|((with_reducible refine gate_dst (N:=3) rfl ?_);refine box_event ?hg (N:=3) ?hd (cs:=#[.slice A1_0 l1_0.length c1_0,.slice A1_1 l1_1.length c1_1,.string a1_2]) (t:=48) ?hr ?_;(case hd => rfl);(case hg => rfl);(case hr => first|(go_simp;done)|(go_simp;rfl));intro gb169 hg w111 hbox hb;have n0_:=aM (bB (g:=gb168) (o:=.cells #[.slice A0_0 l0_0.length c0_0,.slice A0_1 l0_1.length c0_1,.string a0_2] 48 (0,0)) (by (with_reducible repeat (first|refine bN ?_ _|refine bD ?_|refine bA ?_ _));exact BK168.out) hb);have n1_:=aM (lP (by repeat (first|(with_reducible first|exact HB.out|apply lA|apply lN|apply lD|refine lS ?_ GE168.out)|exact HB.out)) hb);have n2_:=aM (hbox);have n3_:=aM ((by rw [hg];exact (lZ (by repeat (first|(with_reducible first|exact HB.out|apply lA|apply lN|apply lD|refine lS ?_ GE168.out)|exact HB.out))) : w.heap.size ≤ gb169));have n4_:=aM ((by rw [hg];exact (lZ (by repeat (first|(with_reducible first|exact HB.out|apply lA|apply lN|apply lD|refine lS ?_ GE168.out)|exact HB.out))) : w.heap.size ≤ gb169));have n5_:=aM ((by rw [hg];exact Nat.ne_of_lt (bL (g:=gb168) (o:=.cells #[.slice A0_0 l0_0.length c0_0,.slice A0_1 l0_1.length c0_1,.string a0_2] 48 (0,0)) (by (with_reducible repeat (first|refine bN ?_ _|refine bD ?_|refine bA ?_ _));exact BK168.out)) : gb168 ≠ gb169));have n6_:=aM ((by rw [hg];exact Nat.ne_of_gt (bL (g:=gb168) (o:=.cells #[.slice A0_0 l0_0.length c0_0,.slice A0_1 l0_1.length c0_1,.string a0_2] 48 (0,0)) (by (with_reducible repeat (first|refine bN ?_ _|refine bD ?_|refine bA ?_ _));exact BK168.out)) : gb169 ≠ gb168));clear BK168 HB;have BK168:=n0_;have HB:=n1_;have BK169:=n2_;have GW169:=n3_;have GE169:=n4_;have NB168_169:=n5_;have NB169_168:=n6_;clear n0_ n1_ n2_ n3_ n4_ n5_ n6_ hb hbox hg;have hnb112:=NB168_169.out;have hnc112:=NB169_168.out;have hcz113_0 : w111.cell? ⟨gb168,0,none⟩ = some (.slice A0_0 l0_0.length c0_0):=(bC BK168.out 0).trans rfl;have hcz113_1 : w111.cell? ⟨gb168,1,none⟩ = some (.slice A0_1 l0_1.length c0_1):=(bC BK168.out 1).trans rfl;have hcz113_2 : w111.cell? ⟨gb168,2,none⟩ = some (.string a0_2):=(bC BK168.out 2).trans rfl;have hfz113_0:=bF BK168.out 0;have hfz113_1:=bF BK168.out 1;have hfz113_2:=bF BK168.out 2)|((with_reducible refine gate_callee (f:=34) rfl ?_);refine goesL_ (some 12) rfl rfl Try.func34 (by kernel_rfl) rfl #[.agg #[.slice A0_0 l0_0.length c0_0,.slice A0_1 l0_1.length c0_1,.string a0_2],.int .i64 1048576] rfl (by (try simp only [List.map_toArray,List.map_cons,List.map_nil]);first|done|rfl|(simp only [List.length_drop,List.length_take];rfl)) ?_;(with_reducible refine (laws_szStore.calls k _ _ l0_0 _ _ l0_1 a0_2 1048576 t170 _ ?side1 ?side2 ?side3 ?side4 A3.out).mono ?_);(case side1 => repeat (first|exact (cB HR0_0.out HB.out)|(with_reducible first|refine cA ?_ _|refine cN ?_ _|refine cD ?_)));(case side2 => exact HC0_0.out);(case side3 => repeat (first|exact (cB HR0_1.out HB.out)|(with_reducible first|refine cA ?_ _|refine cN ?_ _|refine cD ?_)));(case side4 => exact HC0_1.out);rintro e w114 ⟨rfl,hb⟩;refine ⟨_,rfl,?_⟩;have n0_:=aM (bB (g:=gb168) (o:=.cells #[.slice A0_0 l0_0.length c0_0,.slice A0_1 l0_1.length c0_1,.string a0_2] 48 (0,0)) (by (with_reducible repeat (first|refine bN ?_ _|refine bD ?_|refine bA ?_ _));exact BK168.out) hb);have n1_:=aM (bB (g:=gb169) (o:=.cells #[.slice A1_0 l1_0.length c1_0,.slice A1_1 l1_1.length c1_1,.string a1_2] 48 (0,0)) (by (with_reducible repeat (first|refine bN ?_ _|refine bD ?_|refine bA ?_ _));exact BK169.out) hb);have n2_:=aM (lP (by repeat (first|(with_reducible first|exact HB.out|apply lA|apply lN|apply lD|refine lS ?_ GE168.out|refine lS ?_ GE169.out)|exact HB.out)) hb);clear BK168 BK169 HB;have BK168:=n0_;have BK169:=n1_;have HB:=n2_;clear n0_ n1_ n2_;(try clear hb);(try clear hb2);(try clear hk);(try clear hi);have hcz115_0 : w114.cell? ⟨gb169,0,none⟩ = some (.slice A1_0 l1_0.length c1_0):=(bC BK169.out 0).trans rfl;have hcz115_1 : w114.cell? ⟨gb169,1,none⟩ = some (.slice A1_1 l1_1.length c1_1):=(bC BK169.out 1).trans rfl;have hcz115_2 : w114.cell? ⟨gb169,2,none⟩ = some (.string a1_2):=(bC BK169.out 2).trans rfl;have hfz115_0:=bF BK169.out 0;have hfz115_1:=bF BK169.out 1;have hfz115_2:=bF BK169.out 2)|((with_reducible refine gate_callee (f:=34) rfl ?_);refine goesL_ (some 17) rfl rfl Try.func34 (by kernel_rfl) rfl #[.agg #[.slice A1_0 l1_0.length c1_0,.slice A1_1 l1_1.length c1_1,.string a1_2],.int .i64 t170] rfl (by (try simp only [List.map_toArray,List.map_cons,List.map_nil]);first|done|rfl|(simp only [List.length_drop,List.length_take];rfl)) ?_;(with_reducible refine (laws_szStore.calls k _ _ l1_0 _ _ l1_1 a1_2 t170 t171 _ ?side1 ?side2 ?side3 ?side4 A10.out).mono ?_);(case side1 => repeat (first|exact (cB HR1_0.out HB.out)|(with_reducible first|refine cA ?_ _|refine cN ?_ _|refine cD ?_)));(case side2 => exact HC1_0.out);(case side3 => repeat (first|exact (cB HR1_1.out HB.out)|(with_reducible first|refine cA ?_ _|refine cN ?_ _|refine cD ?_)));(case side4 => exact HC1_1.out);rintro e w116 ⟨rfl,hb⟩;refine ⟨_,rfl,?_⟩;have n0_:=aM (bB (g:=gb168) (o:=.cells #[.slice A0_0 l0_0.length c0_0,.slice A0_1 l0_1.length c0_1,.string a0_2] 48 (0,0)) (by (with_reducible repeat (first|refine bN ?_ _|refine bD ?_|refine bA ?_ _));exact BK168.out) hb);have n1_:=aM (bB (g:=gb169) (o:=.cells #[.slice A1_0 l1_0.length c1_0,.slice A1_1 l1_1.length c1_1,.string a1_2] 48 (0,0)) (by (with_reducible repeat (first|refine bN ?_ _|refine bD ?_|refine bA ?_ _));exact BK169.out) hb);have n2_:=aM (lP (by repeat (first|(with_reducible first|exact HB.out|apply lA|apply lN|apply lD|refine lS ?_ GE168.out|refine lS ?_ GE169.out)|exact HB.out)) hb);clear BK168 BK169 HB;have BK168:=n0_;have BK169:=n1_;have HB:=n2_;clear n0_ n1_ n2_;(try clear hb);(try clear hb2);(try clear hk);(try clear hi)))
      have n0_:=aM (bD BK168.out)
      have n1_:=aM (bD BK169.out)
      have n2_:=aM (lD HB.out)
      clear BK168
      clear BK169
      clear HB
      have BK168:=n0_
      have BK169:=n1_
      have HB:=n2_
      clear n0_ n1_ n2_
      refine start_ (n:=6) (S:=fun w' => w'.cell? ⟨gb168,0,none⟩ = some (.slice A0_0 l0_0.length c0_0) ∧ w'.cell? ⟨gb168,1,none⟩ = some (.slice A0_1 l0_1.length c0_1) ∧ w'.cell? ⟨gb168,2,none⟩ = some (.string a0_2) ∧ w'.cell? ⟨gb169,0,none⟩ = some (.slice A1_0 l1_0.length c1_0) ∧ w'.cell? ⟨gb169,1,none⟩ = some (.slice A1_1 l1_1.length c1_1) ∧ w'.cell? ⟨gb169,2,none⟩ = some (.string a1_2)) (ds:=[]) #[false,false,false,false,false,false] (by kernel_rfl) rfl rfl ⟨(bC BK168.out 0).trans rfl,(bC BK168.out 1).trans rfl,(bC BK168.out 2).trans rfl,(bC BK169.out 0).trans rfl,(bC BK169.out 1).trans rfl,(bC BK169.out 2).trans rfl⟩ (fun hHeld => ?_)
      generalize w116.drew = w117 at BK168 BK169 HB hHeld ⊢
      refine take_ (i:=0) (N:=some 20) (v:=?_) (a':=?_) #[true,false,false,false,false,false] rfl rfl (by kernel_rfl) (fun _ _ _ h => h) (Or.inl ⟨by rfl,?_⟩) hHeld ?_ ?_
      rotate_left
      ·rintro w' ⟨s0,s1,s2,s3,s4,s5⟩
       go_simp
       with_reducible rfl
      rotate_left
      ·simp only [Act.put,q_ia,q_cz,q_cs,i64_w,i32_w];rfl
      refine take_ (i:=2) (N:=some 22) (v:=?_) (a':=?_) #[true,false,true,false,false,false] rfl rfl (by kernel_rfl) (fun _ _ _ h => h) (Or.inl ⟨by rfl,?_⟩) hHeld ?_ ?_
      rotate_left
      ·rintro w' ⟨s0,s1,s2,s3,s4,s5⟩
       go_simp
       with_reducible rfl
      rotate_left
      ·simp only [Act.put,q_ia,q_cz,q_cs,i64_w,i32_w];rfl
      refine one_ (i:=1) (N:=some 21) #[true,true,true,false,false,false] rfl rfl (by kernel_rfl) (by decide) (fun K hK => ?_)
      refine goes_ Try.func36 (by kernel_rfl) rfl #[.agg #[.slice A0_0 l0_0.length c0_0,.slice A0_1 l0_1.length c0_1,.string a0_2]] (by rfl) rfl rfl (by (try simp only [List.map_toArray,List.map_cons,List.map_nil]);first|done|rfl|(simp only [List.length_drop,List.length_take];rfl)) ?_
      with_reducible refine (laws_toStore.calls k _ _ l0_0 _ _ l0_1 a0_2 t172 t175 t178 _ ?side1 ?side2 ?side3 ?side4 A19.out).mono ?_
      (case side1 => repeat (first|exact (cB HR0_0.out HB.out)|(with_reducible first|refine cA ?_ _|refine cN ?_ _|refine cD ?_)))
      (case side2 => exact HC0_0.out)
      (case side3 => repeat (first|exact (cB HR0_1.out HB.out)|(with_reducible first|refine cA ?_ _|refine cN ?_ _|refine cD ?_)))
      (case side4 => exact HC0_1.out)
      rintro e w118 ⟨v173,v176,rfl,ho0,ho1,hb⟩
      refine ⟨_,rfl,?_⟩
      have n0_:=aM (rL ho0 (lZ (by repeat (first|(with_reducible first|exact HB.out|apply lA|apply lN|apply lD|refine lS ?_ GE168.out|refine lS ?_ GE169.out)|exact HB.out))))
      have n1_:=aM (rL ho1 (lZ (by repeat (first|(with_reducible first|exact HB.out|apply lA|apply lN|apply lD|refine lS ?_ GE168.out|refine lS ?_ GE169.out)|exact HB.out))))
      have n2_:=aM (bB (g:=gb168) (o:=.cells #[.slice A0_0 l0_0.length c0_0,.slice A0_1 l0_1.length c0_1,.string a0_2] 48 (0,0)) (by (with_reducible repeat (first|refine bN ?_ _|refine bD ?_|refine bA ?_ _));exact BK168.out) hb)
      have n3_:=aM (bB (g:=gb169) (o:=.cells #[.slice A1_0 l1_0.length c1_0,.slice A1_1 l1_1.length c1_1,.string a1_2] 48 (0,0)) (by (with_reducible repeat (first|refine bN ?_ _|refine bD ?_|refine bA ?_ _));exact BK169.out) hb)
      have n4_:=aM (lP (by repeat (first|(with_reducible first|exact HB.out|apply lA|apply lN|apply lD|refine lS ?_ GE168.out|refine lS ?_ GE169.out)|exact HB.out)) hb)
      clear BK168
      clear BK169
      clear HB
      have HO174:=n0_
      have HO177:=n1_
      have BK168:=n2_
      have BK169:=n3_
      have HB:=n4_
      clear n0_ n1_ n2_ n3_ n4_
      (try clear hb)
      (try clear hb2)
      (try clear hk)
      (try clear hi)
      (try clear ho0)
      (try clear ho1)
      refine hK.out _ _ ⟨(bC BK168.out 0).trans rfl,(bC BK168.out 1).trans rfl,(bC BK168.out 2).trans rfl,(bC BK169.out 0).trans rfl,(bC BK169.out 1).trans rfl,(bC BK169.out 2).trans rfl⟩ (fun hHeld => ?_)
      clear hK K
      refine norm_ (a':=?_) ?_ ?_
      rotate_left
      ·show Act.put _ (some 21) _ = _
       simp only [Act.put,q_ia,q_cz,q_cs,i64_w,i32_w]
       rfl
      refine one_ (i:=3) (N:=some 23) #[true,true,true,true,false,false] rfl rfl (by kernel_rfl) (by decide) (fun K hK => ?_)
      refine goes_ Try.func36 (by kernel_rfl) rfl #[.agg #[.slice A1_0 l1_0.length c1_0,.slice A1_1 l1_1.length c1_1,.string a1_2]] (by rfl) rfl rfl (by (try simp only [List.map_toArray,List.map_cons,List.map_nil]);first|done|rfl|(simp only [List.length_drop,List.length_take];rfl)) ?_
      with_reducible refine (laws_toStore.calls k _ _ l1_0 _ _ l1_1 a1_2 t179 t182 t185 _ ?side1 ?side2 ?side3 ?side4 A20.out).mono ?_
      (case side1 => repeat (first|exact (cB HR1_0.out HB.out)|(with_reducible first|refine cA ?_ _|refine cN ?_ _|refine cD ?_)))
      (case side2 => exact HC1_0.out)
      (case side3 => repeat (first|exact (cB HR1_1.out HB.out)|(with_reducible first|refine cA ?_ _|refine cN ?_ _|refine cD ?_)))
      (case side4 => exact HC1_1.out)
      rintro e w119 ⟨v180,v183,rfl,ho0,ho1,hb⟩
      refine ⟨_,rfl,?_⟩
      have n0_:=aM (rE (by (with_reducible repeat (first|apply rA|apply rN|apply rD));exact HO174.out) (rS ho0) hb)
      have n1_:=aM (rE (by (with_reducible repeat (first|apply rA|apply rN|apply rD));exact HO177.out) (rS ho1) hb)
      have n2_:=aM (rL (rW ho0 (rT (by (with_reducible repeat (first|apply rA|apply rN|apply rD));exact HO174.out))) (lZ (by repeat (first|(with_reducible first|exact HB.out|apply lA|apply lN|apply lD|refine lS ?_ GE168.out|refine lS ?_ GE169.out)|exact HB.out))))
      have n3_:=aM (rL (rW ho1 (rT (by (with_reducible repeat (first|apply rA|apply rN|apply rD));exact HO177.out))) (lZ (by repeat (first|(with_reducible first|exact HB.out|apply lA|apply lN|apply lD|refine lS ?_ GE168.out|refine lS ?_ GE169.out)|exact HB.out))))
      have n4_:=aM (bB (g:=gb168) (o:=.cells #[.slice A0_0 l0_0.length c0_0,.slice A0_1 l0_1.length c0_1,.string a0_2] 48 (0,0)) (by (with_reducible repeat (first|refine bN ?_ _|refine bD ?_|refine bA ?_ _));exact BK168.out) hb)
      have n5_:=aM (bB (g:=gb169) (o:=.cells #[.slice A1_0 l1_0.length c1_0,.slice A1_1 l1_1.length c1_1,.string a1_2] 48 (0,0)) (by (with_reducible repeat (first|refine bN ?_ _|refine bD ?_|refine bA ?_ _));exact BK169.out) hb)
      have n6_:=aM (lP (by repeat (first|(with_reducible first|exact HB.out|apply lA|apply lN|apply lD|refine lS ?_ GE168.out|refine lS ?_ GE169.out)|exact HB.out)) hb)
      clear HO174
      clear HO177
      clear BK168
      clear BK169
      clear HB
      have HO174:=n0_
      have HO177:=n1_
      have HO181:=n2_
      have HO184:=n3_
      have BK168:=n4_
      have BK169:=n5_
      have HB:=n6_
      clear n0_ n1_ n2_ n3_ n4_ n5_ n6_
      (try clear hb)
      (try clear hb2)
      (try clear hk)
      (try clear hi)
      (try clear ho0)
      (try clear ho1)
      obtain ⟨Ao120,co120,eo120⟩:=Kd.R_slice HO174.out
      (first|subst eo120|(injection eo120 with f1_ f2_ f3_;have f4_:=f1_.symm;have f5_:=f3_.symm;clear f1_ f2_ f3_;subst f4_;subst f5_))
      obtain ⟨Ao121,co121,eo121⟩:=Kd.R_slice HO177.out
      (first|subst eo121|(injection eo121 with f1_ f2_ f3_;have f4_:=f1_.symm;have f5_:=f3_.symm;clear f1_ f2_ f3_;subst f4_;subst f5_))
      obtain ⟨Ao122,co122,eo122⟩:=Kd.R_slice HO181.out
      (first|subst eo122|(injection eo122 with f1_ f2_ f3_;have f4_:=f1_.symm;have f5_:=f3_.symm;clear f1_ f2_ f3_;subst f4_;subst f5_))
      obtain ⟨Ao123,co123,eo123⟩:=Kd.R_slice HO184.out
      (first|subst eo123|(injection eo123 with f1_ f2_ f3_;have f4_:=f1_.symm;have f5_:=f3_.symm;clear f1_ f2_ f3_;subst f4_;subst f5_))
      refine hK.out _ _ ⟨(bC BK168.out 0).trans rfl,(bC BK168.out 1).trans rfl,(bC BK168.out 2).trans rfl,(bC BK169.out 0).trans rfl,(bC BK169.out 1).trans rfl,(bC BK169.out 2).trans rfl⟩ (fun hHeld => ?_)
      clear hK K
      refine norm_ (a':=?_) ?_ ?_
      rotate_left
      ·show Act.put _ (some 23) _ = _
       simp only [Act.put,q_ia,q_cz,q_cs,i64_w,i32_w]
       rfl
      refine one_ (i:=4) (N:=some 24) #[true,true,true,true,true,false] rfl rfl (by kernel_rfl) (by decide) (fun K hK => ?_)
      refine goes_ Try.func44 (by kernel_rfl) rfl #[.agg #[.slice Ao120 t172.length co120,.slice Ao121 t175.length co121,.string t178],.agg #[.slice Ao122 t179.length co122,.slice Ao123 t182.length co123,.string t185]] (by rfl) rfl rfl (by (try simp only [List.map_toArray,List.map_cons,List.map_nil]);first|done|rfl|(simp only [List.length_drop,List.length_take];rfl)) ?_
      with_reducible refine (spec_SameStore.calls k _ _ t172 _ _ t175 t178 _ _ t179 _ _ t182 t185 t186 _ ?side1 ?side2 ?side3 ?side4 ?side5 ?side6 ?side7 ?side8 A21.out).mono ?_
      (case side1 => repeat (first|exact (rR HO174.out).2.2|(with_reducible first|refine cA ?_ _|refine cN ?_ _|refine cD ?_)))
      (case side2 => exact (rR HO174.out).2.1)
      (case side3 => repeat (first|exact (rR HO177.out).2.2|(with_reducible first|refine cA ?_ _|refine cN ?_ _|refine cD ?_)))
      (case side4 => exact (rR HO177.out).2.1)
      (case side5 => repeat (first|exact (rR HO181.out).2.2|(with_reducible first|refine cA ?_ _|refine cN ?_ _|refine cD ?_)))
      (case side6 => exact (rR HO181.out).2.1)
      (case side7 => repeat (first|exact (rR HO184.out).2.2|(with_reducible first|refine cA ?_ _|refine cN ?_ _|refine cD ?_)))
      (case side8 => exact (rR HO184.out).2.1)
      rintro e w124 ⟨rfl,hb⟩
      refine ⟨_,rfl,?_⟩
      have n0_:=aM (rB (by (with_reducible repeat (first|apply rA|apply rN|apply rD));exact HO174.out) hb)
      have n1_:=aM (rB (by (with_reducible repeat (first|apply rA|apply rN|apply rD));exact HO177.out) hb)
      have n2_:=aM (rB (by (with_reducible repeat (first|apply rA|apply rN|apply rD));exact HO181.out) hb)
      have n3_:=aM (rB (by (with_reducible repeat (first|apply rA|apply rN|apply rD));exact HO184.out) hb)
      have n4_:=aM (bB (g:=gb168) (o:=.cells #[.slice A0_0 l0_0.length c0_0,.slice A0_1 l0_1.length c0_1,.string a0_2] 48 (0,0)) (by (with_reducible repeat (first|refine bN ?_ _|refine bD ?_|refine bA ?_ _));exact BK168.out) hb)
      have n5_:=aM (bB (g:=gb169) (o:=.cells #[.slice A1_0 l1_0.length c1_0,.slice A1_1 l1_1.length c1_1,.string a1_2] 48 (0,0)) (by (with_reducible repeat (first|refine bN ?_ _|refine bD ?_|refine bA ?_ _));exact BK169.out) hb)
      have n6_:=aM (lP (by repeat (first|(with_reducible first|exact HB.out|apply lA|apply lN|apply lD|refine lS ?_ GE168.out|refine lS ?_ GE169.out)|exact HB.out)) hb)
      clear HO174
      clear HO177
      clear HO181
      clear HO184
      clear BK168
      clear BK169
      clear HB
      have HO174:=n0_
      have HO177:=n1_
      have HO181:=n2_
      have HO184:=n3_
      have BK168:=n4_
      have BK169:=n5_
      have HB:=n6_
      clear n0_ n1_ n2_ n3_ n4_ n5_ n6_
      (try clear hb)
      (try clear hb2)
      (try clear hk)
      (try clear hi)
      refine hK.out _ _ ⟨(bC BK168.out 0).trans rfl,(bC BK168.out 1).trans rfl,(bC BK168.out 2).trans rfl,(bC BK169.out 0).trans rfl,(bC BK169.out 1).trans rfl,(bC BK169.out 2).trans rfl⟩ (fun hHeld => ?_)
      clear hK K
      refine norm_ (a':=?_) ?_ ?_
      rotate_left
      ·show Act.put _ (some 24) _ = _
       simp only [Act.put,q_ia,q_cz,q_cs,i64_w,i32_w]
       rfl
      refine pure_ (i:=5) (N:=some 6) (v:=?_) (a':=?_) #[true,true,true,true,true,true] rfl rfl (by kernel_rfl) (fun _ _ _ h => h) (Or.inl ⟨by rfl,?_⟩) ?_ ?_
      rotate_left
      ·intro w';go_simp;with_reducible rfl
      rotate_left
      ·simp only [Act.put,q_ia,q_cz,q_cs,i64_w,i32_w];rfl
      refine done_ (by kernel_rfl) ?_
      have hcz125_0 : w124.cell? ⟨gb168,0,none⟩ = some (.slice A0_0 l0_0.length c0_0):=(bC BK168.out 0).trans rfl
      have hcz125_1 : w124.cell? ⟨gb168,1,none⟩ = some (.slice A0_1 l0_1.length c0_1):=(bC BK168.out 1).trans rfl
      have hcz125_2 : w124.cell? ⟨gb168,2,none⟩ = some (.string a0_2):=(bC BK168.out 2).trans rfl
      have hfz125_0:=bF BK168.out 0
      have hfz125_1:=bF BK168.out 1
      have hfz125_2:=bF BK168.out 2
      try go_wp2_with (first|((with_reducible refine gate_callee (f:=36) rfl ?_);refine goesL_ (some 26) rfl rfl Try.func36 (by kernel_rfl) rfl #[.agg #[.slice A0_0 l0_0.length c0_0,.slice A0_1 l0_1.length c0_1,.string a0_2]] rfl (by (try simp only [List.map_toArray,List.map_cons,List.map_nil]);first|done|rfl|(simp only [List.length_drop,List.length_take];rfl)) ?_;(with_reducible refine (laws_toStore.calls k _ _ l0_0 _ _ l0_1 a0_2 t187 t190 t193 _ ?side1 ?side2 ?side3 ?side4 A22.out).mono ?_);(case side1 => repeat (first|exact (cB HR0_0.out HB.out)|(with_reducible first|refine cA ?_ _|refine cN ?_ _|refine cD ?_)));(case side2 => exact HC0_0.out);(case side3 => repeat (first|exact (cB HR0_1.out HB.out)|(with_reducible first|refine cA ?_ _|refine cN ?_ _|refine cD ?_)));(case side4 => exact HC0_1.out);rintro e w126 ⟨v188,v191,rfl,ho0,ho1,hb⟩;refine ⟨_,rfl,?_⟩;have n0_:=aM (rE (by (with_reducible repeat (first|apply rA|apply rN|apply rD));exact HO174.out) (rS ho0) hb);have n1_:=aM (rE (by (with_reducible repeat (first|apply rA|apply rN|apply rD));exact HO177.out) (rS ho1) hb);have n2_:=aM (rE (by (with_reducible repeat (first|apply rA|apply rN|apply rD));exact HO181.out) (rS ho0) hb);have n3_:=aM (rE (by (with_reducible repeat (first|apply rA|apply rN|apply rD));exact HO184.out) (rS ho1) hb);have n4_:=aM (rL (rW (rW ho0 (rT (by (with_reducible repeat (first|apply rA|apply rN|apply rD));exact HO174.out))) (rT (by (with_reducible repeat (first|apply rA|apply rN|apply rD));exact HO181.out))) (lZ (by repeat (first|(with_reducible first|exact HB.out|apply lA|apply lN|apply lD|refine lS ?_ GE168.out|refine lS ?_ GE169.out)|exact HB.out))));have n5_:=aM (rL (rW (rW ho1 (rT (by (with_reducible repeat (first|apply rA|apply rN|apply rD));exact HO177.out))) (rT (by (with_reducible repeat (first|apply rA|apply rN|apply rD));exact HO184.out))) (lZ (by repeat (first|(with_reducible first|exact HB.out|apply lA|apply lN|apply lD|refine lS ?_ GE168.out|refine lS ?_ GE169.out)|exact HB.out))));have n6_:=aM (bB (g:=gb168) (o:=.cells #[.slice A0_0 l0_0.length c0_0,.slice A0_1 l0_1.length c0_1,.string a0_2] 48 (0,0)) (by (with_reducible repeat (first|refine bN ?_ _|refine bD ?_|refine bA ?_ _));exact BK168.out) hb);have n7_:=aM (bB (g:=gb169) (o:=.cells #[.slice A1_0 l1_0.length c1_0,.slice A1_1 l1_1.length c1_1,.string a1_2] 48 (0,0)) (by (with_reducible repeat (first|refine bN ?_ _|refine bD ?_|refine bA ?_ _));exact BK169.out) hb);have n8_:=aM (lP (by repeat (first|(with_reducible first|exact HB.out|apply lA|apply lN|apply lD|refine lS ?_ GE168.out|refine lS ?_ GE169.out)|exact HB.out)) hb);clear HO174 HO177 HO181 HO184 BK168 BK169 HB;have HO174:=n0_;have HO177:=n1_;have HO181:=n2_;have HO184:=n3_;have HO189:=n4_;have HO192:=n5_;have BK168:=n6_;have BK169:=n7_;have HB:=n8_;clear n0_ n1_ n2_ n3_ n4_ n5_ n6_ n7_ n8_;(try clear hb);(try clear hb2);(try clear hk);(try clear hi);(try clear ho0);(try clear ho1))|((with_reducible refine gate_dst (N:=7) rfl ?_);refine box_event ?hg (N:=7) ?hd (cs:=#[.slice none 0 0,.slice none 0 0,.string (⟨#[]⟩ : ByteArray)]) (t:=54) ?hr ?_;(case hd => rfl);(case hg => rfl);(case hr => first|(go_simp;done)|(go_simp;rfl));intro gb194 hg w127 hbox hb;have n0_:=aM (rB (by (with_reducible repeat (first|apply rA|apply rN|apply rD));exact HO174.out) hb);have n1_:=aM (rB (by (with_reducible repeat (first|apply rA|apply rN|apply rD));exact HO177.out) hb);have n2_:=aM (rB (by (with_reducible repeat (first|apply rA|apply rN|apply rD));exact HO181.out) hb);have n3_:=aM (rB (by (with_reducible repeat (first|apply rA|apply rN|apply rD));exact HO184.out) hb);have n4_:=aM (rB (by (with_reducible repeat (first|apply rA|apply rN|apply rD));exact HO189.out) hb);have n5_:=aM (rB (by (with_reducible repeat (first|apply rA|apply rN|apply rD));exact HO192.out) hb);have n6_:=aM (bB (g:=gb168) (o:=.cells #[.slice A0_0 l0_0.length c0_0,.slice A0_1 l0_1.length c0_1,.string a0_2] 48 (0,0)) (by (with_reducible repeat (first|refine bN ?_ _|refine bD ?_|refine bA ?_ _));exact BK168.out) hb);have n7_:=aM (bB (g:=gb169) (o:=.cells #[.slice A1_0 l1_0.length c1_0,.slice A1_1 l1_1.length c1_1,.string a1_2] 48 (0,0)) (by (with_reducible repeat (first|refine bN ?_ _|refine bD ?_|refine bA ?_ _));exact BK169.out) hb);have n8_:=aM (lP (by repeat (first|(with_reducible first|exact HB.out|apply lA|apply lN|apply lD|refine lS ?_ GE168.out|refine lS ?_ GE169.out)|exact HB.out)) hb);have n9_:=aM (hbox);have n10_:=aM ((by rw [hg];exact (lZ (by repeat (first|(with_reducible first|exact HB.out|apply lA|apply lN|apply lD|refine lS ?_ GE168.out|refine lS ?_ GE169.out)|exact HB.out))) : w.heap.size ≤ gb194));have n11_:=aM ((by rw [hg];exact (lZ (by repeat (first|(with_reducible first|exact HB.out|apply lA|apply lN|apply lD|refine lS ?_ GE168.out|refine lS ?_ GE169.out)|exact HB.out))) : w.heap.size ≤ gb194));have n12_:=aM ((by rw [hg];exact Nat.ne_of_lt (bL (g:=gb168) (o:=.cells #[.slice A0_0 l0_0.length c0_0,.slice A0_1 l0_1.length c0_1,.string a0_2] 48 (0,0)) (by (with_reducible repeat (first|refine bN ?_ _|refine bD ?_|refine bA ?_ _));exact BK168.out)) : gb168 ≠ gb194));have n13_:=aM ((by rw [hg];exact Nat.ne_of_gt (bL (g:=gb168) (o:=.cells #[.slice A0_0 l0_0.length c0_0,.slice A0_1 l0_1.length c0_1,.string a0_2] 48 (0,0)) (by (with_reducible repeat (first|refine bN ?_ _|refine bD ?_|refine bA ?_ _));exact BK168.out)) : gb194 ≠ gb168));have n14_:=aM ((by rw [hg];exact Nat.ne_of_lt (bL (g:=gb169) (o:=.cells #[.slice A1_0 l1_0.length c1_0,.slice A1_1 l1_1.length c1_1,.string a1_2] 48 (0,0)) (by (with_reducible repeat (first|refine bN ?_ _|refine bD ?_|refine bA ?_ _));exact BK169.out)) : gb169 ≠ gb194));have n15_:=aM ((by rw [hg];exact Nat.ne_of_gt (bL (g:=gb169) (o:=.cells #[.slice A1_0 l1_0.length c1_0,.slice A1_1 l1_1.length c1_1,.string a1_2] 48 (0,0)) (by (with_reducible repeat (first|refine bN ?_ _|refine bD ?_|refine bA ?_ _));exact BK169.out)) : gb194 ≠ gb169));clear HO174 HO177 HO181 HO184 HO189 HO192 BK168 BK169 HB;have HO174:=n0_;have HO177:=n1_;have HO181:=n2_;have HO184:=n3_;have HO189:=n4_;have HO192:=n5_;have BK168:=n6_;have BK169:=n7_;have HB:=n8_;have BK194:=n9_;have GW194:=n10_;have GE194:=n11_;have NB168_194:=n12_;have NB194_168:=n13_;have NB169_194:=n14_;have NB194_169:=n15_;clear n0_ n1_ n2_ n3_ n4_ n5_ n6_ n7_ n8_ n9_ n10_ n11_ n12_ n13_ n14_ n15_ hb hbox hg;obtain ⟨Ao128,co128,eo128⟩:=Kd.R_slice HO189.out;subst eo128;have hnb129:=NB194_168.out;have hnc129:=NB168_194.out;have hnb130:=NB194_169.out;have hnc130:=NB169_194.out;have hcz131_0 : w127.cell? ⟨gb194,0,none⟩ = some (.slice none 0 0):=(bC BK194.out 0).trans rfl;have hcz131_1 : w127.cell? ⟨gb194,1,none⟩ = some (.slice none 0 0):=(bC BK194.out 1).trans rfl;have hcz131_2 : w127.cell? ⟨gb194,2,none⟩ = some (.string (⟨#[]⟩ : ByteArray)):=(bC BK194.out 2).trans rfl;have hfz131_0:=bF BK194.out 0;have hfz131_1:=bF BK194.out 1;have hfz131_2:=bF BK194.out 2;obtain ⟨Ao132,co132,eo132⟩:=Kd.R_slice HO192.out;subst eo132;have hcz133_0 : w127.cell? ⟨gb169,0,none⟩ = some (.slice A1_0 l1_0.length c1_0):=(bC BK169.out 0).trans rfl;have hcz133_1 : w127.cell? ⟨gb169,1,none⟩ = some (.slice A1_1 l1_1.length c1_1):=(bC BK169.out 1).trans rfl;have hcz133_2 : w127.cell? ⟨gb169,2,none⟩ = some (.string a1_2):=(bC BK169.out 2).trans rfl;have hfz133_0:=bF BK169.out 0;have hfz133_1:=bF BK169.out 1;have hfz133_2:=bF BK169.out 2)|((with_reducible refine gate_callee (f:=36) rfl ?_);refine goesL_ (some 28) rfl rfl Try.func36 (by kernel_rfl) rfl #[.agg #[.slice A1_0 l1_0.length c1_0,.slice A1_1 l1_1.length c1_1,.string a1_2]] rfl (by (try simp only [List.map_toArray,List.map_cons,List.map_nil]);first|done|rfl|(simp only [List.length_drop,List.length_take];rfl)) ?_;(with_reducible refine (laws_toStore.calls k _ _ l1_0 _ _ l1_1 a1_2 t195 t198 t201 _ ?side1 ?side2 ?side3 ?side4 A23.out).mono ?_);(case side1 => exact cB HR1_0.out (by repeat (first|(with_reducible first|exact HB.out|apply lA|apply lN|apply lD|refine lS ?_ GE168.out|refine lS ?_ GE169.out|refine lS ?_ GE194.out)|exact HB.out)));(case side2 => exact HC1_0.out);(case side3 => exact cB HR1_1.out (by repeat (first|(with_reducible first|exact HB.out|apply lA|apply lN|apply lD|refine lS ?_ GE168.out|refine lS ?_ GE169.out|refine lS ?_ GE194.out)|exact HB.out)));(case side4 => exact HC1_1.out);rintro e w134 ⟨v196,v199,rfl,ho0,ho1,hb⟩;refine ⟨_,rfl,?_⟩;have n0_:=aM (rE (by (with_reducible repeat (first|apply rA|apply rN|apply rD));exact (Kd.R_mono (rF (p:=⟨gb194,2,none⟩) (rF (p:=⟨gb194,1,none⟩) (rF (p:=⟨gb194,0,none⟩) (rY HO174.out BK194.out (by decide)) (fun _ hk => hk.2) (.slice Ao128 t187.length co128)) (fun _ hk => hk.2) (.slice Ao132 t190.length co132)) (fun _ hk => hk.2) (.string t193)) (fun _ h_ => h_.1))) (rS ho0) hb);have n1_:=aM (rE (by (with_reducible repeat (first|apply rA|apply rN|apply rD));exact (Kd.R_mono (rF (p:=⟨gb194,2,none⟩) (rF (p:=⟨gb194,1,none⟩) (rF (p:=⟨gb194,0,none⟩) (rY HO177.out BK194.out (by decide)) (fun _ hk => hk.2) (.slice Ao128 t187.length co128)) (fun _ hk => hk.2) (.slice Ao132 t190.length co132)) (fun _ hk => hk.2) (.string t193)) (fun _ h_ => h_.1))) (rS ho1) hb);have n2_:=aM (rE (by (with_reducible repeat (first|apply rA|apply rN|apply rD));exact (Kd.R_mono (rF (p:=⟨gb194,2,none⟩) (rF (p:=⟨gb194,1,none⟩) (rF (p:=⟨gb194,0,none⟩) (rY HO181.out BK194.out (by decide)) (fun _ hk => hk.2) (.slice Ao128 t187.length co128)) (fun _ hk => hk.2) (.slice Ao132 t190.length co132)) (fun _ hk => hk.2) (.string t193)) (fun _ h_ => h_.1))) (rS ho0) hb);have n3_:=aM (rE (by (with_reducible repeat (first|apply rA|apply rN|apply rD));exact (Kd.R_mono (rF (p:=⟨gb194,2,none⟩) (rF (p:=⟨gb194,1,none⟩) (rF (p:=⟨gb194,0,none⟩) (rY HO184.out BK194.out (by decide)) (fun _ hk => hk.2) (.slice Ao128 t187.length co128)) (fun _ hk => hk.2) (.slice Ao132 t190.length co132)) (fun _ hk => hk.2) (.string t193)) (fun _ h_ => h_.1))) (rS ho1) hb);have n4_:=aM (rE (by (with_reducible repeat (first|apply rA|apply rN|apply rD));exact (Kd.R_mono (rF (p:=⟨gb194,2,none⟩) (rF (p:=⟨gb194,1,none⟩) (rF (p:=⟨gb194,0,none⟩) (rY HO189.out BK194.out (by decide)) (fun _ hk => hk.2) (.slice Ao128 t187.length co128)) (fun _ hk => hk.2) (.slice Ao132 t190.length co132)) (fun _ hk => hk.2) (.string t193)) (fun _ h_ => h_.1))) (rS ho0) hb);have n5_:=aM (rE (by (with_reducible repeat (first|apply rA|apply rN|apply rD));exact (Kd.R_mono (rF (p:=⟨gb194,2,none⟩) (rF (p:=⟨gb194,1,none⟩) (rF (p:=⟨gb194,0,none⟩) (rY HO192.out BK194.out (by decide)) (fun _ hk => hk.2) (.slice Ao128 t187.length co128)) (fun _ hk => hk.2) (.slice Ao132 t190.length co132)) (fun _ hk => hk.2) (.string t193)) (fun _ h_ => h_.1))) (rS ho1) hb);have n6_:=aM (rL (rW (rW (rW ho0 (rT (by (with_reducible repeat (first|apply rA|apply rN|apply rD));exact (Kd.R_mono (rF (p:=⟨gb194,2,none⟩) (rF (p:=⟨gb194,1,none⟩) (rF (p:=⟨gb194,0,none⟩) (rY HO174.out BK194.out (by decide)) (fun _ hk => hk.2) (.slice Ao128 t187.length co128)) (fun _ hk => hk.2) (.slice Ao132 t190.length co132)) (fun _ hk => hk.2) (.string t193)) (fun _ h_ => h_.1))))) (rT (by (with_reducible repeat (first|apply rA|apply rN|apply rD));exact (Kd.R_mono (rF (p:=⟨gb194,2,none⟩) (rF (p:=⟨gb194,1,none⟩) (rF (p:=⟨gb194,0,none⟩) (rY HO181.out BK194.out (by decide)) (fun _ hk => hk.2) (.slice Ao128 t187.length co128)) (fun _ hk => hk.2) (.slice Ao132 t190.length co132)) (fun _ hk => hk.2) (.string t193)) (fun _ h_ => h_.1))))) (rT (by (with_reducible repeat (first|apply rA|apply rN|apply rD));exact (Kd.R_mono (rF (p:=⟨gb194,2,none⟩) (rF (p:=⟨gb194,1,none⟩) (rF (p:=⟨gb194,0,none⟩) (rY HO189.out BK194.out (by decide)) (fun _ hk => hk.2) (.slice Ao128 t187.length co128)) (fun _ hk => hk.2) (.slice Ao132 t190.length co132)) (fun _ hk => hk.2) (.string t193)) (fun _ h_ => h_.1))))) (lZ (by repeat (first|(with_reducible first|exact HB.out|apply lA|apply lN|apply lD|refine lS ?_ GE168.out|refine lS ?_ GE169.out|refine lS ?_ GE194.out)|exact HB.out))));have n7_:=aM (rL (rW (rW (rW ho1 (rT (by (with_reducible repeat (first|apply rA|apply rN|apply rD));exact (Kd.R_mono (rF (p:=⟨gb194,2,none⟩) (rF (p:=⟨gb194,1,none⟩) (rF (p:=⟨gb194,0,none⟩) (rY HO177.out BK194.out (by decide)) (fun _ hk => hk.2) (.slice Ao128 t187.length co128)) (fun _ hk => hk.2) (.slice Ao132 t190.length co132)) (fun _ hk => hk.2) (.string t193)) (fun _ h_ => h_.1))))) (rT (by (with_reducible repeat (first|apply rA|apply rN|apply rD));exact (Kd.R_mono (rF (p:=⟨gb194,2,none⟩) (rF (p:=⟨gb194,1,none⟩) (rF (p:=⟨gb194,0,none⟩) (rY HO184.out BK194.out (by decide)) (fun _ hk => hk.2) (.slice Ao128 t187.length co128)) (fun _ hk => hk.2) (.slice Ao132 t190.length co132)) (fun _ hk => hk.2) (.string t193)) (fun _ h_ => h_.1))))) (rT (by (with_reducible repeat (first|apply rA|apply rN|apply rD));exact (Kd.R_mono (rF (p:=⟨gb194,2,none⟩) (rF (p:=⟨gb194,1,none⟩) (rF (p:=⟨gb194,0,none⟩) (rY HO192.out BK194.out (by decide)) (fun _ hk => hk.2) (.slice Ao128 t187.length co128)) (fun _ hk => hk.2) (.slice Ao132 t190.length co132)) (fun _ hk => hk.2) (.string t193)) (fun _ h_ => h_.1))))) (lZ (by repeat (first|(with_reducible first|exact HB.out|apply lA|apply lN|apply lD|refine lS ?_ GE168.out|refine lS ?_ GE169.out|refine lS ?_ GE194.out)|exact HB.out))));have n8_:=aM (bB (g:=gb168) (o:=.cells #[.slice A0_0 l0_0.length c0_0,.slice A0_1 l0_1.length c0_1,.string a0_2] 48 (0,0)) (by (with_reducible repeat (first|refine bN ?_ _|refine bD ?_|refine bA ?_ _));refine blk_far ?_ NB168_194.out _;(with_reducible repeat (first|refine bN ?_ _|refine bD ?_|refine bA ?_ _));refine blk_far ?_ NB168_194.out _;(with_reducible repeat (first|refine bN ?_ _|refine bD ?_|refine bA ?_ _));refine blk_far ?_ NB168_194.out _;(with_reducible repeat (first|refine bN ?_ _|refine bD ?_|refine bA ?_ _));exact BK168.out) hb);have n9_:=aM (bB (g:=gb169) (o:=.cells #[.slice A1_0 l1_0.length c1_0,.slice A1_1 l1_1.length c1_1,.string a1_2] 48 (0,0)) (by (with_reducible repeat (first|refine bN ?_ _|refine bD ?_|refine bA ?_ _));refine blk_far ?_ NB169_194.out _;(with_reducible repeat (first|refine bN ?_ _|refine bD ?_|refine bA ?_ _));refine blk_far ?_ NB169_194.out _;(with_reducible repeat (first|refine bN ?_ _|refine bD ?_|refine bA ?_ _));refine blk_far ?_ NB169_194.out _;(with_reducible repeat (first|refine bN ?_ _|refine bD ?_|refine bA ?_ _));exact BK169.out) hb);have n10_:=aM (bB (g:=gb194) (o:=.cells #[.slice Ao128 t187.length co128,.slice Ao132 t190.length co132,.string t193] 54 (0,0)) (by (with_reducible repeat (first|refine bN ?_ _|refine bD ?_|refine bA ?_ _));refine blk_put (cs:=#[.slice Ao128 t187.length co128,.slice Ao132 t190.length co132,.string (⟨#[]⟩ : ByteArray)]) ?_ 2 _ rfl;(with_reducible repeat (first|refine bN ?_ _|refine bD ?_|refine bA ?_ _));refine blk_put (cs:=#[.slice Ao128 t187.length co128,.slice none 0 0,.string (⟨#[]⟩ : ByteArray)]) ?_ 1 _ rfl;(with_reducible repeat (first|refine bN ?_ _|refine bD ?_|refine bA ?_ _));refine blk_put (cs:=#[.slice none 0 0,.slice none 0 0,.string (⟨#[]⟩ : ByteArray)]) ?_ 0 _ rfl;(with_reducible repeat (first|refine bN ?_ _|refine bD ?_|refine bA ?_ _));exact BK194.out) hb);have n11_:=aM (lP (by repeat (first|(with_reducible first|exact HB.out|apply lA|apply lN|apply lD|refine lS ?_ GE168.out|refine lS ?_ GE169.out|refine lS ?_ GE194.out)|exact HB.out)) hb);clear HO174 HO177 HO181 HO184 HO189 HO192 BK168 BK169 BK194 HB;have HO174:=n0_;have HO177:=n1_;have HO181:=n2_;have HO184:=n3_;have HO189:=n4_;have HO192:=n5_;have HO197:=n6_;have HO200:=n7_;have BK168:=n8_;have BK169:=n9_;have BK194:=n10_;have HB:=n11_;clear n0_ n1_ n2_ n3_ n4_ n5_ n6_ n7_ n8_ n9_ n10_ n11_;(try clear hb);(try clear hb2);(try clear hk);(try clear hi);(try clear ho0);(try clear ho1))|((with_reducible refine gate_dst (N:=8) rfl ?_);refine box_event ?hg (N:=8) ?hd (cs:=#[.slice none 0 0,.slice none 0 0,.string (⟨#[]⟩ : ByteArray)]) (t:=54) ?hr ?_;(case hd => rfl);(case hg => rfl);(case hr => first|(go_simp;done)|(go_simp;rfl));intro gb202 hg w135 hbox hb;have n0_:=aM (rB (by (with_reducible repeat (first|apply rA|apply rN|apply rD));exact HO174.out) hb);have n1_:=aM (rB (by (with_reducible repeat (first|apply rA|apply rN|apply rD));exact HO177.out) hb);have n2_:=aM (rB (by (with_reducible repeat (first|apply rA|apply rN|apply rD));exact HO181.out) hb);have n3_:=aM (rB (by (with_reducible repeat (first|apply rA|apply rN|apply rD));exact HO184.out) hb);have n4_:=aM (rB (by (with_reducible repeat (first|apply rA|apply rN|apply rD));exact HO189.out) hb);have n5_:=aM (rB (by (with_reducible repeat (first|apply rA|apply rN|apply rD));exact HO192.out) hb);have n6_:=aM (rB (by (with_reducible repeat (first|apply rA|apply rN|apply rD));exact HO197.out) hb);have n7_:=aM (rB (by (with_reducible repeat (first|apply rA|apply rN|apply rD));exact HO200.out) hb);have n8_:=aM (bB (g:=gb168) (o:=.cells #[.slice A0_0 l0_0.length c0_0,.slice A0_1 l0_1.length c0_1,.string a0_2] 48 (0,0)) (by (with_reducible repeat (first|refine bN ?_ _|refine bD ?_|refine bA ?_ _));exact BK168.out) hb);have n9_:=aM (bB (g:=gb169) (o:=.cells #[.slice A1_0 l1_0.length c1_0,.slice A1_1 l1_1.length c1_1,.string a1_2] 48 (0,0)) (by (with_reducible repeat (first|refine bN ?_ _|refine bD ?_|refine bA ?_ _));exact BK169.out) hb);have n10_:=aM (bB (g:=gb194) (o:=.cells #[.slice Ao128 t187.length co128,.slice Ao132 t190.length co132,.string t193] 54 (0,0)) (by (with_reducible repeat (first|refine bN ?_ _|refine bD ?_|refine bA ?_ _));exact BK194.out) hb);have n11_:=aM (lP (by repeat (first|(with_reducible first|exact HB.out|apply lA|apply lN|apply lD|refine lS ?_ GE168.out|refine lS ?_ GE169.out|refine lS ?_ GE194.out)|exact HB.out)) hb);have n12_:=aM (hbox);have n13_:=aM ((by rw [hg];exact (lZ (by repeat (first|(with_reducible first|exact HB.out|apply lA|apply lN|apply lD|refine lS ?_ GE168.out|refine lS ?_ GE169.out|refine lS ?_ GE194.out)|exact HB.out))) : w.heap.size ≤ gb202));have n14_:=aM ((by rw [hg];exact (lZ (by repeat (first|(with_reducible first|exact HB.out|apply lA|apply lN|apply lD|refine lS ?_ GE168.out|refine lS ?_ GE169.out|refine lS ?_ GE194.out)|exact HB.out))) : w.heap.size ≤ gb202));have n15_:=aM ((by rw [hg];exact Nat.ne_of_lt (bL (g:=gb168) (o:=.cells #[.slice A0_0 l0_0.length c0_0,.slice A0_1 l0_1.length c0_1,.string a0_2] 48 (0,0)) (by (with_reducible repeat (first|refine bN ?_ _|refine bD ?_|refine bA ?_ _));exact BK168.out)) : gb168 ≠ gb202));have n16_:=aM ((by rw [hg];exact Nat.ne_of_gt (bL (g:=gb168) (o:=.cells #[.slice A0_0 l0_0.length c0_0,.slice A0_1 l0_1.length c0_1,.string a0_2] 48 (0,0)) (by (with_reducible repeat (first|refine bN ?_ _|refine bD ?_|refine bA ?_ _));exact BK168.out)) : gb202 ≠ gb168));have n17_:=aM ((by rw [hg];exact Nat.ne_of_lt (bL (g:=gb169) (o:=.cells #[.slice A1_0 l1_0.length c1_0,.slice A1_1 l1_1.length c1_1,.string a1_2] 48 (0,0)) (by (with_reducible repeat (first|refine bN ?_ _|refine bD ?_|refine bA ?_ _));exact BK169.out)) : gb169 ≠ gb202));have n18_:=aM ((by rw [hg];exact Nat.ne_of_gt (bL (g:=gb169) (o:=.cells #[.slice A1_0 l1_0.length c1_0,.slice A1_1 l1_1.length c1_1,.string a1_2] 48 (0,0)) (by (with_reducible repeat (first|refine bN ?_ _|refine bD ?_|refine bA ?_ _));exact BK169.out)) : gb202 ≠ gb169));have n19_:=aM ((by rw [hg];exact Nat.ne_of_lt (bL (g:=gb194) (o:=.cells #[.slice Ao128 t187.length co128,.slice Ao132 t190.length co132,.string t193] 54 (0,0)) (by (with_reducible repeat (first|refine bN ?_ _|refine bD ?_|refine bA ?_ _));exact BK194.out)) : gb194 ≠ gb202));have n20_:=aM ((by rw [hg];exact Nat.ne_of_gt (bL (g:=gb194) (o:=.cells #[.slice Ao128 t187.length co128,.slice Ao132 t190.length co132,.string t193] 54 (0,0)) (by (with_reducible repeat (first|refine bN ?_ _|refine bD ?_|refine bA ?_ _));exact BK194.out)) : gb202 ≠ gb194));clear HO174 HO177 HO181 HO184 HO189 HO192 HO197 HO200 BK168 BK169 BK194 HB;have HO174:=n0_;have HO177:=n1_;have HO181:=n2_;have HO184:=n3_;have HO189:=n4_;have HO192:=n5_;have HO197:=n6_;have HO200:=n7_;have BK168:=n8_;have BK169:=n9_;have BK194:=n10_;have HB:=n11_;have BK202:=n12_;have GW202:=n13_;have GE202:=n14_;have NB168_202:=n15_;have NB202_168:=n16_;have NB169_202:=n17_;have NB202_169:=n18_;have NB194_202:=n19_;have NB202_194:=n20_;clear n0_ n1_ n2_ n3_ n4_ n5_ n6_ n7_ n8_ n9_ n10_ n11_ n12_ n13_ n14_ n15_ n16_ n17_ n18_ n19_ n20_ hb hbox hg;obtain ⟨Ao136,co136,eo136⟩:=Kd.R_slice HO197.out;subst eo136;have hnb137:=NB202_168.out;have hnc137:=NB168_202.out;have hnb138:=NB202_169.out;have hnc138:=NB169_202.out;have hnb139:=NB202_194.out;have hnc139:=NB194_202.out;have hcz140_0 : w135.cell? ⟨gb202,0,none⟩ = some (.slice none 0 0):=(bC BK202.out 0).trans rfl;have hcz140_1 : w135.cell? ⟨gb202,1,none⟩ = some (.slice none 0 0):=(bC BK202.out 1).trans rfl;have hcz140_2 : w135.cell? ⟨gb202,2,none⟩ = some (.string (⟨#[]⟩ : ByteArray)):=(bC BK202.out 2).trans rfl;have hfz140_0:=bF BK202.out 0;have hfz140_1:=bF BK202.out 1;have hfz140_2:=bF BK202.out 2;obtain ⟨Ao141,co141,eo141⟩:=Kd.R_slice HO200.out;subst eo141;have hcz142_0 : w135.cell? ⟨gb194,0,none⟩ = some (.slice Ao128 t187.length co128):=(bC BK194.out 0).trans rfl;have hcz142_1 : w135.cell? ⟨gb194,1,none⟩ = some (.slice Ao132 t190.length co132):=(bC BK194.out 1).trans rfl;have hcz142_2 : w135.cell? ⟨gb194,2,none⟩ = some (.string t193):=(bC BK194.out 2).trans rfl;have hfz142_0:=bF BK194.out 0;have hfz142_1:=bF BK194.out 1;have hfz142_2:=bF BK194.out 2)|((with_reducible refine gate_callee (f:=45) rfl ?_);refine goesL_ (some 31) rfl rfl Try.func45 (by kernel_rfl) rfl #[.agg #[.slice Ao128 t187.length co128,.slice Ao132 t190.length co132,.string t193],.agg #[.slice Ao136 t195.length co136,.slice Ao141 t198.length co141,.string t201]] rfl (by (try simp only [List.map_toArray,List.map_cons,List.map_nil]);first|done|rfl|(simp only [List.length_drop,List.length_take];rfl)) ?_;(with_reducible refine (impl_SameStore.calls k _ _ t187 _ _ t190 t193 _ _ t195 _ _ t198 t201 t203 _ ?side1 ?side2 ?side3 ?side4 ?side5 ?side6 ?side7 ?side8 A24.out).mono ?_);(case side1 => refine (rR (e:=105) (base:=w.heap.size) (ok:=fun k_ => (((True ∧ some k_ ≠ (.slice Ao120 t172.length co120 : Value).ownBlock) ∧ some k_ ≠ (.slice Ao122 t179.length co122 : Value).ownBlock) ∧ some k_ ≠ (.slice Ao136 t195.length co136 : Value).ownBlock)) (n:=t187.length) (c:=co128) ?_).2.2;exact (by (with_reducible repeat (first|apply rA|apply rN|apply rD));exact (Kd.R_mono (rF (p:=⟨gb202,2,none⟩) (rF (p:=⟨gb202,1,none⟩) (rF (p:=⟨gb202,0,none⟩) (rY HO189.out BK202.out (by decide)) (fun _ hk => hk.2) (.slice Ao136 t195.length co136)) (fun _ hk => hk.2) (.slice Ao141 t198.length co141)) (fun _ hk => hk.2) (.string t201)) (fun _ h_ => h_.1))));(case side2 => exact (rR HO189.out).2.1);(case side3 => refine (rR (e:=61) (base:=w.heap.size) (ok:=fun k_ => (((True ∧ some k_ ≠ (.slice Ao121 t175.length co121 : Value).ownBlock) ∧ some k_ ≠ (.slice Ao123 t182.length co123 : Value).ownBlock) ∧ some k_ ≠ (.slice Ao141 t198.length co141 : Value).ownBlock)) (n:=t190.length) (c:=co132) ?_).2.2;exact (by (with_reducible repeat (first|apply rA|apply rN|apply rD));exact (Kd.R_mono (rF (p:=⟨gb202,2,none⟩) (rF (p:=⟨gb202,1,none⟩) (rF (p:=⟨gb202,0,none⟩) (rY HO192.out BK202.out (by decide)) (fun _ hk => hk.2) (.slice Ao136 t195.length co136)) (fun _ hk => hk.2) (.slice Ao141 t198.length co141)) (fun _ hk => hk.2) (.string t201)) (fun _ h_ => h_.1))));(case side4 => exact (rR HO192.out).2.1);(case side5 => refine (rR (e:=105) (base:=w.heap.size) (ok:=fun k_ => (((True ∧ some k_ ≠ (.slice Ao120 t172.length co120 : Value).ownBlock) ∧ some k_ ≠ (.slice Ao122 t179.length co122 : Value).ownBlock) ∧ some k_ ≠ (.slice Ao128 t187.length co128 : Value).ownBlock)) (n:=t195.length) (c:=co136) ?_).2.2;exact (by (with_reducible repeat (first|apply rA|apply rN|apply rD));exact (Kd.R_mono (rF (p:=⟨gb202,2,none⟩) (rF (p:=⟨gb202,1,none⟩) (rF (p:=⟨gb202,0,none⟩) (rY HO197.out BK202.out (by decide)) (fun _ hk => hk.2) (.slice Ao136 t195.length co136)) (fun _ hk => hk.2) (.slice Ao141 t198.length co141)) (fun _ hk => hk.2) (.string t201)) (fun _ h_ => h_.1))));(case side6 => exact (rR HO197.out).2.1);(case side7 => refine (rR (e:=61) (base:=w.heap.size) (ok:=fun k_ => (((True ∧ some k_ ≠ (.slice Ao121 t175.length co121 : Value).ownBlock) ∧ some k_ ≠ (.slice Ao123 t182.length co123 : Value).ownBlock) ∧ some k_ ≠ (.slice Ao132 t190.length co132 : Value).ownBlock)) (n:=t198.length) (c:=co141) ?_).2.2;exact (by (with_reducible repeat (first|apply rA|apply rN|apply rD));exact (Kd.R_mono (rF (p:=⟨gb202,2,none⟩) (rF (p:=⟨gb202,1,none⟩) (rF (p:=⟨gb202,0,none⟩) (rY HO200.out BK202.out (by decide)) (fun _ hk => hk.2) (.slice Ao136 t195.length co136)) (fun _ hk => hk.2) (.slice Ao141 t198.length co141)) (fun _ hk => hk.2) (.string t201)) (fun _ h_ => h_.1))));(case side8 => exact (rR HO200.out).2.1);rintro e w143 ⟨rfl,hb⟩;refine ⟨_,rfl,?_⟩;have n0_:=aM (rB (by (with_reducible repeat (first|apply rA|apply rN|apply rD));exact (Kd.R_mono (rF (p:=⟨gb202,2,none⟩) (rF (p:=⟨gb202,1,none⟩) (rF (p:=⟨gb202,0,none⟩) (rY HO174.out BK202.out (by decide)) (fun _ hk => hk.2) (.slice Ao136 t195.length co136)) (fun _ hk => hk.2) (.slice Ao141 t198.length co141)) (fun _ hk => hk.2) (.string t201)) (fun _ h_ => h_.1))) hb);have n1_:=aM (rB (by (with_reducible repeat (first|apply rA|apply rN|apply rD));exact (Kd.R_mono (rF (p:=⟨gb202,2,none⟩) (rF (p:=⟨gb202,1,none⟩) (rF (p:=⟨gb202,0,none⟩) (rY HO177.out BK202.out (by decide)) (fun _ hk => hk.2) (.slice Ao136 t195.length co136)) (fun _ hk => hk.2) (.slice Ao141 t198.length co141)) (fun _ hk => hk.2) (.string t201)) (fun _ h_ => h_.1))) hb);have n2_:=aM (rB (by (with_reducible repeat (first|apply rA|apply rN|apply rD));exact (Kd.R_mono (rF (p:=⟨gb202,2,none⟩) (rF (p:=⟨gb202,1,none⟩) (rF (p:=⟨gb202,0,none⟩) (rY HO181.out BK202.out (by decide)) (fun _ hk => hk.2) (.slice Ao136 t195.length co136)) (fun _ hk => hk.2) (.slice Ao141 t198.length co141)) (fun _ hk => hk.2) (.string t201)) (fun _ h_ => h_.1))) hb);have n3_:=aM (rB (by (with_reducible repeat (first|apply rA|apply rN|apply rD));exact (Kd.R_mono (rF (p:=⟨gb202,2,none⟩) (rF (p:=⟨gb202,1,none⟩) (rF (p:=⟨gb202,0,none⟩) (rY HO184.out BK202.out (by decide)) (fun _ hk => hk.2) (.slice Ao136 t195.length co136)) (fun _ hk => hk.2) (.slice Ao141 t198.length co141)) (fun _ hk => hk.2) (.string t201)) (fun _ h_ => h_.1))) hb);have n4_:=aM (rB (by (with_reducible repeat (first|apply rA|apply rN|apply rD));exact (Kd.R_mono (rF (p:=⟨gb202,2,none⟩) (rF (p:=⟨gb202,1,none⟩) (rF (p:=⟨gb202,0,none⟩) (rY HO189.out BK202.out (by decide)) (fun _ hk => hk.2) (.slice Ao136 t195.length co136)) (fun _ hk => hk.2) (.slice Ao141 t198.length co141)) (fun _ hk => hk.2) (.string t201)) (fun _ h_ => h_.1))) hb);have n5_:=aM (rB (by (with_reducible repeat (first|apply rA|apply rN|apply rD));exact (Kd.R_mono (rF (p:=⟨gb202,2,none⟩) (rF (p:=⟨gb202,1,none⟩) (rF (p:=⟨gb202,0,none⟩) (rY HO192.out BK202.out (by decide)) (fun _ hk => hk.2) (.slice Ao136 t195.length co136)) (fun _ hk => hk.2) (.slice Ao141 t198.length co141)) (fun _ hk => hk.2) (.string t201)) (fun _ h_ => h_.1))) hb);have n6_:=aM (rB (by (with_reducible repeat (first|apply rA|apply rN|apply rD));exact (Kd.R_mono (rF (p:=⟨gb202,2,none⟩) (rF (p:=⟨gb202,1,none⟩) (rF (p:=⟨gb202,0,none⟩) (rY HO197.out BK202.out (by decide)) (fun _ hk => hk.2) (.slice Ao136 t195.length co136)) (fun _ hk => hk.2) (.slice Ao141 t198.length co141)) (fun _ hk => hk.2) (.string t201)) (fun _ h_ => h_.1))) hb);have n7_:=aM (rB (by (with_reducible repeat (first|apply rA|apply rN|apply rD));exact (Kd.R_mono (rF (p:=⟨gb202,2,none⟩) (rF (p:=⟨gb202,1,none⟩) (rF (p:=⟨gb202,0,none⟩) (rY HO200.out BK202.out (by decide)) (fun _ hk => hk.2) (.slice Ao136 t195.length co136)) (fun _ hk => hk.2) (.slice Ao141 t198.length co141)) (fun _ hk => hk.2) (.string t201)) (fun _ h_ => h_.1))) hb);have n8_:=aM (bB (g:=gb168) (o:=.cells #[.slice A0_0 l0_0.length c0_0,.slice A0_1 l0_1.length c0_1,.string a0_2] 48 (0,0)) (by (with_reducible repeat (first|refine bN ?_ _|refine bD ?_|refine bA ?_ _));refine blk_far ?_ NB168_202.out _;(with_reducible repeat (first|refine bN ?_ _|refine bD ?_|refine bA ?_ _));refine blk_far ?_ NB168_202.out _;(with_reducible repeat (first|refine bN ?_ _|refine bD ?_|refine bA ?_ _));refine blk_far ?_ NB168_202.out _;(with_reducible repeat (first|refine bN ?_ _|refine bD ?_|refine bA ?_ _));exact BK168.out) hb);have n9_:=aM (bB (g:=gb169) (o:=.cells #[.slice A1_0 l1_0.length c1_0,.slice A1_1 l1_1.length c1_1,.string a1_2] 48 (0,0)) (by (with_reducible repeat (first|refine bN ?_ _|refine bD ?_|refine bA ?_ _));refine blk_far ?_ NB169_202.out _;(with_reducible repeat (first|refine bN ?_ _|refine bD ?_|refine bA ?_ _));refine blk_far ?_ NB169_202.out _;(with_reducible repeat (first|refine bN ?_ _|refine bD ?_|refine bA ?_ _));refine blk_far ?_ NB169_202.out _;(with_reducible repeat (first|refine bN ?_ _|refine bD ?_|refine bA ?_ _));exact BK169.out) hb);have n10_:=aM (bB (g:=gb194) (o:=.cells #[.slice Ao128 t187.length co128,.slice Ao132 t190.length co132,.string t193] 54 (0,0)) (by (with_reducible repeat (first|refine bN ?_ _|refine bD ?_|refine bA ?_ _));refine blk_far ?_ NB194_202.out _;(with_reducible repeat (first|refine bN ?_ _|refine bD ?_|refine bA ?_ _));refine blk_far ?_ NB194_202.out _;(with_reducible repeat (first|refine bN ?_ _|refine bD ?_|refine bA ?_ _));refine blk_far ?_ NB194_202.out _;(with_reducible repeat (first|refine bN ?_ _|refine bD ?_|refine bA ?_ _));exact BK194.out) hb);have n11_:=aM (bB (g:=gb202) (o:=.cells #[.slice Ao136 t195.length co136,.slice Ao141 t198.length co141,.string t201] 54 (0,0)) (by (with_reducible repeat (first|refine bN ?_ _|refine bD ?_|refine bA ?_ _));refine blk_put (cs:=#[.slice Ao136 t195.length co136,.slice Ao141 t198.length co141,.string (⟨#[]⟩ : ByteArray)]) ?_ 2 _ rfl;(with_reducible repeat (first|refine bN ?_ _|refine bD ?_|refine bA ?_ _));refine blk_put (cs:=#[.slice Ao136 t195.length co136,.slice none 0 0,.string (⟨#[]⟩ : ByteArray)]) ?_ 1 _ rfl;(with_reducible repeat (first|refine bN ?_ _|refine bD ?_|refine bA ?_ _));refine blk_put (cs:=#[.slice none 0 0,.slice none 0 0,.string (⟨#[]⟩ : ByteArray)]) ?_ 0 _ rfl;(with_reducible repeat (first|refine bN ?_ _|refine bD ?_|refine bA ?_ _));exact BK202.out) hb);have n12_:=aM (lP (by repeat (first|(with_reducible first|exact HB.out|apply lA|apply lN|apply lD|refine lS ?_ GE168.out|refine lS ?_ GE169.out|refine lS ?_ GE194.out|refine lS ?_ GE202.out)|exact HB.out)) hb);clear HO174 HO177 HO181 HO184 HO189 HO192 HO197 HO200 BK168 BK169 BK194 BK202 HB;have HO174:=n0_;have HO177:=n1_;have HO181:=n2_;have HO184:=n3_;have HO189:=n4_;have HO192:=n5_;have HO197:=n6_;have HO200:=n7_;have BK168:=n8_;have BK169:=n9_;have BK194:=n10_;have BK202:=n11_;have HB:=n12_;clear n0_ n1_ n2_ n3_ n4_ n5_ n6_ n7_ n8_ n9_ n10_ n11_ n12_;(try clear hb);(try clear hb2);(try clear hk);(try clear hi)))
      have n0_:=aM (rD HO174.out)
      have n1_:=aM (rD HO177.out)
      have n2_:=aM (rD HO181.out)
      have n3_:=aM (rD HO184.out)
      have n4_:=aM (rD HO189.out)
      have n5_:=aM (rD HO192.out)
      have n6_:=aM (rD HO197.out)
      have n7_:=aM (rD HO200.out)
      have n8_:=aM (bD BK168.out)
      have n9_:=aM (bD BK169.out)
      have n10_:=aM (bD BK194.out)
      have n11_:=aM (bD BK202.out)
      have n12_:=aM (lD HB.out)
      clear HO174
      clear HO177
      clear HO181
      clear HO184
      clear HO189
      clear HO192
      clear HO197
      clear HO200
      clear BK168
      clear BK169
      clear BK194
      clear BK202
      clear HB
      have HO174:=n0_
      have HO177:=n1_
      have HO181:=n2_
      have HO184:=n3_
      have HO189:=n4_
      have HO192:=n5_
      have HO197:=n6_
      have HO200:=n7_
      have BK168:=n8_
      have BK169:=n9_
      have BK194:=n10_
      have BK202:=n11_
      have HB:=n12_
      clear n0_ n1_ n2_ n3_ n4_ n5_ n6_ n7_ n8_ n9_ n10_ n11_ n12_
      refine start_ (n:=5) (S:=fun w' => w'.cell? ⟨gb194,0,none⟩ = some (.slice Ao128 t187.length co128) ∧ w'.cell? ⟨gb194,1,none⟩ = some (.slice Ao132 t190.length co132) ∧ w'.cell? ⟨gb194,2,none⟩ = some (.string t193) ∧ w'.cell? ⟨gb168,0,none⟩ = some (.slice A0_0 l0_0.length c0_0) ∧ w'.cell? ⟨gb168,1,none⟩ = some (.slice A0_1 l0_1.length c0_1) ∧ w'.cell? ⟨gb168,2,none⟩ = some (.string a0_2)) (ds:=[]) #[false,false,false,false,false] (by kernel_rfl) rfl rfl ⟨(bC BK194.out 0).trans rfl,(bC BK194.out 1).trans rfl,(bC BK194.out 2).trans rfl,(bC BK168.out 0).trans rfl,(bC BK168.out 1).trans rfl,(bC BK168.out 2).trans rfl⟩ (fun hHeld => ?_)
      generalize w143.drew = w144 at HO174 HO177 HO181 HO184 HO189 HO192 HO197 HO200 BK168 BK169 BK194 BK202 HB hHeld ⊢
      refine take_ (i:=0) (N:=some 35) (v:=?_) (a':=?_) #[true,false,false,false,false] rfl rfl (by kernel_rfl) (fun _ _ _ h => h) (Or.inl ⟨by rfl,?_⟩) hHeld ?_ ?_
      rotate_left
      ·rintro w' ⟨s0,s1,s2,s3,s4,s5⟩
       go_simp
       with_reducible rfl
      rotate_left
      ·simp only [Act.put,q_ia,q_cz,q_cs,i64_w,i32_w];rfl
      refine take_ (i:=1) (N:=some 36) (v:=?_) (a':=?_) #[true,true,false,false,false] rfl rfl (by kernel_rfl) (fun _ _ _ h => h) (Or.inl ⟨by rfl,?_⟩) hHeld ?_ ?_
      rotate_left
      ·rintro w' ⟨s0,s1,s2,s3,s4,s5⟩
       go_simp
       with_reducible rfl
      rotate_left
      ·simp only [Act.put,q_ia,q_cz,q_cs,i64_w,i32_w];rfl
      refine one_ (i:=2) (N:=some 37) #[true,true,true,false,false] rfl rfl (by kernel_rfl) (by decide) (fun K hK => ?_)
      refine goes_ Try.func36 (by kernel_rfl) rfl #[.agg #[.slice A0_0 l0_0.length c0_0,.slice A0_1 l0_1.length c0_1,.string a0_2]] (by rfl) rfl rfl (by (try simp only [List.map_toArray,List.map_cons,List.map_nil]);first|done|rfl|(simp only [List.length_drop,List.length_take];rfl)) ?_
      with_reducible refine (laws_toStore.calls k _ _ l0_0 _ _ l0_1 a0_2 t204 t207 t210 _ ?side1 ?side2 ?side3 ?side4 A60.out).mono ?_
      (case side1 => repeat (first|exact (cB HR0_0.out HB.out)|(with_reducible first|refine cA ?_ _|refine cN ?_ _|refine cD ?_)))
      (case side2 => exact HC0_0.out)
      (case side3 => repeat (first|exact (cB HR0_1.out HB.out)|(with_reducible first|refine cA ?_ _|refine cN ?_ _|refine cD ?_)))
      (case side4 => exact HC0_1.out)
      rintro e w145 ⟨v205,v208,rfl,ho0,ho1,hb⟩
      refine ⟨_,rfl,?_⟩
      have n0_:=aM (rE (by (with_reducible repeat (first|apply rA|apply rN|apply rD));exact HO174.out) (rS ho0) hb)
      have n1_:=aM (rE (by (with_reducible repeat (first|apply rA|apply rN|apply rD));exact HO177.out) (rS ho1) hb)
      have n2_:=aM (rE (by (with_reducible repeat (first|apply rA|apply rN|apply rD));exact HO181.out) (rS ho0) hb)
      have n3_:=aM (rE (by (with_reducible repeat (first|apply rA|apply rN|apply rD));exact HO184.out) (rS ho1) hb)
      have n4_:=aM (rE (by (with_reducible repeat (first|apply rA|apply rN|apply rD));exact HO189.out) (rS ho0) hb)
      have n5_:=aM (rE (by (with_reducible repeat (first|apply rA|apply rN|apply rD));exact HO192.out) (rS ho1) hb)
      have n6_:=aM (rE (by (with_reducible repeat (first|apply rA|apply rN|apply rD));exact HO197.out) (rS ho0) hb)
      have n7_:=aM (rE (by (with_reducible repeat (first|apply rA|apply rN|apply rD));exact HO200.out) (rS ho1) hb)
      have n8_:=aM (rL (rW (rW (rW (rW ho0 (rT (by (with_reducible repeat (first|apply rA|apply rN|apply rD));exact HO174.out))) (rT (by (with_reducible repeat (first|apply rA|apply rN|apply rD));exact HO181.out))) (rT (by (with_reducible repeat (first|apply rA|apply rN|apply rD));exact HO189.out))) (rT (by (with_reducible repeat (first|apply rA|apply rN|apply rD));exact HO197.out))) (lZ (by repeat (first|(with_reducible first|exact HB.out|apply lA|apply lN|apply lD|refine lS ?_ GE168.out|refine lS ?_ GE169.out|refine lS ?_ GE194.out|refine lS ?_ GE202.out)|exact HB.out))))
      have n9_:=aM (rL (rW (rW (rW (rW ho1 (rT (by (with_reducible repeat (first|apply rA|apply rN|apply rD));exact HO177.out))) (rT (by (with_reducible repeat (first|apply rA|apply rN|apply rD));exact HO184.out))) (rT (by (with_reducible repeat (first|apply rA|apply rN|apply rD));exact HO192.out))) (rT (by (with_reducible repeat (first|apply rA|apply rN|apply rD));exact HO200.out))) (lZ (by repeat (first|(with_reducible first|exact HB.out|apply lA|apply lN|apply lD|refine lS ?_ GE168.out|refine lS ?_ GE169.out|refine lS ?_ GE194.out|refine lS ?_ GE202.out)|exact HB.out))))
      have n10_:=aM (bB (g:=gb168) (o:=.cells #[.slice A0_0 l0_0.length c0_0,.slice A0_1 l0_1.length c0_1,.string a0_2] 48 (0,0)) (by (with_reducible repeat (first|refine bN ?_ _|refine bD ?_|refine bA ?_ _));exact BK168.out) hb)
      have n11_:=aM (bB (g:=gb169) (o:=.cells #[.slice A1_0 l1_0.length c1_0,.slice A1_1 l1_1.length c1_1,.string a1_2] 48 (0,0)) (by (with_reducible repeat (first|refine bN ?_ _|refine bD ?_|refine bA ?_ _));exact BK169.out) hb)
      have n12_:=aM (bB (g:=gb194) (o:=.cells #[.slice Ao128 t187.length co128,.slice Ao132 t190.length co132,.string t193] 54 (0,0)) (by (with_reducible repeat (first|refine bN ?_ _|refine bD ?_|refine bA ?_ _));exact BK194.out) hb)
      have n13_:=aM (bB (g:=gb202) (o:=.cells #[.slice Ao136 t195.length co136,.slice Ao141 t198.length co141,.string t201] 54 (0,0)) (by (with_reducible repeat (first|refine bN ?_ _|refine bD ?_|refine bA ?_ _));exact BK202.out) hb)
      have n14_:=aM (lP (by repeat (first|(with_reducible first|exact HB.out|apply lA|apply lN|apply lD|refine lS ?_ GE168.out|refine lS ?_ GE169.out|refine lS ?_ GE194.out|refine lS ?_ GE202.out)|exact HB.out)) hb)
      clear HO174
      clear HO177
      clear HO181
      clear HO184
      clear HO189
      clear HO192
      clear HO197
      clear HO200
      clear BK168
      clear BK169
      clear BK194
      clear BK202
      clear HB
      have HO174:=n0_
      have HO177:=n1_
      have HO181:=n2_
      have HO184:=n3_
      have HO189:=n4_
      have HO192:=n5_
      have HO197:=n6_
      have HO200:=n7_
      have HO206:=n8_
      have HO209:=n9_
      have BK168:=n10_
      have BK169:=n11_
      have BK194:=n12_
      have BK202:=n13_
      have HB:=n14_
      clear n0_ n1_ n2_ n3_ n4_ n5_ n6_ n7_ n8_ n9_ n10_ n11_ n12_ n13_ n14_
      (try clear hb)
      (try clear hb2)
      (try clear hk)
      (try clear hi)
      (try clear ho0)
      (try clear ho1)
      obtain ⟨Ao146,co146,eo146⟩:=Kd.R_slice HO206.out
      (first|subst eo146|(injection eo146 with f1_ f2_ f3_;have f4_:=f1_.symm;have f5_:=f3_.symm;clear f1_ f2_ f3_;subst f4_;subst f5_))
      obtain ⟨Ao147,co147,eo147⟩:=Kd.R_slice HO209.out
      (first|subst eo147|(injection eo147 with f1_ f2_ f3_;have f4_:=f1_.symm;have f5_:=f3_.symm;clear f1_ f2_ f3_;subst f4_;subst f5_))
      refine hK.out _ _ ⟨(bC BK194.out 0).trans rfl,(bC BK194.out 1).trans rfl,(bC BK194.out 2).trans rfl,(bC BK168.out 0).trans rfl,(bC BK168.out 1).trans rfl,(bC BK168.out 2).trans rfl⟩ (fun hHeld => ?_)
      clear hK K
      refine norm_ (a':=?_) ?_ ?_
      rotate_left
      ·show Act.put _ (some 37) _ = _
       simp only [Act.put,q_ia,q_cz,q_cs,i64_w,i32_w]
       rfl
      refine one_ (i:=3) (N:=some 38) #[true,true,true,true,false] rfl rfl (by kernel_rfl) (by decide) (fun K hK => ?_)
      refine goes_ Try.func38 (by kernel_rfl) rfl #[.agg #[.slice Ao128 t187.length co128,.slice Ao132 t190.length co132,.string t193],.agg #[.slice Ao146 t204.length co146,.slice Ao147 t207.length co147,.string t210]] (by rfl) rfl rfl (by (try simp only [List.map_toArray,List.map_cons,List.map_nil]);first|done|rfl|(simp only [List.length_drop,List.length_take];rfl)) ?_
      with_reducible refine (laws_eqStore.calls k _ _ t187 _ _ t190 t193 _ _ t204 _ _ t207 t210 true _ ?side1 ?side2 ?side3 ?side4 ?side5 ?side6 ?side7 ?side8 A61.out).mono ?_
      (case side1 => repeat (first|exact (rR HO189.out).2.2|(with_reducible first|refine cA ?_ _|refine cN ?_ _|refine cD ?_)))
      (case side2 => exact (rR HO189.out).2.1)
      (case side3 => repeat (first|exact (rR HO192.out).2.2|(with_reducible first|refine cA ?_ _|refine cN ?_ _|refine cD ?_)))
      (case side4 => exact (rR HO192.out).2.1)
      (case side5 => repeat (first|exact (rR HO206.out).2.2|(with_reducible first|refine cA ?_ _|refine cN ?_ _|refine cD ?_)))
      (case side6 => exact (rR HO206.out).2.1)
      (case side7 => repeat (first|exact (rR HO209.out).2.2|(with_reducible first|refine cA ?_ _|refine cN ?_ _|refine cD ?_)))
      (case side8 => exact (rR HO209.out).2.1)
      rintro e w148 ⟨rfl,hb⟩
      refine ⟨_,rfl,?_⟩
      have n0_:=aM (rB (by (with_reducible repeat (first|apply rA|apply rN|apply rD));exact HO174.out) hb)
      have n1_:=aM (rB (by (with_reducible repeat (first|apply rA|apply rN|apply rD));exact HO177.out) hb)
      have n2_:=aM (rB (by (with_reducible repeat (first|apply rA|apply rN|apply rD));exact HO181.out) hb)
      have n3_:=aM (rB (by (with_reducible repeat (first|apply rA|apply rN|apply rD));exact HO184.out) hb)
      have n4_:=aM (rB (by (with_reducible repeat (first|apply rA|apply rN|apply rD));exact HO189.out) hb)
      have n5_:=aM (rB (by (with_reducible repeat (first|apply rA|apply rN|apply rD));exact HO192.out) hb)
      have n6_:=aM (rB (by (with_reducible repeat (first|apply rA|apply rN|apply rD));exact HO197.out) hb)
      have n7_:=aM (rB (by (with_reducible repeat (first|apply rA|apply rN|apply rD));exact HO200.out) hb)
      have n8_:=aM (rB (by (with_reducible repeat (first|apply rA|apply rN|apply rD));exact HO206.out) hb)
      have n9_:=aM (rB (by (with_reducible repeat (first|apply rA|apply rN|apply rD));exact HO209.out) hb)
      have n10_:=aM (bB (g:=gb168) (o:=.cells #[.slice A0_0 l0_0.length c0_0,.slice A0_1 l0_1.length c0_1,.string a0_2] 48 (0,0)) (by (with_reducible repeat (first|refine bN ?_ _|refine bD ?_|refine bA ?_ _));exact BK168.out) hb)
      have n11_:=aM (bB (g:=gb169) (o:=.cells #[.slice A1_0 l1_0.length c1_0,.slice A1_1 l1_1.length c1_1,.string a1_2] 48 (0,0)) (by (with_reducible repeat (first|refine bN ?_ _|refine bD ?_|refine bA ?_ _));exact BK169.out) hb)
      have n12_:=aM (bB (g:=gb194) (o:=.cells #[.slice Ao128 t187.length co128,.slice Ao132 t190.length co132,.string t193] 54 (0,0)) (by (with_reducible repeat (first|refine bN ?_ _|refine bD ?_|refine bA ?_ _));exact BK194.out) hb)
      have n13_:=aM (bB (g:=gb202) (o:=.cells #[.slice Ao136 t195.length co136,.slice Ao141 t198.length co141,.string t201] 54 (0,0)) (by (with_reducible repeat (first|refine bN ?_ _|refine bD ?_|refine bA ?_ _));exact BK202.out) hb)
      have n14_:=aM (lP (by repeat (first|(with_reducible first|exact HB.out|apply lA|apply lN|apply lD|refine lS ?_ GE168.out|refine lS ?_ GE169.out|refine lS ?_ GE194.out|refine lS ?_ GE202.out)|exact HB.out)) hb)
      clear HO174
      clear HO177
      clear HO181
      clear HO184
      clear HO189
      clear HO192
      clear HO197
      clear HO200
      clear HO206
      clear HO209
      clear BK168
      clear BK169
      clear BK194
      clear BK202
      clear HB
      have HO174:=n0_
      have HO177:=n1_
      have HO181:=n2_
      have HO184:=n3_
      have HO189:=n4_
      have HO192:=n5_
      have HO197:=n6_
      have HO200:=n7_
      have HO206:=n8_
      have HO209:=n9_
      have BK168:=n10_
      have BK169:=n11_
      have BK194:=n12_
      have BK202:=n13_
      have HB:=n14_
      clear n0_ n1_ n2_ n3_ n4_ n5_ n6_ n7_ n8_ n9_ n10_ n11_ n12_ n13_ n14_
      (try clear hb)
      (try clear hb2)
      (try clear hk)
      (try clear hi)
      refine hK.out _ _ ⟨(bC BK194.out 0).trans rfl,(bC BK194.out 1).trans rfl,(bC BK194.out 2).trans rfl,(bC BK168.out 0).trans rfl,(bC BK168.out 1).trans rfl,(bC BK168.out 2).trans rfl⟩ (fun hHeld => ?_)
      clear hK K
      refine norm_ (a':=?_) ?_ ?_
      rotate_left
      ·show Act.put _ (some 38) _ = _
       simp only [Act.put,q_ia,q_cz,q_cs,i64_w,i32_w]
       rfl
      refine pure_ (i:=4) (N:=some 39) (v:=?_) (a':=?_) #[true,true,true,true,true] rfl rfl (by kernel_rfl) (fun _ _ _ h => h) (Or.inl ⟨by rfl,?_⟩) ?_ ?_
      rotate_left
      ·intro w';go_simp;with_reducible rfl
      rotate_left
      ·simp only [Act.put,q_ia,q_cz,q_cs,i64_w,i32_w];rfl
      refine done_ (by kernel_rfl) ?_
      try go_wp2
      have n0_:=aM (rD HO174.out)
      have n1_:=aM (rD HO177.out)
      have n2_:=aM (rD HO181.out)
      have n3_:=aM (rD HO184.out)
      have n4_:=aM (rD HO189.out)
      have n5_:=aM (rD HO192.out)
      have n6_:=aM (rD HO197.out)
      have n7_:=aM (rD HO200.out)
      have n8_:=aM (rD HO206.out)
      have n9_:=aM (rD HO209.out)
      have n10_:=aM (bD BK168.out)
      have n11_:=aM (bD BK169.out)
      have n12_:=aM (bD BK194.out)
      have n13_:=aM (bD BK202.out)
      have n14_:=aM (lD HB.out)
      clear HO174
      clear HO177
      clear HO181
      clear HO184
      clear HO189
      clear HO192
      clear HO197
      clear HO200
      clear HO206
      clear HO209
      clear BK168
      clear BK169
      clear BK194
      clear BK202
      clear HB
      have HO174:=n0_
      have HO177:=n1_
      have HO181:=n2_
      have HO184:=n3_
      have HO189:=n4_
      have HO192:=n5_
      have HO197:=n6_
      have HO200:=n7_
      have HO206:=n8_
      have HO209:=n9_
      have BK168:=n10_
      have BK169:=n11_
      have BK194:=n12_
      have BK202:=n13_
      have HB:=n14_
      clear n0_ n1_ n2_ n3_ n4_ n5_ n6_ n7_ n8_ n9_ n10_ n11_ n12_ n13_ n14_
      refine start_ (n:=5) (S:=fun w' => w'.cell? ⟨gb202,0,none⟩ = some (.slice Ao136 t195.length co136) ∧ w'.cell? ⟨gb202,1,none⟩ = some (.slice Ao141 t198.length co141) ∧ w'.cell? ⟨gb202,2,none⟩ = some (.string t201) ∧ w'.cell? ⟨gb169,0,none⟩ = some (.slice A1_0 l1_0.length c1_0) ∧ w'.cell? ⟨gb169,1,none⟩ = some (.slice A1_1 l1_1.length c1_1) ∧ w'.cell? ⟨gb169,2,none⟩ = some (.string a1_2)) (ds:=[]) #[false,false,false,false,false] (by kernel_rfl) rfl rfl ⟨(bC BK202.out 0).trans rfl,(bC BK202.out 1).trans rfl,(bC BK202.out 2).trans rfl,(bC BK169.out 0).trans rfl,(bC BK169.out 1).trans rfl,(bC BK169.out 2).trans rfl⟩ (fun hHeld => ?_)
      generalize w148.drew = w149 at HO174 HO177 HO181 HO184 HO189 HO192 HO197 HO200 HO206 HO209 BK168 BK169 BK194 BK202 HB hHeld ⊢
      refine take_ (i:=0) (N:=some 40) (v:=?_) (a':=?_) #[true,false,false,false,false] rfl rfl (by kernel_rfl) (fun _ _ _ h => h) (Or.inl ⟨by rfl,?_⟩) hHeld ?_ ?_
      rotate_left
      ·rintro w' ⟨s0,s1,s2,s3,s4,s5⟩
       go_simp
       with_reducible rfl
      rotate_left
      ·simp only [Act.put,q_ia,q_cz,q_cs,i64_w,i32_w];rfl
      refine take_ (i:=1) (N:=some 41) (v:=?_) (a':=?_) #[true,true,false,false,false] rfl rfl (by kernel_rfl) (fun _ _ _ h => h) (Or.inl ⟨by rfl,?_⟩) hHeld ?_ ?_
      rotate_left
      ·rintro w' ⟨s0,s1,s2,s3,s4,s5⟩
       go_simp
       with_reducible rfl
      rotate_left
      ·simp only [Act.put,q_ia,q_cz,q_cs,i64_w,i32_w];rfl
      refine one_ (i:=2) (N:=some 42) #[true,true,true,false,false] rfl rfl (by kernel_rfl) (by decide) (fun K hK => ?_)
      refine goes_ Try.func36 (by kernel_rfl) rfl #[.agg #[.slice A1_0 l1_0.length c1_0,.slice A1_1 l1_1.length c1_1,.string a1_2]] (by rfl) rfl rfl (by (try simp only [List.map_toArray,List.map_cons,List.map_nil]);first|done|rfl|(simp only [List.length_drop,List.length_take];rfl)) ?_
      with_reducible refine (laws_toStore.calls k _ _ l1_0 _ _ l1_1 a1_2 t212 t215 t218 _ ?side1 ?side2 ?side3 ?side4 A63.out).mono ?_
      (case side1 => repeat (first|exact (cB HR1_0.out HB.out)|(with_reducible first|refine cA ?_ _|refine cN ?_ _|refine cD ?_)))
      (case side2 => exact HC1_0.out)
      (case side3 => repeat (first|exact (cB HR1_1.out HB.out)|(with_reducible first|refine cA ?_ _|refine cN ?_ _|refine cD ?_)))
      (case side4 => exact HC1_1.out)
      rintro e w150 ⟨v213,v216,rfl,ho0,ho1,hb⟩
      refine ⟨_,rfl,?_⟩
      have n0_:=aM (rE (by (with_reducible repeat (first|apply rA|apply rN|apply rD));exact HO174.out) (rS ho0) hb)
      have n1_:=aM (rE (by (with_reducible repeat (first|apply rA|apply rN|apply rD));exact HO177.out) (rS ho1) hb)
      have n2_:=aM (rE (by (with_reducible repeat (first|apply rA|apply rN|apply rD));exact HO181.out) (rS ho0) hb)
      have n3_:=aM (rE (by (with_reducible repeat (first|apply rA|apply rN|apply rD));exact HO184.out) (rS ho1) hb)
      have n4_:=aM (rE (by (with_reducible repeat (first|apply rA|apply rN|apply rD));exact HO189.out) (rS ho0) hb)
      have n5_:=aM (rE (by (with_reducible repeat (first|apply rA|apply rN|apply rD));exact HO192.out) (rS ho1) hb)
      have n6_:=aM (rE (by (with_reducible repeat (first|apply rA|apply rN|apply rD));exact HO197.out) (rS ho0) hb)
      have n7_:=aM (rE (by (with_reducible repeat (first|apply rA|apply rN|apply rD));exact HO200.out) (rS ho1) hb)
      have n8_:=aM (rE (by (with_reducible repeat (first|apply rA|apply rN|apply rD));exact HO206.out) (rS ho0) hb)
      have n9_:=aM (rE (by (with_reducible repeat (first|apply rA|apply rN|apply rD));exact HO209.out) (rS ho1) hb)
      have n10_:=aM (rL (rW (rW (rW (rW (rW ho0 (rT (by (with_reducible repeat (first|apply rA|apply rN|apply rD));exact HO174.out))) (rT (by (with_reducible repeat (first|apply rA|apply rN|apply rD));exact HO181.out))) (rT (by (with_reducible repeat (first|apply rA|apply rN|apply rD));exact HO189.out))) (rT (by (with_reducible repeat (first|apply rA|apply rN|apply rD));exact HO197.out))) (rT (by (with_reducible repeat (first|apply rA|apply rN|apply rD));exact HO206.out))) (lZ (by repeat (first|(with_reducible first|exact HB.out|apply lA|apply lN|apply lD|refine lS ?_ GE168.out|refine lS ?_ GE169.out|refine lS ?_ GE194.out|refine lS ?_ GE202.out)|exact HB.out))))
      have n11_:=aM (rL (rW (rW (rW (rW (rW ho1 (rT (by (with_reducible repeat (first|apply rA|apply rN|apply rD));exact HO177.out))) (rT (by (with_reducible repeat (first|apply rA|apply rN|apply rD));exact HO184.out))) (rT (by (with_reducible repeat (first|apply rA|apply rN|apply rD));exact HO192.out))) (rT (by (with_reducible repeat (first|apply rA|apply rN|apply rD));exact HO200.out))) (rT (by (with_reducible repeat (first|apply rA|apply rN|apply rD));exact HO209.out))) (lZ (by repeat (first|(with_reducible first|exact HB.out|apply lA|apply lN|apply lD|refine lS ?_ GE168.out|refine lS ?_ GE169.out|refine lS ?_ GE194.out|refine lS ?_ GE202.out)|exact HB.out))))
      have n12_:=aM (bB (g:=gb168) (o:=.cells #[.slice A0_0 l0_0.length c0_0,.slice A0_1 l0_1.length c0_1,.string a0_2] 48 (0,0)) (by (with_reducible repeat (first|refine bN ?_ _|refine bD ?_|refine bA ?_ _));exact BK168.out) hb)
      have n13_:=aM (bB (g:=gb169) (o:=.cells #[.slice A1_0 l1_0.length c1_0,.slice A1_1 l1_1.length c1_1,.string a1_2] 48 (0,0)) (by (with_reducible repeat (first|refine bN ?_ _|refine bD ?_|refine bA ?_ _));exact BK169.out) hb)
      have n14_:=aM (bB (g:=gb194) (o:=.cells #[.slice Ao128 t187.length co128,.slice Ao132 t190.length co132,.string t193] 54 (0,0)) (by (with_reducible repeat (first|refine bN ?_ _|refine bD ?_|refine bA ?_ _));exact BK194.out) hb)
      have n15_:=aM (bB (g:=gb202) (o:=.cells #[.slice Ao136 t195.length co136,.slice Ao141 t198.length co141,.string t201] 54 (0,0)) (by (with_reducible repeat (first|refine bN ?_ _|refine bD ?_|refine bA ?_ _));exact BK202.out) hb)
      have n16_:=aM (lP (by repeat (first|(with_reducible first|exact HB.out|apply lA|apply lN|apply lD|refine lS ?_ GE168.out|refine lS ?_ GE169.out|refine lS ?_ GE194.out|refine lS ?_ GE202.out)|exact HB.out)) hb)
      clear HO174
      clear HO177
      clear HO181
      clear HO184
      clear HO189
      clear HO192
      clear HO197
      clear HO200
      clear HO206
      clear HO209
      clear BK168
      clear BK169
      clear BK194
      clear BK202
      clear HB
      have HO174:=n0_
      have HO177:=n1_
      have HO181:=n2_
      have HO184:=n3_
      have HO189:=n4_
      have HO192:=n5_
      have HO197:=n6_
      have HO200:=n7_
      have HO206:=n8_
      have HO209:=n9_
      have HO214:=n10_
      have HO217:=n11_
      have BK168:=n12_
      have BK169:=n13_
      have BK194:=n14_
      have BK202:=n15_
      have HB:=n16_
      clear n0_ n1_ n2_ n3_ n4_ n5_ n6_ n7_ n8_ n9_ n10_ n11_ n12_ n13_ n14_ n15_ n16_
      (try clear hb)
      (try clear hb2)
      (try clear hk)
      (try clear hi)
      (try clear ho0)
      (try clear ho1)
      obtain ⟨Ao151,co151,eo151⟩:=Kd.R_slice HO214.out
      (first|subst eo151|(injection eo151 with f1_ f2_ f3_;have f4_:=f1_.symm;have f5_:=f3_.symm;clear f1_ f2_ f3_;subst f4_;subst f5_))
      obtain ⟨Ao152,co152,eo152⟩:=Kd.R_slice HO217.out
      (first|subst eo152|(injection eo152 with f1_ f2_ f3_;have f4_:=f1_.symm;have f5_:=f3_.symm;clear f1_ f2_ f3_;subst f4_;subst f5_))
      refine hK.out _ _ ⟨(bC BK202.out 0).trans rfl,(bC BK202.out 1).trans rfl,(bC BK202.out 2).trans rfl,(bC BK169.out 0).trans rfl,(bC BK169.out 1).trans rfl,(bC BK169.out 2).trans rfl⟩ (fun hHeld => ?_)
      clear hK K
      refine norm_ (a':=?_) ?_ ?_
      rotate_left
      ·show Act.put _ (some 42) _ = _
       simp only [Act.put,q_ia,q_cz,q_cs,i64_w,i32_w]
       rfl
      refine one_ (i:=3) (N:=some 43) #[true,true,true,true,false] rfl rfl (by kernel_rfl) (by decide) (fun K hK => ?_)
      refine goes_ Try.func38 (by kernel_rfl) rfl #[.agg #[.slice Ao136 t195.length co136,.slice Ao141 t198.length co141,.string t201],.agg #[.slice Ao151 t212.length co151,.slice Ao152 t215.length co152,.string t218]] (by rfl) rfl rfl (by (try simp only [List.map_toArray,List.map_cons,List.map_nil]);first|done|rfl|(simp only [List.length_drop,List.length_take];rfl)) ?_
      with_reducible refine (laws_eqStore.calls k _ _ t195 _ _ t198 t201 _ _ t212 _ _ t215 t218 false _ ?side1 ?side2 ?side3 ?side4 ?side5 ?side6 ?side7 ?side8 A64.out).mono ?_
      (case side1 => repeat (first|exact (rR HO197.out).2.2|(with_reducible first|refine cA ?_ _|refine cN ?_ _|refine cD ?_)))
      (case side2 => exact (rR HO197.out).2.1)
      (case side3 => repeat (first|exact (rR HO200.out).2.2|(with_reducible first|refine cA ?_ _|refine cN ?_ _|refine cD ?_)))
      (case side4 => exact (rR HO200.out).2.1)
      (case side5 => repeat (first|exact (rR HO214.out).2.2|(with_reducible first|refine cA ?_ _|refine cN ?_ _|refine cD ?_)))
      (case side6 => exact (rR HO214.out).2.1)
      (case side7 => repeat (first|exact (rR HO217.out).2.2|(with_reducible first|refine cA ?_ _|refine cN ?_ _|refine cD ?_)))
      (case side8 => exact (rR HO217.out).2.1)
      rintro e w153 ⟨rfl,hb⟩
      refine ⟨_,rfl,?_⟩
      have n0_:=aM (rB (by (with_reducible repeat (first|apply rA|apply rN|apply rD));exact HO174.out) hb)
      have n1_:=aM (rB (by (with_reducible repeat (first|apply rA|apply rN|apply rD));exact HO177.out) hb)
      have n2_:=aM (rB (by (with_reducible repeat (first|apply rA|apply rN|apply rD));exact HO181.out) hb)
      have n3_:=aM (rB (by (with_reducible repeat (first|apply rA|apply rN|apply rD));exact HO184.out) hb)
      have n4_:=aM (rB (by (with_reducible repeat (first|apply rA|apply rN|apply rD));exact HO189.out) hb)
      have n5_:=aM (rB (by (with_reducible repeat (first|apply rA|apply rN|apply rD));exact HO192.out) hb)
      have n6_:=aM (rB (by (with_reducible repeat (first|apply rA|apply rN|apply rD));exact HO197.out) hb)
      have n7_:=aM (rB (by (with_reducible repeat (first|apply rA|apply rN|apply rD));exact HO200.out) hb)
      have n8_:=aM (rB (by (with_reducible repeat (first|apply rA|apply rN|apply rD));exact HO206.out) hb)
      have n9_:=aM (rB (by (with_reducible repeat (first|apply rA|apply rN|apply rD));exact HO209.out) hb)
      have n10_:=aM (rB (by (with_reducible repeat (first|apply rA|apply rN|apply rD));exact HO214.out) hb)
      have n11_:=aM (rB (by (with_reducible repeat (first|apply rA|apply rN|apply rD));exact HO217.out) hb)
      have n12_:=aM (bB (g:=gb168) (o:=.cells #[.slice A0_0 l0_0.length c0_0,.slice A0_1 l0_1.length c0_1,.string a0_2] 48 (0,0)) (by (with_reducible repeat (first|refine bN ?_ _|refine bD ?_|refine bA ?_ _));exact BK168.out) hb)
      have n13_:=aM (bB (g:=gb169) (o:=.cells #[.slice A1_0 l1_0.length c1_0,.slice A1_1 l1_1.length c1_1,.string a1_2] 48 (0,0)) (by (with_reducible repeat (first|refine bN ?_ _|refine bD ?_|refine bA ?_ _));exact BK169.out) hb)
      have n14_:=aM (bB (g:=gb194) (o:=.cells #[.slice Ao128 t187.length co128,.slice Ao132 t190.length co132,.string t193] 54 (0,0)) (by (with_reducible repeat (first|refine bN ?_ _|refine bD ?_|refine bA ?_ _));exact BK194.out) hb)
      have n15_:=aM (bB (g:=gb202) (o:=.cells #[.slice Ao136 t195.length co136,.slice Ao141 t198.length co141,.string t201] 54 (0,0)) (by (with_reducible repeat (first|refine bN ?_ _|refine bD ?_|refine bA ?_ _));exact BK202.out) hb)
      have n16_:=aM (lP (by repeat (first|(with_reducible first|exact HB.out|apply lA|apply lN|apply lD|refine lS ?_ GE168.out|refine lS ?_ GE169.out|refine lS ?_ GE194.out|refine lS ?_ GE202.out)|exact HB.out)) hb)
      clear HO174
      clear HO177
      clear HO181
      clear HO184
      clear HO189
      clear HO192
      clear HO197
      clear HO200
      clear HO206
      clear HO209
      clear HO214
      clear HO217
      clear BK168
      clear BK169
      clear BK194
      clear BK202
      clear HB
      have HO174:=n0_
      have HO177:=n1_
      have HO181:=n2_
      have HO184:=n3_
      have HO189:=n4_
      have HO192:=n5_
      have HO197:=n6_
      have HO200:=n7_
      have HO206:=n8_
      have HO209:=n9_
      have HO214:=n10_
      have HO217:=n11_
      have BK168:=n12_
      have BK169:=n13_
      have BK194:=n14_
      have BK202:=n15_
      have HB:=n16_
      clear n0_ n1_ n2_ n3_ n4_ n5_ n6_ n7_ n8_ n9_ n10_ n11_ n12_ n13_ n14_ n15_ n16_
      (try clear hb)
      (try clear hb2)
      (try clear hk)
      (try clear hi)
      refine hK.out _ _ ⟨(bC BK202.out 0).trans rfl,(bC BK202.out 1).trans rfl,(bC BK202.out 2).trans rfl,(bC BK169.out 0).trans rfl,(bC BK169.out 1).trans rfl,(bC BK169.out 2).trans rfl⟩ (fun hHeld => ?_)
      clear hK K
      refine norm_ (a':=?_) ?_ ?_
      rotate_left
      ·show Act.put _ (some 43) _ = _
       simp only [Act.put,q_ia,q_cz,q_cs,i64_w,i32_w]
       rfl
      refine pure_ (i:=4) (N:=some 44) (v:=?_) (a':=?_) #[true,true,true,true,true] rfl rfl (by kernel_rfl) (fun _ _ _ h => h) (Or.inl ⟨by rfl,?_⟩) ?_ ?_
      rotate_left
      ·intro w';go_simp;with_reducible rfl
      rotate_left
      ·simp only [Act.put,q_ia,q_cz,q_cs,i64_w,i32_w];rfl
      refine done_ (by kernel_rfl) ?_
      try go_wp2
      go_ret
      exact ⟨by first|rfl|(simp [errW_none,errW_some] <;> rfl)|(simp [*,errW_none,errW_some] <;> rfl),by repeat (first|(with_reducible first|exact HB.out|apply lA|apply lN|apply lD|refine lS ?_ GE168.out|refine lS ?_ GE169.out|refine lS ?_ GE194.out|refine lS ?_ GE202.out)|exact HB.out)⟩
    ·replace c62:=Bool.eq_false_iff.mpr c62
     subst c62
     have H1 : (some false) = some r:=by rw [if_neg (show ¬ (false = true) by decide)] at H;exact H
     clear H
     have H:=H1
     clear H1
     obtain rfl:=Option.some.inj H
     go_enter Try.func11,Try.ntmps11
     try go_wp2_with (first|((with_reducible refine gate_dst (N:=2) rfl ?_);refine box_event ?hg (N:=2) ?hd (cs:=#[.slice A0_0 l0_0.length c0_0,.slice A0_1 l0_1.length c0_1,.string a0_2]) (t:=48) ?hr ?_;(case hd => rfl);(case hg => rfl);(case hr => first|(go_simp;done)|(go_simp;rfl));intro gb168 hg w154 hbox hb;have n0_:=aM (lP (by repeat (first|(with_reducible first|exact HB.out|apply lA|apply lN|apply lD)|exact HB.out)) hb);have n1_:=aM (hbox);have n2_:=aM ((by rw [hg];exact (lZ (by repeat (first|(with_reducible first|exact HB.out|apply lA|apply lN|apply lD)|exact HB.out))) : w.heap.size ≤ gb168));have n3_:=aM ((by rw [hg];exact (lZ (by repeat (first|(with_reducible first|exact HB.out|apply lA|apply lN|apply lD)|exact HB.out))) : w.heap.size ≤ gb168));clear HB;have HB:=n0_;have BK168:=n1_;have GW168:=n2_;have GE168:=n3_;clear n0_ n1_ n2_ n3_ hb hbox hg)|((with_reducible refine gate_dst (N:=3) rfl ?_);refine box_event ?hg (N:=3) ?hd (cs:=#[.slice A1_0 l1_0.length c1_0,.slice A1_1 l1_1.length c1_1,.string a1_2]) (t:=48) ?hr ?_;(case hd => rfl);(case hg => rfl);(case hr => first|(go_simp;done)|(go_simp;rfl));intro gb169 hg w155 hbox hb;have n0_:=aM (bB (g:=gb168) (o:=.cells #[.slice A0_0 l0_0.length c0_0,.slice A0_1 l0_1.length c0_1,.string a0_2] 48 (0,0)) (by (with_reducible repeat (first|refine bN ?_ _|refine bD ?_|refine bA ?_ _));exact BK168.out) hb);have n1_:=aM (lP (by repeat (first|(with_reducible first|exact HB.out|apply lA|apply lN|apply lD|refine lS ?_ GE168.out)|exact HB.out)) hb);have n2_:=aM (hbox);have n3_:=aM ((by rw [hg];exact (lZ (by repeat (first|(with_reducible first|exact HB.out|apply lA|apply lN|apply lD|refine lS ?_ GE168.out)|exact HB.out))) : w.heap.size ≤ gb169));have n4_:=aM ((by rw [hg];exact (lZ (by repeat (first|(with_reducible first|exact HB.out|apply lA|apply lN|apply lD|refine lS ?_ GE168.out)|exact HB.out))) : w.heap.size ≤ gb169));have n5_:=aM ((by rw [hg];exact Nat.ne_of_lt (bL (g:=gb168) (o:=.cells #[.slice A0_0 l0_0.length c0_0,.slice A0_1 l0_1.length c0_1,.string a0_2] 48 (0,0)) (by (with_reducible repeat (first|refine bN ?_ _|refine bD ?_|refine bA ?_ _));exact BK168.out)) : gb168 ≠ gb169));have n6_:=aM ((by rw [hg];exact Nat.ne_of_gt (bL (g:=gb168) (o:=.cells #[.slice A0_0 l0_0.length c0_0,.slice A0_1 l0_1.length c0_1,.string a0_2] 48 (0,0)) (by (with_reducible repeat (first|refine bN ?_ _|refine bD ?_|refine bA ?_ _));exact BK168.out)) : gb169 ≠ gb168));clear BK168 HB;have BK168:=n0_;have HB:=n1_;have BK169:=n2_;have GW169:=n3_;have GE169:=n4_;have NB168_169:=n5_;have NB169_168:=n6_;clear n0_ n1_ n2_ n3_ n4_ n5_ n6_ hb hbox hg;have hnb156:=NB168_169.out;have hnc156:=NB169_168.out;have hcz157_0 : w155.cell? ⟨gb168,0,none⟩ = some (.slice A0_0 l0_0.length c0_0):=(bC BK168.out 0).trans rfl;have hcz157_1 : w155.cell? ⟨gb168,1,none⟩ = some (.slice A0_1 l0_1.length c0_1):=(bC BK168.out 1).trans rfl;have hcz157_2 : w155.cell? ⟨gb168,2,none⟩ = some (.string a0_2):=(bC BK168.out 2).trans rfl;have hfz157_0:=bF BK168.out 0;have hfz157_1:=bF BK168.out 1;have hfz157_2:=bF BK168.out 2)|((with_reducible refine gate_callee (f:=34) rfl ?_);refine goesL_ (some 12) rfl rfl Try.func34 (by kernel_rfl) rfl #[.agg #[.slice A0_0 l0_0.length c0_0,.slice A0_1 l0_1.length c0_1,.string a0_2],.int .i64 1048576] rfl (by (try simp only [List.map_toArray,List.map_cons,List.map_nil]);first|done|rfl|(simp only [List.length_drop,List.length_take];rfl)) ?_;(with_reducible refine (laws_szStore.calls k _ _ l0_0 _ _ l0_1 a0_2 1048576 t170 _ ?side1 ?side2 ?side3 ?side4 A3.out).mono ?_);(case side1 => repeat (first|exact (cB HR0_0.out HB.out)|(with_reducible first|refine cA ?_ _|refine cN ?_ _|refine cD ?_)));(case side2 => exact HC0_0.out);(case side3 => repeat (first|exact (cB HR0_1.out HB.out)|(with_reducible first|refine cA ?_ _|refine cN ?_ _|refine cD ?_)));(case side4 => exact HC0_1.out);rintro e w158 ⟨rfl,hb⟩;refine ⟨_,rfl,?_⟩;have n0_:=aM (bB (g:=gb168) (o:=.cells #[.slice A0_0 l0_0.length c0_0,.slice A0_1 l0_1.length c0_1,.string a0_2] 48 (0,0)) (by (with_reducible repeat (first|refine bN ?_ _|refine bD ?_|refine bA ?_ _));exact BK168.out) hb);have n1_:=aM (bB (g:=gb169) (o:=.cells #[.slice A1_0 l1_0.length c1_0,.slice A1_1 l1_1.length c1_1,.string a1_2] 48 (0,0)) (by (with_reducible repeat (first|refine bN ?_ _|refine bD ?_|refine bA ?_ _));exact BK169.out) hb);have n2_:=aM (lP (by repeat (first|(with_reducible first|exact HB.out|apply lA|apply lN|apply lD|refine lS ?_ GE168.out|refine lS ?_ GE169.out)|exact HB.out)) hb);clear BK168 BK169 HB;have BK168:=n0_;have BK169:=n1_;have HB:=n2_;clear n0_ n1_ n2_;(try clear hb);(try clear hb2);(try clear hk);(try clear hi);have hcz159_0 : w158.cell? ⟨gb169,0,none⟩ = some (.slice A1_0 l1_0.length c1_0):=(bC BK169.out 0).trans rfl;have hcz159_1 : w158.cell? ⟨gb169,1,none⟩ = some (.slice A1_1 l1_1.length c1_1):=(bC BK169.out 1).trans rfl;have hcz159_2 : w158.cell? ⟨gb169,2,none⟩ = some (.string a1_2):=(bC BK169.out 2).trans rfl;have hfz159_0:=bF BK169.out 0;have hfz159_1:=bF BK169.out 1;have hfz159_2:=bF BK169.out 2)|((with_reducible refine gate_callee (f:=34) rfl ?_);refine goesL_ (some 17) rfl rfl Try.func34 (by kernel_rfl) rfl #[.agg #[.slice A1_0 l1_0.length c1_0,.slice A1_1 l1_1.length c1_1,.string a1_2],.int .i64 t170] rfl (by (try simp only [List.map_toArray,List.map_cons,List.map_nil]);first|done|rfl|(simp only [List.length_drop,List.length_take];rfl)) ?_;(with_reducible refine (laws_szStore.calls k _ _ l1_0 _ _ l1_1 a1_2 t170 t171 _ ?side1 ?side2 ?side3 ?side4 A10.out).mono ?_);(case side1 => repeat (first|exact (cB HR1_0.out HB.out)|(with_reducible first|refine cA ?_ _|refine cN ?_ _|refine cD ?_)));(case side2 => exact HC1_0.out);(case side3 => repeat (first|exact (cB HR1_1.out HB.out)|(with_reducible first|refine cA ?_ _|refine cN ?_ _|refine cD ?_)));(case side4 => exact HC1_1.out);rintro e w160 ⟨rfl,hb⟩;refine ⟨_,rfl,?_⟩;have n0_:=aM (bB (g:=gb168) (o:=.cells #[.slice A0_0 l0_0.length c0_0,.slice A0_1 l0_1.length c0_1,.string a0_2] 48 (0,0)) (by (with_reducible repeat (first|refine bN ?_ _|refine bD ?_|refine bA ?_ _));exact BK168.out) hb);have n1_:=aM (bB (g:=gb169) (o:=.cells #[.slice A1_0 l1_0.length c1_0,.slice A1_1 l1_1.length c1_1,.string a1_2] 48 (0,0)) (by (with_reducible repeat (first|refine bN ?_ _|refine bD ?_|refine bA ?_ _));exact BK169.out) hb);have n2_:=aM (lP (by repeat (first|(with_reducible first|exact HB.out|apply lA|apply lN|apply lD|refine lS ?_ GE168.out|refine lS ?_ GE169.out)|exact HB.out)) hb);clear BK168 BK169 HB;have BK168:=n0_;have BK169:=n1_;have HB:=n2_;clear n0_ n1_ n2_;(try clear hb);(try clear hb2);(try clear hk);(try clear hi)))
     have n0_:=aM (bD BK168.out)
     have n1_:=aM (bD BK169.out)
     have n2_:=aM (lD HB.out)
     clear BK168
     clear BK169
     clear HB
     have BK168:=n0_
     have BK169:=n1_
     have HB:=n2_
     clear n0_ n1_ n2_
     refine start_ (n:=6) (S:=fun w' => w'.cell? ⟨gb168,0,none⟩ = some (.slice A0_0 l0_0.length c0_0) ∧ w'.cell? ⟨gb168,1,none⟩ = some (.slice A0_1 l0_1.length c0_1) ∧ w'.cell? ⟨gb168,2,none⟩ = some (.string a0_2) ∧ w'.cell? ⟨gb169,0,none⟩ = some (.slice A1_0 l1_0.length c1_0) ∧ w'.cell? ⟨gb169,1,none⟩ = some (.slice A1_1 l1_1.length c1_1) ∧ w'.cell? ⟨gb169,2,none⟩ = some (.string a1_2)) (ds:=[]) #[false,false,false,false,false,false] (by kernel_rfl) rfl rfl ⟨(bC BK168.out 0).trans rfl,(bC BK168.out 1).trans rfl,(bC BK168.out 2).trans rfl,(bC BK169.out 0).trans rfl,(bC BK169.out 1).trans rfl,(bC BK169.out 2).trans rfl⟩ (fun hHeld => ?_)
     generalize w160.drew = w161 at BK168 BK169 HB hHeld ⊢
     refine take_ (i:=0) (N:=some 20) (v:=?_) (a':=?_) #[true,false,false,false,false,false] rfl rfl (by kernel_rfl) (fun _ _ _ h => h) (Or.inl ⟨by rfl,?_⟩) hHeld ?_ ?_
     rotate_left
     ·rintro w' ⟨s0,s1,s2,s3,s4,s5⟩
      go_simp
      with_reducible rfl
     rotate_left
     ·simp only [Act.put,q_ia,q_cz,q_cs,i64_w,i32_w];rfl
     refine take_ (i:=2) (N:=some 22) (v:=?_) (a':=?_) #[true,false,true,false,false,false] rfl rfl (by kernel_rfl) (fun _ _ _ h => h) (Or.inl ⟨by rfl,?_⟩) hHeld ?_ ?_
     rotate_left
     ·rintro w' ⟨s0,s1,s2,s3,s4,s5⟩
      go_simp
      with_reducible rfl
     rotate_left
     ·simp only [Act.put,q_ia,q_cz,q_cs,i64_w,i32_w];rfl
     refine one_ (i:=1) (N:=some 21) #[true,true,true,false,false,false] rfl rfl (by kernel_rfl) (by decide) (fun K hK => ?_)
     refine goes_ Try.func36 (by kernel_rfl) rfl #[.agg #[.slice A0_0 l0_0.length c0_0,.slice A0_1 l0_1.length c0_1,.string a0_2]] (by rfl) rfl rfl (by (try simp only [List.map_toArray,List.map_cons,List.map_nil]);first|done|rfl|(simp only [List.length_drop,List.length_take];rfl)) ?_
     with_reducible refine (laws_toStore.calls k _ _ l0_0 _ _ l0_1 a0_2 t172 t175 t178 _ ?side1 ?side2 ?side3 ?side4 A19.out).mono ?_
     (case side1 => repeat (first|exact (cB HR0_0.out HB.out)|(with_reducible first|refine cA ?_ _|refine cN ?_ _|refine cD ?_)))
     (case side2 => exact HC0_0.out)
     (case side3 => repeat (first|exact (cB HR0_1.out HB.out)|(with_reducible first|refine cA ?_ _|refine cN ?_ _|refine cD ?_)))
     (case side4 => exact HC0_1.out)
     rintro e w162 ⟨v173,v176,rfl,ho0,ho1,hb⟩
     refine ⟨_,rfl,?_⟩
     have n0_:=aM (rL ho0 (lZ (by repeat (first|(with_reducible first|exact HB.out|apply lA|apply lN|apply lD|refine lS ?_ GE168.out|refine lS ?_ GE169.out)|exact HB.out))))
     have n1_:=aM (rL ho1 (lZ (by repeat (first|(with_reducible first|exact HB.out|apply lA|apply lN|apply lD|refine lS ?_ GE168.out|refine lS ?_ GE169.out)|exact HB.out))))
     have n2_:=aM (bB (g:=gb168) (o:=.cells #[.slice A0_0 l0_0.length c0_0,.slice A0_1 l0_1.length c0_1,.string a0_2] 48 (0,0)) (by (with_reducible repeat (first|refine bN ?_ _|refine bD ?_|refine bA ?_ _));exact BK168.out) hb)
     have n3_:=aM (bB (g:=gb169) (o:=.cells #[.slice A1_0 l1_0.length c1_0,.slice A1_1 l1_1.length c1_1,.string a1_2] 48 (0,0)) (by (with_reducible repeat (first|refine bN ?_ _|refine bD ?_|refine bA ?_ _));exact BK169.out) hb)
     have n4_:=aM (lP (by repeat (first|(with_reducible first|exact HB.out|apply lA|apply lN|apply lD|refine lS ?_ GE168.out|refine lS ?_ GE169.out)|exact HB.out)) hb)
     clear BK168
     clear BK169
     clear HB
     have HO174:=n0_
     have HO177:=n1_
     have BK168:=n2_
     have BK169:=n3_
     have HB:=n4_
     clear n0_ n1_ n2_ n3_ n4_
     (try clear hb)
     (try clear hb2)
     (try clear hk)
     (try clear hi)
     (try clear ho0)
     (try clear ho1)
     refine hK.out _ _ ⟨(bC BK168.out 0).trans rfl,(bC BK168.out 1).trans rfl,(bC BK168.out 2).trans rfl,(bC BK169.out 0).trans rfl,(bC BK169.out 1).trans rfl,(bC BK169.out 2).trans rfl⟩ (fun hHeld => ?_)
     clear hK K
     refine norm_ (a':=?_) ?_ ?_
     rotate_left
     ·show Act.put _ (some 21) _ = _
      simp only [Act.put,q_ia,q_cz,q_cs,i64_w,i32_w]
      rfl
     refine one_ (i:=3) (N:=some 23) #[true,true,true,true,false,false] rfl rfl (by kernel_rfl) (by decide) (fun K hK => ?_)
     refine goes_ Try.func36 (by kernel_rfl) rfl #[.agg #[.slice A1_0 l1_0.length c1_0,.slice A1_1 l1_1.length c1_1,.string a1_2]] (by rfl) rfl rfl (by (try simp only [List.map_toArray,List.map_cons,List.map_nil]);first|done|rfl|(simp only [List.length_drop,List.length_take];rfl)) ?_
     with_reducible refine (laws_toStore.calls k _ _ l1_0 _ _ l1_1 a1_2 t179 t182 t185 _ ?side1 ?side2 ?side3 ?side4 A20.out).mono ?_
     (case side1 => repeat (first|exact (cB HR1_0.out HB.out)|(with_reducible first|refine cA ?_ _|refine cN ?_ _|refine cD ?_)))
     (case side2 => exact HC1_0.out)
     (case side3 => repeat (first|exact (cB HR1_1.out HB.out)|(with_reducible first|refine cA ?_ _|refine cN ?_ _|refine cD ?_)))
     (case side4 => exact HC1_1.out)
     rintro e w163 ⟨v180,v183,rfl,ho0,ho1,hb⟩
     refine ⟨_,rfl,?_⟩
     have n0_:=aM (rE (by (with_reducible repeat (first|apply rA|apply rN|apply rD));exact HO174.out) (rS ho0) hb)
     have n1_:=aM (rE (by (with_reducible repeat (first|apply rA|apply rN|apply rD));exact HO177.out) (rS ho1) hb)
     have n2_:=aM (rL (rW ho0 (rT (by (with_reducible repeat (first|apply rA|apply rN|apply rD));exact HO174.out))) (lZ (by repeat (first|(with_reducible first|exact HB.out|apply lA|apply lN|apply lD|refine lS ?_ GE168.out|refine lS ?_ GE169.out)|exact HB.out))))
     have n3_:=aM (rL (rW ho1 (rT (by (with_reducible repeat (first|apply rA|apply rN|apply rD));exact HO177.out))) (lZ (by repeat (first|(with_reducible first|exact HB.out|apply lA|apply lN|apply lD|refine lS ?_ GE168.out|refine lS ?_ GE169.out)|exact HB.out))))
     have n4_:=aM (bB (g:=gb168) (o:=.cells #[.slice A0_0 l0_0.length c0_0,.slice A0_1 l0_1.length c0_1,.string a0_2] 48 (0,0)) (by (with_reducible repeat (first|refine bN ?_ _|refine bD ?_|refine bA ?_ _));exact BK168.out) hb)
     have n5_:=aM (bB (g:=gb169) (o:=.cells #[.slice A1_0 l1_0.length c1_0,.slice A1_1 l1_1.length c1_1,.string a1_2] 48 (0,0)) (by (with_reducible repeat (first|refine bN ?_ _|refine bD ?_|refine bA ?_ _));exact BK169.out) hb)
     have n6_:=aM (lP (by repeat (first|(with_reducible first|exact HB.out|apply lA|apply lN|apply lD|refine lS ?_ GE168.out|refine lS ?_ GE169.out)|exact HB.out)) hb)
     clear HO174
     clear HO177
     clear BK168
     clear BK169
     clear HB
     have HO174:=n0_
     have HO177:=n1_
     have HO181:=n2_
     have HO184:=n3_
     have BK168:=n4_
     have BK169:=n5_
     have HB:=n6_
     clear n0_ n1_ n2_ n3_ n4_ n5_ n6_
     (try clear hb)
     (try clear hb2)
     (try clear hk)
     (try clear hi)
     (try clear ho0)
     (try clear ho1)
     obtain ⟨Ao164,co164,eo164⟩:=Kd.R_slice HO174.out
     (first|subst eo164|(injection eo164 with f1_ f2_ f3_;have f4_:=f1_.symm;have f5_:=f3_.symm;clear f1_ f2_ f3_;subst f4_;subst f5_))
     obtain ⟨Ao165,co165,eo165⟩:=Kd.R_slice HO177.out
     (first|subst eo165|(injection eo165 with f1_ f2_ f3_;have f4_:=f1_.symm;have f5_:=f3_.symm;clear f1_ f2_ f3_;subst f4_;subst f5_))
     obtain ⟨Ao166,co166,eo166⟩:=Kd.R_slice HO181.out
     (first|subst eo166|(injection eo166 with f1_ f2_ f3_;have f4_:=f1_.symm;have f5_:=f3_.symm;clear f1_ f2_ f3_;subst f4_;subst f5_))
     obtain ⟨Ao167,co167,eo167⟩:=Kd.R_slice HO184.out
     (first|subst eo167|(injection eo167 with f1_ f2_ f3_;have f4_:=f1_.symm;have f5_:=f3_.symm;clear f1_ f2_ f3_;subst f4_;subst f5_))
     refine hK.out _ _ ⟨(bC BK168.out 0).trans rfl,(bC BK168.out 1).trans rfl,(bC BK168.out 2).trans rfl,(bC BK169.out 0).trans rfl,(bC BK169.out 1).trans rfl,(bC BK169.out 2).trans rfl⟩ (fun hHeld => ?_)
     clear hK K
     refine norm_ (a':=?_) ?_ ?_
     rotate_left
     ·show Act.put _ (some 23) _ = _
      simp only [Act.put,q_ia,q_cz,q_cs,i64_w,i32_w]
      rfl
     refine one_ (i:=4) (N:=some 24) #[true,true,true,true,true,false] rfl rfl (by kernel_rfl) (by decide) (fun K hK => ?_)
     refine goes_ Try.func44 (by kernel_rfl) rfl #[.agg #[.slice Ao164 t172.length co164,.slice Ao165 t175.length co165,.string t178],.agg #[.slice Ao166 t179.length co166,.slice Ao167 t182.length co167,.string t185]] (by rfl) rfl rfl (by (try simp only [List.map_toArray,List.map_cons,List.map_nil]);first|done|rfl|(simp only [List.length_drop,List.length_take];rfl)) ?_
     with_reducible refine (spec_SameStore.calls k _ _ t172 _ _ t175 t178 _ _ t179 _ _ t182 t185 t186 _ ?side1 ?side2 ?side3 ?side4 ?side5 ?side6 ?side7 ?side8 A21.out).mono ?_
     (case side1 => repeat (first|exact (rR HO174.out).2.2|(with_reducible first|refine cA ?_ _|refine cN ?_ _|refine cD ?_)))
     (case side2 => exact (rR HO174.out).2.1)
     (case side3 => repeat (first|exact (rR HO177.out).2.2|(with_reducible first|refine cA ?_ _|refine cN ?_ _|refine cD ?_)))
     (case side4 => exact (rR HO177.out).2.1)
     (case side5 => repeat (first|exact (rR HO181.out).2.2|(with_reducible first|refine cA ?_ _|refine cN ?_ _|refine cD ?_)))
     (case side6 => exact (rR HO181.out).2.1)
     (case side7 => repeat (first|exact (rR HO184.out).2.2|(with_reducible first|refine cA ?_ _|refine cN ?_ _|refine cD ?_)))
     (case side8 => exact (rR HO184.out).2.1)
     rintro e w168 ⟨rfl,hb⟩
     refine ⟨_,rfl,?_⟩
     have n0_:=aM (rB (by (with_reducible repeat (first|apply rA|apply rN|apply rD));exact HO174.out) hb)
     have n1_:=aM (rB (by (with_reducible repeat (first|apply rA|apply rN|apply rD));exact HO177.out) hb)
     have n2_:=aM (rB (by (with_reducible repeat (first|apply rA|apply rN|apply rD));exact HO181.out) hb)
     have n3_:=aM (rB (by (with_reducible repeat (first|apply rA|apply rN|apply rD));exact HO184.out) hb)
     have n4_:=aM (bB (g:=gb168) (o:=.cells #[.slice A0_0 l0_0.length c0_0,.slice A0_1 l0_1.length c0_1,.string a0_2] 48 (0,0)) (by (with_reducible repeat (first|refine bN ?_ _|refine bD ?_|refine bA ?_ _));exact BK168.out) hb)
     have n5_:=aM (bB (g:=gb169) (o:=.cells #[.slice A1_0 l1_0.length c1_0,.slice A1_1 l1_1.length c1_1,.string a1_2] 48 (0,0)) (by (with_reducible repeat (first|refine bN ?_ _|refine bD ?_|refine bA ?_ _));exact BK169.out) hb)
     have n6_:=aM (lP (by repeat (first|(with_reducible first|exact HB.out|apply lA|apply lN|apply lD|refine lS ?_ GE168.out|refine lS ?_ GE169.out)|exact HB.out)) hb)
     clear HO174
     clear HO177
     clear HO181
     clear HO184
     clear BK168
     clear BK169
     clear HB
     have HO174:=n0_
     have HO177:=n1_
     have HO181:=n2_
     have HO184:=n3_
     have BK168:=n4_
     have BK169:=n5_
     have HB:=n6_
     clear n0_ n1_ n2_ n3_ n4_ n5_ n6_
     (try clear hb)
     (try clear hb2)
     (try clear hk)
     (try clear hi)
     refine hK.out _ _ ⟨(bC BK168.out 0).trans rfl,(bC BK168.out 1).trans rfl,(bC BK168.out 2).trans rfl,(bC BK169.out 0).trans rfl,(bC BK169.out 1).trans rfl,(bC BK169.out 2).trans rfl⟩ (fun hHeld => ?_)
     clear hK K
     refine norm_ (a':=?_) ?_ ?_
     rotate_left
     ·show Act.put _ (some 24) _ = _
      simp only [Act.put,q_ia,q_cz,q_cs,i64_w,i32_w]
      rfl
     refine pure_ (i:=5) (N:=some 6) (v:=?_) (a':=?_) #[true,true,true,true,true,true] rfl rfl (by kernel_rfl) (fun _ _ _ h => h) (Or.inl ⟨by rfl,?_⟩) ?_ ?_
     rotate_left
     ·intro w';go_simp;with_reducible rfl
     rotate_left
     ·simp only [Act.put,q_ia,q_cz,q_cs,i64_w,i32_w];rfl
     refine done_ (by kernel_rfl) ?_
     have hcz169_0 : w168.cell? ⟨gb168,0,none⟩ = some (.slice A0_0 l0_0.length c0_0):=(bC BK168.out 0).trans rfl
     have hcz169_1 : w168.cell? ⟨gb168,1,none⟩ = some (.slice A0_1 l0_1.length c0_1):=(bC BK168.out 1).trans rfl
     have hcz169_2 : w168.cell? ⟨gb168,2,none⟩ = some (.string a0_2):=(bC BK168.out 2).trans rfl
     have hfz169_0:=bF BK168.out 0
     have hfz169_1:=bF BK168.out 1
     have hfz169_2:=bF BK168.out 2
     try go_wp2_with (first|((with_reducible refine gate_callee (f:=36) rfl ?_);refine goesL_ (some 26) rfl rfl Try.func36 (by kernel_rfl) rfl #[.agg #[.slice A0_0 l0_0.length c0_0,.slice A0_1 l0_1.length c0_1,.string a0_2]] rfl (by (try simp only [List.map_toArray,List.map_cons,List.map_nil]);first|done|rfl|(simp only [List.length_drop,List.length_take];rfl)) ?_;(with_reducible refine (laws_toStore.calls k _ _ l0_0 _ _ l0_1 a0_2 t187 t190 t193 _ ?side1 ?side2 ?side3 ?side4 A22.out).mono ?_);(case side1 => repeat (first|exact (cB HR0_0.out HB.out)|(with_reducible first|refine cA ?_ _|refine cN ?_ _|refine cD ?_)));(case side2 => exact HC0_0.out);(case side3 => repeat (first|exact (cB HR0_1.out HB.out)|(with_reducible first|refine cA ?_ _|refine cN ?_ _|refine cD ?_)));(case side4 => exact HC0_1.out);rintro e w170 ⟨v188,v191,rfl,ho0,ho1,hb⟩;refine ⟨_,rfl,?_⟩;have n0_:=aM (rE (by (with_reducible repeat (first|apply rA|apply rN|apply rD));exact HO174.out) (rS ho0) hb);have n1_:=aM (rE (by (with_reducible repeat (first|apply rA|apply rN|apply rD));exact HO177.out) (rS ho1) hb);have n2_:=aM (rE (by (with_reducible repeat (first|apply rA|apply rN|apply rD));exact HO181.out) (rS ho0) hb);have n3_:=aM (rE (by (with_reducible repeat (first|apply rA|apply rN|apply rD));exact HO184.out) (rS ho1) hb);have n4_:=aM (rL (rW (rW ho0 (rT (by (with_reducible repeat (first|apply rA|apply rN|apply rD));exact HO174.out))) (rT (by (with_reducible repeat (first|apply rA|apply rN|apply rD));exact HO181.out))) (lZ (by repeat (first|(with_reducible first|exact HB.out|apply lA|apply lN|apply lD|refine lS ?_ GE168.out|refine lS ?_ GE169.out)|exact HB.out))));have n5_:=aM (rL (rW (rW ho1 (rT (by (with_reducible repeat (first|apply rA|apply rN|apply rD));exact HO177.out))) (rT (by (with_reducible repeat (first|apply rA|apply rN|apply rD));exact HO184.out))) (lZ (by repeat (first|(with_reducible first|exact HB.out|apply lA|apply lN|apply lD|refine lS ?_ GE168.out|refine lS ?_ GE169.out)|exact HB.out))));have n6_:=aM (bB (g:=gb168) (o:=.cells #[.slice A0_0 l0_0.length c0_0,.slice A0_1 l0_1.length c0_1,.string a0_2] 48 (0,0)) (by (with_reducible repeat (first|refine bN ?_ _|refine bD ?_|refine bA ?_ _));exact BK168.out) hb);have n7_:=aM (bB (g:=gb169) (o:=.cells #[.slice A1_0 l1_0.length c1_0,.slice A1_1 l1_1.length c1_1,.string a1_2] 48 (0,0)) (by (with_reducible repeat (first|refine bN ?_ _|refine bD ?_|refine bA ?_ _));exact BK169.out) hb);have n8_:=aM (lP (by repeat (first|(with_reducible first|exact HB.out|apply lA|apply lN|apply lD|refine lS ?_ GE168.out|refine lS ?_ GE169.out)|exact HB.out)) hb);clear HO174 HO177 HO181 HO184 BK168 BK169 HB;have HO174:=n0_;have HO177:=n1_;have HO181:=n2_;have HO184:=n3_;have HO189:=n4_;have HO192:=n5_;have BK168:=n6_;have BK169:=n7_;have HB:=n8_;clear n0_ n1_ n2_ n3_ n4_ n5_ n6_ n7_ n8_;(try clear hb);(try clear hb2);(try clear hk);(try clear hi);(try clear ho0);(try clear ho1))|((with_reducible refine gate_dst (N:=7) rfl ?_);refine box_event ?hg (N:=7) ?hd (cs:=#[.slice none 0 0,.slice none 0 0,.string (⟨#[]⟩ : ByteArray)]) (t:=54) ?hr ?_;(case hd => rfl);(case hg => rfl);(case hr => first|(go_simp;done)|(go_simp;rfl));intro gb194 hg w171 hbox hb;have n0_:=aM (rB (by (with_reducible repeat (first|apply rA|apply rN|apply rD));exact HO174.out) hb);have n1_:=aM (rB (by (with_reducible repeat (first|apply rA|apply rN|apply rD));exact HO177.out) hb);have n2_:=aM (rB (by (with_reducible repeat (first|apply rA|apply rN|apply rD));exact HO181.out) hb);have n3_:=aM (rB (by (with_reducible repeat (first|apply rA|apply rN|apply rD));exact HO184.out) hb);have n4_:=aM (rB (by (with_reducible repeat (first|apply rA|apply rN|apply rD));exact HO189.out) hb);have n5_:=aM (rB (by (with_reducible repeat (first|apply rA|apply rN|apply rD));exact HO192.out) hb);have n6_:=aM (bB (g:=gb168) (o:=.cells #[.slice A0_0 l0_0.length c0_0,.slice A0_1 l0_1.length c0_1,.string a0_2] 48 (0,0)) (by (with_reducible repeat (first|refine bN ?_ _|refine bD ?_|refine bA ?_ _));exact BK168.out) hb);have n7_:=aM (bB (g:=gb169) (o:=.cells #[.slice A1_0 l1_0.length c1_0,.slice A1_1 l1_1.length c1_1,.string a1_2] 48 (0,0)) (by (with_reducible repeat (first|refine bN ?_ _|refine bD ?_|refine bA ?_ _));exact BK169.out) hb);have n8_:=aM (lP (by repeat (first|(with_reducible first|exact HB.out|apply lA|apply lN|apply lD|refine lS ?_ GE168.out|refine lS ?_ GE169.out)|exact HB.out)) hb);have n9_:=aM (hbox);have n10_:=aM ((by rw [hg];exact (lZ (by repeat (first|(with_reducible first|exact HB.out|apply lA|apply lN|apply lD|refine lS ?_ GE168.out|refine lS ?_ GE169.out)|exact HB.out))) : w.heap.size ≤ gb194));have n11_:=aM ((by rw [hg];exact (lZ (by repeat (first|(with_reducible first|exact HB.out|apply lA|apply lN|apply lD|refine lS ?_ GE168.out|refine lS ?_ GE169.out)|exact HB.out))) : w.heap.size ≤ gb194));have n12_:=aM ((by rw [hg];exact Nat.ne_of_lt (bL (g:=gb168) (o:=.cells #[.slice A0_0 l0_0.length c0_0,.slice A0_1 l0_1.length c0_1,.string a0_2] 48 (0,0)) (by (with_reducible repeat (first|refine bN ?_ _|refine bD ?_|refine bA ?_ _));exact BK168.out)) : gb168 ≠ gb194));have n13_:=aM ((by rw [hg];exact Nat.ne_of_gt (bL (g:=gb168) (o:=.cells #[.slice A0_0 l0_0.length c0_0,.slice A0_1 l0_1.length c0_1,.string a0_2] 48 (0,0)) (by (with_reducible repeat (first|refine bN ?_ _|refine bD ?_|refine bA ?_ _));exact BK168.out)) : gb194 ≠ gb168));have n14_:=aM ((by rw [hg];exact Nat.ne_of_lt (bL (g:=gb169) (o:=.cells #[.slice A1_0 l1_0.length c1_0,.slice A1_1 l1_1.length c1_1,.string a1_2] 48 (0,0)) (by (with_reducible repeat (first|refine bN ?_ _|refine bD ?_|refine bA ?_ _));exact BK169.out)) : gb169 ≠ gb194));have n15_:=aM ((by rw [hg];exact Nat.ne_of_gt (bL (g:=gb169) (o:=.cells #[.slice A1_0 l1_0.length c1_0,.slice A1_1 l1_1.length c1_1,.string a1_2] 48 (0,0)) (by (with_reducible repeat (first|refine bN ?_ _|refine bD ?_|refine bA ?_ _));exact BK169.out)) : gb194 ≠ gb169));clear HO174 HO177 HO181 HO184 HO189 HO192 BK168 BK169 HB;have HO174:=n0_;have HO177:=n1_;have HO181:=n2_;have HO184:=n3_;have HO189:=n4_;have HO192:=n5_;have BK168:=n6_;have BK169:=n7_;have HB:=n8_;have BK194:=n9_;have GW194:=n10_;have GE194:=n11_;have NB168_194:=n12_;have NB194_168:=n13_;have NB169_194:=n14_;have NB194_169:=n15_;clear n0_ n1_ n2_ n3_ n4_ n5_ n6_ n7_ n8_ n9_ n10_ n11_ n12_ n13_ n14_ n15_ hb hbox hg;obtain ⟨Ao172,co172,eo172⟩:=Kd.R_slice HO189.out;subst eo172;have hnb173:=NB194_168.out;have hnc173:=NB168_194.out;have hnb174:=NB194_169.out;have hnc174:=NB169_194.out;have hcz175_0 : w171.cell? ⟨gb194,0,none⟩ = some (.slice none 0 0):=(bC BK194.out 0).trans rfl;have hcz175_1 : w171.cell? ⟨gb194,1,none⟩ = some (.slice none 0 0):=(bC BK194.out 1).trans rfl;have hcz175_2 : w171.cell? ⟨gb194,2,none⟩ = some (.string (⟨#[]⟩ : ByteArray)):=(bC BK194.out 2).trans rfl;have hfz175_0:=bF BK194.out 0;have hfz175_1:=bF BK194.out 1;have hfz175_2:=bF BK194.out 2;obtain ⟨Ao176,co176,eo176⟩:=Kd.R_slice HO192.out;subst eo176;have hcz177_0 : w171.cell? ⟨gb169,0,none⟩ = some (.slice A1_0 l1_0.length c1_0):=(bC BK169.out 0).trans rfl;have hcz177_1 : w171.cell? ⟨gb169,1,none⟩ = some (.slice A1_1 l1_1.length c1_1):=(bC BK169.out 1).trans rfl;have hcz177_2 : w171.cell? ⟨gb169,2,none⟩ = some (.string a1_2):=(bC BK169.out 2).trans rfl;have hfz177_0:=bF BK169.out 0;have hfz177_1:=bF BK169.out 1;have hfz177_2:=bF BK169.out 2)|((with_reducible refine gate_callee (f:=36) rfl ?_);refine goesL_ (some 28) rfl rfl Try.func36 (by kernel_rfl) rfl #[.agg #[.slice A1_0 l1_0.length c1_0,.slice A1_1 l1_1.length c1_1,.string a1_2]] rfl (by (try simp only [List.map_toArray,List.map_cons,List.map_nil]);first|done|rfl|(simp only [List.length_drop,List.length_take];rfl)) ?_;(with_reducible refine (laws_toStore.calls k _ _ l1_0 _ _ l1_1 a1_2 t195 t198 t201 _ ?side1 ?side2 ?side3 ?side4 A23.out).mono ?_);(case side1 => exact cB HR1_0.out (by repeat (first|(with_reducible first|exact HB.out|apply lA|apply lN|apply lD|refine lS ?_ GE168.out|refine lS ?_ GE169.out|refine lS ?_ GE194.out)|exact HB.out)));(case side2 => exact HC1_0.out);(case side3 => exact cB HR1_1.out (by repeat (first|(with_reducible first|exact HB.out|apply lA|apply lN|apply lD|refine lS ?_ GE168.out|refine lS ?_ GE169.out|refine lS ?_ GE194.out)|exact HB.out)));(case side4 => exact HC1_1.out);rintro e w178 ⟨v196,v199,rfl,ho0,ho1,hb⟩;refine ⟨_,rfl,?_⟩;have n0_:=aM (rE (by (with_reducible repeat (first|apply rA|apply rN|apply rD));exact (Kd.R_mono (rF (p:=⟨gb194,2,none⟩) (rF (p:=⟨gb194,1,none⟩) (rF (p:=⟨gb194,0,none⟩) (rY HO174.out BK194.out (by decide)) (fun _ hk => hk.2) (.slice Ao172 t187.length co172)) (fun _ hk => hk.2) (.slice Ao176 t190.length co176)) (fun _ hk => hk.2) (.string t193)) (fun _ h_ => h_.1))) (rS ho0) hb);have n1_:=aM (rE (by (with_reducible repeat (first|apply rA|apply rN|apply rD));exact (Kd.R_mono (rF (p:=⟨gb194,2,none⟩) (rF (p:=⟨gb194,1,none⟩) (rF (p:=⟨gb194,0,none⟩) (rY HO177.out BK194.out (by decide)) (fun _ hk => hk.2) (.slice Ao172 t187.length co172)) (fun _ hk => hk.2) (.slice Ao176 t190.length co176)) (fun _ hk => hk.2) (.string t193)) (fun _ h_ => h_.1))) (rS ho1) hb);have n2_:=aM (rE (by (with_reducible repeat (first|apply rA|apply rN|apply rD));exact (Kd.R_mono (rF (p:=⟨gb194,2,none⟩) (rF (p:=⟨gb194,1,none⟩) (rF (p:=⟨gb194,0,none⟩) (rY HO181.out BK194.out (by decide)) (fun _ hk => hk.2) (.slice Ao172 t187.length co172)) (fun _ hk => hk.2) (.slice Ao176 t190.length co176)) (fun _ hk => hk.2) (.string t193)) (fun _ h_ => h_.1))) (rS ho0) hb);have n3_:=aM (rE (by (with_reducible repeat (first|apply rA|apply rN|apply rD));exact (Kd.R_mono (rF (p:=⟨gb194,2,none⟩) (rF (p:=⟨gb194,1,none⟩) (rF (p:=⟨gb194,0,none⟩) (rY HO184.out BK194.out (by decide)) (fun _ hk => hk.2) (.slice Ao172 t187.length co172)) (fun _ hk => hk.2) (.slice Ao176 t190.length co176)) (fun _ hk => hk.2) (.string t193)) (fun _ h_ => h_.1))) (rS ho1) hb);have n4_:=aM (rE (by (with_reducible repeat (first|apply rA|apply rN|apply rD));exact (Kd.R_mono (rF (p:=⟨gb194,2,none⟩) (rF (p:=⟨gb194,1,none⟩) (rF (p:=⟨gb194,0,none⟩) (rY HO189.out BK194.out (by decide)) (fun _ hk => hk.2) (.slice Ao172 t187.length co172)) (fun _ hk => hk.2) (.slice Ao176 t190.length co176)) (fun _ hk => hk.2) (.string t193)) (fun _ h_ => h_.1))) (rS ho0) hb);have n5_:=aM (rE (by (with_reducible repeat (first|apply rA|apply rN|apply rD));exact (Kd.R_mono (rF (p:=⟨gb194,2,none⟩) (rF (p:=⟨gb194,1,none⟩) (rF (p:=⟨gb194,0,none⟩) (rY HO192.out BK194.out (by decide)) (fun _ hk => hk.2) (.slice Ao172 t187.length co172)) (fun _ hk => hk.2) (.slice Ao176 t190.length co176)) (fun _ hk => hk.2) (.string t193)) (fun _ h_ => h_.1))) (rS ho1) hb);have n6_:=aM (rL (rW (rW (rW ho0 (rT (by (with_reducible repeat (first|apply rA|apply rN|apply rD));exact (Kd.R_mono (rF (p:=⟨gb194,2,none⟩) (rF (p:=⟨gb194,1,none⟩) (rF (p:=⟨gb194,0,none⟩) (rY HO174.out BK194.out (by decide)) (fun _ hk => hk.2) (.slice Ao172 t187.length co172)) (fun _ hk => hk.2) (.slice Ao176 t190.length co176)) (fun _ hk => hk.2) (.string t193)) (fun _ h_ => h_.1))))) (rT (by (with_reducible repeat (first|apply rA|apply rN|apply rD));exact (Kd.R_mono (rF (p:=⟨gb194,2,none⟩) (rF (p:=⟨gb194,1,none⟩) (rF (p:=⟨gb194,0,none⟩) (rY HO181.out BK194.out (by decide)) (fun _ hk => hk.2) (.slice Ao172 t187.length co172)) (fun _ hk => hk.2) (.slice Ao176 t190.length co176)) (fun _ hk => hk.2) (.string t193)) (fun _ h_ => h_.1))))) (rT (by (with_reducible repeat (first|apply rA|apply rN|apply rD));exact (Kd.R_mono (rF (p:=⟨gb194,2,none⟩) (rF (p:=⟨gb194,1,none⟩) (rF (p:=⟨gb194,0,none⟩) (rY HO189.out BK194.out (by decide)) (fun _ hk => hk.2) (.slice Ao172 t187.length co172)) (fun _ hk => hk.2) (.slice Ao176 t190.length co176)) (fun _ hk => hk.2) (.string t193)) (fun _ h_ => h_.1))))) (lZ (by repeat (first|(with_reducible first|exact HB.out|apply lA|apply lN|apply lD|refine lS ?_ GE168.out|refine lS ?_ GE169.out|refine lS ?_ GE194.out)|exact HB.out))));have n7_:=aM (rL (rW (rW (rW ho1 (rT (by (with_reducible repeat (first|apply rA|apply rN|apply rD));exact (Kd.R_mono (rF (p:=⟨gb194,2,none⟩) (rF (p:=⟨gb194,1,none⟩) (rF (p:=⟨gb194,0,none⟩) (rY HO177.out BK194.out (by decide)) (fun _ hk => hk.2) (.slice Ao172 t187.length co172)) (fun _ hk => hk.2) (.slice Ao176 t190.length co176)) (fun _ hk => hk.2) (.string t193)) (fun _ h_ => h_.1))))) (rT (by (with_reducible repeat (first|apply rA|apply rN|apply rD));exact (Kd.R_mono (rF (p:=⟨gb194,2,none⟩) (rF (p:=⟨gb194,1,none⟩) (rF (p:=⟨gb194,0,none⟩) (rY HO184.out BK194.out (by decide)) (fun _ hk => hk.2) (.slice Ao172 t187.length co172)) (fun _ hk => hk.2) (.slice Ao176 t190.length co176)) (fun _ hk => hk.2) (.string t193)) (fun _ h_ => h_.1))))) (rT (by (with_reducible repeat (first|apply rA|apply rN|apply rD));exact (Kd.R_mono (rF (p:=⟨gb194,2,none⟩) (rF (p:=⟨gb194,1,none⟩) (rF (p:=⟨gb194,0,none⟩) (rY HO192.out BK194.out (by decide)) (fun _ hk => hk.2) (.slice Ao172 t187.length co172)) (fun _ hk => hk.2) (.slice Ao176 t190.length co176)) (fun _ hk => hk.2) (.string t193)) (fun _ h_ => h_.1))))) (lZ (by repeat (first|(with_reducible first|exact HB.out|apply lA|apply lN|apply lD|refine lS ?_ GE168.out|refine lS ?_ GE169.out|refine lS ?_ GE194.out)|exact HB.out))));have n8_:=aM (bB (g:=gb168) (o:=.cells #[.slice A0_0 l0_0.length c0_0,.slice A0_1 l0_1.length c0_1,.string a0_2] 48 (0,0)) (by (with_reducible repeat (first|refine bN ?_ _|refine bD ?_|refine bA ?_ _));refine blk_far ?_ NB168_194.out _;(with_reducible repeat (first|refine bN ?_ _|refine bD ?_|refine bA ?_ _));refine blk_far ?_ NB168_194.out _;(with_reducible repeat (first|refine bN ?_ _|refine bD ?_|refine bA ?_ _));refine blk_far ?_ NB168_194.out _;(with_reducible repeat (first|refine bN ?_ _|refine bD ?_|refine bA ?_ _));exact BK168.out) hb);have n9_:=aM (bB (g:=gb169) (o:=.cells #[.slice A1_0 l1_0.length c1_0,.slice A1_1 l1_1.length c1_1,.string a1_2] 48 (0,0)) (by (with_reducible repeat (first|refine bN ?_ _|refine bD ?_|refine bA ?_ _));refine blk_far ?_ NB169_194.out _;(with_reducible repeat (first|refine bN ?_ _|refine bD ?_|refine bA ?_ _));refine blk_far ?_ NB169_194.out _;(with_reducible repeat (first|refine bN ?_ _|refine bD ?_|refine bA ?_ _));refine blk_far ?_ NB169_194.out _;(with_reducible repeat (first|refine bN ?_ _|refine bD ?_|refine bA ?_ _));exact BK169.out) hb);have n10_:=aM (bB (g:=gb194) (o:=.cells #[.slice Ao172 t187.length co172,.slice Ao176 t190.length co176,.string t193] 54 (0,0)) (by (with_reducible repeat (first|refine bN ?_ _|refine bD ?_|refine bA ?_ _));refine blk_put (cs:=#[.slice Ao172 t187.length co172,.slice Ao176 t190.length co176,.string (⟨#[]⟩ : ByteArray)]) ?_ 2 _ rfl;(with_reducible repeat (first|refine bN ?_ _|refine bD ?_|refine bA ?_ _));refine blk_put (cs:=#[.slice Ao172 t187.length co172,.slice none 0 0,.string (⟨#[]⟩ : ByteArray)]) ?_ 1 _ rfl;(with_reducible repeat (first|refine bN ?_ _|refine bD ?_|refine bA ?_ _));refine blk_put (cs:=#[.slice none 0 0,.slice none 0 0,.string (⟨#[]⟩ : ByteArray)]) ?_ 0 _ rfl;(with_reducible repeat (first|refine bN ?_ _|refine bD ?_|refine bA ?_ _));exact BK194.out) hb);have n11_:=aM (lP (by repeat (first|(with_reducible first|exact HB.out|apply lA|apply lN|apply lD|refine lS ?_ GE168.out|refine lS ?_ GE169.out|refine lS ?_ GE194.out)|exact HB.out)) hb);clear HO174 HO177 HO181 HO184 HO189 HO192 BK168 BK169 BK194 HB;have HO174:=n0_;have HO177:=n1_;have HO181:=n2_;have HO184:=n3_;have HO189:=n4_;have HO192:=n5_;have HO197:=n6_;have HO200:=n7_;have BK168:=n8_;have BK169:=n9_;have BK194:=n10_;have HB:=n11_;clear n0_ n1_ n2_ n3_ n4_ n5_ n6_ n7_ n8_ n9_ n10_ n11_;(try clear hb);(try clear hb2);(try clear hk);(try clear hi);(try clear ho0);(try clear ho1))|((with_reducible refine gate_dst (N:=8) rfl ?_);refine box_event ?hg (N:=8) ?hd (cs:=#[.slice none 0 0,.slice none 0 0,.string (⟨#[]⟩ : ByteArray)]) (t:=54) ?hr ?_;(case hd => rfl);(case hg => rfl);(case hr => first|(go_simp;done)|(go_simp;rfl));intro gb202 hg w179 hbox hb;have n0_:=aM (rB (by (with_reducible repeat (first|apply rA|apply rN|apply rD));exact HO174.out) hb);have n1_:=aM (rB (by (with_reducible repeat (first|apply rA|apply rN|apply rD));exact HO177.out) hb);have n2_:=aM (rB (by (with_reducible repeat (first|apply rA|apply rN|apply rD));exact HO181.out) hb);have n3_:=aM (rB (by (with_reducible repeat (first|apply rA|apply rN|apply rD));exact HO184.out) hb);have n4_:=aM (rB (by (with_reducible repeat (first|apply rA|apply rN|apply rD));exact HO189.out) hb);have n5_:=aM (rB (by (with_reducible repeat (first|apply rA|apply rN|apply rD));exact HO192.out) hb);have n6_:=aM (rB (by (with_reducible repeat (first|apply rA|apply rN|apply rD));exact HO197.out) hb);have n7_:=aM (rB (by (with_reducible repeat (first|apply rA|apply rN|apply rD));exact HO200.out) hb);have n8_:=aM (bB (g:=gb168) (o:=.cells #[.slice A0_0 l0_0.length c0_0,.slice A0_1 l0_1.length c0_1,.string a0_2] 48 (0,0)) (by (with_reducible repeat (first|refine bN ?_ _|refine bD ?_|refine bA ?_ _));exact BK168.out) hb);have n9_:=aM (bB (g:=gb169) (o:=.cells #[.slice A1_0 l1_0.length c1_0,.slice A1_1 l1_1.length c1_1,.string a1_2] 48 (0,0)) (by (with_reducible repeat (first|refine bN ?_ _|refine bD ?_|refine bA ?_ _));exact BK169.out) hb);have n10_:=aM (bB (g:=gb194) (o:=.cells #[.slice Ao172 t187.length co172,.slice Ao176 t190.length co176,.string t193] 54 (0,0)) (by (with_reducible repeat (first|refine bN ?_ _|refine bD ?_|refine bA ?_ _));exact BK194.out) hb);have n11_:=aM (lP (by repeat (first|(with_reducible first|exact HB.out|apply lA|apply lN|apply lD|refine lS ?_ GE168.out|refine lS ?_ GE169.out|refine lS ?_ GE194.out)|exact HB.out)) hb);have n12_:=aM (hbox);have n13_:=aM ((by rw [hg];exact (lZ (by repeat (first|(with_reducible first|exact HB.out|apply lA|apply lN|apply lD|refine lS ?_ GE168.out|refine lS ?_ GE169.out|refine lS ?_ GE194.out)|exact HB.out))) : w.heap.size ≤ gb202));have n14_:=aM ((by rw [hg];exact (lZ (by repeat (first|(with_reducible first|exact HB.out|apply lA|apply lN|apply lD|refine lS ?_ GE168.out|refine lS ?_ GE169.out|refine lS ?_ GE194.out)|exact HB.out))) : w.heap.size ≤ gb202));have n15_:=aM ((by rw [hg];exact Nat.ne_of_lt (bL (g:=gb168) (o:=.cells #[.slice A0_0 l0_0.length c0_0,.slice A0_1 l0_1.length c0_1,.string a0_2] 48 (0,0)) (by (with_reducible repeat (first|refine bN ?_ _|refine bD ?_|refine bA ?_ _));exact BK168.out)) : gb168 ≠ gb202));have n16_:=aM ((by rw [hg];exact Nat.ne_of_gt (bL (g:=gb168) (o:=.cells #[.slice A0_0 l0_0.length c0_0,.slice A0_1 l0_1.length c0_1,.string a0_2] 48 (0,0)) (by (with_reducible repeat (first|refine bN ?_ _|refine bD ?_|refine bA ?_ _));exact BK168.out)) : gb202 ≠ gb168));have n17_:=aM ((by rw [hg];exact Nat.ne_of_lt (bL (g:=gb169) (o:=.cells #[.slice A1_0 l1_0.length c1_0,.slice A1_1 l1_1.length c1_1,.string a1_2] 48 (0,0)) (by (with_reducible repeat (first|refine bN ?_ _|refine bD ?_|refine bA ?_ _));exact BK169.out)) : gb169 ≠ gb202));have n18_:=aM ((by rw [hg];exact Nat.ne_of_gt (bL (g:=gb169) (o:=.cells #[.slice A1_0 l1_0.length c1_0,.slice A1_1 l1_1.length c1_1,.string a1_2] 48 (0,0)) (by (with_reducible repeat (first|refine bN ?_ _|refine bD ?_|refine bA ?_ _));exact BK169.out)) : gb202 ≠ gb169));have n19_:=aM ((by rw [hg];exact Nat.ne_of_lt (bL (g:=gb194) (o:=.cells #[.slice Ao172 t187.length co172,.slice Ao176 t190.length co176,.string t193] 54 (0,0)) (by (with_reducible repeat (first|refine bN ?_ _|refine bD ?_|refine bA ?_ _));exact BK194.out)) : gb194 ≠ gb202));have n20_:=aM ((by rw [hg];exact Nat.ne_of_gt (bL (g:=gb194) (o:=.cells #[.slice Ao172 t187.length co172,.slice Ao176 t190.length co176,.string t193] 54 (0,0)) (by (with_reducible repeat (first|refine bN ?_ _|refine bD ?_|refine bA ?_ _));exact BK194.out)) : gb202 ≠ gb194));clear HO174 HO177 HO181 HO184 HO189 HO192 HO197 HO200 BK168 BK169 BK194 HB;have HO174:=n0_;have HO177:=n1_;have HO181:=n2_;have HO184:=n3_;have HO189:=n4_;have HO192:=n5_;have HO197:=n6_;have HO200:=n7_;have BK168:=n8_;have BK169:=n9_;have BK194:=n10_;have HB:=n11_;have BK202:=n12_;have GW202:=n13_;have GE202:=n14_;have NB168_202:=n15_;have NB202_168:=n16_;have NB169_202:=n17_;have NB202_169:=n18_;have NB194_202:=n19_;have NB202_194:=n20_;clear n0_ n1_ n2_ n3_ n4_ n5_ n6_ n7_ n8_ n9_ n10_ n11_ n12_ n13_ n14_ n15_ n16_ n17_ n18_ n19_ n20_ hb hbox hg;obtain ⟨Ao180,co180,eo180⟩:=Kd.R_slice HO197.out;subst eo180;have hnb181:=NB202_168.out;have hnc181:=NB168_202.out;have hnb182:=NB202_169.out;have hnc182:=NB169_202.out;have hnb183:=NB202_194.out;have hnc183:=NB194_202.out;have hcz184_0 : w179.cell? ⟨gb202,0,none⟩ = some (.slice none 0 0):=(bC BK202.out 0).trans rfl;have hcz184_1 : w179.cell? ⟨gb202,1,none⟩ = some (.slice none 0 0):=(bC BK202.out 1).trans rfl;have hcz184_2 : w179.cell? ⟨gb202,2,none⟩ = some (.string (⟨#[]⟩ : ByteArray)):=(bC BK202.out 2).trans rfl;have hfz184_0:=bF BK202.out 0;have hfz184_1:=bF BK202.out 1;have hfz184_2:=bF BK202.out 2;obtain ⟨Ao185,co185,eo185⟩:=Kd.R_slice HO200.out;subst eo185;have hcz186_0 : w179.cell? ⟨gb194,0,none⟩ = some (.slice Ao172 t187.length co172):=(bC BK194.out 0).trans rfl;have hcz186_1 : w179.cell? ⟨gb194,1,none⟩ = some (.slice Ao176 t190.length co176):=(bC BK194.out 1).trans rfl;have hcz186_2 : w179.cell? ⟨gb194,2,none⟩ = some (.string t193):=(bC BK194.out 2).trans rfl;have hfz186_0:=bF BK194.out 0;have hfz186_1:=bF BK194.out 1;have hfz186_2:=bF BK194.out 2)|((with_reducible refine gate_callee (f:=45) rfl ?_);refine goesL_ (some 31) rfl rfl Try.func45 (by kernel_rfl) rfl #[.agg #[.slice Ao172 t187.length co172,.slice Ao176 t190.length co176,.string t193],.agg #[.slice Ao180 t195.length co180,.slice Ao185 t198.length co185,.string t201]] rfl (by (try simp only [List.map_toArray,List.map_cons,List.map_nil]);first|done|rfl|(simp only [List.length_drop,List.length_take];rfl)) ?_;(with_reducible refine (impl_SameStore.calls k _ _ t187 _ _ t190 t193 _ _ t195 _ _ t198 t201 t203 _ ?side1 ?side2 ?side3 ?side4 ?side5 ?side6 ?side7 ?side8 A24.out).mono ?_);(case side1 => refine (rR (e:=105) (base:=w.heap.size) (ok:=fun k_ => (((True ∧ some k_ ≠ (.slice Ao164 t172.length co164 : Value).ownBlock) ∧ some k_ ≠ (.slice Ao166 t179.length co166 : Value).ownBlock) ∧ some k_ ≠ (.slice Ao180 t195.length co180 : Value).ownBlock)) (n:=t187.length) (c:=co172) ?_).2.2;exact (by (with_reducible repeat (first|apply rA|apply rN|apply rD));exact (Kd.R_mono (rF (p:=⟨gb202,2,none⟩) (rF (p:=⟨gb202,1,none⟩) (rF (p:=⟨gb202,0,none⟩) (rY HO189.out BK202.out (by decide)) (fun _ hk => hk.2) (.slice Ao180 t195.length co180)) (fun _ hk => hk.2) (.slice Ao185 t198.length co185)) (fun _ hk => hk.2) (.string t201)) (fun _ h_ => h_.1))));(case side2 => exact (rR HO189.out).2.1);(case side3 => refine (rR (e:=61) (base:=w.heap.size) (ok:=fun k_ => (((True ∧ some k_ ≠ (.slice Ao165 t175.length co165 : Value).ownBlock) ∧ some k_ ≠ (.slice Ao167 t182.length co167 : Value).ownBlock) ∧ some k_ ≠ (.slice Ao185 t198.length co185 : Value).ownBlock)) (n:=t190.length) (c:=co176) ?_).2.2;exact (by (with_reducible repeat (first|apply rA|apply rN|apply rD));exact (Kd.R_mono (rF (p:=⟨gb202,2,none⟩) (rF (p:=⟨gb202,1,none⟩) (rF (p:=⟨gb202,0,none⟩) (rY HO192.out BK202.out (by decide)) (fun _ hk => hk.2) (.slice Ao180 t195.length co180)) (fun _ hk => hk.2) (.slice Ao185 t198.length co185)) (fun _ hk => hk.2) (.string t201)) (fun _ h_ => h_.1))));(case side4 => exact (rR HO192.out).2.1);(case side5 => refine (rR (e:=105) (base:=w.heap.size) (ok:=fun k_ => (((True ∧ some k_ ≠ (.slice Ao164 t172.length co164 : Value).ownBlock) ∧ some k_ ≠ (.slice Ao166 t179.length co166 : Value).ownBlock) ∧ some k_ ≠ (.slice Ao172 t187.length co172 : Value).ownBlock)) (n:=t195.length) (c:=co180) ?_).2.2;exact (by (with_reducible repeat (first|apply rA|apply rN|apply rD));exact (Kd.R_mono (rF (p:=⟨gb202,2,none⟩) (rF (p:=⟨gb202,1,none⟩) (rF (p:=⟨gb202,0,none⟩) (rY HO197.out BK202.out (by decide)) (fun _ hk => hk.2) (.slice Ao180 t195.length co180)) (fun _ hk => hk.2) (.slice Ao185 t198.length co185)) (fun _ hk => hk.2) (.string t201)) (fun _ h_ => h_.1))));(case side6 => exact (rR HO197.out).2.1);(case side7 => refine (rR (e:=61) (base:=w.heap.size) (ok:=fun k_ => (((True ∧ some k_ ≠ (.slice Ao165 t175.length co165 : Value).ownBlock) ∧ some k_ ≠ (.slice Ao167 t182.length co167 : Value).ownBlock) ∧ some k_ ≠ (.slice Ao176 t190.length co176 : Value).ownBlock)) (n:=t198.length) (c:=co185) ?_).2.2;exact (by (with_reducible repeat (first|apply rA|apply rN|apply rD));exact (Kd.R_mono (rF (p:=⟨gb202,2,none⟩) (rF (p:=⟨gb202,1,none⟩) (rF (p:=⟨gb202,0,none⟩) (rY HO200.out BK202.out (by decide)) (fun _ hk => hk.2) (.slice Ao180 t195.length co180)) (fun _ hk => hk.2) (.slice Ao185 t198.length co185)) (fun _ hk => hk.2) (.string t201)) (fun _ h_ => h_.1))));(case side8 => exact (rR HO200.out).2.1);rintro e w187 ⟨rfl,hb⟩;refine ⟨_,rfl,?_⟩;have n0_:=aM (rB (by (with_reducible repeat (first|apply rA|apply rN|apply rD));exact (Kd.R_mono (rF (p:=⟨gb202,2,none⟩) (rF (p:=⟨gb202,1,none⟩) (rF (p:=⟨gb202,0,none⟩) (rY HO174.out BK202.out (by decide)) (fun _ hk => hk.2) (.slice Ao180 t195.length co180)) (fun _ hk => hk.2) (.slice Ao185 t198.length co185)) (fun _ hk => hk.2) (.string t201)) (fun _ h_ => h_.1))) hb);have n1_:=aM (rB (by (with_reducible repeat (first|apply rA|apply rN|apply rD));exact (Kd.R_mono (rF (p:=⟨gb202,2,none⟩) (rF (p:=⟨gb202,1,none⟩) (rF (p:=⟨gb202,0,none⟩) (rY HO177.out BK202.out (by decide)) (fun _ hk => hk.2) (.slice Ao180 t195.length co180)) (fun _ hk => hk.2) (.slice Ao185 t198.length co185)) (fun _ hk => hk.2) (.string t201)) (fun _ h_ => h_.1))) hb);have n2_:=aM (rB (by (with_reducible repeat (first|apply rA|apply rN|apply rD));exact (Kd.R_mono (rF (p:=⟨gb202,2,none⟩) (rF (p:=⟨gb202,1,none⟩) (rF (p:=⟨gb202,0,none⟩) (rY HO181.out BK202.out (by decide)) (fun _ hk => hk.2) (.slice Ao180 t195.length co180)) (fun _ hk => hk.2) (.slice Ao185 t198.length co185)) (fun _ hk => hk.2) (.string t201)) (fun _ h_ => h_.1))) hb);have n3_:=aM (rB (by (with_reducible repeat (first|apply rA|apply rN|apply rD));exact (Kd.R_mono (rF (p:=⟨gb202,2,none⟩) (rF (p:=⟨gb202,1,none⟩) (rF (p:=⟨gb202,0,none⟩) (rY HO184.out BK202.out (by decide)) (fun _ hk => hk.2) (.slice Ao180 t195.length co180)) (fun _ hk => hk.2) (.slice Ao185 t198.length co185)) (fun _ hk => hk.2) (.string t201)) (fun _ h_ => h_.1))) hb);have n4_:=aM (rB (by (with_reducible repeat (first|apply rA|apply rN|apply rD));exact (Kd.R_mono (rF (p:=⟨gb202,2,none⟩) (rF (p:=⟨gb202,1,none⟩) (rF (p:=⟨gb202,0,none⟩) (rY HO189.out BK202.out (by decide)) (fun _ hk => hk.2) (.slice Ao180 t195.length co180)) (fun _ hk => hk.2) (.slice Ao185 t198.length co185)) (fun _ hk => hk.2) (.string t201)) (fun _ h_ => h_.1))) hb);have n5_:=aM (rB (by (with_reducible repeat (first|apply rA|apply rN|apply rD));exact (Kd.R_mono (rF (p:=⟨gb202,2,none⟩) (rF (p:=⟨gb202,1,none⟩) (rF (p:=⟨gb202,0,none⟩) (rY HO192.out BK202.out (by decide)) (fun _ hk => hk.2) (.slice Ao180 t195.length co180)) (fun _ hk => hk.2) (.slice Ao185 t198.length co185)) (fun _ hk => hk.2) (.string t201)) (fun _ h_ => h_.1))) hb);have n6_:=aM (rB (by (with_reducible repeat (first|apply rA|apply rN|apply rD));exact (Kd.R_mono (rF (p:=⟨gb202,2,none⟩) (rF (p:=⟨gb202,1,none⟩) (rF (p:=⟨gb202,0,none⟩) (rY HO197.out BK202.out (by decide)) (fun _ hk => hk.2) (.slice Ao180 t195.length co180)) (fun _ hk => hk.2) (.slice Ao185 t198.length co185)) (fun _ hk => hk.2) (.string t201)) (fun _ h_ => h_.1))) hb);have n7_:=aM (rB (by (with_reducible repeat (first|apply rA|apply rN|apply rD));exact (Kd.R_mono (rF (p:=⟨gb202,2,none⟩) (rF (p:=⟨gb202,1,none⟩) (rF (p:=⟨gb202,0,none⟩) (rY HO200.out BK202.out (by decide)) (fun _ hk => hk.2) (.slice Ao180 t195.length co180)) (fun _ hk => hk.2) (.slice Ao185 t198.length co185)) (fun _ hk => hk.2) (.string t201)) (fun _ h_ => h_.1))) hb);have n8_:=aM (bB (g:=gb168) (o:=.cells #[.slice A0_0 l0_0.length c0_0,.slice A0_1 l0_1.length c0_1,.string a0_2] 48 (0,0)) (by (with_reducible repeat (first|refine bN ?_ _|refine bD ?_|refine bA ?_ _));refine blk_far ?_ NB168_202.out _;(with_reducible repeat (first|refine bN ?_ _|refine bD ?_|refine bA ?_ _));refine blk_far ?_ NB168_202.out _;(with_reducible repeat (first|refine bN ?_ _|refine bD ?_|refine bA ?_ _));refine blk_far ?_ NB168_202.out _;(with_reducible repeat (first|refine bN ?_ _|refine bD ?_|refine bA ?_ _));exact BK168.out) hb);have n9_:=aM (bB (g:=gb169) (o:=.cells #[.slice A1_0 l1_0.length c1_0,.slice A1_1 l1_1.length c1_1,.string a1_2] 48 (0,0)) (by (with_reducible repeat (first|refine bN ?_ _|refine bD ?_|refine bA ?_ _));refine blk_far ?_ NB169_202.out _;(with_reducible repeat (first|refine bN ?_ _|refine bD ?_|refine bA ?_ _));refine blk_far ?_ NB169_202.out _;(with_reducible repeat (first|refine bN ?_ _|refine bD ?_|refine bA ?_ _));refine blk_far ?_ NB169_202.out _;(with_reducible repeat (first|refine bN ?_ _|refine bD ?_|refine bA ?_ _));exact BK169.out) hb);have n10_:=aM (bB (g:=gb194) (o:=.cells #[.slice Ao172 t187.length co172,.slice Ao176 t190.length co176,.string t193] 54 (0,0)) (by (with_reducible repeat (first|refine bN ?_ _|refine bD ?_|refine bA ?_ _));refine blk_far ?_ NB194_202.out _;(with_reducible repeat (first|refine bN ?_ _|refine bD ?_|refine bA ?_ _));refine blk_far ?_ NB194_202.out _;(with_reducible repeat (first|refine bN ?_ _|refine bD ?_|refine bA ?_ _));refine blk_far ?_ NB194_202.out _;(with_reducible repeat (first|refine bN ?_ _|refine bD ?_|refine bA ?_ _));exact BK194.out) hb);have n11_:=aM (bB (g:=gb202) (o:=.cells #[.slice Ao180 t195.length co180,.slice Ao185 t198.length co185,.string t201] 54 (0,0)) (by (with_reducible repeat (first|refine bN ?_ _|refine bD ?_|refine bA ?_ _));refine blk_put (cs:=#[.slice Ao180 t195.length co180,.slice Ao185 t198.length co185,.string (⟨#[]⟩ : ByteArray)]) ?_ 2 _ rfl;(with_reducible repeat (first|refine bN ?_ _|refine bD ?_|refine bA ?_ _));refine blk_put (cs:=#[.slice Ao180 t195.length co180,.slice none 0 0,.string (⟨#[]⟩ : ByteArray)]) ?_ 1 _ rfl;(with_reducible repeat (first|refine bN ?_ _|refine bD ?_|refine bA ?_ _));refine blk_put (cs:=#[.slice none 0 0,.slice none 0 0,.string (⟨#[]⟩ : ByteArray)]) ?_ 0 _ rfl;(with_reducible repeat (first|refine bN ?_ _|refine bD ?_|refine bA ?_ _));exact BK202.out) hb);have n12_:=aM (lP (by repeat (first|(with_reducible first|exact HB.out|apply lA|apply lN|apply lD|refine lS ?_ GE168.out|refine lS ?_ GE169.out|refine lS ?_ GE194.out|refine lS ?_ GE202.out)|exact HB.out)) hb);clear HO174 HO177 HO181 HO184 HO189 HO192 HO197 HO200 BK168 BK169 BK194 BK202 HB;have HO174:=n0_;have HO177:=n1_;have HO181:=n2_;have HO184:=n3_;have HO189:=n4_;have HO192:=n5_;have HO197:=n6_;have HO200:=n7_;have BK168:=n8_;have BK169:=n9_;have BK194:=n10_;have BK202:=n11_;have HB:=n12_;clear n0_ n1_ n2_ n3_ n4_ n5_ n6_ n7_ n8_ n9_ n10_ n11_ n12_;(try clear hb);(try clear hb2);(try clear hk);(try clear hi)))
     have n0_:=aM (rD HO174.out)
     have n1_:=aM (rD HO177.out)
     have n2_:=aM (rD HO181.out)
     have n3_:=aM (rD HO184.out)
     have n4_:=aM (rD HO189.out)
     have n5_:=aM (rD HO192.out)
     have n6_:=aM (rD HO197.out)
     have n7_:=aM (rD HO200.out)
     have n8_:=aM (bD BK168.out)
     have n9_:=aM (bD BK169.out)
     have n10_:=aM (bD BK194.out)
     have n11_:=aM (bD BK202.out)
     have n12_:=aM (lD HB.out)
     clear HO174
     clear HO177
     clear HO181
     clear HO184
     clear HO189
     clear HO192
     clear HO197
     clear HO200
     clear BK168
     clear BK169
     clear BK194
     clear BK202
     clear HB
     have HO174:=n0_
     have HO177:=n1_
     have HO181:=n2_
     have HO184:=n3_
     have HO189:=n4_
     have HO192:=n5_
     have HO197:=n6_
     have HO200:=n7_
     have BK168:=n8_
     have BK169:=n9_
     have BK194:=n10_
     have BK202:=n11_
     have HB:=n12_
     clear n0_ n1_ n2_ n3_ n4_ n5_ n6_ n7_ n8_ n9_ n10_ n11_ n12_
     refine start_ (n:=5) (S:=fun w' => w'.cell? ⟨gb194,0,none⟩ = some (.slice Ao172 t187.length co172) ∧ w'.cell? ⟨gb194,1,none⟩ = some (.slice Ao176 t190.length co176) ∧ w'.cell? ⟨gb194,2,none⟩ = some (.string t193) ∧ w'.cell? ⟨gb168,0,none⟩ = some (.slice A0_0 l0_0.length c0_0) ∧ w'.cell? ⟨gb168,1,none⟩ = some (.slice A0_1 l0_1.length c0_1) ∧ w'.cell? ⟨gb168,2,none⟩ = some (.string a0_2)) (ds:=[]) #[false,false,false,false,false] (by kernel_rfl) rfl rfl ⟨(bC BK194.out 0).trans rfl,(bC BK194.out 1).trans rfl,(bC BK194.out 2).trans rfl,(bC BK168.out 0).trans rfl,(bC BK168.out 1).trans rfl,(bC BK168.out 2).trans rfl⟩ (fun hHeld => ?_)
     generalize w187.drew = w188 at HO174 HO177 HO181 HO184 HO189 HO192 HO197 HO200 BK168 BK169 BK194 BK202 HB hHeld ⊢
     refine take_ (i:=0) (N:=some 35) (v:=?_) (a':=?_) #[true,false,false,false,false] rfl rfl (by kernel_rfl) (fun _ _ _ h => h) (Or.inl ⟨by rfl,?_⟩) hHeld ?_ ?_
     rotate_left
     ·rintro w' ⟨s0,s1,s2,s3,s4,s5⟩
      go_simp
      with_reducible rfl
     rotate_left
     ·simp only [Act.put,q_ia,q_cz,q_cs,i64_w,i32_w];rfl
     refine take_ (i:=1) (N:=some 36) (v:=?_) (a':=?_) #[true,true,false,false,false] rfl rfl (by kernel_rfl) (fun _ _ _ h => h) (Or.inl ⟨by rfl,?_⟩) hHeld ?_ ?_
     rotate_left
     ·rintro w' ⟨s0,s1,s2,s3,s4,s5⟩
      go_simp
      with_reducible rfl
     rotate_left
     ·simp only [Act.put,q_ia,q_cz,q_cs,i64_w,i32_w];rfl
     refine one_ (i:=2) (N:=some 37) #[true,true,true,false,false] rfl rfl (by kernel_rfl) (by decide) (fun K hK => ?_)
     refine goes_ Try.func36 (by kernel_rfl) rfl #[.agg #[.slice A0_0 l0_0.length c0_0,.slice A0_1 l0_1.length c0_1,.string a0_2]] (by rfl) rfl rfl (by (try simp only [List.map_toArray,List.map_cons,List.map_nil]);first|done|rfl|(simp only [List.length_drop,List.length_take];rfl)) ?_
     with_reducible refine (laws_toStore.calls k _ _ l0_0 _ _ l0_1 a0_2 t204 t207 t210 _ ?side1 ?side2 ?side3 ?side4 A60.out).mono ?_
     (case side1 => repeat (first|exact (cB HR0_0.out HB.out)|(with_reducible first|refine cA ?_ _|refine cN ?_ _|refine cD ?_)))
     (case side2 => exact HC0_0.out)
     (case side3 => repeat (first|exact (cB HR0_1.out HB.out)|(with_reducible first|refine cA ?_ _|refine cN ?_ _|refine cD ?_)))
     (case side4 => exact HC0_1.out)
     rintro e w189 ⟨v205,v208,rfl,ho0,ho1,hb⟩
     refine ⟨_,rfl,?_⟩
     have n0_:=aM (rE (by (with_reducible repeat (first|apply rA|apply rN|apply rD));exact HO174.out) (rS ho0) hb)
     have n1_:=aM (rE (by (with_reducible repeat (first|apply rA|apply rN|apply rD));exact HO177.out) (rS ho1) hb)
     have n2_:=aM (rE (by (with_reducible repeat (first|apply rA|apply rN|apply rD));exact HO181.out) (rS ho0) hb)
     have n3_:=aM (rE (by (with_reducible repeat (first|apply rA|apply rN|apply rD));exact HO184.out) (rS ho1) hb)
     have n4_:=aM (rE (by (with_reducible repeat (first|apply rA|apply rN|apply rD));exact HO189.out) (rS ho0) hb)
     have n5_:=aM (rE (by (with_reducible repeat (first|apply rA|apply rN|apply rD));exact HO192.out) (rS ho1) hb)
     have n6_:=aM (rE (by (with_reducible repeat (first|apply rA|apply rN|apply rD));exact HO197.out) (rS ho0) hb)
     have n7_:=aM (rE (by (with_reducible repeat (first|apply rA|apply rN|apply rD));exact HO200.out) (rS ho1) hb)
     have n8_:=aM (rL (rW (rW (rW (rW ho0 (rT (by (with_reducible repeat (first|apply rA|apply rN|apply rD));exact HO174.out))) (rT (by (with_reducible repeat (first|apply rA|apply rN|apply rD));exact HO181.out))) (rT (by (with_reducible repeat (first|apply rA|apply rN|apply rD));exact HO189.out))) (rT (by (with_reducible repeat (first|apply rA|apply rN|apply rD));exact HO197.out))) (lZ (by repeat (first|(with_reducible first|exact HB.out|apply lA|apply lN|apply lD|refine lS ?_ GE168.out|refine lS ?_ GE169.out|refine lS ?_ GE194.out|refine lS ?_ GE202.out)|exact HB.out))))
     have n9_:=aM (rL (rW (rW (rW (rW ho1 (rT (by (with_reducible repeat (first|apply rA|apply rN|apply rD));exact HO177.out))) (rT (by (with_reducible repeat (first|apply rA|apply rN|apply rD));exact HO184.out))) (rT (by (with_reducible repeat (first|apply rA|apply rN|apply rD));exact HO192.out))) (rT (by (with_reducible repeat (first|apply rA|apply rN|apply rD));exact HO200.out))) (lZ (by repeat (first|(with_reducible first|exact HB.out|apply lA|apply lN|apply lD|refine lS ?_ GE168.out|refine lS ?_ GE169.out|refine lS ?_ GE194.out|refine lS ?_ GE202.out)|exact HB.out))))
     have n10_:=aM (bB (g:=gb168) (o:=.cells #[.slice A0_0 l0_0.length c0_0,.slice A0_1 l0_1.length c0_1,.string a0_2] 48 (0,0)) (by (with_reducible repeat (first|refine bN ?_ _|refine bD ?_|refine bA ?_ _));exact BK168.out) hb)
     have n11_:=aM (bB (g:=gb169) (o:=.cells #[.slice A1_0 l1_0.length c1_0,.slice A1_1 l1_1.length c1_1,.string a1_2] 48 (0,0)) (by (with_reducible repeat (first|refine bN ?_ _|refine bD ?_|refine bA ?_ _));exact BK169.out) hb)
     have n12_:=aM (bB (g:=gb194) (o:=.cells #[.slice Ao172 t187.length co172,.slice Ao176 t190.length co176,.string t193] 54 (0,0)) (by (with_reducible repeat (first|refine bN ?_ _|refine bD ?_|refine bA ?_ _));exact BK194.out) hb)
     have n13_:=aM (bB (g:=gb202) (o:=.cells #[.slice Ao180 t195.length co180,.slice Ao185 t198.length co185,.string t201] 54 (0,0)) (by (with_reducible repeat (first|refine bN ?_ _|refine bD ?_|refine bA ?_ _));exact BK202.out) hb)
     have n14_:=aM (lP (by repeat (first|(with_reducible first|exact HB.out|apply lA|apply lN|apply lD|refine lS ?_ GE168.out|refine lS ?_ GE169.out|refine lS ?_ GE194.out|refine lS ?_ GE202.out)|exact HB.out)) hb)
     clear HO174
     clear HO177
     clear HO181
     clear HO184
     clear HO189
     clear HO192
     clear HO197
     clear HO200
     clear BK168
     clear BK169
     clear BK194
     clear BK202
     clear HB
     have HO174:=n0_
     have HO177:=n1_
     have HO181:=n2_
     have HO184:=n3_
     have HO189:=n4_
     have HO192:=n5_
     have HO197:=n6_
     have HO200:=n7_
     have HO206:=n8_
     have HO209:=n9_
     have BK168:=n10_
     have BK169:=n11_
     have BK194:=n12_
     have BK202:=n13_
     have HB:=n14_
     clear n0_ n1_ n2_ n3_ n4_ n5_ n6_ n7_ n8_ n9_ n10_ n11_ n12_ n13_ n14_
     (try clear hb)
     (try clear hb2)
     (try clear hk)
     (try clear hi)
     (try clear ho0)
     (try clear ho1)
     obtain ⟨Ao190,co190,eo190⟩:=Kd.R_slice HO206.out
     (first|subst eo190|(injection eo190 with f1_ f2_ f3_;have f4_:=f1_.symm;have f5_:=f3_.symm;clear f1_ f2_ f3_;subst f4_;subst f5_))
     obtain ⟨Ao191,co191,eo191⟩:=Kd.R_slice HO209.out
     (first|subst eo191|(injection eo191 with f1_ f2_ f3_;have f4_:=f1_.symm;have f5_:=f3_.symm;clear f1_ f2_ f3_;subst f4_;subst f5_))
     refine hK.out _ _ ⟨(bC BK194.out 0).trans rfl,(bC BK194.out 1).trans rfl,(bC BK194.out 2).trans rfl,(bC BK168.out 0).trans rfl,(bC BK168.out 1).trans rfl,(bC BK168.out 2).trans rfl⟩ (fun hHeld => ?_)
     clear hK K
     refine norm_ (a':=?_) ?_ ?_
     rotate_left
     ·show Act.put _ (some 37) _ = _
      simp only [Act.put,q_ia,q_cz,q_cs,i64_w,i32_w]
      rfl
     refine one_ (i:=3) (N:=some 38) #[true,true,true,true,false] rfl rfl (by kernel_rfl) (by decide) (fun K hK => ?_)
     refine goes_ Try.func38 (by kernel_rfl) rfl #[.agg #[.slice Ao172 t187.length co172,.slice Ao176 t190.length co176,.string t193],.agg #[.slice Ao190 t204.length co190,.slice Ao191 t207.length co191,.string t210]] (by rfl) rfl rfl (by (try simp only [List.map_toArray,List.map_cons,List.map_nil]);first|done|rfl|(simp only [List.length_drop,List.length_take];rfl)) ?_
     with_reducible refine (laws_eqStore.calls k _ _ t187 _ _ t190 t193 _ _ t204 _ _ t207 t210 false _ ?side1 ?side2 ?side3 ?side4 ?side5 ?side6 ?side7 ?side8 A61.out).mono ?_
     (case side1 => repeat (first|exact (rR HO189.out).2.2|(with_reducible first|refine cA ?_ _|refine cN ?_ _|refine cD ?_)))
     (case side2 => exact (rR HO189.out).2.1)
     (case side3 => repeat (first|exact (rR HO192.out).2.2|(with_reducible first|refine cA ?_ _|refine cN ?_ _|refine cD ?_)))
     (case side4 => exact (rR HO192.out).2.1)
     (case side5 => repeat (first|exact (rR HO206.out).2.2|(with_reducible first|refine cA ?_ _|refine cN ?_ _|refine cD ?_)))
     (case side6 => exact (rR HO206.out).2.1)
     (case side7 => repeat (first|exact (rR HO209.out).2.2|(with_reducible first|refine cA ?_ _|refine cN ?_ _|refine cD ?_)))
     (case side8 => exact (rR HO209.out).2.1)
     rintro e w192 ⟨rfl,hb⟩
     refine ⟨_,rfl,?_⟩
     have n0_:=aM (rB (by (with_reducible repeat (first|apply rA|apply rN|apply rD));exact HO174.out) hb)
     have n1_:=aM (rB (by (with_reducible repeat (first|apply rA|apply rN|apply rD));exact HO177.out) hb)
     have n2_:=aM (rB (by (with_reducible repeat (first|apply rA|apply rN|apply rD));exact HO181.out) hb)
     have n3_:=aM (rB (by (with_reducible repeat (first|apply rA|apply rN|apply rD));exact HO184.out) hb)
     have n4_:=aM (rB (by (with_reducible repeat (first|apply rA|apply rN|apply rD));exact HO189.out) hb)
     have n5_:=aM (rB (by (with_reducible repeat (first|apply rA|apply rN|apply rD));exact HO192.out) hb)
     have n6_:=aM (rB (by (with_reducible repeat (first|apply rA|apply rN|apply rD));exact HO197.out) hb)
     have n7_:=aM (rB (by (with_reducible repeat (first|apply rA|apply rN|apply rD));exact HO200.out) hb)
     have n8_:=aM (rB (by (with_reducible repeat (first|apply rA|apply rN|apply rD));exact HO206.out) hb)
     have n9_:=aM (rB (by (with_reducible repeat (first|apply rA|apply rN|apply rD));exact HO209.out) hb)
     have n10_:=aM (bB (g:=gb168) (o:=.cells #[.slice A0_0 l0_0.length c0_0,.slice A0_1 l0_1.length c0_1,.string a0_2] 48 (0,0)) (by (with_reducible repeat (first|refine bN ?_ _|refine bD ?_|refine bA ?_ _));exact BK168.out) hb)
     have n11_:=aM (bB (g:=gb169) (o:=.cells #[.slice A1_0 l1_0.length c1_0,.slice A1_1 l1_1.length c1_1,.string a1_2] 48 (0,0)) (by (with_reducible repeat (first|refine bN ?_ _|refine bD ?_|refine bA ?_ _));exact BK169.out) hb)
     have n12_:=aM (bB (g:=gb194) (o:=.cells #[.slice Ao172 t187.length co172,.slice Ao176 t190.length co176,.string t193] 54 (0,0)) (by (with_reducible repeat (first|refine bN ?_ _|refine bD ?_|refine bA ?_ _));exact BK194.out) hb)
     have n13_:=aM (bB (g:=gb202) (o:=.cells #[.slice Ao180 t195.length co180,.slice Ao185 t198.length co185,.string t201] 54 (0,0)) (by (with_reducible repeat (first|refine bN ?_ _|refine bD ?_|refine bA ?_ _));exact BK202.out) hb)
     have n14_:=aM (lP (by repeat (first|(with_reducible first|exact HB.out|apply lA|apply lN|apply lD|refine lS ?_ GE168.out|refine lS ?_ GE169.out|refine lS ?_ GE194.out|refine lS ?_ GE202.out)|exact HB.out)) hb)
     clear HO174
     clear HO177
     clear HO181
     clear HO184
     clear HO189
     clear HO192
     clear HO197
     clear HO200
     clear HO206
     clear HO209
     clear BK168
     clear BK169
     clear BK194
     clear BK202
     clear HB
     have HO174:=n0_
     have HO177:=n1_
     have HO181:=n2_
     have HO184:=n3_
     have HO189:=n4_
     have HO192:=n5_
     have HO197:=n6_
     have HO200:=n7_
     have HO206:=n8_
     have HO209:=n9_
     have BK168:=n10_
     have BK169:=n11_
     have BK194:=n12_
     have BK202:=n13_
     have HB:=n14_
     clear n0_ n1_ n2_ n3_ n4_ n5_ n6_ n7_ n8_ n9_ n10_ n11_ n12_ n13_ n14_
     (try clear hb)
     (try clear hb2)
     (try clear hk)
     (try clear hi)
     refine hK.out _ _ ⟨(bC BK194.out 0).trans rfl,(bC BK194.out 1).trans rfl,(bC BK194.out 2).trans rfl,(bC BK168.out 0).trans rfl,(bC BK168.out 1).trans rfl,(bC BK168.out 2).trans rfl⟩ (fun hHeld => ?_)
     clear hK K
     refine norm_ (a':=?_) ?_ ?_
     rotate_left
     ·show Act.put _ (some 38) _ = _
      simp only [Act.put,q_ia,q_cz,q_cs,i64_w,i32_w]
      rfl
     refine pure_ (i:=4) (N:=some 39) (v:=?_) (a':=?_) #[true,true,true,true,true] rfl rfl (by kernel_rfl) (fun _ _ _ h => h) (Or.inl ⟨by rfl,?_⟩) ?_ ?_
     rotate_left
     ·intro w';go_simp;with_reducible rfl
     rotate_left
     ·simp only [Act.put,q_ia,q_cz,q_cs,i64_w,i32_w];rfl
     refine done_ (by kernel_rfl) ?_
     try go_wp2
     go_ret
     exact ⟨by first|rfl|(simp [errW_none,errW_some] <;> rfl)|(simp [*,errW_none,errW_some] <;> rfl),by repeat (first|(with_reducible first|exact HB.out|apply lA|apply lN|apply lD|refine lS ?_ GE168.out|refine lS ?_ GE169.out|refine lS ?_ GE194.out|refine lS ?_ GE202.out)|exact HB.out)⟩

end Go.Proofs.Ytjbfppakafkkoaa.QFnExactSameStore
