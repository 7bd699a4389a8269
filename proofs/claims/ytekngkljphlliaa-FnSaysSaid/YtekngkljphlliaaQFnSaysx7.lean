-- A text of this session, made by wip/own_print.py (the kit's print with additions of ours).
import Derived.Test.YtekngkljphlliaaQFnSaysx0
import Derived.Test.YtekngkljphlliaaQFnSaysx4
namespace Go.Proofs.Ytekngkljphlliaa.QFnSays
open Go.RowKit Go.Proofs.YtekngkljphlliaaW.PrintWords Go.Proofs.YtekngkljphlliaaW.PrintLast Go.Proofs.YtekngkljphlliaaW.PrintMore
attribute [local go_sem] max2_int min2_int max_two min_two max_three min_three max_four min_four   -- for this text's walks alone
set_option linter.unusedVariables false
set_option linter.unusedSimpArgs false
open Bool renaming true → bT, false → bf
open Go.Proofs.YtekngkljphlliaaW.PrintWords.Kd renaming R_alloc → rA, R_drewN → rN, R_drew → rD, C_alloc → cA, C_drewN → cN, C_drew → cD, R_far → rF, R_below → rB, R_lower → rL, R_lt → rT, R_base → rS, C_below → cB, R_types → rY, R_elder' → rE, R_reads' → rR, R_new' → rW
open Go.Proofs.YtekngkljphlliaaW.PrintWords renaming blk_drewN → bN, blk_drew → bD, blk_alloc → bA, below_set → lS, pw_below_drewN → lN, below_drew1 → lD, below_alloc → lA, blk_cell → bC, blk_below → bB, below_size → lZ, below_step → lP, blk_lt → bL, blk_frozen → bF
open Go.Proofs.YtekngkljphlliaaW.PrintWords.Aside0 renaming mk → aM
theorem q_ia5 {α : Type} (l : List α) (i : Nat) (a : α) : l.toArray.setIfInBounds i a = (l.set i a).toArray := List.setIfInBounds_toArray ..
theorem q_cz5 {α : Type} (a b : α) (l : List α) : (a :: l).set 0 b = b :: l := rfl
theorem q_cs5 {α : Type} (a b : α) (l : List α) (n : Nat) : (a :: l).set (n + 1) b = a :: l.set n b := rfl

/-! ### spec_l08Out: function 36 -/
def spec_l08Out.f (a0 : ByteArray) : Option (ByteArray) := if (a0.size : Int) > 3000 then (if 0 ≤ 3000 then (if 3000 ≤ (a0.size : Int) then (some (a0.extract 0 3000)) else (none)) else (none)) else (some a0)
set_option maxHeartbeats 8000000 in
set_option maxRecDepth 100000 in
theorem spec_l08Out.calls (a0 : ByteArray) (r : ByteArray) (w : World) (h : spec_l08Out.f a0 = some r) :
  Calls Try.prog 36 #[.string a0] w fun e w' => e = .returned (.string r) ∧ Drawn0 w w':=by
 have H : (if (a0.size : Int) > 3000 then (if 0 ≤ 3000 then (if 3000 ≤ (a0.size : Int) then (some (a0.extract 0 3000)) else (none)) else (none)) else (some a0)) = some r:=h
 clear h
 by_cases c2 : (a0.size : Int) > 3000
 ·rw [if_pos c2] at H
  have c2b0 : decide (3000 < (a0.size : Int)) = true:=decide_eq_true c2
  have c2b1 : decide (3000 < a0.size) = true:=decide_eq_true (by omega)
  clear c2
  by_cases c3 : 0 ≤ 3000
  ·rw [if_pos c3] at H
   have c3b0:=eq_true c3
   have c3b1 : decide (0 ≤ 3000) = true:=decide_eq_true c3
   clear c3
   by_cases c4 : 3000 ≤ (a0.size : Int)
   ·rw [if_pos c4] at H
    have c4b0:=eq_true c4
    have c4b1 : decide (3000 ≤ (a0.size : Int)) = true:=decide_eq_true c4
    clear c4
    obtain rfl:=Option.some.inj H
    go_enter Try.func36,Try.ntmps36
    go_wp2
    go_ret
    exact ⟨by first|rfl|(simp;done)|(simp [*];done),by repeat (first|exact Drawn0.refl _|apply Drawn0.step)⟩
   ·rw [if_neg c4] at H
    exact absurd H (by simp)
  ·rw [if_neg c3] at H
   exact absurd H (by simp)
 ·rw [if_neg c2] at H
  have c2b0 : decide (3000 < (a0.size : Int)) = false:=decide_eq_false c2
  have c2b1 : decide (3000 < a0.size) = false:=decide_eq_false (by omega)
  clear c2
  obtain rfl:=Option.some.inj H
  go_enter Try.func36,Try.ntmps36
  go_wp2
  go_ret
  exact ⟨by first|rfl|(simp;done)|(simp [*];done),by repeat (first|exact Drawn0.refl _|apply Drawn0.step)⟩

/-! ### spec_Say: function 40 -/
def spec_Say.f (l0_0 : List (S59)) (l0_1 : List (S39)) (a0_2 : ByteArray) (a1 : ByteArray) : Option ((List (S59)) × (List (S39)) × ByteArray):=(spec_l08Copy.f l0_0 l0_1 a0_2).bind fun bt229 => (if a0_2.size + a1.size ≤ 9223372036854775807 then (if (a0_2 ++ a1).size + 1 ≤ 9223372036854775807 then ((spec_l08Out.f ((a0_2 ++ a1) ++ (⟨#[10]⟩ : ByteArray))).bind fun t237 => (some (bt229.1,bt229.2.1,t237))) else (none)) else (none))
set_option maxHeartbeats 8000000 in
set_option maxRecDepth 100000 in
theorem spec_Say.calls (A0_0 : Option Addr) (c0_0 : Nat) (l0_0 : List (S59)) (A0_1 : Option Addr) (c0_1 : Nat) (l0_1 : List (S39)) (a0_2 : ByteArray) (a1 : ByteArray) (r1 : List (S59)) (r2 : List (S39)) (r3 : ByteArray) (w : World) (hr0_0 : Kd.C k59 w A0_0 l0_0.length l0_0) (hc0_0 : l0_0.length ≤ c0_0) (hr0_1 : Kd.C k39 w A0_1 l0_1.length l0_1) (hc0_1 : l0_1.length ≤ c0_1) (h : spec_Say.f l0_0 l0_1 a0_2 a1 = some (r1,r2,r3)) :
  Calls Try.prog 40 #[.agg #[.slice A0_0 l0_0.length c0_0,.slice A0_1 l0_1.length c0_1,.string a0_2],.string a1] w fun e w' => ∃ v0_ v1_ : Value,e = .returned (.agg #[v0_,v1_,.string r3]) ∧ Kd.R k59 59 w' w.heap.size (fun _ => True) v0_ r1 ∧ Kd.R k39 39 w' w.heap.size (fun _ => True) v1_ r2 ∧ Below w.heap.size w w':=by
 have hu35:=Try.underlying35
 have HR0_0:=aM hr0_0
 have HC0_0:=aM hc0_0
 clear hr0_0 hc0_0
 have HR0_1:=aM hr0_1
 have HC0_1:=aM hc0_1
 clear hr0_1 hc0_1
 have HB:=aM (Below.refl w.heap.size w)
 have H : ((spec_l08Copy.f l0_0 l0_1 a0_2).bind fun bt229 => (if a0_2.size + a1.size ≤ 9223372036854775807 then (if (a0_2 ++ a1).size + 1 ≤ 9223372036854775807 then ((spec_l08Out.f ((a0_2 ++ a1) ++ (⟨#[10]⟩ : ByteArray))).bind fun t237 => (some (bt229.1,bt229.2.1,t237))) else (none)) else (none))) = some (r1,r2,r3):=h
 clear h
 replace H:=Option.bind_eq_some_iff.mp H
 obtain ⟨⟨t229,t232,t235⟩,A30,H⟩:=H
 replace H : (if a0_2.size + a1.size ≤ 9223372036854775807 then (if (a0_2 ++ a1).size + 1 ≤ 9223372036854775807 then ((spec_l08Out.f ((a0_2 ++ a1) ++ (⟨#[10]⟩ : ByteArray))).bind fun t237 => (some (t229,t232,t237))) else (none)) else (none)) = some (r1,r2,r3):=H
 have A3:=aM A30
 clear A30
 by_cases c4 : a0_2.size + a1.size ≤ 9223372036854775807
 ·rw [if_pos c4] at H
  have c4b0:=eq_true c4
  have c4b1 : decide (a0_2.size + a1.size ≤ 9223372036854775807) = true:=decide_eq_true c4
  try have c4b2 : (9223372036854775807 < a0_2.size + a1.size) = False:=eq_false (Nat.not_lt.2 c4)
  by_cases c5 : (a0_2 ++ a1).size + 1 ≤ 9223372036854775807
  ·rw [if_pos c5] at H
   have c5b0:=eq_true c5
   have c5b1 : decide ((a0_2 ++ a1).size + 1 ≤ 9223372036854775807) = true:=decide_eq_true c5
   try have c5b2 : (9223372036854775807 < (a0_2 ++ a1).size + 1) = False:=eq_false (Nat.not_lt.2 c5)
   try (have c5b7:=c5b2;simp only [ByteArray.size_append] at c5b7)
   replace H:=Option.bind_eq_some_iff.mp H
   obtain ⟨t237,A60,H⟩:=H
   replace H : (some (t229,t232,t237)) = some (r1,r2,r3):=H
   have A6:=aM A60
   clear A60
   simp only [Option.some.injEq,Prod.mk.injEq] at H
   obtain ⟨rfl,rfl,rfl⟩:=H
   go_enter Try.func40,Try.ntmps40
   go_wp2_with (first|((with_reducible refine gate_dst (N:=2) rfl ?_);refine box_event ?hg (N:=2) ?hd (cs:=#[.slice A0_0 l0_0.length c0_0,.slice A0_1 l0_1.length c0_1,.string a0_2]) (t:=35) ?hr ?_;(case hd => rfl);(case hg => rfl);(case hr => first|(go_simp;done)|(go_simp;rfl));intro gb227 hg w7 hbox hb;have n0_:=aM (lQ HB.out hb);have n1_:=aM (hbox);have n2_:=aM ((sQ hg HB.out : w.heap.size ≤ gb227));have n3_:=n2_;clear HB;have HB:=n0_;have BK227:=n1_;have GW227:=n2_;have GE227:=n3_;clear n0_ n1_ n2_ n3_ hb hbox hg)|((with_reducible refine gate_dst (N:=4) rfl ?_);refine box_event ?hg (N:=4) ?hd (cs:=#[.slice none 0 0,.slice none 0 0,.string (⟨#[]⟩ : ByteArray)]) (t:=35) ?hr ?_;(case hd => rfl);(case hg => rfl);(case hr => first|(go_simp;done)|(go_simp;rfl));intro gb228 hg w8 hbox hb;have n0_:=aM (bH BK227.out hb);have n1_:=aM (lQ HB.out hb);have n2_:=aM (hbox);have n3_:=aM ((sQ hg HB.out : w.heap.size ≤ gb228));have n4_:=n3_;have n5_:=aM ((nL hg BK227.out : gb227 ≠ gb228));have n6_:=aM ((nG hg BK227.out : gb228 ≠ gb227));clear BK227 HB;have BK227:=n0_;have HB:=n1_;have BK228:=n2_;have GW228:=n3_;have GE228:=n4_;have NB227_228:=n5_;have NB228_227:=n6_;clear n0_ n1_ n2_ n3_ n4_ n5_ n6_ hb hbox hg;have hnb9:=NB227_228.out;have hnc9:=NB228_227.out;obtain ⟨⟨hcz10_0,hcz10_1,hcz10_2⟩,hfz10_0,hfz10_1,hfz10_2⟩:=bC3 BK227.out)|((with_reducible refine gate_callee (f:=35) rfl ?_);refine goesL_ (some 7) rfl rfl Try.func35 (by kernel_rfl) rfl #[.agg #[.slice A0_0 l0_0.length c0_0,.slice A0_1 l0_1.length c0_1,.string a0_2]] rfl (by (try simp only [List.map_toArray,List.map_cons,List.map_nil]);first|done|rfl|(simp only [List.length_drop,List.length_take];rfl)) ?_;(with_reducible refine (spec_l08Copy.calls _ _ l0_0 _ _ l0_1 a0_2 t229 t232 t235 _ ?side1 ?side2 ?side3 ?side4 A3.out).mono ?_);(case side1 => repeat (first|exact (cB HR0_0.out HB.out)|(with_reducible first|refine cA ?_ _|refine cN ?_ _|refine cD ?_)));(case side2 => exact HC0_0.out);(case side3 => repeat (first|exact (cB HR0_1.out HB.out)|(with_reducible first|refine cA ?_ _|refine cN ?_ _|refine cD ?_)));(case side4 => exact HC0_1.out);rintro e w11 ⟨v230,v233,rfl,ho0,ho1,hb⟩;refine ⟨_,rfl,?_⟩;have n0_:=aM (rL ho0 (lZ (by repeat (first|(with_reducible first|exact HB.out|apply lA|apply lN|apply lD|refine lS ?_ GE227.out|refine lS ?_ GE228.out)|exact HB.out))));have n1_:=aM (rL ho1 (lZ (by repeat (first|(with_reducible first|exact HB.out|apply lA|apply lN|apply lD|refine lS ?_ GE227.out|refine lS ?_ GE228.out)|exact HB.out))));have n2_:=aM (bH BK227.out hb);have n3_:=aM (bH BK228.out hb);have n4_:=aM (lQ HB.out hb);clear BK227 BK228 HB;have HO231:=n0_;have HO234:=n1_;have BK227:=n2_;have BK228:=n3_;have HB:=n4_;clear n0_ n1_ n2_ n3_ n4_;(try clear hb);(try clear hb2);(try clear hk);(try clear hi);(try clear ho0);(try clear ho1))|((with_reducible refine gate_dst (N:=5) rfl ?_);refine box_event ?hg (N:=5) ?hd (cs:=#[.slice none 0 0,.slice none 0 0,.string (⟨#[]⟩ : ByteArray)]) (t:=35) ?hr ?_;(case hd => rfl);(case hg => rfl);(case hr => first|(go_simp;done)|(go_simp;rfl));intro gb236 hg w12 hbox hb;have n0_:=aM (rH HO231.out hb);have n1_:=aM (rH HO234.out hb);have n2_:=aM (bH BK227.out hb);have n3_:=aM (bH BK228.out hb);have n4_:=aM (lQ HB.out hb);have n5_:=aM (hbox);have n6_:=aM ((sQ hg HB.out : w.heap.size ≤ gb236));have n7_:=n6_;have n8_:=aM ((nL hg BK227.out : gb227 ≠ gb236));have n9_:=aM ((nG hg BK227.out : gb236 ≠ gb227));have n10_:=aM ((nL hg BK228.out : gb228 ≠ gb236));have n11_:=aM ((nG hg BK228.out : gb236 ≠ gb228));clear HO231 HO234 BK227 BK228 HB;have HO231:=n0_;have HO234:=n1_;have BK227:=n2_;have BK228:=n3_;have HB:=n4_;have BK236:=n5_;have GW236:=n6_;have GE236:=n7_;have NB227_236:=n8_;have NB236_227:=n9_;have NB228_236:=n10_;have NB236_228:=n11_;clear n0_ n1_ n2_ n3_ n4_ n5_ n6_ n7_ n8_ n9_ n10_ n11_ hb hbox hg;obtain ⟨Ao13,co13,eo13⟩:=Kd.R_slice HO231.out;subst eo13;have hnb14:=NB236_227.out;have hnc14:=NB227_236.out;have hnb15:=NB236_228.out;have hnc15:=NB228_236.out;obtain ⟨⟨hcz16_0,hcz16_1,hcz16_2⟩,hfz16_0,hfz16_1,hfz16_2⟩:=bC3 BK236.out;obtain ⟨Ao17,co17,eo17⟩:=Kd.R_slice HO234.out;subst eo17;obtain ⟨⟨hcz18_0,hcz18_1,hcz18_2⟩,hfz18_0,hfz18_1,hfz18_2⟩:=bC3 BK227.out)|((with_reducible refine gate_callee (f:=36) rfl ?_);refine goesL_ (some 13) rfl rfl Try.func36 (by kernel_rfl) rfl #[.string ((a0_2 ++ a1) ++ (⟨#[10]⟩ : ByteArray))] rfl (by (try simp only [List.map_toArray,List.map_cons,List.map_nil]);first|done|rfl|(simp only [List.length_drop,List.length_take];rfl)) ?_;(with_reducible refine (spec_l08Out.calls ((a0_2 ++ a1) ++ (⟨#[10]⟩ : ByteArray)) t237 _ A6.out).mono ?_);rintro e w' ⟨rfl,⟨nd,rfl⟩⟩;refine ⟨_,rfl,?_⟩;obtain ⟨⟨hcz19_0,hcz19_1,hcz19_2⟩,hfz19_0,hfz19_1,hfz19_2⟩:=bC3 BK228.out))
   refine bodyPost_ret (results_cell_row rfl _ _ gb228 35 #[.slice Ao13 t229.length co13,.slice Ao17 t232.length co17,.string t237] (0,0) _ rfl (by (with_reducible repeat (first|refine bN ?_ _|refine bD ?_|refine bA ?_ _));refine blk_put (cs:=#[.slice Ao13 t229.length co13,.slice Ao17 t232.length co17,.string (⟨#[]⟩ : ByteArray)]) ?_ 2 _ rfl;(with_reducible repeat (first|refine bN ?_ _|refine bD ?_|refine bA ?_ _));refine blk_put (cs:=#[.slice Ao13 t229.length co13,.slice none 0 0,.string (⟨#[]⟩ : ByteArray)]) ?_ 1 _ rfl;(with_reducible repeat (first|refine bN ?_ _|refine bD ?_|refine bA ?_ _));refine blk_put (cs:=#[.slice none 0 0,.slice none 0 0,.string (⟨#[]⟩ : ByteArray)]) ?_ 0 _ rfl;(with_reducible repeat (first|refine bN ?_ _|refine bD ?_|refine bA ?_ _));refine blk_far ?_ NB228_236.out _;(with_reducible repeat (first|refine bN ?_ _|refine bD ?_|refine bA ?_ _));refine blk_far ?_ NB228_236.out _;(with_reducible repeat (first|refine bN ?_ _|refine bD ?_|refine bA ?_ _));refine blk_far ?_ NB228_236.out _;(with_reducible repeat (first|refine bN ?_ _|refine bD ?_|refine bA ?_ _));refine blk_far ?_ NB228_236.out _;(with_reducible repeat (first|refine bN ?_ _|refine bD ?_|refine bA ?_ _));exact BK228.out) Try.underlying35 rfl (by kernel_rfl)) rfl ?_
   exact ⟨_,_,by first|rfl|(simp [errW_none,errW_some] <;> rfl)|(simp [*,errW_none,errW_some] <;> rfl),by (with_reducible repeat (first|apply rA|apply rN|apply rD));exact Kd.R_mono (rF (rF (rF (rF (rF (rF (rF (rY (rY HO231.out BK236.out (by decide)) BK228.out (by decide)) (fun _ hk => hk.1.2) _) (fun _ hk => hk.1.2) _) (fun _ hk => hk.1.2) _) (fun _ hk => hk.1.2) _) (fun _ hk => hk.2) _) (fun _ hk => hk.2) _) (fun _ hk => hk.2) _) (fun _ hk => trivial),by (with_reducible repeat (first|apply rA|apply rN|apply rD));exact Kd.R_mono (rF (rF (rF (rF (rF (rF (rF (rY (rY HO234.out BK236.out (by decide)) BK228.out (by decide)) (fun _ hk => hk.1.2) _) (fun _ hk => hk.1.2) _) (fun _ hk => hk.1.2) _) (fun _ hk => hk.1.2) _) (fun _ hk => hk.2) _) (fun _ hk => hk.2) _) (fun _ hk => hk.2) _) (fun _ hk => trivial),by repeat (first|(with_reducible first|exact HB.out|apply lA|apply lN|apply lD|refine lS ?_ GE227.out|refine lS ?_ GE228.out|refine lS ?_ GE236.out)|exact HB.out)⟩
  ·rw [if_neg c5] at H
   exact absurd H (by simp)
 ·rw [if_neg c4] at H
  exact absurd H (by simp)

end Go.Proofs.Ytekngkljphlliaa.QFnSays
