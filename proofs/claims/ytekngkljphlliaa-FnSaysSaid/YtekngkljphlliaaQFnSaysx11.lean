-- A text of this session, made by wip/own_print.py (the kit's print with additions of ours).
import Derived.Test.YtekngkljphlliaaQFnSaysx0
import Derived.Test.YtekngkljphlliaaQFnSaysx1
import Derived.Test.YtekngkljphlliaaQFnSaysx2
import Derived.Test.YtekngkljphlliaaQFnSaysx3
import Derived.Test.YtekngkljphlliaaQFnSaysx4
import Derived.Test.YtekngkljphlliaaQFnSaysx10
namespace Go.Proofs.Ytekngkljphlliaa.QFnSays
open Go.RowKit Go.Proofs.YtekngkljphlliaaW.PrintWords Go.Proofs.YtekngkljphlliaaW.PrintLast Go.Proofs.YtekngkljphlliaaW.PrintMore
attribute [local go_sem] max2_int min2_int max_two min_two max_three min_three max_four min_four   -- for this text's walks alone
set_option linter.unusedVariables false
set_option linter.unusedSimpArgs false
open Bool renaming true → bT, false → bf
open Go.Proofs.YtekngkljphlliaaW.PrintWords.Kd renaming R_alloc → rA, R_drewN → rN, R_drew → rD, C_alloc → cA, C_drewN → cN, C_drew → cD, R_far → rF, R_below → rB, R_lower → rL, R_lt → rT, R_base → rS, C_below → cB, R_types → rY, R_elder' → rE, R_reads' → rR, R_new' → rW
open Go.Proofs.YtekngkljphlliaaW.PrintWords renaming blk_drewN → bN, blk_drew → bD, blk_alloc → bA, below_set → lS, pw_below_drewN → lN, below_drew1 → lD, below_alloc → lA, blk_cell → bC, blk_below → bB, below_size → lZ, below_step → lP, blk_lt → bL, blk_frozen → bF
open Go.Proofs.YtekngkljphlliaaW.PrintWords.Aside0 renaming mk → aM
theorem q_ia9 {α : Type} (l : List α) (i : Nat) (a : α) : l.toArray.setIfInBounds i a = (l.set i a).toArray := List.setIfInBounds_toArray ..
theorem q_cz9 {α : Type} (a b : α) (l : List α) : (a :: l).set 0 b = b :: l := rfl
theorem q_cs9 {α : Type} (a b : α) (l : List α) (n : Nat) : (a :: l).set (n + 1) b = a :: l.set n b := rfl

attribute [local go_sem high] eqA39 eqA59
/-! ### spec_DrawSay: function 16 -/
def spec_DrawSay.f (k : Nat) (l0 : List Int) : Option ((List (S59)) × (List (S39)) × ByteArray × ByteArray) := (spec_l01New.f k l0).bind fun bt345 => ((spec_l03Val.f bt345.1 bt345.2.1 bt345.2.2).bind fun bt349 => ((spec_l08Any.f k bt345.1 bt349.2.1 bt349.2.2).bind fun bt352 => (some (bt352.1, bt352.2.1, bt352.2.2.1, bt349.1))))
theorem spec_DrawSay.mono : ∀ a0 k, LeO (spec_DrawSay.f k a0) (spec_DrawSay.f (k + 1) a0) := by
 intro a0 k
 unfold spec_DrawSay.f
 repeat' first
   | (with_reducible exact spec_l01New.mono _ _)
   | (with_reducible exact spec_l08Any.mono _ _ _ _)
   | (with_reducible exact LeO.refl _)
   | (with_reducible exact LeO.none _)
   | (with_reducible refine LeO.ite ?_ ?_)
   | (with_reducible refine LeO.bind ?_ (fun _ => ?_))
   | exact spec_l01New.mono _ _
   | exact spec_l08Any.mono _ _ _ _
   | exact LeO.none _
   | refine LeO.ite ?_ ?_
   | refine LeO.bind ?_ (fun _ => ?_)
set_option maxHeartbeats 8000000 in
set_option maxRecDepth 100000 in
theorem spec_DrawSay.calls (k : Nat) (A0 : Option Addr) (c0 : Nat) (l0 : List Int) (r1 : List (S59)) (r2 : List (S39)) (r3 : ByteArray) (r4 : ByteArray) (w : World) (hr0 : Kd.C (Kd.int .u8) w A0 l0.length l0) (hc0 : l0.length ≤ c0) (h : spec_DrawSay.f k l0 = some (r1,r2,r3,r4)) :
  Calls Try.prog 16 #[.slice A0 l0.length c0] w fun e w' => ∃ v0_ v1_ : Value,e = .returned (.tuple #[.agg #[v0_,v1_,.string r3],.string r4]) ∧ Kd.R k59 59 w' w.heap.size (fun _ => True) v0_ r1 ∧ Kd.R k39 39 w' w.heap.size (fun _ => True) v1_ r2 ∧ Below w.heap.size w w':=by
 have hu35:=Try.underlying35
 have HR0:=aM hr0
 have HC0:=aM hc0
 clear hr0 hc0
 have HB:=aM (Below.refl w.heap.size w)
 have H : ((spec_l01New.f k l0).bind fun bt345 => ((spec_l03Val.f bt345.1 bt345.2.1 bt345.2.2).bind fun bt349 => ((spec_l08Any.f k bt345.1 bt349.2.1 bt349.2.2).bind fun bt352 => (some (bt352.1,bt352.2.1,bt352.2.2.1,bt349.1))))) = some (r1,r2,r3,r4):=h
 clear h
 replace H:=Option.bind_eq_some_iff.mp H
 obtain ⟨⟨t345,t346,t347⟩,A20,H⟩:=H
 replace H : ((spec_l03Val.f t345 t346 t347).bind fun bt349 => ((spec_l08Any.f k t345 bt349.2.1 bt349.2.2).bind fun bt352 => (some (bt352.1,bt352.2.1,bt352.2.2.1,bt349.1)))) = some (r1,r2,r3,r4):=H
 have A2:=aM A20
 clear A20
 replace H:=Option.bind_eq_some_iff.mp H
 obtain ⟨⟨t349,t350,t351⟩,A30,H⟩:=H
 replace H : ((spec_l08Any.f k t345 t350 t351).bind fun bt352 => (some (bt352.1,bt352.2.1,bt352.2.2.1,t349))) = some (r1,r2,r3,r4):=H
 have A3:=aM A30
 clear A30
 replace H:=Option.bind_eq_some_iff.mp H
 obtain ⟨⟨t352,t355,t358,t359,t360⟩,A40,H⟩:=H
 replace H : (some (t352,t355,t358,t349)) = some (r1,r2,r3,r4):=H
 have A4:=aM A40
 clear A40
 simp only [Option.some.injEq,Prod.mk.injEq] at H
 obtain ⟨rfl,rfl,rfl,rfl⟩:=H
 go_enter Try.func16,Try.ntmps16
 go_wp2_with (first|((with_reducible refine gate_dst (N:=2) rfl ?_);refine box_event ?hg (N:=2) ?hd (cs:=#[.slice none 0 0,.slice none 0 0,.string (⟨#[]⟩ : ByteArray)]) (t:=35) ?hr ?_;(case hd => rfl);(case hg => rfl);(case hr => first|(go_simp;done)|(go_simp;rfl));intro gb344 hg w5 hbox hb;have n0_:=aM (lQ HB.out hb);have n1_:=aM (hbox);have n2_:=aM ((sQ hg HB.out : w.heap.size ≤ gb344));have n3_:=n2_;clear HB;have HB:=n0_;have BK344:=n1_;have GW344:=n2_;have GE344:=n3_;clear n0_ n1_ n2_ n3_ hb hbox hg)|((with_reducible refine gate_callee (f:=22) rfl ?_);refine goesL_ (some 7) rfl rfl Try.func22 (by kernel_rfl) rfl #[.slice A0 l0.length c0] rfl (by (try simp only [List.map_toArray,List.map_cons,List.map_nil]);first|done|rfl|(simp only [List.length_drop,List.length_take];rfl)) ?_;(with_reducible refine (spec_l01New.calls k _ _ l0 t345 t346 t347 w _ ?side1 ?side2 ?side3 A2.out).mono ?_);(case side1 => repeat (first|(with_reducible first|exact HB.out|apply lA|apply lN|apply lD|refine lS ?_ GE344.out)|exact HB.out));(case side2 => exact HR0.out);(case side3 => exact HC0.out);rintro e w6 ⟨g348,rfl,hi,hb,hb2⟩;refine ⟨_,rfl,?_⟩;have n0_:=aM (bH BK344.out hb2);have n1_:=aM (hb);have n2_:=aM (hi);have n3_:=aM (IsS62.ne_blk hi (bH BK344.out hb2) (by decide));have n4_:=aM (Ne.symm (IsS62.ne_blk hi (bH BK344.out hb2) (by decide)));clear BK344 HB;have BK344:=n0_;have HB:=n1_;have HI348:=n2_;have NB348_344:=n3_;have NB344_348:=n4_;clear n0_ n1_ n2_ n3_ n4_;(try clear hb);(try clear hb2);(try clear hk);(try clear hi))|((with_reducible refine gate_callee (f:=31) rfl ?_);refine goesL_ (some 9) rfl rfl Try.func31 (by kernel_rfl) rfl #[.pointer (some ⟨g348,0,none⟩)] rfl (by (try simp only [List.map_toArray,List.map_cons,List.map_nil]);first|done|rfl|(simp only [List.length_drop,List.length_take];rfl)) ?_;(with_reducible refine (spec_l03Val.calls g348 t345 t346 t347 t349 t350 t351 w _ ?side1 ?side2 A3.out).mono ?_);(case side1 => repeat (first|(with_reducible first|exact HI348.out|apply IsS62.alloc|apply IsS62.drewN|apply IsS62.drew|apply IsS62.set_1|apply IsS62.set_2|refine IsS62.far ?_ NB348_344.out _)|exact HI348.out));(case side2 => repeat (first|(with_reducible first|exact HB.out|apply lA|apply lN|apply lD|refine lS ?_ (IsS62.ge HI348.out)|refine lS ?_ GE344.out)|exact HB.out));rintro e w7 ⟨rfl,hi,hb,hk⟩;refine ⟨_,rfl,?_⟩;have n0_:=aM (KeepBut.blk hk (g':=gb344) (o:=.cells #[.slice none 0 0,.slice none 0 0,.string (⟨#[]⟩ : ByteArray)] 35 (0,0)) (by (with_reducible repeat (first|refine bN ?_ _|refine bD ?_|refine bA ?_ _));exact BK344.out) NB344_348.out (by simp));have n1_:=aM (hb);have n2_:=aM (hi);clear BK344 HB HI348;have BK344:=n0_;have HB:=n1_;have HI348:=n2_;clear n0_ n1_ n2_;(try clear hb);(try clear hb2);(try clear hk);(try clear hi))|((with_reducible refine gate_callee (f:=32) rfl ?_);refine goesL_ (some 11) rfl rfl Try.func32 (by kernel_rfl) rfl #[.pointer (some ⟨g348,0,none⟩)] rfl (by (try simp only [List.map_toArray,List.map_cons,List.map_nil]);first|done|rfl|(simp only [List.length_drop,List.length_take];rfl)) ?_;(with_reducible refine (spec_l08Any.calls k g348 t345 t350 t351 t352 t355 t358 t359 t360 w _ ?side1 ?side2 A4.out).mono ?_);(case side1 => repeat (first|(with_reducible first|exact HI348.out|apply IsS62.alloc|apply IsS62.drewN|apply IsS62.drew|apply IsS62.set_1|apply IsS62.set_2|refine IsS62.far ?_ NB348_344.out _)|exact HI348.out));(case side2 => repeat (first|(with_reducible first|exact HB.out|apply lA|apply lN|apply lD|refine lS ?_ (IsS62.ge HI348.out)|refine lS ?_ GE344.out)|exact HB.out));rintro e w8 ⟨v353,v356,rfl,ho0,ho1,hi,hb,hk⟩;refine ⟨_,rfl,?_⟩;have n0_:=aM (KeepBut.blk hk (g':=gb344) (o:=.cells #[.slice none 0 0,.slice none 0 0,.string (⟨#[]⟩ : ByteArray)] 35 (0,0)) (by (with_reducible repeat (first|refine bN ?_ _|refine bD ?_|refine bA ?_ _));exact BK344.out) NB344_348.out (by simp));have n1_:=aM (rL ho0 (lZ (by repeat (first|(with_reducible first|exact HB.out|apply lA|apply lN|apply lD|refine lS ?_ (IsS62.ge HI348.out)|refine lS ?_ GE344.out)|exact HB.out))));have n2_:=aM (rL ho1 (lZ (by repeat (first|(with_reducible first|exact HB.out|apply lA|apply lN|apply lD|refine lS ?_ (IsS62.ge HI348.out)|refine lS ?_ GE344.out)|exact HB.out))));have n3_:=aM (hb);have n4_:=aM (hi);clear BK344 HB HI348;have BK344:=n0_;have HO354:=n1_;have HO357:=n2_;have HB:=n3_;have HI348:=n4_;clear n0_ n1_ n2_ n3_ n4_;(try clear hb);(try clear hb2);(try clear hk);(try clear hi);(try clear ho0);(try clear ho1);obtain ⟨Ao9,co9,eo9⟩:=Kd.R_slice HO354.out;subst eo9;have hnb10:=NB344_348.out;have hnc10:=NB348_344.out;obtain ⟨⟨hcz11_0,hcz11_1,hcz11_2⟩,hfz11_0,hfz11_1,hfz11_2⟩:=bC3 BK344.out;obtain ⟨Ao12,co12,eo12⟩:=Kd.R_slice HO357.out;subst eo12))
 refine bodyPost_ret (results_ct rfl _ _ gb344 35 #[.slice Ao9 t352.length co9,.slice Ao12 t355.length co12,.string t358] (0,0) _ rfl (by (with_reducible repeat (first|refine bN ?_ _|refine bD ?_|refine bA ?_ _));refine blk_put (cs:=#[.slice Ao9 t352.length co9,.slice Ao12 t355.length co12,.string (⟨#[]⟩ : ByteArray)]) ?_ 2 _ rfl;(with_reducible repeat (first|refine bN ?_ _|refine bD ?_|refine bA ?_ _));refine blk_put (cs:=#[.slice Ao9 t352.length co9,.slice none 0 0,.string (⟨#[]⟩ : ByteArray)]) ?_ 1 _ rfl;(with_reducible repeat (first|refine bN ?_ _|refine bD ?_|refine bA ?_ _));refine blk_put (cs:=#[.slice none 0 0,.slice none 0 0,.string (⟨#[]⟩ : ByteArray)]) ?_ 0 _ rfl;(with_reducible repeat (first|refine bN ?_ _|refine bD ?_|refine bA ?_ _));exact BK344.out) Try.underlying35 rfl (by kernel_rfl)) rfl ?_
 exact ⟨_,_,by first|rfl|(simp [errW_none,errW_some] <;> rfl)|(simp [*,errW_none,errW_some] <;> rfl),by (with_reducible repeat (first|apply rA|apply rN|apply rD));exact Kd.R_mono (rF (rF (rF (rY HO354.out BK344.out (by decide)) (fun _ hk => hk.2) _) (fun _ hk => hk.2) _) (fun _ hk => hk.2) _) (fun _ hk => trivial),by (with_reducible repeat (first|apply rA|apply rN|apply rD));exact Kd.R_mono (rF (rF (rF (rY HO357.out BK344.out (by decide)) (fun _ hk => hk.2) _) (fun _ hk => hk.2) _) (fun _ hk => hk.2) _) (fun _ hk => trivial),by repeat (first|(with_reducible first|exact HB.out|apply lA|apply lN|apply lD|refine lS ?_ (IsS62.ge HI348.out)|refine lS ?_ GE344.out)|exact HB.out)⟩

/-! ### impl_Say: function 17 -/
def impl_Say.f (l0_0 : List S59) (l0_1 : List S39) (a0_2 : ByteArray) (a1 : ByteArray) : Option ((List (S59)) × (List (S39)) × ByteArray):=(impl_copyStore.f l0_0 l0_1 a0_2).bind fun bt => ((impl_Store_say.f bt.1 bt.2.1 bt.2.2 a1).bind fun t => (some (bt.1,bt.2.1,t)))
set_option maxHeartbeats 8000000 in
set_option maxRecDepth 100000 in
theorem impl_Say.calls (A0_0 : Option Addr) (c0_0 : Nat) (l0_0 : List (S59)) (A0_1 : Option Addr) (c0_1 : Nat) (l0_1 : List (S39)) (a0_2 : ByteArray) (a1 : ByteArray) (r1 : List (S59)) (r2 : List (S39)) (r3 : ByteArray) (w : World) (hr0_0 : Kd.C k59 w A0_0 l0_0.length l0_0) (hc0_0 : l0_0.length ≤ c0_0) (hr0_1 : Kd.C k39 w A0_1 l0_1.length l0_1) (hc0_1 : l0_1.length ≤ c0_1) (h : impl_Say.f l0_0 l0_1 a0_2 a1 = some (r1,r2,r3)) :
  Calls Try.prog 17 #[.agg #[.slice A0_0 l0_0.length c0_0,.slice A0_1 l0_1.length c0_1,.string a0_2],.string a1] w fun e w' => ∃ v0_ v1_ : Value,e = .returned (.agg #[v0_,v1_,.string r3]) ∧ Kd.R k59 59 w' w.heap.size (fun _ => True) v0_ r1 ∧ Kd.R k39 39 w' w.heap.size (fun _ => True) v1_ r2 ∧ Below w.heap.size w w':=by
 have HR0_0:=aM hr0_0
 have HC0_0:=aM hc0_0
 clear hr0_0 hc0_0
 have HR0_1:=aM hr0_1
 have HC0_1:=aM hc0_1
 clear hr0_1 hc0_1
 have HB:=aM (Below.refl w.heap.size w)
 have H:=Option.bind_eq_some_iff.mp h
 clear h
 obtain ⟨⟨t1,t2,t3⟩,A30,H⟩:=H
 replace H:=Option.bind_eq_some_iff.mp H
 obtain ⟨t4,A40,H⟩:=H
 have A3:=aM A30
 have A4:=aM A40
 clear A30 A40
 simp only [Option.some.injEq,Prod.mk.injEq] at H
 obtain ⟨rfl,rfl,rfl⟩:=H
 have hu35:=Try.underlying35
 go_enter Try.func17,Try.ntmps17
 go_wp2_with (first|((with_reducible refine gate_dst (N:=2) rfl ?_);refine box_event ?hg (N:=2) ?hd (cs:=#[.slice A0_0 l0_0.length c0_0,.slice A0_1 l0_1.length c0_1,.string a0_2]) (t:=35) ?hr ?_;(case hd => rfl);(case hg => rfl);(case hr => first|(go_simp;done)|(go_simp;rfl));intro gb10 hg w7 hbox hb;have n0_:=aM (lQ HB.out hb);have n1_:=aM hbox;have n2_:=aM ((by rw [hg];exact (lZ (by repeat (first|(with_reducible first|exact HB.out|apply lA|apply lN|apply lD)|exact HB.out)))) : w.heap.size ≤ gb10);clear HB;have HB:=n0_;have BK10:=n1_;have GE10:=n2_;clear n0_ n1_ n2_ hb hbox hg)|((with_reducible refine gate_dst (N:=4) rfl ?_);refine box_event ?hg (N:=4) ?hd (cs:=#[.slice none 0 0,.slice none 0 0,.string (⟨#[]⟩ : ByteArray)]) (t:=35) ?hr ?_;(case hd => rfl);(case hg => rfl);(case hr => first|(go_simp;done)|(go_simp;rfl));intro gb11 hg w8 hbox hb;have n0_:=aM (bH BK10.out hb);have n1_:=aM (lQ HB.out hb);have n2_:=aM hbox;have n3_:=aM ((by rw [hg];exact (lZ (by repeat (first|(with_reducible first|exact HB.out|apply lA|apply lN|apply lD|refine lS ?_ GE10.out)|exact HB.out)))) : w.heap.size ≤ gb11);have n5_:=aM ((by rw [hg];exact Nat.ne_of_lt (bL (g:=gb10) (o:=.cells #[.slice A0_0 l0_0.length c0_0,.slice A0_1 l0_1.length c0_1,.string a0_2] 35 (0,0)) (by (with_reducible repeat (first|refine bN ?_ _|refine bD ?_|refine bA ?_ _));exact BK10.out))) : gb10 ≠ gb11);clear BK10 HB;have BK10:=n0_;have HB:=n1_;have BK11:=n2_;have GE11:=n3_;have NB10_11:=n5_;clear n0_ n1_ n2_ n3_ n5_ hb hbox hg;have hnb9:=NB10_11.out;have hnc9:=NB10_11.out.symm;have hcz10_0 : w8.cell? ⟨gb10,0,none⟩ = some (.slice A0_0 l0_0.length c0_0):=(bC BK10.out 0).trans rfl;have hcz10_1 : w8.cell? ⟨gb10,1,none⟩ = some (.slice A0_1 l0_1.length c0_1):=(bC BK10.out 1).trans rfl;have hcz10_2 : w8.cell? ⟨gb10,2,none⟩ = some (.string a0_2):=(bC BK10.out 2).trans rfl;have hcz10f_0:=bF BK10.out 0;have hcz10f_1:=bF BK10.out 1;have hcz10f_2:=bF BK10.out 2)|((with_reducible refine gate_callee (f:=28) rfl ?_);refine goesL_ (some 7) rfl rfl Try.func28 (by kernel_rfl) rfl #[.agg #[.slice A0_0 l0_0.length c0_0,.slice A0_1 l0_1.length c0_1,.string a0_2]] rfl (by (try simp only [List.map_toArray,List.map_cons,List.map_nil]);first|done|rfl|(simp only [List.length_drop,List.length_take];rfl)) ?_;(with_reducible refine (impl_copyStore.calls _ _ l0_0 _ _ l0_1 a0_2 t1 t2 t3 _ ?side1 ?side2 ?side3 ?side4 A3.out).mono ?_);(case side1 => repeat (first|exact (cB HR0_0.out HB.out)|(with_reducible first|refine cA ?_ _|refine cN ?_ _|refine cD ?_)));(case side2 => exact HC0_0.out);(case side3 => repeat (first|exact (cB HR0_1.out HB.out)|(with_reducible first|refine cA ?_ _|refine cN ?_ _|refine cD ?_)));(case side4 => exact HC0_1.out);rintro e w11 ⟨v13,v16,rfl,ho0,ho1,hb⟩;refine ⟨_,rfl,?_⟩;obtain ⟨Ao1,co1,eo1⟩:=Kd.R_slice ho0;subst eo1;obtain ⟨Ao2,co2,eo2⟩:=Kd.R_slice ho1;subst eo2;have n0_:=aM (rL ho0 (lZ (by repeat (first|(with_reducible first|exact HB.out|apply lA|apply lN|apply lD|refine lS ?_ GE10.out|refine lS ?_ GE11.out)|exact HB.out))));have n1_:=aM (rL ho1 (lZ (by repeat (first|(with_reducible first|exact HB.out|apply lA|apply lN|apply lD|refine lS ?_ GE10.out|refine lS ?_ GE11.out)|exact HB.out))));have n2_:=aM (bH BK10.out hb);have n3_:=aM (bH BK11.out hb);have n4_:=aM (lQ HB.out hb);clear BK10 BK11 HB;have HO1:=n0_;have HO2:=n1_;have BK10:=n2_;have BK11:=n3_;have HB:=n4_;clear n0_ n1_ n2_ n3_ n4_ hb ho0 ho1)|((with_reducible refine gate_dst (N:=5) rfl ?_);refine box_event ?hg (N:=5) ?hd (cs:=#[.slice none 0 0,.slice none 0 0,.string (⟨#[]⟩ : ByteArray)]) (t:=35) ?hr ?_;(case hd => rfl);(case hg => rfl);(case hr => first|(go_simp;done)|(go_simp;rfl));intro gb19 hg w12 hbox hb;have SHG:=aM ((by rw [hg];exact Nat.le_refl _) : w11.heap.size ≤ gb19);have SHB:=aM ((by (with_reducible repeat (first|apply lN|apply lD));exact hb) : Below w11.heap.size w11 w12);have n5_:=aM hbox;have n8_:=aM ((by rw [hg];exact Nat.ne_of_lt (bL (g:=gb10) (o:=.cells #[.slice A0_0 l0_0.length c0_0,.slice A0_1 l0_1.length c0_1,.string a0_2] 35 (0,0)) (by (with_reducible repeat (first|refine bN ?_ _|refine bD ?_|refine bA ?_ _));exact BK10.out))) : gb10 ≠ gb19);have n10_:=aM ((by rw [hg];exact Nat.ne_of_lt (bL (g:=gb11) (o:=.cells #[.slice none 0 0,.slice none 0 0,.string (⟨#[]⟩ : ByteArray)] 35 (0,0)) (by (with_reducible repeat (first|refine bN ?_ _|refine bD ?_|refine bA ?_ _));exact BK11.out))) : gb11 ≠ gb19);have BK19:=n5_;have NB10_19:=n8_;have NB11_19:=n10_;clear n5_ n8_ n10_ hb hbox hg;have hnb14:=NB10_19.out;have hnc14:=NB10_19.out.symm;have hnb15:=NB11_19.out;have hnc15:=NB11_19.out.symm;have hcz16_0 : w12.cell? ⟨gb19,0,none⟩ = some (.slice none 0 0):=(bC BK19.out 0).trans rfl;have hcz16_1 : w12.cell? ⟨gb19,1,none⟩ = some (.slice none 0 0):=(bC BK19.out 1).trans rfl;have hcz16_2 : w12.cell? ⟨gb19,2,none⟩ = some (.string (⟨#[]⟩ : ByteArray)):=(bC BK19.out 2).trans rfl;have hcz16f_0:=bF BK19.out 0;have hcz16f_1:=bF BK19.out 1;have hcz16f_2:=bF BK19.out 2)|((with_reducible refine gate_callee (f:=33) rfl ?_);refine goesL_ (some 9) rfl rfl Try.func33 (by kernel_rfl) rfl #[.pointer (some ⟨gb19,0,none⟩),.string a1] rfl (by (try simp only [List.map_toArray,List.map_cons,List.map_nil]);first|done|rfl) ?_;(with_reducible refine (@impl_Store_say.calls (fun A c B d => A = Ao1 ∧ c = co1 ∧ B = Ao2 ∧ d = co2) gb19 t1 t2 t3 a1 t4 w11 _ ?side1 ?side2 A4.out).mono ?_);(case side1 => exact ⟨Ao1,co1,Ao2,co2,(by (with_reducible repeat (first|refine bN ?_ _|refine bD ?_|refine bA ?_ _));refine blk_put (cs:=#[.slice Ao1 t1.length co1,.slice Ao2 t2.length co2,.string (⟨#[]⟩ : ByteArray)]) ?_ 2 _ rfl;refine blk_put (cs:=#[.slice Ao1 t1.length co1,.slice none 0 0,.string (⟨#[]⟩ : ByteArray)]) ?_ 1 _ rfl;refine blk_put (cs:=#[.slice none 0 0,.slice none 0 0,.string (⟨#[]⟩ : ByteArray)]) ?_ 0 _ rfl;(with_reducible repeat (first|refine bN ?_ _|refine bD ?_|refine bA ?_ _));exact BK19.out),⟨SHG.out,rfl,rfl,rfl,rfl⟩,(rR HO1.out).2.2,(rR HO2.out).2.2⟩);(case side2 => repeat (first|exact SHB.out|apply lA|apply lN|apply lD|refine lS ?_ SHG.out));rintro e w13 ⟨rfl,hI,hb,hk⟩;refine ⟨_,rfl,?_⟩;obtain ⟨A_,c_,B_,d_,hblk,⟨hge_,he1_,he2_,he3_,he4_⟩,hC1_,hC2_⟩:=hI;clear hge_ hC1_ hC2_;rw [he1_,he2_,he3_,he4_] at hblk;clear he1_ he2_ he3_ he4_;have n0_:=aM (rB HO1.out hb);have n1_:=aM (rB HO2.out hb);have n3_:=aM (bB BK11.out hb);have n4_:=aM (lP HB.out hb);have n5_:=aM hblk;clear hblk hb hk BK10 BK11 BK19 HB HO1 HO2;have HO1:=n0_;have HO2:=n1_;have BK11:=n3_;have HB:=n4_;have BK19:=n5_;clear n0_ n1_ n3_ n4_ n5_;have hcz17_0 : w13.cell? ⟨gb19,0,none⟩ = some (.slice Ao1 t1.length co1):=(bC BK19.out 0).trans rfl;have hcz17_1 : w13.cell? ⟨gb19,1,none⟩ = some (.slice Ao2 t2.length co2):=(bC BK19.out 1).trans rfl;have hcz17_2 : w13.cell? ⟨gb19,2,none⟩ = some (.string t4):=(bC BK19.out 2).trans rfl;have hcz17f_0:=bF BK19.out 0;have hcz17f_1:=bF BK19.out 1;have hcz17f_2:=bF BK19.out 2;have hcz18_0 : w13.cell? ⟨gb11,0,none⟩ = some (.slice none 0 0):=(bC BK11.out 0).trans rfl;have hcz18_1 : w13.cell? ⟨gb11,1,none⟩ = some (.slice none 0 0):=(bC BK11.out 1).trans rfl;have hcz18_2 : w13.cell? ⟨gb11,2,none⟩ = some (.string (⟨#[]⟩ : ByteArray)):=(bC BK11.out 2).trans rfl;have hcz18f_0:=bF BK11.out 0;have hcz18f_1:=bF BK11.out 1;have hcz18f_2:=bF BK11.out 2))
 refine bodyPost_ret (results_cell_row rfl _ _ gb11 35 #[.slice Ao1 t1.length co1,.slice Ao2 t2.length co2,.string t4] (0,0) _ rfl (by (with_reducible repeat (first|refine bN ?_ _|refine bD ?_|refine bA ?_ _));refine blk_put (cs:=#[.slice Ao1 t1.length co1,.slice Ao2 t2.length co2,.string (⟨#[]⟩ : ByteArray)]) ?_ 2 _ rfl;refine blk_put (cs:=#[.slice Ao1 t1.length co1,.slice none 0 0,.string (⟨#[]⟩ : ByteArray)]) ?_ 1 _ rfl;refine blk_put (cs:=#[.slice none 0 0,.slice none 0 0,.string (⟨#[]⟩ : ByteArray)]) ?_ 0 _ rfl;(with_reducible repeat (first|refine bN ?_ _|refine bD ?_|refine bA ?_ _));exact BK11.out) Try.underlying35 rfl (by kernel_rfl)) rfl ?_
 exact ⟨_,_,rfl,(by (with_reducible repeat (first|apply rA|apply rN|apply rD));exact (Kd.R_mono (rF (rF (rF (rY HO1.out BK11.out (by decide)) (fun _ hk => hk.2) _) (fun _ hk => hk.2) _) (fun _ hk => hk.2) _) (fun _ hk => trivial))),(by (with_reducible repeat (first|apply rA|apply rN|apply rD));exact (Kd.R_mono (rF (rF (rF (rY HO2.out BK11.out (by decide)) (fun _ hk => hk.2) _) (fun _ hk => hk.2) _) (fun _ hk => hk.2) _) (fun _ hk => trivial))),(by repeat (first|(with_reducible first|exact HB.out|apply lA|apply lN|apply lD|refine lS ?_ GE10.out|refine lS ?_ GE11.out)|exact HB.out))⟩

/-! ### spec_DrawDump: function 18 -/
def spec_DrawDump.f (k : Nat) (l0 : List Int) : Option ((List (S59)) × (List (S39)) × ByteArray × ByteArray):=(spec_l01New.f k l0).bind fun bt362 => ((spec_l01Pick.f bt362.1 bt362.2.1 bt362.2.2 (([(⟨#[116]⟩ : ByteArray),(⟨#[117]⟩ : ByteArray),(⟨#[116]⟩ : ByteArray),(⟨#[110,111,110,101]⟩ : ByteArray)] : List ByteArray))).bind fun bt369 => ((spec_l08Any.f k bt362.1 bt369.2.1 bt369.2.2).bind fun bt372 => (some (bt372.1,bt372.2.1,bt372.2.2.1,bt369.1))))
theorem spec_DrawDump.mono : ∀ a0 k,LeO (spec_DrawDump.f k a0) (spec_DrawDump.f (k + 1) a0):=by
 intro a0 k
 unfold spec_DrawDump.f
 repeat' first
   |(with_reducible exact spec_l01New.mono _ _)
   |(with_reducible exact spec_l08Any.mono _ _ _ _)
   |(with_reducible exact LeO.refl _)
   |(with_reducible exact LeO.none _)
   |(with_reducible refine LeO.ite ?_ ?_)
   |(with_reducible refine LeO.bind ?_ (fun _ => ?_))
   |exact spec_l01New.mono _ _
   |exact spec_l08Any.mono _ _ _ _
   |exact LeO.none _
   |refine LeO.ite ?_ ?_
   |refine LeO.bind ?_ (fun _ => ?_)
set_option maxHeartbeats 8000000 in
set_option maxRecDepth 100000 in
theorem spec_DrawDump.calls (k : Nat) (A0 : Option Addr) (c0 : Nat) (l0 : List Int) (r1 : List (S59)) (r2 : List (S39)) (r3 : ByteArray) (r4 : ByteArray) (w : World) (hr0 : Kd.C (Kd.int .u8) w A0 l0.length l0) (hc0 : l0.length ≤ c0) (h : spec_DrawDump.f k l0 = some (r1,r2,r3,r4)) :
  Calls Try.prog 18 #[.slice A0 l0.length c0] w fun e w' => ∃ v0_ v1_ : Value,e = .returned (.tuple #[.agg #[v0_,v1_,.string r3],.string r4]) ∧ Kd.R k59 59 w' w.heap.size (fun _ => True) v0_ r1 ∧ Kd.R k39 39 w' w.heap.size (fun _ => True) v1_ r2 ∧ Below w.heap.size w w':=by
 have hu35:=Try.underlying35
 have HR0:=aM hr0
 have HC0:=aM hc0
 clear hr0 hc0
 have HB:=aM (Below.refl w.heap.size w)
 have H : ((spec_l01New.f k l0).bind fun bt362 => ((spec_l01Pick.f bt362.1 bt362.2.1 bt362.2.2 (([(⟨#[116]⟩ : ByteArray),(⟨#[117]⟩ : ByteArray),(⟨#[116]⟩ : ByteArray),(⟨#[110,111,110,101]⟩ : ByteArray)] : List ByteArray))).bind fun bt369 => ((spec_l08Any.f k bt362.1 bt369.2.1 bt369.2.2).bind fun bt372 => (some (bt372.1,bt372.2.1,bt372.2.2.1,bt369.1))))) = some (r1,r2,r3,r4):=h
 clear h
 replace H:=Option.bind_eq_some_iff.mp H
 obtain ⟨⟨t362,t363,t364⟩,A20,H⟩:=H
 replace H : ((spec_l01Pick.f t362 t363 t364 (([(⟨#[116]⟩ : ByteArray),(⟨#[117]⟩ : ByteArray),(⟨#[116]⟩ : ByteArray),(⟨#[110,111,110,101]⟩ : ByteArray)] : List ByteArray))).bind fun bt369 => ((spec_l08Any.f k t362 bt369.2.1 bt369.2.2).bind fun bt372 => (some (bt372.1,bt372.2.1,bt372.2.2.1,bt369.1)))) = some (r1,r2,r3,r4):=H
 have A2:=aM A20
 clear A20
 obtain ⟨y366,hy366⟩ : ∃ y_ : List ByteArray,y_ = (([(⟨#[116]⟩ : ByteArray),(⟨#[117]⟩ : ByteArray),(⟨#[116]⟩ : ByteArray),(⟨#[110,111,110,101]⟩ : ByteArray)] : List ByteArray)):=⟨_,rfl⟩
 replace H : ((spec_l01Pick.f t362 t363 t364 y366).bind fun bt369 => ((spec_l08Any.f k t362 bt369.2.1 bt369.2.2).bind fun bt372 => (some (bt372.1,bt372.2.1,bt372.2.2.1,bt369.1)))) = some (r1,r2,r3,r4):=by first|(rw [hy366];with_reducible exact H)|(have H2_:=(Option.bind_some _ _).symm.trans H;rw [hy366];with_reducible exact H2_)|(have H2_:=(Option.bind_some _ _).symm.trans H;with_reducible exact H2_)|with_reducible exact H|(rw [hy366];exact H)|exact H
 have Ny366:=aM hy366
 clear hy366
 replace H:=Option.bind_eq_some_iff.mp H
 obtain ⟨⟨t369,t370,t371⟩,A30,H⟩:=H
 replace H : ((spec_l08Any.f k t362 t370 t371).bind fun bt372 => (some (bt372.1,bt372.2.1,bt372.2.2.1,t369))) = some (r1,r2,r3,r4):=H
 have A3:=aM A30
 clear A30
 replace H:=Option.bind_eq_some_iff.mp H
 obtain ⟨⟨t372,t375,t378,t379,t380⟩,A40,H⟩:=H
 replace H : (some (t372,t375,t378,t369)) = some (r1,r2,r3,r4):=H
 have A4:=aM A40
 clear A40
 simp only [Option.some.injEq,Prod.mk.injEq] at H
 obtain ⟨rfl,rfl,rfl,rfl⟩:=H
 go_enter Try.func18,Try.ntmps18
 go_wp2_with (first|((with_reducible refine gate_dst (N:=2) rfl ?_);refine box_event ?hg (N:=2) ?hd (cs:=#[.slice none 0 0,.slice none 0 0,.string (⟨#[]⟩ : ByteArray)]) (t:=35) ?hr ?_;(case hd => rfl);(case hg => rfl);(case hr => first|(go_simp;done)|(go_simp;rfl));intro gb361 hg w5 hbox hb;have n0_:=aM (lQ HB.out hb);have n1_:=aM (hbox);have n2_:=aM ((sQ hg HB.out : w.heap.size ≤ gb361));have n3_:=n2_;clear HB;have HB:=n0_;have BK361:=n1_;have GW361:=n2_;have GE361:=n3_;clear n0_ n1_ n2_ n3_ hb hbox hg)|((with_reducible refine gate_callee (f:=22) rfl ?_);refine goesL_ (some 7) rfl rfl Try.func22 (by kernel_rfl) rfl #[.slice A0 l0.length c0] rfl (by (try simp only [List.map_toArray,List.map_cons,List.map_nil]);first|done|rfl|(simp only [List.length_drop,List.length_take];rfl)) ?_;(with_reducible refine (spec_l01New.calls k _ _ l0 t362 t363 t364 w _ ?side1 ?side2 ?side3 A2.out).mono ?_);(case side1 => repeat (first|(with_reducible first|exact HB.out|apply lA|apply lN|apply lD|refine lS ?_ GE361.out)|exact HB.out));(case side2 => exact HR0.out);(case side3 => exact HC0.out);rintro e w6 ⟨g365,rfl,hi,hb,hb2⟩;refine ⟨_,rfl,?_⟩;have n0_:=aM (bH BK361.out hb2);have n1_:=aM (hb);have n2_:=aM (hi);have n3_:=aM (IsS62.ne_blk hi (bH BK361.out hb2) (by decide));have n4_:=aM (Ne.symm (IsS62.ne_blk hi (bH BK361.out hb2) (by decide)));clear BK361 HB;have BK361:=n0_;have HB:=n1_;have HI365:=n2_;have NB365_361:=n3_;have NB361_365:=n4_;clear n0_ n1_ n2_ n3_ n4_;(try clear hb);(try clear hb2);(try clear hk);(try clear hi))|((with_reducible refine gate_dst (N:=9) rfl ?_);refine Kd.R_lit Kd.string _ 9 ?hg (N:=9) ?hd (xs:=([(⟨#[116]⟩ : ByteArray),(⟨#[117]⟩ : ByteArray),(⟨#[116]⟩ : ByteArray),(⟨#[110,111,110,101]⟩ : ByteArray)] : List ByteArray)) (inner:=[.string (⟨#[116]⟩ : ByteArray),.string (⟨#[117]⟩ : ByteArray),.string (⟨#[116]⟩ : ByteArray),.string (⟨#[110,111,110,101]⟩ : ByteArray)]) (ok:=fun _ => True) (okp:=fun _ => True) ?hr ?hp (fun _ hk => hk) trivial (Below.refl _ _) (Nat.le_refl _) (by simp) ?_;(case hd => rfl);(case hg => rfl);(case hr => first|(go_simp;done)|(go_simp;rfl));(case hp => exact (Reps.one (show Kd.M Kd.string _ _ _ (⟨#[116]⟩ : ByteArray) [.string (⟨#[116]⟩ : ByteArray)] from rfl) (Reps.one (show Kd.M Kd.string _ _ _ (⟨#[117]⟩ : ByteArray) [.string (⟨#[117]⟩ : ByteArray)] from rfl) (Reps.one (show Kd.M Kd.string _ _ _ (⟨#[116]⟩ : ByteArray) [.string (⟨#[116]⟩ : ByteArray)] from rfl) (Reps.one (show Kd.M Kd.string _ _ _ (⟨#[110,111,110,101]⟩ : ByteArray) [.string (⟨#[110,111,110,101]⟩ : ByteArray)] from rfl) (Reps.none _ _))))));intro v367 w7 ho8 hb hg_ hnew_;clear hg_ hnew_;(first|rw [← Ny366.out] at ho8|(simp only [Int.reduceToNat] at ho8;rw [← Ny366.out] at ho8));have n0_:=aM (rL ho8 (lZ (by repeat (first|(with_reducible first|exact HB.out|apply lA|apply lN|apply lD|refine lS ?_ (IsS62.ge HI365.out)|refine lS ?_ GE361.out)|exact HB.out))));have n1_:=aM (bH BK361.out hb);have n2_:=aM (IsS62.below (by repeat (first|(with_reducible first|exact HI365.out|apply IsS62.alloc|apply IsS62.drewN|apply IsS62.drew|apply IsS62.set_1|apply IsS62.set_2|refine IsS62.far ?_ NB365_361.out _)|exact HI365.out)) hb);have n3_:=aM (lP (by repeat (first|(with_reducible first|exact HB.out|apply lA|apply lN|apply lD|refine lS ?_ (IsS62.ge HI365.out)|refine lS ?_ GE361.out)|exact HB.out)) hb);clear BK361 HI365 HB;have HO368:=n0_;have BK361:=n1_;have HI365:=n2_;have HB:=n3_;clear n0_ n1_ n2_ n3_ hb ho8;obtain ⟨Ao9,co9,eo9⟩:=Kd.R_slice HO368.out;subst eo9)|((with_reducible refine gate_callee (f:=34) rfl ?_);refine goesL_ (some 10) rfl rfl Try.func34 (by kernel_rfl) rfl #[.pointer (some ⟨g365,0,none⟩),.slice Ao9 y366.length co9] rfl (by (try simp only [List.map_toArray,List.map_cons,List.map_nil]);first|done|rfl|(simp only [List.length_drop,List.length_take];rfl)) ?_;(with_reducible refine (spec_l01Pick.calls g365 t362 t363 t364 _ _ y366 t369 t370 t371 w _ ?side1 ?side2 ?side3 ?side4 ?side5 A3.out).mono ?_);(case side1 => repeat (first|(with_reducible first|exact HI365.out|apply IsS62.alloc|apply IsS62.drewN|apply IsS62.drew|apply IsS62.set_1|apply IsS62.set_2|refine IsS62.far ?_ NB365_361.out _)|exact HI365.out));(case side2 => repeat (first|(with_reducible first|exact HB.out|apply lA|apply lN|apply lD|refine lS ?_ (IsS62.ge HI365.out)|refine lS ?_ GE361.out)|exact HB.out));(case side3 => repeat (first|exact (rR HO368.out).2.2|(with_reducible first|refine cA ?_ _|refine cN ?_ _|refine cD ?_)));(case side4 => exact (rR HO368.out).2.1);(case side5 => exact far_slice (IsS62.own_ne HI365.out HO368.out (by decide)));rintro e w10 ⟨rfl,hi,hb,hk⟩;refine ⟨_,rfl,?_⟩;have n0_:=aM (KeepBut.blk hk (g':=gb361) (o:=.cells #[.slice none 0 0,.slice none 0 0,.string (⟨#[]⟩ : ByteArray)] 35 (0,0)) (by (with_reducible repeat (first|refine bN ?_ _|refine bD ?_|refine bA ?_ _));exact BK361.out) NB361_365.out (by simp));have n1_:=aM (Kd.R_mono (Kd.R_keep (IsS62.apart (show IsS62 w _ g365 t362 t363 t364 from by repeat (first|(with_reducible first|exact HI365.out|apply IsS62.alloc|apply IsS62.drewN|apply IsS62.drew|apply IsS62.set_1|apply IsS62.set_2|refine IsS62.far ?_ NB365_361.out _)|exact HI365.out)) (rZ HO368.out) (by decide)) hk (fun _ h => h.2)) (fun _ h => h.1));have n2_:=aM (hb);have n3_:=aM (hi);clear BK361 HO368 HB HI365;have BK361:=n0_;have HO368:=n1_;have HB:=n2_;have HI365:=n3_;clear n0_ n1_ n2_ n3_;(try clear hb);(try clear hb2);(try clear hk);(try clear hi))|((with_reducible refine gate_callee (f:=32) rfl ?_);refine goesL_ (some 12) rfl rfl Try.func32 (by kernel_rfl) rfl #[.pointer (some ⟨g365,0,none⟩)] rfl (by (try simp only [List.map_toArray,List.map_cons,List.map_nil]);first|done|rfl|(simp only [List.length_drop,List.length_take];rfl)) ?_;(with_reducible refine (spec_l08Any.calls k g365 t362 t370 t371 t372 t375 t378 t379 t380 w _ ?side1 ?side2 A4.out).mono ?_);(case side1 => repeat (first|(with_reducible first|exact HI365.out|apply IsS62.alloc|apply IsS62.drewN|apply IsS62.drew|apply IsS62.set_1|apply IsS62.set_2|refine IsS62.far ?_ NB365_361.out _)|exact HI365.out));(case side2 => repeat (first|(with_reducible first|exact HB.out|apply lA|apply lN|apply lD|refine lS ?_ (IsS62.ge HI365.out)|refine lS ?_ GE361.out)|exact HB.out));rintro e w11 ⟨v373,v376,rfl,ho0,ho1,hi,hb,hk⟩;refine ⟨_,rfl,?_⟩;have n0_:=aM (KeepBut.blk hk (g':=gb361) (o:=.cells #[.slice none 0 0,.slice none 0 0,.string (⟨#[]⟩ : ByteArray)] 35 (0,0)) (by (with_reducible repeat (first|refine bN ?_ _|refine bD ?_|refine bA ?_ _));exact BK361.out) NB361_365.out (by simp));have n1_:=aM (Kd.R_mono (Kd.R_keep (IsS62.apart (show IsS62 w _ g365 t362 t370 t371 from by repeat (first|(with_reducible first|exact HI365.out|apply IsS62.alloc|apply IsS62.drewN|apply IsS62.drew|apply IsS62.set_1|apply IsS62.set_2|refine IsS62.far ?_ NB365_361.out _)|exact HI365.out)) (rZ HO368.out) (by decide)) hk (fun _ h => h.2)) (fun _ h => h.1));have n2_:=aM (rL ho0 (lZ (by repeat (first|(with_reducible first|exact HB.out|apply lA|apply lN|apply lD|refine lS ?_ (IsS62.ge HI365.out)|refine lS ?_ GE361.out)|exact HB.out))));have n3_:=aM (rL ho1 (lZ (by repeat (first|(with_reducible first|exact HB.out|apply lA|apply lN|apply lD|refine lS ?_ (IsS62.ge HI365.out)|refine lS ?_ GE361.out)|exact HB.out))));have n4_:=aM (hb);have n5_:=aM (hi);clear BK361 HO368 HB HI365;have BK361:=n0_;have HO368:=n1_;have HO374:=n2_;have HO377:=n3_;have HB:=n4_;have HI365:=n5_;clear n0_ n1_ n2_ n3_ n4_ n5_;(try clear hb);(try clear hb2);(try clear hk);(try clear hi);(try clear ho0);(try clear ho1);obtain ⟨Ao12,co12,eo12⟩:=Kd.R_slice HO374.out;subst eo12;have hnb13:=NB361_365.out;have hnc13:=NB365_361.out;obtain ⟨⟨hcz14_0,hcz14_1,hcz14_2⟩,hfz14_0,hfz14_1,hfz14_2⟩:=bC3 BK361.out;obtain ⟨Ao15,co15,eo15⟩:=Kd.R_slice HO377.out;subst eo15))
 refine bodyPost_ret (results_ct rfl _ _ gb361 35 #[.slice Ao12 t372.length co12,.slice Ao15 t375.length co15,.string t378] (0,0) _ rfl (by (with_reducible repeat (first|refine bN ?_ _|refine bD ?_|refine bA ?_ _));refine blk_put (cs:=#[.slice Ao12 t372.length co12,.slice Ao15 t375.length co15,.string (⟨#[]⟩ : ByteArray)]) ?_ 2 _ rfl;(with_reducible repeat (first|refine bN ?_ _|refine bD ?_|refine bA ?_ _));refine blk_put (cs:=#[.slice Ao12 t372.length co12,.slice none 0 0,.string (⟨#[]⟩ : ByteArray)]) ?_ 1 _ rfl;(with_reducible repeat (first|refine bN ?_ _|refine bD ?_|refine bA ?_ _));refine blk_put (cs:=#[.slice none 0 0,.slice none 0 0,.string (⟨#[]⟩ : ByteArray)]) ?_ 0 _ rfl;(with_reducible repeat (first|refine bN ?_ _|refine bD ?_|refine bA ?_ _));exact BK361.out) Try.underlying35 rfl (by kernel_rfl)) rfl ?_
 exact ⟨_,_,by first|rfl|(simp [errW_none,errW_some] <;> rfl)|(simp [*,errW_none,errW_some] <;> rfl),by (with_reducible repeat (first|apply rA|apply rN|apply rD));exact Kd.R_mono (rF (rF (rF (rY HO374.out BK361.out (by decide)) (fun _ hk => hk.2) _) (fun _ hk => hk.2) _) (fun _ hk => hk.2) _) (fun _ hk => trivial),by (with_reducible repeat (first|apply rA|apply rN|apply rD));exact Kd.R_mono (rF (rF (rF (rY HO377.out BK361.out (by decide)) (fun _ hk => hk.2) _) (fun _ hk => hk.2) _) (fun _ hk => hk.2) _) (fun _ hk => trivial),by repeat (first|(with_reducible first|exact HB.out|apply lA|apply lN|apply lD|refine lS ?_ (IsS62.ge HI365.out)|refine lS ?_ GE361.out)|exact HB.out)⟩

/-! ### spec_SameStore: function 19 -/
mutual
def spec_SameStore.j0 : Nat → Bool → List (S59) → List (S39) → ByteArray → List (S59) → List (S39) → ByteArray → Option (Bool)
 |0,_,_,_,_,_,_,_ => none
 |k + 1,x29,x382000,x382001,x382002,x383000,x383001,x383002 => if x29 = true then (some false) else (spec_SameStore.l0 k 0 x382000 x382001 x382002 x383000 x383001 x383002)
def spec_SameStore.l0 : Nat → Int → List (S59) → List (S39) → ByteArray → List (S59) → List (S39) → ByteArray → Option (Bool)
 |0,_,_,_,_,_,_,_ => none
 |k + 1,x5,x382000,x382001,x382002,x383000,x383001,x383002 => if x5 < (x382000.length : Int) then (if 0 ≤ x5 then (if x5 < (x383000.length : Int) then (if (!((((rd_T59 x382000 x5).f0).toList) == (((rd_T59 x383000 x5).f0).toList))||(!((((rd_T59 x382000 x5).f1).toList) == (((rd_T59 x383000 x5).f1).toList)))) = true then (some false) else (spec_SameStore.l0 k (wrap64 (x5 + 1)) x382000 x382001 x382002 x383000 x383001 x383002)) else (none)) else (none)) else (spec_SameStore.l1 k 0 x382000 x382001 x382002 x383000 x383001 x383002)
def spec_SameStore.l1 : Nat → Int → List (S59) → List (S39) → ByteArray → List (S59) → List (S39) → ByteArray → Option (Bool)
 |0,_,_,_,_,_,_,_ => none
 |k + 1,x6,x382000,x382001,x382002,x383000,x383001,x383002 => if x6 < (x382001.length : Int) then (if 0 ≤ x6 then (if x6 < (x383001.length : Int) then (if (!((((rd_T39 x382001 x6).f0).toList) == (((rd_T39 x383001 x6).f0).toList))||(!((((rd_T39 x382001 x6).f1).toList) == (((rd_T39 x383001 x6).f1).toList))||(!((((rd_T39 x382001 x6).f2).toList) == (((rd_T39 x383001 x6).f2).toList))))) = true then (some false) else (spec_SameStore.l1 k (wrap64 (x6 + 1)) x382000 x382001 x382002 x383000 x383001 x383002)) else (none)) else (none)) else (some true)
end
def spec_SameStore.f (k : Nat) (l0_0 : List (S59)) (l0_1 : List (S39)) (a0_2 : ByteArray) (l1_0 : List (S59)) (l1_1 : List (S39)) (a1_2 : ByteArray) : Option (Bool):=if (l0_0.length : Int) = (l1_0.length : Int) then (if (l0_1.length : Int) = (l1_1.length : Int) then (spec_SameStore.j0 k (a0_2.toList != a1_2.toList) l0_0 l0_1 a0_2 l1_0 l1_1 a1_2) else (spec_SameStore.j0 k true l0_0 l0_1 a0_2 l1_0 l1_1 a1_2)) else (spec_SameStore.j0 k true l0_0 l0_1 a0_2 l1_0 l1_1 a1_2)
theorem spec_SameStore.mono_l : ∀ k,(∀ y0 y1 y2 y3 y4 y5 y6,LeO (spec_SameStore.j0 k y0 y1 y2 y3 y4 y5 y6) (spec_SameStore.j0 (k + 1) y0 y1 y2 y3 y4 y5 y6)) ∧ (∀ y0 y1 y2 y3 y4 y5 y6,LeO (spec_SameStore.l0 k y0 y1 y2 y3 y4 y5 y6) (spec_SameStore.l0 (k + 1) y0 y1 y2 y3 y4 y5 y6)) ∧ (∀ y0 y1 y2 y3 y4 y5 y6,LeO (spec_SameStore.l1 k y0 y1 y2 y3 y4 y5 y6) (spec_SameStore.l1 (k + 1) y0 y1 y2 y3 y4 y5 y6))
 |0 => ⟨fun _ _ _ _ _ _ _ r h => by simp [spec_SameStore.j0] at h,fun _ _ _ _ _ _ _ r h => by simp [spec_SameStore.l0] at h,fun _ _ _ _ _ _ _ r h => by simp [spec_SameStore.l1] at h⟩
 |k + 1 => by
  obtain ⟨ih0,ih1,ih2⟩:=spec_SameStore.mono_l k
  refine ⟨?_,?_,?_⟩
  ·intro y0 y1 y2 y3 y4 y5 y6
   unfold spec_SameStore.j0
   repeat' first
   |(with_reducible exact ih0 _ _ _ _ _ _ _)
   |(with_reducible exact ih1 _ _ _ _ _ _ _)
   |(with_reducible exact ih2 _ _ _ _ _ _ _)
   |(with_reducible exact LeO.refl _)
   |(with_reducible exact LeO.none _)
   |(with_reducible refine LeO.ite ?_ ?_)
   |(with_reducible refine LeO.bind ?_ (fun _ => ?_))
   |exact ih0 _ _ _ _ _ _ _
   |exact ih1 _ _ _ _ _ _ _
   |exact ih2 _ _ _ _ _ _ _
   |exact LeO.none _
   |refine LeO.ite ?_ ?_
   |refine LeO.bind ?_ (fun _ => ?_)
  ·intro y0 y1 y2 y3 y4 y5 y6
   unfold spec_SameStore.l0
   repeat' first
   |(with_reducible exact ih0 _ _ _ _ _ _ _)
   |(with_reducible exact ih1 _ _ _ _ _ _ _)
   |(with_reducible exact ih2 _ _ _ _ _ _ _)
   |(with_reducible exact LeO.refl _)
   |(with_reducible exact LeO.none _)
   |(with_reducible refine LeO.ite ?_ ?_)
   |(with_reducible refine LeO.bind ?_ (fun _ => ?_))
   |exact ih0 _ _ _ _ _ _ _
   |exact ih1 _ _ _ _ _ _ _
   |exact ih2 _ _ _ _ _ _ _
   |exact LeO.none _
   |refine LeO.ite ?_ ?_
   |refine LeO.bind ?_ (fun _ => ?_)
  ·intro y0 y1 y2 y3 y4 y5 y6
   unfold spec_SameStore.l1
   repeat' first
   |(with_reducible exact ih0 _ _ _ _ _ _ _)
   |(with_reducible exact ih1 _ _ _ _ _ _ _)
   |(with_reducible exact ih2 _ _ _ _ _ _ _)
   |(with_reducible exact LeO.refl _)
   |(with_reducible exact LeO.none _)
   |(with_reducible refine LeO.ite ?_ ?_)
   |(with_reducible refine LeO.bind ?_ (fun _ => ?_))
   |exact ih0 _ _ _ _ _ _ _
   |exact ih1 _ _ _ _ _ _ _
   |exact ih2 _ _ _ _ _ _ _
   |exact LeO.none _
   |refine LeO.ite ?_ ?_
   |refine LeO.bind ?_ (fun _ => ?_)
theorem spec_SameStore.mono : ∀ a0 a1 a2 a3 a4 a5 k,LeO (spec_SameStore.f k a0 a1 a2 a3 a4 a5) (spec_SameStore.f (k + 1) a0 a1 a2 a3 a4 a5):=by
 intro a0 a1 a2 a3 a4 a5 k
 obtain ⟨ih0,ih1,ih2⟩:=spec_SameStore.mono_l k
 unfold spec_SameStore.f
 repeat' first
   |(with_reducible exact ih0 _ _ _ _ _ _ _)
   |(with_reducible exact ih1 _ _ _ _ _ _ _)
   |(with_reducible exact ih2 _ _ _ _ _ _ _)
   |(with_reducible exact LeO.refl _)
   |(with_reducible exact LeO.none _)
   |(with_reducible refine LeO.ite ?_ ?_)
   |(with_reducible refine LeO.bind ?_ (fun _ => ?_))
   |exact ih0 _ _ _ _ _ _ _
   |exact ih1 _ _ _ _ _ _ _
   |exact ih2 _ _ _ _ _ _ _
   |exact LeO.none _
   |refine LeO.ite ?_ ?_
   |refine LeO.bind ?_ (fun _ => ?_)
set_option maxHeartbeats 8000000 in
set_option maxRecDepth 100000 in
theorem spec_SameStore.calls (k : Nat) (A0_0 : Option Addr) (c0_0 : Nat) (l0_0 : List (S59)) (A0_1 : Option Addr) (c0_1 : Nat) (l0_1 : List (S39)) (a0_2 : ByteArray) (A1_0 : Option Addr) (c1_0 : Nat) (l1_0 : List (S59)) (A1_1 : Option Addr) (c1_1 : Nat) (l1_1 : List (S39)) (a1_2 : ByteArray) (r : Bool) (w : World) (hr0_0 : Kd.C k59 w A0_0 l0_0.length l0_0) (hc0_0 : l0_0.length ≤ c0_0) (hr0_1 : Kd.C k39 w A0_1 l0_1.length l0_1) (hc0_1 : l0_1.length ≤ c0_1) (hr1_0 : Kd.C k59 w A1_0 l1_0.length l1_0) (hc1_0 : l1_0.length ≤ c1_0) (hr1_1 : Kd.C k39 w A1_1 l1_1.length l1_1) (hc1_1 : l1_1.length ≤ c1_1) (h : spec_SameStore.f k l0_0 l0_1 a0_2 l1_0 l1_1 a1_2 = some r) (hr_ : r = true:=by first|rfl|assumption|exact Aside0.out (by assumption)) :
  Calls Try.prog 19 #[.agg #[.slice A0_0 l0_0.length c0_0,.slice A0_1 l0_1.length c0_1,.string a0_2],.agg #[.slice A1_0 l1_0.length c1_0,.slice A1_1 l1_1.length c1_1,.string a1_2]] w fun e w' => e = .returned (.bool r) ∧ Below w.heap.size w w':=by
 have hu35:=Try.underlying35
 have hu59:=Try.underlying59
 have hu39:=Try.underlying39
 have HR0_0:=aM hr0_0
 have HC0_0:=aM hc0_0
 clear hr0_0 hc0_0
 have HR0_1:=aM hr0_1
 have HC0_1:=aM hc0_1
 clear hr0_1 hc0_1
 have HR1_0:=aM hr1_0
 have HC1_0:=aM hc1_0
 clear hr1_0 hc1_0
 have HR1_1:=aM hr1_1
 have HC1_1:=aM hc1_1
 clear hr1_1 hc1_1
 have HB:=aM (Below.refl w.heap.size w)
 have H : (if (l0_0.length : Int) = (l1_0.length : Int) then (if (l0_1.length : Int) = (l1_1.length : Int) then (spec_SameStore.j0 k (a0_2.toList != a1_2.toList) l0_0 l0_1 a0_2 l1_0 l1_1 a1_2) else (spec_SameStore.j0 k true l0_0 l0_1 a0_2 l1_0 l1_1 a1_2)) else (spec_SameStore.j0 k true l0_0 l0_1 a0_2 l1_0 l1_1 a1_2)) = some r:=h
 clear h
 have HR_:=aM hr_
 clear hr_
 have HC3:=aM H
 clear H
 go_enter Try.func19,Try.ntmps19
 go_upto_region 1 with (first|((with_reducible refine gate_dst (N:=2) rfl ?_);(try (refine gate_guard (by rfl) ?_;dsimp only));refine box_event ?hg (N:=2) ?hd (cs:=#[.slice A0_0 l0_0.length c0_0,.slice A0_1 l0_1.length c0_1,.string a0_2]) (t:=35) ?hr ?_;(case hd => rfl);(case hg => rfl);(case hr => first|(go_simp;done)|(go_simp;rfl));intro gb381 hg w4 hbox hb;have n0_:=aM (lQ HB.out hb);have n1_:=aM (hbox);have n2_:=aM ((sQ hg HB.out : w.heap.size ≤ gb381));have n3_:=n2_;clear HB;have HB:=n0_;have BK381:=n1_;have GW381:=n2_;have GE381:=n3_;clear n0_ n1_ n2_ n3_ hb hbox hg)|((with_reducible refine gate_dst (N:=3) rfl ?_);(try (refine gate_guard (by rfl) ?_;dsimp only));refine box_event ?hg (N:=3) ?hd (cs:=#[.slice A1_0 l1_0.length c1_0,.slice A1_1 l1_1.length c1_1,.string a1_2]) (t:=35) ?hr ?_;(case hd => rfl);(case hg => rfl);(case hr => first|(go_simp;done)|(go_simp;rfl));intro gb382 hg w5 hbox hb;have n0_:=aM (bH BK381.out hb);have n1_:=aM (lQ HB.out hb);have n2_:=aM (hbox);have n3_:=aM ((sQ hg HB.out : w.heap.size ≤ gb382));have n4_:=n3_;have n5_:=aM ((nL hg BK381.out : gb381 ≠ gb382));have n6_:=aM ((nG hg BK381.out : gb382 ≠ gb381));clear BK381 HB;have BK381:=n0_;have HB:=n1_;have BK382:=n2_;have GW382:=n3_;have GE382:=n4_;have NB381_382:=n5_;have NB382_381:=n6_;clear n0_ n1_ n2_ n3_ n4_ n5_ n6_ hb hbox hg))
 repeat (go_quiet (first|((with_reducible refine gate_dst (N:=2) rfl ?_);(try (refine gate_guard (by rfl) ?_;dsimp only));refine box_event ?hg (N:=2) ?hd (cs:=#[.slice A0_0 l0_0.length c0_0,.slice A0_1 l0_1.length c0_1,.string a0_2]) (t:=35) ?hr ?_;(case hd => rfl);(case hg => rfl);(case hr => first|(go_simp;done)|(go_simp;rfl));intro gb381 hg w4 hbox hb;have n0_:=aM (lQ HB.out hb);have n1_:=aM (hbox);have n2_:=aM ((sQ hg HB.out : w.heap.size ≤ gb381));have n3_:=n2_;clear HB;have HB:=n0_;have BK381:=n1_;have GW381:=n2_;have GE381:=n3_;clear n0_ n1_ n2_ n3_ hb hbox hg)|((with_reducible refine gate_dst (N:=3) rfl ?_);(try (refine gate_guard (by rfl) ?_;dsimp only));refine box_event ?hg (N:=3) ?hd (cs:=#[.slice A1_0 l1_0.length c1_0,.slice A1_1 l1_1.length c1_1,.string a1_2]) (t:=35) ?hr ?_;(case hd => rfl);(case hg => rfl);(case hr => first|(go_simp;done)|(go_simp;rfl));intro gb382 hg w5 hbox hb;have n0_:=aM (bH BK381.out hb);have n1_:=aM (lQ HB.out hb);have n2_:=aM (hbox);have n3_:=aM ((sQ hg HB.out : w.heap.size ≤ gb382));have n4_:=n3_;have n5_:=aM ((nL hg BK381.out : gb381 ≠ gb382));have n6_:=aM ((nG hg BK381.out : gb382 ≠ gb381));clear BK381 HB;have BK381:=n0_;have HB:=n1_;have BK382:=n2_;have GW382:=n3_;have GE382:=n4_;have NB381_382:=n5_;have NB382_381:=n6_;clear n0_ n1_ n2_ n3_ n4_ n5_ n6_ hb hbox hg));go_upto_region 1 with (first|((with_reducible refine gate_dst (N:=2) rfl ?_);(try (refine gate_guard (by rfl) ?_;dsimp only));refine box_event ?hg (N:=2) ?hd (cs:=#[.slice A0_0 l0_0.length c0_0,.slice A0_1 l0_1.length c0_1,.string a0_2]) (t:=35) ?hr ?_;(case hd => rfl);(case hg => rfl);(case hr => first|(go_simp;done)|(go_simp;rfl));intro gb381 hg w4 hbox hb;have n0_:=aM (lQ HB.out hb);have n1_:=aM (hbox);have n2_:=aM ((sQ hg HB.out : w.heap.size ≤ gb381));have n3_:=n2_;clear HB;have HB:=n0_;have BK381:=n1_;have GW381:=n2_;have GE381:=n3_;clear n0_ n1_ n2_ n3_ hb hbox hg)|((with_reducible refine gate_dst (N:=3) rfl ?_);(try (refine gate_guard (by rfl) ?_;dsimp only));refine box_event ?hg (N:=3) ?hd (cs:=#[.slice A1_0 l1_0.length c1_0,.slice A1_1 l1_1.length c1_1,.string a1_2]) (t:=35) ?hr ?_;(case hd => rfl);(case hg => rfl);(case hr => first|(go_simp;done)|(go_simp;rfl));intro gb382 hg w5 hbox hb;have n0_:=aM (bH BK381.out hb);have n1_:=aM (lQ HB.out hb);have n2_:=aM (hbox);have n3_:=aM ((sQ hg HB.out : w.heap.size ≤ gb382));have n4_:=n3_;have n5_:=aM ((nL hg BK381.out : gb381 ≠ gb382));have n6_:=aM ((nG hg BK381.out : gb382 ≠ gb381));clear BK381 HB;have BK381:=n0_;have HB:=n1_;have BK382:=n2_;have GW382:=n3_;have GE382:=n4_;have NB381_382:=n5_;have NB382_381:=n6_;clear n0_ n1_ n2_ n3_ n4_ n5_ n6_ hb hbox hg)))
 (try simp only [Act.put,q_ia9,q_cz9,q_cs9])
 go_cut [29] (fun v29 wc => ∃ (kq : Nat) (x29_2 : Bool),v29 = .bool x29_2 ∧ Aside0 (spec_SameStore.j0 kq x29_2 l0_0 l0_1 a0_2 l1_0 l1_1 a1_2 = some r) ∧ Aside0 (kq ≤ k) ∧ Aside0 (wc.heap[gb381]? = some (.cells #[(.slice A0_0 l0_0.length c0_0),(.slice A0_1 l0_1.length c0_1),.string a0_2] 35 (0,0))) ∧ Aside0 (wc.heap[gb382]? = some (.cells #[(.slice A1_0 l1_0.length c1_0),(.slice A1_1 l1_1.length c1_1),.string a1_2] 35 (0,0))) ∧ Aside0 (Below w.heap.size w wc))
 case first =>
  have H:=HC3.out
  clear HC3
  by_cases c6 : (l0_0.length : Int) = (l1_0.length : Int)
  ·rw [if_pos c6] at H
   have c6b0 : ((l0_0.length : Int) == (l1_0.length : Int)) = true:=beq_iff_eq.mpr c6
   have c6b1 : ((l0_0.length : Int) != (l1_0.length : Int)) = false:=bne_eq_false_iff_eq.mpr c6
   have c6b2 : (l0_0.length == l1_0.length) = true:=by first|simpa using c6|(simp at c6 ⊢;omega)
   clear c6
   (first|rw [c6b0]|(simp only [i64_w,i32_w];rw [c6b0])|skip)
   by_cases c7 : (l0_1.length : Int) = (l1_1.length : Int)
   ·rw [if_pos c7] at H
    have c7b0 : ((l0_1.length : Int) == (l1_1.length : Int)) = true:=beq_iff_eq.mpr c7
    have c7b1 : ((l0_1.length : Int) != (l1_1.length : Int)) = false:=bne_eq_false_iff_eq.mpr c7
    have c7b2 : (l0_1.length == l1_1.length) = true:=by first|simpa using c7|(simp at c7 ⊢;omega)
    clear c7
    have H':=aM H
    clear H
    have hnb8:=NB381_382.out
    have hnc8:=NB382_381.out
    obtain ⟨⟨hcz9_0,hcz9_1,hcz9_2⟩,hfz9_0,hfz9_1,hfz9_2⟩:=bC3 BK381.out
    obtain ⟨⟨hcz10_0,hcz10_1,hcz10_2⟩,hfz10_0,hfz10_1,hfz10_2⟩:=bC3 BK382.out
    go_wp2
    repeat (go_quiet (fail);try go_wp2)
    go_meet
    case rel => exact ⟨_,((a0_2.toList != a1_2.toList)),(by first|rfl|(simp;done)|(simp [*];done)),H',⟨by first|omega|exact Nat.le_refl _⟩,⟨by (with_reducible repeat (first|refine bN ?_ _|refine bD ?_|refine bA ?_ _));exact BK381.out⟩,⟨by (with_reducible repeat (first|refine bN ?_ _|refine bD ?_|refine bA ?_ _));exact BK382.out⟩,⟨by repeat (first|(with_reducible first|exact HB.out|apply lA|apply lN|apply lD|refine lS ?_ GE381.out|refine lS ?_ GE382.out)|exact HB.out)⟩⟩
   ·rw [if_neg c7] at H
    have c7b0 : ((l0_1.length : Int) == (l1_1.length : Int)) = false:=beq_eq_false_iff_ne.mpr c7
    have c7b1 : ((l0_1.length : Int) != (l1_1.length : Int)) = true:=bne_iff_ne.mpr c7
    have c7b2 : (l0_1.length == l1_1.length) = false:=by first|simpa using c7|(simp at c7 ⊢;omega)
    have H':=aM H
    clear H
    have hnb11:=NB381_382.out
    have hnc11:=NB382_381.out
    obtain ⟨⟨hcz12_0,hcz12_1,hcz12_2⟩,hfz12_0,hfz12_1,hfz12_2⟩:=bC3 BK381.out
    obtain ⟨⟨hcz13_0,hcz13_1,hcz13_2⟩,hfz13_0,hfz13_1,hfz13_2⟩:=bC3 BK382.out
    go_wp2
    repeat (go_quiet (fail);try go_wp2)
    go_meet
    case rel => exact ⟨_,(true),(by first|rfl|(simp;done)|(simp [*];done)),H',⟨by first|omega|exact Nat.le_refl _⟩,⟨by (with_reducible repeat (first|refine bN ?_ _|refine bD ?_|refine bA ?_ _));exact BK381.out⟩,⟨by (with_reducible repeat (first|refine bN ?_ _|refine bD ?_|refine bA ?_ _));exact BK382.out⟩,⟨by repeat (first|(with_reducible first|exact HB.out|apply lA|apply lN|apply lD|refine lS ?_ GE381.out|refine lS ?_ GE382.out)|exact HB.out)⟩⟩
  ·rw [if_neg c6] at H
   have c6b0 : ((l0_0.length : Int) == (l1_0.length : Int)) = false:=beq_eq_false_iff_ne.mpr c6
   have c6b1 : ((l0_0.length : Int) != (l1_0.length : Int)) = true:=bne_iff_ne.mpr c6
   have c6b2 : (l0_0.length == l1_0.length) = false:=by first|simpa using c6|(simp at c6 ⊢;omega)
   (first|rw [c6b0]|(simp only [i64_w,i32_w];rw [c6b0])|skip)
   have H':=aM H
   clear H
   have hnb14:=NB381_382.out
   have hnc14:=NB382_381.out
   obtain ⟨⟨hcz15_0,hcz15_1,hcz15_2⟩,hfz15_0,hfz15_1,hfz15_2⟩:=bC3 BK381.out
   obtain ⟨⟨hcz16_0,hcz16_1,hcz16_2⟩,hfz16_0,hfz16_1,hfz16_2⟩:=bC3 BK382.out
   go_wp2
   repeat (go_quiet (fail);try go_wp2)
   go_meet
   case rel => exact ⟨_,(true),(by first|rfl|(simp;done)|(simp [*];done)),H',⟨by first|omega|exact Nat.le_refl _⟩,⟨by (with_reducible repeat (first|refine bN ?_ _|refine bD ?_|refine bA ?_ _));exact BK381.out⟩,⟨by (with_reducible repeat (first|refine bN ?_ _|refine bD ?_|refine bA ?_ _));exact BK382.out⟩,⟨by repeat (first|(with_reducible first|exact HB.out|apply lA|apply lN|apply lD|refine lS ?_ GE381.out|refine lS ?_ GE382.out)|exact HB.out)⟩⟩
 case rest =>
  clear HC3
  try clear c1
  try clear p2
  try clear c6
  try clear c6b0
  try clear c6b1
  try clear c6b2
  try clear c7
  try clear c7b0
  try clear c7b1
  try clear c7b2
  try clear c8
  try clear c11
  try clear c14
  try clear hcz10_0
  try clear hcz10_1
  try clear hcz10_2
  try clear hcz12_0
  try clear hcz12_1
  try clear hcz12_2
  try clear hcz13_0
  try clear hcz13_1
  try clear hcz13_2
  try clear hcz15_0
  try clear hcz15_1
  try clear hcz15_2
  try clear hcz16_0
  try clear hcz16_1
  try clear hcz16_2
  try clear hcz9_0
  try clear hcz9_1
  try clear hcz9_2
  obtain ⟨kq,x29_2,rfl,HA,HJ2,BK381,BK382,HB⟩:=hcut
  cases kq with
  |zero => exact absurd HA.out (by simp [spec_SameStore.j0])
  |succ kj2 =>
   have H:=HA.out
   clear HA
   simp only [spec_SameStore.j0] at H
   by_cases c17 : x29_2 = true
   ·subst c17
    have H1 : (some false) = some r:=by rw [if_pos rfl] at H;exact H
    clear H
    have H:=H1
    clear H1
    exact absurd (HR_.out.symm.trans (Option.some.inj H).symm) (by decide)
   ·replace c17:=Bool.eq_false_iff.mpr c17
    subst c17
    have H1 : (spec_SameStore.l0 kj2 0 l0_0 l0_1 a0_2 l1_0 l1_1 a1_2) = some r:=by rw [if_neg (show ¬ (false = true) by decide)] at H;exact H
    clear H
    have H:=H1
    clear H1
    have H':=aM H
    clear H
    go_wp2
    repeat (go_quiet (fail);try go_wp2)
    go_loopg [5] kj2 (fun kq v5 w' => ∃ (x5_2 : Int),v5 = .int .i64 x5_2 ∧ Aside0 (spec_SameStore.l0 kq x5_2 l0_0 l0_1 a0_2 l1_0 l1_1 a1_2 = some r) ∧ Aside0 (kq ≤ kj2) ∧ Aside0 (w'.heap[gb381]? = some (.cells #[(.slice A0_0 l0_0.length c0_0),(.slice A0_1 l0_1.length c0_1),.string a0_2] 35 (0,0))) ∧ Aside0 (w'.heap[gb382]? = some (.cells #[(.slice A1_0 l1_0.length c1_0),(.slice A1_1 l1_1.length c1_1),.string a1_2] 35 (0,0))) ∧ Aside0 (Below w.heap.size w w'))
    case atStart => exact ⟨(0),(by first|rfl|(simp;done)|(simp [*];done)),H',⟨Nat.le_refl _⟩,⟨by (with_reducible repeat (first|refine bN ?_ _|refine bD ?_|refine bA ?_ _));exact BK381.out⟩,⟨by (with_reducible repeat (first|refine bN ?_ _|refine bD ?_|refine bA ?_ _));exact BK382.out⟩,⟨by repeat (first|(with_reducible first|exact HB.out|apply lA|apply lN|apply lD|refine lS ?_ GE381.out|refine lS ?_ GE382.out)|exact HB.out)⟩⟩
    case round =>
     clear H'
     try clear c1
     try clear p2
     try clear c6
     try clear c6b0
     try clear c6b1
     try clear c6b2
     try clear c7
     try clear c7b0
     try clear c7b1
     try clear c7b2
     try clear c8
     try clear c11
     try clear c14
     try clear c17
     try clear hcz10_0
     try clear hcz10_1
     try clear hcz10_2
     try clear hcz12_0
     try clear hcz12_1
     try clear hcz12_2
     try clear hcz13_0
     try clear hcz13_1
     try clear hcz13_2
     try clear hcz15_0
     try clear hcz15_1
     try clear hcz15_2
     try clear hcz16_0
     try clear hcz16_1
     try clear hcz16_2
     try clear hcz9_0
     try clear hcz9_1
     try clear hcz9_2
     try clear p2
     obtain ⟨x5_2,rfl,HA,HK2,BK381,BK382,HB⟩:=hrel
     cases gk with
     |zero => exact absurd HA.out (by simp [spec_SameStore.l0])
     |succ k2 =>
      have H:=HA.out
      clear HA
      simp only [spec_SameStore.l0] at H
      by_cases c18 : x5_2 < (l0_0.length : Int)
      ·rw [if_pos c18] at H
       have c18b0 : decide (x5_2 < (l0_0.length : Int)) = true:=decide_eq_true c18
       clear c18
       by_cases c19 : 0 ≤ x5_2
       ·rw [if_pos c19] at H
        have c19b0 : decide (0 ≤ x5_2) = true:=decide_eq_true c19
        clear c19
        by_cases c20 : x5_2 < (l1_0.length : Int)
        ·rw [if_pos c20] at H
         have c20b0 : decide (x5_2 < (l1_0.length : Int)) = true:=decide_eq_true c20
         clear c20
         by_cases c21 : (!((((rd_T59 l0_0 x5_2).f0).toList) == (((rd_T59 l1_0 x5_2).f0).toList))||(!((((rd_T59 l0_0 x5_2).f1).toList) == (((rd_T59 l1_0 x5_2).f1).toList)))) = true
         ·rw [if_pos c21] at H
          have c21b0 : (!((((rd_T59 l0_0 x5_2).f0).toList) == (((rd_T59 l1_0 x5_2).f0).toList))||(!((((rd_T59 l0_0 x5_2).f1).toList) == (((rd_T59 l1_0 x5_2).f1).toList)))) = true:=c21
          clear c21
          exact absurd (HR_.out.symm.trans (Option.some.inj H).symm) (by decide)
         ·rw [if_neg c21] at H
          have c21b0 : (!((((rd_T59 l0_0 x5_2).f0).toList) == (((rd_T59 l1_0 x5_2).f0).toList))||(!((((rd_T59 l0_0 x5_2).f1).toList) == (((rd_T59 l1_0 x5_2).f1).toList)))) = false:=by simpa using c21
          clear c21
          have H':=aM H
          clear H
          have hnb22:=NB381_382.out
          have hnc22:=NB382_381.out
          obtain ⟨⟨hcz23_0,hcz23_1,hcz23_2⟩,hfz23_0,hfz23_1,hfz23_2⟩:=bC3 BK381.out
          have p383 : 0 ≤ (x5_2 : Int):=of_decide_eq_true (by first|(with_reducible assumption)|assumption)
          have q383 : x5_2 < (l0_0.length : Int):=of_decide_eq_true (by first|(with_reducible assumption)|assumption)
          obtain ⟨ad383,e383,hx383_0,hx383_1⟩:=at_T59 HR0_0.out x5_2 p383 q383
          cases e383
          replace hx383_0:=(HB.out.cell (World.block_lt_of_cell? w _ hx383_0)).trans hx383_0
          replace hx383_1:=(HB.out.cell (World.block_lt_of_cell? w _ hx383_1)).trans hx383_1
          replace p383:=eq_true p383
          replace q383:=eq_true q383
          obtain ⟨⟨hcz24_0,hcz24_1,hcz24_2⟩,hfz24_0,hfz24_1,hfz24_2⟩:=bC3 BK382.out
          have p384 : 0 ≤ (x5_2 : Int):=of_decide_eq_true (by first|(with_reducible assumption)|assumption)
          have q384 : x5_2 < (l1_0.length : Int):=of_decide_eq_true (by first|(with_reducible assumption)|assumption)
          obtain ⟨ad384,e384,hx384_0,hx384_1⟩:=at_T59 HR1_0.out x5_2 p384 q384
          cases e384
          replace hx384_0:=(HB.out.cell (World.block_lt_of_cell? w _ hx384_0)).trans hx384_0
          replace hx384_1:=(HB.out.cell (World.block_lt_of_cell? w _ hx384_1)).trans hx384_1
          replace p384:=eq_true p384
          replace q384:=eq_true q384
          go_wp2
          repeat (go_quiet (fail);try go_wp2)
          go_roundg k2
          case measure => have:=HJ2.out;have:=HK2.out;omega
          case rel => exact ⟨(wrap64 (x5_2 + 1)),(by first|rfl|(simp;done)|(simp [*];done)),H',⟨by have:=HJ2.out;have:=HK2.out;omega⟩,⟨by (with_reducible repeat (first|refine bN ?_ _|refine bD ?_|refine bA ?_ _));exact BK381.out⟩,⟨by (with_reducible repeat (first|refine bN ?_ _|refine bD ?_|refine bA ?_ _));exact BK382.out⟩,⟨by repeat (first|(with_reducible first|exact HB.out|apply lA|apply lN|apply lD|refine lS ?_ GE381.out|refine lS ?_ GE382.out)|exact HB.out)⟩⟩
        ·rw [if_neg c20] at H
         exact absurd H (by simp)
       ·rw [if_neg c19] at H
        exact absurd H (by simp)
      ·rw [if_neg c18] at H
       have c18b0 : decide (x5_2 < (l0_0.length : Int)) = false:=decide_eq_false c18
       clear c18
       have H':=aM H
       clear H
       have hnb25:=NB381_382.out
       have hnc25:=NB382_381.out
       obtain ⟨⟨hcz26_0,hcz26_1,hcz26_2⟩,hfz26_0,hfz26_1,hfz26_2⟩:=bC3 BK381.out
       go_wp2
       repeat (go_quiet (fail);try go_wp2)
       go_loopg [6] k2 (fun kq v6 w' => ∃ (x6_3 : Int),v6 = .int .i64 x6_3 ∧ Aside0 (spec_SameStore.l1 kq x6_3 l0_0 l0_1 a0_2 l1_0 l1_1 a1_2 = some r) ∧ Aside0 (kq ≤ k2) ∧ Aside0 (w'.heap[gb381]? = some (.cells #[(.slice A0_0 l0_0.length c0_0),(.slice A0_1 l0_1.length c0_1),.string a0_2] 35 (0,0))) ∧ Aside0 (w'.heap[gb382]? = some (.cells #[(.slice A1_0 l1_0.length c1_0),(.slice A1_1 l1_1.length c1_1),.string a1_2] 35 (0,0))) ∧ Aside0 (Below w.heap.size w w'))
       case atStart => exact ⟨(0),(by first|rfl|(simp;done)|(simp [*];done)),H',⟨Nat.le_refl _⟩,⟨by (with_reducible repeat (first|refine bN ?_ _|refine bD ?_|refine bA ?_ _));exact BK381.out⟩,⟨by (with_reducible repeat (first|refine bN ?_ _|refine bD ?_|refine bA ?_ _));exact BK382.out⟩,⟨by repeat (first|(with_reducible first|exact HB.out|apply lA|apply lN|apply lD|refine lS ?_ GE381.out|refine lS ?_ GE382.out)|exact HB.out)⟩⟩
       case round =>
        clear H'
        try clear c1
        try clear c2
        try clear p2
        try clear p3
        try clear q3
        try clear hx3
        try clear c6
        try clear c6b0
        try clear c6b1
        try clear c6b2
        try clear p6
        try clear c7
        try clear c7b0
        try clear c7b1
        try clear c7b2
        try clear c8
        try clear c11
        try clear c14
        try clear c17
        try clear c18
        try clear c18b0
        try clear c19
        try clear c19b0
        try clear c20
        try clear c20b0
        try clear c21
        try clear c21b0
        try clear c22
        try clear c25
        try clear hcz10_0
        try clear hcz10_1
        try clear hcz10_2
        try clear hcz12_0
        try clear hcz12_1
        try clear hcz12_2
        try clear hcz13_0
        try clear hcz13_1
        try clear hcz13_2
        try clear hcz15_0
        try clear hcz15_1
        try clear hcz15_2
        try clear hcz16_0
        try clear hcz16_1
        try clear hcz16_2
        try clear hcz23_0
        try clear hcz23_1
        try clear hcz23_2
        try clear hcz24_0
        try clear hcz24_1
        try clear hcz24_2
        try clear hcz26_0
        try clear hcz26_1
        try clear hcz26_2
        try clear hcz9_0
        try clear hcz9_1
        try clear hcz9_2
        try clear hx383_0
        try clear hx383_1
        try clear hx384_0
        try clear hx384_1
        try clear p2
        try clear p383
        try clear p384
        try clear q383
        try clear q384
        obtain ⟨x6_3,rfl,HA,HK3,BK381,BK382,HB⟩:=hrel
        cases gk with
        |zero => exact absurd HA.out (by simp [spec_SameStore.l1])
        |succ k3 =>
         have H:=HA.out
         clear HA
         simp only [spec_SameStore.l1] at H
         by_cases c27 : x6_3 < (l0_1.length : Int)
         ·rw [if_pos c27] at H
          have c27b0 : decide (x6_3 < (l0_1.length : Int)) = true:=decide_eq_true c27
          clear c27
          by_cases c28 : 0 ≤ x6_3
          ·rw [if_pos c28] at H
           have c28b0 : decide (0 ≤ x6_3) = true:=decide_eq_true c28
           clear c28
           by_cases c29 : x6_3 < (l1_1.length : Int)
           ·rw [if_pos c29] at H
            have c29b0 : decide (x6_3 < (l1_1.length : Int)) = true:=decide_eq_true c29
            clear c29
            by_cases c30 : (!((((rd_T39 l0_1 x6_3).f0).toList) == (((rd_T39 l1_1 x6_3).f0).toList))||(!((((rd_T39 l0_1 x6_3).f1).toList) == (((rd_T39 l1_1 x6_3).f1).toList))||(!((((rd_T39 l0_1 x6_3).f2).toList) == (((rd_T39 l1_1 x6_3).f2).toList))))) = true
            ·rw [if_pos c30] at H
             have c30b0 : (!((((rd_T39 l0_1 x6_3).f0).toList) == (((rd_T39 l1_1 x6_3).f0).toList))||(!((((rd_T39 l0_1 x6_3).f1).toList) == (((rd_T39 l1_1 x6_3).f1).toList))||(!((((rd_T39 l0_1 x6_3).f2).toList) == (((rd_T39 l1_1 x6_3).f2).toList))))) = true:=c30
             clear c30
             exact absurd (HR_.out.symm.trans (Option.some.inj H).symm) (by decide)
            ·rw [if_neg c30] at H
             have c30b0 : (!((((rd_T39 l0_1 x6_3).f0).toList) == (((rd_T39 l1_1 x6_3).f0).toList))||(!((((rd_T39 l0_1 x6_3).f1).toList) == (((rd_T39 l1_1 x6_3).f1).toList))||(!((((rd_T39 l0_1 x6_3).f2).toList) == (((rd_T39 l1_1 x6_3).f2).toList))))) = false:=by simpa using c30
             clear c30
             have H':=aM H
             clear H
             have hnb31:=NB381_382.out
             have hnc31:=NB382_381.out
             obtain ⟨⟨hcz32_0,hcz32_1,hcz32_2⟩,hfz32_0,hfz32_1,hfz32_2⟩:=bC3 BK381.out
             have p385 : 0 ≤ (x6_3 : Int):=of_decide_eq_true (by first|(with_reducible assumption)|assumption)
             have q385 : x6_3 < (l0_1.length : Int):=of_decide_eq_true (by first|(with_reducible assumption)|assumption)
             obtain ⟨ad385,e385,hx385_0,hx385_1,hx385_2⟩:=at_T39 HR0_1.out x6_3 p385 q385
             cases e385
             replace hx385_0:=(HB.out.cell (World.block_lt_of_cell? w _ hx385_0)).trans hx385_0
             replace hx385_1:=(HB.out.cell (World.block_lt_of_cell? w _ hx385_1)).trans hx385_1
             replace hx385_2:=(HB.out.cell (World.block_lt_of_cell? w _ hx385_2)).trans hx385_2
             replace p385:=eq_true p385
             replace q385:=eq_true q385
             obtain ⟨⟨hcz33_0,hcz33_1,hcz33_2⟩,hfz33_0,hfz33_1,hfz33_2⟩:=bC3 BK382.out
             have p386 : 0 ≤ (x6_3 : Int):=of_decide_eq_true (by first|(with_reducible assumption)|assumption)
             have q386 : x6_3 < (l1_1.length : Int):=of_decide_eq_true (by first|(with_reducible assumption)|assumption)
             obtain ⟨ad386,e386,hx386_0,hx386_1,hx386_2⟩:=at_T39 HR1_1.out x6_3 p386 q386
             cases e386
             replace hx386_0:=(HB.out.cell (World.block_lt_of_cell? w _ hx386_0)).trans hx386_0
             replace hx386_1:=(HB.out.cell (World.block_lt_of_cell? w _ hx386_1)).trans hx386_1
             replace hx386_2:=(HB.out.cell (World.block_lt_of_cell? w _ hx386_2)).trans hx386_2
             replace p386:=eq_true p386
             replace q386:=eq_true q386
             go_wp2
             repeat (go_quiet (fail);try go_wp2)
             go_roundg k3
             case measure => have:=HJ2.out;have:=HK2.out;have:=HK3.out;omega
             case rel => exact ⟨(wrap64 (x6_3 + 1)),(by first|rfl|(simp;done)|(simp [*];done)),H',⟨by have:=HJ2.out;have:=HK2.out;have:=HK3.out;omega⟩,⟨by (with_reducible repeat (first|refine bN ?_ _|refine bD ?_|refine bA ?_ _));exact BK381.out⟩,⟨by (with_reducible repeat (first|refine bN ?_ _|refine bD ?_|refine bA ?_ _));exact BK382.out⟩,⟨by repeat (first|(with_reducible first|exact HB.out|apply lA|apply lN|apply lD|refine lS ?_ GE381.out|refine lS ?_ GE382.out)|exact HB.out)⟩⟩
           ·rw [if_neg c29] at H
            exact absurd H (by simp)
          ·rw [if_neg c28] at H
           exact absurd H (by simp)
         ·rw [if_neg c27] at H
          have c27b0 : decide (x6_3 < (l0_1.length : Int)) = false:=decide_eq_false c27
          clear c27
          obtain rfl:=Option.some.inj H
          have hnb34:=NB381_382.out
          have hnc34:=NB382_381.out
          obtain ⟨⟨hcz35_0,hcz35_1,hcz35_2⟩,hfz35_0,hfz35_1,hfz35_2⟩:=bC3 BK381.out
          go_wp2
          repeat (go_quiet (fail);try go_wp2)
          go_ret
          exact ⟨by first|rfl|(simp [errW_none,errW_some] <;> rfl)|(simp [*,errW_none,errW_some] <;> rfl),by repeat (first|(with_reducible first|exact HB.out|apply lA|apply lN|apply lD|refine lS ?_ GE381.out|refine lS ?_ GE382.out)|exact HB.out)⟩

end Go.Proofs.Ytekngkljphlliaa.QFnSays
