-- A text of this session, made by wip/own_print.py (the kit's print with additions of ours).
import Derived.Test.YtodpkfidkilpdaaQFnVarsx0
import Derived.Test.YtodpkfidkilpdaaQFnVarsx5
import Derived.Test.YtodpkfidkilpdaaQFnVarsx6
import Derived.Test.YtodpkfidkilpdaaQFnVarsx8
import Derived.Test.YtodpkfidkilpdaaQFnVarsx9
namespace Go.Proofs.Ytodpkfidkilpdaa.QFnVars
open Go.RowKit Go.Proofs.YtodpkfidkilpdaaW.PrintWords Go.Proofs.YtodpkfidkilpdaaW.PrintLast Go.Proofs.YtodpkfidkilpdaaW.PrintMore
attribute [local go_sem] max2_int min2_int max_two min_two max_three min_three max_four min_four   -- for this text's walks alone
set_option linter.unusedVariables false
set_option linter.unusedSimpArgs false
open Bool renaming true → bT, false → bf
open Go.Proofs.YtodpkfidkilpdaaW.PrintWords.Kd renaming R_alloc → rA, R_drewN → rN, R_drew → rD, C_alloc → cA, C_drewN → cN, C_drew → cD, R_far → rF, R_below → rB, R_lower → rL, R_lt → rT, R_base → rS, C_below → cB, R_types → rY, R_elder' → rE, R_reads' → rR, R_new' → rW
open Go.Proofs.YtodpkfidkilpdaaW.PrintWords renaming blk_drewN → bN, blk_drew → bD, blk_alloc → bA, below_set → lS, pw_below_drewN → lN, below_drew1 → lD, below_alloc → lA, blk_cell → bC, blk_below → bB, below_size → lZ, below_step → lP, blk_lt → bL, blk_frozen → bF
open Go.Proofs.YtodpkfidkilpdaaW.PrintWords.Aside0 renaming mk → aM
theorem q_ia8 {α : Type} (l : List α) (i : Nat) (a : α) : l.toArray.setIfInBounds i a = (l.set i a).toArray := List.setIfInBounds_toArray ..
theorem q_cz8 {α : Type} (a b : α) (l : List α) : (a :: l).set 0 b = b :: l := rfl
theorem q_cs8 {α : Type} (a b : α) (l : List α) (n : Nat) : (a :: l).set (n + 1) b = a :: l.set n b := rfl

/-! ### spec_DrawStore: function 32 -/
def spec_DrawStore.f (k : Nat) (l0 : List Int) : Option ((List (S53)) × (List (S57)) × ByteArray) := (spec_l01New.f k l0).bind fun bt308 => ((spec_l08Store.f k bt308.1 bt308.2.1 bt308.2.2).bind fun bt312 => (some (bt312.1, bt312.2.1, bt312.2.2.1)))
theorem spec_DrawStore.mono : ∀ a0 k, LeO (spec_DrawStore.f k a0) (spec_DrawStore.f (k + 1) a0) := by
 intro a0 k
 unfold spec_DrawStore.f
 repeat' first
   | (with_reducible exact spec_l01New.mono _ _)
   | (with_reducible exact spec_l08Store.mono _ _ _ _)
   | (with_reducible exact LeO.refl _)
   | (with_reducible exact LeO.none _)
   | (with_reducible refine LeO.ite ?_ ?_)
   | (with_reducible refine LeO.bind ?_ (fun _ => ?_))
   | exact spec_l01New.mono _ _
   | exact spec_l08Store.mono _ _ _ _
   | exact LeO.none _
   | refine LeO.ite ?_ ?_
   | refine LeO.bind ?_ (fun _ => ?_)
set_option maxHeartbeats 8000000 in
set_option maxRecDepth 100000 in
theorem spec_DrawStore.calls (k : Nat) (A0 : Option Addr) (c0 : Nat) (l0 : List Int) (r1 : List (S53)) (r2 : List (S57)) (r3 : ByteArray) (w : World) (hr0 : Kd.C (Kd.int .u8) w A0 l0.length l0) (hc0 : l0.length ≤ c0) (h : spec_DrawStore.f k l0 = some (r1,r2,r3)) :
  Calls Try.prog 32 #[.slice A0 l0.length c0] w fun e w' => ∃ v0_ v1_ : Value,e = .returned (.agg #[v0_,v1_,.string r3]) ∧ Kd.R k53 53 w' w.heap.size (fun _ => True) v0_ r1 ∧ Kd.R k57 57 w' w.heap.size (fun _ => True) v1_ r2 ∧ Below w.heap.size w w':=by
 have hu38:=Try.underlying38
 have HR0:=aM hr0
 have HC0:=aM hc0
 clear hr0 hc0
 have HB:=aM (Below.refl w.heap.size w)
 have H : ((spec_l01New.f k l0).bind fun bt308 => ((spec_l08Store.f k bt308.1 bt308.2.1 bt308.2.2).bind fun bt312 => (some (bt312.1,bt312.2.1,bt312.2.2.1)))) = some (r1,r2,r3):=h
 clear h
 replace H:=Option.bind_eq_some_iff.mp H
 obtain ⟨⟨t308,t309,t310⟩,A20,H⟩:=H
 replace H : ((spec_l08Store.f k t308 t309 t310).bind fun bt312 => (some (bt312.1,bt312.2.1,bt312.2.2.1))) = some (r1,r2,r3):=H
 have A2:=aM A20
 clear A20
 replace H:=Option.bind_eq_some_iff.mp H
 obtain ⟨⟨t312,t315,t318,t319,t320⟩,A30,H⟩:=H
 replace H : (some (t312,t315,t318)) = some (r1,r2,r3):=H
 have A3:=aM A30
 clear A30
 simp only [Option.some.injEq,Prod.mk.injEq] at H
 obtain ⟨rfl,rfl,rfl⟩:=H
 go_enter Try.func32,Try.ntmps32
 go_wp2_with (first|((with_reducible refine gate_dst (N:=2) rfl ?_);refine box_event ?hg (N:=2) ?hd (cs:=#[.slice none 0 0,.slice none 0 0,.string (⟨#[]⟩ : ByteArray)]) (t:=38) ?hr ?_;(case hd => rfl);(case hg => rfl);(case hr => first|(go_simp;done)|(go_simp;rfl));intro gb307 hg w4 hbox hb;have n0_:=aM (lQ HB.out hb);have n1_:=aM (hbox);have n2_:=aM ((sQ hg HB.out : w.heap.size ≤ gb307));have n3_:=n2_;clear HB;have HB:=n0_;have BK307:=n1_;have GW307:=n2_;have GE307:=n3_;clear n0_ n1_ n2_ n3_ hb hbox hg)|((with_reducible refine gate_callee (f:=44) rfl ?_);refine goesL_ (some 4) rfl rfl Try.func44 (by kernel_rfl) rfl #[.slice A0 l0.length c0] rfl (by (try simp only [List.map_toArray,List.map_cons,List.map_nil]);first|done|rfl|(simp only [List.length_drop,List.length_take];rfl)) ?_;(with_reducible refine (spec_l01New.calls k _ _ l0 t308 t309 t310 w _ ?side1 ?side2 ?side3 A2.out).mono ?_);(case side1 => repeat (first|(with_reducible first|exact HB.out|apply lA|apply lN|apply lD|refine lS ?_ GE307.out)|exact HB.out));(case side2 => exact HR0.out);(case side3 => exact HC0.out);rintro e w5 ⟨g311,rfl,hi,hb,hb2⟩;refine ⟨_,rfl,?_⟩;have n0_:=aM (bH BK307.out hb2);have n1_:=aM (hb);have n2_:=aM (hi);have n3_:=aM (IsS88.ne_blk hi (bH BK307.out hb2) (by decide));have n4_:=aM (Ne.symm (IsS88.ne_blk hi (bH BK307.out hb2) (by decide)));clear BK307 HB;have BK307:=n0_;have HB:=n1_;have HI311:=n2_;have NB311_307:=n3_;have NB307_311:=n4_;clear n0_ n1_ n2_ n3_ n4_;(try clear hb);(try clear hb2);(try clear hk);(try clear hi))|((with_reducible refine gate_callee (f:=66) rfl ?_);refine goesL_ (some 5) rfl rfl Try.func66 (by kernel_rfl) rfl #[.pointer (some ⟨g311,0,none⟩)] rfl (by (try simp only [List.map_toArray,List.map_cons,List.map_nil]);first|done|rfl|(simp only [List.length_drop,List.length_take];rfl)) ?_;(with_reducible refine (spec_l08Store.calls k g311 t308 t309 t310 t312 t315 t318 t319 t320 w _ ?side1 ?side2 A3.out).mono ?_);(case side1 => repeat (first|(with_reducible first|exact HI311.out|apply IsS88.alloc|apply IsS88.drewN|apply IsS88.drew|apply IsS88.set_1|apply IsS88.set_2|refine IsS88.far ?_ NB311_307.out _)|exact HI311.out));(case side2 => repeat (first|(with_reducible first|exact HB.out|apply lA|apply lN|apply lD|refine lS ?_ (IsS88.ge HI311.out)|refine lS ?_ GE307.out)|exact HB.out));rintro e w6 ⟨v313,v316,rfl,ho0,ho1,hi,hb,hk⟩;refine ⟨_,rfl,?_⟩;have n0_:=aM (KeepBut.blk hk (g':=gb307) (o:=.cells #[.slice none 0 0,.slice none 0 0,.string (⟨#[]⟩ : ByteArray)] 38 (0,0)) (by (with_reducible repeat (first|refine bN ?_ _|refine bD ?_|refine bA ?_ _));exact BK307.out) NB307_311.out (by simp));have n1_:=aM (rL ho0 (lZ (by repeat (first|(with_reducible first|exact HB.out|apply lA|apply lN|apply lD|refine lS ?_ (IsS88.ge HI311.out)|refine lS ?_ GE307.out)|exact HB.out))));have n2_:=aM (rL ho1 (lZ (by repeat (first|(with_reducible first|exact HB.out|apply lA|apply lN|apply lD|refine lS ?_ (IsS88.ge HI311.out)|refine lS ?_ GE307.out)|exact HB.out))));have n3_:=aM (hb);have n4_:=aM (hi);clear BK307 HB HI311;have BK307:=n0_;have HO314:=n1_;have HO317:=n2_;have HB:=n3_;have HI311:=n4_;clear n0_ n1_ n2_ n3_ n4_;(try clear hb);(try clear hb2);(try clear hk);(try clear hi);(try clear ho0);(try clear ho1);obtain ⟨Ao7,co7,eo7⟩:=Kd.R_slice HO314.out;subst eo7;have hnb8:=NB307_311.out;have hnc8:=NB311_307.out;obtain ⟨⟨hcz9_0,hcz9_1,hcz9_2⟩,hfz9_0,hfz9_1,hfz9_2⟩:=bC3 BK307.out;obtain ⟨Ao10,co10,eo10⟩:=Kd.R_slice HO317.out;subst eo10))
 refine bodyPost_ret (results_cell_row rfl _ _ gb307 38 #[.slice Ao7 t312.length co7,.slice Ao10 t315.length co10,.string t318] (0,0) _ rfl (by (with_reducible repeat (first|refine bN ?_ _|refine bD ?_|refine bA ?_ _));refine blk_put (cs:=#[.slice Ao7 t312.length co7,.slice Ao10 t315.length co10,.string (⟨#[]⟩ : ByteArray)]) ?_ 2 _ rfl;(with_reducible repeat (first|refine bN ?_ _|refine bD ?_|refine bA ?_ _));refine blk_put (cs:=#[.slice Ao7 t312.length co7,.slice none 0 0,.string (⟨#[]⟩ : ByteArray)]) ?_ 1 _ rfl;(with_reducible repeat (first|refine bN ?_ _|refine bD ?_|refine bA ?_ _));refine blk_put (cs:=#[.slice none 0 0,.slice none 0 0,.string (⟨#[]⟩ : ByteArray)]) ?_ 0 _ rfl;(with_reducible repeat (first|refine bN ?_ _|refine bD ?_|refine bA ?_ _));exact BK307.out) Try.underlying38 rfl (by kernel_rfl)) rfl ?_
 exact ⟨_,_,by first|rfl|(simp [errW_none,errW_some] <;> rfl)|(simp [*,errW_none,errW_some] <;> rfl),by (with_reducible repeat (first|apply rA|apply rN|apply rD));exact Kd.R_mono (rF (rF (rF (rY HO314.out BK307.out (by decide)) (fun _ hk => hk.2) _) (fun _ hk => hk.2) _) (fun _ hk => hk.2) _) (fun _ hk => trivial),by (with_reducible repeat (first|apply rA|apply rN|apply rD));exact Kd.R_mono (rF (rF (rF (rY HO317.out BK307.out (by decide)) (fun _ hk => hk.2) _) (fun _ hk => hk.2) _) (fun _ hk => hk.2) _) (fun _ hk => trivial),by repeat (first|(with_reducible first|exact HB.out|apply lA|apply lN|apply lD|refine lS ?_ (IsS88.ge HI311.out)|refine lS ?_ GE307.out)|exact HB.out)⟩

/-! ### spec_DrawPlaces: function 33 -/
def spec_DrawPlaces.l0 : Nat → List Int → Int → List Int → Int → Int → Option (List Int)
 |0,_,_,_,_,_ => none
 |k + 1,x4,x5,x325000,x325001,x325002 => if x5 < 12 then ((spec_l01Below.f x325000 x325001 x325002 10000).bind fun bt331 => (if x4.length < 17592186044416 then (spec_DrawPlaces.l0 k (x4 ++ [bt331.1]) (wrap64 (x5 + 1)) x325000 bt331.2.1 bt331.2.2) else (none))) else (some x4)
def spec_DrawPlaces.f (k : Nat) (l0 : List Int) : Option (List Int):=(spec_l01New.f k l0).bind fun bt321 => ((spec_l01Byte.f bt321.1 bt321.2.1 bt321.2.2).bind fun bt325 => (spec_DrawPlaces.l0 k (([] : List Int)) 0 bt321.1 bt325.2.1 bt325.2.2))
theorem spec_DrawPlaces.mono_l : ∀ k,(∀ y0 y1 y2 y3 y4,LeO (spec_DrawPlaces.l0 k y0 y1 y2 y3 y4) (spec_DrawPlaces.l0 (k + 1) y0 y1 y2 y3 y4))
 |0 => fun _ _ _ _ _ r h => by simp [spec_DrawPlaces.l0] at h
 |k + 1 => by
  have ih0:=spec_DrawPlaces.mono_l k
  ·intro y0 y1 y2 y3 y4
   unfold spec_DrawPlaces.l0
   repeat' first
   |(with_reducible exact ih0 _ _ _ _ _)
   |(with_reducible exact spec_l01New.mono _ _)
   |(with_reducible exact LeO.refl _)
   |(with_reducible exact LeO.none _)
   |(with_reducible refine LeO.ite ?_ ?_)
   |(with_reducible refine LeO.bind ?_ (fun _ => ?_))
   |exact ih0 _ _ _ _ _
   |exact spec_l01New.mono _ _
   |exact LeO.none _
   |refine LeO.ite ?_ ?_
   |refine LeO.bind ?_ (fun _ => ?_)
theorem spec_DrawPlaces.mono : ∀ a0 k,LeO (spec_DrawPlaces.f k a0) (spec_DrawPlaces.f (k + 1) a0):=by
 intro a0 k
 have ih0:=spec_DrawPlaces.mono_l k
 unfold spec_DrawPlaces.f
 repeat' first
   |(with_reducible exact ih0 _ _ _ _ _)
   |(with_reducible exact spec_l01New.mono _ _)
   |(with_reducible exact LeO.refl _)
   |(with_reducible exact LeO.none _)
   |(with_reducible refine LeO.ite ?_ ?_)
   |(with_reducible refine LeO.bind ?_ (fun _ => ?_))
   |exact ih0 _ _ _ _ _
   |exact spec_l01New.mono _ _
   |exact LeO.none _
   |refine LeO.ite ?_ ?_
   |refine LeO.bind ?_ (fun _ => ?_)
set_option maxHeartbeats 8000000 in
set_option maxRecDepth 100000 in
theorem spec_DrawPlaces.calls (k : Nat) (A0 : Option Addr) (c0 : Nat) (l0 : List Int) (r : List Int) (w : World) (hr0 : Kd.C (Kd.int .u8) w A0 l0.length l0) (hc0 : l0.length ≤ c0) (h : spec_DrawPlaces.f k l0 = some r) :
  Calls Try.prog 33 #[.slice A0 l0.length c0] w fun e w' => ∃ v0_ : Value,e = .returned (v0_) ∧ Kd.R (Kd.int .i64) 3 w' w.heap.size (fun _ => True) v0_ r ∧ Below w.heap.size w w':=by
 have HR0:=aM hr0
 have HC0:=aM hc0
 clear hr0 hc0
 have HB:=aM (Below.refl w.heap.size w)
 have H : ((spec_l01New.f k l0).bind fun bt321 => ((spec_l01Byte.f bt321.1 bt321.2.1 bt321.2.2).bind fun bt325 => (spec_DrawPlaces.l0 k (([] : List Int)) 0 bt321.1 bt325.2.1 bt325.2.2))) = some r:=h
 clear h
 replace H:=Option.bind_eq_some_iff.mp H
 obtain ⟨⟨t321,t322,t323⟩,A20,H⟩:=H
 replace H : ((spec_l01Byte.f t321 t322 t323).bind fun bt325 => (spec_DrawPlaces.l0 k (([] : List Int)) 0 t321 bt325.2.1 bt325.2.2)) = some r:=H
 have A2:=aM A20
 clear A20
 replace H:=Option.bind_eq_some_iff.mp H
 obtain ⟨⟨t325,t326,t327⟩,A30,H⟩:=H
 replace H : (spec_DrawPlaces.l0 k (([] : List Int)) 0 t321 t326 t327) = some r:=H
 have A3:=aM A30
 clear A30
 obtain ⟨y328,hy328⟩ : ∃ y_ : List Int,y_ = (([] : List Int)):=⟨_,rfl⟩
 replace H : (spec_DrawPlaces.l0 k y328 0 t321 t326 t327) = some r:=by first|(rw [hy328];with_reducible exact H)|(have H2_:=(Option.bind_some _ _).symm.trans H;rw [hy328];with_reducible exact H2_)|(have H2_:=(Option.bind_some _ _).symm.trans H;with_reducible exact H2_)|with_reducible exact H|(rw [hy328];exact H)|exact H
 have Ny328:=aM hy328
 clear hy328
 have H':=aM H
 clear H
 go_enter Try.func33,Try.ntmps33
 go_wp2_with (first|((with_reducible refine gate_callee (f:=44) rfl ?_);refine goesL_ (some 7) rfl rfl Try.func44 (by kernel_rfl) rfl #[.slice A0 l0.length c0] rfl (by (try simp only [List.map_toArray,List.map_cons,List.map_nil]);first|done|rfl|(simp only [List.length_drop,List.length_take];rfl)) ?_;(with_reducible refine (spec_l01New.calls k _ _ l0 t321 t322 t323 w _ ?side1 ?side2 ?side3 A2.out).mono ?_);(case side1 => repeat (first|(with_reducible first|exact HB.out|apply lA|apply lN|apply lD)|exact HB.out));(case side2 => exact HR0.out);(case side3 => exact HC0.out);rintro e w4 ⟨g324,rfl,hi,hb,hb2⟩;refine ⟨_,rfl,?_⟩;have n0_:=aM (hb);have n1_:=aM (hi);clear HB;have HB:=n0_;have HI324:=n1_;clear n0_ n1_;(try clear hb);(try clear hb2);(try clear hk);(try clear hi))|((with_reducible refine gate_callee (f:=67) rfl ?_);refine goesL_ (some 9) rfl rfl Try.func67 (by kernel_rfl) rfl #[.pointer (some ⟨g324,0,none⟩)] rfl (by (try simp only [List.map_toArray,List.map_cons,List.map_nil]);first|done|rfl|(simp only [List.length_drop,List.length_take];rfl)) ?_;(with_reducible refine (spec_l01Byte.calls g324 t321 t322 t323 t325 t326 t327 w _ ?side1 ?side2 A3.out).mono ?_);(case side1 => repeat (first|(with_reducible first|exact HI324.out|apply IsS88.alloc|apply IsS88.drewN|apply IsS88.drew|apply IsS88.set_1|apply IsS88.set_2)|exact HI324.out));(case side2 => repeat (first|(with_reducible first|exact HB.out|apply lA|apply lN|apply lD|refine lS ?_ (IsS88.ge HI324.out))|exact HB.out));rintro e w5 ⟨rfl,hi,hb,hk⟩;refine ⟨_,rfl,?_⟩;have n0_:=aM (hb);have n1_:=aM (hi);clear HB HI324;have HB:=n0_;have HI324:=n1_;clear n0_ n1_;(try clear hb);(try clear hb2);(try clear hk);(try clear hi))|((with_reducible refine gate_dst (N:=10) rfl ?_);refine Kd.R_lit (Kd.int .i64) _ 3 ?hg (N:=10) ?hd (xs:=([] : List Int)) (inner:=[]) (ok:=fun _ => True) (okp:=fun _ => True) ?hr ?hp (fun _ hk => hk) trivial (Below.refl _ _) (Nat.le_refl _) (by simp) ?_;(case hd => rfl);(case hg => rfl);(case hr => first|(go_simp;done)|(go_simp;rfl));(case hp => exact (Reps.none _ _));intro v329 w6 ho7 hb hg_ hnew_;clear hg_ hnew_;(first|rw [← Ny328.out] at ho7|(simp only [Int.reduceToNat] at ho7;rw [← Ny328.out] at ho7));have n0_:=aM (rL ho7 (lZ (by repeat (first|(with_reducible first|exact HB.out|apply lA|apply lN|apply lD|refine lS ?_ (IsS88.ge HI324.out))|exact HB.out))));have n1_:=aM (IsS88.below (by repeat (first|(with_reducible first|exact HI324.out|apply IsS88.alloc|apply IsS88.drewN|apply IsS88.drew|apply IsS88.set_1|apply IsS88.set_2)|exact HI324.out)) hb);have n2_:=aM (lP (by repeat (first|(with_reducible first|exact HB.out|apply lA|apply lN|apply lD|refine lS ?_ (IsS88.ge HI324.out))|exact HB.out)) hb);clear HI324 HB;have HO330:=n0_;have HI324:=n1_;have HB:=n2_;clear n0_ n1_ n2_ hb ho7))
 go_loopg [4,5] k (fun kq v4 v5 w' => ∃ (x4_1 : List Int) (x5_1 : Int) (x325001_1 : Int) (x325002_1 : Int),v5 = .int .i64 x5_1 ∧ Aside0 (spec_DrawPlaces.l0 kq x4_1 x5_1 t321 x325001_1 x325002_1 = some r) ∧ Aside0 (kq ≤ k) ∧ Aside0 (Kd.R (Kd.int .i64) 3 w' w.heap.size (fun _ => True) v4 x4_1) ∧ Aside0 (IsS88 w w' g324 t321 x325001_1 x325002_1) ∧ Aside0 (Below w.heap.size w w'))
 case atStart => exact ⟨(y328),(0),(t326),(t327),(by first|rfl|(simp;done)|(simp [*];done)),H',⟨Nat.le_refl _⟩,⟨by (with_reducible repeat (first|apply rA|apply rN|apply rD));exact HO330.out⟩,⟨by repeat (first|(with_reducible first|exact HI324.out|apply IsS88.alloc|apply IsS88.drewN|apply IsS88.drew|apply IsS88.set_1|apply IsS88.set_2)|exact HI324.out)⟩,⟨by repeat (first|(with_reducible first|exact HB.out|apply lA|apply lN|apply lD|refine lS ?_ (IsS88.ge HI324.out))|exact HB.out)⟩⟩
 case round =>
  clear H'
  try clear p2
  try clear c3
  try clear c4
  try clear c6
  obtain ⟨x4_1,x5_1,x325001_1,x325002_1,rfl,HA,HK1,HO_4,HI324,HB⟩:=hrel
  cases gk with
  |zero => exact absurd HA.out (by simp [spec_DrawPlaces.l0])
  |succ k1 =>
   have H:=HA.out
   clear HA
   simp only [spec_DrawPlaces.l0] at H
   by_cases c8 : x5_1 < 12
   ·rw [if_pos c8] at H
    have c8b0 : decide (x5_1 < 12) = true:=decide_eq_true c8
    clear c8
    replace H:=Option.bind_eq_some_iff.mp H
    obtain ⟨⟨t331,t332,t333⟩,A90,H⟩:=H
    replace H : (if x4_1.length < 17592186044416 then (spec_DrawPlaces.l0 k1 (x4_1 ++ [t331]) (wrap64 (x5_1 + 1)) t321 t332 t333) else (none)) = some r:=H
    have A9:=aM A90
    clear A90
    by_cases c10 : x4_1.length < 17592186044416
    ·rw [if_pos c10] at H
     have LMc10:=aM c10
     clear c10
     obtain ⟨y334,hy334⟩ : ∃ y_ : List Int,y_ = (x4_1 ++ [t331]):=⟨_,rfl⟩
     replace H : (spec_DrawPlaces.l0 k1 y334 (wrap64 (x5_1 + 1)) t321 t332 t333) = some r:=by first|(rw [hy334];with_reducible exact H)|(have H2_:=(Option.bind_some _ _).symm.trans H;rw [hy334];with_reducible exact H2_)|(have H2_:=(Option.bind_some _ _).symm.trans H;with_reducible exact H2_)|with_reducible exact H|(rw [hy334];exact H)|exact H
     have Ny334:=aM hy334
     clear hy334
     have H':=aM H
     clear H
     go_wp2_with (first|((with_reducible refine gate_callee (f:=46) rfl ?_);refine goesL_ (some 17) rfl rfl Try.func46 (by kernel_rfl) rfl #[.pointer (some ⟨g324,0,none⟩),.int .i64 10000] rfl (by (try simp only [List.map_toArray,List.map_cons,List.map_nil]);first|done|rfl|(simp only [List.length_drop,List.length_take];rfl)) ?_;(with_reducible refine (spec_l01Below.calls g324 t321 x325001_1 x325002_1 10000 t331 t332 t333 w _ ?side1 ?side2 A9.out).mono ?_);(case side1 => repeat (first|(with_reducible first|exact HI324.out|apply IsS88.alloc|apply IsS88.drewN|apply IsS88.drew|apply IsS88.set_1|apply IsS88.set_2)|exact HI324.out));(case side2 => repeat (first|(with_reducible first|exact HB.out|apply lA|apply lN|apply lD|refine lS ?_ (IsS88.ge HI324.out))|exact HB.out));rintro e w11 ⟨rfl,hi,hb,hk⟩;refine ⟨_,rfl,?_⟩;have n0_:=aM (Kd.R_mono (Kd.R_keep (IsS88.apart (show IsS88 w _ g324 t321 x325001_1 x325002_1 from by repeat (first|(with_reducible first|exact HI324.out|apply IsS88.alloc|apply IsS88.drewN|apply IsS88.drew|apply IsS88.set_1|apply IsS88.set_2)|exact HI324.out)) (rZ HO_4.out) (by decide)) hk (fun _ h => h.2)) (fun _ h => h.1));have n1_:=aM (hb);have n2_:=aM (hi);clear HO_4 HB HI324;have HO_4:=n0_;have HB:=n1_;have HI324:=n2_;clear n0_ n1_ n2_;(try clear hb);(try clear hb2);(try clear hk);(try clear hi))|((with_reducible refine gate_builtin (b:=.append) (xs:=#[.tmp 15,.tmp 18]) rfl ?_);at_builtin;refine Kd.R_append (Kd.int .i64) (w0:=w) w.heap.size rfl (.tmp 15) (.tmp 18) 49 3 (.int .i64 0) 8 rfl Try.underlying49 info3 rfl (by decide) (by omega) u4 x4_1 t331 [.int .i64 t331] (fun _ => True) (fun _ => False) rfl rfl ?aP (fun _ hk => hk.elim) ?aF ?aO ?aB ?aS ?aL ?_;(case aP => exact rfl);(case aB => exact (by repeat (first|(with_reducible first|exact HB.out|apply lA|apply lN|apply lD|refine lS ?_ (IsS88.ge HI324.out))|exact HB.out)));(case aF => exact (fun _ _ => trivial));(case aO => exact (rZ HO_4.out));(case aS => exact (lZ (by repeat (first|(with_reducible first|exact HB.out|apply lA|apply lN|apply lD|refine lS ?_ (IsS88.ge HI324.out))|exact HB.out))));(case aL => have:=LMc10.out;omega);intro v335 w12 ho hb hg hat;rw [← Ny334.out] at ho;have n0_:=aM (IsS88.grown (by repeat (first|(with_reducible first|exact HI324.out|apply IsS88.alloc|apply IsS88.drewN|apply IsS88.drew|apply IsS88.set_1|apply IsS88.set_2)|exact HI324.out)) hg (IsS88.own_ne HI324.out HO_4.out (by decide)));have n1_:=aM (hb);have n2_:=aM (ho);clear HI324 HB HO_4;have HI324:=n0_;have HB:=n1_;have HO336:=n2_;clear n0_ n1_ n2_ ho hb hg hat))
     go_roundg k1
     case measure => have:=HK1.out;omega
     case rel => exact ⟨(y334),(wrap64 (x5_1 + 1)),(t332),(t333),(by first|rfl|(simp;done)|(simp [*];done)),H',⟨by have:=HK1.out;omega⟩,⟨by (with_reducible repeat (first|apply rA|apply rN|apply rD));exact HO336.out⟩,⟨by repeat (first|(with_reducible first|exact HI324.out|apply IsS88.alloc|apply IsS88.drewN|apply IsS88.drew|apply IsS88.set_1|apply IsS88.set_2)|exact HI324.out)⟩,⟨by repeat (first|(with_reducible first|exact HB.out|apply lA|apply lN|apply lD|refine lS ?_ (IsS88.ge HI324.out))|exact HB.out)⟩⟩
    ·rw [if_neg c10] at H
     exact absurd H (by simp)
   ·rw [if_neg c8] at H
    have c8b0 : decide (x5_1 < 12) = false:=decide_eq_false c8
    clear c8
    obtain rfl:=Option.some.inj H
    go_wp2
    go_ret
    exact ⟨_,by first|rfl|(simp [errW_none,errW_some] <;> rfl)|(simp [*,errW_none,errW_some] <;> rfl),by (with_reducible repeat (first|apply rA|apply rN|apply rD));exact HO_4.out,by repeat (first|(with_reducible first|exact HB.out|apply lA|apply lN|apply lD|refine lS ?_ (IsS88.ge HI324.out))|exact HB.out)⟩

/-! ### spec_l01Figure: function 68 -/
def spec_l01Figure.f (a0 : Int) : Option (Int):=if a0 < 10 then (some ((wrap64 (48 + a0)) % 256)) else (some ((wrap64 ((wrap64 (97 + a0)) - 10)) % 256))
set_option maxHeartbeats 8000000 in
set_option maxRecDepth 100000 in
theorem spec_l01Figure.calls (a0 : Int) (r : Int) (w : World) (h : spec_l01Figure.f a0 = some r) :
  Calls Try.prog 68 #[.int .i64 a0] w fun e w' => e = .returned (.int .u8 r) ∧ Drawn0 w w':=by
 have H : (if a0 < 10 then (some ((wrap64 (48 + a0)) % 256)) else (some ((wrap64 ((wrap64 (97 + a0)) - 10)) % 256))) = some r:=h
 clear h
 by_cases c2 : a0 < 10
 ·rw [if_pos c2] at H
  have c2b0 : decide (a0 < 10) = true:=decide_eq_true c2
  clear c2
  obtain rfl:=Option.some.inj H
  go_enter Try.func68,Try.ntmps68
  go_wp2
  go_ret
  exact ⟨by first|rfl|(simp;done)|(simp [*];done),by repeat (first|exact Drawn0.refl _|apply Drawn0.step)⟩
 ·rw [if_neg c2] at H
  have c2b0 : decide (a0 < 10) = false:=decide_eq_false c2
  clear c2
  obtain rfl:=Option.some.inj H
  go_enter Try.func68,Try.ntmps68
  go_wp2
  go_ret
  exact ⟨by first|rfl|(simp;done)|(simp [*];done),by repeat (first|exact Drawn0.refl _|apply Drawn0.step)⟩

/-! ### spec_Decimal: function 34 -/
def spec_Decimal.l0 : Nat → Int → Bool → ByteArray → Option (ByteArray)
 |0,_,_,_ => none
 |k + 1,x0,x3,x4 => if x0 = 0 then (if x3 = true then (if 1 + x4.size ≤ 9223372036854775807 then (some ((⟨#[45]⟩ : ByteArray) ++ x4)) else (none)) else (some x4)) else (if (Int.tmod x0 10) < 0 then ((spec_l01Figure.f (wrap64 (-(Int.tmod x0 10)))).bind fun t337 => ((some (([t337] : List Int) : List Int)).bind fun y338 => (if (strOfNums y338).size + x4.size ≤ 9223372036854775807 then (spec_Decimal.l0 k (wrap64 (Int.tdiv x0 10)) x3 ((strOfNums y338) ++ x4)) else (none)))) else ((spec_l01Figure.f (Int.tmod x0 10)).bind fun t341 => ((some (([t341] : List Int) : List Int)).bind fun y342 => (if (strOfNums y342).size + x4.size ≤ 9223372036854775807 then (spec_Decimal.l0 k (wrap64 (Int.tdiv x0 10)) x3 ((strOfNums y342) ++ x4)) else (none)))))
def spec_Decimal.f (k : Nat) (a0 : Int) : Option (ByteArray):=if a0 = 0 then (some (⟨#[48]⟩ : ByteArray)) else (spec_Decimal.l0 k a0 (decide (a0 < 0)) (⟨#[]⟩ : ByteArray))
theorem spec_Decimal.mono_l : ∀ k,(∀ y0 y1 y2,LeO (spec_Decimal.l0 k y0 y1 y2) (spec_Decimal.l0 (k + 1) y0 y1 y2))
 |0 => fun _ _ _ r h => by simp [spec_Decimal.l0] at h
 |k + 1 => by
  have ih0:=spec_Decimal.mono_l k
  ·intro y0 y1 y2
   unfold spec_Decimal.l0
   repeat' first
   |(with_reducible exact ih0 _ _ _)
   |(with_reducible exact LeO.refl _)
   |(with_reducible exact LeO.none _)
   |(with_reducible refine LeO.ite ?_ ?_)
   |(with_reducible refine LeO.bind ?_ (fun _ => ?_))
   |exact ih0 _ _ _
   |exact LeO.none _
   |refine LeO.ite ?_ ?_
   |refine LeO.bind ?_ (fun _ => ?_)
theorem spec_Decimal.mono : ∀ a0 k,LeO (spec_Decimal.f k a0) (spec_Decimal.f (k + 1) a0):=by
 intro a0 k
 have ih0:=spec_Decimal.mono_l k
 unfold spec_Decimal.f
 repeat' first
   |(with_reducible exact ih0 _ _ _)
   |(with_reducible exact LeO.refl _)
   |(with_reducible exact LeO.none _)
   |(with_reducible refine LeO.ite ?_ ?_)
   |(with_reducible refine LeO.bind ?_ (fun _ => ?_))
   |exact ih0 _ _ _
   |exact LeO.none _
   |refine LeO.ite ?_ ?_
   |refine LeO.bind ?_ (fun _ => ?_)
set_option maxHeartbeats 8000000 in
set_option maxRecDepth 100000 in
theorem spec_Decimal.calls (k : Nat) (a0 : Int) (r : ByteArray) (w : World) (h : spec_Decimal.f k a0 = some r) :
  Calls Try.prog 34 #[.int .i64 a0] w fun e w' => e = .returned (.string r) ∧ Below w.heap.size w w':=by
 have HB:=aM (Below.refl w.heap.size w)
 have H : (if a0 = 0 then (some (⟨#[48]⟩ : ByteArray)) else (spec_Decimal.l0 k a0 (decide (a0 < 0)) (⟨#[]⟩ : ByteArray))) = some r:=h
 clear h
 by_cases c2 : a0 = 0
 ·rw [if_pos c2] at H
  have c2b0 : (a0 == 0) = true:=beq_iff_eq.mpr c2
  have c2b1 : (a0 != 0) = false:=bne_eq_false_iff_eq.mpr c2
  clear c2
  obtain rfl:=Option.some.inj H
  go_enter Try.func34,Try.ntmps34
  go_wp2
  go_ret
  exact ⟨by first|rfl|(simp [errW_none,errW_some] <;> rfl)|(simp [*,errW_none,errW_some] <;> rfl),by repeat (first|(with_reducible first|exact HB.out|apply lA|apply lN|apply lD)|exact HB.out)⟩
 ·rw [if_neg c2] at H
  have c2b0 : (a0 == 0) = false:=beq_eq_false_iff_ne.mpr c2
  have c2b1 : (a0 != 0) = true:=bne_iff_ne.mpr c2
  have H':=aM H
  clear H
  go_enter Try.func34,Try.ntmps34
  go_wp2
  go_loopg [0,4] k (fun kq v0 v4 w' => ∃ (x0_1 : Int) (x4_1 : ByteArray),v0 = .int .i64 x0_1 ∧ v4 = .string x4_1 ∧ Aside0 (spec_Decimal.l0 kq x0_1 (decide (a0 < 0)) x4_1 = some r) ∧ Aside0 (kq ≤ k) ∧ Aside0 (Below w.heap.size w w'))
  case atStart => exact ⟨(a0),((⟨#[]⟩ : ByteArray)),(by first|rfl|(simp;done)|(simp [*];done)),(by first|rfl|(simp;done)|(simp [*];done)),H',⟨Nat.le_refl _⟩,⟨by repeat (first|(with_reducible first|exact HB.out|apply lA|apply lN|apply lD)|exact HB.out)⟩⟩
  case round =>
   clear H'
   try clear c2
   try clear c2b0
   try clear c2b1
   try clear p2
   obtain ⟨x0_1,x4_1,rfl,rfl,HA,HK1,HB⟩:=hrel
   cases gk with
   |zero => exact absurd HA.out (by simp [spec_Decimal.l0])
   |succ k1 =>
    have H:=HA.out
    clear HA
    simp only [spec_Decimal.l0] at H
    by_cases c3 : x0_1 = 0
    ·rw [if_pos c3] at H
     have c3b0 : (x0_1 == 0) = true:=beq_iff_eq.mpr c3
     have c3b1 : (x0_1 != 0) = false:=bne_eq_false_iff_eq.mpr c3
     clear c3
     by_cases c4 : (decide (a0 < 0)) = true
     ·rw [if_pos c4] at H
      have c4b0 : (decide (a0 < 0)) = true:=c4
      have c4b9 : a0 < 0:=of_decide_eq_true c4
      clear c4
      by_cases c5 : 1 + x4_1.size ≤ 9223372036854775807
      ·rw [if_pos c5] at H
       have c5b0:=eq_true c5
       have c5b1 : decide (1 + x4_1.size ≤ 9223372036854775807) = true:=decide_eq_true c5
       try have c5b2 : (9223372036854775807 < 1 + x4_1.size) = False:=eq_false (Nat.not_lt.2 c5)
       obtain rfl:=Option.some.inj H
       go_wp2
       go_ret
       exact ⟨by first|rfl|(simp [errW_none,errW_some] <;> rfl)|(simp [*,errW_none,errW_some] <;> rfl),by repeat (first|(with_reducible first|exact HB.out|apply lA|apply lN|apply lD)|exact HB.out)⟩
      ·rw [if_neg c5] at H
       exact absurd H (by simp)
     ·rw [if_neg c4] at H
      have c4b0 : (decide (a0 < 0)) = false:=by simpa using c4
      have c4b9 : ¬ (a0 < 0):=of_decide_eq_false c4b0
      clear c4
      obtain rfl:=Option.some.inj H
      go_wp2
      go_ret
      exact ⟨by first|rfl|(simp [errW_none,errW_some] <;> rfl)|(simp [*,errW_none,errW_some] <;> rfl),by repeat (first|(with_reducible first|exact HB.out|apply lA|apply lN|apply lD)|exact HB.out)⟩
    ·rw [if_neg c3] at H
     have c3b0 : (x0_1 == 0) = false:=beq_eq_false_iff_ne.mpr c3
     have c3b1 : (x0_1 != 0) = true:=bne_iff_ne.mpr c3
     by_cases c6 : (Int.tmod x0_1 10) < 0
     ·rw [if_pos c6] at H
      have c6b0 : decide ((Int.tmod x0_1 10) < 0) = true:=decide_eq_true c6
      clear c6
      replace H:=Option.bind_eq_some_iff.mp H
      obtain ⟨t337,A70,H⟩:=H
      replace H : ((some (([t337] : List Int) : List Int)).bind fun y338 => (if (strOfNums y338).size + x4_1.size ≤ 9223372036854775807 then (spec_Decimal.l0 k1 (wrap64 (Int.tdiv x0_1 10)) (decide (a0 < 0)) ((strOfNums y338) ++ x4_1)) else (none))) = some r:=H
      have A7:=aM A70
      clear A70
      obtain ⟨y338,hy338⟩ : ∃ y_ : List Int,y_ = (([t337] : List Int)):=⟨_,rfl⟩
      replace H : (if (strOfNums y338).size + x4_1.size ≤ 9223372036854775807 then (spec_Decimal.l0 k1 (wrap64 (Int.tdiv x0_1 10)) (decide (a0 < 0)) ((strOfNums y338) ++ x4_1)) else (none)) = some r:=by first|(rw [hy338];with_reducible exact H)|(have H2_:=(Option.bind_some _ _).symm.trans H;rw [hy338];with_reducible exact H2_)|(have H2_:=(Option.bind_some _ _).symm.trans H;with_reducible exact H2_)|with_reducible exact H|(rw [hy338];exact H)|exact H
      have Ny338:=aM hy338
      clear hy338
      by_cases c8 : (strOfNums y338).size + x4_1.size ≤ 9223372036854775807
      ·rw [if_pos c8] at H
       have c8b0:=eq_true c8
       have c8b1 : decide ((strOfNums y338).size + x4_1.size ≤ 9223372036854775807) = true:=decide_eq_true c8
       try have c8b2 : (9223372036854775807 < (strOfNums y338).size + x4_1.size) = False:=eq_false (Nat.not_lt.2 c8)
       have H':=aM H
       clear H
       go_wp2_with (first|((with_reducible refine gate_callee (f:=68) rfl ?_);refine goesL_ (some 19) rfl rfl Try.func68 (by kernel_rfl) rfl #[.int .i64 (wrap64 (-(Int.tmod x0_1 10)))] rfl (by (try simp only [List.map_toArray,List.map_cons,List.map_nil]);first|done|rfl|(simp only [List.length_drop,List.length_take];rfl)) ?_;(with_reducible refine (spec_l01Figure.calls (wrap64 (-(Int.tmod x0_1 10))) t337 _ A7.out).mono ?_);rintro e w' ⟨rfl,⟨nd,rfl⟩⟩;refine ⟨_,rfl,?_⟩)|((with_reducible refine gate_dst (N:=20) rfl ?_);refine Kd.R_lit (Kd.int .u8) _ 5 ?hg (N:=20) ?hd (xs:=([t337] : List Int)) (inner:=[.int .u8 t337]) (ok:=fun _ => True) (okp:=fun _ => True) ?hr ?hp (fun _ hk => hk) trivial (Below.refl _ _) (Nat.le_refl _) (by simp) ?_;(case hd => rfl);(case hg => rfl);(case hr => first|(go_simp;done)|(go_simp;rfl));(case hp => exact (Reps.one (show Kd.M (Kd.int .u8) _ _ _ t337 [.int .u8 t337] from rfl) (Reps.none _ _)));intro v339 w9 ho10 hb hg_ hnew_;clear hg_ hnew_;(first|rw [← Ny338.out] at ho10|(simp only [Int.reduceToNat] at ho10;rw [← Ny338.out] at ho10));have n0_:=aM (rL ho10 (lZ (by repeat (first|(with_reducible first|exact HB.out|apply lA|apply lN|apply lD)|exact HB.out))));have n1_:=aM (lQ HB.out hb);clear HB;have HO340:=n0_;have HB:=n1_;clear n0_ n1_ hb ho10;have hcv11:=own_string (P:=Try.prog) Try.underlying27 Try.underlying5 Try.underlying9 (Kd.own_of_R HO340.out)))
       go_roundg k1
       case measure => have:=HK1.out;omega
       case rel => exact ⟨(wrap64 (Int.tdiv x0_1 10)),((strOfNums y338) ++ x4_1),(by first|rfl|(simp;done)|(simp [*];done)),(by first|rfl|(simp;done)|(simp [*];done)),H',⟨by have:=HK1.out;omega⟩,⟨by repeat (first|(with_reducible first|exact HB.out|apply lA|apply lN|apply lD)|exact HB.out)⟩⟩
      ·rw [if_neg c8] at H
       exact absurd H (by simp)
     ·rw [if_neg c6] at H
      have c6b0 : decide ((Int.tmod x0_1 10) < 0) = false:=decide_eq_false c6
      clear c6
      replace H:=Option.bind_eq_some_iff.mp H
      obtain ⟨t341,A120,H⟩:=H
      replace H : ((some (([t341] : List Int) : List Int)).bind fun y342 => (if (strOfNums y342).size + x4_1.size ≤ 9223372036854775807 then (spec_Decimal.l0 k1 (wrap64 (Int.tdiv x0_1 10)) (decide (a0 < 0)) ((strOfNums y342) ++ x4_1)) else (none))) = some r:=H
      have A12:=aM A120
      clear A120
      obtain ⟨y342,hy342⟩ : ∃ y_ : List Int,y_ = (([t341] : List Int)):=⟨_,rfl⟩
      replace H : (if (strOfNums y342).size + x4_1.size ≤ 9223372036854775807 then (spec_Decimal.l0 k1 (wrap64 (Int.tdiv x0_1 10)) (decide (a0 < 0)) ((strOfNums y342) ++ x4_1)) else (none)) = some r:=by first|(rw [hy342];with_reducible exact H)|(have H2_:=(Option.bind_some _ _).symm.trans H;rw [hy342];with_reducible exact H2_)|(have H2_:=(Option.bind_some _ _).symm.trans H;with_reducible exact H2_)|with_reducible exact H|(rw [hy342];exact H)|exact H
      have Ny342:=aM hy342
      clear hy342
      by_cases c13 : (strOfNums y342).size + x4_1.size ≤ 9223372036854775807
      ·rw [if_pos c13] at H
       have c13b0:=eq_true c13
       have c13b1 : decide ((strOfNums y342).size + x4_1.size ≤ 9223372036854775807) = true:=decide_eq_true c13
       try have c13b2 : (9223372036854775807 < (strOfNums y342).size + x4_1.size) = False:=eq_false (Nat.not_lt.2 c13)
       have H':=aM H
       clear H
       go_wp2_with (first|((with_reducible refine gate_callee (f:=68) rfl ?_);refine goesL_ (some 19) rfl rfl Try.func68 (by kernel_rfl) rfl #[.int .i64 (Int.tmod x0_1 10)] rfl (by (try simp only [List.map_toArray,List.map_cons,List.map_nil]);first|done|rfl|(simp only [List.length_drop,List.length_take];rfl)) ?_;(with_reducible refine (spec_l01Figure.calls (Int.tmod x0_1 10) t341 _ A12.out).mono ?_);rintro e w' ⟨rfl,⟨nd,rfl⟩⟩;refine ⟨_,rfl,?_⟩)|((with_reducible refine gate_dst (N:=20) rfl ?_);refine Kd.R_lit (Kd.int .u8) _ 5 ?hg (N:=20) ?hd (xs:=([t341] : List Int)) (inner:=[.int .u8 t341]) (ok:=fun _ => True) (okp:=fun _ => True) ?hr ?hp (fun _ hk => hk) trivial (Below.refl _ _) (Nat.le_refl _) (by simp) ?_;(case hd => rfl);(case hg => rfl);(case hr => first|(go_simp;done)|(go_simp;rfl));(case hp => exact (Reps.one (show Kd.M (Kd.int .u8) _ _ _ t341 [.int .u8 t341] from rfl) (Reps.none _ _)));intro v343 w14 ho15 hb hg_ hnew_;clear hg_ hnew_;(first|rw [← Ny342.out] at ho15|(simp only [Int.reduceToNat] at ho15;rw [← Ny342.out] at ho15));have n0_:=aM (rL ho15 (lZ (by repeat (first|(with_reducible first|exact HB.out|apply lA|apply lN|apply lD)|exact HB.out))));have n1_:=aM (lQ HB.out hb);clear HB;have HO344:=n0_;have HB:=n1_;clear n0_ n1_ hb ho15;have hcv16:=own_string (P:=Try.prog) Try.underlying27 Try.underlying5 Try.underlying9 (Kd.own_of_R HO344.out)))
       go_roundg k1
       case measure => have:=HK1.out;omega
       case rel => exact ⟨(wrap64 (Int.tdiv x0_1 10)),((strOfNums y342) ++ x4_1),(by first|rfl|(simp;done)|(simp [*];done)),(by first|rfl|(simp;done)|(simp [*];done)),H',⟨by have:=HK1.out;omega⟩,⟨by repeat (first|(with_reducible first|exact HB.out|apply lA|apply lN|apply lD)|exact HB.out)⟩⟩
      ·rw [if_neg c13] at H
       exact absurd H (by simp)

/-! ### impl_VarOf: function 35 -/
def impl_VarOf.l0 : Nat → ByteArray → List (S53) → Int → Int → Option (ByteArray)
 |0,_,_,_,_ => none
 |k + 1,x1,x8,x9,x10 => if x10 < x9 then (if 0 ≤ x10 then (if x10 < (x8.length : Int) then (if ((rd_T53 x8 x10).f0).toList = x1.toList then (some ((rd_T53 x8 x10).f1)) else (impl_VarOf.l0 k x1 x8 x9 (wrap64 (x10 + 1)))) else (none)) else (none)) else (some (⟨#[]⟩ : ByteArray))
def impl_VarOf.f (k : Nat) (l0_0 : List (S53)) (l0_1 : List (S57)) (a0_2 : ByteArray) (a1 : ByteArray) : Option (ByteArray):=impl_VarOf.l0 k a1 l0_0 (l0_0.length : Int) 0
theorem impl_VarOf.mono_l : ∀ k,(∀ y0 y1 y2 y3,LeO (impl_VarOf.l0 k y0 y1 y2 y3) (impl_VarOf.l0 (k + 1) y0 y1 y2 y3))
 |0 => fun _ _ _ _ r h => by simp [impl_VarOf.l0] at h
 |k + 1 => by
  have ih0:=impl_VarOf.mono_l k
  ·intro y0 y1 y2 y3
   unfold impl_VarOf.l0
   repeat' first
   |(with_reducible exact ih0 _ _ _ _)
   |(with_reducible exact LeO.refl _)
   |(with_reducible exact LeO.none _)
   |(with_reducible refine LeO.ite ?_ ?_)
   |(with_reducible refine LeO.bind ?_ (fun _ => ?_))
   |exact ih0 _ _ _ _
   |exact LeO.none _
   |refine LeO.ite ?_ ?_
   |refine LeO.bind ?_ (fun _ => ?_)
theorem impl_VarOf.mono : ∀ a0 a1 a2 a3 k,LeO (impl_VarOf.f k a0 a1 a2 a3) (impl_VarOf.f (k + 1) a0 a1 a2 a3):=by
 intro a0 a1 a2 a3 k
 have ih0:=impl_VarOf.mono_l k
 unfold impl_VarOf.f
 repeat' first
   |(with_reducible exact ih0 _ _ _ _)
   |(with_reducible exact LeO.refl _)
   |(with_reducible exact LeO.none _)
   |(with_reducible refine LeO.ite ?_ ?_)
   |(with_reducible refine LeO.bind ?_ (fun _ => ?_))
   |exact ih0 _ _ _ _
   |exact LeO.none _
   |refine LeO.ite ?_ ?_
   |refine LeO.bind ?_ (fun _ => ?_)
set_option maxHeartbeats 8000000 in
set_option maxRecDepth 100000 in
theorem impl_VarOf.calls (k : Nat) (A0_0 : Option Addr) (c0_0 : Nat) (l0_0 : List (S53)) (A0_1 : Option Addr) (c0_1 : Nat) (l0_1 : List (S57)) (a0_2 : ByteArray) (a1 : ByteArray) (r : ByteArray) (w : World) (hr0_0 : Kd.C k53 w A0_0 l0_0.length l0_0) (hc0_0 : l0_0.length ≤ c0_0) (hr0_1 : Kd.C k57 w A0_1 l0_1.length l0_1) (hc0_1 : l0_1.length ≤ c0_1) (h : impl_VarOf.f k l0_0 l0_1 a0_2 a1 = some r) :
  Calls Try.prog 35 #[.agg #[.slice A0_0 l0_0.length c0_0,.slice A0_1 l0_1.length c0_1,.string a0_2],.string a1] w fun e w' => e = .returned (.string r) ∧ Below w.heap.size w w':=by
 have hu38:=Try.underlying38
 have hu53:=Try.underlying53
 have HR0_0:=aM hr0_0
 have HC0_0:=aM hc0_0
 clear hr0_0 hc0_0
 have HR0_1:=aM hr0_1
 have HC0_1:=aM hc0_1
 clear hr0_1 hc0_1
 have HB:=aM (Below.refl w.heap.size w)
 have H : (impl_VarOf.l0 k a1 l0_0 (l0_0.length : Int) 0) = some r:=h
 clear h
 have H':=aM H
 clear H
 go_enter Try.func35,Try.ntmps35
 go_wp2_with (first|((with_reducible refine gate_dst (N:=2) rfl ?_);refine box_event ?hg (N:=2) ?hd (cs:=#[.slice A0_0 l0_0.length c0_0,.slice A0_1 l0_1.length c0_1,.string a0_2]) (t:=38) ?hr ?_;(case hd => rfl);(case hg => rfl);(case hr => first|(go_simp;done)|(go_simp;rfl));intro gb345 hg w3 hbox hb;have n0_:=aM (lQ HB.out hb);have n1_:=aM (hbox);have n2_:=aM ((sQ hg HB.out : w.heap.size ≤ gb345));have n3_:=n2_;clear HB;have HB:=n0_;have BK345:=n1_;have GW345:=n2_;have GE345:=n3_;clear n0_ n1_ n2_ n3_ hb hbox hg;obtain ⟨⟨hcz4_0,hcz4_1,hcz4_2⟩,hfz4_0,hfz4_1,hfz4_2⟩:=bC3 BK345.out))
 go_loopg [10] k (fun kq v10 w' => ∃ (x10_1 : Int),v10 = .int .i64 x10_1 ∧ Aside0 (impl_VarOf.l0 kq a1 l0_0 (l0_0.length : Int) x10_1 = some r) ∧ Aside0 (kq ≤ k) ∧ Aside0 (w'.heap[gb345]? = some (.cells #[(.slice A0_0 l0_0.length c0_0),(.slice A0_1 l0_1.length c0_1),.string a0_2] 38 (0,0))) ∧ Aside0 (Below w.heap.size w w'))
 case atStart => exact ⟨(0),(by first|rfl|(simp;done)|(simp [*];done)),H',⟨Nat.le_refl _⟩,⟨by (with_reducible repeat (first|refine bN ?_ _|refine bD ?_|refine bA ?_ _));exact BK345.out⟩,⟨by repeat (first|(with_reducible first|exact HB.out|apply lA|apply lN|apply lD|refine lS ?_ GE345.out)|exact HB.out)⟩⟩
 case round =>
  clear H'
  try clear p2
  try clear c3
  try clear hcz4_0
  try clear hcz4_1
  try clear hcz4_2
  obtain ⟨x10_1,rfl,HA,HK1,BK345,HB⟩:=hrel
  cases gk with
  |zero => exact absurd HA.out (by simp [impl_VarOf.l0])
  |succ k1 =>
   have H:=HA.out
   clear HA
   simp only [impl_VarOf.l0] at H
   by_cases c5 : x10_1 < (l0_0.length : Int)
   ·rw [if_pos c5] at H
    have c5b0 : decide (x10_1 < (l0_0.length : Int)) = true:=decide_eq_true c5
    clear c5
    by_cases c6 : 0 ≤ x10_1
    ·rw [if_pos c6] at H
     have c6b0 : decide (0 ≤ x10_1) = true:=decide_eq_true c6
     clear c6
     by_cases c7 : x10_1 < (l0_0.length : Int)
     ·rw [if_pos c7] at H
      have c7b0 : decide (x10_1 < (l0_0.length : Int)) = true:=decide_eq_true c7
      clear c7
      by_cases c8 : ((rd_T53 l0_0 x10_1).f0).toList = a1.toList
      ·rw [if_pos c8] at H
       have c8b0 : (((rd_T53 l0_0 x10_1).f0).toList == a1.toList) = true:=beq_iff_eq.mpr c8
       have c8b1 : (((rd_T53 l0_0 x10_1).f0).toList != a1.toList) = false:=bne_eq_false_iff_eq.mpr c8
       clear c8
       obtain rfl:=Option.some.inj H
       have p346 : 0 ≤ (x10_1 : Int):=of_decide_eq_true (by first|(with_reducible assumption)|assumption)
       have q346 : x10_1 < (l0_0.length : Int):=of_decide_eq_true (by first|(with_reducible assumption)|assumption)
       obtain ⟨ad346,e346,hx346_0,hx346_1⟩:=at_T53 HR0_0.out x10_1 p346 q346
       cases e346
       replace hx346_0:=(HB.out.cell (World.block_lt_of_cell? w _ hx346_0)).trans hx346_0
       replace hx346_1:=(HB.out.cell (World.block_lt_of_cell? w _ hx346_1)).trans hx346_1
       replace p346:=eq_true p346
       replace q346:=eq_true q346
       go_wp2_with (first|((with_reducible refine gate_dst (N:=6) rfl ?_);refine box_event ?hg (N:=6) ?hd (cs:=#[.string (⟨#[]⟩ : ByteArray),.string (⟨#[]⟩ : ByteArray)]) (t:=53) ?hr ?_;(case hd => rfl);(case hg => rfl);(case hr => first|(go_simp;done)|(go_simp;rfl));intro gb347 hg w9 hbox hb;have n0_:=aM (bH BK345.out hb);have n1_:=aM (lQ HB.out hb);have n2_:=aM (hbox);have n3_:=aM ((sQ hg HB.out : w.heap.size ≤ gb347));have n4_:=n3_;have n5_:=aM ((nL hg BK345.out : gb345 ≠ gb347));have n6_:=aM ((nG hg BK345.out : gb347 ≠ gb345));clear BK345 HB;have BK345:=n0_;have HB:=n1_;have BK347:=n2_;have GW347:=n3_;have GE347:=n4_;have NB345_347:=n5_;have NB347_345:=n6_;clear n0_ n1_ n2_ n3_ n4_ n5_ n6_ hb hbox hg;have hnb10:=NB347_345.out;have hnc10:=NB345_347.out;have hcz11_0 : w9.cell? ⟨gb347,0,none⟩ = some (.string (⟨#[]⟩ : ByteArray)):=(bC BK347.out 0).trans rfl;have hcz11_1 : w9.cell? ⟨gb347,1,none⟩ = some (.string (⟨#[]⟩ : ByteArray)):=(bC BK347.out 1).trans rfl;have hfz11_0:=bF BK347.out 0;have hfz11_1:=bF BK347.out 1))
       go_ret
       exact ⟨by first|rfl|(simp [errW_none,errW_some] <;> rfl)|(simp [*,errW_none,errW_some] <;> rfl),by repeat (first|(with_reducible first|exact HB.out|apply lA|apply lN|apply lD|refine lS ?_ GE345.out|refine lS ?_ GE347.out)|exact HB.out)⟩
      ·rw [if_neg c8] at H
       have c8b0 : (((rd_T53 l0_0 x10_1).f0).toList == a1.toList) = false:=beq_eq_false_iff_ne.mpr c8
       have c8b1 : (((rd_T53 l0_0 x10_1).f0).toList != a1.toList) = true:=bne_iff_ne.mpr c8
       have H':=aM H
       clear H
       have p346 : 0 ≤ (x10_1 : Int):=of_decide_eq_true (by first|(with_reducible assumption)|assumption)
       have q346 : x10_1 < (l0_0.length : Int):=of_decide_eq_true (by first|(with_reducible assumption)|assumption)
       obtain ⟨ad346,e346,hx346_0,hx346_1⟩:=at_T53 HR0_0.out x10_1 p346 q346
       cases e346
       replace hx346_0:=(HB.out.cell (World.block_lt_of_cell? w _ hx346_0)).trans hx346_0
       replace hx346_1:=(HB.out.cell (World.block_lt_of_cell? w _ hx346_1)).trans hx346_1
       replace p346:=eq_true p346
       replace q346:=eq_true q346
       go_wp2_with (first|((with_reducible refine gate_dst (N:=6) rfl ?_);refine box_event ?hg (N:=6) ?hd (cs:=#[.string (⟨#[]⟩ : ByteArray),.string (⟨#[]⟩ : ByteArray)]) (t:=53) ?hr ?_;(case hd => rfl);(case hg => rfl);(case hr => first|(go_simp;done)|(go_simp;rfl));intro gb347 hg w12 hbox hb;have n0_:=aM (bH BK345.out hb);have n1_:=aM (lQ HB.out hb);have n2_:=aM (hbox);have n3_:=aM ((sQ hg HB.out : w.heap.size ≤ gb347));have n4_:=n3_;have n5_:=aM ((nL hg BK345.out : gb345 ≠ gb347));have n6_:=aM ((nG hg BK345.out : gb347 ≠ gb345));clear BK345 HB;have BK345:=n0_;have HB:=n1_;have BK347:=n2_;have GW347:=n3_;have GE347:=n4_;have NB345_347:=n5_;have NB347_345:=n6_;clear n0_ n1_ n2_ n3_ n4_ n5_ n6_ hb hbox hg;have hnb13:=NB347_345.out;have hnc13:=NB345_347.out;have hcz14_0 : w12.cell? ⟨gb347,0,none⟩ = some (.string (⟨#[]⟩ : ByteArray)):=(bC BK347.out 0).trans rfl;have hcz14_1 : w12.cell? ⟨gb347,1,none⟩ = some (.string (⟨#[]⟩ : ByteArray)):=(bC BK347.out 1).trans rfl;have hfz14_0:=bF BK347.out 0;have hfz14_1:=bF BK347.out 1))
       go_roundg k1
       case measure => have:=HK1.out;omega
       case rel => exact ⟨(wrap64 (x10_1 + 1)),(by first|rfl|(simp;done)|(simp [*];done)),H',⟨by have:=HK1.out;omega⟩,⟨by (with_reducible repeat (first|refine bN ?_ _|refine bD ?_|refine bA ?_ _));refine blk_far ?_ NB345_347.out _;(with_reducible repeat (first|refine bN ?_ _|refine bD ?_|refine bA ?_ _));refine blk_far ?_ NB345_347.out _;(with_reducible repeat (first|refine bN ?_ _|refine bD ?_|refine bA ?_ _));exact BK345.out⟩,⟨by repeat (first|(with_reducible first|exact HB.out|apply lA|apply lN|apply lD|refine lS ?_ GE345.out|refine lS ?_ GE347.out)|exact HB.out)⟩⟩
     ·rw [if_neg c7] at H
      exact absurd H (by simp)
    ·rw [if_neg c6] at H
     exact absurd H (by simp)
   ·rw [if_neg c5] at H
    have c5b0 : decide (x10_1 < (l0_0.length : Int)) = false:=decide_eq_false c5
    clear c5
    obtain rfl:=Option.some.inj H
    go_wp2
    go_ret
    exact ⟨by first|rfl|(simp [errW_none,errW_some] <;> rfl)|(simp [*,errW_none,errW_some] <;> rfl),by repeat (first|(with_reducible first|exact HB.out|apply lA|apply lN|apply lD|refine lS ?_ GE345.out)|exact HB.out)⟩

/-! ### impl_within: function 84 -/
def impl_within.f (a0 : Int) (a1 : Int) (a2 : Int) : Option (Bool):=if a0 ≥ a1 then (some (decide (a0 ≤ a2))) else (some false)
set_option maxHeartbeats 8000000 in
set_option maxRecDepth 100000 in
theorem impl_within.calls (a0 : Int) (a1 : Int) (a2 : Int) (r : Bool) (w : World) (h : impl_within.f a0 a1 a2 = some r) :
  Calls Try.prog 84 #[.int .i64 a0,.int .i64 a1,.int .i64 a2] w fun e w' => e = .returned (.bool r) ∧ Drawn0 w w':=by
 have H : (if a0 ≥ a1 then (some (decide (a0 ≤ a2))) else (some false)) = some r:=h
 clear h
 by_cases c4 : a0 ≥ a1
 ·rw [if_pos c4] at H
  have c4b0 : decide (a1 ≤ a0) = true:=decide_eq_true c4
  clear c4
  obtain rfl:=Option.some.inj H
  go_enter Try.func84,Try.ntmps84
  go_wp2
  go_ret
  exact ⟨by first|rfl|(simp;done)|(simp [*];done),by repeat (first|exact Drawn0.refl _|apply Drawn0.step)⟩
 ·rw [if_neg c4] at H
  have c4b0 : decide (a1 ≤ a0) = false:=decide_eq_false c4
  clear c4
  obtain rfl:=Option.some.inj H
  go_enter Try.func84,Try.ntmps84
  go_wp2
  go_ret
  exact ⟨by first|rfl|(simp;done)|(simp [*];done),by repeat (first|exact Drawn0.refl _|apply Drawn0.step)⟩

/-! ### impl_isLetter: function 83 -/
def impl_isLetter.f (a0 : Int) : Option (Bool):=(impl_within.f (wrap64 (a0)) 97 122).bind fun t348 => (if t348 = true then (some true) else ((impl_within.f (wrap64 (a0)) 65 90).bind fun t349 => (some t349)))
set_option maxHeartbeats 8000000 in
set_option maxRecDepth 100000 in
theorem impl_isLetter.calls (a0 : Int) (r : Bool) (w : World) (h : impl_isLetter.f a0 = some r) :
  Calls Try.prog 83 #[.int .u8 a0] w fun e w' => e = .returned (.bool r) ∧ Drawn0 w w':=by
 have H : ((impl_within.f (wrap64 (a0)) 97 122).bind fun t348 => (if t348 = true then (some true) else ((impl_within.f (wrap64 (a0)) 65 90).bind fun t349 => (some t349)))) = some r:=h
 clear h
 replace H:=Option.bind_eq_some_iff.mp H
 obtain ⟨t348,A20,H⟩:=H
 replace H : (if t348 = true then (some true) else ((impl_within.f (wrap64 (a0)) 65 90).bind fun t349 => (some t349))) = some r:=H
 have A2:=aM A20
 clear A20
 by_cases c3 : t348 = true
 ·subst c3
  have H1 : (some true) = some r:=by rw [if_pos rfl] at H;exact H
  clear H
  have H:=H1
  clear H1
  obtain rfl:=Option.some.inj H
  go_enter Try.func83,Try.ntmps83
  go_wp2_with (first|((with_reducible refine gate_callee (f:=84) rfl ?_);refine goesL_ (some 5) rfl rfl Try.func84 (by kernel_rfl) rfl #[.int .i64 (wrap64 (a0)),.int .i64 97,.int .i64 122] rfl (by (try simp only [List.map_toArray,List.map_cons,List.map_nil]);first|done|rfl|(simp only [List.length_drop,List.length_take];rfl)) ?_;(with_reducible refine (impl_within.calls (wrap64 (a0)) 97 122 true _ A2.out).mono ?_);rintro e w' ⟨rfl,⟨nd,rfl⟩⟩;refine ⟨_,rfl,?_⟩))
  go_ret
  exact ⟨by first|rfl|(simp;done)|(simp [*];done),by repeat (first|exact Drawn0.refl _|apply Drawn0.step)⟩
 ·replace c3:=Bool.eq_false_iff.mpr c3
  subst c3
  have H1 : ((impl_within.f (wrap64 (a0)) 65 90).bind fun t349 => (some t349)) = some r:=by rw [if_neg (show ¬ (false = true) by decide)] at H;exact H
  clear H
  have H:=H1
  clear H1
  replace H:=Option.bind_eq_some_iff.mp H
  obtain ⟨t349,A40,H⟩:=H
  replace H : (some t349) = some r:=H
  have A4:=aM A40
  clear A40
  obtain rfl:=Option.some.inj H
  go_enter Try.func83,Try.ntmps83
  go_wp2_with (first|((with_reducible refine gate_callee (f:=84) rfl ?_);refine goesL_ (some 5) rfl rfl Try.func84 (by kernel_rfl) rfl #[.int .i64 (wrap64 (a0)),.int .i64 97,.int .i64 122] rfl (by (try simp only [List.map_toArray,List.map_cons,List.map_nil]);first|done|rfl|(simp only [List.length_drop,List.length_take];rfl)) ?_;(with_reducible refine (impl_within.calls (wrap64 (a0)) 97 122 false _ A2.out).mono ?_);rintro e w' ⟨rfl,⟨nd,rfl⟩⟩;refine ⟨_,rfl,?_⟩)|(go_at_call 84;(with_reducible refine (impl_within.calls (wrap64 (a0)) 65 90 t349 _ A4.out).mono ?_);rintro e w' ⟨rfl,⟨nd,rfl⟩⟩))
  go_ret
  exact ⟨by first|rfl|(simp;done)|(simp [*];done),by repeat (first|exact Drawn0.refl _|apply Drawn0.step)⟩

/-! ### impl_isLetters: function 69 -/
def impl_isLetters.l0 : Nat → ByteArray → Int → Int → Option (Bool)
 |0,_,_,_ => none
 |k + 1,x0,x5,x6 => if x6 < x5 then (if 0 ≤ x6 then (if x6 < (x0.size : Int) then ((impl_isLetter.f (bt x0 x6)).bind fun t350 => (if t350 = true then (impl_isLetters.l0 k x0 x5 (wrap64 (x6 + 1))) else (some false))) else (none)) else (none)) else ((impl_within.f (x0.size : Int) 1 8).bind fun t351 => (some t351))
def impl_isLetters.f (k : Nat) (a0 : ByteArray) : Option (Bool):=impl_isLetters.l0 k a0 (a0.size : Int) 0
theorem impl_isLetters.mono_l : ∀ k,(∀ y0 y1 y2,LeO (impl_isLetters.l0 k y0 y1 y2) (impl_isLetters.l0 (k + 1) y0 y1 y2))
 |0 => fun _ _ _ r h => by simp [impl_isLetters.l0] at h
 |k + 1 => by
  have ih0:=impl_isLetters.mono_l k
  ·intro y0 y1 y2
   unfold impl_isLetters.l0
   repeat' first
   |(with_reducible exact ih0 _ _ _)
   |(with_reducible exact LeO.refl _)
   |(with_reducible exact LeO.none _)
   |(with_reducible refine LeO.ite ?_ ?_)
   |(with_reducible refine LeO.bind ?_ (fun _ => ?_))
   |exact ih0 _ _ _
   |exact LeO.none _
   |refine LeO.ite ?_ ?_
   |refine LeO.bind ?_ (fun _ => ?_)
theorem impl_isLetters.mono : ∀ a0 k,LeO (impl_isLetters.f k a0) (impl_isLetters.f (k + 1) a0):=by
 intro a0 k
 have ih0:=impl_isLetters.mono_l k
 unfold impl_isLetters.f
 repeat' first
   |(with_reducible exact ih0 _ _ _)
   |(with_reducible exact LeO.refl _)
   |(with_reducible exact LeO.none _)
   |(with_reducible refine LeO.ite ?_ ?_)
   |(with_reducible refine LeO.bind ?_ (fun _ => ?_))
   |exact ih0 _ _ _
   |exact LeO.none _
   |refine LeO.ite ?_ ?_
   |refine LeO.bind ?_ (fun _ => ?_)
set_option maxHeartbeats 8000000 in
set_option maxRecDepth 100000 in
theorem impl_isLetters.calls (k : Nat) (a0 : ByteArray) (r : Bool) (w : World) (h : impl_isLetters.f k a0 = some r) :
  Calls Try.prog 69 #[.string a0] w fun e w' => e = .returned (.bool r) ∧ Drawn0 w w':=by
 have H : (impl_isLetters.l0 k a0 (a0.size : Int) 0) = some r:=h
 clear h
 have H':=aM H
 clear H
 go_enter Try.func69,Try.ntmps69
 go_wp2
 go_loopg [6] k (fun kq v6 w' => ∃ (x6_1 : Int),v6 = .int .i64 x6_1 ∧ Aside0 (impl_isLetters.l0 kq a0 (a0.size : Int) x6_1 = some r) ∧ Aside0 (kq ≤ k) ∧ Drawn0 w w')
 case atStart => exact ⟨(0),(by first|rfl|(simp;done)|(simp [*];done)),H',⟨Nat.le_refl _⟩,by repeat (first|exact Drawn0.refl _|apply Drawn0.step)⟩
 case round =>
  clear H'
  obtain ⟨x6_1,rfl,HA,HK1,⟨m1,rfl⟩⟩:=hrel
  cases gk with
  |zero => exact absurd HA.out (by simp [impl_isLetters.l0])
  |succ k1 =>
   have H:=HA.out
   clear HA
   simp only [impl_isLetters.l0] at H
   by_cases c2 : x6_1 < (a0.size : Int)
   ·rw [if_pos c2] at H
    have c2b0 : decide (x6_1 < (a0.size : Int)) = true:=decide_eq_true c2
    clear c2
    by_cases c3 : 0 ≤ x6_1
    ·rw [if_pos c3] at H
     have c3b0 : decide (0 ≤ x6_1) = true:=decide_eq_true c3
     clear c3
     by_cases c4 : x6_1 < (a0.size : Int)
     ·rw [if_pos c4] at H
      have c4b0 : decide (x6_1 < (a0.size : Int)) = true:=decide_eq_true c4
      clear c4
      replace H:=Option.bind_eq_some_iff.mp H
      obtain ⟨t350,A60,H⟩:=H
      replace H : (if t350 = true then (impl_isLetters.l0 k1 a0 (a0.size : Int) (wrap64 (x6_1 + 1))) else (some false)) = some r:=H
      have A6:=aM A60
      clear A60
      by_cases c7 : t350 = true
      ·subst c7
       have H1 : (impl_isLetters.l0 k1 a0 (a0.size : Int) (wrap64 (x6_1 + 1))) = some r:=by rw [if_pos rfl] at H;exact H
       clear H
       have H:=H1
       clear H1
       have H':=aM H
       clear H
       have p5 : 0 ≤ (x6_1 : Int):=of_decide_eq_true (by first|(with_reducible assumption)|assumption)
       have q5 : x6_1 < (a0.size : Int):=of_decide_eq_true (by first|(with_reducible assumption)|assumption)
       have hx5:=bt_at a0 x6_1
       replace p5:=eq_true p5
       replace q5:=eq_true q5
       go_wp2_with (first|((with_reducible refine gate_callee (f:=83) rfl ?_);refine goesL_ (some 12) rfl rfl Try.func83 (by kernel_rfl) rfl #[.int .u8 (bt a0 x6_1)] rfl (by (try simp only [List.map_toArray,List.map_cons,List.map_nil]);first|done|rfl|(simp only [List.length_drop,List.length_take];rfl)) ?_;(with_reducible refine (impl_isLetter.calls (bt a0 x6_1) true _ A6.out).mono ?_);rintro e w' ⟨rfl,⟨nd,rfl⟩⟩;refine ⟨_,rfl,?_⟩))
       go_roundg k1
       case measure => have:=HK1.out;omega
       case rel => exact ⟨(wrap64 (x6_1 + 1)),(by first|rfl|(simp;done)|(simp [*];done)),H',⟨by have:=HK1.out;omega⟩,by repeat (first|exact Drawn0.refl _|apply Drawn0.step)⟩
      ·replace c7:=Bool.eq_false_iff.mpr c7
       subst c7
       have H1 : (some false) = some r:=by rw [if_neg (show ¬ (false = true) by decide)] at H;exact H
       clear H
       have H:=H1
       clear H1
       obtain rfl:=Option.some.inj H
       have p5 : 0 ≤ (x6_1 : Int):=of_decide_eq_true (by first|(with_reducible assumption)|assumption)
       have q5 : x6_1 < (a0.size : Int):=of_decide_eq_true (by first|(with_reducible assumption)|assumption)
       have hx5:=bt_at a0 x6_1
       replace p5:=eq_true p5
       replace q5:=eq_true q5
       go_wp2_with (first|((with_reducible refine gate_callee (f:=83) rfl ?_);refine goesL_ (some 12) rfl rfl Try.func83 (by kernel_rfl) rfl #[.int .u8 (bt a0 x6_1)] rfl (by (try simp only [List.map_toArray,List.map_cons,List.map_nil]);first|done|rfl|(simp only [List.length_drop,List.length_take];rfl)) ?_;(with_reducible refine (impl_isLetter.calls (bt a0 x6_1) false _ A6.out).mono ?_);rintro e w' ⟨rfl,⟨nd,rfl⟩⟩;refine ⟨_,rfl,?_⟩))
       go_ret
       exact ⟨by first|rfl|(simp;done)|(simp [*];done),by repeat (first|exact Drawn0.refl _|apply Drawn0.step)⟩
     ·rw [if_neg c4] at H
      exact absurd H (by simp)
    ·rw [if_neg c3] at H
     exact absurd H (by simp)
   ·rw [if_neg c2] at H
    have c2b0 : decide (x6_1 < (a0.size : Int)) = false:=decide_eq_false c2
    clear c2
    replace H:=Option.bind_eq_some_iff.mp H
    obtain ⟨t351,A80,H⟩:=H
    replace H : (some t351) = some r:=H
    have A8:=aM A80
    clear A80
    obtain rfl:=Option.some.inj H
    go_wp2_with (first|((with_reducible refine gate_callee (f:=84) rfl ?_);refine goesL_ (some 17) rfl rfl Try.func84 (by kernel_rfl) rfl #[.int .i64 (a0.size : Int),.int .i64 1,.int .i64 8] rfl (by (try simp only [List.map_toArray,List.map_cons,List.map_nil]);first|done|rfl|(simp only [List.length_drop,List.length_take];rfl)) ?_;(with_reducible refine (impl_within.calls (a0.size : Int) 1 8 t351 _ A8.out).mono ?_);rintro e w' ⟨rfl,⟨nd,rfl⟩⟩;refine ⟨_,rfl,?_⟩))
    go_ret
    exact ⟨by first|rfl|(simp;done)|(simp [*];done),by repeat (first|exact Drawn0.refl _|apply Drawn0.step)⟩

/-! ### impl_byKey: function 70 -/
def impl_byKey.f (a0_0 : ByteArray) (a0_1 : ByteArray) (a0_2 : ByteArray) (a1_0 : ByteArray) (a1_1 : ByteArray) (a1_2 : ByteArray) : Option (Int):=if a0_0.toList = a1_0.toList then ((strings_Compare.f a0_1 a1_1).bind fun t354 => (some t354)) else ((strings_Compare.f a0_0 a1_0).bind fun t355 => (some t355))
set_option maxHeartbeats 8000000 in
set_option maxRecDepth 100000 in
theorem impl_byKey.calls (a0_0 : ByteArray) (a0_1 : ByteArray) (a0_2 : ByteArray) (a1_0 : ByteArray) (a1_1 : ByteArray) (a1_2 : ByteArray) (r : Int) (w : World) (h : impl_byKey.f a0_0 a0_1 a0_2 a1_0 a1_1 a1_2 = some r) :
  Calls Try.prog 70 #[.agg #[.string a0_0,.string a0_1,.string a0_2],.agg #[.string a1_0,.string a1_1,.string a1_2]] w fun e w' => e = .returned (.int .i64 r) ∧ Below w.heap.size w w':=by
 have hu57:=Try.underlying57
 have HB:=aM (Below.refl w.heap.size w)
 have H : (if a0_0.toList = a1_0.toList then ((strings_Compare.f a0_1 a1_1).bind fun t354 => (some t354)) else ((strings_Compare.f a0_0 a1_0).bind fun t355 => (some t355))) = some r:=h
 clear h
 by_cases c3 : a0_0.toList = a1_0.toList
 ·rw [if_pos c3] at H
  have c3b0 : (a0_0.toList == a1_0.toList) = true:=beq_iff_eq.mpr c3
  have c3b1 : (a0_0.toList != a1_0.toList) = false:=bne_eq_false_iff_eq.mpr c3
  clear c3
  replace H:=Option.bind_eq_some_iff.mp H
  obtain ⟨t354,A40,H⟩:=H
  replace H : (some t354) = some r:=H
  have A4:=aM A40
  clear A40
  obtain rfl:=Option.some.inj H
  go_enter Try.func70,Try.ntmps70
  go_wp2_with (first|((with_reducible refine gate_dst (N:=2) rfl ?_);refine box_event ?hg (N:=2) ?hd (cs:=#[.string a0_0,.string a0_1,.string a0_2]) (t:=57) ?hr ?_;(case hd => rfl);(case hg => rfl);(case hr => first|(go_simp;done)|(go_simp;rfl));intro gb352 hg w5 hbox hb;have n0_:=aM (lQ HB.out hb);have n1_:=aM (hbox);have n2_:=aM ((sQ hg HB.out : w.heap.size ≤ gb352));have n3_:=n2_;clear HB;have HB:=n0_;have BK352:=n1_;have GW352:=n2_;have GE352:=n3_;clear n0_ n1_ n2_ n3_ hb hbox hg)|((with_reducible refine gate_dst (N:=3) rfl ?_);refine box_event ?hg (N:=3) ?hd (cs:=#[.string a1_0,.string a1_1,.string a1_2]) (t:=57) ?hr ?_;(case hd => rfl);(case hg => rfl);(case hr => first|(go_simp;done)|(go_simp;rfl));intro gb353 hg w6 hbox hb;have n0_:=aM (bH BK352.out hb);have n1_:=aM (lQ HB.out hb);have n2_:=aM (hbox);have n3_:=aM ((sQ hg HB.out : w.heap.size ≤ gb353));have n4_:=n3_;have n5_:=aM ((nL hg BK352.out : gb352 ≠ gb353));have n6_:=aM ((nG hg BK352.out : gb353 ≠ gb352));clear BK352 HB;have BK352:=n0_;have HB:=n1_;have BK353:=n2_;have GW353:=n3_;have GE353:=n4_;have NB352_353:=n5_;have NB353_352:=n6_;clear n0_ n1_ n2_ n3_ n4_ n5_ n6_ hb hbox hg;have hnb7:=NB352_353.out;have hnc7:=NB353_352.out;obtain ⟨⟨hcz8_0,hcz8_1,hcz8_2⟩,hfz8_0,hfz8_1,hfz8_2⟩:=bC3 BK352.out;obtain ⟨⟨hcz9_0,hcz9_1,hcz9_2⟩,hfz9_0,hfz9_1,hfz9_2⟩:=bC3 BK353.out)|((with_reducible refine gate_callee (f:=85) rfl ?_);refine goesL_ (some 19) rfl rfl Try.func85 (by kernel_rfl) rfl #[.string a0_1,.string a1_1] rfl (by (try simp only [List.map_toArray,List.map_cons,List.map_nil]);first|done|rfl|(simp only [List.length_drop,List.length_take];rfl)) ?_;(with_reducible refine (strings_Compare.calls a0_1 a1_1 t354 _ A4.out).mono ?_);rintro e w' ⟨rfl,⟨nd,rfl⟩⟩;refine ⟨_,rfl,?_⟩))
  go_ret
  exact ⟨by first|rfl|(simp [errW_none,errW_some] <;> rfl)|(simp [*,errW_none,errW_some] <;> rfl),by repeat (first|(with_reducible first|exact HB.out|apply lA|apply lN|apply lD|refine lS ?_ GE352.out|refine lS ?_ GE353.out)|exact HB.out)⟩
 ·rw [if_neg c3] at H
  have c3b0 : (a0_0.toList == a1_0.toList) = false:=beq_eq_false_iff_ne.mpr c3
  have c3b1 : (a0_0.toList != a1_0.toList) = true:=bne_iff_ne.mpr c3
  replace H:=Option.bind_eq_some_iff.mp H
  obtain ⟨t355,A100,H⟩:=H
  replace H : (some t355) = some r:=H
  have A10:=aM A100
  clear A100
  obtain rfl:=Option.some.inj H
  go_enter Try.func70,Try.ntmps70
  go_wp2_with (first|((with_reducible refine gate_dst (N:=2) rfl ?_);refine box_event ?hg (N:=2) ?hd (cs:=#[.string a0_0,.string a0_1,.string a0_2]) (t:=57) ?hr ?_;(case hd => rfl);(case hg => rfl);(case hr => first|(go_simp;done)|(go_simp;rfl));intro gb352 hg w11 hbox hb;have n0_:=aM (lQ HB.out hb);have n1_:=aM (hbox);have n2_:=aM ((sQ hg HB.out : w.heap.size ≤ gb352));have n3_:=n2_;clear HB;have HB:=n0_;have BK352:=n1_;have GW352:=n2_;have GE352:=n3_;clear n0_ n1_ n2_ n3_ hb hbox hg)|((with_reducible refine gate_dst (N:=3) rfl ?_);refine box_event ?hg (N:=3) ?hd (cs:=#[.string a1_0,.string a1_1,.string a1_2]) (t:=57) ?hr ?_;(case hd => rfl);(case hg => rfl);(case hr => first|(go_simp;done)|(go_simp;rfl));intro gb353 hg w12 hbox hb;have n0_:=aM (bH BK352.out hb);have n1_:=aM (lQ HB.out hb);have n2_:=aM (hbox);have n3_:=aM ((sQ hg HB.out : w.heap.size ≤ gb353));have n4_:=n3_;have n5_:=aM ((nL hg BK352.out : gb352 ≠ gb353));have n6_:=aM ((nG hg BK352.out : gb353 ≠ gb352));clear BK352 HB;have BK352:=n0_;have HB:=n1_;have BK353:=n2_;have GW353:=n3_;have GE353:=n4_;have NB352_353:=n5_;have NB353_352:=n6_;clear n0_ n1_ n2_ n3_ n4_ n5_ n6_ hb hbox hg;have hnb13:=NB352_353.out;have hnc13:=NB353_352.out;obtain ⟨⟨hcz14_0,hcz14_1,hcz14_2⟩,hfz14_0,hfz14_1,hfz14_2⟩:=bC3 BK352.out;obtain ⟨⟨hcz15_0,hcz15_1,hcz15_2⟩,hfz15_0,hfz15_1,hfz15_2⟩:=bC3 BK353.out)|((with_reducible refine gate_callee (f:=85) rfl ?_);refine goesL_ (some 14) rfl rfl Try.func85 (by kernel_rfl) rfl #[.string a0_0,.string a1_0] rfl (by (try simp only [List.map_toArray,List.map_cons,List.map_nil]);first|done|rfl|(simp only [List.length_drop,List.length_take];rfl)) ?_;(with_reducible refine (strings_Compare.calls a0_0 a1_0 t355 _ A10.out).mono ?_);rintro e w' ⟨rfl,⟨nd,rfl⟩⟩;refine ⟨_,rfl,?_⟩))
  go_ret
  exact ⟨by first|rfl|(simp [errW_none,errW_some] <;> rfl)|(simp [*,errW_none,errW_some] <;> rfl),by repeat (first|(with_reducible first|exact HB.out|apply lA|apply lN|apply lD|refine lS ?_ GE352.out|refine lS ?_ GE353.out)|exact HB.out)⟩

end Go.Proofs.Ytodpkfidkilpdaa.QFnVars
