-- A text of this session, made by wip/own_print.py (the kit's print with additions of ours).
import Derived.Test.YtekngkljphlliaaQFnSaysx0
import Derived.Test.YtekngkljphlliaaQFnSaysx4
import Derived.Test.YtekngkljphlliaaQFnSaysx5
namespace Go.Proofs.Ytekngkljphlliaa.QFnSays
open Go.RowKit Go.Proofs.YtekngkljphlliaaW.PrintWords Go.Proofs.YtekngkljphlliaaW.PrintLast Go.Proofs.YtekngkljphlliaaW.PrintMore
attribute [local go_sem] max2_int min2_int max_two min_two max_three min_three max_four min_four   -- for this text's walks alone
set_option linter.unusedVariables false
set_option linter.unusedSimpArgs false
open Bool renaming true → bT, false → bf
open Go.Proofs.YtekngkljphlliaaW.PrintWords.Kd renaming R_alloc → rA, R_drewN → rN, R_drew → rD, C_alloc → cA, C_drewN → cN, C_drew → cD, R_far → rF, R_below → rB, R_lower → rL, R_lt → rT, R_base → rS, C_below → cB, R_types → rY, R_elder' → rE, R_reads' → rR, R_new' → rW
open Go.Proofs.YtekngkljphlliaaW.PrintWords renaming blk_drewN → bN, blk_drew → bD, blk_alloc → bA, below_set → lS, pw_below_drewN → lN, below_drew1 → lD, below_alloc → lA, blk_cell → bC, blk_below → bB, below_size → lZ, below_step → lP, blk_lt → bL, blk_frozen → bF
open Go.Proofs.YtekngkljphlliaaW.PrintWords.Aside0 renaming mk → aM
theorem q_ia4 {α : Type} (l : List α) (i : Nat) (a : α) : l.toArray.setIfInBounds i a = (l.set i a).toArray := List.setIfInBounds_toArray ..
theorem q_cz4 {α : Type} (a b : α) (l : List α) : (a :: l).set 0 b = b :: l := rfl
theorem q_cs4 {α : Type} (a b : α) (l : List α) (n : Nat) : (a :: l).set (n + 1) b = a :: l.set n b := rfl

/-! ### spec_SetCell: function 39 -/
mutual
def spec_SetCell.l0 : Nat → List (S39) → Int → List (S59) → List (S39) → ByteArray → List (S59) → List (S39) → ByteArray → ByteArray → ByteArray → ByteArray → Option ((List (S59)) × (List (S39)) × ByteArray)
 | 0, _, _, _, _, _, _, _, _, _, _, _ => none
 | k + 1, x11, x12, x197000, x197001, x197002, x206000, x206001, x206002, x209000, x209001, x209002 => if x12 < (x197001.length : Int) then (if 0 ≤ x12 then ((spec_l08Ahead.f ((rd_T39 x197001 x12).f0) ((rd_T39 x197001 x12).f1) ((rd_T39 x197001 x12).f2) x209000 x209001 x209002).bind fun t213 => (if t213 = true then (if x11.length < 2932031007402 then (spec_SetCell.l0 k (x11 ++ [(⟨(rd_T39 x197001 x12).f0, (rd_T39 x197001 x12).f1, (rd_T39 x197001 x12).f2⟩ : S39)]) (wrap64 (x12 + 1)) x197000 x197001 x197002 x206000 x206001 x206002 x209000 x209001 x209002) else (none)) else (spec_SetCell.l0 k x11 (wrap64 (x12 + 1)) x197000 x197001 x197002 x206000 x206001 x206002 x209000 x209001 x209002))) else (none)) else (if x11.length < 2932031007402 then (spec_SetCell.l1 k (x11 ++ [(⟨x209000, x209001, x209002⟩ : S39)]) 0 x197000 x197001 x197002 x206000 x206001 x206002 x209000 x209001 x209002) else (none))
def spec_SetCell.l1 : Nat → List (S39) → Int → List (S59) → List (S39) → ByteArray → List (S59) → List (S39) → ByteArray → ByteArray → ByteArray → ByteArray → Option ((List (S59)) × (List (S39)) × ByteArray)
 | 0, _, _, _, _, _, _, _, _, _, _, _ => none
 | k + 1, x11, x13, x197000, x197001, x197002, x206000, x206001, x206002, x209000, x209001, x209002 => if x13 < (x197001.length : Int) then (if 0 ≤ x13 then ((spec_l08Ahead.f x209000 x209001 x209002 ((rd_T39 x197001 x13).f0) ((rd_T39 x197001 x13).f1) ((rd_T39 x197001 x13).f2)).bind fun t222 => (if t222 = true then (if x11.length < 2932031007402 then (spec_SetCell.l1 k (x11 ++ [(⟨(rd_T39 x197001 x13).f0, (rd_T39 x197001 x13).f1, (rd_T39 x197001 x13).f2⟩ : S39)]) (wrap64 (x13 + 1)) x197000 x197001 x197002 x206000 x206001 x206002 x209000 x209001 x209002) else (none)) else (spec_SetCell.l1 k x11 (wrap64 (x13 + 1)) x197000 x197001 x197002 x206000 x206001 x206002 x209000 x209001 x209002))) else (none)) else (if (x11.length : Int) ≤ 2000 then (some (x206000, x11, x206002)) else (some (x206000, x206001, x206002)))
end
def spec_SetCell.f (k : Nat) (l0_0 : List (S59)) (l0_1 : List (S39)) (a0_2 : ByteArray) (a1 : ByteArray) (a2 : ByteArray) (a3 : ByteArray) : Option ((List (S59)) × (List (S39)) × ByteArray) := (spec_l08Copy.f l0_0 l0_1 a0_2).bind fun bt198 => ((spec_Cut.f a2).bind fun t206 => ((spec_Cut.f a3).bind fun t207 => (spec_SetCell.l0 k (([] : List (S39))) 0 l0_0 l0_1 a0_2 bt198.1 bt198.2.1 bt198.2.2 a1 t206 t207)))
theorem spec_SetCell.mono_l : ∀ k, (∀ y0 y1 y2 y3 y4 y5 y6 y7 y8 y9 y10, LeO (spec_SetCell.l0 k y0 y1 y2 y3 y4 y5 y6 y7 y8 y9 y10) (spec_SetCell.l0 (k + 1) y0 y1 y2 y3 y4 y5 y6 y7 y8 y9 y10)) ∧ (∀ y0 y1 y2 y3 y4 y5 y6 y7 y8 y9 y10, LeO (spec_SetCell.l1 k y0 y1 y2 y3 y4 y5 y6 y7 y8 y9 y10) (spec_SetCell.l1 (k + 1) y0 y1 y2 y3 y4 y5 y6 y7 y8 y9 y10))
 | 0 => ⟨fun _ _ _ _ _ _ _ _ _ _ _ r h => by simp [spec_SetCell.l0] at h, fun _ _ _ _ _ _ _ _ _ _ _ r h => by simp [spec_SetCell.l1] at h⟩
 | k + 1 => by
  obtain ⟨ih0, ih1⟩ := spec_SetCell.mono_l k
  refine ⟨?_, ?_⟩
  ·intro y0 y1 y2 y3 y4 y5 y6 y7 y8 y9 y10
   unfold spec_SetCell.l0
   repeat' first
   | (with_reducible exact ih0 _ _ _ _ _ _ _ _ _ _ _)
   | (with_reducible exact ih1 _ _ _ _ _ _ _ _ _ _ _)
   | (with_reducible exact LeO.refl _)
   | (with_reducible exact LeO.none _)
   | (with_reducible refine LeO.ite ?_ ?_)
   | (with_reducible refine LeO.bind ?_ (fun _ => ?_))
   | exact ih0 _ _ _ _ _ _ _ _ _ _ _
   | exact ih1 _ _ _ _ _ _ _ _ _ _ _
   | exact LeO.none _
   | refine LeO.ite ?_ ?_
   | refine LeO.bind ?_ (fun _ => ?_)
  ·intro y0 y1 y2 y3 y4 y5 y6 y7 y8 y9 y10
   unfold spec_SetCell.l1
   repeat' first
   | (with_reducible exact ih0 _ _ _ _ _ _ _ _ _ _ _)
   | (with_reducible exact ih1 _ _ _ _ _ _ _ _ _ _ _)
   | (with_reducible exact LeO.refl _)
   | (with_reducible exact LeO.none _)
   | (with_reducible refine LeO.ite ?_ ?_)
   | (with_reducible refine LeO.bind ?_ (fun _ => ?_))
   | exact ih0 _ _ _ _ _ _ _ _ _ _ _
   | exact ih1 _ _ _ _ _ _ _ _ _ _ _
   | exact LeO.none _
   | refine LeO.ite ?_ ?_
   | refine LeO.bind ?_ (fun _ => ?_)
theorem spec_SetCell.mono : ∀ a0 a1 a2 a3 a4 a5 k, LeO (spec_SetCell.f k a0 a1 a2 a3 a4 a5) (spec_SetCell.f (k + 1) a0 a1 a2 a3 a4 a5) := by
 intro a0 a1 a2 a3 a4 a5 k
 obtain ⟨ih0, ih1⟩ := spec_SetCell.mono_l k
 unfold spec_SetCell.f
 repeat' first
   | (with_reducible exact ih0 _ _ _ _ _ _ _ _ _ _ _)
   | (with_reducible exact ih1 _ _ _ _ _ _ _ _ _ _ _)
   | (with_reducible exact LeO.refl _)
   | (with_reducible exact LeO.none _)
   | (with_reducible refine LeO.ite ?_ ?_)
   | (with_reducible refine LeO.bind ?_ (fun _ => ?_))
   | exact ih0 _ _ _ _ _ _ _ _ _ _ _
   | exact ih1 _ _ _ _ _ _ _ _ _ _ _
   | exact LeO.none _
   | refine LeO.ite ?_ ?_
   | refine LeO.bind ?_ (fun _ => ?_)
set_option maxHeartbeats 8000000 in
set_option maxRecDepth 100000 in
theorem spec_SetCell.calls (k : Nat) (A0_0 : Option Addr) (c0_0 : Nat) (l0_0 : List (S59)) (A0_1 : Option Addr) (c0_1 : Nat) (l0_1 : List (S39)) (a0_2 : ByteArray) (a1 : ByteArray) (a2 : ByteArray) (a3 : ByteArray) (r1 : List (S59)) (r2 : List (S39)) (r3 : ByteArray) (w : World) (hr0_0 : Kd.C k59 w A0_0 l0_0.length l0_0) (hc0_0 : l0_0.length ≤ c0_0) (hr0_1 : Kd.C k39 w A0_1 l0_1.length l0_1) (hc0_1 : l0_1.length ≤ c0_1) (h : spec_SetCell.f k l0_0 l0_1 a0_2 a1 a2 a3 = some (r1,r2,r3)) :
  Calls Try.prog 39 #[.agg #[.slice A0_0 l0_0.length c0_0,.slice A0_1 l0_1.length c0_1,.string a0_2],.string a1,.string a2,.string a3] w fun e w' => ∃ v0_ v1_ : Value,e = .returned (.agg #[v0_,v1_,.string r3]) ∧ Kd.R k59 59 w' w.heap.size (fun _ => True) v0_ r1 ∧ Kd.R k39 39 w' w.heap.size (fun _ => True) v1_ r2 ∧ Below w.heap.size w w':=by
 have hu35:=Try.underlying35
 have hu39:=Try.underlying39
 have HR0_0:=aM hr0_0
 have HC0_0:=aM hc0_0
 clear hr0_0 hc0_0
 have HR0_1:=aM hr0_1
 have HC0_1:=aM hc0_1
 clear hr0_1 hc0_1
 have HB:=aM (Below.refl w.heap.size w)
 have H : ((spec_l08Copy.f l0_0 l0_1 a0_2).bind fun bt198 => ((spec_Cut.f a2).bind fun t206 => ((spec_Cut.f a3).bind fun t207 => (spec_SetCell.l0 k (([] : List (S39))) 0 l0_0 l0_1 a0_2 bt198.1 bt198.2.1 bt198.2.2 a1 t206 t207)))) = some (r1,r2,r3):=h
 clear h
 replace H:=Option.bind_eq_some_iff.mp H
 obtain ⟨⟨t198,t201,t204⟩,A50,H⟩:=H
 replace H : ((spec_Cut.f a2).bind fun t206 => ((spec_Cut.f a3).bind fun t207 => (spec_SetCell.l0 k (([] : List (S39))) 0 l0_0 l0_1 a0_2 t198 t201 t204 a1 t206 t207))) = some (r1,r2,r3):=H
 have A5:=aM A50
 clear A50
 replace H:=Option.bind_eq_some_iff.mp H
 obtain ⟨t206,A60,H⟩:=H
 replace H : ((spec_Cut.f a3).bind fun t207 => (spec_SetCell.l0 k (([] : List (S39))) 0 l0_0 l0_1 a0_2 t198 t201 t204 a1 t206 t207)) = some (r1,r2,r3):=H
 have A6:=aM A60
 clear A60
 replace H:=Option.bind_eq_some_iff.mp H
 obtain ⟨t207,A70,H⟩:=H
 replace H : (spec_SetCell.l0 k (([] : List (S39))) 0 l0_0 l0_1 a0_2 t198 t201 t204 a1 t206 t207) = some (r1,r2,r3):=H
 have A7:=aM A70
 clear A70
 obtain ⟨y209,hy209⟩ : ∃ y_ : List (S39),y_ = (([] : List (S39))):=⟨_,rfl⟩
 replace H : (spec_SetCell.l0 k y209 0 l0_0 l0_1 a0_2 t198 t201 t204 a1 t206 t207) = some (r1,r2,r3):=by first|(rw [hy209];with_reducible exact H)|(have H2_:=(Option.bind_some _ _).symm.trans H;rw [hy209];with_reducible exact H2_)|(have H2_:=(Option.bind_some _ _).symm.trans H;with_reducible exact H2_)|with_reducible exact H|(rw [hy209];exact H)|exact H
 have Ny209:=aM hy209
 clear hy209
 have H':=aM H
 clear H
 go_enter Try.func39,Try.ntmps39
 go_wp2_with (first|((with_reducible refine gate_dst (N:=4) rfl ?_);refine box_event ?hg (N:=4) ?hd (cs:=#[.slice A0_0 l0_0.length c0_0,.slice A0_1 l0_1.length c0_1,.string a0_2]) (t:=35) ?hr ?_;(case hd => rfl);(case hg => rfl);(case hr => first|(go_simp;done)|(go_simp;rfl));intro gb196 hg w8 hbox hb;have n0_:=aM (lQ HB.out hb);have n1_:=aM (hbox);have n2_:=aM ((sQ hg HB.out : w.heap.size ≤ gb196));have n3_:=n2_;clear HB;have HB:=n0_;have BK196:=n1_;have GW196:=n2_;have GE196:=n3_;clear n0_ n1_ n2_ n3_ hb hbox hg)|((with_reducible refine gate_dst (N:=8) rfl ?_);refine box_event ?hg (N:=8) ?hd (cs:=#[.slice none 0 0,.slice none 0 0,.string (⟨#[]⟩ : ByteArray)]) (t:=35) ?hr ?_;(case hd => rfl);(case hg => rfl);(case hr => first|(go_simp;done)|(go_simp;rfl));intro gb197 hg w9 hbox hb;have n0_:=aM (bH BK196.out hb);have n1_:=aM (lQ HB.out hb);have n2_:=aM (hbox);have n3_:=aM ((sQ hg HB.out : w.heap.size ≤ gb197));have n4_:=n3_;have n5_:=aM ((nL hg BK196.out : gb196 ≠ gb197));have n6_:=aM ((nG hg BK196.out : gb197 ≠ gb196));clear BK196 HB;have BK196:=n0_;have HB:=n1_;have BK197:=n2_;have GW197:=n3_;have GE197:=n4_;have NB196_197:=n5_;have NB197_196:=n6_;clear n0_ n1_ n2_ n3_ n4_ n5_ n6_ hb hbox hg;have hnb10:=NB196_197.out;have hnc10:=NB197_196.out;obtain ⟨⟨hcz11_0,hcz11_1,hcz11_2⟩,hfz11_0,hfz11_1,hfz11_2⟩:=bC3 BK196.out)|((with_reducible refine gate_callee (f:=35) rfl ?_);refine goesL_ (some 15) rfl rfl Try.func35 (by kernel_rfl) rfl #[.agg #[.slice A0_0 l0_0.length c0_0,.slice A0_1 l0_1.length c0_1,.string a0_2]] rfl (by (try simp only [List.map_toArray,List.map_cons,List.map_nil]);first|done|rfl|(simp only [List.length_drop,List.length_take];rfl)) ?_;(with_reducible refine (spec_l08Copy.calls _ _ l0_0 _ _ l0_1 a0_2 t198 t201 t204 _ ?side1 ?side2 ?side3 ?side4 A5.out).mono ?_);(case side1 => repeat (first|exact (cB HR0_0.out HB.out)|(with_reducible first|refine cA ?_ _|refine cN ?_ _|refine cD ?_)));(case side2 => exact HC0_0.out);(case side3 => repeat (first|exact (cB HR0_1.out HB.out)|(with_reducible first|refine cA ?_ _|refine cN ?_ _|refine cD ?_)));(case side4 => exact HC0_1.out);rintro e w12 ⟨v199,v202,rfl,ho0,ho1,hb⟩;refine ⟨_,rfl,?_⟩;have n0_:=aM (rL ho0 (lZ (by repeat (first|(with_reducible first|exact HB.out|apply lA|apply lN|apply lD|refine lS ?_ GE196.out|refine lS ?_ GE197.out)|exact HB.out))));have n1_:=aM (rL ho1 (lZ (by repeat (first|(with_reducible first|exact HB.out|apply lA|apply lN|apply lD|refine lS ?_ GE196.out|refine lS ?_ GE197.out)|exact HB.out))));have n2_:=aM (bH BK196.out hb);have n3_:=aM (bH BK197.out hb);have n4_:=aM (lQ HB.out hb);clear BK196 BK197 HB;have HO200:=n0_;have HO203:=n1_;have BK196:=n2_;have BK197:=n3_;have HB:=n4_;clear n0_ n1_ n2_ n3_ n4_;(try clear hb);(try clear hb2);(try clear hk);(try clear hi);(try clear ho0);(try clear ho1))|((with_reducible refine gate_dst (N:=9) rfl ?_);refine box_event ?hg (N:=9) ?hd (cs:=#[.slice none 0 0,.slice none 0 0,.string (⟨#[]⟩ : ByteArray)]) (t:=35) ?hr ?_;(case hd => rfl);(case hg => rfl);(case hr => first|(go_simp;done)|(go_simp;rfl));intro gb205 hg w13 hbox hb;have n0_:=aM (rH HO200.out hb);have n1_:=aM (rH HO203.out hb);have n2_:=aM (bH BK196.out hb);have n3_:=aM (bH BK197.out hb);have n4_:=aM (lQ HB.out hb);have n5_:=aM (hbox);have n6_:=aM ((sQ hg HB.out : w.heap.size ≤ gb205));have n7_:=n6_;have n8_:=aM ((nL hg BK196.out : gb196 ≠ gb205));have n9_:=aM ((nG hg BK196.out : gb205 ≠ gb196));have n10_:=aM ((nL hg BK197.out : gb197 ≠ gb205));have n11_:=aM ((nG hg BK197.out : gb205 ≠ gb197));clear HO200 HO203 BK196 BK197 HB;have HO200:=n0_;have HO203:=n1_;have BK196:=n2_;have BK197:=n3_;have HB:=n4_;have BK205:=n5_;have GW205:=n6_;have GE205:=n7_;have NB196_205:=n8_;have NB205_196:=n9_;have NB197_205:=n10_;have NB205_197:=n11_;clear n0_ n1_ n2_ n3_ n4_ n5_ n6_ n7_ n8_ n9_ n10_ n11_ hb hbox hg;obtain ⟨Ao14,co14,eo14⟩:=Kd.R_slice HO200.out;subst eo14;have hnb15:=NB205_196.out;have hnc15:=NB196_205.out;have hnb16:=NB205_197.out;have hnc16:=NB197_205.out;obtain ⟨⟨hcz17_0,hcz17_1,hcz17_2⟩,hfz17_0,hfz17_1,hfz17_2⟩:=bC3 BK205.out;obtain ⟨Ao18,co18,eo18⟩:=Kd.R_slice HO203.out;subst eo18)|((with_reducible refine gate_callee (f:=45) rfl ?_);refine goesL_ (some 18) rfl rfl Try.func45 (by kernel_rfl) rfl #[.string a2] rfl (by (try simp only [List.map_toArray,List.map_cons,List.map_nil]);first|done|rfl|(simp only [List.length_drop,List.length_take];rfl)) ?_;(with_reducible refine (spec_Cut.calls a2 t206 _ A6.out).mono ?_);rintro e w' ⟨rfl,⟨nd,rfl⟩⟩;refine ⟨_,rfl,?_⟩)|((with_reducible refine gate_callee (f:=45) rfl ?_);refine goesL_ (some 20) rfl rfl Try.func45 (by kernel_rfl) rfl #[.string a3] rfl (by (try simp only [List.map_toArray,List.map_cons,List.map_nil]);first|done|rfl|(simp only [List.length_drop,List.length_take];rfl)) ?_;(with_reducible refine (spec_Cut.calls a3 t207 _ A7.out).mono ?_);rintro e w' ⟨rfl,⟨nd,rfl⟩⟩;refine ⟨_,rfl,?_⟩)|((with_reducible refine gate_dst (N:=10) rfl ?_);refine box_event ?hg (N:=10) ?hd (cs:=#[.string (⟨#[]⟩ : ByteArray),.string (⟨#[]⟩ : ByteArray),.string (⟨#[]⟩ : ByteArray)]) (t:=39) ?hr ?_;(case hd => rfl);(case hg => rfl);(case hr => first|(go_simp;done)|(go_simp;rfl));intro gb208 hg w19 hbox hb;have n0_:=aM (rB (by (with_reducible repeat (first|apply rA|apply rN|apply rD));exact (Kd.R_mono (rF (rF (rF (rY HO200.out BK205.out (by decide)) (fun _ hk => hk.2) _) (fun _ hk => hk.2) _) (fun _ hk => hk.2) _) (fun _ h_ => h_.1))) hb);have n1_:=aM (rB (Kd.R_elderB (by (with_reducible repeat (first|apply rA|apply rN|apply rD));exact (Kd.R_mono (rF (rF (rF (rY HO203.out BK205.out (by decide)) (fun _ hk => hk.2) _) (fun _ hk => hk.2) _) (fun _ hk => hk.2) _) (fun _ h_ => h_.1))) gb208 (Nat.le_of_eq hg.symm)) hb);have n2_:=aM (bB (g:=gb196) (o:=.cells #[.slice A0_0 l0_0.length c0_0,.slice A0_1 l0_1.length c0_1,.string a0_2] 35 (0,0)) (by (with_reducible repeat (first|refine bN ?_ _|refine bD ?_|refine bA ?_ _));refine blk_far ?_ NB196_205.out _;(with_reducible repeat (first|refine bN ?_ _|refine bD ?_|refine bA ?_ _));refine blk_far ?_ NB196_205.out _;(with_reducible repeat (first|refine bN ?_ _|refine bD ?_|refine bA ?_ _));refine blk_far ?_ NB196_205.out _;(with_reducible repeat (first|refine bN ?_ _|refine bD ?_|refine bA ?_ _));exact BK196.out) hb);have n3_:=aM (bB (g:=gb197) (o:=.cells #[.slice none 0 0,.slice none 0 0,.string (⟨#[]⟩ : ByteArray)] 35 (0,0)) (by (with_reducible repeat (first|refine bN ?_ _|refine bD ?_|refine bA ?_ _));refine blk_far ?_ NB197_205.out _;(with_reducible repeat (first|refine bN ?_ _|refine bD ?_|refine bA ?_ _));refine blk_far ?_ NB197_205.out _;(with_reducible repeat (first|refine bN ?_ _|refine bD ?_|refine bA ?_ _));refine blk_far ?_ NB197_205.out _;(with_reducible repeat (first|refine bN ?_ _|refine bD ?_|refine bA ?_ _));exact BK197.out) hb);have n4_:=aM (bB (g:=gb205) (o:=.cells #[.slice Ao14 t198.length co14,.slice Ao18 t201.length co18,.string t204] 35 (0,0)) (by (with_reducible repeat (first|refine bN ?_ _|refine bD ?_|refine bA ?_ _));refine blk_put (cs:=#[.slice Ao14 t198.length co14,.slice Ao18 t201.length co18,.string (⟨#[]⟩ : ByteArray)]) ?_ 2 _ rfl;(with_reducible repeat (first|refine bN ?_ _|refine bD ?_|refine bA ?_ _));refine blk_put (cs:=#[.slice Ao14 t198.length co14,.slice none 0 0,.string (⟨#[]⟩ : ByteArray)]) ?_ 1 _ rfl;(with_reducible repeat (first|refine bN ?_ _|refine bD ?_|refine bA ?_ _));refine blk_put (cs:=#[.slice none 0 0,.slice none 0 0,.string (⟨#[]⟩ : ByteArray)]) ?_ 0 _ rfl;(with_reducible repeat (first|refine bN ?_ _|refine bD ?_|refine bA ?_ _));exact BK205.out) hb);have n5_:=aM (lQ HB.out hb);have n6_:=aM (hbox);have n7_:=aM ((sQ hg HB.out : w.heap.size ≤ gb208));have n8_:=n7_;have n9_:=aM ((nL hg BK196.out : gb196 ≠ gb208));have n10_:=aM ((nG hg BK196.out : gb208 ≠ gb196));have n11_:=aM ((nL hg BK197.out : gb197 ≠ gb208));have n12_:=aM ((nG hg BK197.out : gb208 ≠ gb197));have n13_:=aM ((nL hg BK205.out : gb205 ≠ gb208));have n14_:=aM ((nG hg BK205.out : gb208 ≠ gb205));clear HO200 HO203 BK196 BK197 BK205 HB;have HO200:=n0_;have HO203:=n1_;have BK196:=n2_;have BK197:=n3_;have BK205:=n4_;have HB:=n5_;have BK208:=n6_;have GW208:=n7_;have GE208:=n8_;have NB196_208:=n9_;have NB208_196:=n10_;have NB197_208:=n11_;have NB208_197:=n12_;have NB205_208:=n13_;have NB208_205:=n14_;clear n0_ n1_ n2_ n3_ n4_ n5_ n6_ n7_ n8_ n9_ n10_ n11_ n12_ n13_ n14_ hb hbox hg;have hnb20:=NB208_196.out;have hnc20:=NB196_208.out;have hnb21:=NB208_197.out;have hnc21:=NB197_208.out;have hnb22:=NB208_205.out;have hnc22:=NB205_208.out;obtain ⟨⟨hcz23_0,hcz23_1,hcz23_2⟩,hfz23_0,hfz23_1,hfz23_2⟩:=bC3 BK208.out)|((with_reducible refine gate_dst (N:=22) rfl ?_);refine Kd.R_lit k39 _ 39 ?hg (N:=22) ?hd (xs:=([] : List (S39))) (inner:=[]) (ok:=fun _ => True) (okp:=fun _ => True) ?hr ?hp (fun _ hk => hk) trivial (Below.refl _ _) (Nat.le_refl _) (by simp) ?_;(case hd => rfl);(case hg => rfl);(case hr => first|(go_simp;done)|(go_simp;rfl));(case hp => exact (Reps.none _ _));intro v210 w24 ho25 hb hg_ hnew_;clear hg_ hnew_;(first|rw [← Ny209.out] at ho25|(simp only [Int.reduceToNat] at ho25;rw [← Ny209.out] at ho25));have n0_:=aM (rB (by (with_reducible repeat (first|apply rA|apply rN|apply rD));exact (Kd.R_mono (rF (rF (rF (rY HO200.out BK208.out (by decide)) (fun _ hk => hk.2) _) (fun _ hk => hk.2) _) (fun _ hk => hk.2) _) (fun _ h_ => h_.1))) hb);have n1_:=aM (rE (by (with_reducible repeat (first|apply rA|apply rN|apply rD));exact (Kd.R_mono (rF (rF (rF (Kd.R_mono HO203.out (fun k_ hk => (⟨hk,hk.2⟩ : _ ∧ k_ ≠ gb208))) (fun _ hk => hk.2) _) (fun _ hk => hk.2) _) (fun _ hk => hk.2) _) (fun _ h_ => h_.1))) (rS ho25) hb);have n2_:=aM (rL (Kd.R_newB (rW ho25 (rT (by (with_reducible repeat (first|apply rA|apply rN|apply rD));exact (Kd.R_mono (rF (rF (rF (Kd.R_mono HO203.out (fun k_ hk => (⟨hk,hk.2⟩ : _ ∧ k_ ≠ gb208))) (fun _ hk => hk.2) _) (fun _ hk => hk.2) _) (fun _ hk => hk.2) _) (fun _ h_ => h_.1))))) (g:=gb208) (o:=.cells #[.string a1,.string t206,.string t207] 39 (0,0)) (by (with_reducible repeat (first|refine bN ?_ _|refine bD ?_|refine bA ?_ _));refine blk_put (cs:=#[.string a1,.string t206,.string (⟨#[]⟩ : ByteArray)]) ?_ 2 _ rfl;(with_reducible repeat (first|refine bN ?_ _|refine bD ?_|refine bA ?_ _));refine blk_put (cs:=#[.string a1,.string (⟨#[]⟩ : ByteArray),.string (⟨#[]⟩ : ByteArray)]) ?_ 1 _ rfl;(with_reducible repeat (first|refine bN ?_ _|refine bD ?_|refine bA ?_ _));refine blk_put (cs:=#[.string (⟨#[]⟩ : ByteArray),.string (⟨#[]⟩ : ByteArray),.string (⟨#[]⟩ : ByteArray)]) ?_ 0 _ rfl;(with_reducible repeat (first|refine bN ?_ _|refine bD ?_|refine bA ?_ _));exact BK208.out)) (lZ (by repeat (first|(with_reducible first|exact HB.out|apply lA|apply lN|apply lD|refine lS ?_ GE196.out|refine lS ?_ GE197.out|refine lS ?_ GE205.out|refine lS ?_ GE208.out)|exact HB.out))));have n3_:=aM (bB (g:=gb196) (o:=.cells #[.slice A0_0 l0_0.length c0_0,.slice A0_1 l0_1.length c0_1,.string a0_2] 35 (0,0)) (by (with_reducible repeat (first|refine bN ?_ _|refine bD ?_|refine bA ?_ _));refine blk_far ?_ NB196_208.out _;(with_reducible repeat (first|refine bN ?_ _|refine bD ?_|refine bA ?_ _));refine blk_far ?_ NB196_208.out _;(with_reducible repeat (first|refine bN ?_ _|refine bD ?_|refine bA ?_ _));refine blk_far ?_ NB196_208.out _;(with_reducible repeat (first|refine bN ?_ _|refine bD ?_|refine bA ?_ _));exact BK196.out) hb);have n4_:=aM (bB (g:=gb197) (o:=.cells #[.slice none 0 0,.slice none 0 0,.string (⟨#[]⟩ : ByteArray)] 35 (0,0)) (by (with_reducible repeat (first|refine bN ?_ _|refine bD ?_|refine bA ?_ _));refine blk_far ?_ NB197_208.out _;(with_reducible repeat (first|refine bN ?_ _|refine bD ?_|refine bA ?_ _));refine blk_far ?_ NB197_208.out _;(with_reducible repeat (first|refine bN ?_ _|refine bD ?_|refine bA ?_ _));refine blk_far ?_ NB197_208.out _;(with_reducible repeat (first|refine bN ?_ _|refine bD ?_|refine bA ?_ _));exact BK197.out) hb);have n5_:=aM (bB (g:=gb205) (o:=.cells #[.slice Ao14 t198.length co14,.slice Ao18 t201.length co18,.string t204] 35 (0,0)) (by (with_reducible repeat (first|refine bN ?_ _|refine bD ?_|refine bA ?_ _));refine blk_far ?_ NB205_208.out _;(with_reducible repeat (first|refine bN ?_ _|refine bD ?_|refine bA ?_ _));refine blk_far ?_ NB205_208.out _;(with_reducible repeat (first|refine bN ?_ _|refine bD ?_|refine bA ?_ _));refine blk_far ?_ NB205_208.out _;(with_reducible repeat (first|refine bN ?_ _|refine bD ?_|refine bA ?_ _));exact BK205.out) hb);have n6_:=aM (bB (g:=gb208) (o:=.cells #[.string a1,.string t206,.string t207] 39 (0,0)) (by (with_reducible repeat (first|refine bN ?_ _|refine bD ?_|refine bA ?_ _));refine blk_put (cs:=#[.string a1,.string t206,.string (⟨#[]⟩ : ByteArray)]) ?_ 2 _ rfl;(with_reducible repeat (first|refine bN ?_ _|refine bD ?_|refine bA ?_ _));refine blk_put (cs:=#[.string a1,.string (⟨#[]⟩ : ByteArray),.string (⟨#[]⟩ : ByteArray)]) ?_ 1 _ rfl;(with_reducible repeat (first|refine bN ?_ _|refine bD ?_|refine bA ?_ _));refine blk_put (cs:=#[.string (⟨#[]⟩ : ByteArray),.string (⟨#[]⟩ : ByteArray),.string (⟨#[]⟩ : ByteArray)]) ?_ 0 _ rfl;(with_reducible repeat (first|refine bN ?_ _|refine bD ?_|refine bA ?_ _));exact BK208.out) hb);have n7_:=aM (lQ HB.out hb);clear HO200 HO203 BK196 BK197 BK205 BK208 HB;have HO200:=n0_;have HO203:=n1_;have HO211:=n2_;have BK196:=n3_;have BK197:=n4_;have BK205:=n5_;have BK208:=n6_;have HB:=n7_;clear n0_ n1_ n2_ n3_ n4_ n5_ n6_ n7_ hb ho25))
 go_loopg [11,12] k (fun kq v11 v12 w' => ∃ (x11_1 : List (S39)) (x12_1 : Int),v12 = .int .i64 x12_1 ∧ Aside0 (spec_SetCell.l0 kq x11_1 x12_1 l0_0 l0_1 a0_2 t198 t201 t204 a1 t206 t207 = some (r1,r2,r3)) ∧ Aside0 (kq ≤ k) ∧ Aside0 (Kd.R k39 39 w' w.heap.size (fun k_ => some k_ ≠ ((.slice Ao18 t201.length co18) : Value).ownBlock ∧ k_ ≠ gb208) v11 x11_1) ∧ Aside0 (Kd.R k59 59 w' w.heap.size (fun _ => True) (.slice Ao14 t198.length co14) t198) ∧ Aside0 (Kd.R k39 39 w' w.heap.size (fun k_ => some k_ ≠ (v11 : Value).ownBlock ∧ k_ ≠ gb208) (.slice Ao18 t201.length co18) t201) ∧ Aside0 (w'.heap[gb196]? = some (.cells #[(.slice A0_0 l0_0.length c0_0),(.slice A0_1 l0_1.length c0_1),.string a0_2] 35 (0,0))) ∧ Aside0 (w'.heap[gb197]? = some (.cells #[(.slice none 0 0),(.slice none 0 0),.string (⟨#[]⟩ : ByteArray)] 35 (0,0))) ∧ Aside0 (w'.heap[gb205]? = some (.cells #[(.slice Ao14 t198.length co14),(.slice Ao18 t201.length co18),.string t204] 35 (0,0))) ∧ Aside0 (w'.heap[gb208]? = some (.cells #[.string a1,.string t206,.string t207] 39 (0,0))) ∧ Aside0 (Below w.heap.size w w'))
 case atStart => exact ⟨(y209),(0),(by first|rfl|(simp;done)|(simp [*];done)),H',⟨Nat.le_refl _⟩,⟨by (with_reducible repeat (first|apply rA|apply rN|apply rD));exact Kd.R_mono HO211.out (fun _ hk => ⟨hk.1.2,hk.2⟩)⟩,⟨by (with_reducible repeat (first|apply rA|apply rN|apply rD));exact HO200.out⟩,⟨by (with_reducible repeat (first|apply rA|apply rN|apply rD));exact Kd.R_mono HO203.out (fun _ hk => ⟨hk.2,hk.1.2⟩)⟩,⟨by (with_reducible repeat (first|refine bN ?_ _|refine bD ?_|refine bA ?_ _));exact BK196.out⟩,⟨by (with_reducible repeat (first|refine bN ?_ _|refine bD ?_|refine bA ?_ _));exact BK197.out⟩,⟨by (with_reducible repeat (first|refine bN ?_ _|refine bD ?_|refine bA ?_ _));exact BK205.out⟩,⟨by (with_reducible repeat (first|refine bN ?_ _|refine bD ?_|refine bA ?_ _));exact BK208.out⟩,⟨by repeat (first|(with_reducible first|exact HB.out|apply lA|apply lN|apply lD|refine lS ?_ GE196.out|refine lS ?_ GE197.out|refine lS ?_ GE205.out|refine lS ?_ GE208.out)|exact HB.out)⟩⟩
 case round =>
  clear H'
  try clear c1
  try clear c2
  try clear p2
  try clear c3
  try clear c4
  try clear c10
  try clear c15
  try clear c16
  try clear c20
  try clear c21
  try clear c22
  try clear hcz11_0
  try clear hcz11_1
  try clear hcz11_2
  try clear hcz17_0
  try clear hcz17_1
  try clear hcz17_2
  try clear hcz23_0
  try clear hcz23_1
  try clear hcz23_2
  obtain ⟨x11_1,x12_1,rfl,HA,HK1,HO_11,HO_206000,HO_206001,BK196,BK197,BK205,BK208,HB⟩:=hrel
  cases gk with
  |zero => exact absurd HA.out (by simp [spec_SetCell.l0])
  |succ k1 =>
   have H:=HA.out
   clear HA
   simp only [spec_SetCell.l0] at H
   by_cases c26 : x12_1 < (l0_1.length : Int)
   ·rw [if_pos c26] at H
    have c26b0 : decide (x12_1 < (l0_1.length : Int)) = true:=decide_eq_true c26
    clear c26
    by_cases c27 : 0 ≤ x12_1
    ·rw [if_pos c27] at H
     have c27b0 : decide (0 ≤ x12_1) = true:=decide_eq_true c27
     clear c27
     replace H:=Option.bind_eq_some_iff.mp H
     obtain ⟨t213,A280,H⟩:=H
     replace H : (if t213 = true then (if x11_1.length < 2932031007402 then (spec_SetCell.l0 k1 (x11_1 ++ [(⟨(rd_T39 l0_1 x12_1).f0,(rd_T39 l0_1 x12_1).f1,(rd_T39 l0_1 x12_1).f2⟩ : S39)]) (wrap64 (x12_1 + 1)) l0_0 l0_1 a0_2 t198 t201 t204 a1 t206 t207) else (none)) else (spec_SetCell.l0 k1 x11_1 (wrap64 (x12_1 + 1)) l0_0 l0_1 a0_2 t198 t201 t204 a1 t206 t207)) = some (r1,r2,r3):=H
     have A28:=aM A280
     clear A280
     by_cases c29 : t213 = true
     ·subst c29
      have H1 : (if x11_1.length < 2932031007402 then (spec_SetCell.l0 k1 (x11_1 ++ [(⟨(rd_T39 l0_1 x12_1).f0,(rd_T39 l0_1 x12_1).f1,(rd_T39 l0_1 x12_1).f2⟩ : S39)]) (wrap64 (x12_1 + 1)) l0_0 l0_1 a0_2 t198 t201 t204 a1 t206 t207) else (none)) = some (r1,r2,r3):=by rw [if_pos rfl] at H;exact H
      clear H
      have H:=H1
      clear H1
      by_cases c30 : x11_1.length < 2932031007402
      ·rw [if_pos c30] at H
       have LMc30:=aM c30
       clear c30
       obtain ⟨y215,hy215⟩ : ∃ y_ : List (S39),y_ = (x11_1 ++ [(⟨(rd_T39 l0_1 x12_1).f0,(rd_T39 l0_1 x12_1).f1,(rd_T39 l0_1 x12_1).f2⟩ : S39)]):=⟨_,rfl⟩
       replace H : (spec_SetCell.l0 k1 y215 (wrap64 (x12_1 + 1)) l0_0 l0_1 a0_2 t198 t201 t204 a1 t206 t207) = some (r1,r2,r3):=by first|(rw [hy215];with_reducible exact H)|(have H2_:=(Option.bind_some _ _).symm.trans H;rw [hy215];with_reducible exact H2_)|(have H2_:=(Option.bind_some _ _).symm.trans H;with_reducible exact H2_)|with_reducible exact H|(rw [hy215];exact H)|exact H
       have Ny215:=aM hy215
       clear hy215
       have H':=aM H
       clear H
       have hnb31:=NB196_197.out
       have hnc31:=NB197_196.out
       have hnb32:=NB196_205.out
       have hnc32:=NB205_196.out
       have hnb33:=NB196_208.out
       have hnc33:=NB208_196.out
       obtain ⟨⟨hcz34_0,hcz34_1,hcz34_2⟩,hfz34_0,hfz34_1,hfz34_2⟩:=bC3 BK196.out
       try go_wp2
       have n0_:=aM (rD HO_11.out)
       have n1_:=aM (rD HO_206000.out)
       have n2_:=aM (rD HO_206001.out)
       have n3_:=aM (bD BK196.out)
       have n4_:=aM (bD BK197.out)
       have n5_:=aM (bD BK205.out)
       have n6_:=aM (bD BK208.out)
       have n7_:=aM (lD HB.out)
       clear HO_11
       clear HO_206000
       clear HO_206001
       clear BK196
       clear BK197
       clear BK205
       clear BK208
       clear HB
       have HO_11:=n0_
       have HO_206000:=n1_
       have HO_206001:=n2_
       have BK196:=n3_
       have BK197:=n4_
       have BK205:=n5_
       have BK208:=n6_
       have HB:=n7_
       clear n0_ n1_ n2_ n3_ n4_ n5_ n6_ n7_
       have p212 : 0 ≤ (x12_1 : Int):=of_decide_eq_true (by first|(with_reducible assumption)|assumption)
       have q212 : x12_1 < (l0_1.length : Int):=of_decide_eq_true (by first|(with_reducible assumption)|assumption)
       obtain ⟨ad212,e212,hx212_0,hx212_1,hx212_2⟩:=at_T39 HR0_1.out x12_1 p212 q212
       have hw212_2:=hx212_2
       have hw212_1:=hx212_1
       have hw212_0:=hx212_0
       cases e212
       replace hx212_0:=(HB.out.cell (World.block_lt_of_cell? w _ hx212_0)).trans hx212_0
       replace hx212_1:=(HB.out.cell (World.block_lt_of_cell? w _ hx212_1)).trans hx212_1
       replace hx212_2:=(HB.out.cell (World.block_lt_of_cell? w _ hx212_2)).trans hx212_2
       replace p212:=eq_true p212
       replace q212:=eq_true q212
       refine start_ (n:=7) (S:=fun w' => w'.cell? ⟨gb196,0,none⟩ = some (.slice A0_0 l0_0.length c0_0) ∧ w'.cell? ⟨gb196,1,none⟩ = some (.slice (some ad212) l0_1.length c0_1) ∧ w'.cell? ⟨gb196,2,none⟩ = some (.string a0_2) ∧ w'.cell? ⟨gb208,0,none⟩ = some (.string a1) ∧ w'.cell? ⟨gb208,1,none⟩ = some (.string t206) ∧ w'.cell? ⟨gb208,2,none⟩ = some (.string t207) ∧ w'.cell? (ad212.add ((x12_1).toNat * 3)) = some (.string ((rd_T39 l0_1 x12_1).f0)) ∧ w'.cell? ⟨(ad212.add ((x12_1).toNat * 3)).block,(ad212.add ((x12_1).toNat * 3)).off + 1,none⟩ = some (.string ((rd_T39 l0_1 x12_1).f1)) ∧ w'.cell? ⟨(ad212.add ((x12_1).toNat * 3)).block,(ad212.add ((x12_1).toNat * 3)).off + 2,none⟩ = some (.string ((rd_T39 l0_1 x12_1).f2))) (ds:=[]) #[bf,bf,bf,bf,bf,bf,bf] (by kernel_rfl) rfl rfl ⟨(bC BK196.out 0).trans rfl,(bC BK196.out 1).trans rfl,(bC BK196.out 2).trans rfl,(bC BK208.out 0).trans rfl,(bC BK208.out 1).trans rfl,(bC BK208.out 2).trans rfl,((HB.out.cell (World.block_lt_of_cell? w _ hw212_0)).trans hw212_0),((HB.out.cell (World.block_lt_of_cell? w _ hw212_1)).trans hw212_1),((HB.out.cell (World.block_lt_of_cell? w _ hw212_2)).trans hw212_2)⟩ (fun hHeld => ?_)
       generalize wr.drew = w35 at HO_11 HO_206000 HO_206001 BK196 BK197 BK205 BK208 HB hx212_0 hx212_1 hx212_2 hHeld ⊢
       refine pure_ (i:=0) (N:=some 30) (v:=?_) (a':=?_) #[bT,bf,bf,bf,bf,bf,bf] rfl rfl (by kernel_rfl) (fun _ _ _ h => h) (Or.inl ⟨by rfl,?_⟩) ?_ ?_
       rotate_left
       ·intro w';go_simp;with_reducible rfl
       rotate_left
       ·simp only [Act.put,q_ia4,q_cz4,q_cs4,i64_w,i32_w];rfl
       refine pure_ (i:=2) (N:=some 32) (v:=?_) (a':=?_) #[bT,bf,bT,bf,bf,bf,bf] rfl rfl (by kernel_rfl) (fun _ _ _ h => h) (Or.inl ⟨by rfl,?_⟩) ?_ ?_
       rotate_left
       ·intro w';go_simp;with_reducible rfl
       rotate_left
       ·simp only [Act.put,q_ia4,q_cz4,q_cs4,i64_w,i32_w];rfl
       refine take_ (i:=1) (N:=some 31) (v:=?_) (a':=?_) #[bT,bT,bT,bf,bf,bf,bf] rfl rfl (by kernel_rfl) (fun _ _ _ h => h) (Or.inl ⟨by rfl,?_⟩) hHeld ?_ ?_
       rotate_left
       ·rintro w' ⟨s0,s1,s2,s3,s4,s5,s6,s7,s8⟩
        go_simp
        with_reducible rfl
       rotate_left
       ·simp only [Act.put,q_ia4,q_cz4,q_cs4,i64_w,i32_w];rfl
       refine pure_ (i:=3) (N:=some 33) (v:=?_) (a':=?_) #[bT,bT,bT,bT,bf,bf,bf] rfl rfl (by kernel_rfl) (fun _ _ _ h => h) (Or.inl ⟨by rfl,?_⟩) ?_ ?_
       rotate_left
       ·intro w';go_simp;with_reducible rfl
       rotate_left
       ·simp only [Act.put,q_ia4,q_cz4,q_cs4,i64_w,i32_w];rfl
       refine take_ (i:=4) (N:=some 34) (v:=?_) (a':=?_) #[bT,bT,bT,bT,bT,bf,bf] rfl rfl (by kernel_rfl) (fun _ _ _ h => h) (Or.inl ⟨by rfl,?_⟩) hHeld ?_ ?_
       rotate_left
       ·rintro w' ⟨s0,s1,s2,s3,s4,s5,s6,s7,s8⟩
        go_simp
        with_reducible rfl
       rotate_left
       ·simp only [Act.put,q_ia4,q_cz4,q_cs4,i64_w,i32_w];rfl
       refine take_ (i:=5) (N:=some 35) (v:=?_) (a':=?_) #[bT,bT,bT,bT,bT,bT,bf] rfl rfl (by kernel_rfl) (fun _ _ _ h => h) (Or.inl ⟨by rfl,?_⟩) hHeld ?_ ?_
       rotate_left
       ·rintro w' ⟨s0,s1,s2,s3,s4,s5,s6,s7,s8⟩
        go_simp
        with_reducible rfl
       rotate_left
       ·simp only [Act.put,q_ia4,q_cz4,q_cs4,i64_w,i32_w];rfl
       refine one_ (i:=6) (N:=some 36) #[bT,bT,bT,bT,bT,bT,bT] rfl rfl (by kernel_rfl) (by decide) (fun K hK => ?_)
       refine goes_ Try.func46 (by kernel_rfl) rfl #[.agg #[.string ((rd_T39 l0_1 x12_1).f0),.string ((rd_T39 l0_1 x12_1).f1),.string ((rd_T39 l0_1 x12_1).f2)],.agg #[.string a1,.string t206,.string t207]] (by rfl) rfl rfl (by (try simp only [List.map_toArray,List.map_cons,List.map_nil]);first|done|rfl|(simp only [List.length_drop,List.length_take];rfl)) ?_
       with_reducible refine (spec_l08Ahead.calls ((rd_T39 l0_1 x12_1).f0) ((rd_T39 l0_1 x12_1).f1) ((rd_T39 l0_1 x12_1).f2) a1 t206 t207 true _ A28.out).mono ?_
       rintro e w36 ⟨rfl,hb⟩
       refine ⟨_,rfl,?_⟩
       have n0_:=aM (rH HO_11.out hb)
       have n1_:=aM (rH HO_206000.out hb)
       have n2_:=aM (rH HO_206001.out hb)
       have n3_:=aM (bH BK196.out hb)
       have n4_:=aM (bH BK197.out hb)
       have n5_:=aM (bH BK205.out hb)
       have n6_:=aM (bH BK208.out hb)
       have n7_:=aM (lQ HB.out hb)
       clear HO_11
       clear HO_206000
       clear HO_206001
       clear BK196
       clear BK197
       clear BK205
       clear BK208
       clear HB
       have HO_11:=n0_
       have HO_206000:=n1_
       have HO_206001:=n2_
       have BK196:=n3_
       have BK197:=n4_
       have BK205:=n5_
       have BK208:=n6_
       have HB:=n7_
       clear n0_ n1_ n2_ n3_ n4_ n5_ n6_ n7_
       (try clear hb)
       (try clear hb2)
       (try clear hk)
       (try clear hi)
       refine hK.out _ _ ⟨(bC BK196.out 0).trans rfl,(bC BK196.out 1).trans rfl,(bC BK196.out 2).trans rfl,(bC BK208.out 0).trans rfl,(bC BK208.out 1).trans rfl,(bC BK208.out 2).trans rfl,((HB.out.cell (World.block_lt_of_cell? w _ hw212_0)).trans hw212_0),((HB.out.cell (World.block_lt_of_cell? w _ hw212_1)).trans hw212_1),((HB.out.cell (World.block_lt_of_cell? w _ hw212_2)).trans hw212_2)⟩ (fun hHeld => ?_)
       clear hK K
       refine norm_ (a':=?_) ?_ ?_
       rotate_left
       ·show Act.put _ (some 36) _ = _
        simp only [Act.put,q_ia4,q_cz4,q_cs4,i64_w,i32_w]
        rfl
       refine done_ (by kernel_rfl) ?_
       obtain ⟨⟨hcz37_0,hcz37_1,hcz37_2⟩,hfz37_0,hfz37_1,hfz37_2⟩:=bC3 BK196.out
       have p214 : 0 ≤ (x12_1 : Int):=of_decide_eq_true (by first|(with_reducible assumption)|assumption)
       have q214 : x12_1 < (l0_1.length : Int):=of_decide_eq_true (by first|(with_reducible assumption)|assumption)
       obtain ⟨ad214,e214,hx214_0,hx214_1,hx214_2⟩:=at_T39 HR0_1.out x12_1 p214 q214
       obtain rfl : ad212 = ad214:=(by injection e214)
       replace hx214_0:=(HB.out.cell (World.block_lt_of_cell? w _ hx214_0)).trans hx214_0
       replace hx214_1:=(HB.out.cell (World.block_lt_of_cell? w _ hx214_1)).trans hx214_1
       replace hx214_2:=(HB.out.cell (World.block_lt_of_cell? w _ hx214_2)).trans hx214_2
       replace p214:=eq_true p214
       replace q214:=eq_true q214
       try go_wp2_with (first|((with_reducible refine gate_builtin (b:=.append) (xs:=#[.tmp 37,.tmp 43]) rfl ?_);at_builtin;refine Kd.R_append k39 (w0:=w) w.heap.size rfl (.tmp 37) (.tmp 43) 33 39 (.agg #[(.string ⟨#[]⟩),(.string ⟨#[]⟩),(.string ⟨#[]⟩)]) 48 rfl Try.underlying33 info39 rfl (by decide) (by omega) u11 x11_1 (⟨(rd_T39 l0_1 x12_1).f0,(rd_T39 l0_1 x12_1).f1,(rd_T39 l0_1 x12_1).f2⟩ : S39) [.string ((rd_T39 l0_1 x12_1).f0),.string ((rd_T39 l0_1 x12_1).f1),.string ((rd_T39 l0_1 x12_1).f2)] (fun k_ => some k_ ≠ (.slice Ao18 t201.length co18 : Value).ownBlock ∧ k_ ≠ gb208) (fun _ => False) rfl rfl ?aP (fun _ hk => hk.elim) ?aF ?aO ?aB ?aS ?aL ?_;(case aP => exact k39_mkM _ _ _ (⟨(rd_T39 l0_1 x12_1).f0,(rd_T39 l0_1 x12_1).f1,(rd_T39 l0_1 x12_1).f2⟩ : S39));(case aB => exact (by repeat (first|(with_reducible first|exact HB.out|apply lA|apply lN|apply lD|refine lS ?_ GE196.out|refine lS ?_ GE197.out|refine lS ?_ GE205.out|refine lS ?_ GE208.out)|exact HB.out)));(case aF => exact (fun k_ hk => ⟨Kd.fresh' (rT (rZ HO_206001.out)) k_ hk,Kd.freshB (g:=gb208) (o:=.cells #[.string a1,.string t206,.string t207] 39 (0,0)) (by (with_reducible repeat (first|refine bN ?_ _|refine bD ?_|refine bA ?_ _));exact BK208.out) k_ hk⟩));(case aO => exact (rZ HO_11.out));(case aS => exact (lZ (by repeat (first|(with_reducible first|exact HB.out|apply lA|apply lN|apply lD|refine lS ?_ GE196.out|refine lS ?_ GE197.out|refine lS ?_ GE205.out|refine lS ?_ GE208.out)|exact HB.out))));(case aL => have:=LMc30.out;omega);intro v216 w38 ho hb hg hat;rw [← Ny215.out] at ho;have n0_:=aM (Kd.R_over' (rZ HO_206000.out) (Kd.R_typed (rZ HO_11.out)) (by decide) hg);have n1_:=aM (Kd.R_after (ok:=(fun k_ => k_ ≠ gb208)) (by (with_reducible repeat (first|apply rA|apply rN|apply rD));exact Kd.R_mono HO_206001.out (fun _ hk => ⟨hk.2,hk.1⟩)) hg hat);have n2_:=aM (blk_grown (g:=gb196) (o:=.cells #[.slice A0_0 l0_0.length c0_0,.slice (some ad212) l0_1.length c0_1,.string a0_2] 35 (0,0)) (by (with_reducible repeat (first|refine bN ?_ _|refine bD ?_|refine bA ?_ _));exact BK196.out) hg (Kd.R_ne HO_11.out BK196.out (by decide)));have n3_:=aM (blk_grown (g:=gb197) (o:=.cells #[.slice none 0 0,.slice none 0 0,.string (⟨#[]⟩ : ByteArray)] 35 (0,0)) (by (with_reducible repeat (first|refine bN ?_ _|refine bD ?_|refine bA ?_ _));exact BK197.out) hg (Kd.R_ne HO_11.out BK197.out (by decide)));have n4_:=aM (blk_grown (g:=gb205) (o:=.cells #[.slice Ao14 t198.length co14,.slice Ao18 t201.length co18,.string t204] 35 (0,0)) (by (with_reducible repeat (first|refine bN ?_ _|refine bD ?_|refine bA ?_ _));exact BK205.out) hg (Kd.R_ne HO_11.out BK205.out (by decide)));have n5_:=aM (blk_grown (g:=gb208) (o:=.cells #[.string a1,.string t206,.string t207] 39 (0,0)) (by (with_reducible repeat (first|refine bN ?_ _|refine bD ?_|refine bA ?_ _));exact BK208.out) hg (Kd.R_away HO_11.out (fun _ hk => hk.2)));have n6_:=aM (hb);have n7_:=aM (ho);clear HO_206000 HO_206001 BK196 BK197 BK205 BK208 HB HO_11;have HO_206000:=n0_;have HO_206001:=n1_;have BK196:=n2_;have BK197:=n3_;have BK205:=n4_;have BK208:=n5_;have HB:=n6_;have HO217:=n7_;clear n0_ n1_ n2_ n3_ n4_ n5_ n6_ n7_ ho hb hg hat))
       go_roundg k1
       case measure => have:=HK1.out;omega
       case rel => exact ⟨(y215),(wrap64 (x12_1 + 1)),(by first|rfl|(simp;done)|(simp [*];done)),H',⟨by have:=HK1.out;omega⟩,⟨by (with_reducible repeat (first|apply rA|apply rN|apply rD));exact HO217.out⟩,⟨by (with_reducible repeat (first|apply rA|apply rN|apply rD));exact HO_206000.out⟩,⟨by (with_reducible repeat (first|apply rA|apply rN|apply rD));exact Kd.R_mono HO_206001.out (fun _ hk => ⟨hk.2,hk.1⟩)⟩,⟨by (with_reducible repeat (first|refine bN ?_ _|refine bD ?_|refine bA ?_ _));exact BK196.out⟩,⟨by (with_reducible repeat (first|refine bN ?_ _|refine bD ?_|refine bA ?_ _));exact BK197.out⟩,⟨by (with_reducible repeat (first|refine bN ?_ _|refine bD ?_|refine bA ?_ _));exact BK205.out⟩,⟨by (with_reducible repeat (first|refine bN ?_ _|refine bD ?_|refine bA ?_ _));exact BK208.out⟩,⟨by repeat (first|(with_reducible first|exact HB.out|apply lA|apply lN|apply lD|refine lS ?_ GE196.out|refine lS ?_ GE197.out|refine lS ?_ GE205.out|refine lS ?_ GE208.out)|exact HB.out)⟩⟩
      ·rw [if_neg c30] at H
       exact absurd H (by simp)
     ·replace c29:=Bool.eq_false_iff.mpr c29
      subst c29
      have H1 : (spec_SetCell.l0 k1 x11_1 (wrap64 (x12_1 + 1)) l0_0 l0_1 a0_2 t198 t201 t204 a1 t206 t207) = some (r1,r2,r3):=by rw [if_neg (show ¬ (false = true) by decide)] at H;exact H
      clear H
      have H:=H1
      clear H1
      have H':=aM H
      clear H
      have hnb39:=NB196_197.out
      have hnc39:=NB197_196.out
      have hnb40:=NB196_205.out
      have hnc40:=NB205_196.out
      have hnb41:=NB196_208.out
      have hnc41:=NB208_196.out
      obtain ⟨⟨hcz42_0,hcz42_1,hcz42_2⟩,hfz42_0,hfz42_1,hfz42_2⟩:=bC3 BK196.out
      try go_wp2
      have n0_:=aM (rD HO_11.out)
      have n1_:=aM (rD HO_206000.out)
      have n2_:=aM (rD HO_206001.out)
      have n3_:=aM (bD BK196.out)
      have n4_:=aM (bD BK197.out)
      have n5_:=aM (bD BK205.out)
      have n6_:=aM (bD BK208.out)
      have n7_:=aM (lD HB.out)
      clear HO_11
      clear HO_206000
      clear HO_206001
      clear BK196
      clear BK197
      clear BK205
      clear BK208
      clear HB
      have HO_11:=n0_
      have HO_206000:=n1_
      have HO_206001:=n2_
      have BK196:=n3_
      have BK197:=n4_
      have BK205:=n5_
      have BK208:=n6_
      have HB:=n7_
      clear n0_ n1_ n2_ n3_ n4_ n5_ n6_ n7_
      have p212 : 0 ≤ (x12_1 : Int):=of_decide_eq_true (by first|(with_reducible assumption)|assumption)
      have q212 : x12_1 < (l0_1.length : Int):=of_decide_eq_true (by first|(with_reducible assumption)|assumption)
      obtain ⟨ad212,e212,hx212_0,hx212_1,hx212_2⟩:=at_T39 HR0_1.out x12_1 p212 q212
      have hw212_2:=hx212_2
      have hw212_1:=hx212_1
      have hw212_0:=hx212_0
      cases e212
      replace hx212_0:=(HB.out.cell (World.block_lt_of_cell? w _ hx212_0)).trans hx212_0
      replace hx212_1:=(HB.out.cell (World.block_lt_of_cell? w _ hx212_1)).trans hx212_1
      replace hx212_2:=(HB.out.cell (World.block_lt_of_cell? w _ hx212_2)).trans hx212_2
      replace p212:=eq_true p212
      replace q212:=eq_true q212
      refine start_ (n:=7) (S:=fun w' => w'.cell? ⟨gb196,0,none⟩ = some (.slice A0_0 l0_0.length c0_0) ∧ w'.cell? ⟨gb196,1,none⟩ = some (.slice (some ad212) l0_1.length c0_1) ∧ w'.cell? ⟨gb196,2,none⟩ = some (.string a0_2) ∧ w'.cell? ⟨gb208,0,none⟩ = some (.string a1) ∧ w'.cell? ⟨gb208,1,none⟩ = some (.string t206) ∧ w'.cell? ⟨gb208,2,none⟩ = some (.string t207) ∧ w'.cell? (ad212.add ((x12_1).toNat * 3)) = some (.string ((rd_T39 l0_1 x12_1).f0)) ∧ w'.cell? ⟨(ad212.add ((x12_1).toNat * 3)).block,(ad212.add ((x12_1).toNat * 3)).off + 1,none⟩ = some (.string ((rd_T39 l0_1 x12_1).f1)) ∧ w'.cell? ⟨(ad212.add ((x12_1).toNat * 3)).block,(ad212.add ((x12_1).toNat * 3)).off + 2,none⟩ = some (.string ((rd_T39 l0_1 x12_1).f2))) (ds:=[]) #[bf,bf,bf,bf,bf,bf,bf] (by kernel_rfl) rfl rfl ⟨(bC BK196.out 0).trans rfl,(bC BK196.out 1).trans rfl,(bC BK196.out 2).trans rfl,(bC BK208.out 0).trans rfl,(bC BK208.out 1).trans rfl,(bC BK208.out 2).trans rfl,((HB.out.cell (World.block_lt_of_cell? w _ hw212_0)).trans hw212_0),((HB.out.cell (World.block_lt_of_cell? w _ hw212_1)).trans hw212_1),((HB.out.cell (World.block_lt_of_cell? w _ hw212_2)).trans hw212_2)⟩ (fun hHeld => ?_)
      generalize wr.drew = w43 at HO_11 HO_206000 HO_206001 BK196 BK197 BK205 BK208 HB hx212_0 hx212_1 hx212_2 hHeld ⊢
      refine pure_ (i:=0) (N:=some 30) (v:=?_) (a':=?_) #[bT,bf,bf,bf,bf,bf,bf] rfl rfl (by kernel_rfl) (fun _ _ _ h => h) (Or.inl ⟨by rfl,?_⟩) ?_ ?_
      rotate_left
      ·intro w';go_simp;with_reducible rfl
      rotate_left
      ·simp only [Act.put,q_ia4,q_cz4,q_cs4,i64_w,i32_w];rfl
      refine pure_ (i:=2) (N:=some 32) (v:=?_) (a':=?_) #[bT,bf,bT,bf,bf,bf,bf] rfl rfl (by kernel_rfl) (fun _ _ _ h => h) (Or.inl ⟨by rfl,?_⟩) ?_ ?_
      rotate_left
      ·intro w';go_simp;with_reducible rfl
      rotate_left
      ·simp only [Act.put,q_ia4,q_cz4,q_cs4,i64_w,i32_w];rfl
      refine take_ (i:=1) (N:=some 31) (v:=?_) (a':=?_) #[bT,bT,bT,bf,bf,bf,bf] rfl rfl (by kernel_rfl) (fun _ _ _ h => h) (Or.inl ⟨by rfl,?_⟩) hHeld ?_ ?_
      rotate_left
      ·rintro w' ⟨s0,s1,s2,s3,s4,s5,s6,s7,s8⟩
       go_simp
       with_reducible rfl
      rotate_left
      ·simp only [Act.put,q_ia4,q_cz4,q_cs4,i64_w,i32_w];rfl
      refine pure_ (i:=3) (N:=some 33) (v:=?_) (a':=?_) #[bT,bT,bT,bT,bf,bf,bf] rfl rfl (by kernel_rfl) (fun _ _ _ h => h) (Or.inl ⟨by rfl,?_⟩) ?_ ?_
      rotate_left
      ·intro w';go_simp;with_reducible rfl
      rotate_left
      ·simp only [Act.put,q_ia4,q_cz4,q_cs4,i64_w,i32_w];rfl
      refine take_ (i:=4) (N:=some 34) (v:=?_) (a':=?_) #[bT,bT,bT,bT,bT,bf,bf] rfl rfl (by kernel_rfl) (fun _ _ _ h => h) (Or.inl ⟨by rfl,?_⟩) hHeld ?_ ?_
      rotate_left
      ·rintro w' ⟨s0,s1,s2,s3,s4,s5,s6,s7,s8⟩
       go_simp
       with_reducible rfl
      rotate_left
      ·simp only [Act.put,q_ia4,q_cz4,q_cs4,i64_w,i32_w];rfl
      refine take_ (i:=5) (N:=some 35) (v:=?_) (a':=?_) #[bT,bT,bT,bT,bT,bT,bf] rfl rfl (by kernel_rfl) (fun _ _ _ h => h) (Or.inl ⟨by rfl,?_⟩) hHeld ?_ ?_
      rotate_left
      ·rintro w' ⟨s0,s1,s2,s3,s4,s5,s6,s7,s8⟩
       go_simp
       with_reducible rfl
      rotate_left
      ·simp only [Act.put,q_ia4,q_cz4,q_cs4,i64_w,i32_w];rfl
      refine one_ (i:=6) (N:=some 36) #[bT,bT,bT,bT,bT,bT,bT] rfl rfl (by kernel_rfl) (by decide) (fun K hK => ?_)
      refine goes_ Try.func46 (by kernel_rfl) rfl #[.agg #[.string ((rd_T39 l0_1 x12_1).f0),.string ((rd_T39 l0_1 x12_1).f1),.string ((rd_T39 l0_1 x12_1).f2)],.agg #[.string a1,.string t206,.string t207]] (by rfl) rfl rfl (by (try simp only [List.map_toArray,List.map_cons,List.map_nil]);first|done|rfl|(simp only [List.length_drop,List.length_take];rfl)) ?_
      with_reducible refine (spec_l08Ahead.calls ((rd_T39 l0_1 x12_1).f0) ((rd_T39 l0_1 x12_1).f1) ((rd_T39 l0_1 x12_1).f2) a1 t206 t207 false _ A28.out).mono ?_
      rintro e w44 ⟨rfl,hb⟩
      refine ⟨_,rfl,?_⟩
      have n0_:=aM (rH HO_11.out hb)
      have n1_:=aM (rH HO_206000.out hb)
      have n2_:=aM (rH HO_206001.out hb)
      have n3_:=aM (bH BK196.out hb)
      have n4_:=aM (bH BK197.out hb)
      have n5_:=aM (bH BK205.out hb)
      have n6_:=aM (bH BK208.out hb)
      have n7_:=aM (lQ HB.out hb)
      clear HO_11
      clear HO_206000
      clear HO_206001
      clear BK196
      clear BK197
      clear BK205
      clear BK208
      clear HB
      have HO_11:=n0_
      have HO_206000:=n1_
      have HO_206001:=n2_
      have BK196:=n3_
      have BK197:=n4_
      have BK205:=n5_
      have BK208:=n6_
      have HB:=n7_
      clear n0_ n1_ n2_ n3_ n4_ n5_ n6_ n7_
      (try clear hb)
      (try clear hb2)
      (try clear hk)
      (try clear hi)
      refine hK.out _ _ ⟨(bC BK196.out 0).trans rfl,(bC BK196.out 1).trans rfl,(bC BK196.out 2).trans rfl,(bC BK208.out 0).trans rfl,(bC BK208.out 1).trans rfl,(bC BK208.out 2).trans rfl,((HB.out.cell (World.block_lt_of_cell? w _ hw212_0)).trans hw212_0),((HB.out.cell (World.block_lt_of_cell? w _ hw212_1)).trans hw212_1),((HB.out.cell (World.block_lt_of_cell? w _ hw212_2)).trans hw212_2)⟩ (fun hHeld => ?_)
      clear hK K
      refine norm_ (a':=?_) ?_ ?_
      rotate_left
      ·show Act.put _ (some 36) _ = _
       simp only [Act.put,q_ia4,q_cz4,q_cs4,i64_w,i32_w]
       rfl
      refine done_ (by kernel_rfl) ?_
      try go_wp2
      go_roundg k1
      case measure => have:=HK1.out;omega
      case rel => exact ⟨(x11_1),(wrap64 (x12_1 + 1)),(by first|rfl|(simp;done)|(simp [*];done)),H',⟨by have:=HK1.out;omega⟩,⟨by (with_reducible repeat (first|apply rA|apply rN|apply rD));exact HO_11.out⟩,⟨by (with_reducible repeat (first|apply rA|apply rN|apply rD));exact HO_206000.out⟩,⟨by (with_reducible repeat (first|apply rA|apply rN|apply rD));exact HO_206001.out⟩,⟨by (with_reducible repeat (first|refine bN ?_ _|refine bD ?_|refine bA ?_ _));exact BK196.out⟩,⟨by (with_reducible repeat (first|refine bN ?_ _|refine bD ?_|refine bA ?_ _));exact BK197.out⟩,⟨by (with_reducible repeat (first|refine bN ?_ _|refine bD ?_|refine bA ?_ _));exact BK205.out⟩,⟨by (with_reducible repeat (first|refine bN ?_ _|refine bD ?_|refine bA ?_ _));exact BK208.out⟩,⟨by repeat (first|(with_reducible first|exact HB.out|apply lA|apply lN|apply lD|refine lS ?_ GE196.out|refine lS ?_ GE197.out|refine lS ?_ GE205.out|refine lS ?_ GE208.out)|exact HB.out)⟩⟩
    ·rw [if_neg c27] at H
     exact absurd H (by simp)
   ·rw [if_neg c26] at H
    have c26b0 : decide (x12_1 < (l0_1.length : Int)) = false:=decide_eq_false c26
    clear c26
    by_cases c45 : x11_1.length < 2932031007402
    ·rw [if_pos c45] at H
     have LMc45:=aM c45
     clear c45
     obtain ⟨y218,hy218⟩ : ∃ y_ : List (S39),y_ = (x11_1 ++ [(⟨a1,t206,t207⟩ : S39)]):=⟨_,rfl⟩
     replace H : (spec_SetCell.l1 k1 y218 0 l0_0 l0_1 a0_2 t198 t201 t204 a1 t206 t207) = some (r1,r2,r3):=by first|(rw [hy218];with_reducible exact H)|(have H2_:=(Option.bind_some _ _).symm.trans H;rw [hy218];with_reducible exact H2_)|(have H2_:=(Option.bind_some _ _).symm.trans H;with_reducible exact H2_)|with_reducible exact H|(rw [hy218];exact H)|exact H
     have Ny218:=aM hy218
     clear hy218
     have H':=aM H
     clear H
     have hnb46:=NB196_197.out
     have hnc46:=NB197_196.out
     have hnb47:=NB196_205.out
     have hnc47:=NB205_196.out
     have hnb48:=NB196_208.out
     have hnc48:=NB208_196.out
     obtain ⟨⟨hcz49_0,hcz49_1,hcz49_2⟩,hfz49_0,hfz49_1,hfz49_2⟩:=bC3 BK196.out
     have hnb50:=NB208_197.out
     have hnc50:=NB197_208.out
     have hnb51:=NB208_205.out
     have hnc51:=NB205_208.out
     obtain ⟨⟨hcz52_0,hcz52_1,hcz52_2⟩,hfz52_0,hfz52_1,hfz52_2⟩:=bC3 BK208.out
     go_wp2_with (first|((with_reducible refine gate_builtin (b:=.append) (xs:=#[.tmp 45,.tmp 47]) rfl ?_);at_builtin;refine Kd.R_append k39 (w0:=w) w.heap.size rfl (.tmp 45) (.tmp 47) 33 39 (.agg #[(.string ⟨#[]⟩),(.string ⟨#[]⟩),(.string ⟨#[]⟩)]) 48 rfl Try.underlying33 info39 rfl (by decide) (by omega) u11 x11_1 (⟨a1,t206,t207⟩ : S39) [.string a1,.string t206,.string t207] (fun k_ => some k_ ≠ (.slice Ao18 t201.length co18 : Value).ownBlock ∧ k_ ≠ gb208) (fun _ => False) rfl rfl ?aP (fun _ hk => hk.elim) ?aF ?aO ?aB ?aS ?aL ?_;(case aP => exact k39_mkM _ _ _ (⟨a1,t206,t207⟩ : S39));(case aB => exact (by repeat (first|(with_reducible first|exact HB.out|apply lA|apply lN|apply lD|refine lS ?_ GE196.out|refine lS ?_ GE197.out|refine lS ?_ GE205.out|refine lS ?_ GE208.out)|exact HB.out)));(case aF => exact (fun k_ hk => ⟨Kd.fresh' (rT (rZ HO_206001.out)) k_ hk,Kd.freshB (g:=gb208) (o:=.cells #[.string a1,.string t206,.string t207] 39 (0,0)) (by (with_reducible repeat (first|refine bN ?_ _|refine bD ?_|refine bA ?_ _));exact BK208.out) k_ hk⟩));(case aO => exact (rZ HO_11.out));(case aS => exact (lZ (by repeat (first|(with_reducible first|exact HB.out|apply lA|apply lN|apply lD|refine lS ?_ GE196.out|refine lS ?_ GE197.out|refine lS ?_ GE205.out|refine lS ?_ GE208.out)|exact HB.out))));(case aL => have:=LMc45.out;omega);intro v219 w53 ho hb hg hat;rw [← Ny218.out] at ho;have n0_:=aM (Kd.R_over' (rZ HO_206000.out) (Kd.R_typed (rZ HO_11.out)) (by decide) hg);have n1_:=aM (Kd.R_after (ok:=(fun k_ => k_ ≠ gb208)) (by (with_reducible repeat (first|apply rA|apply rN|apply rD));exact Kd.R_mono HO_206001.out (fun _ hk => ⟨hk.2,hk.1⟩)) hg hat);have n2_:=aM (blk_grown (g:=gb196) (o:=.cells #[.slice A0_0 l0_0.length c0_0,.slice A0_1 l0_1.length c0_1,.string a0_2] 35 (0,0)) (by (with_reducible repeat (first|refine bN ?_ _|refine bD ?_|refine bA ?_ _));exact BK196.out) hg (Kd.R_ne HO_11.out BK196.out (by decide)));have n3_:=aM (blk_grown (g:=gb197) (o:=.cells #[.slice none 0 0,.slice none 0 0,.string (⟨#[]⟩ : ByteArray)] 35 (0,0)) (by (with_reducible repeat (first|refine bN ?_ _|refine bD ?_|refine bA ?_ _));exact BK197.out) hg (Kd.R_ne HO_11.out BK197.out (by decide)));have n4_:=aM (blk_grown (g:=gb205) (o:=.cells #[.slice Ao14 t198.length co14,.slice Ao18 t201.length co18,.string t204] 35 (0,0)) (by (with_reducible repeat (first|refine bN ?_ _|refine bD ?_|refine bA ?_ _));exact BK205.out) hg (Kd.R_ne HO_11.out BK205.out (by decide)));have n5_:=aM (blk_grown (g:=gb208) (o:=.cells #[.string a1,.string t206,.string t207] 39 (0,0)) (by (with_reducible repeat (first|refine bN ?_ _|refine bD ?_|refine bA ?_ _));exact BK208.out) hg (Kd.R_away HO_11.out (fun _ hk => hk.2)));have n6_:=aM (hb);have n7_:=aM (ho);clear HO_206000 HO_206001 BK196 BK197 BK205 BK208 HB HO_11;have HO_206000:=n0_;have HO_206001:=n1_;have BK196:=n2_;have BK197:=n3_;have BK205:=n4_;have BK208:=n5_;have HB:=n6_;have HO220:=n7_;clear n0_ n1_ n2_ n3_ n4_ n5_ n6_ n7_ ho hb hg hat))
     go_loopg [11,13] k1 (fun kq v11 v13 w' => ∃ (x11_2 : List (S39)) (x13_2 : Int),v13 = .int .i64 x13_2 ∧ Aside0 (spec_SetCell.l1 kq x11_2 x13_2 l0_0 l0_1 a0_2 t198 t201 t204 a1 t206 t207 = some (r1,r2,r3)) ∧ Aside0 (kq ≤ k1) ∧ Aside0 (Kd.R k39 39 w' w.heap.size (fun k_ => some k_ ≠ ((.slice Ao18 t201.length co18) : Value).ownBlock ∧ k_ ≠ gb208) v11 x11_2) ∧ Aside0 (Kd.R k59 59 w' w.heap.size (fun _ => True) (.slice Ao14 t198.length co14) t198) ∧ Aside0 (Kd.R k39 39 w' w.heap.size (fun k_ => some k_ ≠ (v11 : Value).ownBlock ∧ k_ ≠ gb208) (.slice Ao18 t201.length co18) t201) ∧ Aside0 (w'.heap[gb196]? = some (.cells #[(.slice A0_0 l0_0.length c0_0),(.slice A0_1 l0_1.length c0_1),.string a0_2] 35 (0,0))) ∧ Aside0 (w'.heap[gb197]? = some (.cells #[(.slice none 0 0),(.slice none 0 0),.string (⟨#[]⟩ : ByteArray)] 35 (0,0))) ∧ Aside0 (w'.heap[gb205]? = some (.cells #[(.slice Ao14 t198.length co14),(.slice Ao18 t201.length co18),.string t204] 35 (0,0))) ∧ Aside0 (w'.heap[gb208]? = some (.cells #[.string a1,.string t206,.string t207] 39 (0,0))) ∧ Aside0 (Below w.heap.size w w'))
     case atStart => exact ⟨(y218),(0),(by first|rfl|(simp;done)|(simp [*];done)),H',⟨Nat.le_refl _⟩,⟨by (with_reducible repeat (first|apply rA|apply rN|apply rD));exact HO220.out⟩,⟨by (with_reducible repeat (first|apply rA|apply rN|apply rD));exact HO_206000.out⟩,⟨by (with_reducible repeat (first|apply rA|apply rN|apply rD));exact Kd.R_mono HO_206001.out (fun _ hk => ⟨hk.2,hk.1⟩)⟩,⟨by (with_reducible repeat (first|refine bN ?_ _|refine bD ?_|refine bA ?_ _));exact BK196.out⟩,⟨by (with_reducible repeat (first|refine bN ?_ _|refine bD ?_|refine bA ?_ _));exact BK197.out⟩,⟨by (with_reducible repeat (first|refine bN ?_ _|refine bD ?_|refine bA ?_ _));exact BK205.out⟩,⟨by (with_reducible repeat (first|refine bN ?_ _|refine bD ?_|refine bA ?_ _));exact BK208.out⟩,⟨by repeat (first|(with_reducible first|exact HB.out|apply lA|apply lN|apply lD|refine lS ?_ GE196.out|refine lS ?_ GE197.out|refine lS ?_ GE205.out|refine lS ?_ GE208.out)|exact HB.out)⟩⟩
     case round =>
      clear H'
      try clear c1
      try clear c2
      try clear p2
      try clear q2
      try clear hx2
      try clear c3
      try clear c4
      try clear c5
      try clear p6
      try clear c10
      try clear c15
      try clear c16
      try clear c20
      try clear c21
      try clear p21
      try clear q21
      try clear hx21
      try clear c22
      try clear c26
      try clear c26b0
      try clear c27
      try clear c27b0
      try clear c29
      try clear c30
      try clear c31
      try clear c32
      try clear c33
      try clear c35
      try clear c39
      try clear c40
      try clear c41
      try clear c45
      try clear c46
      try clear c47
      try clear c48
      try clear c50
      try clear c51
      try clear hcz11_0
      try clear hcz11_1
      try clear hcz11_2
      try clear hcz17_0
      try clear hcz17_1
      try clear hcz17_2
      try clear hcz23_0
      try clear hcz23_1
      try clear hcz23_2
      try clear hcz34_0
      try clear hcz34_1
      try clear hcz34_2
      try clear hcz37_0
      try clear hcz37_1
      try clear hcz37_2
      try clear hcz42_0
      try clear hcz42_1
      try clear hcz42_2
      try clear hcz49_0
      try clear hcz49_1
      try clear hcz49_2
      try clear hcz52_0
      try clear hcz52_1
      try clear hcz52_2
      try clear hx212_0
      try clear hx212_1
      try clear hx212_2
      try clear hx214_0
      try clear hx214_1
      try clear hx214_2
      try clear p2
      try clear p212
      try clear p214
      try clear q212
      try clear q214
      obtain ⟨x11_2,x13_2,rfl,HA,HK2,HO_11,HO_206000,HO_206001,BK196,BK197,BK205,BK208,HB⟩:=hrel
      cases gk with
      |zero => exact absurd HA.out (by simp [spec_SetCell.l1])
      |succ k2 =>
       have H:=HA.out
       clear HA
       simp only [spec_SetCell.l1] at H
       by_cases c54 : x13_2 < (l0_1.length : Int)
       ·rw [if_pos c54] at H
        have c54b0 : decide (x13_2 < (l0_1.length : Int)) = true:=decide_eq_true c54
        clear c54
        by_cases c55 : 0 ≤ x13_2
        ·rw [if_pos c55] at H
         have c55b0 : decide (0 ≤ x13_2) = true:=decide_eq_true c55
         clear c55
         replace H:=Option.bind_eq_some_iff.mp H
         obtain ⟨t222,A560,H⟩:=H
         replace H : (if t222 = true then (if x11_2.length < 2932031007402 then (spec_SetCell.l1 k2 (x11_2 ++ [(⟨(rd_T39 l0_1 x13_2).f0,(rd_T39 l0_1 x13_2).f1,(rd_T39 l0_1 x13_2).f2⟩ : S39)]) (wrap64 (x13_2 + 1)) l0_0 l0_1 a0_2 t198 t201 t204 a1 t206 t207) else (none)) else (spec_SetCell.l1 k2 x11_2 (wrap64 (x13_2 + 1)) l0_0 l0_1 a0_2 t198 t201 t204 a1 t206 t207)) = some (r1,r2,r3):=H
         have A56:=aM A560
         clear A560
         by_cases c57 : t222 = true
         ·subst c57
          have H1 : (if x11_2.length < 2932031007402 then (spec_SetCell.l1 k2 (x11_2 ++ [(⟨(rd_T39 l0_1 x13_2).f0,(rd_T39 l0_1 x13_2).f1,(rd_T39 l0_1 x13_2).f2⟩ : S39)]) (wrap64 (x13_2 + 1)) l0_0 l0_1 a0_2 t198 t201 t204 a1 t206 t207) else (none)) = some (r1,r2,r3):=by rw [if_pos rfl] at H;exact H
          clear H
          have H:=H1
          clear H1
          by_cases c58 : x11_2.length < 2932031007402
          ·rw [if_pos c58] at H
           have LMc58:=aM c58
           clear c58
           obtain ⟨y224,hy224⟩ : ∃ y_ : List (S39),y_ = (x11_2 ++ [(⟨(rd_T39 l0_1 x13_2).f0,(rd_T39 l0_1 x13_2).f1,(rd_T39 l0_1 x13_2).f2⟩ : S39)]):=⟨_,rfl⟩
           replace H : (spec_SetCell.l1 k2 y224 (wrap64 (x13_2 + 1)) l0_0 l0_1 a0_2 t198 t201 t204 a1 t206 t207) = some (r1,r2,r3):=by first|(rw [hy224];with_reducible exact H)|(have H2_:=(Option.bind_some _ _).symm.trans H;rw [hy224];with_reducible exact H2_)|(have H2_:=(Option.bind_some _ _).symm.trans H;with_reducible exact H2_)|with_reducible exact H|(rw [hy224];exact H)|exact H
           have Ny224:=aM hy224
           clear hy224
           have H':=aM H
           clear H
           have hnb59:=NB196_197.out
           have hnc59:=NB197_196.out
           have hnb60:=NB196_205.out
           have hnc60:=NB205_196.out
           have hnb61:=NB196_208.out
           have hnc61:=NB208_196.out
           obtain ⟨⟨hcz62_0,hcz62_1,hcz62_2⟩,hfz62_0,hfz62_1,hfz62_2⟩:=bC3 BK196.out
           try go_wp2
           have n0_:=aM (rD HO_11.out)
           have n1_:=aM (rD HO_206000.out)
           have n2_:=aM (rD HO_206001.out)
           have n3_:=aM (bD BK196.out)
           have n4_:=aM (bD BK197.out)
           have n5_:=aM (bD BK205.out)
           have n6_:=aM (bD BK208.out)
           have n7_:=aM (lD HB.out)
           clear HO_11
           clear HO_206000
           clear HO_206001
           clear BK196
           clear BK197
           clear BK205
           clear BK208
           clear HB
           have HO_11:=n0_
           have HO_206000:=n1_
           have HO_206001:=n2_
           have BK196:=n3_
           have BK197:=n4_
           have BK205:=n5_
           have BK208:=n6_
           have HB:=n7_
           clear n0_ n1_ n2_ n3_ n4_ n5_ n6_ n7_
           have p221 : 0 ≤ (x13_2 : Int):=of_decide_eq_true (by first|(with_reducible assumption)|assumption)
           have q221 : x13_2 < (l0_1.length : Int):=of_decide_eq_true (by first|(with_reducible assumption)|assumption)
           obtain ⟨ad221,e221,hx221_0,hx221_1,hx221_2⟩:=at_T39 HR0_1.out x13_2 p221 q221
           have hw221_2:=hx221_2
           have hw221_1:=hx221_1
           have hw221_0:=hx221_0
           cases e221
           replace hx221_0:=(HB.out.cell (World.block_lt_of_cell? w _ hx221_0)).trans hx221_0
           replace hx221_1:=(HB.out.cell (World.block_lt_of_cell? w _ hx221_1)).trans hx221_1
           replace hx221_2:=(HB.out.cell (World.block_lt_of_cell? w _ hx221_2)).trans hx221_2
           replace p221:=eq_true p221
           replace q221:=eq_true q221
           refine start_ (n:=7) (S:=fun w' => w'.cell? ⟨gb208,0,none⟩ = some (.string a1) ∧ w'.cell? ⟨gb208,1,none⟩ = some (.string t206) ∧ w'.cell? ⟨gb208,2,none⟩ = some (.string t207) ∧ w'.cell? ⟨gb196,0,none⟩ = some (.slice A0_0 l0_0.length c0_0) ∧ w'.cell? ⟨gb196,1,none⟩ = some (.slice (some ad221) l0_1.length c0_1) ∧ w'.cell? ⟨gb196,2,none⟩ = some (.string a0_2) ∧ w'.cell? (ad221.add ((x13_2).toNat * 3)) = some (.string ((rd_T39 l0_1 x13_2).f0)) ∧ w'.cell? ⟨(ad221.add ((x13_2).toNat * 3)).block,(ad221.add ((x13_2).toNat * 3)).off + 1,none⟩ = some (.string ((rd_T39 l0_1 x13_2).f1)) ∧ w'.cell? ⟨(ad221.add ((x13_2).toNat * 3)).block,(ad221.add ((x13_2).toNat * 3)).off + 2,none⟩ = some (.string ((rd_T39 l0_1 x13_2).f2))) (ds:=[]) #[bf,bf,bf,bf,bf,bf,bf] (by kernel_rfl) rfl rfl ⟨(bC BK208.out 0).trans rfl,(bC BK208.out 1).trans rfl,(bC BK208.out 2).trans rfl,(bC BK196.out 0).trans rfl,(bC BK196.out 1).trans rfl,(bC BK196.out 2).trans rfl,((HB.out.cell (World.block_lt_of_cell? w _ hw221_0)).trans hw221_0),((HB.out.cell (World.block_lt_of_cell? w _ hw221_1)).trans hw221_1),((HB.out.cell (World.block_lt_of_cell? w _ hw221_2)).trans hw221_2)⟩ (fun hHeld => ?_)
           generalize wr.drew = w63 at HO_11 HO_206000 HO_206001 BK196 BK197 BK205 BK208 HB hx221_0 hx221_1 hx221_2 hHeld ⊢
           refine pure_ (i:=1) (N:=some 57) (v:=?_) (a':=?_) #[bf,bT,bf,bf,bf,bf,bf] rfl rfl (by kernel_rfl) (fun _ _ _ h => h) (Or.inl ⟨by rfl,?_⟩) ?_ ?_
           rotate_left
           ·intro w';go_simp;with_reducible rfl
           rotate_left
           ·simp only [Act.put,q_ia4,q_cz4,q_cs4,i64_w,i32_w];rfl
           refine pure_ (i:=3) (N:=some 59) (v:=?_) (a':=?_) #[bf,bT,bf,bT,bf,bf,bf] rfl rfl (by kernel_rfl) (fun _ _ _ h => h) (Or.inl ⟨by rfl,?_⟩) ?_ ?_
           rotate_left
           ·intro w';go_simp;with_reducible rfl
           rotate_left
           ·simp only [Act.put,q_ia4,q_cz4,q_cs4,i64_w,i32_w];rfl
           refine take_ (i:=0) (N:=some 56) (v:=?_) (a':=?_) #[bT,bT,bf,bT,bf,bf,bf] rfl rfl (by kernel_rfl) (fun _ _ _ h => h) (Or.inl ⟨by rfl,?_⟩) hHeld ?_ ?_
           rotate_left
           ·rintro w' ⟨s0,s1,s2,s3,s4,s5,s6,s7,s8⟩
            go_simp
            with_reducible rfl
           rotate_left
           ·simp only [Act.put,q_ia4,q_cz4,q_cs4,i64_w,i32_w];rfl
           refine take_ (i:=2) (N:=some 58) (v:=?_) (a':=?_) #[bT,bT,bT,bT,bf,bf,bf] rfl rfl (by kernel_rfl) (fun _ _ _ h => h) (Or.inl ⟨by rfl,?_⟩) hHeld ?_ ?_
           rotate_left
           ·rintro w' ⟨s0,s1,s2,s3,s4,s5,s6,s7,s8⟩
            go_simp
            with_reducible rfl
           rotate_left
           ·simp only [Act.put,q_ia4,q_cz4,q_cs4,i64_w,i32_w];rfl
           refine pure_ (i:=4) (N:=some 60) (v:=?_) (a':=?_) #[bT,bT,bT,bT,bT,bf,bf] rfl rfl (by kernel_rfl) (fun _ _ _ h => h) (Or.inl ⟨by rfl,?_⟩) ?_ ?_
           rotate_left
           ·intro w';go_simp;with_reducible rfl
           rotate_left
           ·simp only [Act.put,q_ia4,q_cz4,q_cs4,i64_w,i32_w];rfl
           refine take_ (i:=5) (N:=some 61) (v:=?_) (a':=?_) #[bT,bT,bT,bT,bT,bT,bf] rfl rfl (by kernel_rfl) (fun _ _ _ h => h) (Or.inl ⟨by rfl,?_⟩) hHeld ?_ ?_
           rotate_left
           ·rintro w' ⟨s0,s1,s2,s3,s4,s5,s6,s7,s8⟩
            go_simp
            with_reducible rfl
           rotate_left
           ·simp only [Act.put,q_ia4,q_cz4,q_cs4,i64_w,i32_w];rfl
           refine one_ (i:=6) (N:=some 62) #[bT,bT,bT,bT,bT,bT,bT] rfl rfl (by kernel_rfl) (by decide) (fun K hK => ?_)
           refine goes_ Try.func46 (by kernel_rfl) rfl #[.agg #[.string a1,.string t206,.string t207],.agg #[.string ((rd_T39 l0_1 x13_2).f0),.string ((rd_T39 l0_1 x13_2).f1),.string ((rd_T39 l0_1 x13_2).f2)]] (by rfl) rfl rfl (by (try simp only [List.map_toArray,List.map_cons,List.map_nil]);first|done|rfl|(simp only [List.length_drop,List.length_take];rfl)) ?_
           with_reducible refine (spec_l08Ahead.calls a1 t206 t207 ((rd_T39 l0_1 x13_2).f0) ((rd_T39 l0_1 x13_2).f1) ((rd_T39 l0_1 x13_2).f2) true _ A56.out).mono ?_
           rintro e w64 ⟨rfl,hb⟩
           refine ⟨_,rfl,?_⟩
           have n0_:=aM (rH HO_11.out hb)
           have n1_:=aM (rH HO_206000.out hb)
           have n2_:=aM (rH HO_206001.out hb)
           have n3_:=aM (bH BK196.out hb)
           have n4_:=aM (bH BK197.out hb)
           have n5_:=aM (bH BK205.out hb)
           have n6_:=aM (bH BK208.out hb)
           have n7_:=aM (lQ HB.out hb)
           clear HO_11
           clear HO_206000
           clear HO_206001
           clear BK196
           clear BK197
           clear BK205
           clear BK208
           clear HB
           have HO_11:=n0_
           have HO_206000:=n1_
           have HO_206001:=n2_
           have BK196:=n3_
           have BK197:=n4_
           have BK205:=n5_
           have BK208:=n6_
           have HB:=n7_
           clear n0_ n1_ n2_ n3_ n4_ n5_ n6_ n7_
           (try clear hb)
           (try clear hb2)
           (try clear hk)
           (try clear hi)
           refine hK.out _ _ ⟨(bC BK208.out 0).trans rfl,(bC BK208.out 1).trans rfl,(bC BK208.out 2).trans rfl,(bC BK196.out 0).trans rfl,(bC BK196.out 1).trans rfl,(bC BK196.out 2).trans rfl,((HB.out.cell (World.block_lt_of_cell? w _ hw221_0)).trans hw221_0),((HB.out.cell (World.block_lt_of_cell? w _ hw221_1)).trans hw221_1),((HB.out.cell (World.block_lt_of_cell? w _ hw221_2)).trans hw221_2)⟩ (fun hHeld => ?_)
           clear hK K
           refine norm_ (a':=?_) ?_ ?_
           rotate_left
           ·show Act.put _ (some 62) _ = _
            simp only [Act.put,q_ia4,q_cz4,q_cs4,i64_w,i32_w]
            rfl
           refine done_ (by kernel_rfl) ?_
           obtain ⟨⟨hcz65_0,hcz65_1,hcz65_2⟩,hfz65_0,hfz65_1,hfz65_2⟩:=bC3 BK196.out
           have p223 : 0 ≤ (x13_2 : Int):=of_decide_eq_true (by first|(with_reducible assumption)|assumption)
           have q223 : x13_2 < (l0_1.length : Int):=of_decide_eq_true (by first|(with_reducible assumption)|assumption)
           obtain ⟨ad223,e223,hx223_0,hx223_1,hx223_2⟩:=at_T39 HR0_1.out x13_2 p223 q223
           obtain rfl : ad221 = ad223:=(by injection e223)
           replace hx223_0:=(HB.out.cell (World.block_lt_of_cell? w _ hx223_0)).trans hx223_0
           replace hx223_1:=(HB.out.cell (World.block_lt_of_cell? w _ hx223_1)).trans hx223_1
           replace hx223_2:=(HB.out.cell (World.block_lt_of_cell? w _ hx223_2)).trans hx223_2
           replace p223:=eq_true p223
           replace q223:=eq_true q223
           try go_wp2_with (first|((with_reducible refine gate_builtin (b:=.append) (xs:=#[.tmp 63,.tmp 69]) rfl ?_);at_builtin;refine Kd.R_append k39 (w0:=w) w.heap.size rfl (.tmp 63) (.tmp 69) 33 39 (.agg #[(.string ⟨#[]⟩),(.string ⟨#[]⟩),(.string ⟨#[]⟩)]) 48 rfl Try.underlying33 info39 rfl (by decide) (by omega) u11 x11_2 (⟨(rd_T39 l0_1 x13_2).f0,(rd_T39 l0_1 x13_2).f1,(rd_T39 l0_1 x13_2).f2⟩ : S39) [.string ((rd_T39 l0_1 x13_2).f0),.string ((rd_T39 l0_1 x13_2).f1),.string ((rd_T39 l0_1 x13_2).f2)] (fun k_ => some k_ ≠ (.slice Ao18 t201.length co18 : Value).ownBlock ∧ k_ ≠ gb208) (fun _ => False) rfl rfl ?aP (fun _ hk => hk.elim) ?aF ?aO ?aB ?aS ?aL ?_;(case aP => exact k39_mkM _ _ _ (⟨(rd_T39 l0_1 x13_2).f0,(rd_T39 l0_1 x13_2).f1,(rd_T39 l0_1 x13_2).f2⟩ : S39));(case aB => exact (by repeat (first|(with_reducible first|exact HB.out|apply lA|apply lN|apply lD|refine lS ?_ GE196.out|refine lS ?_ GE197.out|refine lS ?_ GE205.out|refine lS ?_ GE208.out)|exact HB.out)));(case aF => exact (fun k_ hk => ⟨Kd.fresh' (rT (rZ HO_206001.out)) k_ hk,Kd.freshB (g:=gb208) (o:=.cells #[.string a1,.string t206,.string t207] 39 (0,0)) (by (with_reducible repeat (first|refine bN ?_ _|refine bD ?_|refine bA ?_ _));exact BK208.out) k_ hk⟩));(case aO => exact (rZ HO_11.out));(case aS => exact (lZ (by repeat (first|(with_reducible first|exact HB.out|apply lA|apply lN|apply lD|refine lS ?_ GE196.out|refine lS ?_ GE197.out|refine lS ?_ GE205.out|refine lS ?_ GE208.out)|exact HB.out))));(case aL => have:=LMc58.out;omega);intro v225 w66 ho hb hg hat;rw [← Ny224.out] at ho;have n0_:=aM (Kd.R_over' (rZ HO_206000.out) (Kd.R_typed (rZ HO_11.out)) (by decide) hg);have n1_:=aM (Kd.R_after (ok:=(fun k_ => k_ ≠ gb208)) (by (with_reducible repeat (first|apply rA|apply rN|apply rD));exact Kd.R_mono HO_206001.out (fun _ hk => ⟨hk.2,hk.1⟩)) hg hat);have n2_:=aM (blk_grown (g:=gb196) (o:=.cells #[.slice A0_0 l0_0.length c0_0,.slice (some ad221) l0_1.length c0_1,.string a0_2] 35 (0,0)) (by (with_reducible repeat (first|refine bN ?_ _|refine bD ?_|refine bA ?_ _));exact BK196.out) hg (Kd.R_ne HO_11.out BK196.out (by decide)));have n3_:=aM (blk_grown (g:=gb197) (o:=.cells #[.slice none 0 0,.slice none 0 0,.string (⟨#[]⟩ : ByteArray)] 35 (0,0)) (by (with_reducible repeat (first|refine bN ?_ _|refine bD ?_|refine bA ?_ _));exact BK197.out) hg (Kd.R_ne HO_11.out BK197.out (by decide)));have n4_:=aM (blk_grown (g:=gb205) (o:=.cells #[.slice Ao14 t198.length co14,.slice Ao18 t201.length co18,.string t204] 35 (0,0)) (by (with_reducible repeat (first|refine bN ?_ _|refine bD ?_|refine bA ?_ _));exact BK205.out) hg (Kd.R_ne HO_11.out BK205.out (by decide)));have n5_:=aM (blk_grown (g:=gb208) (o:=.cells #[.string a1,.string t206,.string t207] 39 (0,0)) (by (with_reducible repeat (first|refine bN ?_ _|refine bD ?_|refine bA ?_ _));exact BK208.out) hg (Kd.R_away HO_11.out (fun _ hk => hk.2)));have n6_:=aM (hb);have n7_:=aM (ho);clear HO_206000 HO_206001 BK196 BK197 BK205 BK208 HB HO_11;have HO_206000:=n0_;have HO_206001:=n1_;have BK196:=n2_;have BK197:=n3_;have BK205:=n4_;have BK208:=n5_;have HB:=n6_;have HO226:=n7_;clear n0_ n1_ n2_ n3_ n4_ n5_ n6_ n7_ ho hb hg hat))
           go_roundg k2
           case measure => have:=HK1.out;have:=HK2.out;omega
           case rel => exact ⟨(y224),(wrap64 (x13_2 + 1)),(by first|rfl|(simp;done)|(simp [*];done)),H',⟨by have:=HK1.out;have:=HK2.out;omega⟩,⟨by (with_reducible repeat (first|apply rA|apply rN|apply rD));exact HO226.out⟩,⟨by (with_reducible repeat (first|apply rA|apply rN|apply rD));exact HO_206000.out⟩,⟨by (with_reducible repeat (first|apply rA|apply rN|apply rD));exact Kd.R_mono HO_206001.out (fun _ hk => ⟨hk.2,hk.1⟩)⟩,⟨by (with_reducible repeat (first|refine bN ?_ _|refine bD ?_|refine bA ?_ _));exact BK196.out⟩,⟨by (with_reducible repeat (first|refine bN ?_ _|refine bD ?_|refine bA ?_ _));exact BK197.out⟩,⟨by (with_reducible repeat (first|refine bN ?_ _|refine bD ?_|refine bA ?_ _));exact BK205.out⟩,⟨by (with_reducible repeat (first|refine bN ?_ _|refine bD ?_|refine bA ?_ _));exact BK208.out⟩,⟨by repeat (first|(with_reducible first|exact HB.out|apply lA|apply lN|apply lD|refine lS ?_ GE196.out|refine lS ?_ GE197.out|refine lS ?_ GE205.out|refine lS ?_ GE208.out)|exact HB.out)⟩⟩
          ·rw [if_neg c58] at H
           exact absurd H (by simp)
         ·replace c57:=Bool.eq_false_iff.mpr c57
          subst c57
          have H1 : (spec_SetCell.l1 k2 x11_2 (wrap64 (x13_2 + 1)) l0_0 l0_1 a0_2 t198 t201 t204 a1 t206 t207) = some (r1,r2,r3):=by rw [if_neg (show ¬ (false = true) by decide)] at H;exact H
          clear H
          have H:=H1
          clear H1
          have H':=aM H
          clear H
          have hnb67:=NB196_197.out
          have hnc67:=NB197_196.out
          have hnb68:=NB196_205.out
          have hnc68:=NB205_196.out
          have hnb69:=NB196_208.out
          have hnc69:=NB208_196.out
          obtain ⟨⟨hcz70_0,hcz70_1,hcz70_2⟩,hfz70_0,hfz70_1,hfz70_2⟩:=bC3 BK196.out
          try go_wp2
          have n0_:=aM (rD HO_11.out)
          have n1_:=aM (rD HO_206000.out)
          have n2_:=aM (rD HO_206001.out)
          have n3_:=aM (bD BK196.out)
          have n4_:=aM (bD BK197.out)
          have n5_:=aM (bD BK205.out)
          have n6_:=aM (bD BK208.out)
          have n7_:=aM (lD HB.out)
          clear HO_11
          clear HO_206000
          clear HO_206001
          clear BK196
          clear BK197
          clear BK205
          clear BK208
          clear HB
          have HO_11:=n0_
          have HO_206000:=n1_
          have HO_206001:=n2_
          have BK196:=n3_
          have BK197:=n4_
          have BK205:=n5_
          have BK208:=n6_
          have HB:=n7_
          clear n0_ n1_ n2_ n3_ n4_ n5_ n6_ n7_
          have p221 : 0 ≤ (x13_2 : Int):=of_decide_eq_true (by first|(with_reducible assumption)|assumption)
          have q221 : x13_2 < (l0_1.length : Int):=of_decide_eq_true (by first|(with_reducible assumption)|assumption)
          obtain ⟨ad221,e221,hx221_0,hx221_1,hx221_2⟩:=at_T39 HR0_1.out x13_2 p221 q221
          have hw221_2:=hx221_2
          have hw221_1:=hx221_1
          have hw221_0:=hx221_0
          cases e221
          replace hx221_0:=(HB.out.cell (World.block_lt_of_cell? w _ hx221_0)).trans hx221_0
          replace hx221_1:=(HB.out.cell (World.block_lt_of_cell? w _ hx221_1)).trans hx221_1
          replace hx221_2:=(HB.out.cell (World.block_lt_of_cell? w _ hx221_2)).trans hx221_2
          replace p221:=eq_true p221
          replace q221:=eq_true q221
          refine start_ (n:=7) (S:=fun w' => w'.cell? ⟨gb208,0,none⟩ = some (.string a1) ∧ w'.cell? ⟨gb208,1,none⟩ = some (.string t206) ∧ w'.cell? ⟨gb208,2,none⟩ = some (.string t207) ∧ w'.cell? ⟨gb196,0,none⟩ = some (.slice A0_0 l0_0.length c0_0) ∧ w'.cell? ⟨gb196,1,none⟩ = some (.slice (some ad221) l0_1.length c0_1) ∧ w'.cell? ⟨gb196,2,none⟩ = some (.string a0_2) ∧ w'.cell? (ad221.add ((x13_2).toNat * 3)) = some (.string ((rd_T39 l0_1 x13_2).f0)) ∧ w'.cell? ⟨(ad221.add ((x13_2).toNat * 3)).block,(ad221.add ((x13_2).toNat * 3)).off + 1,none⟩ = some (.string ((rd_T39 l0_1 x13_2).f1)) ∧ w'.cell? ⟨(ad221.add ((x13_2).toNat * 3)).block,(ad221.add ((x13_2).toNat * 3)).off + 2,none⟩ = some (.string ((rd_T39 l0_1 x13_2).f2))) (ds:=[]) #[bf,bf,bf,bf,bf,bf,bf] (by kernel_rfl) rfl rfl ⟨(bC BK208.out 0).trans rfl,(bC BK208.out 1).trans rfl,(bC BK208.out 2).trans rfl,(bC BK196.out 0).trans rfl,(bC BK196.out 1).trans rfl,(bC BK196.out 2).trans rfl,((HB.out.cell (World.block_lt_of_cell? w _ hw221_0)).trans hw221_0),((HB.out.cell (World.block_lt_of_cell? w _ hw221_1)).trans hw221_1),((HB.out.cell (World.block_lt_of_cell? w _ hw221_2)).trans hw221_2)⟩ (fun hHeld => ?_)
          generalize wr.drew = w71 at HO_11 HO_206000 HO_206001 BK196 BK197 BK205 BK208 HB hx221_0 hx221_1 hx221_2 hHeld ⊢
          refine pure_ (i:=1) (N:=some 57) (v:=?_) (a':=?_) #[bf,bT,bf,bf,bf,bf,bf] rfl rfl (by kernel_rfl) (fun _ _ _ h => h) (Or.inl ⟨by rfl,?_⟩) ?_ ?_
          rotate_left
          ·intro w';go_simp;with_reducible rfl
          rotate_left
          ·simp only [Act.put,q_ia4,q_cz4,q_cs4,i64_w,i32_w];rfl
          refine pure_ (i:=3) (N:=some 59) (v:=?_) (a':=?_) #[bf,bT,bf,bT,bf,bf,bf] rfl rfl (by kernel_rfl) (fun _ _ _ h => h) (Or.inl ⟨by rfl,?_⟩) ?_ ?_
          rotate_left
          ·intro w';go_simp;with_reducible rfl
          rotate_left
          ·simp only [Act.put,q_ia4,q_cz4,q_cs4,i64_w,i32_w];rfl
          refine take_ (i:=0) (N:=some 56) (v:=?_) (a':=?_) #[bT,bT,bf,bT,bf,bf,bf] rfl rfl (by kernel_rfl) (fun _ _ _ h => h) (Or.inl ⟨by rfl,?_⟩) hHeld ?_ ?_
          rotate_left
          ·rintro w' ⟨s0,s1,s2,s3,s4,s5,s6,s7,s8⟩
           go_simp
           with_reducible rfl
          rotate_left
          ·simp only [Act.put,q_ia4,q_cz4,q_cs4,i64_w,i32_w];rfl
          refine take_ (i:=2) (N:=some 58) (v:=?_) (a':=?_) #[bT,bT,bT,bT,bf,bf,bf] rfl rfl (by kernel_rfl) (fun _ _ _ h => h) (Or.inl ⟨by rfl,?_⟩) hHeld ?_ ?_
          rotate_left
          ·rintro w' ⟨s0,s1,s2,s3,s4,s5,s6,s7,s8⟩
           go_simp
           with_reducible rfl
          rotate_left
          ·simp only [Act.put,q_ia4,q_cz4,q_cs4,i64_w,i32_w];rfl
          refine pure_ (i:=4) (N:=some 60) (v:=?_) (a':=?_) #[bT,bT,bT,bT,bT,bf,bf] rfl rfl (by kernel_rfl) (fun _ _ _ h => h) (Or.inl ⟨by rfl,?_⟩) ?_ ?_
          rotate_left
          ·intro w';go_simp;with_reducible rfl
          rotate_left
          ·simp only [Act.put,q_ia4,q_cz4,q_cs4,i64_w,i32_w];rfl
          refine take_ (i:=5) (N:=some 61) (v:=?_) (a':=?_) #[bT,bT,bT,bT,bT,bT,bf] rfl rfl (by kernel_rfl) (fun _ _ _ h => h) (Or.inl ⟨by rfl,?_⟩) hHeld ?_ ?_
          rotate_left
          ·rintro w' ⟨s0,s1,s2,s3,s4,s5,s6,s7,s8⟩
           go_simp
           with_reducible rfl
          rotate_left
          ·simp only [Act.put,q_ia4,q_cz4,q_cs4,i64_w,i32_w];rfl
          refine one_ (i:=6) (N:=some 62) #[bT,bT,bT,bT,bT,bT,bT] rfl rfl (by kernel_rfl) (by decide) (fun K hK => ?_)
          refine goes_ Try.func46 (by kernel_rfl) rfl #[.agg #[.string a1,.string t206,.string t207],.agg #[.string ((rd_T39 l0_1 x13_2).f0),.string ((rd_T39 l0_1 x13_2).f1),.string ((rd_T39 l0_1 x13_2).f2)]] (by rfl) rfl rfl (by (try simp only [List.map_toArray,List.map_cons,List.map_nil]);first|done|rfl|(simp only [List.length_drop,List.length_take];rfl)) ?_
          with_reducible refine (spec_l08Ahead.calls a1 t206 t207 ((rd_T39 l0_1 x13_2).f0) ((rd_T39 l0_1 x13_2).f1) ((rd_T39 l0_1 x13_2).f2) false _ A56.out).mono ?_
          rintro e w72 ⟨rfl,hb⟩
          refine ⟨_,rfl,?_⟩
          have n0_:=aM (rH HO_11.out hb)
          have n1_:=aM (rH HO_206000.out hb)
          have n2_:=aM (rH HO_206001.out hb)
          have n3_:=aM (bH BK196.out hb)
          have n4_:=aM (bH BK197.out hb)
          have n5_:=aM (bH BK205.out hb)
          have n6_:=aM (bH BK208.out hb)
          have n7_:=aM (lQ HB.out hb)
          clear HO_11
          clear HO_206000
          clear HO_206001
          clear BK196
          clear BK197
          clear BK205
          clear BK208
          clear HB
          have HO_11:=n0_
          have HO_206000:=n1_
          have HO_206001:=n2_
          have BK196:=n3_
          have BK197:=n4_
          have BK205:=n5_
          have BK208:=n6_
          have HB:=n7_
          clear n0_ n1_ n2_ n3_ n4_ n5_ n6_ n7_
          (try clear hb)
          (try clear hb2)
          (try clear hk)
          (try clear hi)
          refine hK.out _ _ ⟨(bC BK208.out 0).trans rfl,(bC BK208.out 1).trans rfl,(bC BK208.out 2).trans rfl,(bC BK196.out 0).trans rfl,(bC BK196.out 1).trans rfl,(bC BK196.out 2).trans rfl,((HB.out.cell (World.block_lt_of_cell? w _ hw221_0)).trans hw221_0),((HB.out.cell (World.block_lt_of_cell? w _ hw221_1)).trans hw221_1),((HB.out.cell (World.block_lt_of_cell? w _ hw221_2)).trans hw221_2)⟩ (fun hHeld => ?_)
          clear hK K
          refine norm_ (a':=?_) ?_ ?_
          rotate_left
          ·show Act.put _ (some 62) _ = _
           simp only [Act.put,q_ia4,q_cz4,q_cs4,i64_w,i32_w]
           rfl
          refine done_ (by kernel_rfl) ?_
          try go_wp2
          go_roundg k2
          case measure => have:=HK1.out;have:=HK2.out;omega
          case rel => exact ⟨(x11_2),(wrap64 (x13_2 + 1)),(by first|rfl|(simp;done)|(simp [*];done)),H',⟨by have:=HK1.out;have:=HK2.out;omega⟩,⟨by (with_reducible repeat (first|apply rA|apply rN|apply rD));exact HO_11.out⟩,⟨by (with_reducible repeat (first|apply rA|apply rN|apply rD));exact HO_206000.out⟩,⟨by (with_reducible repeat (first|apply rA|apply rN|apply rD));exact HO_206001.out⟩,⟨by (with_reducible repeat (first|refine bN ?_ _|refine bD ?_|refine bA ?_ _));exact BK196.out⟩,⟨by (with_reducible repeat (first|refine bN ?_ _|refine bD ?_|refine bA ?_ _));exact BK197.out⟩,⟨by (with_reducible repeat (first|refine bN ?_ _|refine bD ?_|refine bA ?_ _));exact BK205.out⟩,⟨by (with_reducible repeat (first|refine bN ?_ _|refine bD ?_|refine bA ?_ _));exact BK208.out⟩,⟨by repeat (first|(with_reducible first|exact HB.out|apply lA|apply lN|apply lD|refine lS ?_ GE196.out|refine lS ?_ GE197.out|refine lS ?_ GE205.out|refine lS ?_ GE208.out)|exact HB.out)⟩⟩
        ·rw [if_neg c55] at H
         exact absurd H (by simp)
       ·rw [if_neg c54] at H
        have c54b0 : decide (x13_2 < (l0_1.length : Int)) = false:=decide_eq_false c54
        clear c54
        by_cases c73 : (x11_2.length : Int) ≤ 2000
        ·rw [if_pos c73] at H
         have c73b0 : decide ((x11_2.length : Int) ≤ 2000) = true:=decide_eq_true c73
         have c73b1 : decide (x11_2.length ≤ 2000) = true:=decide_eq_true (by omega)
         clear c73
         simp only [Option.some.injEq,Prod.mk.injEq] at H
         obtain ⟨rfl,rfl,rfl⟩:=H
         have hnb74:=NB196_197.out
         have hnc74:=NB197_196.out
         have hnb75:=NB196_205.out
         have hnc75:=NB205_196.out
         have hnb76:=NB196_208.out
         have hnc76:=NB208_196.out
         obtain ⟨⟨hcz77_0,hcz77_1,hcz77_2⟩,hfz77_0,hfz77_1,hfz77_2⟩:=bC3 BK196.out
         obtain ⟨Ao78,co78,eo78⟩:=Kd.R_slice HO_11.out
         subst eo78
         have hnb79:=NB205_197.out
         have hnc79:=NB197_205.out
         have hnb80:=NB205_208.out
         have hnc80:=NB208_205.out
         obtain ⟨⟨hcz81_0,hcz81_1,hcz81_2⟩,hfz81_0,hfz81_1,hfz81_2⟩:=bC3 BK205.out
         have hnb82:=NB197_208.out
         have hnc82:=NB208_197.out
         obtain ⟨⟨hcz83_0,hcz83_1,hcz83_2⟩,hfz83_0,hfz83_1,hfz83_2⟩:=bC3 BK197.out
         go_wp2
         refine bodyPost_ret (results_cell_row rfl _ _ gb197 35 #[.slice Ao14 t198.length co14,.slice Ao78 x11_2.length co78,.string t204] (0,0) _ rfl (by (with_reducible repeat (first|refine bN ?_ _|refine bD ?_|refine bA ?_ _));refine blk_put (cs:=#[.slice Ao14 t198.length co14,.slice Ao78 x11_2.length co78,.string (⟨#[]⟩ : ByteArray)]) ?_ 2 _ rfl;(with_reducible repeat (first|refine bN ?_ _|refine bD ?_|refine bA ?_ _));refine blk_put (cs:=#[.slice Ao14 t198.length co14,.slice none 0 0,.string (⟨#[]⟩ : ByteArray)]) ?_ 1 _ rfl;(with_reducible repeat (first|refine bN ?_ _|refine bD ?_|refine bA ?_ _));refine blk_put (cs:=#[.slice none 0 0,.slice none 0 0,.string (⟨#[]⟩ : ByteArray)]) ?_ 0 _ rfl;(with_reducible repeat (first|refine bN ?_ _|refine bD ?_|refine bA ?_ _));refine blk_far ?_ NB197_205.out _;(with_reducible repeat (first|refine bN ?_ _|refine bD ?_|refine bA ?_ _));exact BK197.out) Try.underlying35 rfl (by kernel_rfl)) rfl ?_
         exact ⟨_,_,by first|rfl|(simp [errW_none,errW_some] <;> rfl)|(simp [*,errW_none,errW_some] <;> rfl),by (with_reducible repeat (first|apply rA|apply rN|apply rD));exact Kd.R_mono (rF (rF (rF (rF (rY (rY HO_206000.out BK205.out (by decide)) BK197.out (by decide)) (fun _ hk => hk.1.2) _) (fun _ hk => hk.2) _) (fun _ hk => hk.2) _) (fun _ hk => hk.2) _) (fun _ hk => trivial),by (with_reducible repeat (first|apply rA|apply rN|apply rD));exact Kd.R_mono (rF (rF (rF (rF (rY (rY HO_11.out BK205.out (by decide)) BK197.out (by decide)) (fun _ hk => hk.1.2) _) (fun _ hk => hk.2) _) (fun _ hk => hk.2) _) (fun _ hk => hk.2) _) (fun _ hk => trivial),by repeat (first|(with_reducible first|exact HB.out|apply lA|apply lN|apply lD|refine lS ?_ GE196.out|refine lS ?_ GE197.out|refine lS ?_ GE205.out|refine lS ?_ GE208.out)|exact HB.out)⟩
        ·rw [if_neg c73] at H
         have c73b0 : decide ((x11_2.length : Int) ≤ 2000) = false:=decide_eq_false c73
         have c73b1 : decide (x11_2.length ≤ 2000) = false:=decide_eq_false (by omega)
         clear c73
         simp only [Option.some.injEq,Prod.mk.injEq] at H
         obtain ⟨rfl,rfl,rfl⟩:=H
         have hnb84:=NB196_197.out
         have hnc84:=NB197_196.out
         have hnb85:=NB196_205.out
         have hnc85:=NB205_196.out
         have hnb86:=NB196_208.out
         have hnc86:=NB208_196.out
         obtain ⟨⟨hcz87_0,hcz87_1,hcz87_2⟩,hfz87_0,hfz87_1,hfz87_2⟩:=bC3 BK196.out
         obtain ⟨Ao88,co88,eo88⟩:=Kd.R_slice HO_11.out
         subst eo88
         have hnb89:=NB205_197.out
         have hnc89:=NB197_205.out
         have hnb90:=NB205_208.out
         have hnc90:=NB208_205.out
         obtain ⟨⟨hcz91_0,hcz91_1,hcz91_2⟩,hfz91_0,hfz91_1,hfz91_2⟩:=bC3 BK205.out
         have hnb92:=NB197_208.out
         have hnc92:=NB208_197.out
         obtain ⟨⟨hcz93_0,hcz93_1,hcz93_2⟩,hfz93_0,hfz93_1,hfz93_2⟩:=bC3 BK197.out
         go_wp2
         refine bodyPost_ret (results_cell_row rfl _ _ gb197 35 #[.slice Ao14 t198.length co14,.slice Ao18 t201.length co18,.string t204] (0,0) _ rfl (by (with_reducible repeat (first|refine bN ?_ _|refine bD ?_|refine bA ?_ _));refine blk_put (cs:=#[.slice Ao14 t198.length co14,.slice Ao18 t201.length co18,.string (⟨#[]⟩ : ByteArray)]) ?_ 2 _ rfl;(with_reducible repeat (first|refine bN ?_ _|refine bD ?_|refine bA ?_ _));refine blk_put (cs:=#[.slice Ao14 t198.length co14,.slice none 0 0,.string (⟨#[]⟩ : ByteArray)]) ?_ 1 _ rfl;(with_reducible repeat (first|refine bN ?_ _|refine bD ?_|refine bA ?_ _));refine blk_put (cs:=#[.slice none 0 0,.slice none 0 0,.string (⟨#[]⟩ : ByteArray)]) ?_ 0 _ rfl;(with_reducible repeat (first|refine bN ?_ _|refine bD ?_|refine bA ?_ _));exact BK197.out) Try.underlying35 rfl (by kernel_rfl)) rfl ?_
         exact ⟨_,_,by first|rfl|(simp [errW_none,errW_some] <;> rfl)|(simp [*,errW_none,errW_some] <;> rfl),by (with_reducible repeat (first|apply rA|apply rN|apply rD));exact Kd.R_mono (rF (rF (rF (rY HO_206000.out BK197.out (by decide)) (fun _ hk => hk.2) _) (fun _ hk => hk.2) _) (fun _ hk => hk.2) _) (fun _ hk => trivial),by (with_reducible repeat (first|apply rA|apply rN|apply rD));exact Kd.R_mono (rF (rF (rF (rY HO_206001.out BK197.out (by decide)) (fun _ hk => hk.2) _) (fun _ hk => hk.2) _) (fun _ hk => hk.2) _) (fun _ hk => trivial),by repeat (first|(with_reducible first|exact HB.out|apply lA|apply lN|apply lD|refine lS ?_ GE196.out|refine lS ?_ GE197.out|refine lS ?_ GE205.out|refine lS ?_ GE208.out)|exact HB.out)⟩
    ·rw [if_neg c45] at H
     exact absurd H (by simp)

end Go.Proofs.Ytekngkljphlliaa.QFnSays
