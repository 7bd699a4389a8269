-- A text of this session, made by wip/own_print.py (the kit's print with additions of ours).
import Derived.Test.YtekngkljphlliaaQFnDumpsx0
import Derived.Test.YtekngkljphlliaaQFnDumpsx1
import Derived.Test.YtekngkljphlliaaQFnDumpsx2
namespace Go.Proofs.Ytekngkljphlliaa.QFnDumps
open Go.RowKit Go.Proofs.YtekngkljphlliaaW.PrintWords Go.Proofs.YtekngkljphlliaaW.PrintLast Go.Proofs.YtekngkljphlliaaW.PrintMore
attribute [local go_sem] max2_int min2_int max_two min_two max_three min_three max_four min_four   -- for this text's walks alone
set_option linter.unusedVariables false
set_option linter.unusedSimpArgs false
open Bool renaming true → bT, false → bf
open Go.Proofs.YtekngkljphlliaaW.PrintWords.Kd renaming R_alloc → rA, R_drewN → rN, R_drew → rD, C_alloc → cA, C_drewN → cN, C_drew → cD, R_far → rF, R_below → rB, R_lower → rL, R_lt → rT, R_base → rS, C_below → cB, R_types → rY, R_elder' → rE, R_reads' → rR, R_new' → rW
open Go.Proofs.YtekngkljphlliaaW.PrintWords renaming blk_drewN → bN, blk_drew → bD, blk_alloc → bA, below_set → lS, pw_below_drewN → lN, below_drew1 → lD, below_alloc → lA, blk_cell → bC, blk_below → bB, below_size → lZ, below_step → lP, blk_lt → bL, blk_frozen → bF
open Go.Proofs.YtekngkljphlliaaW.PrintWords.Aside0 renaming mk → aM
theorem q_ia3 {α : Type} (l : List α) (i : Nat) (a : α) : l.toArray.setIfInBounds i a = (l.set i a).toArray := List.setIfInBounds_toArray ..
theorem q_cz3 {α : Type} (a b : α) (l : List α) : (a :: l).set 0 b = b :: l := rfl
theorem q_cs3 {α : Type} (a b : α) (l : List α) (n : Nat) : (a :: l).set (n + 1) b = a :: l.set n b := rfl

/-! ### spec_SetCell: function 39 -/
mutual
def spec_SetCell.l0 : Nat → List (S39) → Int → List (S59) → List (S39) → ByteArray → List (S59) → List (S39) → ByteArray → ByteArray → ByteArray → ByteArray → Option ((List (S59)) × (List (S39)) × ByteArray)
 | 0, _, _, _, _, _, _, _, _, _, _, _ => none
 | k + 1, x11, x12, x180000, x180001, x180002, x189000, x189001, x189002, x192000, x192001, x192002 => if x12 < (x180001.length : Int) then (if 0 ≤ x12 then ((spec_l08Ahead.f ((rd_T39 x180001 x12).f0) ((rd_T39 x180001 x12).f1) ((rd_T39 x180001 x12).f2) x192000 x192001 x192002).bind fun t196 => (if t196 = true then (if x11.length < 2932031007402 then (spec_SetCell.l0 k (x11 ++ [(⟨(rd_T39 x180001 x12).f0, (rd_T39 x180001 x12).f1, (rd_T39 x180001 x12).f2⟩ : S39)]) (wrap64 (x12 + 1)) x180000 x180001 x180002 x189000 x189001 x189002 x192000 x192001 x192002) else (none)) else (spec_SetCell.l0 k x11 (wrap64 (x12 + 1)) x180000 x180001 x180002 x189000 x189001 x189002 x192000 x192001 x192002))) else (none)) else (if x11.length < 2932031007402 then (spec_SetCell.l1 k (x11 ++ [(⟨x192000, x192001, x192002⟩ : S39)]) 0 x180000 x180001 x180002 x189000 x189001 x189002 x192000 x192001 x192002) else (none))
def spec_SetCell.l1 : Nat → List (S39) → Int → List (S59) → List (S39) → ByteArray → List (S59) → List (S39) → ByteArray → ByteArray → ByteArray → ByteArray → Option ((List (S59)) × (List (S39)) × ByteArray)
 | 0, _, _, _, _, _, _, _, _, _, _, _ => none
 | k + 1, x11, x13, x180000, x180001, x180002, x189000, x189001, x189002, x192000, x192001, x192002 => if x13 < (x180001.length : Int) then (if 0 ≤ x13 then ((spec_l08Ahead.f x192000 x192001 x192002 ((rd_T39 x180001 x13).f0) ((rd_T39 x180001 x13).f1) ((rd_T39 x180001 x13).f2)).bind fun t205 => (if t205 = true then (if x11.length < 2932031007402 then (spec_SetCell.l1 k (x11 ++ [(⟨(rd_T39 x180001 x13).f0, (rd_T39 x180001 x13).f1, (rd_T39 x180001 x13).f2⟩ : S39)]) (wrap64 (x13 + 1)) x180000 x180001 x180002 x189000 x189001 x189002 x192000 x192001 x192002) else (none)) else (spec_SetCell.l1 k x11 (wrap64 (x13 + 1)) x180000 x180001 x180002 x189000 x189001 x189002 x192000 x192001 x192002))) else (none)) else (if (x11.length : Int) ≤ 2000 then (some (x189000, x11, x189002)) else (some (x189000, x189001, x189002)))
end
def spec_SetCell.f (k : Nat) (l0_0 : List (S59)) (l0_1 : List (S39)) (a0_2 : ByteArray) (a1 : ByteArray) (a2 : ByteArray) (a3 : ByteArray) : Option ((List (S59)) × (List (S39)) × ByteArray) := (spec_l08Copy.f l0_0 l0_1 a0_2).bind fun bt181 => ((spec_Cut.f a2).bind fun t189 => ((spec_Cut.f a3).bind fun t190 => (spec_SetCell.l0 k (([] : List (S39))) 0 l0_0 l0_1 a0_2 bt181.1 bt181.2.1 bt181.2.2 a1 t189 t190)))
theorem spec_SetCell.mono_l : ∀ k, (∀ y0 y1 y2 y3 y4 y5 y6 y7 y8 y9 y10, LeO (spec_SetCell.l0 k y0 y1 y2 y3 y4 y5 y6 y7 y8 y9 y10) (spec_SetCell.l0 (k + 1) y0 y1 y2 y3 y4 y5 y6 y7 y8 y9 y10)) ∧ (∀ y0 y1 y2 y3 y4 y5 y6 y7 y8 y9 y10, LeO (spec_SetCell.l1 k y0 y1 y2 y3 y4 y5 y6 y7 y8 y9 y10) (spec_SetCell.l1 (k + 1) y0 y1 y2 y3 y4 y5 y6 y7 y8 y9 y10))
 | 0 => ⟨fun _ _ _ _ _ _ _ _ _ _ _ r h => by simp [spec_SetCell.l0] at h, fun _ _ _ _ _ _ _ _ _ _ _ r h => by simp [spec_SetCell.l1] at h⟩
 | k + 1 => by
  obtain ⟨ih0, ih1⟩ := spec_SetCell.mono_l k
  refine ⟨?_, ?_⟩
  ·intro y0 y1 y2 y3 y4 y5 y6 y7 y8 y9 y10
   unfold spec_SetCell.l0
   repeat' first
   | (with_reducible exact ih0 _ _ _ _ _ _ _ _ _ _ _)
   | (with_reducible exact ih1 _ _ _ _ _ _ _ _ _ _ _)
   | (with_reducible exact LeO.refl _)
   | (with_reducible exact LeO.none _)
   | (with_reducible refine LeO.ite ?_ ?_)
   | (with_reducible refine LeO.bind ?_ (fun _ => ?_))
   | exact ih0 _ _ _ _ _ _ _ _ _ _ _
   | exact ih1 _ _ _ _ _ _ _ _ _ _ _
   | exact LeO.none _
   | refine LeO.ite ?_ ?_
   | refine LeO.bind ?_ (fun _ => ?_)
  ·intro y0 y1 y2 y3 y4 y5 y6 y7 y8 y9 y10
   unfold spec_SetCell.l1
   repeat' first
   | (with_reducible exact ih0 _ _ _ _ _ _ _ _ _ _ _)
   | (with_reducible exact ih1 _ _ _ _ _ _ _ _ _ _ _)
   | (with_reducible exact LeO.refl _)
   | (with_reducible exact LeO.none _)
   | (with_reducible refine LeO.ite ?_ ?_)
   | (with_reducible refine LeO.bind ?_ (fun _ => ?_))
   | exact ih0 _ _ _ _ _ _ _ _ _ _ _
   | exact ih1 _ _ _ _ _ _ _ _ _ _ _
   | exact LeO.none _
   | refine LeO.ite ?_ ?_
   | refine LeO.bind ?_ (fun _ => ?_)
theorem spec_SetCell.mono : ∀ a0 a1 a2 a3 a4 a5 k, LeO (spec_SetCell.f k a0 a1 a2 a3 a4 a5) (spec_SetCell.f (k + 1) a0 a1 a2 a3 a4 a5) := by
 intro a0 a1 a2 a3 a4 a5 k
 obtain ⟨ih0, ih1⟩ := spec_SetCell.mono_l k
 unfold spec_SetCell.f
 repeat' first
   | (with_reducible exact ih0 _ _ _ _ _ _ _ _ _ _ _)
   | (with_reducible exact ih1 _ _ _ _ _ _ _ _ _ _ _)
   | (with_reducible exact LeO.refl _)
   | (with_reducible exact LeO.none _)
   | (with_reducible refine LeO.ite ?_ ?_)
   | (with_reducible refine LeO.bind ?_ (fun _ => ?_))
   | exact ih0 _ _ _ _ _ _ _ _ _ _ _
   | exact ih1 _ _ _ _ _ _ _ _ _ _ _
   | exact LeO.none _
   | refine LeO.ite ?_ ?_
   | refine LeO.bind ?_ (fun _ => ?_)
set_option maxHeartbeats 8000000 in
set_option maxRecDepth 100000 in
theorem spec_SetCell.calls (k : Nat) (A0_0 : Option Addr) (c0_0 : Nat) (l0_0 : List (S59)) (A0_1 : Option Addr) (c0_1 : Nat) (l0_1 : List (S39)) (a0_2 : ByteArray) (a1 : ByteArray) (a2 : ByteArray) (a3 : ByteArray) (r1 : List (S59)) (r2 : List (S39)) (r3 : ByteArray) (w : World) (hr0_0 : Kd.C k59 w A0_0 l0_0.length l0_0) (hc0_0 : l0_0.length ≤ c0_0) (hr0_1 : Kd.C k39 w A0_1 l0_1.length l0_1) (hc0_1 : l0_1.length ≤ c0_1) (h : spec_SetCell.f k l0_0 l0_1 a0_2 a1 a2 a3 = some (r1,r2,r3)) :
  Calls Try.prog 39 #[.agg #[.slice A0_0 l0_0.length c0_0,.slice A0_1 l0_1.length c0_1,.string a0_2],.string a1,.string a2,.string a3] w fun e w' => ∃ v0_ v1_ : Value,e = .returned (.agg #[v0_,v1_,.string r3]) ∧ Kd.R k59 59 w' w.heap.size (fun _ => True) v0_ r1 ∧ Kd.R k39 39 w' w.heap.size (fun _ => True) v1_ r2 ∧ Below w.heap.size w w':=by
 have hu35:=Try.underlying35
 have hu39:=Try.underlying39
 have HR0_0:=aM hr0_0
 have HC0_0:=aM hc0_0
 clear hr0_0 hc0_0
 have HR0_1:=aM hr0_1
 have HC0_1:=aM hc0_1
 clear hr0_1 hc0_1
 have HB:=aM (Below.refl w.heap.size w)
 have H : ((spec_l08Copy.f l0_0 l0_1 a0_2).bind fun bt181 => ((spec_Cut.f a2).bind fun t189 => ((spec_Cut.f a3).bind fun t190 => (spec_SetCell.l0 k (([] : List (S39))) 0 l0_0 l0_1 a0_2 bt181.1 bt181.2.1 bt181.2.2 a1 t189 t190)))) = some (r1,r2,r3):=h
 clear h
 replace H:=Option.bind_eq_some_iff.mp H
 obtain ⟨⟨t181,t184,t187⟩,A50,H⟩:=H
 replace H : ((spec_Cut.f a2).bind fun t189 => ((spec_Cut.f a3).bind fun t190 => (spec_SetCell.l0 k (([] : List (S39))) 0 l0_0 l0_1 a0_2 t181 t184 t187 a1 t189 t190))) = some (r1,r2,r3):=H
 have A5:=aM A50
 clear A50
 replace H:=Option.bind_eq_some_iff.mp H
 obtain ⟨t189,A60,H⟩:=H
 replace H : ((spec_Cut.f a3).bind fun t190 => (spec_SetCell.l0 k (([] : List (S39))) 0 l0_0 l0_1 a0_2 t181 t184 t187 a1 t189 t190)) = some (r1,r2,r3):=H
 have A6:=aM A60
 clear A60
 replace H:=Option.bind_eq_some_iff.mp H
 obtain ⟨t190,A70,H⟩:=H
 replace H : (spec_SetCell.l0 k (([] : List (S39))) 0 l0_0 l0_1 a0_2 t181 t184 t187 a1 t189 t190) = some (r1,r2,r3):=H
 have A7:=aM A70
 clear A70
 obtain ⟨y192,hy192⟩ : ∃ y_ : List (S39),y_ = (([] : List (S39))):=⟨_,rfl⟩
 replace H : (spec_SetCell.l0 k y192 0 l0_0 l0_1 a0_2 t181 t184 t187 a1 t189 t190) = some (r1,r2,r3):=by first|(rw [hy192];with_reducible exact H)|(have H2_:=(Option.bind_some _ _).symm.trans H;rw [hy192];with_reducible exact H2_)|(have H2_:=(Option.bind_some _ _).symm.trans H;with_reducible exact H2_)|with_reducible exact H|(rw [hy192];exact H)|exact H
 have Ny192:=aM hy192
 clear hy192
 have H':=aM H
 clear H
 go_enter Try.func39,Try.ntmps39
 go_wp2_with (first|((with_reducible refine gate_dst (N:=4) rfl ?_);refine box_event ?hg (N:=4) ?hd (cs:=#[.slice A0_0 l0_0.length c0_0,.slice A0_1 l0_1.length c0_1,.string a0_2]) (t:=35) ?hr ?_;(case hd => rfl);(case hg => rfl);(case hr => first|(go_simp;done)|(go_simp;rfl));intro gb179 hg w8 hbox hb;have n0_:=aM (lQ HB.out hb);have n1_:=aM (hbox);have n2_:=aM ((sQ hg HB.out : w.heap.size ≤ gb179));have n3_:=n2_;clear HB;have HB:=n0_;have BK179:=n1_;have GW179:=n2_;have GE179:=n3_;clear n0_ n1_ n2_ n3_ hb hbox hg)|((with_reducible refine gate_dst (N:=8) rfl ?_);refine box_event ?hg (N:=8) ?hd (cs:=#[.slice none 0 0,.slice none 0 0,.string (⟨#[]⟩ : ByteArray)]) (t:=35) ?hr ?_;(case hd => rfl);(case hg => rfl);(case hr => first|(go_simp;done)|(go_simp;rfl));intro gb180 hg w9 hbox hb;have n0_:=aM (bH BK179.out hb);have n1_:=aM (lQ HB.out hb);have n2_:=aM (hbox);have n3_:=aM ((sQ hg HB.out : w.heap.size ≤ gb180));have n4_:=n3_;have n5_:=aM ((nL hg BK179.out : gb179 ≠ gb180));have n6_:=aM ((nG hg BK179.out : gb180 ≠ gb179));clear BK179 HB;have BK179:=n0_;have HB:=n1_;have BK180:=n2_;have GW180:=n3_;have GE180:=n4_;have NB179_180:=n5_;have NB180_179:=n6_;clear n0_ n1_ n2_ n3_ n4_ n5_ n6_ hb hbox hg;have hnb10:=NB179_180.out;have hnc10:=NB180_179.out;obtain ⟨⟨hcz11_0,hcz11_1,hcz11_2⟩,hfz11_0,hfz11_1,hfz11_2⟩:=bC3 BK179.out)|((with_reducible refine gate_callee (f:=35) rfl ?_);refine goesL_ (some 15) rfl rfl Try.func35 (by kernel_rfl) rfl #[.agg #[.slice A0_0 l0_0.length c0_0,.slice A0_1 l0_1.length c0_1,.string a0_2]] rfl (by (try simp only [List.map_toArray,List.map_cons,List.map_nil]);first|done|rfl|(simp only [List.length_drop,List.length_take];rfl)) ?_;(with_reducible refine (spec_l08Copy.calls _ _ l0_0 _ _ l0_1 a0_2 t181 t184 t187 _ ?side1 ?side2 ?side3 ?side4 A5.out).mono ?_);(case side1 => repeat (first|exact (cB HR0_0.out HB.out)|(with_reducible first|refine cA ?_ _|refine cN ?_ _|refine cD ?_)));(case side2 => exact HC0_0.out);(case side3 => repeat (first|exact (cB HR0_1.out HB.out)|(with_reducible first|refine cA ?_ _|refine cN ?_ _|refine cD ?_)));(case side4 => exact HC0_1.out);rintro e w12 ⟨v182,v185,rfl,ho0,ho1,hb⟩;refine ⟨_,rfl,?_⟩;have n0_:=aM (rL ho0 (lZ (by repeat (first|(with_reducible first|exact HB.out|apply lA|apply lN|apply lD|refine lS ?_ GE179.out|refine lS ?_ GE180.out)|exact HB.out))));have n1_:=aM (rL ho1 (lZ (by repeat (first|(with_reducible first|exact HB.out|apply lA|apply lN|apply lD|refine lS ?_ GE179.out|refine lS ?_ GE180.out)|exact HB.out))));have n2_:=aM (bH BK179.out hb);have n3_:=aM (bH BK180.out hb);have n4_:=aM (lQ HB.out hb);clear BK179 BK180 HB;have HO183:=n0_;have HO186:=n1_;have BK179:=n2_;have BK180:=n3_;have HB:=n4_;clear n0_ n1_ n2_ n3_ n4_;(try clear hb);(try clear hb2);(try clear hk);(try clear hi);(try clear ho0);(try clear ho1))|((with_reducible refine gate_dst (N:=9) rfl ?_);refine box_event ?hg (N:=9) ?hd (cs:=#[.slice none 0 0,.slice none 0 0,.string (⟨#[]⟩ : ByteArray)]) (t:=35) ?hr ?_;(case hd => rfl);(case hg => rfl);(case hr => first|(go_simp;done)|(go_simp;rfl));intro gb188 hg w13 hbox hb;have n0_:=aM (rH HO183.out hb);have n1_:=aM (rH HO186.out hb);have n2_:=aM (bH BK179.out hb);have n3_:=aM (bH BK180.out hb);have n4_:=aM (lQ HB.out hb);have n5_:=aM (hbox);have n6_:=aM ((sQ hg HB.out : w.heap.size ≤ gb188));have n7_:=n6_;have n8_:=aM ((nL hg BK179.out : gb179 ≠ gb188));have n9_:=aM ((nG hg BK179.out : gb188 ≠ gb179));have n10_:=aM ((nL hg BK180.out : gb180 ≠ gb188));have n11_:=aM ((nG hg BK180.out : gb188 ≠ gb180));clear HO183 HO186 BK179 BK180 HB;have HO183:=n0_;have HO186:=n1_;have BK179:=n2_;have BK180:=n3_;have HB:=n4_;have BK188:=n5_;have GW188:=n6_;have GE188:=n7_;have NB179_188:=n8_;have NB188_179:=n9_;have NB180_188:=n10_;have NB188_180:=n11_;clear n0_ n1_ n2_ n3_ n4_ n5_ n6_ n7_ n8_ n9_ n10_ n11_ hb hbox hg;obtain ⟨Ao14,co14,eo14⟩:=Kd.R_slice HO183.out;subst eo14;have hnb15:=NB188_179.out;have hnc15:=NB179_188.out;have hnb16:=NB188_180.out;have hnc16:=NB180_188.out;obtain ⟨⟨hcz17_0,hcz17_1,hcz17_2⟩,hfz17_0,hfz17_1,hfz17_2⟩:=bC3 BK188.out;obtain ⟨Ao18,co18,eo18⟩:=Kd.R_slice HO186.out;subst eo18)|((with_reducible refine gate_callee (f:=45) rfl ?_);refine goesL_ (some 18) rfl rfl Try.func45 (by kernel_rfl) rfl #[.string a2] rfl (by (try simp only [List.map_toArray,List.map_cons,List.map_nil]);first|done|rfl|(simp only [List.length_drop,List.length_take];rfl)) ?_;(with_reducible refine (spec_Cut.calls a2 t189 _ A6.out).mono ?_);rintro e w' ⟨rfl,⟨nd,rfl⟩⟩;refine ⟨_,rfl,?_⟩)|((with_reducible refine gate_callee (f:=45) rfl ?_);refine goesL_ (some 20) rfl rfl Try.func45 (by kernel_rfl) rfl #[.string a3] rfl (by (try simp only [List.map_toArray,List.map_cons,List.map_nil]);first|done|rfl|(simp only [List.length_drop,List.length_take];rfl)) ?_;(with_reducible refine (spec_Cut.calls a3 t190 _ A7.out).mono ?_);rintro e w' ⟨rfl,⟨nd,rfl⟩⟩;refine ⟨_,rfl,?_⟩)|((with_reducible refine gate_dst (N:=10) rfl ?_);refine box_event ?hg (N:=10) ?hd (cs:=#[.string (⟨#[]⟩ : ByteArray),.string (⟨#[]⟩ : ByteArray),.string (⟨#[]⟩ : ByteArray)]) (t:=39) ?hr ?_;(case hd => rfl);(case hg => rfl);(case hr => first|(go_simp;done)|(go_simp;rfl));intro gb191 hg w19 hbox hb;have n0_:=aM (rB (by (with_reducible repeat (first|apply rA|apply rN|apply rD));exact (Kd.R_mono (rF (rF (rF (rY HO183.out BK188.out (by decide)) (fun _ hk => hk.2) _) (fun _ hk => hk.2) _) (fun _ hk => hk.2) _) (fun _ h_ => h_.1))) hb);have n1_:=aM (rB (Kd.R_elderB (by (with_reducible repeat (first|apply rA|apply rN|apply rD));exact (Kd.R_mono (rF (rF (rF (rY HO186.out BK188.out (by decide)) (fun _ hk => hk.2) _) (fun _ hk => hk.2) _) (fun _ hk => hk.2) _) (fun _ h_ => h_.1))) gb191 (Nat.le_of_eq hg.symm)) hb);have n2_:=aM (bB (g:=gb179) (o:=.cells #[.slice A0_0 l0_0.length c0_0,.slice A0_1 l0_1.length c0_1,.string a0_2] 35 (0,0)) (by (with_reducible repeat (first|refine bN ?_ _|refine bD ?_|refine bA ?_ _));refine blk_far ?_ NB179_188.out _;(with_reducible repeat (first|refine bN ?_ _|refine bD ?_|refine bA ?_ _));refine blk_far ?_ NB179_188.out _;(with_reducible repeat (first|refine bN ?_ _|refine bD ?_|refine bA ?_ _));refine blk_far ?_ NB179_188.out _;(with_reducible repeat (first|refine bN ?_ _|refine bD ?_|refine bA ?_ _));exact BK179.out) hb);have n3_:=aM (bB (g:=gb180) (o:=.cells #[.slice none 0 0,.slice none 0 0,.string (⟨#[]⟩ : ByteArray)] 35 (0,0)) (by (with_reducible repeat (first|refine bN ?_ _|refine bD ?_|refine bA ?_ _));refine blk_far ?_ NB180_188.out _;(with_reducible repeat (first|refine bN ?_ _|refine bD ?_|refine bA ?_ _));refine blk_far ?_ NB180_188.out _;(with_reducible repeat (first|refine bN ?_ _|refine bD ?_|refine bA ?_ _));refine blk_far ?_ NB180_188.out _;(with_reducible repeat (first|refine bN ?_ _|refine bD ?_|refine bA ?_ _));exact BK180.out) hb);have n4_:=aM (bB (g:=gb188) (o:=.cells #[.slice Ao14 t181.length co14,.slice Ao18 t184.length co18,.string t187] 35 (0,0)) (by (with_reducible repeat (first|refine bN ?_ _|refine bD ?_|refine bA ?_ _));refine blk_put (cs:=#[.slice Ao14 t181.length co14,.slice Ao18 t184.length co18,.string (⟨#[]⟩ : ByteArray)]) ?_ 2 _ rfl;(with_reducible repeat (first|refine bN ?_ _|refine bD ?_|refine bA ?_ _));refine blk_put (cs:=#[.slice Ao14 t181.length co14,.slice none 0 0,.string (⟨#[]⟩ : ByteArray)]) ?_ 1 _ rfl;(with_reducible repeat (first|refine bN ?_ _|refine bD ?_|refine bA ?_ _));refine blk_put (cs:=#[.slice none 0 0,.slice none 0 0,.string (⟨#[]⟩ : ByteArray)]) ?_ 0 _ rfl;(with_reducible repeat (first|refine bN ?_ _|refine bD ?_|refine bA ?_ _));exact BK188.out) hb);have n5_:=aM (lQ HB.out hb);have n6_:=aM (hbox);have n7_:=aM ((sQ hg HB.out : w.heap.size ≤ gb191));have n8_:=n7_;have n9_:=aM ((nL hg BK179.out : gb179 ≠ gb191));have n10_:=aM ((nG hg BK179.out : gb191 ≠ gb179));have n11_:=aM ((nL hg BK180.out : gb180 ≠ gb191));have n12_:=aM ((nG hg BK180.out : gb191 ≠ gb180));have n13_:=aM ((nL hg BK188.out : gb188 ≠ gb191));have n14_:=aM ((nG hg BK188.out : gb191 ≠ gb188));clear HO183 HO186 BK179 BK180 BK188 HB;have HO183:=n0_;have HO186:=n1_;have BK179:=n2_;have BK180:=n3_;have BK188:=n4_;have HB:=n5_;have BK191:=n6_;have GW191:=n7_;have GE191:=n8_;have NB179_191:=n9_;have NB191_179:=n10_;have NB180_191:=n11_;have NB191_180:=n12_;have NB188_191:=n13_;have NB191_188:=n14_;clear n0_ n1_ n2_ n3_ n4_ n5_ n6_ n7_ n8_ n9_ n10_ n11_ n12_ n13_ n14_ hb hbox hg;have hnb20:=NB191_179.out;have hnc20:=NB179_191.out;have hnb21:=NB191_180.out;have hnc21:=NB180_191.out;have hnb22:=NB191_188.out;have hnc22:=NB188_191.out;obtain ⟨⟨hcz23_0,hcz23_1,hcz23_2⟩,hfz23_0,hfz23_1,hfz23_2⟩:=bC3 BK191.out)|((with_reducible refine gate_dst (N:=22) rfl ?_);refine Kd.R_lit k39 _ 39 ?hg (N:=22) ?hd (xs:=([] : List (S39))) (inner:=[]) (ok:=fun _ => True) (okp:=fun _ => True) ?hr ?hp (fun _ hk => hk) trivial (Below.refl _ _) (Nat.le_refl _) (by simp) ?_;(case hd => rfl);(case hg => rfl);(case hr => first|(go_simp;done)|(go_simp;rfl));(case hp => exact (Reps.none _ _));intro v193 w24 ho25 hb hg_ hnew_;clear hg_ hnew_;(first|rw [← Ny192.out] at ho25|(simp only [Int.reduceToNat] at ho25;rw [← Ny192.out] at ho25));have n0_:=aM (rB (by (with_reducible repeat (first|apply rA|apply rN|apply rD));exact (Kd.R_mono (rF (rF (rF (rY HO183.out BK191.out (by decide)) (fun _ hk => hk.2) _) (fun _ hk => hk.2) _) (fun _ hk => hk.2) _) (fun _ h_ => h_.1))) hb);have n1_:=aM (rE (by (with_reducible repeat (first|apply rA|apply rN|apply rD));exact (Kd.R_mono (rF (rF (rF (Kd.R_mono HO186.out (fun k_ hk => (⟨hk,hk.2⟩ : _ ∧ k_ ≠ gb191))) (fun _ hk => hk.2) _) (fun _ hk => hk.2) _) (fun _ hk => hk.2) _) (fun _ h_ => h_.1))) (rS ho25) hb);have n2_:=aM (rL (Kd.R_newB (rW ho25 (rT (by (with_reducible repeat (first|apply rA|apply rN|apply rD));exact (Kd.R_mono (rF (rF (rF (Kd.R_mono HO186.out (fun k_ hk => (⟨hk,hk.2⟩ : _ ∧ k_ ≠ gb191))) (fun _ hk => hk.2) _) (fun _ hk => hk.2) _) (fun _ hk => hk.2) _) (fun _ h_ => h_.1))))) (g:=gb191) (o:=.cells #[.string a1,.string t189,.string t190] 39 (0,0)) (by (with_reducible repeat (first|refine bN ?_ _|refine bD ?_|refine bA ?_ _));refine blk_put (cs:=#[.string a1,.string t189,.string (⟨#[]⟩ : ByteArray)]) ?_ 2 _ rfl;(with_reducible repeat (first|refine bN ?_ _|refine bD ?_|refine bA ?_ _));refine blk_put (cs:=#[.string a1,.string (⟨#[]⟩ : ByteArray),.string (⟨#[]⟩ : ByteArray)]) ?_ 1 _ rfl;(with_reducible repeat (first|refine bN ?_ _|refine bD ?_|refine bA ?_ _));refine blk_put (cs:=#[.string (⟨#[]⟩ : ByteArray),.string (⟨#[]⟩ : ByteArray),.string (⟨#[]⟩ : ByteArray)]) ?_ 0 _ rfl;(with_reducible repeat (first|refine bN ?_ _|refine bD ?_|refine bA ?_ _));exact BK191.out)) (lZ (by repeat (first|(with_reducible first|exact HB.out|apply lA|apply lN|apply lD|refine lS ?_ GE179.out|refine lS ?_ GE180.out|refine lS ?_ GE188.out|refine lS ?_ GE191.out)|exact HB.out))));have n3_:=aM (bB (g:=gb179) (o:=.cells #[.slice A0_0 l0_0.length c0_0,.slice A0_1 l0_1.length c0_1,.string a0_2] 35 (0,0)) (by (with_reducible repeat (first|refine bN ?_ _|refine bD ?_|refine bA ?_ _));refine blk_far ?_ NB179_191.out _;(with_reducible repeat (first|refine bN ?_ _|refine bD ?_|refine bA ?_ _));refine blk_far ?_ NB179_191.out _;(with_reducible repeat (first|refine bN ?_ _|refine bD ?_|refine bA ?_ _));refine blk_far ?_ NB179_191.out _;(with_reducible repeat (first|refine bN ?_ _|refine bD ?_|refine bA ?_ _));exact BK179.out) hb);have n4_:=aM (bB (g:=gb180) (o:=.cells #[.slice none 0 0,.slice none 0 0,.string (⟨#[]⟩ : ByteArray)] 35 (0,0)) (by (with_reducible repeat (first|refine bN ?_ _|refine bD ?_|refine bA ?_ _));refine blk_far ?_ NB180_191.out _;(with_reducible repeat (first|refine bN ?_ _|refine bD ?_|refine bA ?_ _));refine blk_far ?_ NB180_191.out _;(with_reducible repeat (first|refine bN ?_ _|refine bD ?_|refine bA ?_ _));refine blk_far ?_ NB180_191.out _;(with_reducible repeat (first|refine bN ?_ _|refine bD ?_|refine bA ?_ _));exact BK180.out) hb);have n5_:=aM (bB (g:=gb188) (o:=.cells #[.slice Ao14 t181.length co14,.slice Ao18 t184.length co18,.string t187] 35 (0,0)) (by (with_reducible repeat (first|refine bN ?_ _|refine bD ?_|refine bA ?_ _));refine blk_far ?_ NB188_191.out _;(with_reducible repeat (first|refine bN ?_ _|refine bD ?_|refine bA ?_ _));refine blk_far ?_ NB188_191.out _;(with_reducible repeat (first|refine bN ?_ _|refine bD ?_|refine bA ?_ _));refine blk_far ?_ NB188_191.out _;(with_reducible repeat (first|refine bN ?_ _|refine bD ?_|refine bA ?_ _));exact BK188.out) hb);have n6_:=aM (bB (g:=gb191) (o:=.cells #[.string a1,.string t189,.string t190] 39 (0,0)) (by (with_reducible repeat (first|refine bN ?_ _|refine bD ?_|refine bA ?_ _));refine blk_put (cs:=#[.string a1,.string t189,.string (⟨#[]⟩ : ByteArray)]) ?_ 2 _ rfl;(with_reducible repeat (first|refine bN ?_ _|refine bD ?_|refine bA ?_ _));refine blk_put (cs:=#[.string a1,.string (⟨#[]⟩ : ByteArray),.string (⟨#[]⟩ : ByteArray)]) ?_ 1 _ rfl;(with_reducible repeat (first|refine bN ?_ _|refine bD ?_|refine bA ?_ _));refine blk_put (cs:=#[.string (⟨#[]⟩ : ByteArray),.string (⟨#[]⟩ : ByteArray),.string (⟨#[]⟩ : ByteArray)]) ?_ 0 _ rfl;(with_reducible repeat (first|refine bN ?_ _|refine bD ?_|refine bA ?_ _));exact BK191.out) hb);have n7_:=aM (lQ HB.out hb);clear HO183 HO186 BK179 BK180 BK188 BK191 HB;have HO183:=n0_;have HO186:=n1_;have HO194:=n2_;have BK179:=n3_;have BK180:=n4_;have BK188:=n5_;have BK191:=n6_;have HB:=n7_;clear n0_ n1_ n2_ n3_ n4_ n5_ n6_ n7_ hb ho25))
 go_loopg [11,12] k (fun kq v11 v12 w' => ∃ (x11_1 : List (S39)) (x12_1 : Int),v12 = .int .i64 x12_1 ∧ Aside0 (spec_SetCell.l0 kq x11_1 x12_1 l0_0 l0_1 a0_2 t181 t184 t187 a1 t189 t190 = some (r1,r2,r3)) ∧ Aside0 (kq ≤ k) ∧ Aside0 (Kd.R k39 39 w' w.heap.size (fun k_ => some k_ ≠ ((.slice Ao18 t184.length co18) : Value).ownBlock ∧ k_ ≠ gb191) v11 x11_1) ∧ Aside0 (Kd.R k59 59 w' w.heap.size (fun _ => True) (.slice Ao14 t181.length co14) t181) ∧ Aside0 (Kd.R k39 39 w' w.heap.size (fun k_ => some k_ ≠ (v11 : Value).ownBlock ∧ k_ ≠ gb191) (.slice Ao18 t184.length co18) t184) ∧ Aside0 (w'.heap[gb179]? = some (.cells #[(.slice A0_0 l0_0.length c0_0),(.slice A0_1 l0_1.length c0_1),.string a0_2] 35 (0,0))) ∧ Aside0 (w'.heap[gb180]? = some (.cells #[(.slice none 0 0),(.slice none 0 0),.string (⟨#[]⟩ : ByteArray)] 35 (0,0))) ∧ Aside0 (w'.heap[gb188]? = some (.cells #[(.slice Ao14 t181.length co14),(.slice Ao18 t184.length co18),.string t187] 35 (0,0))) ∧ Aside0 (w'.heap[gb191]? = some (.cells #[.string a1,.string t189,.string t190] 39 (0,0))) ∧ Aside0 (Below w.heap.size w w'))
 case atStart => exact ⟨(y192),(0),(by first|rfl|(simp;done)|(simp [*];done)),H',⟨Nat.le_refl _⟩,⟨by (with_reducible repeat (first|apply rA|apply rN|apply rD));exact Kd.R_mono HO194.out (fun _ hk => ⟨hk.1.2,hk.2⟩)⟩,⟨by (with_reducible repeat (first|apply rA|apply rN|apply rD));exact HO183.out⟩,⟨by (with_reducible repeat (first|apply rA|apply rN|apply rD));exact Kd.R_mono HO186.out (fun _ hk => ⟨hk.2,hk.1.2⟩)⟩,⟨by (with_reducible repeat (first|refine bN ?_ _|refine bD ?_|refine bA ?_ _));exact BK179.out⟩,⟨by (with_reducible repeat (first|refine bN ?_ _|refine bD ?_|refine bA ?_ _));exact BK180.out⟩,⟨by (with_reducible repeat (first|refine bN ?_ _|refine bD ?_|refine bA ?_ _));exact BK188.out⟩,⟨by (with_reducible repeat (first|refine bN ?_ _|refine bD ?_|refine bA ?_ _));exact BK191.out⟩,⟨by repeat (first|(with_reducible first|exact HB.out|apply lA|apply lN|apply lD|refine lS ?_ GE179.out|refine lS ?_ GE180.out|refine lS ?_ GE188.out|refine lS ?_ GE191.out)|exact HB.out)⟩⟩
 case round =>
  clear H'
  try clear c1
  try clear c2
  try clear p2
  try clear c3
  try clear c4
  try clear c10
  try clear c15
  try clear c16
  try clear c20
  try clear c21
  try clear c22
  try clear hcz11_0
  try clear hcz11_1
  try clear hcz11_2
  try clear hcz17_0
  try clear hcz17_1
  try clear hcz17_2
  try clear hcz23_0
  try clear hcz23_1
  try clear hcz23_2
  obtain ⟨x11_1,x12_1,rfl,HA,HK1,HO_11,HO_189000,HO_189001,BK179,BK180,BK188,BK191,HB⟩:=hrel
  cases gk with
  |zero => exact absurd HA.out (by simp [spec_SetCell.l0])
  |succ k1 =>
   have H:=HA.out
   clear HA
   simp only [spec_SetCell.l0] at H
   by_cases c26 : x12_1 < (l0_1.length : Int)
   ·rw [if_pos c26] at H
    have c26b0 : decide (x12_1 < (l0_1.length : Int)) = true:=decide_eq_true c26
    clear c26
    by_cases c27 : 0 ≤ x12_1
    ·rw [if_pos c27] at H
     have c27b0 : decide (0 ≤ x12_1) = true:=decide_eq_true c27
     clear c27
     replace H:=Option.bind_eq_some_iff.mp H
     obtain ⟨t196,A280,H⟩:=H
     replace H : (if t196 = true then (if x11_1.length < 2932031007402 then (spec_SetCell.l0 k1 (x11_1 ++ [(⟨(rd_T39 l0_1 x12_1).f0,(rd_T39 l0_1 x12_1).f1,(rd_T39 l0_1 x12_1).f2⟩ : S39)]) (wrap64 (x12_1 + 1)) l0_0 l0_1 a0_2 t181 t184 t187 a1 t189 t190) else (none)) else (spec_SetCell.l0 k1 x11_1 (wrap64 (x12_1 + 1)) l0_0 l0_1 a0_2 t181 t184 t187 a1 t189 t190)) = some (r1,r2,r3):=H
     have A28:=aM A280
     clear A280
     by_cases c29 : t196 = true
     ·subst c29
      have H1 : (if x11_1.length < 2932031007402 then (spec_SetCell.l0 k1 (x11_1 ++ [(⟨(rd_T39 l0_1 x12_1).f0,(rd_T39 l0_1 x12_1).f1,(rd_T39 l0_1 x12_1).f2⟩ : S39)]) (wrap64 (x12_1 + 1)) l0_0 l0_1 a0_2 t181 t184 t187 a1 t189 t190) else (none)) = some (r1,r2,r3):=by rw [if_pos rfl] at H;exact H
      clear H
      have H:=H1
      clear H1
      by_cases c30 : x11_1.length < 2932031007402
      ·rw [if_pos c30] at H
       have LMc30:=aM c30
       clear c30
       obtain ⟨y198,hy198⟩ : ∃ y_ : List (S39),y_ = (x11_1 ++ [(⟨(rd_T39 l0_1 x12_1).f0,(rd_T39 l0_1 x12_1).f1,(rd_T39 l0_1 x12_1).f2⟩ : S39)]):=⟨_,rfl⟩
       replace H : (spec_SetCell.l0 k1 y198 (wrap64 (x12_1 + 1)) l0_0 l0_1 a0_2 t181 t184 t187 a1 t189 t190) = some (r1,r2,r3):=by first|(rw [hy198];with_reducible exact H)|(have H2_:=(Option.bind_some _ _).symm.trans H;rw [hy198];with_reducible exact H2_)|(have H2_:=(Option.bind_some _ _).symm.trans H;with_reducible exact H2_)|with_reducible exact H|(rw [hy198];exact H)|exact H
       have Ny198:=aM hy198
       clear hy198
       have H':=aM H
       clear H
       have hnb31:=NB179_180.out
       have hnc31:=NB180_179.out
       have hnb32:=NB179_188.out
       have hnc32:=NB188_179.out
       have hnb33:=NB179_191.out
       have hnc33:=NB191_179.out
       obtain ⟨⟨hcz34_0,hcz34_1,hcz34_2⟩,hfz34_0,hfz34_1,hfz34_2⟩:=bC3 BK179.out
       try go_wp2
       have n0_:=aM (rD HO_11.out)
       have n1_:=aM (rD HO_189000.out)
       have n2_:=aM (rD HO_189001.out)
       have n3_:=aM (bD BK179.out)
       have n4_:=aM (bD BK180.out)
       have n5_:=aM (bD BK188.out)
       have n6_:=aM (bD BK191.out)
       have n7_:=aM (lD HB.out)
       clear HO_11
       clear HO_189000
       clear HO_189001
       clear BK179
       clear BK180
       clear BK188
       clear BK191
       clear HB
       have HO_11:=n0_
       have HO_189000:=n1_
       have HO_189001:=n2_
       have BK179:=n3_
       have BK180:=n4_
       have BK188:=n5_
       have BK191:=n6_
       have HB:=n7_
       clear n0_ n1_ n2_ n3_ n4_ n5_ n6_ n7_
       have p195 : 0 ≤ (x12_1 : Int):=of_decide_eq_true (by first|(with_reducible assumption)|assumption)
       have q195 : x12_1 < (l0_1.length : Int):=of_decide_eq_true (by first|(with_reducible assumption)|assumption)
       obtain ⟨ad195,e195,hx195_0,hx195_1,hx195_2⟩:=at_T39 HR0_1.out x12_1 p195 q195
       have hw195_2:=hx195_2
       have hw195_1:=hx195_1
       have hw195_0:=hx195_0
       cases e195
       replace hx195_0:=(HB.out.cell (World.block_lt_of_cell? w _ hx195_0)).trans hx195_0
       replace hx195_1:=(HB.out.cell (World.block_lt_of_cell? w _ hx195_1)).trans hx195_1
       replace hx195_2:=(HB.out.cell (World.block_lt_of_cell? w _ hx195_2)).trans hx195_2
       replace p195:=eq_true p195
       replace q195:=eq_true q195
       refine start_ (n:=7) (S:=fun w' => w'.cell? ⟨gb179,0,none⟩ = some (.slice A0_0 l0_0.length c0_0) ∧ w'.cell? ⟨gb179,1,none⟩ = some (.slice (some ad195) l0_1.length c0_1) ∧ w'.cell? ⟨gb179,2,none⟩ = some (.string a0_2) ∧ w'.cell? ⟨gb191,0,none⟩ = some (.string a1) ∧ w'.cell? ⟨gb191,1,none⟩ = some (.string t189) ∧ w'.cell? ⟨gb191,2,none⟩ = some (.string t190) ∧ w'.cell? (ad195.add ((x12_1).toNat * 3)) = some (.string ((rd_T39 l0_1 x12_1).f0)) ∧ w'.cell? ⟨(ad195.add ((x12_1).toNat * 3)).block,(ad195.add ((x12_1).toNat * 3)).off + 1,none⟩ = some (.string ((rd_T39 l0_1 x12_1).f1)) ∧ w'.cell? ⟨(ad195.add ((x12_1).toNat * 3)).block,(ad195.add ((x12_1).toNat * 3)).off + 2,none⟩ = some (.string ((rd_T39 l0_1 x12_1).f2))) (ds:=[]) #[bf,bf,bf,bf,bf,bf,bf] (by kernel_rfl) rfl rfl ⟨(bC BK179.out 0).trans rfl,(bC BK179.out 1).trans rfl,(bC BK179.out 2).trans rfl,(bC BK191.out 0).trans rfl,(bC BK191.out 1).trans rfl,(bC BK191.out 2).trans rfl,((HB.out.cell (World.block_lt_of_cell? w _ hw195_0)).trans hw195_0),((HB.out.cell (World.block_lt_of_cell? w _ hw195_1)).trans hw195_1),((HB.out.cell (World.block_lt_of_cell? w _ hw195_2)).trans hw195_2)⟩ (fun hHeld => ?_)
       generalize wr.drew = w35 at HO_11 HO_189000 HO_189001 BK179 BK180 BK188 BK191 HB hx195_0 hx195_1 hx195_2 hHeld ⊢
       refine pure_ (i:=0) (N:=some 30) (v:=?_) (a':=?_) #[bT,bf,bf,bf,bf,bf,bf] rfl rfl (by kernel_rfl) (fun _ _ _ h => h) (Or.inl ⟨by rfl,?_⟩) ?_ ?_
       rotate_left
       ·intro w';go_simp;with_reducible rfl
       rotate_left
       ·simp only [Act.put,q_ia3,q_cz3,q_cs3,i64_w,i32_w];rfl
       refine pure_ (i:=2) (N:=some 32) (v:=?_) (a':=?_) #[bT,bf,bT,bf,bf,bf,bf] rfl rfl (by kernel_rfl) (fun _ _ _ h => h) (Or.inl ⟨by rfl,?_⟩) ?_ ?_
       rotate_left
       ·intro w';go_simp;with_reducible rfl
       rotate_left
       ·simp only [Act.put,q_ia3,q_cz3,q_cs3,i64_w,i32_w];rfl
       refine take_ (i:=1) (N:=some 31) (v:=?_) (a':=?_) #[bT,bT,bT,bf,bf,bf,bf] rfl rfl (by kernel_rfl) (fun _ _ _ h => h) (Or.inl ⟨by rfl,?_⟩) hHeld ?_ ?_
       rotate_left
       ·rintro w' ⟨s0,s1,s2,s3,s4,s5,s6,s7,s8⟩
        go_simp
        with_reducible rfl
       rotate_left
       ·simp only [Act.put,q_ia3,q_cz3,q_cs3,i64_w,i32_w];rfl
       refine pure_ (i:=3) (N:=some 33) (v:=?_) (a':=?_) #[bT,bT,bT,bT,bf,bf,bf] rfl rfl (by kernel_rfl) (fun _ _ _ h => h) (Or.inl ⟨by rfl,?_⟩) ?_ ?_
       rotate_left
       ·intro w';go_simp;with_reducible rfl
       rotate_left
       ·simp only [Act.put,q_ia3,q_cz3,q_cs3,i64_w,i32_w];rfl
       refine take_ (i:=4) (N:=some 34) (v:=?_) (a':=?_) #[bT,bT,bT,bT,bT,bf,bf] rfl rfl (by kernel_rfl) (fun _ _ _ h => h) (Or.inl ⟨by rfl,?_⟩) hHeld ?_ ?_
       rotate_left
       ·rintro w' ⟨s0,s1,s2,s3,s4,s5,s6,s7,s8⟩
        go_simp
        with_reducible rfl
       rotate_left
       ·simp only [Act.put,q_ia3,q_cz3,q_cs3,i64_w,i32_w];rfl
       refine take_ (i:=5) (N:=some 35) (v:=?_) (a':=?_) #[bT,bT,bT,bT,bT,bT,bf] rfl rfl (by kernel_rfl) (fun _ _ _ h => h) (Or.inl ⟨by rfl,?_⟩) hHeld ?_ ?_
       rotate_left
       ·rintro w' ⟨s0,s1,s2,s3,s4,s5,s6,s7,s8⟩
        go_simp
        with_reducible rfl
       rotate_left
       ·simp only [Act.put,q_ia3,q_cz3,q_cs3,i64_w,i32_w];rfl
       refine one_ (i:=6) (N:=some 36) #[bT,bT,bT,bT,bT,bT,bT] rfl rfl (by kernel_rfl) (by decide) (fun K hK => ?_)
       refine goes_ Try.func46 (by kernel_rfl) rfl #[.agg #[.string ((rd_T39 l0_1 x12_1).f0),.string ((rd_T39 l0_1 x12_1).f1),.string ((rd_T39 l0_1 x12_1).f2)],.agg #[.string a1,.string t189,.string t190]] (by rfl) rfl rfl (by (try simp only [List.map_toArray,List.map_cons,List.map_nil]);first|done|rfl|(simp only [List.length_drop,List.length_take];rfl)) ?_
       with_reducible refine (spec_l08Ahead.calls ((rd_T39 l0_1 x12_1).f0) ((rd_T39 l0_1 x12_1).f1) ((rd_T39 l0_1 x12_1).f2) a1 t189 t190 true _ A28.out).mono ?_
       rintro e w36 ⟨rfl,hb⟩
       refine ⟨_,rfl,?_⟩
       have n0_:=aM (rH HO_11.out hb)
       have n1_:=aM (rH HO_189000.out hb)
       have n2_:=aM (rH HO_189001.out hb)
       have n3_:=aM (bH BK179.out hb)
       have n4_:=aM (bH BK180.out hb)
       have n5_:=aM (bH BK188.out hb)
       have n6_:=aM (bH BK191.out hb)
       have n7_:=aM (lQ HB.out hb)
       clear HO_11
       clear HO_189000
       clear HO_189001
       clear BK179
       clear BK180
       clear BK188
       clear BK191
       clear HB
       have HO_11:=n0_
       have HO_189000:=n1_
       have HO_189001:=n2_
       have BK179:=n3_
       have BK180:=n4_
       have BK188:=n5_
       have BK191:=n6_
       have HB:=n7_
       clear n0_ n1_ n2_ n3_ n4_ n5_ n6_ n7_
       (try clear hb)
       (try clear hb2)
       (try clear hk)
       (try clear hi)
       refine hK.out _ _ ⟨(bC BK179.out 0).trans rfl,(bC BK179.out 1).trans rfl,(bC BK179.out 2).trans rfl,(bC BK191.out 0).trans rfl,(bC BK191.out 1).trans rfl,(bC BK191.out 2).trans rfl,((HB.out.cell (World.block_lt_of_cell? w _ hw195_0)).trans hw195_0),((HB.out.cell (World.block_lt_of_cell? w _ hw195_1)).trans hw195_1),((HB.out.cell (World.block_lt_of_cell? w _ hw195_2)).trans hw195_2)⟩ (fun hHeld => ?_)
       clear hK K
       refine norm_ (a':=?_) ?_ ?_
       rotate_left
       ·show Act.put _ (some 36) _ = _
        simp only [Act.put,q_ia3,q_cz3,q_cs3,i64_w,i32_w]
        rfl
       refine done_ (by kernel_rfl) ?_
       obtain ⟨⟨hcz37_0,hcz37_1,hcz37_2⟩,hfz37_0,hfz37_1,hfz37_2⟩:=bC3 BK179.out
       have p197 : 0 ≤ (x12_1 : Int):=of_decide_eq_true (by first|(with_reducible assumption)|assumption)
       have q197 : x12_1 < (l0_1.length : Int):=of_decide_eq_true (by first|(with_reducible assumption)|assumption)
       obtain ⟨ad197,e197,hx197_0,hx197_1,hx197_2⟩:=at_T39 HR0_1.out x12_1 p197 q197
       obtain rfl : ad195 = ad197:=(by injection e197)
       replace hx197_0:=(HB.out.cell (World.block_lt_of_cell? w _ hx197_0)).trans hx197_0
       replace hx197_1:=(HB.out.cell (World.block_lt_of_cell? w _ hx197_1)).trans hx197_1
       replace hx197_2:=(HB.out.cell (World.block_lt_of_cell? w _ hx197_2)).trans hx197_2
       replace p197:=eq_true p197
       replace q197:=eq_true q197
       try go_wp2_with (first|((with_reducible refine gate_builtin (b:=.append) (xs:=#[.tmp 37,.tmp 43]) rfl ?_);at_builtin;refine Kd.R_append k39 (w0:=w) w.heap.size rfl (.tmp 37) (.tmp 43) 33 39 (.agg #[(.string ⟨#[]⟩),(.string ⟨#[]⟩),(.string ⟨#[]⟩)]) 48 rfl Try.underlying33 info39 rfl (by decide) (by omega) u11 x11_1 (⟨(rd_T39 l0_1 x12_1).f0,(rd_T39 l0_1 x12_1).f1,(rd_T39 l0_1 x12_1).f2⟩ : S39) [.string ((rd_T39 l0_1 x12_1).f0),.string ((rd_T39 l0_1 x12_1).f1),.string ((rd_T39 l0_1 x12_1).f2)] (fun k_ => some k_ ≠ (.slice Ao18 t184.length co18 : Value).ownBlock ∧ k_ ≠ gb191) (fun _ => False) rfl rfl ?aP (fun _ hk => hk.elim) ?aF ?aO ?aB ?aS ?aL ?_;(case aP => exact k39_mkM _ _ _ (⟨(rd_T39 l0_1 x12_1).f0,(rd_T39 l0_1 x12_1).f1,(rd_T39 l0_1 x12_1).f2⟩ : S39));(case aB => exact (by repeat (first|(with_reducible first|exact HB.out|apply lA|apply lN|apply lD|refine lS ?_ GE179.out|refine lS ?_ GE180.out|refine lS ?_ GE188.out|refine lS ?_ GE191.out)|exact HB.out)));(case aF => exact (fun k_ hk => ⟨Kd.fresh' (rT (rZ HO_189001.out)) k_ hk,Kd.freshB (g:=gb191) (o:=.cells #[.string a1,.string t189,.string t190] 39 (0,0)) (by (with_reducible repeat (first|refine bN ?_ _|refine bD ?_|refine bA ?_ _));exact BK191.out) k_ hk⟩));(case aO => exact (rZ HO_11.out));(case aS => exact (lZ (by repeat (first|(with_reducible first|exact HB.out|apply lA|apply lN|apply lD|refine lS ?_ GE179.out|refine lS ?_ GE180.out|refine lS ?_ GE188.out|refine lS ?_ GE191.out)|exact HB.out))));(case aL => have:=LMc30.out;omega);intro v199 w38 ho hb hg hat;rw [← Ny198.out] at ho;have n0_:=aM (Kd.R_over' (rZ HO_189000.out) (Kd.R_typed (rZ HO_11.out)) (by decide) hg);have n1_:=aM (Kd.R_after (ok:=(fun k_ => k_ ≠ gb191)) (by (with_reducible repeat (first|apply rA|apply rN|apply rD));exact Kd.R_mono HO_189001.out (fun _ hk => ⟨hk.2,hk.1⟩)) hg hat);have n2_:=aM (blk_grown (g:=gb179) (o:=.cells #[.slice A0_0 l0_0.length c0_0,.slice (some ad195) l0_1.length c0_1,.string a0_2] 35 (0,0)) (by (with_reducible repeat (first|refine bN ?_ _|refine bD ?_|refine bA ?_ _));exact BK179.out) hg (Kd.R_ne HO_11.out BK179.out (by decide)));have n3_:=aM (blk_grown (g:=gb180) (o:=.cells #[.slice none 0 0,.slice none 0 0,.string (⟨#[]⟩ : ByteArray)] 35 (0,0)) (by (with_reducible repeat (first|refine bN ?_ _|refine bD ?_|refine bA ?_ _));exact BK180.out) hg (Kd.R_ne HO_11.out BK180.out (by decide)));have n4_:=aM (blk_grown (g:=gb188) (o:=.cells #[.slice Ao14 t181.length co14,.slice Ao18 t184.length co18,.string t187] 35 (0,0)) (by (with_reducible repeat (first|refine bN ?_ _|refine bD ?_|refine bA ?_ _));exact BK188.out) hg (Kd.R_ne HO_11.out BK188.out (by decide)));have n5_:=aM (blk_grown (g:=gb191) (o:=.cells #[.string a1,.string t189,.string t190] 39 (0,0)) (by (with_reducible repeat (first|refine bN ?_ _|refine bD ?_|refine bA ?_ _));exact BK191.out) hg (Kd.R_away HO_11.out (fun _ hk => hk.2)));have n6_:=aM (hb);have n7_:=aM (ho);clear HO_189000 HO_189001 BK179 BK180 BK188 BK191 HB HO_11;have HO_189000:=n0_;have HO_189001:=n1_;have BK179:=n2_;have BK180:=n3_;have BK188:=n4_;have BK191:=n5_;have HB:=n6_;have HO200:=n7_;clear n0_ n1_ n2_ n3_ n4_ n5_ n6_ n7_ ho hb hg hat))
       go_roundg k1
       case measure => have:=HK1.out;omega
       case rel => exact ⟨(y198),(wrap64 (x12_1 + 1)),(by first|rfl|(simp;done)|(simp [*];done)),H',⟨by have:=HK1.out;omega⟩,⟨by (with_reducible repeat (first|apply rA|apply rN|apply rD));exact HO200.out⟩,⟨by (with_reducible repeat (first|apply rA|apply rN|apply rD));exact HO_189000.out⟩,⟨by (with_reducible repeat (first|apply rA|apply rN|apply rD));exact Kd.R_mono HO_189001.out (fun _ hk => ⟨hk.2,hk.1⟩)⟩,⟨by (with_reducible repeat (first|refine bN ?_ _|refine bD ?_|refine bA ?_ _));exact BK179.out⟩,⟨by (with_reducible repeat (first|refine bN ?_ _|refine bD ?_|refine bA ?_ _));exact BK180.out⟩,⟨by (with_reducible repeat (first|refine bN ?_ _|refine bD ?_|refine bA ?_ _));exact BK188.out⟩,⟨by (with_reducible repeat (first|refine bN ?_ _|refine bD ?_|refine bA ?_ _));exact BK191.out⟩,⟨by repeat (first|(with_reducible first|exact HB.out|apply lA|apply lN|apply lD|refine lS ?_ GE179.out|refine lS ?_ GE180.out|refine lS ?_ GE188.out|refine lS ?_ GE191.out)|exact HB.out)⟩⟩
      ·rw [if_neg c30] at H
       exact absurd H (by simp)
     ·replace c29:=Bool.eq_false_iff.mpr c29
      subst c29
      have H1 : (spec_SetCell.l0 k1 x11_1 (wrap64 (x12_1 + 1)) l0_0 l0_1 a0_2 t181 t184 t187 a1 t189 t190) = some (r1,r2,r3):=by rw [if_neg (show ¬ (false = true) by decide)] at H;exact H
      clear H
      have H:=H1
      clear H1
      have H':=aM H
      clear H
      have hnb39:=NB179_180.out
      have hnc39:=NB180_179.out
      have hnb40:=NB179_188.out
      have hnc40:=NB188_179.out
      have hnb41:=NB179_191.out
      have hnc41:=NB191_179.out
      obtain ⟨⟨hcz42_0,hcz42_1,hcz42_2⟩,hfz42_0,hfz42_1,hfz42_2⟩:=bC3 BK179.out
      try go_wp2
      have n0_:=aM (rD HO_11.out)
      have n1_:=aM (rD HO_189000.out)
      have n2_:=aM (rD HO_189001.out)
      have n3_:=aM (bD BK179.out)
      have n4_:=aM (bD BK180.out)
      have n5_:=aM (bD BK188.out)
      have n6_:=aM (bD BK191.out)
      have n7_:=aM (lD HB.out)
      clear HO_11
      clear HO_189000
      clear HO_189001
      clear BK179
      clear BK180
      clear BK188
      clear BK191
      clear HB
      have HO_11:=n0_
      have HO_189000:=n1_
      have HO_189001:=n2_
      have BK179:=n3_
      have BK180:=n4_
      have BK188:=n5_
      have BK191:=n6_
      have HB:=n7_
      clear n0_ n1_ n2_ n3_ n4_ n5_ n6_ n7_
      have p195 : 0 ≤ (x12_1 : Int):=of_decide_eq_true (by first|(with_reducible assumption)|assumption)
      have q195 : x12_1 < (l0_1.length : Int):=of_decide_eq_true (by first|(with_reducible assumption)|assumption)
      obtain ⟨ad195,e195,hx195_0,hx195_1,hx195_2⟩:=at_T39 HR0_1.out x12_1 p195 q195
      have hw195_2:=hx195_2
      have hw195_1:=hx195_1
      have hw195_0:=hx195_0
      cases e195
      replace hx195_0:=(HB.out.cell (World.block_lt_of_cell? w _ hx195_0)).trans hx195_0
      replace hx195_1:=(HB.out.cell (World.block_lt_of_cell? w _ hx195_1)).trans hx195_1
      replace hx195_2:=(HB.out.cell (World.block_lt_of_cell? w _ hx195_2)).trans hx195_2
      replace p195:=eq_true p195
      replace q195:=eq_true q195
      refine start_ (n:=7) (S:=fun w' => w'.cell? ⟨gb179,0,none⟩ = some (.slice A0_0 l0_0.length c0_0) ∧ w'.cell? ⟨gb179,1,none⟩ = some (.slice (some ad195) l0_1.length c0_1) ∧ w'.cell? ⟨gb179,2,none⟩ = some (.string a0_2) ∧ w'.cell? ⟨gb191,0,none⟩ = some (.string a1) ∧ w'.cell? ⟨gb191,1,none⟩ = some (.string t189) ∧ w'.cell? ⟨gb191,2,none⟩ = some (.string t190) ∧ w'.cell? (ad195.add ((x12_1).toNat * 3)) = some (.string ((rd_T39 l0_1 x12_1).f0)) ∧ w'.cell? ⟨(ad195.add ((x12_1).toNat * 3)).block,(ad195.add ((x12_1).toNat * 3)).off + 1,none⟩ = some (.string ((rd_T39 l0_1 x12_1).f1)) ∧ w'.cell? ⟨(ad195.add ((x12_1).toNat * 3)).block,(ad195.add ((x12_1).toNat * 3)).off + 2,none⟩ = some (.string ((rd_T39 l0_1 x12_1).f2))) (ds:=[]) #[bf,bf,bf,bf,bf,bf,bf] (by kernel_rfl) rfl rfl ⟨(bC BK179.out 0).trans rfl,(bC BK179.out 1).trans rfl,(bC BK179.out 2).trans rfl,(bC BK191.out 0).trans rfl,(bC BK191.out 1).trans rfl,(bC BK191.out 2).trans rfl,((HB.out.cell (World.block_lt_of_cell? w _ hw195_0)).trans hw195_0),((HB.out.cell (World.block_lt_of_cell? w _ hw195_1)).trans hw195_1),((HB.out.cell (World.block_lt_of_cell? w _ hw195_2)).trans hw195_2)⟩ (fun hHeld => ?_)
      generalize wr.drew = w43 at HO_11 HO_189000 HO_189001 BK179 BK180 BK188 BK191 HB hx195_0 hx195_1 hx195_2 hHeld ⊢
      refine pure_ (i:=0) (N:=some 30) (v:=?_) (a':=?_) #[bT,bf,bf,bf,bf,bf,bf] rfl rfl (by kernel_rfl) (fun _ _ _ h => h) (Or.inl ⟨by rfl,?_⟩) ?_ ?_
      rotate_left
      ·intro w';go_simp;with_reducible rfl
      rotate_left
      ·simp only [Act.put,q_ia3,q_cz3,q_cs3,i64_w,i32_w];rfl
      refine pure_ (i:=2) (N:=some 32) (v:=?_) (a':=?_) #[bT,bf,bT,bf,bf,bf,bf] rfl rfl (by kernel_rfl) (fun _ _ _ h => h) (Or.inl ⟨by rfl,?_⟩) ?_ ?_
      rotate_left
      ·intro w';go_simp;with_reducible rfl
      rotate_left
      ·simp only [Act.put,q_ia3,q_cz3,q_cs3,i64_w,i32_w];rfl
      refine take_ (i:=1) (N:=some 31) (v:=?_) (a':=?_) #[bT,bT,bT,bf,bf,bf,bf] rfl rfl (by kernel_rfl) (fun _ _ _ h => h) (Or.inl ⟨by rfl,?_⟩) hHeld ?_ ?_
      rotate_left
      ·rintro w' ⟨s0,s1,s2,s3,s4,s5,s6,s7,s8⟩
       go_simp
       with_reducible rfl
      rotate_left
      ·simp only [Act.put,q_ia3,q_cz3,q_cs3,i64_w,i32_w];rfl
      refine pure_ (i:=3) (N:=some 33) (v:=?_) (a':=?_) #[bT,bT,bT,bT,bf,bf,bf] rfl rfl (by kernel_rfl) (fun _ _ _ h => h) (Or.inl ⟨by rfl,?_⟩) ?_ ?_
      rotate_left
      ·intro w';go_simp;with_reducible rfl
      rotate_left
      ·simp only [Act.put,q_ia3,q_cz3,q_cs3,i64_w,i32_w];rfl
      refine take_ (i:=4) (N:=some 34) (v:=?_) (a':=?_) #[bT,bT,bT,bT,bT,bf,bf] rfl rfl (by kernel_rfl) (fun _ _ _ h => h) (Or.inl ⟨by rfl,?_⟩) hHeld ?_ ?_
      rotate_left
      ·rintro w' ⟨s0,s1,s2,s3,s4,s5,s6,s7,s8⟩
       go_simp
       with_reducible rfl
      rotate_left
      ·simp only [Act.put,q_ia3,q_cz3,q_cs3,i64_w,i32_w];rfl
      refine take_ (i:=5) (N:=some 35) (v:=?_) (a':=?_) #[bT,bT,bT,bT,bT,bT,bf] rfl rfl (by kernel_rfl) (fun _ _ _ h => h) (Or.inl ⟨by rfl,?_⟩) hHeld ?_ ?_
      rotate_left
      ·rintro w' ⟨s0,s1,s2,s3,s4,s5,s6,s7,s8⟩
       go_simp
       with_reducible rfl
      rotate_left
      ·simp only [Act.put,q_ia3,q_cz3,q_cs3,i64_w,i32_w];rfl
      refine one_ (i:=6) (N:=some 36) #[bT,bT,bT,bT,bT,bT,bT] rfl rfl (by kernel_rfl) (by decide) (fun K hK => ?_)
      refine goes_ Try.func46 (by kernel_rfl) rfl #[.agg #[.string ((rd_T39 l0_1 x12_1).f0),.string ((rd_T39 l0_1 x12_1).f1),.string ((rd_T39 l0_1 x12_1).f2)],.agg #[.string a1,.string t189,.string t190]] (by rfl) rfl rfl (by (try simp only [List.map_toArray,List.map_cons,List.map_nil]);first|done|rfl|(simp only [List.length_drop,List.length_take];rfl)) ?_
      with_reducible refine (spec_l08Ahead.calls ((rd_T39 l0_1 x12_1).f0) ((rd_T39 l0_1 x12_1).f1) ((rd_T39 l0_1 x12_1).f2) a1 t189 t190 false _ A28.out).mono ?_
      rintro e w44 ⟨rfl,hb⟩
      refine ⟨_,rfl,?_⟩
      have n0_:=aM (rH HO_11.out hb)
      have n1_:=aM (rH HO_189000.out hb)
      have n2_:=aM (rH HO_189001.out hb)
      have n3_:=aM (bH BK179.out hb)
      have n4_:=aM (bH BK180.out hb)
      have n5_:=aM (bH BK188.out hb)
      have n6_:=aM (bH BK191.out hb)
      have n7_:=aM (lQ HB.out hb)
      clear HO_11
      clear HO_189000
      clear HO_189001
      clear BK179
      clear BK180
      clear BK188
      clear BK191
      clear HB
      have HO_11:=n0_
      have HO_189000:=n1_
      have HO_189001:=n2_
      have BK179:=n3_
      have BK180:=n4_
      have BK188:=n5_
      have BK191:=n6_
      have HB:=n7_
      clear n0_ n1_ n2_ n3_ n4_ n5_ n6_ n7_
      (try clear hb)
      (try clear hb2)
      (try clear hk)
      (try clear hi)
      refine hK.out _ _ ⟨(bC BK179.out 0).trans rfl,(bC BK179.out 1).trans rfl,(bC BK179.out 2).trans rfl,(bC BK191.out 0).trans rfl,(bC BK191.out 1).trans rfl,(bC BK191.out 2).trans rfl,((HB.out.cell (World.block_lt_of_cell? w _ hw195_0)).trans hw195_0),((HB.out.cell (World.block_lt_of_cell? w _ hw195_1)).trans hw195_1),((HB.out.cell (World.block_lt_of_cell? w _ hw195_2)).trans hw195_2)⟩ (fun hHeld => ?_)
      clear hK K
      refine norm_ (a':=?_) ?_ ?_
      rotate_left
      ·show Act.put _ (some 36) _ = _
       simp only [Act.put,q_ia3,q_cz3,q_cs3,i64_w,i32_w]
       rfl
      refine done_ (by kernel_rfl) ?_
      try go_wp2
      go_roundg k1
      case measure => have:=HK1.out;omega
      case rel => exact ⟨(x11_1),(wrap64 (x12_1 + 1)),(by first|rfl|(simp;done)|(simp [*];done)),H',⟨by have:=HK1.out;omega⟩,⟨by (with_reducible repeat (first|apply rA|apply rN|apply rD));exact HO_11.out⟩,⟨by (with_reducible repeat (first|apply rA|apply rN|apply rD));exact HO_189000.out⟩,⟨by (with_reducible repeat (first|apply rA|apply rN|apply rD));exact HO_189001.out⟩,⟨by (with_reducible repeat (first|refine bN ?_ _|refine bD ?_|refine bA ?_ _));exact BK179.out⟩,⟨by (with_reducible repeat (first|refine bN ?_ _|refine bD ?_|refine bA ?_ _));exact BK180.out⟩,⟨by (with_reducible repeat (first|refine bN ?_ _|refine bD ?_|refine bA ?_ _));exact BK188.out⟩,⟨by (with_reducible repeat (first|refine bN ?_ _|refine bD ?_|refine bA ?_ _));exact BK191.out⟩,⟨by repeat (first|(with_reducible first|exact HB.out|apply lA|apply lN|apply lD|refine lS ?_ GE179.out|refine lS ?_ GE180.out|refine lS ?_ GE188.out|refine lS ?_ GE191.out)|exact HB.out)⟩⟩
    ·rw [if_neg c27] at H
     exact absurd H (by simp)
   ·rw [if_neg c26] at H
    have c26b0 : decide (x12_1 < (l0_1.length : Int)) = false:=decide_eq_false c26
    clear c26
    by_cases c45 : x11_1.length < 2932031007402
    ·rw [if_pos c45] at H
     have LMc45:=aM c45
     clear c45
     obtain ⟨y201,hy201⟩ : ∃ y_ : List (S39),y_ = (x11_1 ++ [(⟨a1,t189,t190⟩ : S39)]):=⟨_,rfl⟩
     replace H : (spec_SetCell.l1 k1 y201 0 l0_0 l0_1 a0_2 t181 t184 t187 a1 t189 t190) = some (r1,r2,r3):=by first|(rw [hy201];with_reducible exact H)|(have H2_:=(Option.bind_some _ _).symm.trans H;rw [hy201];with_reducible exact H2_)|(have H2_:=(Option.bind_some _ _).symm.trans H;with_reducible exact H2_)|with_reducible exact H|(rw [hy201];exact H)|exact H
     have Ny201:=aM hy201
     clear hy201
     have H':=aM H
     clear H
     have hnb46:=NB179_180.out
     have hnc46:=NB180_179.out
     have hnb47:=NB179_188.out
     have hnc47:=NB188_179.out
     have hnb48:=NB179_191.out
     have hnc48:=NB191_179.out
     obtain ⟨⟨hcz49_0,hcz49_1,hcz49_2⟩,hfz49_0,hfz49_1,hfz49_2⟩:=bC3 BK179.out
     have hnb50:=NB191_180.out
     have hnc50:=NB180_191.out
     have hnb51:=NB191_188.out
     have hnc51:=NB188_191.out
     obtain ⟨⟨hcz52_0,hcz52_1,hcz52_2⟩,hfz52_0,hfz52_1,hfz52_2⟩:=bC3 BK191.out
     go_wp2_with (first|((with_reducible refine gate_builtin (b:=.append) (xs:=#[.tmp 45,.tmp 47]) rfl ?_);at_builtin;refine Kd.R_append k39 (w0:=w) w.heap.size rfl (.tmp 45) (.tmp 47) 33 39 (.agg #[(.string ⟨#[]⟩),(.string ⟨#[]⟩),(.string ⟨#[]⟩)]) 48 rfl Try.underlying33 info39 rfl (by decide) (by omega) u11 x11_1 (⟨a1,t189,t190⟩ : S39) [.string a1,.string t189,.string t190] (fun k_ => some k_ ≠ (.slice Ao18 t184.length co18 : Value).ownBlock ∧ k_ ≠ gb191) (fun _ => False) rfl rfl ?aP (fun _ hk => hk.elim) ?aF ?aO ?aB ?aS ?aL ?_;(case aP => exact k39_mkM _ _ _ (⟨a1,t189,t190⟩ : S39));(case aB => exact (by repeat (first|(with_reducible first|exact HB.out|apply lA|apply lN|apply lD|refine lS ?_ GE179.out|refine lS ?_ GE180.out|refine lS ?_ GE188.out|refine lS ?_ GE191.out)|exact HB.out)));(case aF => exact (fun k_ hk => ⟨Kd.fresh' (rT (rZ HO_189001.out)) k_ hk,Kd.freshB (g:=gb191) (o:=.cells #[.string a1,.string t189,.string t190] 39 (0,0)) (by (with_reducible repeat (first|refine bN ?_ _|refine bD ?_|refine bA ?_ _));exact BK191.out) k_ hk⟩));(case aO => exact (rZ HO_11.out));(case aS => exact (lZ (by repeat (first|(with_reducible first|exact HB.out|apply lA|apply lN|apply lD|refine lS ?_ GE179.out|refine lS ?_ GE180.out|refine lS ?_ GE188.out|refine lS ?_ GE191.out)|exact HB.out))));(case aL => have:=LMc45.out;omega);intro v202 w53 ho hb hg hat;rw [← Ny201.out] at ho;have n0_:=aM (Kd.R_over' (rZ HO_189000.out) (Kd.R_typed (rZ HO_11.out)) (by decide) hg);have n1_:=aM (Kd.R_after (ok:=(fun k_ => k_ ≠ gb191)) (by (with_reducible repeat (first|apply rA|apply rN|apply rD));exact Kd.R_mono HO_189001.out (fun _ hk => ⟨hk.2,hk.1⟩)) hg hat);have n2_:=aM (blk_grown (g:=gb179) (o:=.cells #[.slice A0_0 l0_0.length c0_0,.slice A0_1 l0_1.length c0_1,.string a0_2] 35 (0,0)) (by (with_reducible repeat (first|refine bN ?_ _|refine bD ?_|refine bA ?_ _));exact BK179.out) hg (Kd.R_ne HO_11.out BK179.out (by decide)));have n3_:=aM (blk_grown (g:=gb180) (o:=.cells #[.slice none 0 0,.slice none 0 0,.string (⟨#[]⟩ : ByteArray)] 35 (0,0)) (by (with_reducible repeat (first|refine bN ?_ _|refine bD ?_|refine bA ?_ _));exact BK180.out) hg (Kd.R_ne HO_11.out BK180.out (by decide)));have n4_:=aM (blk_grown (g:=gb188) (o:=.cells #[.slice Ao14 t181.length co14,.slice Ao18 t184.length co18,.string t187] 35 (0,0)) (by (with_reducible repeat (first|refine bN ?_ _|refine bD ?_|refine bA ?_ _));exact BK188.out) hg (Kd.R_ne HO_11.out BK188.out (by decide)));have n5_:=aM (blk_grown (g:=gb191) (o:=.cells #[.string a1,.string t189,.string t190] 39 (0,0)) (by (with_reducible repeat (first|refine bN ?_ _|refine bD ?_|refine bA ?_ _));exact BK191.out) hg (Kd.R_away HO_11.out (fun _ hk => hk.2)));have n6_:=aM (hb);have n7_:=aM (ho);clear HO_189000 HO_189001 BK179 BK180 BK188 BK191 HB HO_11;have HO_189000:=n0_;have HO_189001:=n1_;have BK179:=n2_;have BK180:=n3_;have BK188:=n4_;have BK191:=n5_;have HB:=n6_;have HO203:=n7_;clear n0_ n1_ n2_ n3_ n4_ n5_ n6_ n7_ ho hb hg hat))
     go_loopg [11,13] k1 (fun kq v11 v13 w' => ∃ (x11_2 : List (S39)) (x13_2 : Int),v13 = .int .i64 x13_2 ∧ Aside0 (spec_SetCell.l1 kq x11_2 x13_2 l0_0 l0_1 a0_2 t181 t184 t187 a1 t189 t190 = some (r1,r2,r3)) ∧ Aside0 (kq ≤ k1) ∧ Aside0 (Kd.R k39 39 w' w.heap.size (fun k_ => some k_ ≠ ((.slice Ao18 t184.length co18) : Value).ownBlock ∧ k_ ≠ gb191) v11 x11_2) ∧ Aside0 (Kd.R k59 59 w' w.heap.size (fun _ => True) (.slice Ao14 t181.length co14) t181) ∧ Aside0 (Kd.R k39 39 w' w.heap.size (fun k_ => some k_ ≠ (v11 : Value).ownBlock ∧ k_ ≠ gb191) (.slice Ao18 t184.length co18) t184) ∧ Aside0 (w'.heap[gb179]? = some (.cells #[(.slice A0_0 l0_0.length c0_0),(.slice A0_1 l0_1.length c0_1),.string a0_2] 35 (0,0))) ∧ Aside0 (w'.heap[gb180]? = some (.cells #[(.slice none 0 0),(.slice none 0 0),.string (⟨#[]⟩ : ByteArray)] 35 (0,0))) ∧ Aside0 (w'.heap[gb188]? = some (.cells #[(.slice Ao14 t181.length co14),(.slice Ao18 t184.length co18),.string t187] 35 (0,0))) ∧ Aside0 (w'.heap[gb191]? = some (.cells #[.string a1,.string t189,.string t190] 39 (0,0))) ∧ Aside0 (Below w.heap.size w w'))
     case atStart => exact ⟨(y201),(0),(by first|rfl|(simp;done)|(simp [*];done)),H',⟨Nat.le_refl _⟩,⟨by (with_reducible repeat (first|apply rA|apply rN|apply rD));exact HO203.out⟩,⟨by (with_reducible repeat (first|apply rA|apply rN|apply rD));exact HO_189000.out⟩,⟨by (with_reducible repeat (first|apply rA|apply rN|apply rD));exact Kd.R_mono HO_189001.out (fun _ hk => ⟨hk.2,hk.1⟩)⟩,⟨by (with_reducible repeat (first|refine bN ?_ _|refine bD ?_|refine bA ?_ _));exact BK179.out⟩,⟨by (with_reducible repeat (first|refine bN ?_ _|refine bD ?_|refine bA ?_ _));exact BK180.out⟩,⟨by (with_reducible repeat (first|refine bN ?_ _|refine bD ?_|refine bA ?_ _));exact BK188.out⟩,⟨by (with_reducible repeat (first|refine bN ?_ _|refine bD ?_|refine bA ?_ _));exact BK191.out⟩,⟨by repeat (first|(with_reducible first|exact HB.out|apply lA|apply lN|apply lD|refine lS ?_ GE179.out|refine lS ?_ GE180.out|refine lS ?_ GE188.out|refine lS ?_ GE191.out)|exact HB.out)⟩⟩
     case round =>
      clear H'
      try clear c1
      try clear p1
      try clear q1
      try clear hx1
      try clear c2
      try clear p2
      try clear c3
      try clear c4
      try clear c5
      try clear p6
      try clear c10
      try clear c15
      try clear c16
      try clear p19
      try clear q19
      try clear hx19
      try clear c20
      try clear c21
      try clear c22
      try clear c26
      try clear c26b0
      try clear c27
      try clear c27b0
      try clear c29
      try clear c30
      try clear c31
      try clear c32
      try clear c33
      try clear c35
      try clear c39
      try clear c40
      try clear c41
      try clear c45
      try clear c46
      try clear c47
      try clear c48
      try clear c50
      try clear c51
      try clear hcz11_0
      try clear hcz11_1
      try clear hcz11_2
      try clear hcz17_0
      try clear hcz17_1
      try clear hcz17_2
      try clear hcz23_0
      try clear hcz23_1
      try clear hcz23_2
      try clear hcz34_0
      try clear hcz34_1
      try clear hcz34_2
      try clear hcz37_0
      try clear hcz37_1
      try clear hcz37_2
      try clear hcz42_0
      try clear hcz42_1
      try clear hcz42_2
      try clear hcz49_0
      try clear hcz49_1
      try clear hcz49_2
      try clear hcz52_0
      try clear hcz52_1
      try clear hcz52_2
      try clear hx195_0
      try clear hx195_1
      try clear hx195_2
      try clear hx197_0
      try clear hx197_1
      try clear hx197_2
      try clear p195
      try clear p197
      try clear p2
      try clear q195
      try clear q197
      obtain ⟨x11_2,x13_2,rfl,HA,HK2,HO_11,HO_189000,HO_189001,BK179,BK180,BK188,BK191,HB⟩:=hrel
      cases gk with
      |zero => exact absurd HA.out (by simp [spec_SetCell.l1])
      |succ k2 =>
       have H:=HA.out
       clear HA
       simp only [spec_SetCell.l1] at H
       by_cases c54 : x13_2 < (l0_1.length : Int)
       ·rw [if_pos c54] at H
        have c54b0 : decide (x13_2 < (l0_1.length : Int)) = true:=decide_eq_true c54
        clear c54
        by_cases c55 : 0 ≤ x13_2
        ·rw [if_pos c55] at H
         have c55b0 : decide (0 ≤ x13_2) = true:=decide_eq_true c55
         clear c55
         replace H:=Option.bind_eq_some_iff.mp H
         obtain ⟨t205,A560,H⟩:=H
         replace H : (if t205 = true then (if x11_2.length < 2932031007402 then (spec_SetCell.l1 k2 (x11_2 ++ [(⟨(rd_T39 l0_1 x13_2).f0,(rd_T39 l0_1 x13_2).f1,(rd_T39 l0_1 x13_2).f2⟩ : S39)]) (wrap64 (x13_2 + 1)) l0_0 l0_1 a0_2 t181 t184 t187 a1 t189 t190) else (none)) else (spec_SetCell.l1 k2 x11_2 (wrap64 (x13_2 + 1)) l0_0 l0_1 a0_2 t181 t184 t187 a1 t189 t190)) = some (r1,r2,r3):=H
         have A56:=aM A560
         clear A560
         by_cases c57 : t205 = true
         ·subst c57
          have H1 : (if x11_2.length < 2932031007402 then (spec_SetCell.l1 k2 (x11_2 ++ [(⟨(rd_T39 l0_1 x13_2).f0,(rd_T39 l0_1 x13_2).f1,(rd_T39 l0_1 x13_2).f2⟩ : S39)]) (wrap64 (x13_2 + 1)) l0_0 l0_1 a0_2 t181 t184 t187 a1 t189 t190) else (none)) = some (r1,r2,r3):=by rw [if_pos rfl] at H;exact H
          clear H
          have H:=H1
          clear H1
          by_cases c58 : x11_2.length < 2932031007402
          ·rw [if_pos c58] at H
           have LMc58:=aM c58
           clear c58
           obtain ⟨y207,hy207⟩ : ∃ y_ : List (S39),y_ = (x11_2 ++ [(⟨(rd_T39 l0_1 x13_2).f0,(rd_T39 l0_1 x13_2).f1,(rd_T39 l0_1 x13_2).f2⟩ : S39)]):=⟨_,rfl⟩
           replace H : (spec_SetCell.l1 k2 y207 (wrap64 (x13_2 + 1)) l0_0 l0_1 a0_2 t181 t184 t187 a1 t189 t190) = some (r1,r2,r3):=by first|(rw [hy207];with_reducible exact H)|(have H2_:=(Option.bind_some _ _).symm.trans H;rw [hy207];with_reducible exact H2_)|(have H2_:=(Option.bind_some _ _).symm.trans H;with_reducible exact H2_)|with_reducible exact H|(rw [hy207];exact H)|exact H
           have Ny207:=aM hy207
           clear hy207
           have H':=aM H
           clear H
           have hnb59:=NB179_180.out
           have hnc59:=NB180_179.out
           have hnb60:=NB179_188.out
           have hnc60:=NB188_179.out
           have hnb61:=NB179_191.out
           have hnc61:=NB191_179.out
           obtain ⟨⟨hcz62_0,hcz62_1,hcz62_2⟩,hfz62_0,hfz62_1,hfz62_2⟩:=bC3 BK179.out
           try go_wp2
           have n0_:=aM (rD HO_11.out)
           have n1_:=aM (rD HO_189000.out)
           have n2_:=aM (rD HO_189001.out)
           have n3_:=aM (bD BK179.out)
           have n4_:=aM (bD BK180.out)
           have n5_:=aM (bD BK188.out)
           have n6_:=aM (bD BK191.out)
           have n7_:=aM (lD HB.out)
           clear HO_11
           clear HO_189000
           clear HO_189001
           clear BK179
           clear BK180
           clear BK188
           clear BK191
           clear HB
           have HO_11:=n0_
           have HO_189000:=n1_
           have HO_189001:=n2_
           have BK179:=n3_
           have BK180:=n4_
           have BK188:=n5_
           have BK191:=n6_
           have HB:=n7_
           clear n0_ n1_ n2_ n3_ n4_ n5_ n6_ n7_
           have p204 : 0 ≤ (x13_2 : Int):=of_decide_eq_true (by first|(with_reducible assumption)|assumption)
           have q204 : x13_2 < (l0_1.length : Int):=of_decide_eq_true (by first|(with_reducible assumption)|assumption)
           obtain ⟨ad204,e204,hx204_0,hx204_1,hx204_2⟩:=at_T39 HR0_1.out x13_2 p204 q204
           have hw204_2:=hx204_2
           have hw204_1:=hx204_1
           have hw204_0:=hx204_0
           cases e204
           replace hx204_0:=(HB.out.cell (World.block_lt_of_cell? w _ hx204_0)).trans hx204_0
           replace hx204_1:=(HB.out.cell (World.block_lt_of_cell? w _ hx204_1)).trans hx204_1
           replace hx204_2:=(HB.out.cell (World.block_lt_of_cell? w _ hx204_2)).trans hx204_2
           replace p204:=eq_true p204
           replace q204:=eq_true q204
           refine start_ (n:=7) (S:=fun w' => w'.cell? ⟨gb191,0,none⟩ = some (.string a1) ∧ w'.cell? ⟨gb191,1,none⟩ = some (.string t189) ∧ w'.cell? ⟨gb191,2,none⟩ = some (.string t190) ∧ w'.cell? ⟨gb179,0,none⟩ = some (.slice A0_0 l0_0.length c0_0) ∧ w'.cell? ⟨gb179,1,none⟩ = some (.slice (some ad204) l0_1.length c0_1) ∧ w'.cell? ⟨gb179,2,none⟩ = some (.string a0_2) ∧ w'.cell? (ad204.add ((x13_2).toNat * 3)) = some (.string ((rd_T39 l0_1 x13_2).f0)) ∧ w'.cell? ⟨(ad204.add ((x13_2).toNat * 3)).block,(ad204.add ((x13_2).toNat * 3)).off + 1,none⟩ = some (.string ((rd_T39 l0_1 x13_2).f1)) ∧ w'.cell? ⟨(ad204.add ((x13_2).toNat * 3)).block,(ad204.add ((x13_2).toNat * 3)).off + 2,none⟩ = some (.string ((rd_T39 l0_1 x13_2).f2))) (ds:=[]) #[bf,bf,bf,bf,bf,bf,bf] (by kernel_rfl) rfl rfl ⟨(bC BK191.out 0).trans rfl,(bC BK191.out 1).trans rfl,(bC BK191.out 2).trans rfl,(bC BK179.out 0).trans rfl,(bC BK179.out 1).trans rfl,(bC BK179.out 2).trans rfl,((HB.out.cell (World.block_lt_of_cell? w _ hw204_0)).trans hw204_0),((HB.out.cell (World.block_lt_of_cell? w _ hw204_1)).trans hw204_1),((HB.out.cell (World.block_lt_of_cell? w _ hw204_2)).trans hw204_2)⟩ (fun hHeld => ?_)
           generalize wr.drew = w63 at HO_11 HO_189000 HO_189001 BK179 BK180 BK188 BK191 HB hx204_0 hx204_1 hx204_2 hHeld ⊢
           refine pure_ (i:=1) (N:=some 57) (v:=?_) (a':=?_) #[bf,bT,bf,bf,bf,bf,bf] rfl rfl (by kernel_rfl) (fun _ _ _ h => h) (Or.inl ⟨by rfl,?_⟩) ?_ ?_
           rotate_left
           ·intro w';go_simp;with_reducible rfl
           rotate_left
           ·simp only [Act.put,q_ia3,q_cz3,q_cs3,i64_w,i32_w];rfl
           refine pure_ (i:=3) (N:=some 59) (v:=?_) (a':=?_) #[bf,bT,bf,bT,bf,bf,bf] rfl rfl (by kernel_rfl) (fun _ _ _ h => h) (Or.inl ⟨by rfl,?_⟩) ?_ ?_
           rotate_left
           ·intro w';go_simp;with_reducible rfl
           rotate_left
           ·simp only [Act.put,q_ia3,q_cz3,q_cs3,i64_w,i32_w];rfl
           refine take_ (i:=0) (N:=some 56) (v:=?_) (a':=?_) #[bT,bT,bf,bT,bf,bf,bf] rfl rfl (by kernel_rfl) (fun _ _ _ h => h) (Or.inl ⟨by rfl,?_⟩) hHeld ?_ ?_
           rotate_left
           ·rintro w' ⟨s0,s1,s2,s3,s4,s5,s6,s7,s8⟩
            go_simp
            with_reducible rfl
           rotate_left
           ·simp only [Act.put,q_ia3,q_cz3,q_cs3,i64_w,i32_w];rfl
           refine take_ (i:=2) (N:=some 58) (v:=?_) (a':=?_) #[bT,bT,bT,bT,bf,bf,bf] rfl rfl (by kernel_rfl) (fun _ _ _ h => h) (Or.inl ⟨by rfl,?_⟩) hHeld ?_ ?_
           rotate_left
           ·rintro w' ⟨s0,s1,s2,s3,s4,s5,s6,s7,s8⟩
            go_simp
            with_reducible rfl
           rotate_left
           ·simp only [Act.put,q_ia3,q_cz3,q_cs3,i64_w,i32_w];rfl
           refine pure_ (i:=4) (N:=some 60) (v:=?_) (a':=?_) #[bT,bT,bT,bT,bT,bf,bf] rfl rfl (by kernel_rfl) (fun _ _ _ h => h) (Or.inl ⟨by rfl,?_⟩) ?_ ?_
           rotate_left
           ·intro w';go_simp;with_reducible rfl
           rotate_left
           ·simp only [Act.put,q_ia3,q_cz3,q_cs3,i64_w,i32_w];rfl
           refine take_ (i:=5) (N:=some 61) (v:=?_) (a':=?_) #[bT,bT,bT,bT,bT,bT,bf] rfl rfl (by kernel_rfl) (fun _ _ _ h => h) (Or.inl ⟨by rfl,?_⟩) hHeld ?_ ?_
           rotate_left
           ·rintro w' ⟨s0,s1,s2,s3,s4,s5,s6,s7,s8⟩
            go_simp
            with_reducible rfl
           rotate_left
           ·simp only [Act.put,q_ia3,q_cz3,q_cs3,i64_w,i32_w];rfl
           refine one_ (i:=6) (N:=some 62) #[bT,bT,bT,bT,bT,bT,bT] rfl rfl (by kernel_rfl) (by decide) (fun K hK => ?_)
           refine goes_ Try.func46 (by kernel_rfl) rfl #[.agg #[.string a1,.string t189,.string t190],.agg #[.string ((rd_T39 l0_1 x13_2).f0),.string ((rd_T39 l0_1 x13_2).f1),.string ((rd_T39 l0_1 x13_2).f2)]] (by rfl) rfl rfl (by (try simp only [List.map_toArray,List.map_cons,List.map_nil]);first|done|rfl|(simp only [List.length_drop,List.length_take];rfl)) ?_
           with_reducible refine (spec_l08Ahead.calls a1 t189 t190 ((rd_T39 l0_1 x13_2).f0) ((rd_T39 l0_1 x13_2).f1) ((rd_T39 l0_1 x13_2).f2) true _ A56.out).mono ?_
           rintro e w64 ⟨rfl,hb⟩
           refine ⟨_,rfl,?_⟩
           have n0_:=aM (rH HO_11.out hb)
           have n1_:=aM (rH HO_189000.out hb)
           have n2_:=aM (rH HO_189001.out hb)
           have n3_:=aM (bH BK179.out hb)
           have n4_:=aM (bH BK180.out hb)
           have n5_:=aM (bH BK188.out hb)
           have n6_:=aM (bH BK191.out hb)
           have n7_:=aM (lQ HB.out hb)
           clear HO_11
           clear HO_189000
           clear HO_189001
           clear BK179
           clear BK180
           clear BK188
           clear BK191
           clear HB
           have HO_11:=n0_
           have HO_189000:=n1_
           have HO_189001:=n2_
           have BK179:=n3_
           have BK180:=n4_
           have BK188:=n5_
           have BK191:=n6_
           have HB:=n7_
           clear n0_ n1_ n2_ n3_ n4_ n5_ n6_ n7_
           (try clear hb)
           (try clear hb2)
           (try clear hk)
           (try clear hi)
           refine hK.out _ _ ⟨(bC BK191.out 0).trans rfl,(bC BK191.out 1).trans rfl,(bC BK191.out 2).trans rfl,(bC BK179.out 0).trans rfl,(bC BK179.out 1).trans rfl,(bC BK179.out 2).trans rfl,((HB.out.cell (World.block_lt_of_cell? w _ hw204_0)).trans hw204_0),((HB.out.cell (World.block_lt_of_cell? w _ hw204_1)).trans hw204_1),((HB.out.cell (World.block_lt_of_cell? w _ hw204_2)).trans hw204_2)⟩ (fun hHeld => ?_)
           clear hK K
           refine norm_ (a':=?_) ?_ ?_
           rotate_left
           ·show Act.put _ (some 62) _ = _
            simp only [Act.put,q_ia3,q_cz3,q_cs3,i64_w,i32_w]
            rfl
           refine done_ (by kernel_rfl) ?_
           obtain ⟨⟨hcz65_0,hcz65_1,hcz65_2⟩,hfz65_0,hfz65_1,hfz65_2⟩:=bC3 BK179.out
           have p206 : 0 ≤ (x13_2 : Int):=of_decide_eq_true (by first|(with_reducible assumption)|assumption)
           have q206 : x13_2 < (l0_1.length : Int):=of_decide_eq_true (by first|(with_reducible assumption)|assumption)
           obtain ⟨ad206,e206,hx206_0,hx206_1,hx206_2⟩:=at_T39 HR0_1.out x13_2 p206 q206
           obtain rfl : ad204 = ad206:=(by injection e206)
           replace hx206_0:=(HB.out.cell (World.block_lt_of_cell? w _ hx206_0)).trans hx206_0
           replace hx206_1:=(HB.out.cell (World.block_lt_of_cell? w _ hx206_1)).trans hx206_1
           replace hx206_2:=(HB.out.cell (World.block_lt_of_cell? w _ hx206_2)).trans hx206_2
           replace p206:=eq_true p206
           replace q206:=eq_true q206
           try go_wp2_with (first|((with_reducible refine gate_builtin (b:=.append) (xs:=#[.tmp 63,.tmp 69]) rfl ?_);at_builtin;refine Kd.R_append k39 (w0:=w) w.heap.size rfl (.tmp 63) (.tmp 69) 33 39 (.agg #[(.string ⟨#[]⟩),(.string ⟨#[]⟩),(.string ⟨#[]⟩)]) 48 rfl Try.underlying33 info39 rfl (by decide) (by omega) u11 x11_2 (⟨(rd_T39 l0_1 x13_2).f0,(rd_T39 l0_1 x13_2).f1,(rd_T39 l0_1 x13_2).f2⟩ : S39) [.string ((rd_T39 l0_1 x13_2).f0),.string ((rd_T39 l0_1 x13_2).f1),.string ((rd_T39 l0_1 x13_2).f2)] (fun k_ => some k_ ≠ (.slice Ao18 t184.length co18 : Value).ownBlock ∧ k_ ≠ gb191) (fun _ => False) rfl rfl ?aP (fun _ hk => hk.elim) ?aF ?aO ?aB ?aS ?aL ?_;(case aP => exact k39_mkM _ _ _ (⟨(rd_T39 l0_1 x13_2).f0,(rd_T39 l0_1 x13_2).f1,(rd_T39 l0_1 x13_2).f2⟩ : S39));(case aB => exact (by repeat (first|(with_reducible first|exact HB.out|apply lA|apply lN|apply lD|refine lS ?_ GE179.out|refine lS ?_ GE180.out|refine lS ?_ GE188.out|refine lS ?_ GE191.out)|exact HB.out)));(case aF => exact (fun k_ hk => ⟨Kd.fresh' (rT (rZ HO_189001.out)) k_ hk,Kd.freshB (g:=gb191) (o:=.cells #[.string a1,.string t189,.string t190] 39 (0,0)) (by (with_reducible repeat (first|refine bN ?_ _|refine bD ?_|refine bA ?_ _));exact BK191.out) k_ hk⟩));(case aO => exact (rZ HO_11.out));(case aS => exact (lZ (by repeat (first|(with_reducible first|exact HB.out|apply lA|apply lN|apply lD|refine lS ?_ GE179.out|refine lS ?_ GE180.out|refine lS ?_ GE188.out|refine lS ?_ GE191.out)|exact HB.out))));(case aL => have:=LMc58.out;omega);intro v208 w66 ho hb hg hat;rw [← Ny207.out] at ho;have n0_:=aM (Kd.R_over' (rZ HO_189000.out) (Kd.R_typed (rZ HO_11.out)) (by decide) hg);have n1_:=aM (Kd.R_after (ok:=(fun k_ => k_ ≠ gb191)) (by (with_reducible repeat (first|apply rA|apply rN|apply rD));exact Kd.R_mono HO_189001.out (fun _ hk => ⟨hk.2,hk.1⟩)) hg hat);have n2_:=aM (blk_grown (g:=gb179) (o:=.cells #[.slice A0_0 l0_0.length c0_0,.slice (some ad204) l0_1.length c0_1,.string a0_2] 35 (0,0)) (by (with_reducible repeat (first|refine bN ?_ _|refine bD ?_|refine bA ?_ _));exact BK179.out) hg (Kd.R_ne HO_11.out BK179.out (by decide)));have n3_:=aM (blk_grown (g:=gb180) (o:=.cells #[.slice none 0 0,.slice none 0 0,.string (⟨#[]⟩ : ByteArray)] 35 (0,0)) (by (with_reducible repeat (first|refine bN ?_ _|refine bD ?_|refine bA ?_ _));exact BK180.out) hg (Kd.R_ne HO_11.out BK180.out (by decide)));have n4_:=aM (blk_grown (g:=gb188) (o:=.cells #[.slice Ao14 t181.length co14,.slice Ao18 t184.length co18,.string t187] 35 (0,0)) (by (with_reducible repeat (first|refine bN ?_ _|refine bD ?_|refine bA ?_ _));exact BK188.out) hg (Kd.R_ne HO_11.out BK188.out (by decide)));have n5_:=aM (blk_grown (g:=gb191) (o:=.cells #[.string a1,.string t189,.string t190] 39 (0,0)) (by (with_reducible repeat (first|refine bN ?_ _|refine bD ?_|refine bA ?_ _));exact BK191.out) hg (Kd.R_away HO_11.out (fun _ hk => hk.2)));have n6_:=aM (hb);have n7_:=aM (ho);clear HO_189000 HO_189001 BK179 BK180 BK188 BK191 HB HO_11;have HO_189000:=n0_;have HO_189001:=n1_;have BK179:=n2_;have BK180:=n3_;have BK188:=n4_;have BK191:=n5_;have HB:=n6_;have HO209:=n7_;clear n0_ n1_ n2_ n3_ n4_ n5_ n6_ n7_ ho hb hg hat))
           go_roundg k2
           case measure => have:=HK1.out;have:=HK2.out;omega
           case rel => exact ⟨(y207),(wrap64 (x13_2 + 1)),(by first|rfl|(simp;done)|(simp [*];done)),H',⟨by have:=HK1.out;have:=HK2.out;omega⟩,⟨by (with_reducible repeat (first|apply rA|apply rN|apply rD));exact HO209.out⟩,⟨by (with_reducible repeat (first|apply rA|apply rN|apply rD));exact HO_189000.out⟩,⟨by (with_reducible repeat (first|apply rA|apply rN|apply rD));exact Kd.R_mono HO_189001.out (fun _ hk => ⟨hk.2,hk.1⟩)⟩,⟨by (with_reducible repeat (first|refine bN ?_ _|refine bD ?_|refine bA ?_ _));exact BK179.out⟩,⟨by (with_reducible repeat (first|refine bN ?_ _|refine bD ?_|refine bA ?_ _));exact BK180.out⟩,⟨by (with_reducible repeat (first|refine bN ?_ _|refine bD ?_|refine bA ?_ _));exact BK188.out⟩,⟨by (with_reducible repeat (first|refine bN ?_ _|refine bD ?_|refine bA ?_ _));exact BK191.out⟩,⟨by repeat (first|(with_reducible first|exact HB.out|apply lA|apply lN|apply lD|refine lS ?_ GE179.out|refine lS ?_ GE180.out|refine lS ?_ GE188.out|refine lS ?_ GE191.out)|exact HB.out)⟩⟩
          ·rw [if_neg c58] at H
           exact absurd H (by simp)
         ·replace c57:=Bool.eq_false_iff.mpr c57
          subst c57
          have H1 : (spec_SetCell.l1 k2 x11_2 (wrap64 (x13_2 + 1)) l0_0 l0_1 a0_2 t181 t184 t187 a1 t189 t190) = some (r1,r2,r3):=by rw [if_neg (show ¬ (false = true) by decide)] at H;exact H
          clear H
          have H:=H1
          clear H1
          have H':=aM H
          clear H
          have hnb67:=NB179_180.out
          have hnc67:=NB180_179.out
          have hnb68:=NB179_188.out
          have hnc68:=NB188_179.out
          have hnb69:=NB179_191.out
          have hnc69:=NB191_179.out
          obtain ⟨⟨hcz70_0,hcz70_1,hcz70_2⟩,hfz70_0,hfz70_1,hfz70_2⟩:=bC3 BK179.out
          try go_wp2
          have n0_:=aM (rD HO_11.out)
          have n1_:=aM (rD HO_189000.out)
          have n2_:=aM (rD HO_189001.out)
          have n3_:=aM (bD BK179.out)
          have n4_:=aM (bD BK180.out)
          have n5_:=aM (bD BK188.out)
          have n6_:=aM (bD BK191.out)
          have n7_:=aM (lD HB.out)
          clear HO_11
          clear HO_189000
          clear HO_189001
          clear BK179
          clear BK180
          clear BK188
          clear BK191
          clear HB
          have HO_11:=n0_
          have HO_189000:=n1_
          have HO_189001:=n2_
          have BK179:=n3_
          have BK180:=n4_
          have BK188:=n5_
          have BK191:=n6_
          have HB:=n7_
          clear n0_ n1_ n2_ n3_ n4_ n5_ n6_ n7_
          have p204 : 0 ≤ (x13_2 : Int):=of_decide_eq_true (by first|(with_reducible assumption)|assumption)
          have q204 : x13_2 < (l0_1.length : Int):=of_decide_eq_true (by first|(with_reducible assumption)|assumption)
          obtain ⟨ad204,e204,hx204_0,hx204_1,hx204_2⟩:=at_T39 HR0_1.out x13_2 p204 q204
          have hw204_2:=hx204_2
          have hw204_1:=hx204_1
          have hw204_0:=hx204_0
          cases e204
          replace hx204_0:=(HB.out.cell (World.block_lt_of_cell? w _ hx204_0)).trans hx204_0
          replace hx204_1:=(HB.out.cell (World.block_lt_of_cell? w _ hx204_1)).trans hx204_1
          replace hx204_2:=(HB.out.cell (World.block_lt_of_cell? w _ hx204_2)).trans hx204_2
          replace p204:=eq_true p204
          replace q204:=eq_true q204
          refine start_ (n:=7) (S:=fun w' => w'.cell? ⟨gb191,0,none⟩ = some (.string a1) ∧ w'.cell? ⟨gb191,1,none⟩ = some (.string t189) ∧ w'.cell? ⟨gb191,2,none⟩ = some (.string t190) ∧ w'.cell? ⟨gb179,0,none⟩ = some (.slice A0_0 l0_0.length c0_0) ∧ w'.cell? ⟨gb179,1,none⟩ = some (.slice (some ad204) l0_1.length c0_1) ∧ w'.cell? ⟨gb179,2,none⟩ = some (.string a0_2) ∧ w'.cell? (ad204.add ((x13_2).toNat * 3)) = some (.string ((rd_T39 l0_1 x13_2).f0)) ∧ w'.cell? ⟨(ad204.add ((x13_2).toNat * 3)).block,(ad204.add ((x13_2).toNat * 3)).off + 1,none⟩ = some (.string ((rd_T39 l0_1 x13_2).f1)) ∧ w'.cell? ⟨(ad204.add ((x13_2).toNat * 3)).block,(ad204.add ((x13_2).toNat * 3)).off + 2,none⟩ = some (.string ((rd_T39 l0_1 x13_2).f2))) (ds:=[]) #[bf,bf,bf,bf,bf,bf,bf] (by kernel_rfl) rfl rfl ⟨(bC BK191.out 0).trans rfl,(bC BK191.out 1).trans rfl,(bC BK191.out 2).trans rfl,(bC BK179.out 0).trans rfl,(bC BK179.out 1).trans rfl,(bC BK179.out 2).trans rfl,((HB.out.cell (World.block_lt_of_cell? w _ hw204_0)).trans hw204_0),((HB.out.cell (World.block_lt_of_cell? w _ hw204_1)).trans hw204_1),((HB.out.cell (World.block_lt_of_cell? w _ hw204_2)).trans hw204_2)⟩ (fun hHeld => ?_)
          generalize wr.drew = w71 at HO_11 HO_189000 HO_189001 BK179 BK180 BK188 BK191 HB hx204_0 hx204_1 hx204_2 hHeld ⊢
          refine pure_ (i:=1) (N:=some 57) (v:=?_) (a':=?_) #[bf,bT,bf,bf,bf,bf,bf] rfl rfl (by kernel_rfl) (fun _ _ _ h => h) (Or.inl ⟨by rfl,?_⟩) ?_ ?_
          rotate_left
          ·intro w';go_simp;with_reducible rfl
          rotate_left
          ·simp only [Act.put,q_ia3,q_cz3,q_cs3,i64_w,i32_w];rfl
          refine pure_ (i:=3) (N:=some 59) (v:=?_) (a':=?_) #[bf,bT,bf,bT,bf,bf,bf] rfl rfl (by kernel_rfl) (fun _ _ _ h => h) (Or.inl ⟨by rfl,?_⟩) ?_ ?_
          rotate_left
          ·intro w';go_simp;with_reducible rfl
          rotate_left
          ·simp only [Act.put,q_ia3,q_cz3,q_cs3,i64_w,i32_w];rfl
          refine take_ (i:=0) (N:=some 56) (v:=?_) (a':=?_) #[bT,bT,bf,bT,bf,bf,bf] rfl rfl (by kernel_rfl) (fun _ _ _ h => h) (Or.inl ⟨by rfl,?_⟩) hHeld ?_ ?_
          rotate_left
          ·rintro w' ⟨s0,s1,s2,s3,s4,s5,s6,s7,s8⟩
           go_simp
           with_reducible rfl
          rotate_left
          ·simp only [Act.put,q_ia3,q_cz3,q_cs3,i64_w,i32_w];rfl
          refine take_ (i:=2) (N:=some 58) (v:=?_) (a':=?_) #[bT,bT,bT,bT,bf,bf,bf] rfl rfl (by kernel_rfl) (fun _ _ _ h => h) (Or.inl ⟨by rfl,?_⟩) hHeld ?_ ?_
          rotate_left
          ·rintro w' ⟨s0,s1,s2,s3,s4,s5,s6,s7,s8⟩
           go_simp
           with_reducible rfl
          rotate_left
          ·simp only [Act.put,q_ia3,q_cz3,q_cs3,i64_w,i32_w];rfl
          refine pure_ (i:=4) (N:=some 60) (v:=?_) (a':=?_) #[bT,bT,bT,bT,bT,bf,bf] rfl rfl (by kernel_rfl) (fun _ _ _ h => h) (Or.inl ⟨by rfl,?_⟩) ?_ ?_
          rotate_left
          ·intro w';go_simp;with_reducible rfl
          rotate_left
          ·simp only [Act.put,q_ia3,q_cz3,q_cs3,i64_w,i32_w];rfl
          refine take_ (i:=5) (N:=some 61) (v:=?_) (a':=?_) #[bT,bT,bT,bT,bT,bT,bf] rfl rfl (by kernel_rfl) (fun _ _ _ h => h) (Or.inl ⟨by rfl,?_⟩) hHeld ?_ ?_
          rotate_left
          ·rintro w' ⟨s0,s1,s2,s3,s4,s5,s6,s7,s8⟩
           go_simp
           with_reducible rfl
          rotate_left
          ·simp only [Act.put,q_ia3,q_cz3,q_cs3,i64_w,i32_w];rfl
          refine one_ (i:=6) (N:=some 62) #[bT,bT,bT,bT,bT,bT,bT] rfl rfl (by kernel_rfl) (by decide) (fun K hK => ?_)
          refine goes_ Try.func46 (by kernel_rfl) rfl #[.agg #[.string a1,.string t189,.string t190],.agg #[.string ((rd_T39 l0_1 x13_2).f0),.string ((rd_T39 l0_1 x13_2).f1),.string ((rd_T39 l0_1 x13_2).f2)]] (by rfl) rfl rfl (by (try simp only [List.map_toArray,List.map_cons,List.map_nil]);first|done|rfl|(simp only [List.length_drop,List.length_take];rfl)) ?_
          with_reducible refine (spec_l08Ahead.calls a1 t189 t190 ((rd_T39 l0_1 x13_2).f0) ((rd_T39 l0_1 x13_2).f1) ((rd_T39 l0_1 x13_2).f2) false _ A56.out).mono ?_
          rintro e w72 ⟨rfl,hb⟩
          refine ⟨_,rfl,?_⟩
          have n0_:=aM (rH HO_11.out hb)
          have n1_:=aM (rH HO_189000.out hb)
          have n2_:=aM (rH HO_189001.out hb)
          have n3_:=aM (bH BK179.out hb)
          have n4_:=aM (bH BK180.out hb)
          have n5_:=aM (bH BK188.out hb)
          have n6_:=aM (bH BK191.out hb)
          have n7_:=aM (lQ HB.out hb)
          clear HO_11
          clear HO_189000
          clear HO_189001
          clear BK179
          clear BK180
          clear BK188
          clear BK191
          clear HB
          have HO_11:=n0_
          have HO_189000:=n1_
          have HO_189001:=n2_
          have BK179:=n3_
          have BK180:=n4_
          have BK188:=n5_
          have BK191:=n6_
          have HB:=n7_
          clear n0_ n1_ n2_ n3_ n4_ n5_ n6_ n7_
          (try clear hb)
          (try clear hb2)
          (try clear hk)
          (try clear hi)
          refine hK.out _ _ ⟨(bC BK191.out 0).trans rfl,(bC BK191.out 1).trans rfl,(bC BK191.out 2).trans rfl,(bC BK179.out 0).trans rfl,(bC BK179.out 1).trans rfl,(bC BK179.out 2).trans rfl,((HB.out.cell (World.block_lt_of_cell? w _ hw204_0)).trans hw204_0),((HB.out.cell (World.block_lt_of_cell? w _ hw204_1)).trans hw204_1),((HB.out.cell (World.block_lt_of_cell? w _ hw204_2)).trans hw204_2)⟩ (fun hHeld => ?_)
          clear hK K
          refine norm_ (a':=?_) ?_ ?_
          rotate_left
          ·show Act.put _ (some 62) _ = _
           simp only [Act.put,q_ia3,q_cz3,q_cs3,i64_w,i32_w]
           rfl
          refine done_ (by kernel_rfl) ?_
          try go_wp2
          go_roundg k2
          case measure => have:=HK1.out;have:=HK2.out;omega
          case rel => exact ⟨(x11_2),(wrap64 (x13_2 + 1)),(by first|rfl|(simp;done)|(simp [*];done)),H',⟨by have:=HK1.out;have:=HK2.out;omega⟩,⟨by (with_reducible repeat (first|apply rA|apply rN|apply rD));exact HO_11.out⟩,⟨by (with_reducible repeat (first|apply rA|apply rN|apply rD));exact HO_189000.out⟩,⟨by (with_reducible repeat (first|apply rA|apply rN|apply rD));exact HO_189001.out⟩,⟨by (with_reducible repeat (first|refine bN ?_ _|refine bD ?_|refine bA ?_ _));exact BK179.out⟩,⟨by (with_reducible repeat (first|refine bN ?_ _|refine bD ?_|refine bA ?_ _));exact BK180.out⟩,⟨by (with_reducible repeat (first|refine bN ?_ _|refine bD ?_|refine bA ?_ _));exact BK188.out⟩,⟨by (with_reducible repeat (first|refine bN ?_ _|refine bD ?_|refine bA ?_ _));exact BK191.out⟩,⟨by repeat (first|(with_reducible first|exact HB.out|apply lA|apply lN|apply lD|refine lS ?_ GE179.out|refine lS ?_ GE180.out|refine lS ?_ GE188.out|refine lS ?_ GE191.out)|exact HB.out)⟩⟩
        ·rw [if_neg c55] at H
         exact absurd H (by simp)
       ·rw [if_neg c54] at H
        have c54b0 : decide (x13_2 < (l0_1.length : Int)) = false:=decide_eq_false c54
        clear c54
        by_cases c73 : (x11_2.length : Int) ≤ 2000
        ·rw [if_pos c73] at H
         have c73b0 : decide ((x11_2.length : Int) ≤ 2000) = true:=decide_eq_true c73
         have c73b1 : decide (x11_2.length ≤ 2000) = true:=decide_eq_true (by omega)
         clear c73
         simp only [Option.some.injEq,Prod.mk.injEq] at H
         obtain ⟨rfl,rfl,rfl⟩:=H
         have hnb74:=NB179_180.out
         have hnc74:=NB180_179.out
         have hnb75:=NB179_188.out
         have hnc75:=NB188_179.out
         have hnb76:=NB179_191.out
         have hnc76:=NB191_179.out
         obtain ⟨⟨hcz77_0,hcz77_1,hcz77_2⟩,hfz77_0,hfz77_1,hfz77_2⟩:=bC3 BK179.out
         obtain ⟨Ao78,co78,eo78⟩:=Kd.R_slice HO_11.out
         subst eo78
         have hnb79:=NB188_180.out
         have hnc79:=NB180_188.out
         have hnb80:=NB188_191.out
         have hnc80:=NB191_188.out
         obtain ⟨⟨hcz81_0,hcz81_1,hcz81_2⟩,hfz81_0,hfz81_1,hfz81_2⟩:=bC3 BK188.out
         have hnb82:=NB180_191.out
         have hnc82:=NB191_180.out
         obtain ⟨⟨hcz83_0,hcz83_1,hcz83_2⟩,hfz83_0,hfz83_1,hfz83_2⟩:=bC3 BK180.out
         go_wp2
         refine bodyPost_ret (results_cell_row rfl _ _ gb180 35 #[.slice Ao14 t181.length co14,.slice Ao78 x11_2.length co78,.string t187] (0,0) _ rfl (by (with_reducible repeat (first|refine bN ?_ _|refine bD ?_|refine bA ?_ _));refine blk_put (cs:=#[.slice Ao14 t181.length co14,.slice Ao78 x11_2.length co78,.string (⟨#[]⟩ : ByteArray)]) ?_ 2 _ rfl;(with_reducible repeat (first|refine bN ?_ _|refine bD ?_|refine bA ?_ _));refine blk_put (cs:=#[.slice Ao14 t181.length co14,.slice none 0 0,.string (⟨#[]⟩ : ByteArray)]) ?_ 1 _ rfl;(with_reducible repeat (first|refine bN ?_ _|refine bD ?_|refine bA ?_ _));refine blk_put (cs:=#[.slice none 0 0,.slice none 0 0,.string (⟨#[]⟩ : ByteArray)]) ?_ 0 _ rfl;(with_reducible repeat (first|refine bN ?_ _|refine bD ?_|refine bA ?_ _));refine blk_far ?_ NB180_188.out _;(with_reducible repeat (first|refine bN ?_ _|refine bD ?_|refine bA ?_ _));exact BK180.out) Try.underlying35 rfl (by kernel_rfl)) rfl ?_
         exact ⟨_,_,by first|rfl|(simp [errW_none,errW_some] <;> rfl)|(simp [*,errW_none,errW_some] <;> rfl),by (with_reducible repeat (first|apply rA|apply rN|apply rD));exact Kd.R_mono (rF (rF (rF (rF (rY (rY HO_189000.out BK188.out (by decide)) BK180.out (by decide)) (fun _ hk => hk.1.2) _) (fun _ hk => hk.2) _) (fun _ hk => hk.2) _) (fun _ hk => hk.2) _) (fun _ hk => trivial),by (with_reducible repeat (first|apply rA|apply rN|apply rD));exact Kd.R_mono (rF (rF (rF (rF (rY (rY HO_11.out BK188.out (by decide)) BK180.out (by decide)) (fun _ hk => hk.1.2) _) (fun _ hk => hk.2) _) (fun _ hk => hk.2) _) (fun _ hk => hk.2) _) (fun _ hk => trivial),by repeat (first|(with_reducible first|exact HB.out|apply lA|apply lN|apply lD|refine lS ?_ GE179.out|refine lS ?_ GE180.out|refine lS ?_ GE188.out|refine lS ?_ GE191.out)|exact HB.out)⟩
        ·rw [if_neg c73] at H
         have c73b0 : decide ((x11_2.length : Int) ≤ 2000) = false:=decide_eq_false c73
         have c73b1 : decide (x11_2.length ≤ 2000) = false:=decide_eq_false (by omega)
         clear c73
         simp only [Option.some.injEq,Prod.mk.injEq] at H
         obtain ⟨rfl,rfl,rfl⟩:=H
         have hnb84:=NB179_180.out
         have hnc84:=NB180_179.out
         have hnb85:=NB179_188.out
         have hnc85:=NB188_179.out
         have hnb86:=NB179_191.out
         have hnc86:=NB191_179.out
         obtain ⟨⟨hcz87_0,hcz87_1,hcz87_2⟩,hfz87_0,hfz87_1,hfz87_2⟩:=bC3 BK179.out
         obtain ⟨Ao88,co88,eo88⟩:=Kd.R_slice HO_11.out
         subst eo88
         have hnb89:=NB188_180.out
         have hnc89:=NB180_188.out
         have hnb90:=NB188_191.out
         have hnc90:=NB191_188.out
         obtain ⟨⟨hcz91_0,hcz91_1,hcz91_2⟩,hfz91_0,hfz91_1,hfz91_2⟩:=bC3 BK188.out
         have hnb92:=NB180_191.out
         have hnc92:=NB191_180.out
         obtain ⟨⟨hcz93_0,hcz93_1,hcz93_2⟩,hfz93_0,hfz93_1,hfz93_2⟩:=bC3 BK180.out
         go_wp2
         refine bodyPost_ret (results_cell_row rfl _ _ gb180 35 #[.slice Ao14 t181.length co14,.slice Ao18 t184.length co18,.string t187] (0,0) _ rfl (by (with_reducible repeat (first|refine bN ?_ _|refine bD ?_|refine bA ?_ _));refine blk_put (cs:=#[.slice Ao14 t181.length co14,.slice Ao18 t184.length co18,.string (⟨#[]⟩ : ByteArray)]) ?_ 2 _ rfl;(with_reducible repeat (first|refine bN ?_ _|refine bD ?_|refine bA ?_ _));refine blk_put (cs:=#[.slice Ao14 t181.length co14,.slice none 0 0,.string (⟨#[]⟩ : ByteArray)]) ?_ 1 _ rfl;(with_reducible repeat (first|refine bN ?_ _|refine bD ?_|refine bA ?_ _));refine blk_put (cs:=#[.slice none 0 0,.slice none 0 0,.string (⟨#[]⟩ : ByteArray)]) ?_ 0 _ rfl;(with_reducible repeat (first|refine bN ?_ _|refine bD ?_|refine bA ?_ _));exact BK180.out) Try.underlying35 rfl (by kernel_rfl)) rfl ?_
         exact ⟨_,_,by first|rfl|(simp [errW_none,errW_some] <;> rfl)|(simp [*,errW_none,errW_some] <;> rfl),by (with_reducible repeat (first|apply rA|apply rN|apply rD));exact Kd.R_mono (rF (rF (rF (rY HO_189000.out BK180.out (by decide)) (fun _ hk => hk.2) _) (fun _ hk => hk.2) _) (fun _ hk => hk.2) _) (fun _ hk => trivial),by (with_reducible repeat (first|apply rA|apply rN|apply rD));exact Kd.R_mono (rF (rF (rF (rY HO_189001.out BK180.out (by decide)) (fun _ hk => hk.2) _) (fun _ hk => hk.2) _) (fun _ hk => hk.2) _) (fun _ hk => trivial),by repeat (first|(with_reducible first|exact HB.out|apply lA|apply lN|apply lD|refine lS ?_ GE179.out|refine lS ?_ GE180.out|refine lS ?_ GE188.out|refine lS ?_ GE191.out)|exact HB.out)⟩
    ·rw [if_neg c45] at H
     exact absurd H (by simp)

end Go.Proofs.Ytekngkljphlliaa.QFnDumps
