-- A text of this session, made by wip/own_print.py (the kit's print with additions of ours).
import Derived.Test.YtodpkfidkilpdaaQFnCellsx0
import Derived.Test.YtodpkfidkilpdaaQFnCellsx3
import Derived.Test.YtodpkfidkilpdaaQFnCellsx6
namespace Go.Proofs.Ytodpkfidkilpdaa.QFnCells
open Go.RowKit Go.Proofs.YtodpkfidkilpdaaW.PrintWords Go.Proofs.YtodpkfidkilpdaaW.PrintLast Go.Proofs.YtodpkfidkilpdaaW.PrintMore
attribute [local go_sem] max2_int min2_int max_two min_two max_three min_three max_four min_four   -- for this text's walks alone
set_option linter.unusedVariables false
set_option linter.unusedSimpArgs false
open Bool renaming true → bT, false → bf
open Go.Proofs.YtodpkfidkilpdaaW.PrintWords.Kd renaming R_alloc → rA, R_drewN → rN, R_drew → rD, C_alloc → cA, C_drewN → cN, C_drew → cD, R_far → rF, R_below → rB, R_lower → rL, R_lt → rT, R_base → rS, C_below → cB, R_types → rY, R_elder' → rE, R_reads' → rR, R_new' → rW
open Go.Proofs.YtodpkfidkilpdaaW.PrintWords renaming blk_drewN → bN, blk_drew → bD, blk_alloc → bA, below_set → lS, pw_below_drewN → lN, below_drew1 → lD, below_alloc → lA, blk_cell → bC, blk_below → bB, below_size → lZ, below_step → lP, blk_lt → bL, blk_frozen → bF
open Go.Proofs.YtodpkfidkilpdaaW.PrintWords.Aside0 renaming mk → aM
theorem q_ia5 {α : Type} (l : List α) (i : Nat) (a : α) : l.toArray.setIfInBounds i a = (l.set i a).toArray := List.setIfInBounds_toArray ..
theorem q_cz5 {α : Type} (a b : α) (l : List α) : (a :: l).set 0 b = b :: l := rfl
theorem q_cs5 {α : Type} (a b : α) (l : List α) (n : Nat) : (a :: l).set (n + 1) b = a :: l.set n b := rfl

/-! ### spec_SetVar: function 28 -/
mutual
def spec_SetVar.l0 : Nat → ByteArray → ByteArray → List (S53) → Int → List (S53) → List (S57) → ByteArray → List (S53) → List (S57) → ByteArray → Option ((List (S53)) × (List (S57)) × ByteArray)
 | 0, _, _, _, _, _, _, _, _, _, _ => none
 | k + 1, x1, x2, x8, x9, x200000, x200001, x200002, x209000, x209001, x209002 => if x9 < (x200000.length : Int) then (if 0 ≤ x9 then (if (Op.bytesLess (((rd_T53 x200000 x9).f0).toList) x1.toList) = true then (if x8.length < 4398046511104 then (spec_SetVar.l0 k x1 x2 (x8 ++ [(⟨(rd_T53 x200000 x9).f0, (rd_T53 x200000 x9).f1⟩ : S53)]) (wrap64 (x9 + 1)) x200000 x200001 x200002 x209000 x209001 x209002) else (none)) else (spec_SetVar.l0 k x1 x2 x8 (wrap64 (x9 + 1)) x200000 x200001 x200002 x209000 x209001 x209002)) else (none)) else ((spec_Cut.f x2).bind fun t217 => (if x8.length < 4398046511104 then (spec_SetVar.l1 k x1 (x8 ++ [(⟨x1, t217⟩ : S53)]) 0 x200000 x200001 x200002 x209000 x209001 x209002) else (none)))
def spec_SetVar.l1 : Nat → ByteArray → List (S53) → Int → List (S53) → List (S57) → ByteArray → List (S53) → List (S57) → ByteArray → Option ((List (S53)) × (List (S57)) × ByteArray)
 | 0, _, _, _, _, _, _, _, _, _ => none
 | k + 1, x1, x8, x10, x200000, x200001, x200002, x209000, x209001, x209002 => if x10 < (x200000.length : Int) then (if 0 ≤ x10 then (if (Op.bytesLess x1.toList (((rd_T53 x200000 x10).f0).toList)) = true then (if x8.length < 4398046511104 then (spec_SetVar.l1 k x1 (x8 ++ [(⟨(rd_T53 x200000 x10).f0, (rd_T53 x200000 x10).f1⟩ : S53)]) (wrap64 (x10 + 1)) x200000 x200001 x200002 x209000 x209001 x209002) else (none)) else (spec_SetVar.l1 k x1 x8 (wrap64 (x10 + 1)) x200000 x200001 x200002 x209000 x209001 x209002)) else (none)) else (if (x8.length : Int) ≤ 60 then (some (x8, x209001, x209002)) else (some (x209000, x209001, x209002)))
end
def spec_SetVar.f (k : Nat) (l0_0 : List (S53)) (l0_1 : List (S57)) (a0_2 : ByteArray) (a1 : ByteArray) (a2 : ByteArray) : Option ((List (S53)) × (List (S57)) × ByteArray) := (spec_l08Copy.f l0_0 l0_1 a0_2).bind fun bt201 => (spec_SetVar.l0 k a1 a2 (([] : List (S53))) 0 l0_0 l0_1 a0_2 bt201.1 bt201.2.1 bt201.2.2)
theorem spec_SetVar.mono_l : ∀ k, (∀ y0 y1 y2 y3 y4 y5 y6 y7 y8 y9, LeO (spec_SetVar.l0 k y0 y1 y2 y3 y4 y5 y6 y7 y8 y9) (spec_SetVar.l0 (k + 1) y0 y1 y2 y3 y4 y5 y6 y7 y8 y9)) ∧ (∀ y0 y1 y2 y3 y4 y5 y6 y7 y8, LeO (spec_SetVar.l1 k y0 y1 y2 y3 y4 y5 y6 y7 y8) (spec_SetVar.l1 (k + 1) y0 y1 y2 y3 y4 y5 y6 y7 y8))
 | 0 => ⟨fun _ _ _ _ _ _ _ _ _ _ r h => by simp [spec_SetVar.l0] at h, fun _ _ _ _ _ _ _ _ _ r h => by simp [spec_SetVar.l1] at h⟩
 | k + 1 => by
  obtain ⟨ih0, ih1⟩ := spec_SetVar.mono_l k
  refine ⟨?_, ?_⟩
  ·intro y0 y1 y2 y3 y4 y5 y6 y7 y8 y9
   unfold spec_SetVar.l0
   repeat' first
   | (with_reducible exact ih0 _ _ _ _ _ _ _ _ _ _)
   | (with_reducible exact ih1 _ _ _ _ _ _ _ _ _)
   | (with_reducible exact LeO.refl _)
   | (with_reducible exact LeO.none _)
   | (with_reducible refine LeO.ite ?_ ?_)
   | (with_reducible refine LeO.bind ?_ (fun _ => ?_))
   | exact ih0 _ _ _ _ _ _ _ _ _ _
   | exact ih1 _ _ _ _ _ _ _ _ _
   | exact LeO.none _
   | refine LeO.ite ?_ ?_
   | refine LeO.bind ?_ (fun _ => ?_)
  ·intro y0 y1 y2 y3 y4 y5 y6 y7 y8
   unfold spec_SetVar.l1
   repeat' first
   | (with_reducible exact ih0 _ _ _ _ _ _ _ _ _ _)
   | (with_reducible exact ih1 _ _ _ _ _ _ _ _ _)
   | (with_reducible exact LeO.refl _)
   | (with_reducible exact LeO.none _)
   | (with_reducible refine LeO.ite ?_ ?_)
   | (with_reducible refine LeO.bind ?_ (fun _ => ?_))
   | exact ih0 _ _ _ _ _ _ _ _ _ _
   | exact ih1 _ _ _ _ _ _ _ _ _
   | exact LeO.none _
   | refine LeO.ite ?_ ?_
   | refine LeO.bind ?_ (fun _ => ?_)
theorem spec_SetVar.mono : ∀ a0 a1 a2 a3 a4 k, LeO (spec_SetVar.f k a0 a1 a2 a3 a4) (spec_SetVar.f (k + 1) a0 a1 a2 a3 a4) := by
 intro a0 a1 a2 a3 a4 k
 obtain ⟨ih0, ih1⟩ := spec_SetVar.mono_l k
 unfold spec_SetVar.f
 repeat' first
   | (with_reducible exact ih0 _ _ _ _ _ _ _ _ _ _)
   | (with_reducible exact ih1 _ _ _ _ _ _ _ _ _)
   | (with_reducible exact LeO.refl _)
   | (with_reducible exact LeO.none _)
   | (with_reducible refine LeO.ite ?_ ?_)
   | (with_reducible refine LeO.bind ?_ (fun _ => ?_))
   | exact ih0 _ _ _ _ _ _ _ _ _ _
   | exact ih1 _ _ _ _ _ _ _ _ _
   | exact LeO.none _
   | refine LeO.ite ?_ ?_
   | refine LeO.bind ?_ (fun _ => ?_)
set_option maxHeartbeats 8000000 in
set_option maxRecDepth 100000 in
theorem spec_SetVar.calls (k : Nat) (A0_0 : Option Addr) (c0_0 : Nat) (l0_0 : List (S53)) (A0_1 : Option Addr) (c0_1 : Nat) (l0_1 : List (S57)) (a0_2 : ByteArray) (a1 : ByteArray) (a2 : ByteArray) (r1 : List (S53)) (r2 : List (S57)) (r3 : ByteArray) (w : World) (hr0_0 : Kd.C k53 w A0_0 l0_0.length l0_0) (hc0_0 : l0_0.length ≤ c0_0) (hr0_1 : Kd.C k57 w A0_1 l0_1.length l0_1) (hc0_1 : l0_1.length ≤ c0_1) (h : spec_SetVar.f k l0_0 l0_1 a0_2 a1 a2 = some (r1,r2,r3)) :
  Calls Try.prog 28 #[.agg #[.slice A0_0 l0_0.length c0_0,.slice A0_1 l0_1.length c0_1,.string a0_2],.string a1,.string a2] w fun e w' => ∃ v0_ v1_ : Value,e = .returned (.agg #[v0_,v1_,.string r3]) ∧ Kd.R k53 53 w' w.heap.size (fun _ => True) v0_ r1 ∧ Kd.R k57 57 w' w.heap.size (fun _ => True) v1_ r2 ∧ Below w.heap.size w w':=by
 have hu38:=Try.underlying38
 have hu53:=Try.underlying53
 have HR0_0:=aM hr0_0
 have HC0_0:=aM hc0_0
 clear hr0_0 hc0_0
 have HR0_1:=aM hr0_1
 have HC0_1:=aM hc0_1
 clear hr0_1 hc0_1
 have HB:=aM (Below.refl w.heap.size w)
 have H : ((spec_l08Copy.f l0_0 l0_1 a0_2).bind fun bt201 => (spec_SetVar.l0 k a1 a2 (([] : List (S53))) 0 l0_0 l0_1 a0_2 bt201.1 bt201.2.1 bt201.2.2)) = some (r1,r2,r3):=h
 clear h
 replace H:=Option.bind_eq_some_iff.mp H
 obtain ⟨⟨t201,t204,t207⟩,A40,H⟩:=H
 replace H : (spec_SetVar.l0 k a1 a2 (([] : List (S53))) 0 l0_0 l0_1 a0_2 t201 t204 t207) = some (r1,r2,r3):=H
 have A4:=aM A40
 clear A40
 obtain ⟨y209,hy209⟩ : ∃ y_ : List (S53),y_ = (([] : List (S53))):=⟨_,rfl⟩
 replace H : (spec_SetVar.l0 k a1 a2 y209 0 l0_0 l0_1 a0_2 t201 t204 t207) = some (r1,r2,r3):=by first|(rw [hy209];with_reducible exact H)|(have H2_:=(Option.bind_some _ _).symm.trans H;rw [hy209];with_reducible exact H2_)|(have H2_:=(Option.bind_some _ _).symm.trans H;with_reducible exact H2_)|with_reducible exact H|(rw [hy209];exact H)|exact H
 have Ny209:=aM hy209
 clear hy209
 have H':=aM H
 clear H
 go_enter Try.func28,Try.ntmps28
 go_wp2_with (first|((with_reducible refine gate_dst (N:=3) rfl ?_);refine box_event ?hg (N:=3) ?hd (cs:=#[.slice A0_0 l0_0.length c0_0,.slice A0_1 l0_1.length c0_1,.string a0_2]) (t:=38) ?hr ?_;(case hd => rfl);(case hg => rfl);(case hr => first|(go_simp;done)|(go_simp;rfl));intro gb199 hg w5 hbox hb;have n0_:=aM (lQ HB.out hb);have n1_:=aM (hbox);have n2_:=aM ((sQ hg HB.out : w.heap.size ≤ gb199));have n3_:=n2_;clear HB;have HB:=n0_;have BK199:=n1_;have GW199:=n2_;have GE199:=n3_;clear n0_ n1_ n2_ n3_ hb hbox hg)|((with_reducible refine gate_dst (N:=6) rfl ?_);refine box_event ?hg (N:=6) ?hd (cs:=#[.slice none 0 0,.slice none 0 0,.string (⟨#[]⟩ : ByteArray)]) (t:=38) ?hr ?_;(case hd => rfl);(case hg => rfl);(case hr => first|(go_simp;done)|(go_simp;rfl));intro gb200 hg w6 hbox hb;have n0_:=aM (bH BK199.out hb);have n1_:=aM (lQ HB.out hb);have n2_:=aM (hbox);have n3_:=aM ((sQ hg HB.out : w.heap.size ≤ gb200));have n4_:=n3_;have n5_:=aM ((nL hg BK199.out : gb199 ≠ gb200));have n6_:=aM ((nG hg BK199.out : gb200 ≠ gb199));clear BK199 HB;have BK199:=n0_;have HB:=n1_;have BK200:=n2_;have GW200:=n3_;have GE200:=n4_;have NB199_200:=n5_;have NB200_199:=n6_;clear n0_ n1_ n2_ n3_ n4_ n5_ n6_ hb hbox hg;have hnb7:=NB199_200.out;have hnc7:=NB200_199.out;obtain ⟨⟨hcz8_0,hcz8_1,hcz8_2⟩,hfz8_0,hfz8_1,hfz8_2⟩:=bC3 BK199.out)|((with_reducible refine gate_callee (f:=50) rfl ?_);refine goesL_ (some 12) rfl rfl Try.func50 (by kernel_rfl) rfl #[.agg #[.slice A0_0 l0_0.length c0_0,.slice A0_1 l0_1.length c0_1,.string a0_2]] rfl (by (try simp only [List.map_toArray,List.map_cons,List.map_nil]);first|done|rfl|(simp only [List.length_drop,List.length_take];rfl)) ?_;(with_reducible refine (spec_l08Copy.calls _ _ l0_0 _ _ l0_1 a0_2 t201 t204 t207 _ ?side1 ?side2 ?side3 ?side4 A4.out).mono ?_);(case side1 => repeat (first|exact (cB HR0_0.out HB.out)|(with_reducible first|refine cA ?_ _|refine cN ?_ _|refine cD ?_)));(case side2 => exact HC0_0.out);(case side3 => repeat (first|exact (cB HR0_1.out HB.out)|(with_reducible first|refine cA ?_ _|refine cN ?_ _|refine cD ?_)));(case side4 => exact HC0_1.out);rintro e w9 ⟨v202,v205,rfl,ho0,ho1,hb⟩;refine ⟨_,rfl,?_⟩;have n0_:=aM (rL ho0 (lZ (by repeat (first|(with_reducible first|exact HB.out|apply lA|apply lN|apply lD|refine lS ?_ GE199.out|refine lS ?_ GE200.out)|exact HB.out))));have n1_:=aM (rL ho1 (lZ (by repeat (first|(with_reducible first|exact HB.out|apply lA|apply lN|apply lD|refine lS ?_ GE199.out|refine lS ?_ GE200.out)|exact HB.out))));have n2_:=aM (bH BK199.out hb);have n3_:=aM (bH BK200.out hb);have n4_:=aM (lQ HB.out hb);clear BK199 BK200 HB;have HO203:=n0_;have HO206:=n1_;have BK199:=n2_;have BK200:=n3_;have HB:=n4_;clear n0_ n1_ n2_ n3_ n4_;(try clear hb);(try clear hb2);(try clear hk);(try clear hi);(try clear ho0);(try clear ho1))|((with_reducible refine gate_dst (N:=7) rfl ?_);refine box_event ?hg (N:=7) ?hd (cs:=#[.slice none 0 0,.slice none 0 0,.string (⟨#[]⟩ : ByteArray)]) (t:=38) ?hr ?_;(case hd => rfl);(case hg => rfl);(case hr => first|(go_simp;done)|(go_simp;rfl));intro gb208 hg w10 hbox hb;have n0_:=aM (rH HO203.out hb);have n1_:=aM (rH HO206.out hb);have n2_:=aM (bH BK199.out hb);have n3_:=aM (bH BK200.out hb);have n4_:=aM (lQ HB.out hb);have n5_:=aM (hbox);have n6_:=aM ((sQ hg HB.out : w.heap.size ≤ gb208));have n7_:=n6_;have n8_:=aM ((nL hg BK199.out : gb199 ≠ gb208));have n9_:=aM ((nG hg BK199.out : gb208 ≠ gb199));have n10_:=aM ((nL hg BK200.out : gb200 ≠ gb208));have n11_:=aM ((nG hg BK200.out : gb208 ≠ gb200));clear HO203 HO206 BK199 BK200 HB;have HO203:=n0_;have HO206:=n1_;have BK199:=n2_;have BK200:=n3_;have HB:=n4_;have BK208:=n5_;have GW208:=n6_;have GE208:=n7_;have NB199_208:=n8_;have NB208_199:=n9_;have NB200_208:=n10_;have NB208_200:=n11_;clear n0_ n1_ n2_ n3_ n4_ n5_ n6_ n7_ n8_ n9_ n10_ n11_ hb hbox hg;obtain ⟨Ao11,co11,eo11⟩:=Kd.R_slice HO203.out;subst eo11;have hnb12:=NB208_199.out;have hnc12:=NB199_208.out;have hnb13:=NB208_200.out;have hnc13:=NB200_208.out;obtain ⟨⟨hcz14_0,hcz14_1,hcz14_2⟩,hfz14_0,hfz14_1,hfz14_2⟩:=bC3 BK208.out;obtain ⟨Ao15,co15,eo15⟩:=Kd.R_slice HO206.out;subst eo15)|((with_reducible refine gate_dst (N:=13) rfl ?_);refine Kd.R_lit k53 _ 53 ?hg (N:=13) ?hd (xs:=([] : List (S53))) (inner:=[]) (ok:=fun _ => True) (okp:=fun _ => True) ?hr ?hp (fun _ hk => hk) trivial (Below.refl _ _) (Nat.le_refl _) (by simp) ?_;(case hd => rfl);(case hg => rfl);(case hr => first|(go_simp;done)|(go_simp;rfl));(case hp => exact (Reps.none _ _));intro v210 w16 ho17 hb hg_ hnew_;clear hg_ hnew_;(first|rw [← Ny209.out] at ho17|(simp only [Int.reduceToNat] at ho17;rw [← Ny209.out] at ho17));have n0_:=aM (rE (by (with_reducible repeat (first|apply rA|apply rN|apply rD));exact (Kd.R_mono (rF (rF (rF (rY HO203.out BK208.out (by decide)) (fun _ hk => hk.2) _) (fun _ hk => hk.2) _) (fun _ hk => hk.2) _) (fun _ h_ => h_.1))) (rS ho17) hb);have n1_:=aM (rB (by (with_reducible repeat (first|apply rA|apply rN|apply rD));exact (Kd.R_mono (rF (rF (rF (rY HO206.out BK208.out (by decide)) (fun _ hk => hk.2) _) (fun _ hk => hk.2) _) (fun _ hk => hk.2) _) (fun _ h_ => h_.1))) hb);have n2_:=aM (rL (rW ho17 (rT (by (with_reducible repeat (first|apply rA|apply rN|apply rD));exact (Kd.R_mono (rF (rF (rF (rY HO203.out BK208.out (by decide)) (fun _ hk => hk.2) _) (fun _ hk => hk.2) _) (fun _ hk => hk.2) _) (fun _ h_ => h_.1))))) (lZ (by repeat (first|(with_reducible first|exact HB.out|apply lA|apply lN|apply lD|refine lS ?_ GE199.out|refine lS ?_ GE200.out|refine lS ?_ GE208.out)|exact HB.out))));have n3_:=aM (bB (g:=gb199) (o:=.cells #[.slice A0_0 l0_0.length c0_0,.slice A0_1 l0_1.length c0_1,.string a0_2] 38 (0,0)) (by (with_reducible repeat (first|refine bN ?_ _|refine bD ?_|refine bA ?_ _));refine blk_far ?_ NB199_208.out _;(with_reducible repeat (first|refine bN ?_ _|refine bD ?_|refine bA ?_ _));refine blk_far ?_ NB199_208.out _;(with_reducible repeat (first|refine bN ?_ _|refine bD ?_|refine bA ?_ _));refine blk_far ?_ NB199_208.out _;(with_reducible repeat (first|refine bN ?_ _|refine bD ?_|refine bA ?_ _));exact BK199.out) hb);have n4_:=aM (bB (g:=gb200) (o:=.cells #[.slice none 0 0,.slice none 0 0,.string (⟨#[]⟩ : ByteArray)] 38 (0,0)) (by (with_reducible repeat (first|refine bN ?_ _|refine bD ?_|refine bA ?_ _));refine blk_far ?_ NB200_208.out _;(with_reducible repeat (first|refine bN ?_ _|refine bD ?_|refine bA ?_ _));refine blk_far ?_ NB200_208.out _;(with_reducible repeat (first|refine bN ?_ _|refine bD ?_|refine bA ?_ _));refine blk_far ?_ NB200_208.out _;(with_reducible repeat (first|refine bN ?_ _|refine bD ?_|refine bA ?_ _));exact BK200.out) hb);have n5_:=aM (bB (g:=gb208) (o:=.cells #[.slice Ao11 t201.length co11,.slice Ao15 t204.length co15,.string t207] 38 (0,0)) (by (with_reducible repeat (first|refine bN ?_ _|refine bD ?_|refine bA ?_ _));refine blk_put (cs:=#[.slice Ao11 t201.length co11,.slice Ao15 t204.length co15,.string (⟨#[]⟩ : ByteArray)]) ?_ 2 _ rfl;(with_reducible repeat (first|refine bN ?_ _|refine bD ?_|refine bA ?_ _));refine blk_put (cs:=#[.slice Ao11 t201.length co11,.slice none 0 0,.string (⟨#[]⟩ : ByteArray)]) ?_ 1 _ rfl;(with_reducible repeat (first|refine bN ?_ _|refine bD ?_|refine bA ?_ _));refine blk_put (cs:=#[.slice none 0 0,.slice none 0 0,.string (⟨#[]⟩ : ByteArray)]) ?_ 0 _ rfl;(with_reducible repeat (first|refine bN ?_ _|refine bD ?_|refine bA ?_ _));exact BK208.out) hb);have n6_:=aM (lQ HB.out hb);clear HO203 HO206 BK199 BK200 BK208 HB;have HO203:=n0_;have HO206:=n1_;have HO211:=n2_;have BK199:=n3_;have BK200:=n4_;have BK208:=n5_;have HB:=n6_;clear n0_ n1_ n2_ n3_ n4_ n5_ n6_ hb ho17))
 go_loopg [8,9] k (fun kq v8 v9 w' => ∃ (x8_1 : List (S53)) (x9_1 : Int),v9 = .int .i64 x9_1 ∧ Aside0 (spec_SetVar.l0 kq a1 a2 x8_1 x9_1 l0_0 l0_1 a0_2 t201 t204 t207 = some (r1,r2,r3)) ∧ Aside0 (kq ≤ k) ∧ Aside0 (Kd.R k53 53 w' w.heap.size (fun k_ => some k_ ≠ ((.slice Ao11 t201.length co11) : Value).ownBlock) v8 x8_1) ∧ Aside0 (Kd.R k53 53 w' w.heap.size (fun k_ => some k_ ≠ (v8 : Value).ownBlock) (.slice Ao11 t201.length co11) t201) ∧ Aside0 (Kd.R k57 57 w' w.heap.size (fun _ => True) (.slice Ao15 t204.length co15) t204) ∧ Aside0 (w'.heap[gb199]? = some (.cells #[(.slice A0_0 l0_0.length c0_0),(.slice A0_1 l0_1.length c0_1),.string a0_2] 38 (0,0))) ∧ Aside0 (w'.heap[gb200]? = some (.cells #[(.slice none 0 0),(.slice none 0 0),.string (⟨#[]⟩ : ByteArray)] 38 (0,0))) ∧ Aside0 (w'.heap[gb208]? = some (.cells #[(.slice Ao11 t201.length co11),(.slice Ao15 t204.length co15),.string t207] 38 (0,0))) ∧ Aside0 (Below w.heap.size w w'))
 case atStart => exact ⟨(y209),(0),(by first|rfl|(simp;done)|(simp [*];done)),H',⟨Nat.le_refl _⟩,⟨by (with_reducible repeat (first|apply rA|apply rN|apply rD));exact Kd.R_mono HO211.out (fun _ hk => hk.2)⟩,⟨by (with_reducible repeat (first|apply rA|apply rN|apply rD));exact Kd.R_mono HO203.out (fun _ hk => hk.2)⟩,⟨by (with_reducible repeat (first|apply rA|apply rN|apply rD));exact HO206.out⟩,⟨by (with_reducible repeat (first|refine bN ?_ _|refine bD ?_|refine bA ?_ _));exact BK199.out⟩,⟨by (with_reducible repeat (first|refine bN ?_ _|refine bD ?_|refine bA ?_ _));exact BK200.out⟩,⟨by (with_reducible repeat (first|refine bN ?_ _|refine bD ?_|refine bA ?_ _));exact BK208.out⟩,⟨by repeat (first|(with_reducible first|exact HB.out|apply lA|apply lN|apply lD|refine lS ?_ GE199.out|refine lS ?_ GE200.out|refine lS ?_ GE208.out)|exact HB.out)⟩⟩
 case round =>
  clear H'
  try clear c1
  try clear c2
  try clear p2
  try clear c5
  try clear c7
  try clear c12
  try clear c13
  try clear hcz14_0
  try clear hcz14_1
  try clear hcz14_2
  try clear hcz8_0
  try clear hcz8_1
  try clear hcz8_2
  obtain ⟨x8_1,x9_1,rfl,HA,HK1,HO_8,HO_209000,HO_209001,BK199,BK200,BK208,HB⟩:=hrel
  cases gk with
  |zero => exact absurd HA.out (by simp [spec_SetVar.l0])
  |succ k1 =>
   have H:=HA.out
   clear HA
   simp only [spec_SetVar.l0] at H
   by_cases c18 : x9_1 < (l0_0.length : Int)
   ·rw [if_pos c18] at H
    have c18b0 : decide (x9_1 < (l0_0.length : Int)) = true:=decide_eq_true c18
    clear c18
    by_cases c19 : 0 ≤ x9_1
    ·rw [if_pos c19] at H
     have c19b0 : decide (0 ≤ x9_1) = true:=decide_eq_true c19
     clear c19
     by_cases c20 : (Op.bytesLess (((rd_T53 l0_0 x9_1).f0).toList) a1.toList) = true
     ·rw [if_pos c20] at H
      have c20b0 : (Op.bytesLess (((rd_T53 l0_0 x9_1).f0).toList) a1.toList) = true:=c20
      clear c20
      by_cases c21 : x8_1.length < 4398046511104
      ·rw [if_pos c21] at H
       have LMc21:=aM c21
       clear c21
       obtain ⟨y214,hy214⟩ : ∃ y_ : List (S53),y_ = (x8_1 ++ [(⟨(rd_T53 l0_0 x9_1).f0,(rd_T53 l0_0 x9_1).f1⟩ : S53)]):=⟨_,rfl⟩
       replace H : (spec_SetVar.l0 k1 a1 a2 y214 (wrap64 (x9_1 + 1)) l0_0 l0_1 a0_2 t201 t204 t207) = some (r1,r2,r3):=by first|(rw [hy214];with_reducible exact H)|(have H2_:=(Option.bind_some _ _).symm.trans H;rw [hy214];with_reducible exact H2_)|(have H2_:=(Option.bind_some _ _).symm.trans H;with_reducible exact H2_)|with_reducible exact H|(rw [hy214];exact H)|exact H
       have Ny214:=aM hy214
       clear hy214
       have H':=aM H
       clear H
       have hnb22:=NB199_200.out
       have hnc22:=NB200_199.out
       have hnb23:=NB199_208.out
       have hnc23:=NB208_199.out
       obtain ⟨⟨hcz24_0,hcz24_1,hcz24_2⟩,hfz24_0,hfz24_1,hfz24_2⟩:=bC3 BK199.out
       have p212 : 0 ≤ (x9_1 : Int):=of_decide_eq_true (by first|(with_reducible assumption)|assumption)
       have q212 : x9_1 < (l0_0.length : Int):=of_decide_eq_true (by first|(with_reducible assumption)|assumption)
       obtain ⟨ad212,e212,hx212_0,hx212_1⟩:=at_T53 HR0_0.out x9_1 p212 q212
       cases e212
       replace hx212_0:=(HB.out.cell (World.block_lt_of_cell? w _ hx212_0)).trans hx212_0
       replace hx212_1:=(HB.out.cell (World.block_lt_of_cell? w _ hx212_1)).trans hx212_1
       replace p212:=eq_true p212
       replace q212:=eq_true q212
       have p213 : 0 ≤ (x9_1 : Int):=of_decide_eq_true (by first|(with_reducible assumption)|assumption)
       have q213 : x9_1 < (l0_0.length : Int):=of_decide_eq_true (by first|(with_reducible assumption)|assumption)
       obtain ⟨ad213,e213,hx213_0,hx213_1⟩:=at_T53 HR0_0.out x9_1 p213 q213
       obtain rfl : ad212 = ad213:=(by injection e213)
       replace hx213_0:=(HB.out.cell (World.block_lt_of_cell? w _ hx213_0)).trans hx213_0
       replace hx213_1:=(HB.out.cell (World.block_lt_of_cell? w _ hx213_1)).trans hx213_1
       replace p213:=eq_true p213
       replace q213:=eq_true q213
       go_wp2_with (first|((with_reducible refine gate_builtin (b:=.append) (xs:=#[.tmp 29,.tmp 35]) rfl ?_);at_builtin;refine Kd.R_append k53 (w0:=w) w.heap.size rfl (.tmp 29) (.tmp 35) 35 53 (.agg #[(.string ⟨#[]⟩),(.string ⟨#[]⟩)]) 32 rfl Try.underlying35 info53 rfl (by decide) (by omega) u8 x8_1 (⟨(rd_T53 l0_0 x9_1).f0,(rd_T53 l0_0 x9_1).f1⟩ : S53) [.string ((rd_T53 l0_0 x9_1).f0),.string ((rd_T53 l0_0 x9_1).f1)] (fun k_ => some k_ ≠ (.slice Ao11 t201.length co11 : Value).ownBlock) (fun _ => False) rfl rfl ?aP (fun _ hk => hk.elim) ?aF ?aO ?aB ?aS ?aL ?_;(case aP => exact k53_mkM _ _ _ (⟨(rd_T53 l0_0 x9_1).f0,(rd_T53 l0_0 x9_1).f1⟩ : S53));(case aB => exact (by repeat (first|(with_reducible first|exact HB.out|apply lA|apply lN|apply lD|refine lS ?_ GE199.out|refine lS ?_ GE200.out|refine lS ?_ GE208.out)|exact HB.out)));(case aF => exact (fun k_ hk => Kd.fresh' (rT (rZ HO_209000.out)) k_ hk));(case aO => exact (rZ HO_8.out));(case aS => exact (lZ (by repeat (first|(with_reducible first|exact HB.out|apply lA|apply lN|apply lD|refine lS ?_ GE199.out|refine lS ?_ GE200.out|refine lS ?_ GE208.out)|exact HB.out))));(case aL => have:=LMc21.out;omega);intro v215 w25 ho hb hg hat;rw [← Ny214.out] at ho;have n0_:=aM (Kd.R_after (ok:=(fun _ => True)) (by (with_reducible repeat (first|apply rA|apply rN|apply rD));exact Kd.R_mono HO_209000.out (fun _ hk => ⟨trivial,hk⟩)) hg hat);have n1_:=aM (Kd.R_over' (rZ HO_209001.out) (Kd.R_typed (rZ HO_8.out)) (by decide) hg);have n2_:=aM (blk_grown (g:=gb199) (o:=.cells #[.slice (some ad212) l0_0.length c0_0,.slice A0_1 l0_1.length c0_1,.string a0_2] 38 (0,0)) (by (with_reducible repeat (first|refine bN ?_ _|refine bD ?_|refine bA ?_ _));exact BK199.out) hg (Kd.R_ne HO_8.out BK199.out (by decide)));have n3_:=aM (blk_grown (g:=gb200) (o:=.cells #[.slice none 0 0,.slice none 0 0,.string (⟨#[]⟩ : ByteArray)] 38 (0,0)) (by (with_reducible repeat (first|refine bN ?_ _|refine bD ?_|refine bA ?_ _));exact BK200.out) hg (Kd.R_ne HO_8.out BK200.out (by decide)));have n4_:=aM (blk_grown (g:=gb208) (o:=.cells #[.slice Ao11 t201.length co11,.slice Ao15 t204.length co15,.string t207] 38 (0,0)) (by (with_reducible repeat (first|refine bN ?_ _|refine bD ?_|refine bA ?_ _));exact BK208.out) hg (Kd.R_ne HO_8.out BK208.out (by decide)));have n5_:=aM (hb);have n6_:=aM (ho);clear HO_209000 HO_209001 BK199 BK200 BK208 HB HO_8;have HO_209000:=n0_;have HO_209001:=n1_;have BK199:=n2_;have BK200:=n3_;have BK208:=n4_;have HB:=n5_;have HO216:=n6_;clear n0_ n1_ n2_ n3_ n4_ n5_ n6_ ho hb hg hat))
       go_roundg k1
       case measure => have:=HK1.out;omega
       case rel => exact ⟨(y214),(wrap64 (x9_1 + 1)),(by first|rfl|(simp;done)|(simp [*];done)),H',⟨by have:=HK1.out;omega⟩,⟨by (with_reducible repeat (first|apply rA|apply rN|apply rD));exact HO216.out⟩,⟨by (with_reducible repeat (first|apply rA|apply rN|apply rD));exact Kd.R_mono HO_209000.out (fun _ hk => hk.2)⟩,⟨by (with_reducible repeat (first|apply rA|apply rN|apply rD));exact HO_209001.out⟩,⟨by (with_reducible repeat (first|refine bN ?_ _|refine bD ?_|refine bA ?_ _));exact BK199.out⟩,⟨by (with_reducible repeat (first|refine bN ?_ _|refine bD ?_|refine bA ?_ _));exact BK200.out⟩,⟨by (with_reducible repeat (first|refine bN ?_ _|refine bD ?_|refine bA ?_ _));exact BK208.out⟩,⟨by repeat (first|(with_reducible first|exact HB.out|apply lA|apply lN|apply lD|refine lS ?_ GE199.out|refine lS ?_ GE200.out|refine lS ?_ GE208.out)|exact HB.out)⟩⟩
      ·rw [if_neg c21] at H
       exact absurd H (by simp)
     ·rw [if_neg c20] at H
      have c20b0 : (Op.bytesLess (((rd_T53 l0_0 x9_1).f0).toList) a1.toList) = false:=by simpa using c20
      clear c20
      have H':=aM H
      clear H
      have hnb26:=NB199_200.out
      have hnc26:=NB200_199.out
      have hnb27:=NB199_208.out
      have hnc27:=NB208_199.out
      obtain ⟨⟨hcz28_0,hcz28_1,hcz28_2⟩,hfz28_0,hfz28_1,hfz28_2⟩:=bC3 BK199.out
      have p212 : 0 ≤ (x9_1 : Int):=of_decide_eq_true (by first|(with_reducible assumption)|assumption)
      have q212 : x9_1 < (l0_0.length : Int):=of_decide_eq_true (by first|(with_reducible assumption)|assumption)
      obtain ⟨ad212,e212,hx212_0,hx212_1⟩:=at_T53 HR0_0.out x9_1 p212 q212
      cases e212
      replace hx212_0:=(HB.out.cell (World.block_lt_of_cell? w _ hx212_0)).trans hx212_0
      replace hx212_1:=(HB.out.cell (World.block_lt_of_cell? w _ hx212_1)).trans hx212_1
      replace p212:=eq_true p212
      replace q212:=eq_true q212
      go_wp2
      go_roundg k1
      case measure => have:=HK1.out;omega
      case rel => exact ⟨(x8_1),(wrap64 (x9_1 + 1)),(by first|rfl|(simp;done)|(simp [*];done)),H',⟨by have:=HK1.out;omega⟩,⟨by (with_reducible repeat (first|apply rA|apply rN|apply rD));exact HO_8.out⟩,⟨by (with_reducible repeat (first|apply rA|apply rN|apply rD));exact HO_209000.out⟩,⟨by (with_reducible repeat (first|apply rA|apply rN|apply rD));exact HO_209001.out⟩,⟨by (with_reducible repeat (first|refine bN ?_ _|refine bD ?_|refine bA ?_ _));exact BK199.out⟩,⟨by (with_reducible repeat (first|refine bN ?_ _|refine bD ?_|refine bA ?_ _));exact BK200.out⟩,⟨by (with_reducible repeat (first|refine bN ?_ _|refine bD ?_|refine bA ?_ _));exact BK208.out⟩,⟨by repeat (first|(with_reducible first|exact HB.out|apply lA|apply lN|apply lD|refine lS ?_ GE199.out|refine lS ?_ GE200.out|refine lS ?_ GE208.out)|exact HB.out)⟩⟩
    ·rw [if_neg c19] at H
     exact absurd H (by simp)
   ·rw [if_neg c18] at H
    have c18b0 : decide (x9_1 < (l0_0.length : Int)) = false:=decide_eq_false c18
    clear c18
    replace H:=Option.bind_eq_some_iff.mp H
    obtain ⟨t217,A290,H⟩:=H
    replace H : (if x8_1.length < 4398046511104 then (spec_SetVar.l1 k1 a1 (x8_1 ++ [(⟨a1,t217⟩ : S53)]) 0 l0_0 l0_1 a0_2 t201 t204 t207) else (none)) = some (r1,r2,r3):=H
    have A29:=aM A290
    clear A290
    by_cases c30 : x8_1.length < 4398046511104
    ·rw [if_pos c30] at H
     have LMc30:=aM c30
     clear c30
     obtain ⟨y218,hy218⟩ : ∃ y_ : List (S53),y_ = (x8_1 ++ [(⟨a1,t217⟩ : S53)]):=⟨_,rfl⟩
     replace H : (spec_SetVar.l1 k1 a1 y218 0 l0_0 l0_1 a0_2 t201 t204 t207) = some (r1,r2,r3):=by first|(rw [hy218];with_reducible exact H)|(have H2_:=(Option.bind_some _ _).symm.trans H;rw [hy218];with_reducible exact H2_)|(have H2_:=(Option.bind_some _ _).symm.trans H;with_reducible exact H2_)|with_reducible exact H|(rw [hy218];exact H)|exact H
     have Ny218:=aM hy218
     clear hy218
     have H':=aM H
     clear H
     have hnb31:=NB199_200.out
     have hnc31:=NB200_199.out
     have hnb32:=NB199_208.out
     have hnc32:=NB208_199.out
     obtain ⟨⟨hcz33_0,hcz33_1,hcz33_2⟩,hfz33_0,hfz33_1,hfz33_2⟩:=bC3 BK199.out
     go_wp2_with (first|((with_reducible refine gate_callee (f:=39) rfl ?_);refine goesL_ (some 40) rfl rfl Try.func39 (by kernel_rfl) rfl #[.string a2] rfl (by (try simp only [List.map_toArray,List.map_cons,List.map_nil]);first|done|rfl|(simp only [List.length_drop,List.length_take];rfl)) ?_;(with_reducible refine (spec_Cut.calls a2 t217 _ A29.out).mono ?_);rintro e w' ⟨rfl,⟨nd,rfl⟩⟩;refine ⟨_,rfl,?_⟩)|((with_reducible refine gate_builtin (b:=.append) (xs:=#[.tmp 37,.tmp 42]) rfl ?_);at_builtin;refine Kd.R_append k53 (w0:=w) w.heap.size rfl (.tmp 37) (.tmp 42) 35 53 (.agg #[(.string ⟨#[]⟩),(.string ⟨#[]⟩)]) 32 rfl Try.underlying35 info53 rfl (by decide) (by omega) u8 x8_1 (⟨a1,t217⟩ : S53) [.string a1,.string t217] (fun k_ => some k_ ≠ (.slice Ao11 t201.length co11 : Value).ownBlock) (fun _ => False) rfl rfl ?aP (fun _ hk => hk.elim) ?aF ?aO ?aB ?aS ?aL ?_;(case aP => exact k53_mkM _ _ _ (⟨a1,t217⟩ : S53));(case aB => exact (by repeat (first|(with_reducible first|exact HB.out|apply lA|apply lN|apply lD|refine lS ?_ GE199.out|refine lS ?_ GE200.out|refine lS ?_ GE208.out)|exact HB.out)));(case aF => exact (fun k_ hk => Kd.fresh' (rT (rZ HO_209000.out)) k_ hk));(case aO => exact (rZ HO_8.out));(case aS => exact (lZ (by repeat (first|(with_reducible first|exact HB.out|apply lA|apply lN|apply lD|refine lS ?_ GE199.out|refine lS ?_ GE200.out|refine lS ?_ GE208.out)|exact HB.out))));(case aL => have:=LMc30.out;omega);intro v219 w34 ho hb hg hat;rw [← Ny218.out] at ho;have n0_:=aM (Kd.R_after (ok:=(fun _ => True)) (by (with_reducible repeat (first|apply rA|apply rN|apply rD));exact Kd.R_mono HO_209000.out (fun _ hk => ⟨trivial,hk⟩)) hg hat);have n1_:=aM (Kd.R_over' (rZ HO_209001.out) (Kd.R_typed (rZ HO_8.out)) (by decide) hg);have n2_:=aM (blk_grown (g:=gb199) (o:=.cells #[.slice A0_0 l0_0.length c0_0,.slice A0_1 l0_1.length c0_1,.string a0_2] 38 (0,0)) (by (with_reducible repeat (first|refine bN ?_ _|refine bD ?_|refine bA ?_ _));exact BK199.out) hg (Kd.R_ne HO_8.out BK199.out (by decide)));have n3_:=aM (blk_grown (g:=gb200) (o:=.cells #[.slice none 0 0,.slice none 0 0,.string (⟨#[]⟩ : ByteArray)] 38 (0,0)) (by (with_reducible repeat (first|refine bN ?_ _|refine bD ?_|refine bA ?_ _));exact BK200.out) hg (Kd.R_ne HO_8.out BK200.out (by decide)));have n4_:=aM (blk_grown (g:=gb208) (o:=.cells #[.slice Ao11 t201.length co11,.slice Ao15 t204.length co15,.string t207] 38 (0,0)) (by (with_reducible repeat (first|refine bN ?_ _|refine bD ?_|refine bA ?_ _));exact BK208.out) hg (Kd.R_ne HO_8.out BK208.out (by decide)));have n5_:=aM (hb);have n6_:=aM (ho);clear HO_209000 HO_209001 BK199 BK200 BK208 HB HO_8;have HO_209000:=n0_;have HO_209001:=n1_;have BK199:=n2_;have BK200:=n3_;have BK208:=n4_;have HB:=n5_;have HO220:=n6_;clear n0_ n1_ n2_ n3_ n4_ n5_ n6_ ho hb hg hat))
     go_loopg [8,10] k1 (fun kq v8 v10 w' => ∃ (x8_2 : List (S53)) (x10_2 : Int),v10 = .int .i64 x10_2 ∧ Aside0 (spec_SetVar.l1 kq a1 x8_2 x10_2 l0_0 l0_1 a0_2 t201 t204 t207 = some (r1,r2,r3)) ∧ Aside0 (kq ≤ k1) ∧ Aside0 (Kd.R k53 53 w' w.heap.size (fun k_ => some k_ ≠ ((.slice Ao11 t201.length co11) : Value).ownBlock) v8 x8_2) ∧ Aside0 (Kd.R k53 53 w' w.heap.size (fun k_ => some k_ ≠ (v8 : Value).ownBlock) (.slice Ao11 t201.length co11) t201) ∧ Aside0 (Kd.R k57 57 w' w.heap.size (fun _ => True) (.slice Ao15 t204.length co15) t204) ∧ Aside0 (w'.heap[gb199]? = some (.cells #[(.slice A0_0 l0_0.length c0_0),(.slice A0_1 l0_1.length c0_1),.string a0_2] 38 (0,0))) ∧ Aside0 (w'.heap[gb200]? = some (.cells #[(.slice none 0 0),(.slice none 0 0),.string (⟨#[]⟩ : ByteArray)] 38 (0,0))) ∧ Aside0 (w'.heap[gb208]? = some (.cells #[(.slice Ao11 t201.length co11),(.slice Ao15 t204.length co15),.string t207] 38 (0,0))) ∧ Aside0 (Below w.heap.size w w'))
     case atStart => exact ⟨(y218),(0),(by first|rfl|(simp;done)|(simp [*];done)),H',⟨Nat.le_refl _⟩,⟨by (with_reducible repeat (first|apply rA|apply rN|apply rD));exact HO220.out⟩,⟨by (with_reducible repeat (first|apply rA|apply rN|apply rD));exact Kd.R_mono HO_209000.out (fun _ hk => hk.2)⟩,⟨by (with_reducible repeat (first|apply rA|apply rN|apply rD));exact HO_209001.out⟩,⟨by (with_reducible repeat (first|refine bN ?_ _|refine bD ?_|refine bA ?_ _));exact BK199.out⟩,⟨by (with_reducible repeat (first|refine bN ?_ _|refine bD ?_|refine bA ?_ _));exact BK200.out⟩,⟨by (with_reducible repeat (first|refine bN ?_ _|refine bD ?_|refine bA ?_ _));exact BK208.out⟩,⟨by repeat (first|(with_reducible first|exact HB.out|apply lA|apply lN|apply lD|refine lS ?_ GE199.out|refine lS ?_ GE200.out|refine lS ?_ GE208.out)|exact HB.out)⟩⟩
     case round =>
      clear H'
      try clear c1
      try clear c2
      try clear p2
      try clear q2
      try clear hx2
      try clear c3
      try clear c5
      try clear p6
      try clear c7
      try clear c12
      try clear c13
      try clear c18
      try clear c18b0
      try clear c19
      try clear c19b0
      try clear c20
      try clear c20b0
      try clear c21
      try clear p21
      try clear q21
      try clear hx21
      try clear c22
      try clear c23
      try clear c26
      try clear c27
      try clear c28
      try clear c30
      try clear c31
      try clear c32
      try clear hcz14_0
      try clear hcz14_1
      try clear hcz14_2
      try clear hcz24_0
      try clear hcz24_1
      try clear hcz24_2
      try clear hcz28_0
      try clear hcz28_1
      try clear hcz28_2
      try clear hcz33_0
      try clear hcz33_1
      try clear hcz33_2
      try clear hcz8_0
      try clear hcz8_1
      try clear hcz8_2
      try clear hx212_0
      try clear hx212_1
      try clear hx213_0
      try clear hx213_1
      try clear p2
      try clear p212
      try clear p213
      try clear q212
      try clear q213
      obtain ⟨x8_2,x10_2,rfl,HA,HK2,HO_8,HO_209000,HO_209001,BK199,BK200,BK208,HB⟩:=hrel
      cases gk with
      |zero => exact absurd HA.out (by simp [spec_SetVar.l1])
      |succ k2 =>
       have H:=HA.out
       clear HA
       simp only [spec_SetVar.l1] at H
       by_cases c35 : x10_2 < (l0_0.length : Int)
       ·rw [if_pos c35] at H
        have c35b0 : decide (x10_2 < (l0_0.length : Int)) = true:=decide_eq_true c35
        clear c35
        by_cases c36 : 0 ≤ x10_2
        ·rw [if_pos c36] at H
         have c36b0 : decide (0 ≤ x10_2) = true:=decide_eq_true c36
         clear c36
         by_cases c37 : (Op.bytesLess a1.toList (((rd_T53 l0_0 x10_2).f0).toList)) = true
         ·rw [if_pos c37] at H
          have c37b0 : (Op.bytesLess a1.toList (((rd_T53 l0_0 x10_2).f0).toList)) = true:=c37
          clear c37
          by_cases c38 : x8_2.length < 4398046511104
          ·rw [if_pos c38] at H
           have LMc38:=aM c38
           clear c38
           obtain ⟨y223,hy223⟩ : ∃ y_ : List (S53),y_ = (x8_2 ++ [(⟨(rd_T53 l0_0 x10_2).f0,(rd_T53 l0_0 x10_2).f1⟩ : S53)]):=⟨_,rfl⟩
           replace H : (spec_SetVar.l1 k2 a1 y223 (wrap64 (x10_2 + 1)) l0_0 l0_1 a0_2 t201 t204 t207) = some (r1,r2,r3):=by first|(rw [hy223];with_reducible exact H)|(have H2_:=(Option.bind_some _ _).symm.trans H;rw [hy223];with_reducible exact H2_)|(have H2_:=(Option.bind_some _ _).symm.trans H;with_reducible exact H2_)|with_reducible exact H|(rw [hy223];exact H)|exact H
           have Ny223:=aM hy223
           clear hy223
           have H':=aM H
           clear H
           have hnb39:=NB199_200.out
           have hnc39:=NB200_199.out
           have hnb40:=NB199_208.out
           have hnc40:=NB208_199.out
           obtain ⟨⟨hcz41_0,hcz41_1,hcz41_2⟩,hfz41_0,hfz41_1,hfz41_2⟩:=bC3 BK199.out
           have p221 : 0 ≤ (x10_2 : Int):=of_decide_eq_true (by first|(with_reducible assumption)|assumption)
           have q221 : x10_2 < (l0_0.length : Int):=of_decide_eq_true (by first|(with_reducible assumption)|assumption)
           obtain ⟨ad221,e221,hx221_0,hx221_1⟩:=at_T53 HR0_0.out x10_2 p221 q221
           cases e221
           replace hx221_0:=(HB.out.cell (World.block_lt_of_cell? w _ hx221_0)).trans hx221_0
           replace hx221_1:=(HB.out.cell (World.block_lt_of_cell? w _ hx221_1)).trans hx221_1
           replace p221:=eq_true p221
           replace q221:=eq_true q221
           have p222 : 0 ≤ (x10_2 : Int):=of_decide_eq_true (by first|(with_reducible assumption)|assumption)
           have q222 : x10_2 < (l0_0.length : Int):=of_decide_eq_true (by first|(with_reducible assumption)|assumption)
           obtain ⟨ad222,e222,hx222_0,hx222_1⟩:=at_T53 HR0_0.out x10_2 p222 q222
           obtain rfl : ad221 = ad222:=(by injection e222)
           replace hx222_0:=(HB.out.cell (World.block_lt_of_cell? w _ hx222_0)).trans hx222_0
           replace hx222_1:=(HB.out.cell (World.block_lt_of_cell? w _ hx222_1)).trans hx222_1
           replace p222:=eq_true p222
           replace q222:=eq_true q222
           go_wp2_with (first|((with_reducible refine gate_builtin (b:=.append) (xs:=#[.tmp 59,.tmp 65]) rfl ?_);at_builtin;refine Kd.R_append k53 (w0:=w) w.heap.size rfl (.tmp 59) (.tmp 65) 35 53 (.agg #[(.string ⟨#[]⟩),(.string ⟨#[]⟩)]) 32 rfl Try.underlying35 info53 rfl (by decide) (by omega) u8 x8_2 (⟨(rd_T53 l0_0 x10_2).f0,(rd_T53 l0_0 x10_2).f1⟩ : S53) [.string ((rd_T53 l0_0 x10_2).f0),.string ((rd_T53 l0_0 x10_2).f1)] (fun k_ => some k_ ≠ (.slice Ao11 t201.length co11 : Value).ownBlock) (fun _ => False) rfl rfl ?aP (fun _ hk => hk.elim) ?aF ?aO ?aB ?aS ?aL ?_;(case aP => exact k53_mkM _ _ _ (⟨(rd_T53 l0_0 x10_2).f0,(rd_T53 l0_0 x10_2).f1⟩ : S53));(case aB => exact (by repeat (first|(with_reducible first|exact HB.out|apply lA|apply lN|apply lD|refine lS ?_ GE199.out|refine lS ?_ GE200.out|refine lS ?_ GE208.out)|exact HB.out)));(case aF => exact (fun k_ hk => Kd.fresh' (rT (rZ HO_209000.out)) k_ hk));(case aO => exact (rZ HO_8.out));(case aS => exact (lZ (by repeat (first|(with_reducible first|exact HB.out|apply lA|apply lN|apply lD|refine lS ?_ GE199.out|refine lS ?_ GE200.out|refine lS ?_ GE208.out)|exact HB.out))));(case aL => have:=LMc38.out;omega);intro v224 w42 ho hb hg hat;rw [← Ny223.out] at ho;have n0_:=aM (Kd.R_after (ok:=(fun _ => True)) (by (with_reducible repeat (first|apply rA|apply rN|apply rD));exact Kd.R_mono HO_209000.out (fun _ hk => ⟨trivial,hk⟩)) hg hat);have n1_:=aM (Kd.R_over' (rZ HO_209001.out) (Kd.R_typed (rZ HO_8.out)) (by decide) hg);have n2_:=aM (blk_grown (g:=gb199) (o:=.cells #[.slice (some ad221) l0_0.length c0_0,.slice A0_1 l0_1.length c0_1,.string a0_2] 38 (0,0)) (by (with_reducible repeat (first|refine bN ?_ _|refine bD ?_|refine bA ?_ _));exact BK199.out) hg (Kd.R_ne HO_8.out BK199.out (by decide)));have n3_:=aM (blk_grown (g:=gb200) (o:=.cells #[.slice none 0 0,.slice none 0 0,.string (⟨#[]⟩ : ByteArray)] 38 (0,0)) (by (with_reducible repeat (first|refine bN ?_ _|refine bD ?_|refine bA ?_ _));exact BK200.out) hg (Kd.R_ne HO_8.out BK200.out (by decide)));have n4_:=aM (blk_grown (g:=gb208) (o:=.cells #[.slice Ao11 t201.length co11,.slice Ao15 t204.length co15,.string t207] 38 (0,0)) (by (with_reducible repeat (first|refine bN ?_ _|refine bD ?_|refine bA ?_ _));exact BK208.out) hg (Kd.R_ne HO_8.out BK208.out (by decide)));have n5_:=aM (hb);have n6_:=aM (ho);clear HO_209000 HO_209001 BK199 BK200 BK208 HB HO_8;have HO_209000:=n0_;have HO_209001:=n1_;have BK199:=n2_;have BK200:=n3_;have BK208:=n4_;have HB:=n5_;have HO225:=n6_;clear n0_ n1_ n2_ n3_ n4_ n5_ n6_ ho hb hg hat))
           go_roundg k2
           case measure => have:=HK1.out;have:=HK2.out;omega
           case rel => exact ⟨(y223),(wrap64 (x10_2 + 1)),(by first|rfl|(simp;done)|(simp [*];done)),H',⟨by have:=HK1.out;have:=HK2.out;omega⟩,⟨by (with_reducible repeat (first|apply rA|apply rN|apply rD));exact HO225.out⟩,⟨by (with_reducible repeat (first|apply rA|apply rN|apply rD));exact Kd.R_mono HO_209000.out (fun _ hk => hk.2)⟩,⟨by (with_reducible repeat (first|apply rA|apply rN|apply rD));exact HO_209001.out⟩,⟨by (with_reducible repeat (first|refine bN ?_ _|refine bD ?_|refine bA ?_ _));exact BK199.out⟩,⟨by (with_reducible repeat (first|refine bN ?_ _|refine bD ?_|refine bA ?_ _));exact BK200.out⟩,⟨by (with_reducible repeat (first|refine bN ?_ _|refine bD ?_|refine bA ?_ _));exact BK208.out⟩,⟨by repeat (first|(with_reducible first|exact HB.out|apply lA|apply lN|apply lD|refine lS ?_ GE199.out|refine lS ?_ GE200.out|refine lS ?_ GE208.out)|exact HB.out)⟩⟩
          ·rw [if_neg c38] at H
           exact absurd H (by simp)
         ·rw [if_neg c37] at H
          have c37b0 : (Op.bytesLess a1.toList (((rd_T53 l0_0 x10_2).f0).toList)) = false:=by simpa using c37
          clear c37
          have H':=aM H
          clear H
          have hnb43:=NB199_200.out
          have hnc43:=NB200_199.out
          have hnb44:=NB199_208.out
          have hnc44:=NB208_199.out
          obtain ⟨⟨hcz45_0,hcz45_1,hcz45_2⟩,hfz45_0,hfz45_1,hfz45_2⟩:=bC3 BK199.out
          have p221 : 0 ≤ (x10_2 : Int):=of_decide_eq_true (by first|(with_reducible assumption)|assumption)
          have q221 : x10_2 < (l0_0.length : Int):=of_decide_eq_true (by first|(with_reducible assumption)|assumption)
          obtain ⟨ad221,e221,hx221_0,hx221_1⟩:=at_T53 HR0_0.out x10_2 p221 q221
          cases e221
          replace hx221_0:=(HB.out.cell (World.block_lt_of_cell? w _ hx221_0)).trans hx221_0
          replace hx221_1:=(HB.out.cell (World.block_lt_of_cell? w _ hx221_1)).trans hx221_1
          replace p221:=eq_true p221
          replace q221:=eq_true q221
          go_wp2
          go_roundg k2
          case measure => have:=HK1.out;have:=HK2.out;omega
          case rel => exact ⟨(x8_2),(wrap64 (x10_2 + 1)),(by first|rfl|(simp;done)|(simp [*];done)),H',⟨by have:=HK1.out;have:=HK2.out;omega⟩,⟨by (with_reducible repeat (first|apply rA|apply rN|apply rD));exact HO_8.out⟩,⟨by (with_reducible repeat (first|apply rA|apply rN|apply rD));exact HO_209000.out⟩,⟨by (with_reducible repeat (first|apply rA|apply rN|apply rD));exact HO_209001.out⟩,⟨by (with_reducible repeat (first|refine bN ?_ _|refine bD ?_|refine bA ?_ _));exact BK199.out⟩,⟨by (with_reducible repeat (first|refine bN ?_ _|refine bD ?_|refine bA ?_ _));exact BK200.out⟩,⟨by (with_reducible repeat (first|refine bN ?_ _|refine bD ?_|refine bA ?_ _));exact BK208.out⟩,⟨by repeat (first|(with_reducible first|exact HB.out|apply lA|apply lN|apply lD|refine lS ?_ GE199.out|refine lS ?_ GE200.out|refine lS ?_ GE208.out)|exact HB.out)⟩⟩
        ·rw [if_neg c36] at H
         exact absurd H (by simp)
       ·rw [if_neg c35] at H
        have c35b0 : decide (x10_2 < (l0_0.length : Int)) = false:=decide_eq_false c35
        clear c35
        by_cases c46 : (x8_2.length : Int) ≤ 60
        ·rw [if_pos c46] at H
         have c46b0 : decide ((x8_2.length : Int) ≤ 60) = true:=decide_eq_true c46
         have c46b1 : decide (x8_2.length ≤ 60) = true:=decide_eq_true (by omega)
         clear c46
         simp only [Option.some.injEq,Prod.mk.injEq] at H
         obtain ⟨rfl,rfl,rfl⟩:=H
         have hnb47:=NB199_200.out
         have hnc47:=NB200_199.out
         have hnb48:=NB199_208.out
         have hnc48:=NB208_199.out
         obtain ⟨⟨hcz49_0,hcz49_1,hcz49_2⟩,hfz49_0,hfz49_1,hfz49_2⟩:=bC3 BK199.out
         obtain ⟨Ao50,co50,eo50⟩:=Kd.R_slice HO_8.out
         subst eo50
         have hnb51:=NB208_200.out
         have hnc51:=NB200_208.out
         obtain ⟨⟨hcz52_0,hcz52_1,hcz52_2⟩,hfz52_0,hfz52_1,hfz52_2⟩:=bC3 BK208.out
         obtain ⟨⟨hcz53_0,hcz53_1,hcz53_2⟩,hfz53_0,hfz53_1,hfz53_2⟩:=bC3 BK200.out
         go_wp2
         refine bodyPost_ret (results_cell_row rfl _ _ gb200 38 #[.slice Ao50 x8_2.length co50,.slice Ao15 t204.length co15,.string t207] (0,0) _ rfl (by (with_reducible repeat (first|refine bN ?_ _|refine bD ?_|refine bA ?_ _));refine blk_put (cs:=#[.slice Ao50 x8_2.length co50,.slice Ao15 t204.length co15,.string (⟨#[]⟩ : ByteArray)]) ?_ 2 _ rfl;(with_reducible repeat (first|refine bN ?_ _|refine bD ?_|refine bA ?_ _));refine blk_put (cs:=#[.slice Ao50 x8_2.length co50,.slice none 0 0,.string (⟨#[]⟩ : ByteArray)]) ?_ 1 _ rfl;(with_reducible repeat (first|refine bN ?_ _|refine bD ?_|refine bA ?_ _));refine blk_put (cs:=#[.slice none 0 0,.slice none 0 0,.string (⟨#[]⟩ : ByteArray)]) ?_ 0 _ rfl;(with_reducible repeat (first|refine bN ?_ _|refine bD ?_|refine bA ?_ _));refine blk_far ?_ NB200_208.out _;(with_reducible repeat (first|refine bN ?_ _|refine bD ?_|refine bA ?_ _));exact BK200.out) Try.underlying38 rfl (by kernel_rfl)) rfl ?_
         exact ⟨_,_,by first|rfl|(simp [errW_none,errW_some] <;> rfl)|(simp [*,errW_none,errW_some] <;> rfl),by (with_reducible repeat (first|apply rA|apply rN|apply rD));exact Kd.R_mono (rF (rF (rF (rF (rY (rY HO_8.out BK208.out (by decide)) BK200.out (by decide)) (fun _ hk => hk.1.2) _) (fun _ hk => hk.2) _) (fun _ hk => hk.2) _) (fun _ hk => hk.2) _) (fun _ hk => trivial),by (with_reducible repeat (first|apply rA|apply rN|apply rD));exact Kd.R_mono (rF (rF (rF (rF (rY (rY HO_209001.out BK208.out (by decide)) BK200.out (by decide)) (fun _ hk => hk.1.2) _) (fun _ hk => hk.2) _) (fun _ hk => hk.2) _) (fun _ hk => hk.2) _) (fun _ hk => trivial),by repeat (first|(with_reducible first|exact HB.out|apply lA|apply lN|apply lD|refine lS ?_ GE199.out|refine lS ?_ GE200.out|refine lS ?_ GE208.out)|exact HB.out)⟩
        ·rw [if_neg c46] at H
         have c46b0 : decide ((x8_2.length : Int) ≤ 60) = false:=decide_eq_false c46
         have c46b1 : decide (x8_2.length ≤ 60) = false:=decide_eq_false (by omega)
         clear c46
         simp only [Option.some.injEq,Prod.mk.injEq] at H
         obtain ⟨rfl,rfl,rfl⟩:=H
         have hnb54:=NB199_200.out
         have hnc54:=NB200_199.out
         have hnb55:=NB199_208.out
         have hnc55:=NB208_199.out
         obtain ⟨⟨hcz56_0,hcz56_1,hcz56_2⟩,hfz56_0,hfz56_1,hfz56_2⟩:=bC3 BK199.out
         obtain ⟨Ao57,co57,eo57⟩:=Kd.R_slice HO_8.out
         subst eo57
         have hnb58:=NB208_200.out
         have hnc58:=NB200_208.out
         obtain ⟨⟨hcz59_0,hcz59_1,hcz59_2⟩,hfz59_0,hfz59_1,hfz59_2⟩:=bC3 BK208.out
         obtain ⟨⟨hcz60_0,hcz60_1,hcz60_2⟩,hfz60_0,hfz60_1,hfz60_2⟩:=bC3 BK200.out
         go_wp2
         refine bodyPost_ret (results_cell_row rfl _ _ gb200 38 #[.slice Ao11 t201.length co11,.slice Ao15 t204.length co15,.string t207] (0,0) _ rfl (by (with_reducible repeat (first|refine bN ?_ _|refine bD ?_|refine bA ?_ _));refine blk_put (cs:=#[.slice Ao11 t201.length co11,.slice Ao15 t204.length co15,.string (⟨#[]⟩ : ByteArray)]) ?_ 2 _ rfl;(with_reducible repeat (first|refine bN ?_ _|refine bD ?_|refine bA ?_ _));refine blk_put (cs:=#[.slice Ao11 t201.length co11,.slice none 0 0,.string (⟨#[]⟩ : ByteArray)]) ?_ 1 _ rfl;(with_reducible repeat (first|refine bN ?_ _|refine bD ?_|refine bA ?_ _));refine blk_put (cs:=#[.slice none 0 0,.slice none 0 0,.string (⟨#[]⟩ : ByteArray)]) ?_ 0 _ rfl;(with_reducible repeat (first|refine bN ?_ _|refine bD ?_|refine bA ?_ _));exact BK200.out) Try.underlying38 rfl (by kernel_rfl)) rfl ?_
         exact ⟨_,_,by first|rfl|(simp [errW_none,errW_some] <;> rfl)|(simp [*,errW_none,errW_some] <;> rfl),by (with_reducible repeat (first|apply rA|apply rN|apply rD));exact Kd.R_mono (rF (rF (rF (rY HO_209000.out BK200.out (by decide)) (fun _ hk => hk.2) _) (fun _ hk => hk.2) _) (fun _ hk => hk.2) _) (fun _ hk => trivial),by (with_reducible repeat (first|apply rA|apply rN|apply rD));exact Kd.R_mono (rF (rF (rF (rY HO_209001.out BK200.out (by decide)) (fun _ hk => hk.2) _) (fun _ hk => hk.2) _) (fun _ hk => hk.2) _) (fun _ hk => trivial),by repeat (first|(with_reducible first|exact HB.out|apply lA|apply lN|apply lD|refine lS ?_ GE199.out|refine lS ?_ GE200.out|refine lS ?_ GE208.out)|exact HB.out)⟩
    ·rw [if_neg c30] at H
     exact absurd H (by simp)

/-! ### spec_l01Byte: function 67 -/
def spec_l01Byte.f (s0_0 : List Int) (s0_1 : Int) (s0_2 : Int) : Option (Int × Int × Int):=if s0_1 < (s0_0.length : Int) then (if 0 ≤ s0_1 then (some (Go.bits .and .i64 (wrap64 ((Go.bits .and .i64 (Go.bits .xor .i64 ((wrap64 ((wrap64 (s0_2 * 6364136223846793005)) + 1442695040888963407)) / 8589934592) ((wrap64 ((wrap64 (s0_2 * 6364136223846793005)) + 1442695040888963407)) / 35184372088832)) 255) + (wrap64 (rd s0_0 s0_1)))) 255,wrap64 (s0_1 + 1),wrap64 ((wrap64 (s0_2 * 6364136223846793005)) + 1442695040888963407))) else (none)) else (some (Go.bits .and .i64 (Go.bits .xor .i64 ((wrap64 ((wrap64 (s0_2 * 6364136223846793005)) + 1442695040888963407)) / 8589934592) ((wrap64 ((wrap64 (s0_2 * 6364136223846793005)) + 1442695040888963407)) / 35184372088832)) 255,s0_1,wrap64 ((wrap64 (s0_2 * 6364136223846793005)) + 1442695040888963407)))
set_option maxHeartbeats 8000000 in
set_option maxRecDepth 100000 in
theorem spec_l01Byte.calls (g : Nat) (s0_0 : List Int) (s0_1 : Int) (s0_2 : Int) (r1 : Int) (r2 : Int) (r3 : Int) (w0 w : World) (hI : IsS88 w0 w g s0_0 s0_1 s0_2) (hB : Below w0.heap.size w0 w) (h : spec_l01Byte.f s0_0 s0_1 s0_2 = some (r1,r2,r3)) :
  Calls Try.prog 67 #[.pointer (some ⟨g,0,none⟩)] w fun e w' => e = .returned (.int .i64 r1) ∧ IsS88 w0 w' g s0_0 r2 r3 ∧ Below w0.heap.size w0 w' ∧ KeepBut w w' g none:=by
 have HI0:=aM hI
 have HK:=aM (KeepBut.refl w g none)
 have HL:=aM hB.size
 clear hI
 have HW0:=aM hB.size
 have HB:=aM hB
 clear hB
 have H : (if s0_1 < (s0_0.length : Int) then (if 0 ≤ s0_1 then (some (Go.bits .and .i64 (wrap64 ((Go.bits .and .i64 (Go.bits .xor .i64 ((wrap64 ((wrap64 (s0_2 * 6364136223846793005)) + 1442695040888963407)) / 8589934592) ((wrap64 ((wrap64 (s0_2 * 6364136223846793005)) + 1442695040888963407)) / 35184372088832)) 255) + (wrap64 (rd s0_0 s0_1)))) 255,wrap64 (s0_1 + 1),wrap64 ((wrap64 (s0_2 * 6364136223846793005)) + 1442695040888963407))) else (none)) else (some (Go.bits .and .i64 (Go.bits .xor .i64 ((wrap64 ((wrap64 (s0_2 * 6364136223846793005)) + 1442695040888963407)) / 8589934592) ((wrap64 ((wrap64 (s0_2 * 6364136223846793005)) + 1442695040888963407)) / 35184372088832)) 255,s0_1,wrap64 ((wrap64 (s0_2 * 6364136223846793005)) + 1442695040888963407)))) = some (r1,r2,r3):=h
 clear h
 by_cases c2 : s0_1 < (s0_0.length : Int)
 ·rw [if_pos c2] at H
  have c2b0 : decide (s0_1 < (s0_0.length : Int)) = true:=decide_eq_true c2
  clear c2
  by_cases c3 : 0 ≤ s0_1
  ·rw [if_pos c3] at H
   have c3b0 : decide (0 ≤ s0_1) = true:=decide_eq_true c3
   clear c3
   simp only [Option.some.injEq,Prod.mk.injEq] at H
   obtain ⟨rfl,rfl,rfl⟩:=H
   obtain ⟨ASz4_0,cSz4_0,HGz4,hgz4,HSz4_0⟩:=HI0.out
   have hcz4_0:=cellS88_0 HGz4
   have hcz4_1:=cellS88_1 HGz4
   have hcz4_2:=cellS88_2 HGz4
   have hfz4_1:=bF HGz4 1
   have hfz4_2:=bF HGz4 2
   clear HGz4 hgz4
   have p226 : 0 ≤ (s0_1 : Int):=of_decide_eq_true (by first|(with_reducible assumption)|assumption)
   have q226 : s0_1 < (s0_0.length : Int):=of_decide_eq_true (by first|(with_reducible assumption)|assumption)
   obtain ⟨ad226,e226,hx226_0⟩:=Kd.at_int HSz4_0 s0_1 p226 q226
   cases e226
   have hn226_0 : ad226.block ≠ g:=Nat.ne_of_lt (Nat.lt_of_lt_of_le (by have:=World.block_lt_of_cell? _ _ hx226_0;first|rwa [add_block] at this|exact this) (IsS88.ge HI0.out))
   replace hx226_0:=pw_cell_below HB.out hx226_0
   replace hx226_0:=(cell_far (p:=⟨g,2,none⟩) (by first|(rw [add_block];exact hn226_0)|(show (Addr.add _ _).block ≠ _;rw [add_block];exact hn226_0)|exact hn226_0) (.int .i64 (wrap64 ((wrap64 (s0_2 * 6364136223846793005)) + 1442695040888963407)))).trans hx226_0
   (try have hy226_0:=fun (n_ : Nat) => (show (((w.drewN n_).setCell ⟨g,2,none⟩ (.int .i64 (wrap64 ((wrap64 (s0_2 * 6364136223846793005)) + 1442695040888963407))))).cell? _ = some _ from hx226_0))
   clear hn226_0
   replace p226:=eq_true p226
   replace q226:=eq_true q226
   go_enter Try.func67,Try.ntmps67
   go_wp2
   repeat (go_quiet (fail);try go_wp2)
   go_ret
   exact ⟨by first|rfl|(simp [errW_none,errW_some] <;> rfl)|(simp [*,errW_none,errW_some] <;> rfl),by repeat (first|(with_reducible first|exact HI0.out|apply IsS88.alloc|apply IsS88.drewN|apply IsS88.drew|apply IsS88.set_1|apply IsS88.set_2)|exact HI0.out),by repeat (first|(with_reducible first|exact HB.out|apply lA|apply lN|apply lD|refine lS ?_ (IsS88.ge HI0.out))|exact HB.out),by repeat (first|(with_reducible first|exact HK.out|apply KeepBut.set_|apply keep_drewN|apply keep_drew|apply keep_alloc)|exact HK.out)⟩
  ·rw [if_neg c3] at H
   exact absurd H (by simp)
 ·rw [if_neg c2] at H
  have c2b0 : decide (s0_1 < (s0_0.length : Int)) = false:=decide_eq_false c2
  clear c2
  simp only [Option.some.injEq,Prod.mk.injEq] at H
  obtain ⟨rfl,rfl,rfl⟩:=H
  obtain ⟨ASz5_0,cSz5_0,HGz5,hgz5,HSz5_0⟩:=HI0.out
  have hcz5_0:=cellS88_0 HGz5
  have hcz5_1:=cellS88_1 HGz5
  have hcz5_2:=cellS88_2 HGz5
  have hfz5_1:=bF HGz5 1
  have hfz5_2:=bF HGz5 2
  clear HGz5 hgz5
  go_enter Try.func67,Try.ntmps67
  go_wp2
  repeat (go_quiet (fail);try go_wp2)
  go_ret
  exact ⟨by first|rfl|(simp [errW_none,errW_some] <;> rfl)|(simp [*,errW_none,errW_some] <;> rfl),by repeat (first|(with_reducible first|exact HI0.out|apply IsS88.alloc|apply IsS88.drewN|apply IsS88.drew|apply IsS88.set_1|apply IsS88.set_2)|exact HI0.out),by repeat (first|(with_reducible first|exact HB.out|apply lA|apply lN|apply lD|refine lS ?_ (IsS88.ge HI0.out))|exact HB.out),by repeat (first|(with_reducible first|exact HK.out|apply KeepBut.set_|apply keep_drewN|apply keep_drew|apply keep_alloc)|exact HK.out)⟩

/-! ### spec_l01Below: function 46 -/
def spec_l01Below.f (s0_0 : List Int) (s0_1 : Int) (s0_2 : Int) (a1 : Int) : Option (Int × Int × Int):=if a1 ≤ 0 then (some (0,s0_1,s0_2)) else (if a1 ≤ 256 then ((spec_l01Byte.f s0_0 s0_1 s0_2).bind fun bt227 => (if a1 = 0 then (none) else (some (Int.tmod bt227.1 a1,bt227.2.1,bt227.2.2)))) else ((spec_l01Byte.f s0_0 s0_1 s0_2).bind fun bt230 => ((spec_l01Byte.f s0_0 bt230.2.1 bt230.2.2).bind fun bt233 => ((spec_l01Byte.f s0_0 bt233.2.1 bt233.2.2).bind fun bt236 => ((spec_l01Byte.f s0_0 bt236.2.1 bt236.2.2).bind fun bt239 => (if a1 = 0 then (none) else (some (Int.tmod (wrap64 ((wrap64 ((wrap64 ((wrap64 (bt230.1 * 16777216)) + (wrap64 (bt233.1 * 65536)))) + (wrap64 (bt236.1 * 256)))) + bt239.1)) a1,bt239.2.1,bt239.2.2))))))))
set_option maxHeartbeats 8000000 in
set_option maxRecDepth 100000 in
theorem spec_l01Below.calls (g : Nat) (s0_0 : List Int) (s0_1 : Int) (s0_2 : Int) (a1 : Int) (r1 : Int) (r2 : Int) (r3 : Int) (w0 w : World) (hI : IsS88 w0 w g s0_0 s0_1 s0_2) (hB : Below w0.heap.size w0 w) (h : spec_l01Below.f s0_0 s0_1 s0_2 a1 = some (r1,r2,r3)) :
  Calls Try.prog 46 #[.pointer (some ⟨g,0,none⟩),.int .i64 a1] w fun e w' => e = .returned (.int .i64 r1) ∧ IsS88 w0 w' g s0_0 r2 r3 ∧ Below w0.heap.size w0 w' ∧ KeepBut w w' g none:=by
 have HI0:=aM hI
 have HK:=aM (KeepBut.refl w g none)
 have HL:=aM hB.size
 clear hI
 have HW0:=aM hB.size
 have HB:=aM hB
 clear hB
 have H : (if a1 ≤ 0 then (some (0,s0_1,s0_2)) else (if a1 ≤ 256 then ((spec_l01Byte.f s0_0 s0_1 s0_2).bind fun bt227 => (if a1 = 0 then (none) else (some (Int.tmod bt227.1 a1,bt227.2.1,bt227.2.2)))) else ((spec_l01Byte.f s0_0 s0_1 s0_2).bind fun bt230 => ((spec_l01Byte.f s0_0 bt230.2.1 bt230.2.2).bind fun bt233 => ((spec_l01Byte.f s0_0 bt233.2.1 bt233.2.2).bind fun bt236 => ((spec_l01Byte.f s0_0 bt236.2.1 bt236.2.2).bind fun bt239 => (if a1 = 0 then (none) else (some (Int.tmod (wrap64 ((wrap64 ((wrap64 ((wrap64 (bt230.1 * 16777216)) + (wrap64 (bt233.1 * 65536)))) + (wrap64 (bt236.1 * 256)))) + bt239.1)) a1,bt239.2.1,bt239.2.2))))))))) = some (r1,r2,r3):=h
 clear h
 by_cases c3 : a1 ≤ 0
 ·rw [if_pos c3] at H
  have c3b0 : decide (a1 ≤ 0) = true:=decide_eq_true c3
  clear c3
  simp only [Option.some.injEq,Prod.mk.injEq] at H
  obtain ⟨rfl,rfl,rfl⟩:=H
  go_enter Try.func46,Try.ntmps46
  go_wp2
  go_ret
  exact ⟨by first|rfl|(simp [errW_none,errW_some] <;> rfl)|(simp [*,errW_none,errW_some] <;> rfl),by repeat (first|(with_reducible first|exact HI0.out|apply IsS88.alloc|apply IsS88.drewN|apply IsS88.drew|apply IsS88.set_1|apply IsS88.set_2)|exact HI0.out),by repeat (first|(with_reducible first|exact HB.out|apply lA|apply lN|apply lD|refine lS ?_ (IsS88.ge HI0.out))|exact HB.out),by repeat (first|(with_reducible first|exact HK.out|apply KeepBut.set_|apply keep_drewN|apply keep_drew|apply keep_alloc)|exact HK.out)⟩
 ·rw [if_neg c3] at H
  have c3b0 : decide (a1 ≤ 0) = false:=decide_eq_false c3
  clear c3
  by_cases c4 : a1 ≤ 256
  ·rw [if_pos c4] at H
   have c4b0 : decide (a1 ≤ 256) = true:=decide_eq_true c4
   clear c4
   replace H:=Option.bind_eq_some_iff.mp H
   obtain ⟨⟨t227,t228,t229⟩,A50,H⟩:=H
   replace H : (if a1 = 0 then (none) else (some (Int.tmod t227 a1,t228,t229))) = some (r1,r2,r3):=H
   have A5:=aM A50
   clear A50
   by_cases c6 : a1 = 0
   ·rw [if_pos c6] at H
    exact absurd H (by simp)
   ·rw [if_neg c6] at H
    have c6b0 : (a1 == 0) = false:=beq_eq_false_iff_ne.mpr c6
    have c6b1 : (a1 != 0) = true:=bne_iff_ne.mpr c6
    simp only [Option.some.injEq,Prod.mk.injEq] at H
    obtain ⟨rfl,rfl,rfl⟩:=H
    go_enter Try.func46,Try.ntmps46
    go_wp2_with (first|((with_reducible refine gate_callee (f:=67) rfl ?_);refine goesL_ (some 14) rfl rfl Try.func67 (by kernel_rfl) rfl #[.pointer (some ⟨g,0,none⟩)] rfl (by (try simp only [List.map_toArray,List.map_cons,List.map_nil]);first|done|rfl|(simp only [List.length_drop,List.length_take];rfl)) ?_;(with_reducible refine (spec_l01Byte.calls g s0_0 s0_1 s0_2 t227 t228 t229 w0 _ ?side1 ?side2 A5.out).mono ?_);(case side1 => repeat (first|(with_reducible first|exact HI0.out|apply IsS88.alloc|apply IsS88.drewN|apply IsS88.drew|apply IsS88.set_1|apply IsS88.set_2)|exact HI0.out));(case side2 => repeat (first|(with_reducible first|exact HB.out|apply lA|apply lN|apply lD|refine lS ?_ (IsS88.ge HI0.out))|exact HB.out));rintro e w7 ⟨rfl,hi,hb,hk⟩;refine ⟨_,rfl,?_⟩;have n0_:=aM (KeepBut.trans (by repeat (first|(with_reducible first|exact HK.out|apply KeepBut.set_|apply keep_drewN|apply keep_drew|apply keep_alloc)|exact HK.out)) hk (.inl rfl));have n1_:=aM (hb);have n2_:=aM (hi);clear HK HB HI0;have HK:=n0_;have HB:=n1_;have HI0:=n2_;clear n0_ n1_ n2_;(try clear hb);(try clear hb2);(try clear hk);(try clear hi)))
    go_ret
    exact ⟨by first|rfl|(simp [errW_none,errW_some] <;> rfl)|(simp [*,errW_none,errW_some] <;> rfl),by repeat (first|(with_reducible first|exact HI0.out|apply IsS88.alloc|apply IsS88.drewN|apply IsS88.drew|apply IsS88.set_1|apply IsS88.set_2)|exact HI0.out),by repeat (first|(with_reducible first|exact HB.out|apply lA|apply lN|apply lD|refine lS ?_ (IsS88.ge HI0.out))|exact HB.out),by repeat (first|(with_reducible first|exact HK.out|apply KeepBut.set_|apply keep_drewN|apply keep_drew|apply keep_alloc)|exact HK.out)⟩
  ·rw [if_neg c4] at H
   have c4b0 : decide (a1 ≤ 256) = false:=decide_eq_false c4
   clear c4
   replace H:=Option.bind_eq_some_iff.mp H
   obtain ⟨⟨t230,t231,t232⟩,A80,H⟩:=H
   replace H : ((spec_l01Byte.f s0_0 t231 t232).bind fun bt233 => ((spec_l01Byte.f s0_0 bt233.2.1 bt233.2.2).bind fun bt236 => ((spec_l01Byte.f s0_0 bt236.2.1 bt236.2.2).bind fun bt239 => (if a1 = 0 then (none) else (some (Int.tmod (wrap64 ((wrap64 ((wrap64 ((wrap64 (t230 * 16777216)) + (wrap64 (bt233.1 * 65536)))) + (wrap64 (bt236.1 * 256)))) + bt239.1)) a1,bt239.2.1,bt239.2.2)))))) = some (r1,r2,r3):=H
   have A8:=aM A80
   clear A80
   replace H:=Option.bind_eq_some_iff.mp H
   obtain ⟨⟨t233,t234,t235⟩,A90,H⟩:=H
   replace H : ((spec_l01Byte.f s0_0 t234 t235).bind fun bt236 => ((spec_l01Byte.f s0_0 bt236.2.1 bt236.2.2).bind fun bt239 => (if a1 = 0 then (none) else (some (Int.tmod (wrap64 ((wrap64 ((wrap64 ((wrap64 (t230 * 16777216)) + (wrap64 (t233 * 65536)))) + (wrap64 (bt236.1 * 256)))) + bt239.1)) a1,bt239.2.1,bt239.2.2))))) = some (r1,r2,r3):=H
   have A9:=aM A90
   clear A90
   replace H:=Option.bind_eq_some_iff.mp H
   obtain ⟨⟨t236,t237,t238⟩,A100,H⟩:=H
   replace H : ((spec_l01Byte.f s0_0 t237 t238).bind fun bt239 => (if a1 = 0 then (none) else (some (Int.tmod (wrap64 ((wrap64 ((wrap64 ((wrap64 (t230 * 16777216)) + (wrap64 (t233 * 65536)))) + (wrap64 (t236 * 256)))) + bt239.1)) a1,bt239.2.1,bt239.2.2)))) = some (r1,r2,r3):=H
   have A10:=aM A100
   clear A100
   replace H:=Option.bind_eq_some_iff.mp H
   obtain ⟨⟨t239,t240,t241⟩,A110,H⟩:=H
   replace H : (if a1 = 0 then (none) else (some (Int.tmod (wrap64 ((wrap64 ((wrap64 ((wrap64 (t230 * 16777216)) + (wrap64 (t233 * 65536)))) + (wrap64 (t236 * 256)))) + t239)) a1,t240,t241))) = some (r1,r2,r3):=H
   have A11:=aM A110
   clear A110
   by_cases c12 : a1 = 0
   ·rw [if_pos c12] at H
    exact absurd H (by simp)
   ·rw [if_neg c12] at H
    have c12b0 : (a1 == 0) = false:=beq_eq_false_iff_ne.mpr c12
    have c12b1 : (a1 != 0) = true:=bne_iff_ne.mpr c12
    simp only [Option.some.injEq,Prod.mk.injEq] at H
    obtain ⟨rfl,rfl,rfl⟩:=H
    go_enter Try.func46,Try.ntmps46
    go_wp2_with (first|((with_reducible refine gate_callee (f:=67) rfl ?_);refine goesL_ (some 18) rfl rfl Try.func67 (by kernel_rfl) rfl #[.pointer (some ⟨g,0,none⟩)] rfl (by (try simp only [List.map_toArray,List.map_cons,List.map_nil]);first|done|rfl|(simp only [List.length_drop,List.length_take];rfl)) ?_;(with_reducible refine (spec_l01Byte.calls g s0_0 s0_1 s0_2 t230 t231 t232 w0 _ ?side1 ?side2 A8.out).mono ?_);(case side1 => repeat (first|(with_reducible first|exact HI0.out|apply IsS88.alloc|apply IsS88.drewN|apply IsS88.drew|apply IsS88.set_1|apply IsS88.set_2)|exact HI0.out));(case side2 => repeat (first|(with_reducible first|exact HB.out|apply lA|apply lN|apply lD|refine lS ?_ (IsS88.ge HI0.out))|exact HB.out));rintro e w13 ⟨rfl,hi,hb,hk⟩;refine ⟨_,rfl,?_⟩;have n0_:=aM (KeepBut.trans (by repeat (first|(with_reducible first|exact HK.out|apply KeepBut.set_|apply keep_drewN|apply keep_drew|apply keep_alloc)|exact HK.out)) hk (.inl rfl));have n1_:=aM (hb);have n2_:=aM (hi);clear HK HB HI0;have HK:=n0_;have HB:=n1_;have HI0:=n2_;clear n0_ n1_ n2_;(try clear hb);(try clear hb2);(try clear hk);(try clear hi))|((with_reducible refine gate_callee (f:=67) rfl ?_);refine goesL_ (some 20) rfl rfl Try.func67 (by kernel_rfl) rfl #[.pointer (some ⟨g,0,none⟩)] rfl (by (try simp only [List.map_toArray,List.map_cons,List.map_nil]);first|done|rfl|(simp only [List.length_drop,List.length_take];rfl)) ?_;(with_reducible refine (spec_l01Byte.calls g s0_0 t231 t232 t233 t234 t235 w0 _ ?side1 ?side2 A9.out).mono ?_);(case side1 => repeat (first|(with_reducible first|exact HI0.out|apply IsS88.alloc|apply IsS88.drewN|apply IsS88.drew|apply IsS88.set_1|apply IsS88.set_2)|exact HI0.out));(case side2 => repeat (first|(with_reducible first|exact HB.out|apply lA|apply lN|apply lD|refine lS ?_ (IsS88.ge HI0.out))|exact HB.out));rintro e w14 ⟨rfl,hi,hb,hk⟩;refine ⟨_,rfl,?_⟩;have n0_:=aM (KeepBut.trans (by repeat (first|(with_reducible first|exact HK.out|apply KeepBut.set_|apply keep_drewN|apply keep_drew|apply keep_alloc)|exact HK.out)) hk (.inl rfl));have n1_:=aM (hb);have n2_:=aM (hi);clear HK HB HI0;have HK:=n0_;have HB:=n1_;have HI0:=n2_;clear n0_ n1_ n2_;(try clear hb);(try clear hb2);(try clear hk);(try clear hi))|((with_reducible refine gate_callee (f:=67) rfl ?_);refine goesL_ (some 22) rfl rfl Try.func67 (by kernel_rfl) rfl #[.pointer (some ⟨g,0,none⟩)] rfl (by (try simp only [List.map_toArray,List.map_cons,List.map_nil]);first|done|rfl|(simp only [List.length_drop,List.length_take];rfl)) ?_;(with_reducible refine (spec_l01Byte.calls g s0_0 t234 t235 t236 t237 t238 w0 _ ?side1 ?side2 A10.out).mono ?_);(case side1 => repeat (first|(with_reducible first|exact HI0.out|apply IsS88.alloc|apply IsS88.drewN|apply IsS88.drew|apply IsS88.set_1|apply IsS88.set_2)|exact HI0.out));(case side2 => repeat (first|(with_reducible first|exact HB.out|apply lA|apply lN|apply lD|refine lS ?_ (IsS88.ge HI0.out))|exact HB.out));rintro e w15 ⟨rfl,hi,hb,hk⟩;refine ⟨_,rfl,?_⟩;have n0_:=aM (KeepBut.trans (by repeat (first|(with_reducible first|exact HK.out|apply KeepBut.set_|apply keep_drewN|apply keep_drew|apply keep_alloc)|exact HK.out)) hk (.inl rfl));have n1_:=aM (hb);have n2_:=aM (hi);clear HK HB HI0;have HK:=n0_;have HB:=n1_;have HI0:=n2_;clear n0_ n1_ n2_;(try clear hb);(try clear hb2);(try clear hk);(try clear hi))|((with_reducible refine gate_callee (f:=67) rfl ?_);refine goesL_ (some 24) rfl rfl Try.func67 (by kernel_rfl) rfl #[.pointer (some ⟨g,0,none⟩)] rfl (by (try simp only [List.map_toArray,List.map_cons,List.map_nil]);first|done|rfl|(simp only [List.length_drop,List.length_take];rfl)) ?_;(with_reducible refine (spec_l01Byte.calls g s0_0 t237 t238 t239 t240 t241 w0 _ ?side1 ?side2 A11.out).mono ?_);(case side1 => repeat (first|(with_reducible first|exact HI0.out|apply IsS88.alloc|apply IsS88.drewN|apply IsS88.drew|apply IsS88.set_1|apply IsS88.set_2)|exact HI0.out));(case side2 => repeat (first|(with_reducible first|exact HB.out|apply lA|apply lN|apply lD|refine lS ?_ (IsS88.ge HI0.out))|exact HB.out));rintro e w16 ⟨rfl,hi,hb,hk⟩;refine ⟨_,rfl,?_⟩;have n0_:=aM (KeepBut.trans (by repeat (first|(with_reducible first|exact HK.out|apply KeepBut.set_|apply keep_drewN|apply keep_drew|apply keep_alloc)|exact HK.out)) hk (.inl rfl));have n1_:=aM (hb);have n2_:=aM (hi);clear HK HB HI0;have HK:=n0_;have HB:=n1_;have HI0:=n2_;clear n0_ n1_ n2_;(try clear hb);(try clear hb2);(try clear hk);(try clear hi)))
    go_ret
    exact ⟨by first|rfl|(simp [errW_none,errW_some] <;> rfl)|(simp [*,errW_none,errW_some] <;> rfl),by repeat (first|(with_reducible first|exact HI0.out|apply IsS88.alloc|apply IsS88.drewN|apply IsS88.drew|apply IsS88.set_1|apply IsS88.set_2)|exact HI0.out),by repeat (first|(with_reducible first|exact HB.out|apply lA|apply lN|apply lD|refine lS ?_ (IsS88.ge HI0.out))|exact HB.out),by repeat (first|(with_reducible first|exact HK.out|apply KeepBut.set_|apply keep_drewN|apply keep_drew|apply keep_alloc)|exact HK.out)⟩

/-! ### spec_l01Pick: function 71 -/
def spec_l01Pick.f (s0_0 : List Int) (s0_1 : Int) (s0_2 : Int) (l1 : List ByteArray) : Option (ByteArray × Int × Int):=(spec_l01Below.f s0_0 s0_1 s0_2 (l1.length : Int)).bind fun bt242 => (if 0 ≤ bt242.1 then (if bt242.1 < (l1.length : Int) then (some (rdOf ByteArray.empty l1 bt242.1,bt242.2.1,bt242.2.2)) else (none)) else (none))
set_option maxHeartbeats 8000000 in
set_option maxRecDepth 100000 in
theorem spec_l01Pick.calls (g : Nat) (s0_0 : List Int) (s0_1 : Int) (s0_2 : Int) (A1 : Option Addr) (c1 : Nat) (l1 : List ByteArray) (r1 : ByteArray) (r2 : Int) (r3 : Int) (w0 w : World) (hI : IsS88 w0 w g s0_0 s0_1 s0_2) (hB : Below w0.heap.size w0 w) (hr1 : Kd.C Kd.string w A1 l1.length l1) (hc1 : l1.length ≤ c1) (hf1 : ∀ ad,A1 = some ad → 0 < l1.length → ad.block ≠ g) (h : spec_l01Pick.f s0_0 s0_1 s0_2 l1 = some (r1,r2,r3)) :
  Calls Try.prog 71 #[.pointer (some ⟨g,0,none⟩),.slice A1 l1.length c1] w fun e w' => e = .returned (.string r1) ∧ IsS88 w0 w' g s0_0 r2 r3 ∧ Below w0.heap.size w0 w' ∧ KeepBut w w' g none:=by
 have HR1:=aM hr1
 have HC1:=aM hc1
 clear hr1 hc1
 have HI0:=aM hI
 have HK:=aM (KeepBut.refl w g none)
 have HL:=aM hB.size
 clear hI
 have HW0:=aM hB.size
 have HB:=aM hB
 clear hB
 have H : ((spec_l01Below.f s0_0 s0_1 s0_2 (l1.length : Int)).bind fun bt242 => (if 0 ≤ bt242.1 then (if bt242.1 < (l1.length : Int) then (some (rdOf ByteArray.empty l1 bt242.1,bt242.2.1,bt242.2.2)) else (none)) else (none))) = some (r1,r2,r3):=h
 clear h
 replace H:=Option.bind_eq_some_iff.mp H
 obtain ⟨⟨t242,t243,t244⟩,A30,H⟩:=H
 replace H : (if 0 ≤ t242 then (if t242 < (l1.length : Int) then (some (rdOf ByteArray.empty l1 t242,t243,t244)) else (none)) else (none)) = some (r1,r2,r3):=H
 have A3:=aM A30
 clear A30
 by_cases c4 : 0 ≤ t242
 ·rw [if_pos c4] at H
  have c4b0 : decide (0 ≤ t242) = true:=decide_eq_true c4
  clear c4
  by_cases c5 : t242 < (l1.length : Int)
  ·rw [if_pos c5] at H
   have c5b0 : decide (t242 < (l1.length : Int)) = true:=decide_eq_true c5
   clear c5
   simp only [Option.some.injEq,Prod.mk.injEq] at H
   obtain ⟨rfl,rfl,rfl⟩:=H
   go_enter Try.func71,Try.ntmps71
   go_wp2_with (first|((with_reducible refine gate_callee (f:=46) rfl ?_);refine goesL_ (some 9) rfl rfl Try.func46 (by kernel_rfl) rfl #[.pointer (some ⟨g,0,none⟩),.int .i64 (l1.length : Int)] rfl (by (try simp only [List.map_toArray,List.map_cons,List.map_nil]);first|done|rfl|(simp only [List.length_drop,List.length_take];rfl)) ?_;(with_reducible refine (spec_l01Below.calls g s0_0 s0_1 s0_2 (l1.length : Int) t242 t243 t244 w0 _ ?side1 ?side2 A3.out).mono ?_);(case side1 => repeat (first|(with_reducible first|exact HI0.out|apply IsS88.alloc|apply IsS88.drewN|apply IsS88.drew|apply IsS88.set_1|apply IsS88.set_2)|exact HI0.out));(case side2 => repeat (first|(with_reducible first|exact HB.out|apply lA|apply lN|apply lD|refine lS ?_ (IsS88.ge HI0.out))|exact HB.out));rintro e w6 ⟨rfl,hi,hb,hk⟩;refine ⟨_,rfl,?_⟩;have n0_:=aM (KeepBut.trans (by repeat (first|(with_reducible first|exact HK.out|apply KeepBut.set_|apply keep_drewN|apply keep_drew|apply keep_alloc)|exact HK.out)) hk (.inl rfl));have n1_:=aM (hb);have n2_:=aM (hi);clear HK HB HI0;have HK:=n0_;have HB:=n1_;have HI0:=n2_;clear n0_ n1_ n2_;(try clear hb);(try clear hb2);(try clear hk);(try clear hi);have p245 : 0 ≤ (t242 : Int):=of_decide_eq_true (by first|(with_reducible assumption)|assumption);have q245 : t242 < (l1.length : Int):=of_decide_eq_true (by first|(with_reducible assumption)|assumption);obtain ⟨ad245,e245,hx245_0⟩:=Kd.at_string HR1.out t242 p245 q245;cases e245;replace hx245_0:=keep_cell HK.out hx245_0 (by first|(rw [add_block];exact hf1 _ rfl (by omega))|exact hf1 _ rfl (by omega)|exact hf1 ad245 rfl (by omega));replace p245:=eq_true p245;replace q245:=eq_true q245))
   go_ret
   exact ⟨by first|rfl|(simp [errW_none,errW_some] <;> rfl)|(simp [*,errW_none,errW_some] <;> rfl),by repeat (first|(with_reducible first|exact HI0.out|apply IsS88.alloc|apply IsS88.drewN|apply IsS88.drew|apply IsS88.set_1|apply IsS88.set_2)|exact HI0.out),by repeat (first|(with_reducible first|exact HB.out|apply lA|apply lN|apply lD|refine lS ?_ (IsS88.ge HI0.out))|exact HB.out),by repeat (first|(with_reducible first|exact HK.out|apply KeepBut.set_|apply keep_drewN|apply keep_drew|apply keep_alloc)|exact HK.out)⟩
  ·rw [if_neg c5] at H
   exact absurd H (by simp)
 ·rw [if_neg c4] at H
  exact absurd H (by simp)

/-! ### spec_l08Name: function 81 -/
def spec_l08Name.f (s0_0 : List Int) (s0_1 : Int) (s0_2 : Int) : Option (ByteArray × Int × Int):=(spec_l01Pick.f s0_0 s0_1 s0_2 (([(⟨#[110]⟩ : ByteArray),(⟨#[115]⟩ : ByteArray),(⟨#[116]⟩ : ByteArray),(⟨#[117]⟩ : ByteArray),(⟨#[112,114,101]⟩ : ByteArray)] : List ByteArray))).bind fun bt249 => (some (bt249.1,bt249.2.1,bt249.2.2))
set_option maxHeartbeats 8000000 in
set_option maxRecDepth 100000 in
theorem spec_l08Name.calls (g : Nat) (s0_0 : List Int) (s0_1 : Int) (s0_2 : Int) (r1 : ByteArray) (r2 : Int) (r3 : Int) (w0 w : World) (hI : IsS88 w0 w g s0_0 s0_1 s0_2) (hB : Below w0.heap.size w0 w) (h : spec_l08Name.f s0_0 s0_1 s0_2 = some (r1,r2,r3)) :
  Calls Try.prog 81 #[.pointer (some ⟨g,0,none⟩)] w fun e w' => e = .returned (.string r1) ∧ IsS88 w0 w' g s0_0 r2 r3 ∧ Below w0.heap.size w0 w' ∧ KeepBut w w' g none:=by
 have HI0:=aM hI
 have HK:=aM (KeepBut.refl w g none)
 have HL:=aM hB.size
 clear hI
 have HW0:=aM hB.size
 have HB:=aM hB
 clear hB
 have H : ((spec_l01Pick.f s0_0 s0_1 s0_2 (([(⟨#[110]⟩ : ByteArray),(⟨#[115]⟩ : ByteArray),(⟨#[116]⟩ : ByteArray),(⟨#[117]⟩ : ByteArray),(⟨#[112,114,101]⟩ : ByteArray)] : List ByteArray))).bind fun bt249 => (some (bt249.1,bt249.2.1,bt249.2.2))) = some (r1,r2,r3):=h
 clear h
 obtain ⟨y246,hy246⟩ : ∃ y_ : List ByteArray,y_ = (([(⟨#[110]⟩ : ByteArray),(⟨#[115]⟩ : ByteArray),(⟨#[116]⟩ : ByteArray),(⟨#[117]⟩ : ByteArray),(⟨#[112,114,101]⟩ : ByteArray)] : List ByteArray)):=⟨_,rfl⟩
 replace H : ((spec_l01Pick.f s0_0 s0_1 s0_2 y246).bind fun bt249 => (some (bt249.1,bt249.2.1,bt249.2.2))) = some (r1,r2,r3):=by first|(rw [hy246];with_reducible exact H)|(have H2_:=(Option.bind_some _ _).symm.trans H;rw [hy246];with_reducible exact H2_)|(have H2_:=(Option.bind_some _ _).symm.trans H;with_reducible exact H2_)|with_reducible exact H|(rw [hy246];exact H)|exact H
 have Ny246:=aM hy246
 clear hy246
 replace H:=Option.bind_eq_some_iff.mp H
 obtain ⟨⟨t249,t250,t251⟩,A20,H⟩:=H
 replace H : (some (t249,t250,t251)) = some (r1,r2,r3):=H
 have A2:=aM A20
 clear A20
 simp only [Option.some.injEq,Prod.mk.injEq] at H
 obtain ⟨rfl,rfl,rfl⟩:=H
 go_enter Try.func81,Try.ntmps81
 go_wp2_with (first|((with_reducible refine gate_dst (N:=4) rfl ?_);refine Kd.R_lit Kd.string _ 9 ?hg (N:=4) ?hd (xs:=([(⟨#[110]⟩ : ByteArray),(⟨#[115]⟩ : ByteArray),(⟨#[116]⟩ : ByteArray),(⟨#[117]⟩ : ByteArray),(⟨#[112,114,101]⟩ : ByteArray)] : List ByteArray)) (inner:=[.string (⟨#[110]⟩ : ByteArray),.string (⟨#[115]⟩ : ByteArray),.string (⟨#[116]⟩ : ByteArray),.string (⟨#[117]⟩ : ByteArray),.string (⟨#[112,114,101]⟩ : ByteArray)]) (ok:=fun _ => True) (okp:=fun _ => True) ?hr ?hp (fun _ hk => hk) trivial (Below.refl _ _) (Nat.le_refl _) (by simp) ?_;(case hd => rfl);(case hg => rfl);(case hr => first|(go_simp;done)|(go_simp;rfl));(case hp => exact (Reps.one (show Kd.M Kd.string _ _ _ (⟨#[110]⟩ : ByteArray) [.string (⟨#[110]⟩ : ByteArray)] from rfl) (Reps.one (show Kd.M Kd.string _ _ _ (⟨#[115]⟩ : ByteArray) [.string (⟨#[115]⟩ : ByteArray)] from rfl) (Reps.one (show Kd.M Kd.string _ _ _ (⟨#[116]⟩ : ByteArray) [.string (⟨#[116]⟩ : ByteArray)] from rfl) (Reps.one (show Kd.M Kd.string _ _ _ (⟨#[117]⟩ : ByteArray) [.string (⟨#[117]⟩ : ByteArray)] from rfl) (Reps.one (show Kd.M Kd.string _ _ _ (⟨#[112,114,101]⟩ : ByteArray) [.string (⟨#[112,114,101]⟩ : ByteArray)] from rfl) (Reps.none _ _)))))));intro v247 w3 ho4 hb hg_ hnew_;clear hg_ hnew_;(first|rw [← Ny246.out] at ho4|(simp only [Int.reduceToNat] at ho4;rw [← Ny246.out] at ho4));have n0_:=aM (rL ho4 (keep_size (w:=w) (g:=g) (row:=none) (by repeat (first|(with_reducible first|exact HK.out|apply KeepBut.set_|apply keep_drewN|apply keep_drew|apply keep_alloc)|exact HK.out))));have n1_:=aM (IsS88.below (by repeat (first|(with_reducible first|exact HI0.out|apply IsS88.alloc|apply IsS88.drewN|apply IsS88.drew|apply IsS88.set_1|apply IsS88.set_2)|exact HI0.out)) hb);have n2_:=aM (KeepBut.trans (by repeat (first|(with_reducible first|exact HK.out|apply KeepBut.set_|apply keep_drewN|apply keep_drew|apply keep_alloc)|exact HK.out)) (KeepBut.of_below hb g none) (.inl rfl));have n3_:=aM (lP (by repeat (first|(with_reducible first|exact HB.out|apply lA|apply lN|apply lD|refine lS ?_ (IsS88.ge HI0.out))|exact HB.out)) hb);clear HI0 HK HB;have HO248:=n0_;have HI0:=n1_;have HK:=n2_;have HB:=n3_;clear n0_ n1_ n2_ n3_ hb ho4;obtain ⟨Ao5,co5,eo5⟩:=Kd.R_slice HO248.out;subst eo5)|((with_reducible refine gate_callee (f:=71) rfl ?_);refine goesL_ (some 5) rfl rfl Try.func71 (by kernel_rfl) rfl #[.pointer (some ⟨g,0,none⟩),.slice Ao5 y246.length co5] rfl (by (try simp only [List.map_toArray,List.map_cons,List.map_nil]);first|done|rfl|(simp only [List.length_drop,List.length_take];rfl)) ?_;(with_reducible refine (spec_l01Pick.calls g s0_0 s0_1 s0_2 _ _ y246 t249 t250 t251 w0 _ ?side1 ?side2 ?side3 ?side4 ?side5 A2.out).mono ?_);(case side1 => repeat (first|(with_reducible first|exact HI0.out|apply IsS88.alloc|apply IsS88.drewN|apply IsS88.drew|apply IsS88.set_1|apply IsS88.set_2)|exact HI0.out));(case side2 => repeat (first|(with_reducible first|exact HB.out|apply lA|apply lN|apply lD|refine lS ?_ (IsS88.ge HI0.out))|exact HB.out));(case side3 => repeat (first|exact (rR HO248.out).2.2|(with_reducible first|refine cA ?_ _|refine cN ?_ _|refine cD ?_)));(case side4 => exact (rR HO248.out).2.1);(case side5 => exact far_slice (IsS88.own_ne HI0.out HO248.out (by decide)));rintro e w6 ⟨rfl,hi,hb,hk⟩;refine ⟨_,rfl,?_⟩;have n0_:=aM (Kd.R_mono (Kd.R_keep (IsS88.apart (show IsS88 w0 _ g s0_0 s0_1 s0_2 from by repeat (first|(with_reducible first|exact HI0.out|apply IsS88.alloc|apply IsS88.drewN|apply IsS88.drew|apply IsS88.set_1|apply IsS88.set_2)|exact HI0.out)) (rZ HO248.out) (by decide)) hk (fun _ h => h.2)) (fun _ h => h.1));have n1_:=aM (KeepBut.trans (by repeat (first|(with_reducible first|exact HK.out|apply KeepBut.set_|apply keep_drewN|apply keep_drew|apply keep_alloc)|exact HK.out)) hk (.inl rfl));have n2_:=aM (hb);have n3_:=aM (hi);clear HO248 HK HB HI0;have HO248:=n0_;have HK:=n1_;have HB:=n2_;have HI0:=n3_;clear n0_ n1_ n2_ n3_;(try clear hb);(try clear hb2);(try clear hk);(try clear hi)))
 go_ret
 exact ⟨by first|rfl|(simp [errW_none,errW_some] <;> rfl)|(simp [*,errW_none,errW_some] <;> rfl),by repeat (first|(with_reducible first|exact HI0.out|apply IsS88.alloc|apply IsS88.drewN|apply IsS88.drew|apply IsS88.set_1|apply IsS88.set_2)|exact HI0.out),by repeat (first|(with_reducible first|exact HB.out|apply lA|apply lN|apply lD|refine lS ?_ (IsS88.ge HI0.out))|exact HB.out),by repeat (first|(with_reducible first|exact HK.out|apply KeepBut.set_|apply keep_drewN|apply keep_drew|apply keep_alloc)|exact HK.out)⟩

/-! ### spec_l03Val: function 82 -/
def spec_l03Val.f (s0_0 : List Int) (s0_1 : Int) (s0_2 : Int) : Option (ByteArray × Int × Int):=(spec_l01Pick.f s0_0 s0_1 s0_2 (([(⟨#[]⟩ : ByteArray),(⟨#[97]⟩ : ByteArray),(⟨#[98]⟩ : ByteArray),(⟨#[48]⟩ : ByteArray),(⟨#[49]⟩ : ByteArray),(⟨#[55]⟩ : ByteArray),(⟨#[48,55]⟩ : ByteArray),(⟨#[52,50]⟩ : ByteArray),(⟨#[57,57,57,57,57,57]⟩ : ByteArray),(⟨#[32,53]⟩ : ByteArray),(⟨#[53,120]⟩ : ByteArray),(⟨#[104,101,108,108,111]⟩ : ByteArray),(⟨#[97,98,99,97,98,99]⟩ : ByteArray),(⟨#[49,48,48,48,48,48,48]⟩ : ByteArray),(⟨#[97,97,98]⟩ : ByteArray),(⟨#[48,49,50,51,52,53,54,55,56,57,48,49,50,51,52,53,54,55,56,57,48,49,50,51,52,53,54,55,56,57,48,49,50,51,52,53,54,55,56,57,120,120]⟩ : ByteArray)] : List ByteArray))).bind fun bt255 => (some (bt255.1,bt255.2.1,bt255.2.2))
set_option maxHeartbeats 8000000 in
set_option maxRecDepth 100000 in
theorem spec_l03Val.calls (g : Nat) (s0_0 : List Int) (s0_1 : Int) (s0_2 : Int) (r1 : ByteArray) (r2 : Int) (r3 : Int) (w0 w : World) (hI : IsS88 w0 w g s0_0 s0_1 s0_2) (hB : Below w0.heap.size w0 w) (h : spec_l03Val.f s0_0 s0_1 s0_2 = some (r1,r2,r3)) :
  Calls Try.prog 82 #[.pointer (some ⟨g,0,none⟩)] w fun e w' => e = .returned (.string r1) ∧ IsS88 w0 w' g s0_0 r2 r3 ∧ Below w0.heap.size w0 w' ∧ KeepBut w w' g none:=by
 have HI0:=aM hI
 have HK:=aM (KeepBut.refl w g none)
 have HL:=aM hB.size
 clear hI
 have HW0:=aM hB.size
 have HB:=aM hB
 clear hB
 have H : ((spec_l01Pick.f s0_0 s0_1 s0_2 (([(⟨#[]⟩ : ByteArray),(⟨#[97]⟩ : ByteArray),(⟨#[98]⟩ : ByteArray),(⟨#[48]⟩ : ByteArray),(⟨#[49]⟩ : ByteArray),(⟨#[55]⟩ : ByteArray),(⟨#[48,55]⟩ : ByteArray),(⟨#[52,50]⟩ : ByteArray),(⟨#[57,57,57,57,57,57]⟩ : ByteArray),(⟨#[32,53]⟩ : ByteArray),(⟨#[53,120]⟩ : ByteArray),(⟨#[104,101,108,108,111]⟩ : ByteArray),(⟨#[97,98,99,97,98,99]⟩ : ByteArray),(⟨#[49,48,48,48,48,48,48]⟩ : ByteArray),(⟨#[97,97,98]⟩ : ByteArray),(⟨#[48,49,50,51,52,53,54,55,56,57,48,49,50,51,52,53,54,55,56,57,48,49,50,51,52,53,54,55,56,57,48,49,50,51,52,53,54,55,56,57,120,120]⟩ : ByteArray)] : List ByteArray))).bind fun bt255 => (some (bt255.1,bt255.2.1,bt255.2.2))) = some (r1,r2,r3):=h
 clear h
 obtain ⟨y252,hy252⟩ : ∃ y_ : List ByteArray,y_ = (([(⟨#[]⟩ : ByteArray),(⟨#[97]⟩ : ByteArray),(⟨#[98]⟩ : ByteArray),(⟨#[48]⟩ : ByteArray),(⟨#[49]⟩ : ByteArray),(⟨#[55]⟩ : ByteArray),(⟨#[48,55]⟩ : ByteArray),(⟨#[52,50]⟩ : ByteArray),(⟨#[57,57,57,57,57,57]⟩ : ByteArray),(⟨#[32,53]⟩ : ByteArray),(⟨#[53,120]⟩ : ByteArray),(⟨#[104,101,108,108,111]⟩ : ByteArray),(⟨#[97,98,99,97,98,99]⟩ : ByteArray),(⟨#[49,48,48,48,48,48,48]⟩ : ByteArray),(⟨#[97,97,98]⟩ : ByteArray),(⟨#[48,49,50,51,52,53,54,55,56,57,48,49,50,51,52,53,54,55,56,57,48,49,50,51,52,53,54,55,56,57,48,49,50,51,52,53,54,55,56,57,120,120]⟩ : ByteArray)] : List ByteArray)):=⟨_,rfl⟩
 replace H : ((spec_l01Pick.f s0_0 s0_1 s0_2 y252).bind fun bt255 => (some (bt255.1,bt255.2.1,bt255.2.2))) = some (r1,r2,r3):=by first|(rw [hy252];with_reducible exact H)|(have H2_:=(Option.bind_some _ _).symm.trans H;rw [hy252];with_reducible exact H2_)|(have H2_:=(Option.bind_some _ _).symm.trans H;with_reducible exact H2_)|with_reducible exact H|(rw [hy252];exact H)|exact H
 have Ny252:=aM hy252
 clear hy252
 replace H:=Option.bind_eq_some_iff.mp H
 obtain ⟨⟨t255,t256,t257⟩,A20,H⟩:=H
 replace H : (some (t255,t256,t257)) = some (r1,r2,r3):=H
 have A2:=aM A20
 clear A20
 simp only [Option.some.injEq,Prod.mk.injEq] at H
 obtain ⟨rfl,rfl,rfl⟩:=H
 go_enter Try.func82,Try.ntmps82
 go_wp2_with (first|((with_reducible refine gate_dst (N:=4) rfl ?_);refine Kd.R_lit Kd.string _ 9 ?hg (N:=4) ?hd (xs:=([(⟨#[]⟩ : ByteArray),(⟨#[97]⟩ : ByteArray),(⟨#[98]⟩ : ByteArray),(⟨#[48]⟩ : ByteArray),(⟨#[49]⟩ : ByteArray),(⟨#[55]⟩ : ByteArray),(⟨#[48,55]⟩ : ByteArray),(⟨#[52,50]⟩ : ByteArray),(⟨#[57,57,57,57,57,57]⟩ : ByteArray),(⟨#[32,53]⟩ : ByteArray),(⟨#[53,120]⟩ : ByteArray),(⟨#[104,101,108,108,111]⟩ : ByteArray),(⟨#[97,98,99,97,98,99]⟩ : ByteArray),(⟨#[49,48,48,48,48,48,48]⟩ : ByteArray),(⟨#[97,97,98]⟩ : ByteArray),(⟨#[48,49,50,51,52,53,54,55,56,57,48,49,50,51,52,53,54,55,56,57,48,49,50,51,52,53,54,55,56,57,48,49,50,51,52,53,54,55,56,57,120,120]⟩ : ByteArray)] : List ByteArray)) (inner:=[.string (⟨#[]⟩ : ByteArray),.string (⟨#[97]⟩ : ByteArray),.string (⟨#[98]⟩ : ByteArray),.string (⟨#[48]⟩ : ByteArray),.string (⟨#[49]⟩ : ByteArray),.string (⟨#[55]⟩ : ByteArray),.string (⟨#[48,55]⟩ : ByteArray),.string (⟨#[52,50]⟩ : ByteArray),.string (⟨#[57,57,57,57,57,57]⟩ : ByteArray),.string (⟨#[32,53]⟩ : ByteArray),.string (⟨#[53,120]⟩ : ByteArray),.string (⟨#[104,101,108,108,111]⟩ : ByteArray),.string (⟨#[97,98,99,97,98,99]⟩ : ByteArray),.string (⟨#[49,48,48,48,48,48,48]⟩ : ByteArray),.string (⟨#[97,97,98]⟩ : ByteArray),.string (⟨#[48,49,50,51,52,53,54,55,56,57,48,49,50,51,52,53,54,55,56,57,48,49,50,51,52,53,54,55,56,57,48,49,50,51,52,53,54,55,56,57,120,120]⟩ : ByteArray)]) (ok:=fun _ => True) (okp:=fun _ => True) ?hr ?hp (fun _ hk => hk) trivial (Below.refl _ _) (Nat.le_refl _) (by simp) ?_;(case hd => rfl);(case hg => rfl);(case hr => first|(go_simp;done)|(go_simp;rfl));(case hp => exact (Reps.one (show Kd.M Kd.string _ _ _ (⟨#[]⟩ : ByteArray) [.string (⟨#[]⟩ : ByteArray)] from rfl) (Reps.one (show Kd.M Kd.string _ _ _ (⟨#[97]⟩ : ByteArray) [.string (⟨#[97]⟩ : ByteArray)] from rfl) (Reps.one (show Kd.M Kd.string _ _ _ (⟨#[98]⟩ : ByteArray) [.string (⟨#[98]⟩ : ByteArray)] from rfl) (Reps.one (show Kd.M Kd.string _ _ _ (⟨#[48]⟩ : ByteArray) [.string (⟨#[48]⟩ : ByteArray)] from rfl) (Reps.one (show Kd.M Kd.string _ _ _ (⟨#[49]⟩ : ByteArray) [.string (⟨#[49]⟩ : ByteArray)] from rfl) (Reps.one (show Kd.M Kd.string _ _ _ (⟨#[55]⟩ : ByteArray) [.string (⟨#[55]⟩ : ByteArray)] from rfl) (Reps.one (show Kd.M Kd.string _ _ _ (⟨#[48,55]⟩ : ByteArray) [.string (⟨#[48,55]⟩ : ByteArray)] from rfl) (Reps.one (show Kd.M Kd.string _ _ _ (⟨#[52,50]⟩ : ByteArray) [.string (⟨#[52,50]⟩ : ByteArray)] from rfl) (Reps.one (show Kd.M Kd.string _ _ _ (⟨#[57,57,57,57,57,57]⟩ : ByteArray) [.string (⟨#[57,57,57,57,57,57]⟩ : ByteArray)] from rfl) (Reps.one (show Kd.M Kd.string _ _ _ (⟨#[32,53]⟩ : ByteArray) [.string (⟨#[32,53]⟩ : ByteArray)] from rfl) (Reps.one (show Kd.M Kd.string _ _ _ (⟨#[53,120]⟩ : ByteArray) [.string (⟨#[53,120]⟩ : ByteArray)] from rfl) (Reps.one (show Kd.M Kd.string _ _ _ (⟨#[104,101,108,108,111]⟩ : ByteArray) [.string (⟨#[104,101,108,108,111]⟩ : ByteArray)] from rfl) (Reps.one (show Kd.M Kd.string _ _ _ (⟨#[97,98,99,97,98,99]⟩ : ByteArray) [.string (⟨#[97,98,99,97,98,99]⟩ : ByteArray)] from rfl) (Reps.one (show Kd.M Kd.string _ _ _ (⟨#[49,48,48,48,48,48,48]⟩ : ByteArray) [.string (⟨#[49,48,48,48,48,48,48]⟩ : ByteArray)] from rfl) (Reps.one (show Kd.M Kd.string _ _ _ (⟨#[97,97,98]⟩ : ByteArray) [.string (⟨#[97,97,98]⟩ : ByteArray)] from rfl) (Reps.one (show Kd.M Kd.string _ _ _ (⟨#[48,49,50,51,52,53,54,55,56,57,48,49,50,51,52,53,54,55,56,57,48,49,50,51,52,53,54,55,56,57,48,49,50,51,52,53,54,55,56,57,120,120]⟩ : ByteArray) [.string (⟨#[48,49,50,51,52,53,54,55,56,57,48,49,50,51,52,53,54,55,56,57,48,49,50,51,52,53,54,55,56,57,48,49,50,51,52,53,54,55,56,57,120,120]⟩ : ByteArray)] from rfl) (Reps.none _ _))))))))))))))))));intro v253 w3 ho4 hb hg_ hnew_;clear hg_ hnew_;(first|rw [← Ny252.out] at ho4|(simp only [Int.reduceToNat] at ho4;rw [← Ny252.out] at ho4));have n0_:=aM (rL ho4 (keep_size (w:=w) (g:=g) (row:=none) (by repeat (first|(with_reducible first|exact HK.out|apply KeepBut.set_|apply keep_drewN|apply keep_drew|apply keep_alloc)|exact HK.out))));have n1_:=aM (IsS88.below (by repeat (first|(with_reducible first|exact HI0.out|apply IsS88.alloc|apply IsS88.drewN|apply IsS88.drew|apply IsS88.set_1|apply IsS88.set_2)|exact HI0.out)) hb);have n2_:=aM (KeepBut.trans (by repeat (first|(with_reducible first|exact HK.out|apply KeepBut.set_|apply keep_drewN|apply keep_drew|apply keep_alloc)|exact HK.out)) (KeepBut.of_below hb g none) (.inl rfl));have n3_:=aM (lP (by repeat (first|(with_reducible first|exact HB.out|apply lA|apply lN|apply lD|refine lS ?_ (IsS88.ge HI0.out))|exact HB.out)) hb);clear HI0 HK HB;have HO254:=n0_;have HI0:=n1_;have HK:=n2_;have HB:=n3_;clear n0_ n1_ n2_ n3_ hb ho4;obtain ⟨Ao5,co5,eo5⟩:=Kd.R_slice HO254.out;subst eo5)|((with_reducible refine gate_callee (f:=71) rfl ?_);refine goesL_ (some 5) rfl rfl Try.func71 (by kernel_rfl) rfl #[.pointer (some ⟨g,0,none⟩),.slice Ao5 y252.length co5] rfl (by (try simp only [List.map_toArray,List.map_cons,List.map_nil]);first|done|rfl|(simp only [List.length_drop,List.length_take];rfl)) ?_;(with_reducible refine (spec_l01Pick.calls g s0_0 s0_1 s0_2 _ _ y252 t255 t256 t257 w0 _ ?side1 ?side2 ?side3 ?side4 ?side5 A2.out).mono ?_);(case side1 => repeat (first|(with_reducible first|exact HI0.out|apply IsS88.alloc|apply IsS88.drewN|apply IsS88.drew|apply IsS88.set_1|apply IsS88.set_2)|exact HI0.out));(case side2 => repeat (first|(with_reducible first|exact HB.out|apply lA|apply lN|apply lD|refine lS ?_ (IsS88.ge HI0.out))|exact HB.out));(case side3 => repeat (first|exact (rR HO254.out).2.2|(with_reducible first|refine cA ?_ _|refine cN ?_ _|refine cD ?_)));(case side4 => exact (rR HO254.out).2.1);(case side5 => exact far_slice (IsS88.own_ne HI0.out HO254.out (by decide)));rintro e w6 ⟨rfl,hi,hb,hk⟩;refine ⟨_,rfl,?_⟩;have n0_:=aM (Kd.R_mono (Kd.R_keep (IsS88.apart (show IsS88 w0 _ g s0_0 s0_1 s0_2 from by repeat (first|(with_reducible first|exact HI0.out|apply IsS88.alloc|apply IsS88.drewN|apply IsS88.drew|apply IsS88.set_1|apply IsS88.set_2)|exact HI0.out)) (rZ HO254.out) (by decide)) hk (fun _ h => h.2)) (fun _ h => h.1));have n1_:=aM (KeepBut.trans (by repeat (first|(with_reducible first|exact HK.out|apply KeepBut.set_|apply keep_drewN|apply keep_drew|apply keep_alloc)|exact HK.out)) hk (.inl rfl));have n2_:=aM (hb);have n3_:=aM (hi);clear HO254 HK HB HI0;have HO254:=n0_;have HK:=n1_;have HB:=n2_;have HI0:=n3_;clear n0_ n1_ n2_ n3_;(try clear hb);(try clear hb2);(try clear hk);(try clear hi)))
 go_ret
 exact ⟨by first|rfl|(simp [errW_none,errW_some] <;> rfl)|(simp [*,errW_none,errW_some] <;> rfl),by repeat (first|(with_reducible first|exact HI0.out|apply IsS88.alloc|apply IsS88.drewN|apply IsS88.drew|apply IsS88.set_1|apply IsS88.set_2)|exact HI0.out),by repeat (first|(with_reducible first|exact HB.out|apply lA|apply lN|apply lD|refine lS ?_ (IsS88.ge HI0.out))|exact HB.out),by repeat (first|(with_reducible first|exact HK.out|apply KeepBut.set_|apply keep_drewN|apply keep_drew|apply keep_alloc)|exact HK.out)⟩

end Go.Proofs.Ytodpkfidkilpdaa.QFnCells
