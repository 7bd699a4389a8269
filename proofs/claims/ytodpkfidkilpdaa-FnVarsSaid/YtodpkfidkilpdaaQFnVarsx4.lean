-- A text of this session, made by wip/own_print.py (the kit's print with additions of ours).
import Derived.Test.YtodpkfidkilpdaaQFnVarsx0
import Derived.Test.YtodpkfidkilpdaaQFnVarsx3
namespace Go.Proofs.Ytodpkfidkilpdaa.QFnVars
open Go.RowKit Go.Proofs.YtodpkfidkilpdaaW.PrintWords Go.Proofs.YtodpkfidkilpdaaW.PrintLast Go.Proofs.YtodpkfidkilpdaaW.PrintMore
attribute [local go_sem] max2_int min2_int max_two min_two max_three min_three max_four min_four   -- for this text's walks alone
set_option linter.unusedVariables false
set_option linter.unusedSimpArgs false
open Bool renaming true → bT, false → bf
open Go.Proofs.YtodpkfidkilpdaaW.PrintWords.Kd renaming R_alloc → rA, R_drewN → rN, R_drew → rD, C_alloc → cA, C_drewN → cN, C_drew → cD, R_far → rF, R_below → rB, R_lower → rL, R_lt → rT, R_base → rS, C_below → cB, R_types → rY, R_elder' → rE, R_reads' → rR, R_new' → rW
open Go.Proofs.YtodpkfidkilpdaaW.PrintWords renaming blk_drewN → bN, blk_drew → bD, blk_alloc → bA, below_set → lS, pw_below_drewN → lN, below_drew1 → lD, below_alloc → lA, blk_cell → bC, blk_below → bB, below_size → lZ, below_step → lP, blk_lt → bL, blk_frozen → bF
open Go.Proofs.YtodpkfidkilpdaaW.PrintWords.Aside0 renaming mk → aM
theorem q_ia2 {α : Type} (l : List α) (i : Nat) (a : α) : l.toArray.setIfInBounds i a = (l.set i a).toArray := List.setIfInBounds_toArray ..
theorem q_cz2 {α : Type} (a b : α) (l : List α) : (a :: l).set 0 b = b :: l := rfl
theorem q_cs2 {α : Type} (a b : α) (l : List α) (n : Nat) : (a :: l).set (n + 1) b = a :: l.set n b := rfl

/-! ### spec_SetVar: function 28 -/
mutual
def spec_SetVar.l0 : Nat → ByteArray → ByteArray → List (S53) → Int → List (S53) → List (S57) → ByteArray → List (S53) → List (S57) → ByteArray → Option ((List (S53)) × (List (S57)) × ByteArray)
 | 0, _, _, _, _, _, _, _, _, _, _ => none
 | k + 1, x1, x2, x8, x9, x116000, x116001, x116002, x125000, x125001, x125002 => if x9 < (x116000.length : Int) then (if 0 ≤ x9 then (if (Op.bytesLess (((rd_T53 x116000 x9).f0).toList) x1.toList) = true then (if x8.length < 4398046511104 then (spec_SetVar.l0 k x1 x2 (x8 ++ [(⟨(rd_T53 x116000 x9).f0, (rd_T53 x116000 x9).f1⟩ : S53)]) (wrap64 (x9 + 1)) x116000 x116001 x116002 x125000 x125001 x125002) else (none)) else (spec_SetVar.l0 k x1 x2 x8 (wrap64 (x9 + 1)) x116000 x116001 x116002 x125000 x125001 x125002)) else (none)) else ((spec_Cut.f x2).bind fun t133 => (if x8.length < 4398046511104 then (spec_SetVar.l1 k x1 (x8 ++ [(⟨x1, t133⟩ : S53)]) 0 x116000 x116001 x116002 x125000 x125001 x125002) else (none)))
def spec_SetVar.l1 : Nat → ByteArray → List (S53) → Int → List (S53) → List (S57) → ByteArray → List (S53) → List (S57) → ByteArray → Option ((List (S53)) × (List (S57)) × ByteArray)
 | 0, _, _, _, _, _, _, _, _, _ => none
 | k + 1, x1, x8, x10, x116000, x116001, x116002, x125000, x125001, x125002 => if x10 < (x116000.length : Int) then (if 0 ≤ x10 then (if (Op.bytesLess x1.toList (((rd_T53 x116000 x10).f0).toList)) = true then (if x8.length < 4398046511104 then (spec_SetVar.l1 k x1 (x8 ++ [(⟨(rd_T53 x116000 x10).f0, (rd_T53 x116000 x10).f1⟩ : S53)]) (wrap64 (x10 + 1)) x116000 x116001 x116002 x125000 x125001 x125002) else (none)) else (spec_SetVar.l1 k x1 x8 (wrap64 (x10 + 1)) x116000 x116001 x116002 x125000 x125001 x125002)) else (none)) else (if (x8.length : Int) ≤ 60 then (some (x8, x125001, x125002)) else (some (x125000, x125001, x125002)))
end
def spec_SetVar.f (k : Nat) (l0_0 : List (S53)) (l0_1 : List (S57)) (a0_2 : ByteArray) (a1 : ByteArray) (a2 : ByteArray) : Option ((List (S53)) × (List (S57)) × ByteArray) := (spec_l08Copy.f l0_0 l0_1 a0_2).bind fun bt117 => (spec_SetVar.l0 k a1 a2 (([] : List (S53))) 0 l0_0 l0_1 a0_2 bt117.1 bt117.2.1 bt117.2.2)
theorem spec_SetVar.mono_l : ∀ k, (∀ y0 y1 y2 y3 y4 y5 y6 y7 y8 y9, LeO (spec_SetVar.l0 k y0 y1 y2 y3 y4 y5 y6 y7 y8 y9) (spec_SetVar.l0 (k + 1) y0 y1 y2 y3 y4 y5 y6 y7 y8 y9)) ∧ (∀ y0 y1 y2 y3 y4 y5 y6 y7 y8, LeO (spec_SetVar.l1 k y0 y1 y2 y3 y4 y5 y6 y7 y8) (spec_SetVar.l1 (k + 1) y0 y1 y2 y3 y4 y5 y6 y7 y8))
 | 0 => ⟨fun _ _ _ _ _ _ _ _ _ _ r h => by simp [spec_SetVar.l0] at h, fun _ _ _ _ _ _ _ _ _ r h => by simp [spec_SetVar.l1] at h⟩
 | k + 1 => by
  obtain ⟨ih0, ih1⟩ := spec_SetVar.mono_l k
  refine ⟨?_, ?_⟩
  ·intro y0 y1 y2 y3 y4 y5 y6 y7 y8 y9
   unfold spec_SetVar.l0
   repeat' first
   | (with_reducible exact ih0 _ _ _ _ _ _ _ _ _ _)
   | (with_reducible exact ih1 _ _ _ _ _ _ _ _ _)
   | (with_reducible exact LeO.refl _)
   | (with_reducible exact LeO.none _)
   | (with_reducible refine LeO.ite ?_ ?_)
   | (with_reducible refine LeO.bind ?_ (fun _ => ?_))
   | exact ih0 _ _ _ _ _ _ _ _ _ _
   | exact ih1 _ _ _ _ _ _ _ _ _
   | exact LeO.none _
   | refine LeO.ite ?_ ?_
   | refine LeO.bind ?_ (fun _ => ?_)
  ·intro y0 y1 y2 y3 y4 y5 y6 y7 y8
   unfold spec_SetVar.l1
   repeat' first
   | (with_reducible exact ih0 _ _ _ _ _ _ _ _ _ _)
   | (with_reducible exact ih1 _ _ _ _ _ _ _ _ _)
   | (with_reducible exact LeO.refl _)
   | (with_reducible exact LeO.none _)
   | (with_reducible refine LeO.ite ?_ ?_)
   | (with_reducible refine LeO.bind ?_ (fun _ => ?_))
   | exact ih0 _ _ _ _ _ _ _ _ _ _
   | exact ih1 _ _ _ _ _ _ _ _ _
   | exact LeO.none _
   | refine LeO.ite ?_ ?_
   | refine LeO.bind ?_ (fun _ => ?_)
theorem spec_SetVar.mono : ∀ a0 a1 a2 a3 a4 k, LeO (spec_SetVar.f k a0 a1 a2 a3 a4) (spec_SetVar.f (k + 1) a0 a1 a2 a3 a4) := by
 intro a0 a1 a2 a3 a4 k
 obtain ⟨ih0, ih1⟩ := spec_SetVar.mono_l k
 unfold spec_SetVar.f
 repeat' first
   | (with_reducible exact ih0 _ _ _ _ _ _ _ _ _ _)
   | (with_reducible exact ih1 _ _ _ _ _ _ _ _ _)
   | (with_reducible exact LeO.refl _)
   | (with_reducible exact LeO.none _)
   | (with_reducible refine LeO.ite ?_ ?_)
   | (with_reducible refine LeO.bind ?_ (fun _ => ?_))
   | exact ih0 _ _ _ _ _ _ _ _ _ _
   | exact ih1 _ _ _ _ _ _ _ _ _
   | exact LeO.none _
   | refine LeO.ite ?_ ?_
   | refine LeO.bind ?_ (fun _ => ?_)
set_option maxHeartbeats 8000000 in
set_option maxRecDepth 100000 in
theorem spec_SetVar.calls (k : Nat) (A0_0 : Option Addr) (c0_0 : Nat) (l0_0 : List (S53)) (A0_1 : Option Addr) (c0_1 : Nat) (l0_1 : List (S57)) (a0_2 : ByteArray) (a1 : ByteArray) (a2 : ByteArray) (r1 : List (S53)) (r2 : List (S57)) (r3 : ByteArray) (w : World) (hr0_0 : Kd.C k53 w A0_0 l0_0.length l0_0) (hc0_0 : l0_0.length ≤ c0_0) (hr0_1 : Kd.C k57 w A0_1 l0_1.length l0_1) (hc0_1 : l0_1.length ≤ c0_1) (h : spec_SetVar.f k l0_0 l0_1 a0_2 a1 a2 = some (r1,r2,r3)) :
  Calls Try.prog 28 #[.agg #[.slice A0_0 l0_0.length c0_0,.slice A0_1 l0_1.length c0_1,.string a0_2],.string a1,.string a2] w fun e w' => ∃ v0_ v1_ : Value,e = .returned (.agg #[v0_,v1_,.string r3]) ∧ Kd.R k53 53 w' w.heap.size (fun _ => True) v0_ r1 ∧ Kd.R k57 57 w' w.heap.size (fun _ => True) v1_ r2 ∧ Below w.heap.size w w':=by
 have hu38:=Try.underlying38
 have hu53:=Try.underlying53
 have HR0_0:=aM hr0_0
 have HC0_0:=aM hc0_0
 clear hr0_0 hc0_0
 have HR0_1:=aM hr0_1
 have HC0_1:=aM hc0_1
 clear hr0_1 hc0_1
 have HB:=aM (Below.refl w.heap.size w)
 have H : ((spec_l08Copy.f l0_0 l0_1 a0_2).bind fun bt117 => (spec_SetVar.l0 k a1 a2 (([] : List (S53))) 0 l0_0 l0_1 a0_2 bt117.1 bt117.2.1 bt117.2.2)) = some (r1,r2,r3):=h
 clear h
 replace H:=Option.bind_eq_some_iff.mp H
 obtain ⟨⟨t117,t120,t123⟩,A40,H⟩:=H
 replace H : (spec_SetVar.l0 k a1 a2 (([] : List (S53))) 0 l0_0 l0_1 a0_2 t117 t120 t123) = some (r1,r2,r3):=H
 have A4:=aM A40
 clear A40
 obtain ⟨y125,hy125⟩ : ∃ y_ : List (S53),y_ = (([] : List (S53))):=⟨_,rfl⟩
 replace H : (spec_SetVar.l0 k a1 a2 y125 0 l0_0 l0_1 a0_2 t117 t120 t123) = some (r1,r2,r3):=by first|(rw [hy125];with_reducible exact H)|(have H2_:=(Option.bind_some _ _).symm.trans H;rw [hy125];with_reducible exact H2_)|(have H2_:=(Option.bind_some _ _).symm.trans H;with_reducible exact H2_)|with_reducible exact H|(rw [hy125];exact H)|exact H
 have Ny125:=aM hy125
 clear hy125
 have H':=aM H
 clear H
 go_enter Try.func28,Try.ntmps28
 go_wp2_with (first|((with_reducible refine gate_dst (N:=3) rfl ?_);refine box_event ?hg (N:=3) ?hd (cs:=#[.slice A0_0 l0_0.length c0_0,.slice A0_1 l0_1.length c0_1,.string a0_2]) (t:=38) ?hr ?_;(case hd => rfl);(case hg => rfl);(case hr => first|(go_simp;done)|(go_simp;rfl));intro gb115 hg w5 hbox hb;have n0_:=aM (lQ HB.out hb);have n1_:=aM (hbox);have n2_:=aM ((sQ hg HB.out : w.heap.size ≤ gb115));have n3_:=n2_;clear HB;have HB:=n0_;have BK115:=n1_;have GW115:=n2_;have GE115:=n3_;clear n0_ n1_ n2_ n3_ hb hbox hg)|((with_reducible refine gate_dst (N:=6) rfl ?_);refine box_event ?hg (N:=6) ?hd (cs:=#[.slice none 0 0,.slice none 0 0,.string (⟨#[]⟩ : ByteArray)]) (t:=38) ?hr ?_;(case hd => rfl);(case hg => rfl);(case hr => first|(go_simp;done)|(go_simp;rfl));intro gb116 hg w6 hbox hb;have n0_:=aM (bH BK115.out hb);have n1_:=aM (lQ HB.out hb);have n2_:=aM (hbox);have n3_:=aM ((sQ hg HB.out : w.heap.size ≤ gb116));have n4_:=n3_;have n5_:=aM ((nL hg BK115.out : gb115 ≠ gb116));have n6_:=aM ((nG hg BK115.out : gb116 ≠ gb115));clear BK115 HB;have BK115:=n0_;have HB:=n1_;have BK116:=n2_;have GW116:=n3_;have GE116:=n4_;have NB115_116:=n5_;have NB116_115:=n6_;clear n0_ n1_ n2_ n3_ n4_ n5_ n6_ hb hbox hg;have hnb7:=NB115_116.out;have hnc7:=NB116_115.out;obtain ⟨⟨hcz8_0,hcz8_1,hcz8_2⟩,hfz8_0,hfz8_1,hfz8_2⟩:=bC3 BK115.out)|((with_reducible refine gate_callee (f:=50) rfl ?_);refine goesL_ (some 12) rfl rfl Try.func50 (by kernel_rfl) rfl #[.agg #[.slice A0_0 l0_0.length c0_0,.slice A0_1 l0_1.length c0_1,.string a0_2]] rfl (by (try simp only [List.map_toArray,List.map_cons,List.map_nil]);first|done|rfl|(simp only [List.length_drop,List.length_take];rfl)) ?_;(with_reducible refine (spec_l08Copy.calls _ _ l0_0 _ _ l0_1 a0_2 t117 t120 t123 _ ?side1 ?side2 ?side3 ?side4 A4.out).mono ?_);(case side1 => repeat (first|exact (cB HR0_0.out HB.out)|(with_reducible first|refine cA ?_ _|refine cN ?_ _|refine cD ?_)));(case side2 => exact HC0_0.out);(case side3 => repeat (first|exact (cB HR0_1.out HB.out)|(with_reducible first|refine cA ?_ _|refine cN ?_ _|refine cD ?_)));(case side4 => exact HC0_1.out);rintro e w9 ⟨v118,v121,rfl,ho0,ho1,hb⟩;refine ⟨_,rfl,?_⟩;have n0_:=aM (rL ho0 (lZ (by repeat (first|(with_reducible first|exact HB.out|apply lA|apply lN|apply lD|refine lS ?_ GE115.out|refine lS ?_ GE116.out)|exact HB.out))));have n1_:=aM (rL ho1 (lZ (by repeat (first|(with_reducible first|exact HB.out|apply lA|apply lN|apply lD|refine lS ?_ GE115.out|refine lS ?_ GE116.out)|exact HB.out))));have n2_:=aM (bH BK115.out hb);have n3_:=aM (bH BK116.out hb);have n4_:=aM (lQ HB.out hb);clear BK115 BK116 HB;have HO119:=n0_;have HO122:=n1_;have BK115:=n2_;have BK116:=n3_;have HB:=n4_;clear n0_ n1_ n2_ n3_ n4_;(try clear hb);(try clear hb2);(try clear hk);(try clear hi);(try clear ho0);(try clear ho1))|((with_reducible refine gate_dst (N:=7) rfl ?_);refine box_event ?hg (N:=7) ?hd (cs:=#[.slice none 0 0,.slice none 0 0,.string (⟨#[]⟩ : ByteArray)]) (t:=38) ?hr ?_;(case hd => rfl);(case hg => rfl);(case hr => first|(go_simp;done)|(go_simp;rfl));intro gb124 hg w10 hbox hb;have n0_:=aM (rH HO119.out hb);have n1_:=aM (rH HO122.out hb);have n2_:=aM (bH BK115.out hb);have n3_:=aM (bH BK116.out hb);have n4_:=aM (lQ HB.out hb);have n5_:=aM (hbox);have n6_:=aM ((sQ hg HB.out : w.heap.size ≤ gb124));have n7_:=n6_;have n8_:=aM ((nL hg BK115.out : gb115 ≠ gb124));have n9_:=aM ((nG hg BK115.out : gb124 ≠ gb115));have n10_:=aM ((nL hg BK116.out : gb116 ≠ gb124));have n11_:=aM ((nG hg BK116.out : gb124 ≠ gb116));clear HO119 HO122 BK115 BK116 HB;have HO119:=n0_;have HO122:=n1_;have BK115:=n2_;have BK116:=n3_;have HB:=n4_;have BK124:=n5_;have GW124:=n6_;have GE124:=n7_;have NB115_124:=n8_;have NB124_115:=n9_;have NB116_124:=n10_;have NB124_116:=n11_;clear n0_ n1_ n2_ n3_ n4_ n5_ n6_ n7_ n8_ n9_ n10_ n11_ hb hbox hg;obtain ⟨Ao11,co11,eo11⟩:=Kd.R_slice HO119.out;subst eo11;have hnb12:=NB124_115.out;have hnc12:=NB115_124.out;have hnb13:=NB124_116.out;have hnc13:=NB116_124.out;obtain ⟨⟨hcz14_0,hcz14_1,hcz14_2⟩,hfz14_0,hfz14_1,hfz14_2⟩:=bC3 BK124.out;obtain ⟨Ao15,co15,eo15⟩:=Kd.R_slice HO122.out;subst eo15)|((with_reducible refine gate_dst (N:=13) rfl ?_);refine Kd.R_lit k53 _ 53 ?hg (N:=13) ?hd (xs:=([] : List (S53))) (inner:=[]) (ok:=fun _ => True) (okp:=fun _ => True) ?hr ?hp (fun _ hk => hk) trivial (Below.refl _ _) (Nat.le_refl _) (by simp) ?_;(case hd => rfl);(case hg => rfl);(case hr => first|(go_simp;done)|(go_simp;rfl));(case hp => exact (Reps.none _ _));intro v126 w16 ho17 hb hg_ hnew_;clear hg_ hnew_;(first|rw [← Ny125.out] at ho17|(simp only [Int.reduceToNat] at ho17;rw [← Ny125.out] at ho17));have n0_:=aM (rE (by (with_reducible repeat (first|apply rA|apply rN|apply rD));exact (Kd.R_mono (rF (rF (rF (rY HO119.out BK124.out (by decide)) (fun _ hk => hk.2) _) (fun _ hk => hk.2) _) (fun _ hk => hk.2) _) (fun _ h_ => h_.1))) (rS ho17) hb);have n1_:=aM (rB (by (with_reducible repeat (first|apply rA|apply rN|apply rD));exact (Kd.R_mono (rF (rF (rF (rY HO122.out BK124.out (by decide)) (fun _ hk => hk.2) _) (fun _ hk => hk.2) _) (fun _ hk => hk.2) _) (fun _ h_ => h_.1))) hb);have n2_:=aM (rL (rW ho17 (rT (by (with_reducible repeat (first|apply rA|apply rN|apply rD));exact (Kd.R_mono (rF (rF (rF (rY HO119.out BK124.out (by decide)) (fun _ hk => hk.2) _) (fun _ hk => hk.2) _) (fun _ hk => hk.2) _) (fun _ h_ => h_.1))))) (lZ (by repeat (first|(with_reducible first|exact HB.out|apply lA|apply lN|apply lD|refine lS ?_ GE115.out|refine lS ?_ GE116.out|refine lS ?_ GE124.out)|exact HB.out))));have n3_:=aM (bB (g:=gb115) (o:=.cells #[.slice A0_0 l0_0.length c0_0,.slice A0_1 l0_1.length c0_1,.string a0_2] 38 (0,0)) (by (with_reducible repeat (first|refine bN ?_ _|refine bD ?_|refine bA ?_ _));refine blk_far ?_ NB115_124.out _;(with_reducible repeat (first|refine bN ?_ _|refine bD ?_|refine bA ?_ _));refine blk_far ?_ NB115_124.out _;(with_reducible repeat (first|refine bN ?_ _|refine bD ?_|refine bA ?_ _));refine blk_far ?_ NB115_124.out _;(with_reducible repeat (first|refine bN ?_ _|refine bD ?_|refine bA ?_ _));exact BK115.out) hb);have n4_:=aM (bB (g:=gb116) (o:=.cells #[.slice none 0 0,.slice none 0 0,.string (⟨#[]⟩ : ByteArray)] 38 (0,0)) (by (with_reducible repeat (first|refine bN ?_ _|refine bD ?_|refine bA ?_ _));refine blk_far ?_ NB116_124.out _;(with_reducible repeat (first|refine bN ?_ _|refine bD ?_|refine bA ?_ _));refine blk_far ?_ NB116_124.out _;(with_reducible repeat (first|refine bN ?_ _|refine bD ?_|refine bA ?_ _));refine blk_far ?_ NB116_124.out _;(with_reducible repeat (first|refine bN ?_ _|refine bD ?_|refine bA ?_ _));exact BK116.out) hb);have n5_:=aM (bB (g:=gb124) (o:=.cells #[.slice Ao11 t117.length co11,.slice Ao15 t120.length co15,.string t123] 38 (0,0)) (by (with_reducible repeat (first|refine bN ?_ _|refine bD ?_|refine bA ?_ _));refine blk_put (cs:=#[.slice Ao11 t117.length co11,.slice Ao15 t120.length co15,.string (⟨#[]⟩ : ByteArray)]) ?_ 2 _ rfl;(with_reducible repeat (first|refine bN ?_ _|refine bD ?_|refine bA ?_ _));refine blk_put (cs:=#[.slice Ao11 t117.length co11,.slice none 0 0,.string (⟨#[]⟩ : ByteArray)]) ?_ 1 _ rfl;(with_reducible repeat (first|refine bN ?_ _|refine bD ?_|refine bA ?_ _));refine blk_put (cs:=#[.slice none 0 0,.slice none 0 0,.string (⟨#[]⟩ : ByteArray)]) ?_ 0 _ rfl;(with_reducible repeat (first|refine bN ?_ _|refine bD ?_|refine bA ?_ _));exact BK124.out) hb);have n6_:=aM (lQ HB.out hb);clear HO119 HO122 BK115 BK116 BK124 HB;have HO119:=n0_;have HO122:=n1_;have HO127:=n2_;have BK115:=n3_;have BK116:=n4_;have BK124:=n5_;have HB:=n6_;clear n0_ n1_ n2_ n3_ n4_ n5_ n6_ hb ho17))
 go_loopg [8,9] k (fun kq v8 v9 w' => ∃ (x8_1 : List (S53)) (x9_1 : Int),v9 = .int .i64 x9_1 ∧ Aside0 (spec_SetVar.l0 kq a1 a2 x8_1 x9_1 l0_0 l0_1 a0_2 t117 t120 t123 = some (r1,r2,r3)) ∧ Aside0 (kq ≤ k) ∧ Aside0 (Kd.R k53 53 w' w.heap.size (fun k_ => some k_ ≠ ((.slice Ao11 t117.length co11) : Value).ownBlock) v8 x8_1) ∧ Aside0 (Kd.R k53 53 w' w.heap.size (fun k_ => some k_ ≠ (v8 : Value).ownBlock) (.slice Ao11 t117.length co11) t117) ∧ Aside0 (Kd.R k57 57 w' w.heap.size (fun _ => True) (.slice Ao15 t120.length co15) t120) ∧ Aside0 (w'.heap[gb115]? = some (.cells #[(.slice A0_0 l0_0.length c0_0),(.slice A0_1 l0_1.length c0_1),.string a0_2] 38 (0,0))) ∧ Aside0 (w'.heap[gb116]? = some (.cells #[(.slice none 0 0),(.slice none 0 0),.string (⟨#[]⟩ : ByteArray)] 38 (0,0))) ∧ Aside0 (w'.heap[gb124]? = some (.cells #[(.slice Ao11 t117.length co11),(.slice Ao15 t120.length co15),.string t123] 38 (0,0))) ∧ Aside0 (Below w.heap.size w w'))
 case atStart => exact ⟨(y125),(0),(by first|rfl|(simp;done)|(simp [*];done)),H',⟨Nat.le_refl _⟩,⟨by (with_reducible repeat (first|apply rA|apply rN|apply rD));exact Kd.R_mono HO127.out (fun _ hk => hk.2)⟩,⟨by (with_reducible repeat (first|apply rA|apply rN|apply rD));exact Kd.R_mono HO119.out (fun _ hk => hk.2)⟩,⟨by (with_reducible repeat (first|apply rA|apply rN|apply rD));exact HO122.out⟩,⟨by (with_reducible repeat (first|refine bN ?_ _|refine bD ?_|refine bA ?_ _));exact BK115.out⟩,⟨by (with_reducible repeat (first|refine bN ?_ _|refine bD ?_|refine bA ?_ _));exact BK116.out⟩,⟨by (with_reducible repeat (first|refine bN ?_ _|refine bD ?_|refine bA ?_ _));exact BK124.out⟩,⟨by repeat (first|(with_reducible first|exact HB.out|apply lA|apply lN|apply lD|refine lS ?_ GE115.out|refine lS ?_ GE116.out|refine lS ?_ GE124.out)|exact HB.out)⟩⟩
 case round =>
  clear H'
  try clear c1
  try clear c2
  try clear p2
  try clear c5
  try clear c7
  try clear c12
  try clear c13
  try clear hcz14_0
  try clear hcz14_1
  try clear hcz14_2
  try clear hcz8_0
  try clear hcz8_1
  try clear hcz8_2
  obtain ⟨x8_1,x9_1,rfl,HA,HK1,HO_8,HO_125000,HO_125001,BK115,BK116,BK124,HB⟩:=hrel
  cases gk with
  |zero => exact absurd HA.out (by simp [spec_SetVar.l0])
  |succ k1 =>
   have H:=HA.out
   clear HA
   simp only [spec_SetVar.l0] at H
   by_cases c18 : x9_1 < (l0_0.length : Int)
   ·rw [if_pos c18] at H
    have c18b0 : decide (x9_1 < (l0_0.length : Int)) = true:=decide_eq_true c18
    clear c18
    by_cases c19 : 0 ≤ x9_1
    ·rw [if_pos c19] at H
     have c19b0 : decide (0 ≤ x9_1) = true:=decide_eq_true c19
     clear c19
     by_cases c20 : (Op.bytesLess (((rd_T53 l0_0 x9_1).f0).toList) a1.toList) = true
     ·rw [if_pos c20] at H
      have c20b0 : (Op.bytesLess (((rd_T53 l0_0 x9_1).f0).toList) a1.toList) = true:=c20
      clear c20
      by_cases c21 : x8_1.length < 4398046511104
      ·rw [if_pos c21] at H
       have LMc21:=aM c21
       clear c21
       obtain ⟨y130,hy130⟩ : ∃ y_ : List (S53),y_ = (x8_1 ++ [(⟨(rd_T53 l0_0 x9_1).f0,(rd_T53 l0_0 x9_1).f1⟩ : S53)]):=⟨_,rfl⟩
       replace H : (spec_SetVar.l0 k1 a1 a2 y130 (wrap64 (x9_1 + 1)) l0_0 l0_1 a0_2 t117 t120 t123) = some (r1,r2,r3):=by first|(rw [hy130];with_reducible exact H)|(have H2_:=(Option.bind_some _ _).symm.trans H;rw [hy130];with_reducible exact H2_)|(have H2_:=(Option.bind_some _ _).symm.trans H;with_reducible exact H2_)|with_reducible exact H|(rw [hy130];exact H)|exact H
       have Ny130:=aM hy130
       clear hy130
       have H':=aM H
       clear H
       have hnb22:=NB115_116.out
       have hnc22:=NB116_115.out
       have hnb23:=NB115_124.out
       have hnc23:=NB124_115.out
       obtain ⟨⟨hcz24_0,hcz24_1,hcz24_2⟩,hfz24_0,hfz24_1,hfz24_2⟩:=bC3 BK115.out
       have p128 : 0 ≤ (x9_1 : Int):=of_decide_eq_true (by first|(with_reducible assumption)|assumption)
       have q128 : x9_1 < (l0_0.length : Int):=of_decide_eq_true (by first|(with_reducible assumption)|assumption)
       obtain ⟨ad128,e128,hx128_0,hx128_1⟩:=at_T53 HR0_0.out x9_1 p128 q128
       cases e128
       replace hx128_0:=(HB.out.cell (World.block_lt_of_cell? w _ hx128_0)).trans hx128_0
       replace hx128_1:=(HB.out.cell (World.block_lt_of_cell? w _ hx128_1)).trans hx128_1
       replace p128:=eq_true p128
       replace q128:=eq_true q128
       have p129 : 0 ≤ (x9_1 : Int):=of_decide_eq_true (by first|(with_reducible assumption)|assumption)
       have q129 : x9_1 < (l0_0.length : Int):=of_decide_eq_true (by first|(with_reducible assumption)|assumption)
       obtain ⟨ad129,e129,hx129_0,hx129_1⟩:=at_T53 HR0_0.out x9_1 p129 q129
       obtain rfl : ad128 = ad129:=(by injection e129)
       replace hx129_0:=(HB.out.cell (World.block_lt_of_cell? w _ hx129_0)).trans hx129_0
       replace hx129_1:=(HB.out.cell (World.block_lt_of_cell? w _ hx129_1)).trans hx129_1
       replace p129:=eq_true p129
       replace q129:=eq_true q129
       go_wp2_with (first|((with_reducible refine gate_builtin (b:=.append) (xs:=#[.tmp 29,.tmp 35]) rfl ?_);at_builtin;refine Kd.R_append k53 (w0:=w) w.heap.size rfl (.tmp 29) (.tmp 35) 35 53 (.agg #[(.string ⟨#[]⟩),(.string ⟨#[]⟩)]) 32 rfl Try.underlying35 info53 rfl (by decide) (by omega) u8 x8_1 (⟨(rd_T53 l0_0 x9_1).f0,(rd_T53 l0_0 x9_1).f1⟩ : S53) [.string ((rd_T53 l0_0 x9_1).f0),.string ((rd_T53 l0_0 x9_1).f1)] (fun k_ => some k_ ≠ (.slice Ao11 t117.length co11 : Value).ownBlock) (fun _ => False) rfl rfl ?aP (fun _ hk => hk.elim) ?aF ?aO ?aB ?aS ?aL ?_;(case aP => exact k53_mkM _ _ _ (⟨(rd_T53 l0_0 x9_1).f0,(rd_T53 l0_0 x9_1).f1⟩ : S53));(case aB => exact (by repeat (first|(with_reducible first|exact HB.out|apply lA|apply lN|apply lD|refine lS ?_ GE115.out|refine lS ?_ GE116.out|refine lS ?_ GE124.out)|exact HB.out)));(case aF => exact (fun k_ hk => Kd.fresh' (rT (rZ HO_125000.out)) k_ hk));(case aO => exact (rZ HO_8.out));(case aS => exact (lZ (by repeat (first|(with_reducible first|exact HB.out|apply lA|apply lN|apply lD|refine lS ?_ GE115.out|refine lS ?_ GE116.out|refine lS ?_ GE124.out)|exact HB.out))));(case aL => have:=LMc21.out;omega);intro v131 w25 ho hb hg hat;rw [← Ny130.out] at ho;have n0_:=aM (Kd.R_after (ok:=(fun _ => True)) (by (with_reducible repeat (first|apply rA|apply rN|apply rD));exact Kd.R_mono HO_125000.out (fun _ hk => ⟨trivial,hk⟩)) hg hat);have n1_:=aM (Kd.R_over' (rZ HO_125001.out) (Kd.R_typed (rZ HO_8.out)) (by decide) hg);have n2_:=aM (blk_grown (g:=gb115) (o:=.cells #[.slice (some ad128) l0_0.length c0_0,.slice A0_1 l0_1.length c0_1,.string a0_2] 38 (0,0)) (by (with_reducible repeat (first|refine bN ?_ _|refine bD ?_|refine bA ?_ _));exact BK115.out) hg (Kd.R_ne HO_8.out BK115.out (by decide)));have n3_:=aM (blk_grown (g:=gb116) (o:=.cells #[.slice none 0 0,.slice none 0 0,.string (⟨#[]⟩ : ByteArray)] 38 (0,0)) (by (with_reducible repeat (first|refine bN ?_ _|refine bD ?_|refine bA ?_ _));exact BK116.out) hg (Kd.R_ne HO_8.out BK116.out (by decide)));have n4_:=aM (blk_grown (g:=gb124) (o:=.cells #[.slice Ao11 t117.length co11,.slice Ao15 t120.length co15,.string t123] 38 (0,0)) (by (with_reducible repeat (first|refine bN ?_ _|refine bD ?_|refine bA ?_ _));exact BK124.out) hg (Kd.R_ne HO_8.out BK124.out (by decide)));have n5_:=aM (hb);have n6_:=aM (ho);clear HO_125000 HO_125001 BK115 BK116 BK124 HB HO_8;have HO_125000:=n0_;have HO_125001:=n1_;have BK115:=n2_;have BK116:=n3_;have BK124:=n4_;have HB:=n5_;have HO132:=n6_;clear n0_ n1_ n2_ n3_ n4_ n5_ n6_ ho hb hg hat))
       go_roundg k1
       case measure => have:=HK1.out;omega
       case rel => exact ⟨(y130),(wrap64 (x9_1 + 1)),(by first|rfl|(simp;done)|(simp [*];done)),H',⟨by have:=HK1.out;omega⟩,⟨by (with_reducible repeat (first|apply rA|apply rN|apply rD));exact HO132.out⟩,⟨by (with_reducible repeat (first|apply rA|apply rN|apply rD));exact Kd.R_mono HO_125000.out (fun _ hk => hk.2)⟩,⟨by (with_reducible repeat (first|apply rA|apply rN|apply rD));exact HO_125001.out⟩,⟨by (with_reducible repeat (first|refine bN ?_ _|refine bD ?_|refine bA ?_ _));exact BK115.out⟩,⟨by (with_reducible repeat (first|refine bN ?_ _|refine bD ?_|refine bA ?_ _));exact BK116.out⟩,⟨by (with_reducible repeat (first|refine bN ?_ _|refine bD ?_|refine bA ?_ _));exact BK124.out⟩,⟨by repeat (first|(with_reducible first|exact HB.out|apply lA|apply lN|apply lD|refine lS ?_ GE115.out|refine lS ?_ GE116.out|refine lS ?_ GE124.out)|exact HB.out)⟩⟩
      ·rw [if_neg c21] at H
       exact absurd H (by simp)
     ·rw [if_neg c20] at H
      have c20b0 : (Op.bytesLess (((rd_T53 l0_0 x9_1).f0).toList) a1.toList) = false:=by simpa using c20
      clear c20
      have H':=aM H
      clear H
      have hnb26:=NB115_116.out
      have hnc26:=NB116_115.out
      have hnb27:=NB115_124.out
      have hnc27:=NB124_115.out
      obtain ⟨⟨hcz28_0,hcz28_1,hcz28_2⟩,hfz28_0,hfz28_1,hfz28_2⟩:=bC3 BK115.out
      have p128 : 0 ≤ (x9_1 : Int):=of_decide_eq_true (by first|(with_reducible assumption)|assumption)
      have q128 : x9_1 < (l0_0.length : Int):=of_decide_eq_true (by first|(with_reducible assumption)|assumption)
      obtain ⟨ad128,e128,hx128_0,hx128_1⟩:=at_T53 HR0_0.out x9_1 p128 q128
      cases e128
      replace hx128_0:=(HB.out.cell (World.block_lt_of_cell? w _ hx128_0)).trans hx128_0
      replace hx128_1:=(HB.out.cell (World.block_lt_of_cell? w _ hx128_1)).trans hx128_1
      replace p128:=eq_true p128
      replace q128:=eq_true q128
      go_wp2
      go_roundg k1
      case measure => have:=HK1.out;omega
      case rel => exact ⟨(x8_1),(wrap64 (x9_1 + 1)),(by first|rfl|(simp;done)|(simp [*];done)),H',⟨by have:=HK1.out;omega⟩,⟨by (with_reducible repeat (first|apply rA|apply rN|apply rD));exact HO_8.out⟩,⟨by (with_reducible repeat (first|apply rA|apply rN|apply rD));exact HO_125000.out⟩,⟨by (with_reducible repeat (first|apply rA|apply rN|apply rD));exact HO_125001.out⟩,⟨by (with_reducible repeat (first|refine bN ?_ _|refine bD ?_|refine bA ?_ _));exact BK115.out⟩,⟨by (with_reducible repeat (first|refine bN ?_ _|refine bD ?_|refine bA ?_ _));exact BK116.out⟩,⟨by (with_reducible repeat (first|refine bN ?_ _|refine bD ?_|refine bA ?_ _));exact BK124.out⟩,⟨by repeat (first|(with_reducible first|exact HB.out|apply lA|apply lN|apply lD|refine lS ?_ GE115.out|refine lS ?_ GE116.out|refine lS ?_ GE124.out)|exact HB.out)⟩⟩
    ·rw [if_neg c19] at H
     exact absurd H (by simp)
   ·rw [if_neg c18] at H
    have c18b0 : decide (x9_1 < (l0_0.length : Int)) = false:=decide_eq_false c18
    clear c18
    replace H:=Option.bind_eq_some_iff.mp H
    obtain ⟨t133,A290,H⟩:=H
    replace H : (if x8_1.length < 4398046511104 then (spec_SetVar.l1 k1 a1 (x8_1 ++ [(⟨a1,t133⟩ : S53)]) 0 l0_0 l0_1 a0_2 t117 t120 t123) else (none)) = some (r1,r2,r3):=H
    have A29:=aM A290
    clear A290
    by_cases c30 : x8_1.length < 4398046511104
    ·rw [if_pos c30] at H
     have LMc30:=aM c30
     clear c30
     obtain ⟨y134,hy134⟩ : ∃ y_ : List (S53),y_ = (x8_1 ++ [(⟨a1,t133⟩ : S53)]):=⟨_,rfl⟩
     replace H : (spec_SetVar.l1 k1 a1 y134 0 l0_0 l0_1 a0_2 t117 t120 t123) = some (r1,r2,r3):=by first|(rw [hy134];with_reducible exact H)|(have H2_:=(Option.bind_some _ _).symm.trans H;rw [hy134];with_reducible exact H2_)|(have H2_:=(Option.bind_some _ _).symm.trans H;with_reducible exact H2_)|with_reducible exact H|(rw [hy134];exact H)|exact H
     have Ny134:=aM hy134
     clear hy134
     have H':=aM H
     clear H
     have hnb31:=NB115_116.out
     have hnc31:=NB116_115.out
     have hnb32:=NB115_124.out
     have hnc32:=NB124_115.out
     obtain ⟨⟨hcz33_0,hcz33_1,hcz33_2⟩,hfz33_0,hfz33_1,hfz33_2⟩:=bC3 BK115.out
     go_wp2_with (first|((with_reducible refine gate_callee (f:=39) rfl ?_);refine goesL_ (some 40) rfl rfl Try.func39 (by kernel_rfl) rfl #[.string a2] rfl (by (try simp only [List.map_toArray,List.map_cons,List.map_nil]);first|done|rfl|(simp only [List.length_drop,List.length_take];rfl)) ?_;(with_reducible refine (spec_Cut.calls a2 t133 _ A29.out).mono ?_);rintro e w' ⟨rfl,⟨nd,rfl⟩⟩;refine ⟨_,rfl,?_⟩)|((with_reducible refine gate_builtin (b:=.append) (xs:=#[.tmp 37,.tmp 42]) rfl ?_);at_builtin;refine Kd.R_append k53 (w0:=w) w.heap.size rfl (.tmp 37) (.tmp 42) 35 53 (.agg #[(.string ⟨#[]⟩),(.string ⟨#[]⟩)]) 32 rfl Try.underlying35 info53 rfl (by decide) (by omega) u8 x8_1 (⟨a1,t133⟩ : S53) [.string a1,.string t133] (fun k_ => some k_ ≠ (.slice Ao11 t117.length co11 : Value).ownBlock) (fun _ => False) rfl rfl ?aP (fun _ hk => hk.elim) ?aF ?aO ?aB ?aS ?aL ?_;(case aP => exact k53_mkM _ _ _ (⟨a1,t133⟩ : S53));(case aB => exact (by repeat (first|(with_reducible first|exact HB.out|apply lA|apply lN|apply lD|refine lS ?_ GE115.out|refine lS ?_ GE116.out|refine lS ?_ GE124.out)|exact HB.out)));(case aF => exact (fun k_ hk => Kd.fresh' (rT (rZ HO_125000.out)) k_ hk));(case aO => exact (rZ HO_8.out));(case aS => exact (lZ (by repeat (first|(with_reducible first|exact HB.out|apply lA|apply lN|apply lD|refine lS ?_ GE115.out|refine lS ?_ GE116.out|refine lS ?_ GE124.out)|exact HB.out))));(case aL => have:=LMc30.out;omega);intro v135 w34 ho hb hg hat;rw [← Ny134.out] at ho;have n0_:=aM (Kd.R_after (ok:=(fun _ => True)) (by (with_reducible repeat (first|apply rA|apply rN|apply rD));exact Kd.R_mono HO_125000.out (fun _ hk => ⟨trivial,hk⟩)) hg hat);have n1_:=aM (Kd.R_over' (rZ HO_125001.out) (Kd.R_typed (rZ HO_8.out)) (by decide) hg);have n2_:=aM (blk_grown (g:=gb115) (o:=.cells #[.slice A0_0 l0_0.length c0_0,.slice A0_1 l0_1.length c0_1,.string a0_2] 38 (0,0)) (by (with_reducible repeat (first|refine bN ?_ _|refine bD ?_|refine bA ?_ _));exact BK115.out) hg (Kd.R_ne HO_8.out BK115.out (by decide)));have n3_:=aM (blk_grown (g:=gb116) (o:=.cells #[.slice none 0 0,.slice none 0 0,.string (⟨#[]⟩ : ByteArray)] 38 (0,0)) (by (with_reducible repeat (first|refine bN ?_ _|refine bD ?_|refine bA ?_ _));exact BK116.out) hg (Kd.R_ne HO_8.out BK116.out (by decide)));have n4_:=aM (blk_grown (g:=gb124) (o:=.cells #[.slice Ao11 t117.length co11,.slice Ao15 t120.length co15,.string t123] 38 (0,0)) (by (with_reducible repeat (first|refine bN ?_ _|refine bD ?_|refine bA ?_ _));exact BK124.out) hg (Kd.R_ne HO_8.out BK124.out (by decide)));have n5_:=aM (hb);have n6_:=aM (ho);clear HO_125000 HO_125001 BK115 BK116 BK124 HB HO_8;have HO_125000:=n0_;have HO_125001:=n1_;have BK115:=n2_;have BK116:=n3_;have BK124:=n4_;have HB:=n5_;have HO136:=n6_;clear n0_ n1_ n2_ n3_ n4_ n5_ n6_ ho hb hg hat))
     go_loopg [8,10] k1 (fun kq v8 v10 w' => ∃ (x8_2 : List (S53)) (x10_2 : Int),v10 = .int .i64 x10_2 ∧ Aside0 (spec_SetVar.l1 kq a1 x8_2 x10_2 l0_0 l0_1 a0_2 t117 t120 t123 = some (r1,r2,r3)) ∧ Aside0 (kq ≤ k1) ∧ Aside0 (Kd.R k53 53 w' w.heap.size (fun k_ => some k_ ≠ ((.slice Ao11 t117.length co11) : Value).ownBlock) v8 x8_2) ∧ Aside0 (Kd.R k53 53 w' w.heap.size (fun k_ => some k_ ≠ (v8 : Value).ownBlock) (.slice Ao11 t117.length co11) t117) ∧ Aside0 (Kd.R k57 57 w' w.heap.size (fun _ => True) (.slice Ao15 t120.length co15) t120) ∧ Aside0 (w'.heap[gb115]? = some (.cells #[(.slice A0_0 l0_0.length c0_0),(.slice A0_1 l0_1.length c0_1),.string a0_2] 38 (0,0))) ∧ Aside0 (w'.heap[gb116]? = some (.cells #[(.slice none 0 0),(.slice none 0 0),.string (⟨#[]⟩ : ByteArray)] 38 (0,0))) ∧ Aside0 (w'.heap[gb124]? = some (.cells #[(.slice Ao11 t117.length co11),(.slice Ao15 t120.length co15),.string t123] 38 (0,0))) ∧ Aside0 (Below w.heap.size w w'))
     case atStart => exact ⟨(y134),(0),(by first|rfl|(simp;done)|(simp [*];done)),H',⟨Nat.le_refl _⟩,⟨by (with_reducible repeat (first|apply rA|apply rN|apply rD));exact HO136.out⟩,⟨by (with_reducible repeat (first|apply rA|apply rN|apply rD));exact Kd.R_mono HO_125000.out (fun _ hk => hk.2)⟩,⟨by (with_reducible repeat (first|apply rA|apply rN|apply rD));exact HO_125001.out⟩,⟨by (with_reducible repeat (first|refine bN ?_ _|refine bD ?_|refine bA ?_ _));exact BK115.out⟩,⟨by (with_reducible repeat (first|refine bN ?_ _|refine bD ?_|refine bA ?_ _));exact BK116.out⟩,⟨by (with_reducible repeat (first|refine bN ?_ _|refine bD ?_|refine bA ?_ _));exact BK124.out⟩,⟨by repeat (first|(with_reducible first|exact HB.out|apply lA|apply lN|apply lD|refine lS ?_ GE115.out|refine lS ?_ GE116.out|refine lS ?_ GE124.out)|exact HB.out)⟩⟩
     case round =>
      clear H'
      try clear c1
      try clear p1
      try clear q1
      try clear hx1
      try clear c2
      try clear p2
      try clear c3
      try clear c5
      try clear p6
      try clear c7
      try clear c12
      try clear p12
      try clear q12
      try clear hx12
      try clear c13
      try clear c18
      try clear c18b0
      try clear c19
      try clear c19b0
      try clear c20
      try clear c20b0
      try clear c21
      try clear c22
      try clear c23
      try clear c26
      try clear c27
      try clear c28
      try clear c30
      try clear c31
      try clear c32
      try clear hcz14_0
      try clear hcz14_1
      try clear hcz14_2
      try clear hcz24_0
      try clear hcz24_1
      try clear hcz24_2
      try clear hcz28_0
      try clear hcz28_1
      try clear hcz28_2
      try clear hcz33_0
      try clear hcz33_1
      try clear hcz33_2
      try clear hcz8_0
      try clear hcz8_1
      try clear hcz8_2
      try clear hx128_0
      try clear hx128_1
      try clear hx129_0
      try clear hx129_1
      try clear p128
      try clear p129
      try clear p2
      try clear q128
      try clear q129
      obtain ⟨x8_2,x10_2,rfl,HA,HK2,HO_8,HO_125000,HO_125001,BK115,BK116,BK124,HB⟩:=hrel
      cases gk with
      |zero => exact absurd HA.out (by simp [spec_SetVar.l1])
      |succ k2 =>
       have H:=HA.out
       clear HA
       simp only [spec_SetVar.l1] at H
       by_cases c35 : x10_2 < (l0_0.length : Int)
       ·rw [if_pos c35] at H
        have c35b0 : decide (x10_2 < (l0_0.length : Int)) = true:=decide_eq_true c35
        clear c35
        by_cases c36 : 0 ≤ x10_2
        ·rw [if_pos c36] at H
         have c36b0 : decide (0 ≤ x10_2) = true:=decide_eq_true c36
         clear c36
         by_cases c37 : (Op.bytesLess a1.toList (((rd_T53 l0_0 x10_2).f0).toList)) = true
         ·rw [if_pos c37] at H
          have c37b0 : (Op.bytesLess a1.toList (((rd_T53 l0_0 x10_2).f0).toList)) = true:=c37
          clear c37
          by_cases c38 : x8_2.length < 4398046511104
          ·rw [if_pos c38] at H
           have LMc38:=aM c38
           clear c38
           obtain ⟨y139,hy139⟩ : ∃ y_ : List (S53),y_ = (x8_2 ++ [(⟨(rd_T53 l0_0 x10_2).f0,(rd_T53 l0_0 x10_2).f1⟩ : S53)]):=⟨_,rfl⟩
           replace H : (spec_SetVar.l1 k2 a1 y139 (wrap64 (x10_2 + 1)) l0_0 l0_1 a0_2 t117 t120 t123) = some (r1,r2,r3):=by first|(rw [hy139];with_reducible exact H)|(have H2_:=(Option.bind_some _ _).symm.trans H;rw [hy139];with_reducible exact H2_)|(have H2_:=(Option.bind_some _ _).symm.trans H;with_reducible exact H2_)|with_reducible exact H|(rw [hy139];exact H)|exact H
           have Ny139:=aM hy139
           clear hy139
           have H':=aM H
           clear H
           have hnb39:=NB115_116.out
           have hnc39:=NB116_115.out
           have hnb40:=NB115_124.out
           have hnc40:=NB124_115.out
           obtain ⟨⟨hcz41_0,hcz41_1,hcz41_2⟩,hfz41_0,hfz41_1,hfz41_2⟩:=bC3 BK115.out
           have p137 : 0 ≤ (x10_2 : Int):=of_decide_eq_true (by first|(with_reducible assumption)|assumption)
           have q137 : x10_2 < (l0_0.length : Int):=of_decide_eq_true (by first|(with_reducible assumption)|assumption)
           obtain ⟨ad137,e137,hx137_0,hx137_1⟩:=at_T53 HR0_0.out x10_2 p137 q137
           cases e137
           replace hx137_0:=(HB.out.cell (World.block_lt_of_cell? w _ hx137_0)).trans hx137_0
           replace hx137_1:=(HB.out.cell (World.block_lt_of_cell? w _ hx137_1)).trans hx137_1
           replace p137:=eq_true p137
           replace q137:=eq_true q137
           have p138 : 0 ≤ (x10_2 : Int):=of_decide_eq_true (by first|(with_reducible assumption)|assumption)
           have q138 : x10_2 < (l0_0.length : Int):=of_decide_eq_true (by first|(with_reducible assumption)|assumption)
           obtain ⟨ad138,e138,hx138_0,hx138_1⟩:=at_T53 HR0_0.out x10_2 p138 q138
           obtain rfl : ad137 = ad138:=(by injection e138)
           replace hx138_0:=(HB.out.cell (World.block_lt_of_cell? w _ hx138_0)).trans hx138_0
           replace hx138_1:=(HB.out.cell (World.block_lt_of_cell? w _ hx138_1)).trans hx138_1
           replace p138:=eq_true p138
           replace q138:=eq_true q138
           go_wp2_with (first|((with_reducible refine gate_builtin (b:=.append) (xs:=#[.tmp 59,.tmp 65]) rfl ?_);at_builtin;refine Kd.R_append k53 (w0:=w) w.heap.size rfl (.tmp 59) (.tmp 65) 35 53 (.agg #[(.string ⟨#[]⟩),(.string ⟨#[]⟩)]) 32 rfl Try.underlying35 info53 rfl (by decide) (by omega) u8 x8_2 (⟨(rd_T53 l0_0 x10_2).f0,(rd_T53 l0_0 x10_2).f1⟩ : S53) [.string ((rd_T53 l0_0 x10_2).f0),.string ((rd_T53 l0_0 x10_2).f1)] (fun k_ => some k_ ≠ (.slice Ao11 t117.length co11 : Value).ownBlock) (fun _ => False) rfl rfl ?aP (fun _ hk => hk.elim) ?aF ?aO ?aB ?aS ?aL ?_;(case aP => exact k53_mkM _ _ _ (⟨(rd_T53 l0_0 x10_2).f0,(rd_T53 l0_0 x10_2).f1⟩ : S53));(case aB => exact (by repeat (first|(with_reducible first|exact HB.out|apply lA|apply lN|apply lD|refine lS ?_ GE115.out|refine lS ?_ GE116.out|refine lS ?_ GE124.out)|exact HB.out)));(case aF => exact (fun k_ hk => Kd.fresh' (rT (rZ HO_125000.out)) k_ hk));(case aO => exact (rZ HO_8.out));(case aS => exact (lZ (by repeat (first|(with_reducible first|exact HB.out|apply lA|apply lN|apply lD|refine lS ?_ GE115.out|refine lS ?_ GE116.out|refine lS ?_ GE124.out)|exact HB.out))));(case aL => have:=LMc38.out;omega);intro v140 w42 ho hb hg hat;rw [← Ny139.out] at ho;have n0_:=aM (Kd.R_after (ok:=(fun _ => True)) (by (with_reducible repeat (first|apply rA|apply rN|apply rD));exact Kd.R_mono HO_125000.out (fun _ hk => ⟨trivial,hk⟩)) hg hat);have n1_:=aM (Kd.R_over' (rZ HO_125001.out) (Kd.R_typed (rZ HO_8.out)) (by decide) hg);have n2_:=aM (blk_grown (g:=gb115) (o:=.cells #[.slice (some ad137) l0_0.length c0_0,.slice A0_1 l0_1.length c0_1,.string a0_2] 38 (0,0)) (by (with_reducible repeat (first|refine bN ?_ _|refine bD ?_|refine bA ?_ _));exact BK115.out) hg (Kd.R_ne HO_8.out BK115.out (by decide)));have n3_:=aM (blk_grown (g:=gb116) (o:=.cells #[.slice none 0 0,.slice none 0 0,.string (⟨#[]⟩ : ByteArray)] 38 (0,0)) (by (with_reducible repeat (first|refine bN ?_ _|refine bD ?_|refine bA ?_ _));exact BK116.out) hg (Kd.R_ne HO_8.out BK116.out (by decide)));have n4_:=aM (blk_grown (g:=gb124) (o:=.cells #[.slice Ao11 t117.length co11,.slice Ao15 t120.length co15,.string t123] 38 (0,0)) (by (with_reducible repeat (first|refine bN ?_ _|refine bD ?_|refine bA ?_ _));exact BK124.out) hg (Kd.R_ne HO_8.out BK124.out (by decide)));have n5_:=aM (hb);have n6_:=aM (ho);clear HO_125000 HO_125001 BK115 BK116 BK124 HB HO_8;have HO_125000:=n0_;have HO_125001:=n1_;have BK115:=n2_;have BK116:=n3_;have BK124:=n4_;have HB:=n5_;have HO141:=n6_;clear n0_ n1_ n2_ n3_ n4_ n5_ n6_ ho hb hg hat))
           go_roundg k2
           case measure => have:=HK1.out;have:=HK2.out;omega
           case rel => exact ⟨(y139),(wrap64 (x10_2 + 1)),(by first|rfl|(simp;done)|(simp [*];done)),H',⟨by have:=HK1.out;have:=HK2.out;omega⟩,⟨by (with_reducible repeat (first|apply rA|apply rN|apply rD));exact HO141.out⟩,⟨by (with_reducible repeat (first|apply rA|apply rN|apply rD));exact Kd.R_mono HO_125000.out (fun _ hk => hk.2)⟩,⟨by (with_reducible repeat (first|apply rA|apply rN|apply rD));exact HO_125001.out⟩,⟨by (with_reducible repeat (first|refine bN ?_ _|refine bD ?_|refine bA ?_ _));exact BK115.out⟩,⟨by (with_reducible repeat (first|refine bN ?_ _|refine bD ?_|refine bA ?_ _));exact BK116.out⟩,⟨by (with_reducible repeat (first|refine bN ?_ _|refine bD ?_|refine bA ?_ _));exact BK124.out⟩,⟨by repeat (first|(with_reducible first|exact HB.out|apply lA|apply lN|apply lD|refine lS ?_ GE115.out|refine lS ?_ GE116.out|refine lS ?_ GE124.out)|exact HB.out)⟩⟩
          ·rw [if_neg c38] at H
           exact absurd H (by simp)
         ·rw [if_neg c37] at H
          have c37b0 : (Op.bytesLess a1.toList (((rd_T53 l0_0 x10_2).f0).toList)) = false:=by simpa using c37
          clear c37
          have H':=aM H
          clear H
          have hnb43:=NB115_116.out
          have hnc43:=NB116_115.out
          have hnb44:=NB115_124.out
          have hnc44:=NB124_115.out
          obtain ⟨⟨hcz45_0,hcz45_1,hcz45_2⟩,hfz45_0,hfz45_1,hfz45_2⟩:=bC3 BK115.out
          have p137 : 0 ≤ (x10_2 : Int):=of_decide_eq_true (by first|(with_reducible assumption)|assumption)
          have q137 : x10_2 < (l0_0.length : Int):=of_decide_eq_true (by first|(with_reducible assumption)|assumption)
          obtain ⟨ad137,e137,hx137_0,hx137_1⟩:=at_T53 HR0_0.out x10_2 p137 q137
          cases e137
          replace hx137_0:=(HB.out.cell (World.block_lt_of_cell? w _ hx137_0)).trans hx137_0
          replace hx137_1:=(HB.out.cell (World.block_lt_of_cell? w _ hx137_1)).trans hx137_1
          replace p137:=eq_true p137
          replace q137:=eq_true q137
          go_wp2
          go_roundg k2
          case measure => have:=HK1.out;have:=HK2.out;omega
          case rel => exact ⟨(x8_2),(wrap64 (x10_2 + 1)),(by first|rfl|(simp;done)|(simp [*];done)),H',⟨by have:=HK1.out;have:=HK2.out;omega⟩,⟨by (with_reducible repeat (first|apply rA|apply rN|apply rD));exact HO_8.out⟩,⟨by (with_reducible repeat (first|apply rA|apply rN|apply rD));exact HO_125000.out⟩,⟨by (with_reducible repeat (first|apply rA|apply rN|apply rD));exact HO_125001.out⟩,⟨by (with_reducible repeat (first|refine bN ?_ _|refine bD ?_|refine bA ?_ _));exact BK115.out⟩,⟨by (with_reducible repeat (first|refine bN ?_ _|refine bD ?_|refine bA ?_ _));exact BK116.out⟩,⟨by (with_reducible repeat (first|refine bN ?_ _|refine bD ?_|refine bA ?_ _));exact BK124.out⟩,⟨by repeat (first|(with_reducible first|exact HB.out|apply lA|apply lN|apply lD|refine lS ?_ GE115.out|refine lS ?_ GE116.out|refine lS ?_ GE124.out)|exact HB.out)⟩⟩
        ·rw [if_neg c36] at H
         exact absurd H (by simp)
       ·rw [if_neg c35] at H
        have c35b0 : decide (x10_2 < (l0_0.length : Int)) = false:=decide_eq_false c35
        clear c35
        by_cases c46 : (x8_2.length : Int) ≤ 60
        ·rw [if_pos c46] at H
         have c46b0 : decide ((x8_2.length : Int) ≤ 60) = true:=decide_eq_true c46
         have c46b1 : decide (x8_2.length ≤ 60) = true:=decide_eq_true (by omega)
         clear c46
         simp only [Option.some.injEq,Prod.mk.injEq] at H
         obtain ⟨rfl,rfl,rfl⟩:=H
         have hnb47:=NB115_116.out
         have hnc47:=NB116_115.out
         have hnb48:=NB115_124.out
         have hnc48:=NB124_115.out
         obtain ⟨⟨hcz49_0,hcz49_1,hcz49_2⟩,hfz49_0,hfz49_1,hfz49_2⟩:=bC3 BK115.out
         obtain ⟨Ao50,co50,eo50⟩:=Kd.R_slice HO_8.out
         subst eo50
         have hnb51:=NB124_116.out
         have hnc51:=NB116_124.out
         obtain ⟨⟨hcz52_0,hcz52_1,hcz52_2⟩,hfz52_0,hfz52_1,hfz52_2⟩:=bC3 BK124.out
         obtain ⟨⟨hcz53_0,hcz53_1,hcz53_2⟩,hfz53_0,hfz53_1,hfz53_2⟩:=bC3 BK116.out
         go_wp2
         refine bodyPost_ret (results_cell_row rfl _ _ gb116 38 #[.slice Ao50 x8_2.length co50,.slice Ao15 t120.length co15,.string t123] (0,0) _ rfl (by (with_reducible repeat (first|refine bN ?_ _|refine bD ?_|refine bA ?_ _));refine blk_put (cs:=#[.slice Ao50 x8_2.length co50,.slice Ao15 t120.length co15,.string (⟨#[]⟩ : ByteArray)]) ?_ 2 _ rfl;(with_reducible repeat (first|refine bN ?_ _|refine bD ?_|refine bA ?_ _));refine blk_put (cs:=#[.slice Ao50 x8_2.length co50,.slice none 0 0,.string (⟨#[]⟩ : ByteArray)]) ?_ 1 _ rfl;(with_reducible repeat (first|refine bN ?_ _|refine bD ?_|refine bA ?_ _));refine blk_put (cs:=#[.slice none 0 0,.slice none 0 0,.string (⟨#[]⟩ : ByteArray)]) ?_ 0 _ rfl;(with_reducible repeat (first|refine bN ?_ _|refine bD ?_|refine bA ?_ _));refine blk_far ?_ NB116_124.out _;(with_reducible repeat (first|refine bN ?_ _|refine bD ?_|refine bA ?_ _));exact BK116.out) Try.underlying38 rfl (by kernel_rfl)) rfl ?_
         exact ⟨_,_,by first|rfl|(simp [errW_none,errW_some] <;> rfl)|(simp [*,errW_none,errW_some] <;> rfl),by (with_reducible repeat (first|apply rA|apply rN|apply rD));exact Kd.R_mono (rF (rF (rF (rF (rY (rY HO_8.out BK124.out (by decide)) BK116.out (by decide)) (fun _ hk => hk.1.2) _) (fun _ hk => hk.2) _) (fun _ hk => hk.2) _) (fun _ hk => hk.2) _) (fun _ hk => trivial),by (with_reducible repeat (first|apply rA|apply rN|apply rD));exact Kd.R_mono (rF (rF (rF (rF (rY (rY HO_125001.out BK124.out (by decide)) BK116.out (by decide)) (fun _ hk => hk.1.2) _) (fun _ hk => hk.2) _) (fun _ hk => hk.2) _) (fun _ hk => hk.2) _) (fun _ hk => trivial),by repeat (first|(with_reducible first|exact HB.out|apply lA|apply lN|apply lD|refine lS ?_ GE115.out|refine lS ?_ GE116.out|refine lS ?_ GE124.out)|exact HB.out)⟩
        ·rw [if_neg c46] at H
         have c46b0 : decide ((x8_2.length : Int) ≤ 60) = false:=decide_eq_false c46
         have c46b1 : decide (x8_2.length ≤ 60) = false:=decide_eq_false (by omega)
         clear c46
         simp only [Option.some.injEq,Prod.mk.injEq] at H
         obtain ⟨rfl,rfl,rfl⟩:=H
         have hnb54:=NB115_116.out
         have hnc54:=NB116_115.out
         have hnb55:=NB115_124.out
         have hnc55:=NB124_115.out
         obtain ⟨⟨hcz56_0,hcz56_1,hcz56_2⟩,hfz56_0,hfz56_1,hfz56_2⟩:=bC3 BK115.out
         obtain ⟨Ao57,co57,eo57⟩:=Kd.R_slice HO_8.out
         subst eo57
         have hnb58:=NB124_116.out
         have hnc58:=NB116_124.out
         obtain ⟨⟨hcz59_0,hcz59_1,hcz59_2⟩,hfz59_0,hfz59_1,hfz59_2⟩:=bC3 BK124.out
         obtain ⟨⟨hcz60_0,hcz60_1,hcz60_2⟩,hfz60_0,hfz60_1,hfz60_2⟩:=bC3 BK116.out
         go_wp2
         refine bodyPost_ret (results_cell_row rfl _ _ gb116 38 #[.slice Ao11 t117.length co11,.slice Ao15 t120.length co15,.string t123] (0,0) _ rfl (by (with_reducible repeat (first|refine bN ?_ _|refine bD ?_|refine bA ?_ _));refine blk_put (cs:=#[.slice Ao11 t117.length co11,.slice Ao15 t120.length co15,.string (⟨#[]⟩ : ByteArray)]) ?_ 2 _ rfl;(with_reducible repeat (first|refine bN ?_ _|refine bD ?_|refine bA ?_ _));refine blk_put (cs:=#[.slice Ao11 t117.length co11,.slice none 0 0,.string (⟨#[]⟩ : ByteArray)]) ?_ 1 _ rfl;(with_reducible repeat (first|refine bN ?_ _|refine bD ?_|refine bA ?_ _));refine blk_put (cs:=#[.slice none 0 0,.slice none 0 0,.string (⟨#[]⟩ : ByteArray)]) ?_ 0 _ rfl;(with_reducible repeat (first|refine bN ?_ _|refine bD ?_|refine bA ?_ _));exact BK116.out) Try.underlying38 rfl (by kernel_rfl)) rfl ?_
         exact ⟨_,_,by first|rfl|(simp [errW_none,errW_some] <;> rfl)|(simp [*,errW_none,errW_some] <;> rfl),by (with_reducible repeat (first|apply rA|apply rN|apply rD));exact Kd.R_mono (rF (rF (rF (rY HO_125000.out BK116.out (by decide)) (fun _ hk => hk.2) _) (fun _ hk => hk.2) _) (fun _ hk => hk.2) _) (fun _ hk => trivial),by (with_reducible repeat (first|apply rA|apply rN|apply rD));exact Kd.R_mono (rF (rF (rF (rY HO_125001.out BK116.out (by decide)) (fun _ hk => hk.2) _) (fun _ hk => hk.2) _) (fun _ hk => hk.2) _) (fun _ hk => trivial),by repeat (first|(with_reducible first|exact HB.out|apply lA|apply lN|apply lD|refine lS ?_ GE115.out|refine lS ?_ GE116.out|refine lS ?_ GE124.out)|exact HB.out)⟩
    ·rw [if_neg c30] at H
     exact absurd H (by simp)

/-! ### impl_Cut: function 42 -/
def impl_Cut.f (a0 : ByteArray) : Option (ByteArray):=if 0 ≤ (mn (a0.size : Int) 40) then (if (mn (a0.size : Int) 40) ≤ (a0.size : Int) then (some (a0.extract 0 ((mn (a0.size : Int) 40) : Int).toNat)) else (none)) else (none)
set_option maxHeartbeats 8000000 in
set_option maxRecDepth 100000 in
theorem impl_Cut.calls (a0 : ByteArray) (r : ByteArray) (w : World) (h : impl_Cut.f a0 = some r) :
  Calls Try.prog 42 #[.string a0] w fun e w' => e = .returned (.string r) ∧ Below w.heap.size w w':=by
 have HB:=aM (Below.refl w.heap.size w)
 have H : (if 0 ≤ (mn (a0.size : Int) 40) then (if (mn (a0.size : Int) 40) ≤ (a0.size : Int) then (some (a0.extract 0 ((mn (a0.size : Int) 40) : Int).toNat)) else (none)) else (none)) = some r:=h
 clear h
 obtain ⟨ji2,hji2⟩ : ∃ j_ : Int,(mn (a0.size : Int) 40) = j_:=⟨_,rfl⟩
 replace H : (if 0 ≤ (ji2) then (if (ji2) ≤ (a0.size : Int) then (some (a0.extract 0 ((ji2) : Int).toNat)) else (none)) else (none)) = some r:=by first|(rw [hji2] at H;exact H)|(simp only [hji2] at H ⊢;exact H)
 (try (have hji2h : ji2 ≤ 40:=by (rw [← hji2];unfold mn;(repeat' split) <;> omega)))
 (try (have hji2g : ji2 ≤ 64:=by omega))
 (try (have hji2l : 0 ≤ ji2:=by (rw [← hji2];unfold mn;(repeat' split) <;> omega)))
 (try (have hji2m : 0 ≤ ji2:=by omega))
 have hji2_ : (if 40 < (a0.size : Int) then 40 else (a0.size : Int)) = ji2:=hji2
 by_cases c3 : 0 ≤ (ji2)
 ·rw [if_pos c3] at H
  have c3b0:=eq_true c3
  have c3b1 : decide (0 ≤ (ji2)) = true:=decide_eq_true c3
  clear c3
  by_cases c4 : (ji2) ≤ (a0.size : Int)
  ·rw [if_pos c4] at H
   have c4b0:=eq_true c4
   have c4b1 : decide ((ji2) ≤ (a0.size : Int)) = true:=decide_eq_true c4
   clear c4
   obtain rfl:=Option.some.inj H
   go_enter Try.func42,Try.ntmps42
   go_wp2
   go_ret
   exact ⟨by first|rfl|(simp [errW_none,errW_some] <;> rfl)|(simp only [← hji2];first|rfl|(simp [errW_none,errW_some] <;> rfl))|(simp [*,errW_none,errW_some] <;> rfl),by repeat (first|(with_reducible first|exact HB.out|apply lA|apply lN|apply lD)|exact HB.out)⟩
  ·rw [if_neg c4] at H
   exact absurd H (by simp)
 ·rw [if_neg c3] at H
  exact absurd H (by simp)

end Go.Proofs.Ytodpkfidkilpdaa.QFnVars
