-- A text of this session, made by wip/own_print.py (the kit's print with additions of ours).
import Derived.Test.YtekngkljphlliaaQFnSaysx0
import Derived.Test.YtekngkljphlliaaQFnSaysx4
namespace Go.Proofs.Ytekngkljphlliaa.QFnSays
open Go.RowKit Go.Proofs.YtekngkljphlliaaW.PrintWords Go.Proofs.YtekngkljphlliaaW.PrintLast Go.Proofs.YtekngkljphlliaaW.PrintMore
attribute [local go_sem] max2_int min2_int max_two min_two max_three min_three max_four min_four   -- for this text's walks alone
set_option linter.unusedVariables false
set_option linter.unusedSimpArgs false
open Bool renaming true → bT, false → bf
open Go.Proofs.YtekngkljphlliaaW.PrintWords.Kd renaming R_alloc → rA, R_drewN → rN, R_drew → rD, C_alloc → cA, C_drewN → cN, C_drew → cD, R_far → rF, R_below → rB, R_lower → rL, R_lt → rT, R_base → rS, C_below → cB, R_types → rY, R_elder' → rE, R_reads' → rR, R_new' → rW
open Go.Proofs.YtekngkljphlliaaW.PrintWords renaming blk_drewN → bN, blk_drew → bD, blk_alloc → bA, below_set → lS, pw_below_drewN → lN, below_drew1 → lD, below_alloc → lA, blk_cell → bC, blk_below → bB, below_size → lZ, below_step → lP, blk_lt → bL, blk_frozen → bF
open Go.Proofs.YtekngkljphlliaaW.PrintWords.Aside0 renaming mk → aM
theorem q_ia3 {α : Type} (l : List α) (i : Nat) (a : α) : l.toArray.setIfInBounds i a = (l.set i a).toArray := List.setIfInBounds_toArray ..
theorem q_cz3 {α : Type} (a b : α) (l : List α) : (a :: l).set 0 b = b :: l := rfl
theorem q_cs3 {α : Type} (a b : α) (l : List α) (n : Nat) : (a :: l).set (n + 1) b = a :: l.set n b := rfl

/-! ### spec_SetVar: function 37 -/
mutual
def spec_SetVar.l0 : Nat → ByteArray → ByteArray → List (S59) → Int → List (S59) → List (S39) → ByteArray → List (S59) → List (S39) → ByteArray → Option ((List (S59)) × (List (S39)) × ByteArray)
 | 0, _, _, _, _, _, _, _, _, _, _ => none
 | k + 1, x1, x2, x8, x9, x162000, x162001, x162002, x171000, x171001, x171002 => if x9 < (x162000.length : Int) then (if 0 ≤ x9 then (if (Op.bytesLess (((rd_T59 x162000 x9).f0).toList) x1.toList) = true then (if x8.length < 4398046511104 then (spec_SetVar.l0 k x1 x2 (x8 ++ [(⟨(rd_T59 x162000 x9).f0, (rd_T59 x162000 x9).f1⟩ : S59)]) (wrap64 (x9 + 1)) x162000 x162001 x162002 x171000 x171001 x171002) else (none)) else (spec_SetVar.l0 k x1 x2 x8 (wrap64 (x9 + 1)) x162000 x162001 x162002 x171000 x171001 x171002)) else (none)) else ((spec_Cut.f x2).bind fun t179 => (if x8.length < 4398046511104 then (spec_SetVar.l1 k x1 (x8 ++ [(⟨x1, t179⟩ : S59)]) 0 x162000 x162001 x162002 x171000 x171001 x171002) else (none)))
def spec_SetVar.l1 : Nat → ByteArray → List (S59) → Int → List (S59) → List (S39) → ByteArray → List (S59) → List (S39) → ByteArray → Option ((List (S59)) × (List (S39)) × ByteArray)
 | 0, _, _, _, _, _, _, _, _, _ => none
 | k + 1, x1, x8, x10, x162000, x162001, x162002, x171000, x171001, x171002 => if x10 < (x162000.length : Int) then (if 0 ≤ x10 then (if (Op.bytesLess x1.toList (((rd_T59 x162000 x10).f0).toList)) = true then (if x8.length < 4398046511104 then (spec_SetVar.l1 k x1 (x8 ++ [(⟨(rd_T59 x162000 x10).f0, (rd_T59 x162000 x10).f1⟩ : S59)]) (wrap64 (x10 + 1)) x162000 x162001 x162002 x171000 x171001 x171002) else (none)) else (spec_SetVar.l1 k x1 x8 (wrap64 (x10 + 1)) x162000 x162001 x162002 x171000 x171001 x171002)) else (none)) else (if (x8.length : Int) ≤ 60 then (some (x8, x171001, x171002)) else (some (x171000, x171001, x171002)))
end
def spec_SetVar.f (k : Nat) (l0_0 : List (S59)) (l0_1 : List (S39)) (a0_2 : ByteArray) (a1 : ByteArray) (a2 : ByteArray) : Option ((List (S59)) × (List (S39)) × ByteArray) := (spec_l08Copy.f l0_0 l0_1 a0_2).bind fun bt163 => (spec_SetVar.l0 k a1 a2 (([] : List (S59))) 0 l0_0 l0_1 a0_2 bt163.1 bt163.2.1 bt163.2.2)
theorem spec_SetVar.mono_l : ∀ k, (∀ y0 y1 y2 y3 y4 y5 y6 y7 y8 y9, LeO (spec_SetVar.l0 k y0 y1 y2 y3 y4 y5 y6 y7 y8 y9) (spec_SetVar.l0 (k + 1) y0 y1 y2 y3 y4 y5 y6 y7 y8 y9)) ∧ (∀ y0 y1 y2 y3 y4 y5 y6 y7 y8, LeO (spec_SetVar.l1 k y0 y1 y2 y3 y4 y5 y6 y7 y8) (spec_SetVar.l1 (k + 1) y0 y1 y2 y3 y4 y5 y6 y7 y8))
 | 0 => ⟨fun _ _ _ _ _ _ _ _ _ _ r h => by simp [spec_SetVar.l0] at h, fun _ _ _ _ _ _ _ _ _ r h => by simp [spec_SetVar.l1] at h⟩
 | k + 1 => by
  obtain ⟨ih0, ih1⟩ := spec_SetVar.mono_l k
  refine ⟨?_, ?_⟩
  ·intro y0 y1 y2 y3 y4 y5 y6 y7 y8 y9
   unfold spec_SetVar.l0
   repeat' first
   | (with_reducible exact ih0 _ _ _ _ _ _ _ _ _ _)
   | (with_reducible exact ih1 _ _ _ _ _ _ _ _ _)
   | (with_reducible exact LeO.refl _)
   | (with_reducible exact LeO.none _)
   | (with_reducible refine LeO.ite ?_ ?_)
   | (with_reducible refine LeO.bind ?_ (fun _ => ?_))
   | exact ih0 _ _ _ _ _ _ _ _ _ _
   | exact ih1 _ _ _ _ _ _ _ _ _
   | exact LeO.none _
   | refine LeO.ite ?_ ?_
   | refine LeO.bind ?_ (fun _ => ?_)
  ·intro y0 y1 y2 y3 y4 y5 y6 y7 y8
   unfold spec_SetVar.l1
   repeat' first
   | (with_reducible exact ih0 _ _ _ _ _ _ _ _ _ _)
   | (with_reducible exact ih1 _ _ _ _ _ _ _ _ _)
   | (with_reducible exact LeO.refl _)
   | (with_reducible exact LeO.none _)
   | (with_reducible refine LeO.ite ?_ ?_)
   | (with_reducible refine LeO.bind ?_ (fun _ => ?_))
   | exact ih0 _ _ _ _ _ _ _ _ _ _
   | exact ih1 _ _ _ _ _ _ _ _ _
   | exact LeO.none _
   | refine LeO.ite ?_ ?_
   | refine LeO.bind ?_ (fun _ => ?_)
theorem spec_SetVar.mono : ∀ a0 a1 a2 a3 a4 k, LeO (spec_SetVar.f k a0 a1 a2 a3 a4) (spec_SetVar.f (k + 1) a0 a1 a2 a3 a4) := by
 intro a0 a1 a2 a3 a4 k
 obtain ⟨ih0, ih1⟩ := spec_SetVar.mono_l k
 unfold spec_SetVar.f
 repeat' first
   | (with_reducible exact ih0 _ _ _ _ _ _ _ _ _ _)
   | (with_reducible exact ih1 _ _ _ _ _ _ _ _ _)
   | (with_reducible exact LeO.refl _)
   | (with_reducible exact LeO.none _)
   | (with_reducible refine LeO.ite ?_ ?_)
   | (with_reducible refine LeO.bind ?_ (fun _ => ?_))
   | exact ih0 _ _ _ _ _ _ _ _ _ _
   | exact ih1 _ _ _ _ _ _ _ _ _
   | exact LeO.none _
   | refine LeO.ite ?_ ?_
   | refine LeO.bind ?_ (fun _ => ?_)
set_option maxHeartbeats 8000000 in
set_option maxRecDepth 100000 in
theorem spec_SetVar.calls (k : Nat) (A0_0 : Option Addr) (c0_0 : Nat) (l0_0 : List (S59)) (A0_1 : Option Addr) (c0_1 : Nat) (l0_1 : List (S39)) (a0_2 : ByteArray) (a1 : ByteArray) (a2 : ByteArray) (r1 : List (S59)) (r2 : List (S39)) (r3 : ByteArray) (w : World) (hr0_0 : Kd.C k59 w A0_0 l0_0.length l0_0) (hc0_0 : l0_0.length ≤ c0_0) (hr0_1 : Kd.C k39 w A0_1 l0_1.length l0_1) (hc0_1 : l0_1.length ≤ c0_1) (h : spec_SetVar.f k l0_0 l0_1 a0_2 a1 a2 = some (r1,r2,r3)) :
  Calls Try.prog 37 #[.agg #[.slice A0_0 l0_0.length c0_0,.slice A0_1 l0_1.length c0_1,.string a0_2],.string a1,.string a2] w fun e w' => ∃ v0_ v1_ : Value,e = .returned (.agg #[v0_,v1_,.string r3]) ∧ Kd.R k59 59 w' w.heap.size (fun _ => True) v0_ r1 ∧ Kd.R k39 39 w' w.heap.size (fun _ => True) v1_ r2 ∧ Below w.heap.size w w':=by
 have hu35:=Try.underlying35
 have hu59:=Try.underlying59
 have HR0_0:=aM hr0_0
 have HC0_0:=aM hc0_0
 clear hr0_0 hc0_0
 have HR0_1:=aM hr0_1
 have HC0_1:=aM hc0_1
 clear hr0_1 hc0_1
 have HB:=aM (Below.refl w.heap.size w)
 have H : ((spec_l08Copy.f l0_0 l0_1 a0_2).bind fun bt163 => (spec_SetVar.l0 k a1 a2 (([] : List (S59))) 0 l0_0 l0_1 a0_2 bt163.1 bt163.2.1 bt163.2.2)) = some (r1,r2,r3):=h
 clear h
 replace H:=Option.bind_eq_some_iff.mp H
 obtain ⟨⟨t163,t166,t169⟩,A40,H⟩:=H
 replace H : (spec_SetVar.l0 k a1 a2 (([] : List (S59))) 0 l0_0 l0_1 a0_2 t163 t166 t169) = some (r1,r2,r3):=H
 have A4:=aM A40
 clear A40
 obtain ⟨y171,hy171⟩ : ∃ y_ : List (S59),y_ = (([] : List (S59))):=⟨_,rfl⟩
 replace H : (spec_SetVar.l0 k a1 a2 y171 0 l0_0 l0_1 a0_2 t163 t166 t169) = some (r1,r2,r3):=by first|(rw [hy171];with_reducible exact H)|(have H2_:=(Option.bind_some _ _).symm.trans H;rw [hy171];with_reducible exact H2_)|(have H2_:=(Option.bind_some _ _).symm.trans H;with_reducible exact H2_)|with_reducible exact H|(rw [hy171];exact H)|exact H
 have Ny171:=aM hy171
 clear hy171
 have H':=aM H
 clear H
 go_enter Try.func37,Try.ntmps37
 go_wp2_with (first|((with_reducible refine gate_dst (N:=3) rfl ?_);refine box_event ?hg (N:=3) ?hd (cs:=#[.slice A0_0 l0_0.length c0_0,.slice A0_1 l0_1.length c0_1,.string a0_2]) (t:=35) ?hr ?_;(case hd => rfl);(case hg => rfl);(case hr => first|(go_simp;done)|(go_simp;rfl));intro gb161 hg w5 hbox hb;have n0_:=aM (lQ HB.out hb);have n1_:=aM (hbox);have n2_:=aM ((sQ hg HB.out : w.heap.size ≤ gb161));have n3_:=n2_;clear HB;have HB:=n0_;have BK161:=n1_;have GW161:=n2_;have GE161:=n3_;clear n0_ n1_ n2_ n3_ hb hbox hg)|((with_reducible refine gate_dst (N:=6) rfl ?_);refine box_event ?hg (N:=6) ?hd (cs:=#[.slice none 0 0,.slice none 0 0,.string (⟨#[]⟩ : ByteArray)]) (t:=35) ?hr ?_;(case hd => rfl);(case hg => rfl);(case hr => first|(go_simp;done)|(go_simp;rfl));intro gb162 hg w6 hbox hb;have n0_:=aM (bH BK161.out hb);have n1_:=aM (lQ HB.out hb);have n2_:=aM (hbox);have n3_:=aM ((sQ hg HB.out : w.heap.size ≤ gb162));have n4_:=n3_;have n5_:=aM ((nL hg BK161.out : gb161 ≠ gb162));have n6_:=aM ((nG hg BK161.out : gb162 ≠ gb161));clear BK161 HB;have BK161:=n0_;have HB:=n1_;have BK162:=n2_;have GW162:=n3_;have GE162:=n4_;have NB161_162:=n5_;have NB162_161:=n6_;clear n0_ n1_ n2_ n3_ n4_ n5_ n6_ hb hbox hg;have hnb7:=NB161_162.out;have hnc7:=NB162_161.out;obtain ⟨⟨hcz8_0,hcz8_1,hcz8_2⟩,hfz8_0,hfz8_1,hfz8_2⟩:=bC3 BK161.out)|((with_reducible refine gate_callee (f:=35) rfl ?_);refine goesL_ (some 12) rfl rfl Try.func35 (by kernel_rfl) rfl #[.agg #[.slice A0_0 l0_0.length c0_0,.slice A0_1 l0_1.length c0_1,.string a0_2]] rfl (by (try simp only [List.map_toArray,List.map_cons,List.map_nil]);first|done|rfl|(simp only [List.length_drop,List.length_take];rfl)) ?_;(with_reducible refine (spec_l08Copy.calls _ _ l0_0 _ _ l0_1 a0_2 t163 t166 t169 _ ?side1 ?side2 ?side3 ?side4 A4.out).mono ?_);(case side1 => repeat (first|exact (cB HR0_0.out HB.out)|(with_reducible first|refine cA ?_ _|refine cN ?_ _|refine cD ?_)));(case side2 => exact HC0_0.out);(case side3 => repeat (first|exact (cB HR0_1.out HB.out)|(with_reducible first|refine cA ?_ _|refine cN ?_ _|refine cD ?_)));(case side4 => exact HC0_1.out);rintro e w9 ⟨v164,v167,rfl,ho0,ho1,hb⟩;refine ⟨_,rfl,?_⟩;have n0_:=aM (rL ho0 (lZ (by repeat (first|(with_reducible first|exact HB.out|apply lA|apply lN|apply lD|refine lS ?_ GE161.out|refine lS ?_ GE162.out)|exact HB.out))));have n1_:=aM (rL ho1 (lZ (by repeat (first|(with_reducible first|exact HB.out|apply lA|apply lN|apply lD|refine lS ?_ GE161.out|refine lS ?_ GE162.out)|exact HB.out))));have n2_:=aM (bH BK161.out hb);have n3_:=aM (bH BK162.out hb);have n4_:=aM (lQ HB.out hb);clear BK161 BK162 HB;have HO165:=n0_;have HO168:=n1_;have BK161:=n2_;have BK162:=n3_;have HB:=n4_;clear n0_ n1_ n2_ n3_ n4_;(try clear hb);(try clear hb2);(try clear hk);(try clear hi);(try clear ho0);(try clear ho1))|((with_reducible refine gate_dst (N:=7) rfl ?_);refine box_event ?hg (N:=7) ?hd (cs:=#[.slice none 0 0,.slice none 0 0,.string (⟨#[]⟩ : ByteArray)]) (t:=35) ?hr ?_;(case hd => rfl);(case hg => rfl);(case hr => first|(go_simp;done)|(go_simp;rfl));intro gb170 hg w10 hbox hb;have n0_:=aM (rH HO165.out hb);have n1_:=aM (rH HO168.out hb);have n2_:=aM (bH BK161.out hb);have n3_:=aM (bH BK162.out hb);have n4_:=aM (lQ HB.out hb);have n5_:=aM (hbox);have n6_:=aM ((sQ hg HB.out : w.heap.size ≤ gb170));have n7_:=n6_;have n8_:=aM ((nL hg BK161.out : gb161 ≠ gb170));have n9_:=aM ((nG hg BK161.out : gb170 ≠ gb161));have n10_:=aM ((nL hg BK162.out : gb162 ≠ gb170));have n11_:=aM ((nG hg BK162.out : gb170 ≠ gb162));clear HO165 HO168 BK161 BK162 HB;have HO165:=n0_;have HO168:=n1_;have BK161:=n2_;have BK162:=n3_;have HB:=n4_;have BK170:=n5_;have GW170:=n6_;have GE170:=n7_;have NB161_170:=n8_;have NB170_161:=n9_;have NB162_170:=n10_;have NB170_162:=n11_;clear n0_ n1_ n2_ n3_ n4_ n5_ n6_ n7_ n8_ n9_ n10_ n11_ hb hbox hg;obtain ⟨Ao11,co11,eo11⟩:=Kd.R_slice HO165.out;subst eo11;have hnb12:=NB170_161.out;have hnc12:=NB161_170.out;have hnb13:=NB170_162.out;have hnc13:=NB162_170.out;obtain ⟨⟨hcz14_0,hcz14_1,hcz14_2⟩,hfz14_0,hfz14_1,hfz14_2⟩:=bC3 BK170.out;obtain ⟨Ao15,co15,eo15⟩:=Kd.R_slice HO168.out;subst eo15)|((with_reducible refine gate_dst (N:=13) rfl ?_);refine Kd.R_lit k59 _ 59 ?hg (N:=13) ?hd (xs:=([] : List (S59))) (inner:=[]) (ok:=fun _ => True) (okp:=fun _ => True) ?hr ?hp (fun _ hk => hk) trivial (Below.refl _ _) (Nat.le_refl _) (by simp) ?_;(case hd => rfl);(case hg => rfl);(case hr => first|(go_simp;done)|(go_simp;rfl));(case hp => exact (Reps.none _ _));intro v172 w16 ho17 hb hg_ hnew_;clear hg_ hnew_;(first|rw [← Ny171.out] at ho17|(simp only [Int.reduceToNat] at ho17;rw [← Ny171.out] at ho17));have n0_:=aM (rE (by (with_reducible repeat (first|apply rA|apply rN|apply rD));exact (Kd.R_mono (rF (rF (rF (rY HO165.out BK170.out (by decide)) (fun _ hk => hk.2) _) (fun _ hk => hk.2) _) (fun _ hk => hk.2) _) (fun _ h_ => h_.1))) (rS ho17) hb);have n1_:=aM (rB (by (with_reducible repeat (first|apply rA|apply rN|apply rD));exact (Kd.R_mono (rF (rF (rF (rY HO168.out BK170.out (by decide)) (fun _ hk => hk.2) _) (fun _ hk => hk.2) _) (fun _ hk => hk.2) _) (fun _ h_ => h_.1))) hb);have n2_:=aM (rL (rW ho17 (rT (by (with_reducible repeat (first|apply rA|apply rN|apply rD));exact (Kd.R_mono (rF (rF (rF (rY HO165.out BK170.out (by decide)) (fun _ hk => hk.2) _) (fun _ hk => hk.2) _) (fun _ hk => hk.2) _) (fun _ h_ => h_.1))))) (lZ (by repeat (first|(with_reducible first|exact HB.out|apply lA|apply lN|apply lD|refine lS ?_ GE161.out|refine lS ?_ GE162.out|refine lS ?_ GE170.out)|exact HB.out))));have n3_:=aM (bB (g:=gb161) (o:=.cells #[.slice A0_0 l0_0.length c0_0,.slice A0_1 l0_1.length c0_1,.string a0_2] 35 (0,0)) (by (with_reducible repeat (first|refine bN ?_ _|refine bD ?_|refine bA ?_ _));refine blk_far ?_ NB161_170.out _;(with_reducible repeat (first|refine bN ?_ _|refine bD ?_|refine bA ?_ _));refine blk_far ?_ NB161_170.out _;(with_reducible repeat (first|refine bN ?_ _|refine bD ?_|refine bA ?_ _));refine blk_far ?_ NB161_170.out _;(with_reducible repeat (first|refine bN ?_ _|refine bD ?_|refine bA ?_ _));exact BK161.out) hb);have n4_:=aM (bB (g:=gb162) (o:=.cells #[.slice none 0 0,.slice none 0 0,.string (⟨#[]⟩ : ByteArray)] 35 (0,0)) (by (with_reducible repeat (first|refine bN ?_ _|refine bD ?_|refine bA ?_ _));refine blk_far ?_ NB162_170.out _;(with_reducible repeat (first|refine bN ?_ _|refine bD ?_|refine bA ?_ _));refine blk_far ?_ NB162_170.out _;(with_reducible repeat (first|refine bN ?_ _|refine bD ?_|refine bA ?_ _));refine blk_far ?_ NB162_170.out _;(with_reducible repeat (first|refine bN ?_ _|refine bD ?_|refine bA ?_ _));exact BK162.out) hb);have n5_:=aM (bB (g:=gb170) (o:=.cells #[.slice Ao11 t163.length co11,.slice Ao15 t166.length co15,.string t169] 35 (0,0)) (by (with_reducible repeat (first|refine bN ?_ _|refine bD ?_|refine bA ?_ _));refine blk_put (cs:=#[.slice Ao11 t163.length co11,.slice Ao15 t166.length co15,.string (⟨#[]⟩ : ByteArray)]) ?_ 2 _ rfl;(with_reducible repeat (first|refine bN ?_ _|refine bD ?_|refine bA ?_ _));refine blk_put (cs:=#[.slice Ao11 t163.length co11,.slice none 0 0,.string (⟨#[]⟩ : ByteArray)]) ?_ 1 _ rfl;(with_reducible repeat (first|refine bN ?_ _|refine bD ?_|refine bA ?_ _));refine blk_put (cs:=#[.slice none 0 0,.slice none 0 0,.string (⟨#[]⟩ : ByteArray)]) ?_ 0 _ rfl;(with_reducible repeat (first|refine bN ?_ _|refine bD ?_|refine bA ?_ _));exact BK170.out) hb);have n6_:=aM (lQ HB.out hb);clear HO165 HO168 BK161 BK162 BK170 HB;have HO165:=n0_;have HO168:=n1_;have HO173:=n2_;have BK161:=n3_;have BK162:=n4_;have BK170:=n5_;have HB:=n6_;clear n0_ n1_ n2_ n3_ n4_ n5_ n6_ hb ho17))
 go_loopg [8,9] k (fun kq v8 v9 w' => ∃ (x8_1 : List (S59)) (x9_1 : Int),v9 = .int .i64 x9_1 ∧ Aside0 (spec_SetVar.l0 kq a1 a2 x8_1 x9_1 l0_0 l0_1 a0_2 t163 t166 t169 = some (r1,r2,r3)) ∧ Aside0 (kq ≤ k) ∧ Aside0 (Kd.R k59 59 w' w.heap.size (fun k_ => some k_ ≠ ((.slice Ao11 t163.length co11) : Value).ownBlock) v8 x8_1) ∧ Aside0 (Kd.R k59 59 w' w.heap.size (fun k_ => some k_ ≠ (v8 : Value).ownBlock) (.slice Ao11 t163.length co11) t163) ∧ Aside0 (Kd.R k39 39 w' w.heap.size (fun _ => True) (.slice Ao15 t166.length co15) t166) ∧ Aside0 (w'.heap[gb161]? = some (.cells #[(.slice A0_0 l0_0.length c0_0),(.slice A0_1 l0_1.length c0_1),.string a0_2] 35 (0,0))) ∧ Aside0 (w'.heap[gb162]? = some (.cells #[(.slice none 0 0),(.slice none 0 0),.string (⟨#[]⟩ : ByteArray)] 35 (0,0))) ∧ Aside0 (w'.heap[gb170]? = some (.cells #[(.slice Ao11 t163.length co11),(.slice Ao15 t166.length co15),.string t169] 35 (0,0))) ∧ Aside0 (Below w.heap.size w w'))
 case atStart => exact ⟨(y171),(0),(by first|rfl|(simp;done)|(simp [*];done)),H',⟨Nat.le_refl _⟩,⟨by (with_reducible repeat (first|apply rA|apply rN|apply rD));exact Kd.R_mono HO173.out (fun _ hk => hk.2)⟩,⟨by (with_reducible repeat (first|apply rA|apply rN|apply rD));exact Kd.R_mono HO165.out (fun _ hk => hk.2)⟩,⟨by (with_reducible repeat (first|apply rA|apply rN|apply rD));exact HO168.out⟩,⟨by (with_reducible repeat (first|refine bN ?_ _|refine bD ?_|refine bA ?_ _));exact BK161.out⟩,⟨by (with_reducible repeat (first|refine bN ?_ _|refine bD ?_|refine bA ?_ _));exact BK162.out⟩,⟨by (with_reducible repeat (first|refine bN ?_ _|refine bD ?_|refine bA ?_ _));exact BK170.out⟩,⟨by repeat (first|(with_reducible first|exact HB.out|apply lA|apply lN|apply lD|refine lS ?_ GE161.out|refine lS ?_ GE162.out|refine lS ?_ GE170.out)|exact HB.out)⟩⟩
 case round =>
  clear H'
  try clear c1
  try clear p2
  try clear c3
  try clear c7
  try clear c12
  try clear c13
  try clear hcz14_0
  try clear hcz14_1
  try clear hcz14_2
  try clear hcz8_0
  try clear hcz8_1
  try clear hcz8_2
  obtain ⟨x8_1,x9_1,rfl,HA,HK1,HO_8,HO_171000,HO_171001,BK161,BK162,BK170,HB⟩:=hrel
  cases gk with
  |zero => exact absurd HA.out (by simp [spec_SetVar.l0])
  |succ k1 =>
   have H:=HA.out
   clear HA
   simp only [spec_SetVar.l0] at H
   by_cases c18 : x9_1 < (l0_0.length : Int)
   ·rw [if_pos c18] at H
    have c18b0 : decide (x9_1 < (l0_0.length : Int)) = true:=decide_eq_true c18
    clear c18
    by_cases c19 : 0 ≤ x9_1
    ·rw [if_pos c19] at H
     have c19b0 : decide (0 ≤ x9_1) = true:=decide_eq_true c19
     clear c19
     by_cases c20 : (Op.bytesLess (((rd_T59 l0_0 x9_1).f0).toList) a1.toList) = true
     ·rw [if_pos c20] at H
      have c20b0 : (Op.bytesLess (((rd_T59 l0_0 x9_1).f0).toList) a1.toList) = true:=c20
      clear c20
      by_cases c21 : x8_1.length < 4398046511104
      ·rw [if_pos c21] at H
       have LMc21:=aM c21
       clear c21
       obtain ⟨y176,hy176⟩ : ∃ y_ : List (S59),y_ = (x8_1 ++ [(⟨(rd_T59 l0_0 x9_1).f0,(rd_T59 l0_0 x9_1).f1⟩ : S59)]):=⟨_,rfl⟩
       replace H : (spec_SetVar.l0 k1 a1 a2 y176 (wrap64 (x9_1 + 1)) l0_0 l0_1 a0_2 t163 t166 t169) = some (r1,r2,r3):=by first|(rw [hy176];with_reducible exact H)|(have H2_:=(Option.bind_some _ _).symm.trans H;rw [hy176];with_reducible exact H2_)|(have H2_:=(Option.bind_some _ _).symm.trans H;with_reducible exact H2_)|with_reducible exact H|(rw [hy176];exact H)|exact H
       have Ny176:=aM hy176
       clear hy176
       have H':=aM H
       clear H
       have hnb22:=NB161_162.out
       have hnc22:=NB162_161.out
       have hnb23:=NB161_170.out
       have hnc23:=NB170_161.out
       obtain ⟨⟨hcz24_0,hcz24_1,hcz24_2⟩,hfz24_0,hfz24_1,hfz24_2⟩:=bC3 BK161.out
       have p174 : 0 ≤ (x9_1 : Int):=of_decide_eq_true (by first|(with_reducible assumption)|assumption)
       have q174 : x9_1 < (l0_0.length : Int):=of_decide_eq_true (by first|(with_reducible assumption)|assumption)
       obtain ⟨ad174,e174,hx174_0,hx174_1⟩:=at_T59 HR0_0.out x9_1 p174 q174
       cases e174
       replace hx174_0:=(HB.out.cell (World.block_lt_of_cell? w _ hx174_0)).trans hx174_0
       replace hx174_1:=(HB.out.cell (World.block_lt_of_cell? w _ hx174_1)).trans hx174_1
       replace p174:=eq_true p174
       replace q174:=eq_true q174
       have p175 : 0 ≤ (x9_1 : Int):=of_decide_eq_true (by first|(with_reducible assumption)|assumption)
       have q175 : x9_1 < (l0_0.length : Int):=of_decide_eq_true (by first|(with_reducible assumption)|assumption)
       obtain ⟨ad175,e175,hx175_0,hx175_1⟩:=at_T59 HR0_0.out x9_1 p175 q175
       obtain rfl : ad174 = ad175:=(by injection e175)
       replace hx175_0:=(HB.out.cell (World.block_lt_of_cell? w _ hx175_0)).trans hx175_0
       replace hx175_1:=(HB.out.cell (World.block_lt_of_cell? w _ hx175_1)).trans hx175_1
       replace p175:=eq_true p175
       replace q175:=eq_true q175
       go_wp2_with (first|((with_reducible refine gate_builtin (b:=.append) (xs:=#[.tmp 29,.tmp 35]) rfl ?_);at_builtin;refine Kd.R_append k59 (w0:=w) w.heap.size rfl (.tmp 29) (.tmp 35) 32 59 (.agg #[(.string ⟨#[]⟩),(.string ⟨#[]⟩)]) 32 rfl Try.underlying32 info59 rfl (by decide) (by omega) u8 x8_1 (⟨(rd_T59 l0_0 x9_1).f0,(rd_T59 l0_0 x9_1).f1⟩ : S59) [.string ((rd_T59 l0_0 x9_1).f0),.string ((rd_T59 l0_0 x9_1).f1)] (fun k_ => some k_ ≠ (.slice Ao11 t163.length co11 : Value).ownBlock) (fun _ => False) rfl rfl ?aP (fun _ hk => hk.elim) ?aF ?aO ?aB ?aS ?aL ?_;(case aP => exact k59_mkM _ _ _ (⟨(rd_T59 l0_0 x9_1).f0,(rd_T59 l0_0 x9_1).f1⟩ : S59));(case aB => exact (by repeat (first|(with_reducible first|exact HB.out|apply lA|apply lN|apply lD|refine lS ?_ GE161.out|refine lS ?_ GE162.out|refine lS ?_ GE170.out)|exact HB.out)));(case aF => exact (fun k_ hk => Kd.fresh' (rT (rZ HO_171000.out)) k_ hk));(case aO => exact (rZ HO_8.out));(case aS => exact (lZ (by repeat (first|(with_reducible first|exact HB.out|apply lA|apply lN|apply lD|refine lS ?_ GE161.out|refine lS ?_ GE162.out|refine lS ?_ GE170.out)|exact HB.out))));(case aL => have:=LMc21.out;omega);intro v177 w25 ho hb hg hat;rw [← Ny176.out] at ho;have n0_:=aM (Kd.R_after (ok:=(fun _ => True)) (by (with_reducible repeat (first|apply rA|apply rN|apply rD));exact Kd.R_mono HO_171000.out (fun _ hk => ⟨trivial,hk⟩)) hg hat);have n1_:=aM (Kd.R_over' (rZ HO_171001.out) (Kd.R_typed (rZ HO_8.out)) (by decide) hg);have n2_:=aM (blk_grown (g:=gb161) (o:=.cells #[.slice (some ad174) l0_0.length c0_0,.slice A0_1 l0_1.length c0_1,.string a0_2] 35 (0,0)) (by (with_reducible repeat (first|refine bN ?_ _|refine bD ?_|refine bA ?_ _));exact BK161.out) hg (Kd.R_ne HO_8.out BK161.out (by decide)));have n3_:=aM (blk_grown (g:=gb162) (o:=.cells #[.slice none 0 0,.slice none 0 0,.string (⟨#[]⟩ : ByteArray)] 35 (0,0)) (by (with_reducible repeat (first|refine bN ?_ _|refine bD ?_|refine bA ?_ _));exact BK162.out) hg (Kd.R_ne HO_8.out BK162.out (by decide)));have n4_:=aM (blk_grown (g:=gb170) (o:=.cells #[.slice Ao11 t163.length co11,.slice Ao15 t166.length co15,.string t169] 35 (0,0)) (by (with_reducible repeat (first|refine bN ?_ _|refine bD ?_|refine bA ?_ _));exact BK170.out) hg (Kd.R_ne HO_8.out BK170.out (by decide)));have n5_:=aM (hb);have n6_:=aM (ho);clear HO_171000 HO_171001 BK161 BK162 BK170 HB HO_8;have HO_171000:=n0_;have HO_171001:=n1_;have BK161:=n2_;have BK162:=n3_;have BK170:=n4_;have HB:=n5_;have HO178:=n6_;clear n0_ n1_ n2_ n3_ n4_ n5_ n6_ ho hb hg hat))
       go_roundg k1
       case measure => have:=HK1.out;omega
       case rel => exact ⟨(y176),(wrap64 (x9_1 + 1)),(by first|rfl|(simp;done)|(simp [*];done)),H',⟨by have:=HK1.out;omega⟩,⟨by (with_reducible repeat (first|apply rA|apply rN|apply rD));exact HO178.out⟩,⟨by (with_reducible repeat (first|apply rA|apply rN|apply rD));exact Kd.R_mono HO_171000.out (fun _ hk => hk.2)⟩,⟨by (with_reducible repeat (first|apply rA|apply rN|apply rD));exact HO_171001.out⟩,⟨by (with_reducible repeat (first|refine bN ?_ _|refine bD ?_|refine bA ?_ _));exact BK161.out⟩,⟨by (with_reducible repeat (first|refine bN ?_ _|refine bD ?_|refine bA ?_ _));exact BK162.out⟩,⟨by (with_reducible repeat (first|refine bN ?_ _|refine bD ?_|refine bA ?_ _));exact BK170.out⟩,⟨by repeat (first|(with_reducible first|exact HB.out|apply lA|apply lN|apply lD|refine lS ?_ GE161.out|refine lS ?_ GE162.out|refine lS ?_ GE170.out)|exact HB.out)⟩⟩
      ·rw [if_neg c21] at H
       exact absurd H (by simp)
     ·rw [if_neg c20] at H
      have c20b0 : (Op.bytesLess (((rd_T59 l0_0 x9_1).f0).toList) a1.toList) = false:=by simpa using c20
      clear c20
      have H':=aM H
      clear H
      have hnb26:=NB161_162.out
      have hnc26:=NB162_161.out
      have hnb27:=NB161_170.out
      have hnc27:=NB170_161.out
      obtain ⟨⟨hcz28_0,hcz28_1,hcz28_2⟩,hfz28_0,hfz28_1,hfz28_2⟩:=bC3 BK161.out
      have p174 : 0 ≤ (x9_1 : Int):=of_decide_eq_true (by first|(with_reducible assumption)|assumption)
      have q174 : x9_1 < (l0_0.length : Int):=of_decide_eq_true (by first|(with_reducible assumption)|assumption)
      obtain ⟨ad174,e174,hx174_0,hx174_1⟩:=at_T59 HR0_0.out x9_1 p174 q174
      cases e174
      replace hx174_0:=(HB.out.cell (World.block_lt_of_cell? w _ hx174_0)).trans hx174_0
      replace hx174_1:=(HB.out.cell (World.block_lt_of_cell? w _ hx174_1)).trans hx174_1
      replace p174:=eq_true p174
      replace q174:=eq_true q174
      go_wp2
      go_roundg k1
      case measure => have:=HK1.out;omega
      case rel => exact ⟨(x8_1),(wrap64 (x9_1 + 1)),(by first|rfl|(simp;done)|(simp [*];done)),H',⟨by have:=HK1.out;omega⟩,⟨by (with_reducible repeat (first|apply rA|apply rN|apply rD));exact HO_8.out⟩,⟨by (with_reducible repeat (first|apply rA|apply rN|apply rD));exact HO_171000.out⟩,⟨by (with_reducible repeat (first|apply rA|apply rN|apply rD));exact HO_171001.out⟩,⟨by (with_reducible repeat (first|refine bN ?_ _|refine bD ?_|refine bA ?_ _));exact BK161.out⟩,⟨by (with_reducible repeat (first|refine bN ?_ _|refine bD ?_|refine bA ?_ _));exact BK162.out⟩,⟨by (with_reducible repeat (first|refine bN ?_ _|refine bD ?_|refine bA ?_ _));exact BK170.out⟩,⟨by repeat (first|(with_reducible first|exact HB.out|apply lA|apply lN|apply lD|refine lS ?_ GE161.out|refine lS ?_ GE162.out|refine lS ?_ GE170.out)|exact HB.out)⟩⟩
    ·rw [if_neg c19] at H
     exact absurd H (by simp)
   ·rw [if_neg c18] at H
    have c18b0 : decide (x9_1 < (l0_0.length : Int)) = false:=decide_eq_false c18
    clear c18
    replace H:=Option.bind_eq_some_iff.mp H
    obtain ⟨t179,A290,H⟩:=H
    replace H : (if x8_1.length < 4398046511104 then (spec_SetVar.l1 k1 a1 (x8_1 ++ [(⟨a1,t179⟩ : S59)]) 0 l0_0 l0_1 a0_2 t163 t166 t169) else (none)) = some (r1,r2,r3):=H
    have A29:=aM A290
    clear A290
    by_cases c30 : x8_1.length < 4398046511104
    ·rw [if_pos c30] at H
     have LMc30:=aM c30
     clear c30
     obtain ⟨y180,hy180⟩ : ∃ y_ : List (S59),y_ = (x8_1 ++ [(⟨a1,t179⟩ : S59)]):=⟨_,rfl⟩
     replace H : (spec_SetVar.l1 k1 a1 y180 0 l0_0 l0_1 a0_2 t163 t166 t169) = some (r1,r2,r3):=by first|(rw [hy180];with_reducible exact H)|(have H2_:=(Option.bind_some _ _).symm.trans H;rw [hy180];with_reducible exact H2_)|(have H2_:=(Option.bind_some _ _).symm.trans H;with_reducible exact H2_)|with_reducible exact H|(rw [hy180];exact H)|exact H
     have Ny180:=aM hy180
     clear hy180
     have H':=aM H
     clear H
     have hnb31:=NB161_162.out
     have hnc31:=NB162_161.out
     have hnb32:=NB161_170.out
     have hnc32:=NB170_161.out
     obtain ⟨⟨hcz33_0,hcz33_1,hcz33_2⟩,hfz33_0,hfz33_1,hfz33_2⟩:=bC3 BK161.out
     go_wp2_with (first|((with_reducible refine gate_callee (f:=45) rfl ?_);refine goesL_ (some 40) rfl rfl Try.func45 (by kernel_rfl) rfl #[.string a2] rfl (by (try simp only [List.map_toArray,List.map_cons,List.map_nil]);first|done|rfl|(simp only [List.length_drop,List.length_take];rfl)) ?_;(with_reducible refine (spec_Cut.calls a2 t179 _ A29.out).mono ?_);rintro e w' ⟨rfl,⟨nd,rfl⟩⟩;refine ⟨_,rfl,?_⟩)|((with_reducible refine gate_builtin (b:=.append) (xs:=#[.tmp 37,.tmp 42]) rfl ?_);at_builtin;refine Kd.R_append k59 (w0:=w) w.heap.size rfl (.tmp 37) (.tmp 42) 32 59 (.agg #[(.string ⟨#[]⟩),(.string ⟨#[]⟩)]) 32 rfl Try.underlying32 info59 rfl (by decide) (by omega) u8 x8_1 (⟨a1,t179⟩ : S59) [.string a1,.string t179] (fun k_ => some k_ ≠ (.slice Ao11 t163.length co11 : Value).ownBlock) (fun _ => False) rfl rfl ?aP (fun _ hk => hk.elim) ?aF ?aO ?aB ?aS ?aL ?_;(case aP => exact k59_mkM _ _ _ (⟨a1,t179⟩ : S59));(case aB => exact (by repeat (first|(with_reducible first|exact HB.out|apply lA|apply lN|apply lD|refine lS ?_ GE161.out|refine lS ?_ GE162.out|refine lS ?_ GE170.out)|exact HB.out)));(case aF => exact (fun k_ hk => Kd.fresh' (rT (rZ HO_171000.out)) k_ hk));(case aO => exact (rZ HO_8.out));(case aS => exact (lZ (by repeat (first|(with_reducible first|exact HB.out|apply lA|apply lN|apply lD|refine lS ?_ GE161.out|refine lS ?_ GE162.out|refine lS ?_ GE170.out)|exact HB.out))));(case aL => have:=LMc30.out;omega);intro v181 w34 ho hb hg hat;rw [← Ny180.out] at ho;have n0_:=aM (Kd.R_after (ok:=(fun _ => True)) (by (with_reducible repeat (first|apply rA|apply rN|apply rD));exact Kd.R_mono HO_171000.out (fun _ hk => ⟨trivial,hk⟩)) hg hat);have n1_:=aM (Kd.R_over' (rZ HO_171001.out) (Kd.R_typed (rZ HO_8.out)) (by decide) hg);have n2_:=aM (blk_grown (g:=gb161) (o:=.cells #[.slice A0_0 l0_0.length c0_0,.slice A0_1 l0_1.length c0_1,.string a0_2] 35 (0,0)) (by (with_reducible repeat (first|refine bN ?_ _|refine bD ?_|refine bA ?_ _));exact BK161.out) hg (Kd.R_ne HO_8.out BK161.out (by decide)));have n3_:=aM (blk_grown (g:=gb162) (o:=.cells #[.slice none 0 0,.slice none 0 0,.string (⟨#[]⟩ : ByteArray)] 35 (0,0)) (by (with_reducible repeat (first|refine bN ?_ _|refine bD ?_|refine bA ?_ _));exact BK162.out) hg (Kd.R_ne HO_8.out BK162.out (by decide)));have n4_:=aM (blk_grown (g:=gb170) (o:=.cells #[.slice Ao11 t163.length co11,.slice Ao15 t166.length co15,.string t169] 35 (0,0)) (by (with_reducible repeat (first|refine bN ?_ _|refine bD ?_|refine bA ?_ _));exact BK170.out) hg (Kd.R_ne HO_8.out BK170.out (by decide)));have n5_:=aM (hb);have n6_:=aM (ho);clear HO_171000 HO_171001 BK161 BK162 BK170 HB HO_8;have HO_171000:=n0_;have HO_171001:=n1_;have BK161:=n2_;have BK162:=n3_;have BK170:=n4_;have HB:=n5_;have HO182:=n6_;clear n0_ n1_ n2_ n3_ n4_ n5_ n6_ ho hb hg hat))
     go_loopg [8,10] k1 (fun kq v8 v10 w' => ∃ (x8_2 : List (S59)) (x10_2 : Int),v10 = .int .i64 x10_2 ∧ Aside0 (spec_SetVar.l1 kq a1 x8_2 x10_2 l0_0 l0_1 a0_2 t163 t166 t169 = some (r1,r2,r3)) ∧ Aside0 (kq ≤ k1) ∧ Aside0 (Kd.R k59 59 w' w.heap.size (fun k_ => some k_ ≠ ((.slice Ao11 t163.length co11) : Value).ownBlock) v8 x8_2) ∧ Aside0 (Kd.R k59 59 w' w.heap.size (fun k_ => some k_ ≠ (v8 : Value).ownBlock) (.slice Ao11 t163.length co11) t163) ∧ Aside0 (Kd.R k39 39 w' w.heap.size (fun _ => True) (.slice Ao15 t166.length co15) t166) ∧ Aside0 (w'.heap[gb161]? = some (.cells #[(.slice A0_0 l0_0.length c0_0),(.slice A0_1 l0_1.length c0_1),.string a0_2] 35 (0,0))) ∧ Aside0 (w'.heap[gb162]? = some (.cells #[(.slice none 0 0),(.slice none 0 0),.string (⟨#[]⟩ : ByteArray)] 35 (0,0))) ∧ Aside0 (w'.heap[gb170]? = some (.cells #[(.slice Ao11 t163.length co11),(.slice Ao15 t166.length co15),.string t169] 35 (0,0))) ∧ Aside0 (Below w.heap.size w w'))
     case atStart => exact ⟨(y180),(0),(by first|rfl|(simp;done)|(simp [*];done)),H',⟨Nat.le_refl _⟩,⟨by (with_reducible repeat (first|apply rA|apply rN|apply rD));exact HO182.out⟩,⟨by (with_reducible repeat (first|apply rA|apply rN|apply rD));exact Kd.R_mono HO_171000.out (fun _ hk => hk.2)⟩,⟨by (with_reducible repeat (first|apply rA|apply rN|apply rD));exact HO_171001.out⟩,⟨by (with_reducible repeat (first|refine bN ?_ _|refine bD ?_|refine bA ?_ _));exact BK161.out⟩,⟨by (with_reducible repeat (first|refine bN ?_ _|refine bD ?_|refine bA ?_ _));exact BK162.out⟩,⟨by (with_reducible repeat (first|refine bN ?_ _|refine bD ?_|refine bA ?_ _));exact BK170.out⟩,⟨by repeat (first|(with_reducible first|exact HB.out|apply lA|apply lN|apply lD|refine lS ?_ GE161.out|refine lS ?_ GE162.out|refine lS ?_ GE170.out)|exact HB.out)⟩⟩
     case round =>
      clear H'
      try clear c1
      try clear p1
      try clear q1
      try clear hx1
      try clear c2
      try clear p2
      try clear c3
      try clear c4
      try clear p6
      try clear c7
      try clear c12
      try clear c13
      try clear p17
      try clear q17
      try clear hx17
      try clear c18
      try clear c18b0
      try clear c19
      try clear c19b0
      try clear c20
      try clear c20b0
      try clear c21
      try clear c22
      try clear c23
      try clear c26
      try clear c27
      try clear c30
      try clear c31
      try clear c32
      try clear hcz14_0
      try clear hcz14_1
      try clear hcz14_2
      try clear hcz24_0
      try clear hcz24_1
      try clear hcz24_2
      try clear hcz28_0
      try clear hcz28_1
      try clear hcz28_2
      try clear hcz33_0
      try clear hcz33_1
      try clear hcz33_2
      try clear hcz8_0
      try clear hcz8_1
      try clear hcz8_2
      try clear hx174_0
      try clear hx174_1
      try clear hx175_0
      try clear hx175_1
      try clear p174
      try clear p175
      try clear p2
      try clear q174
      try clear q175
      obtain ⟨x8_2,x10_2,rfl,HA,HK2,HO_8,HO_171000,HO_171001,BK161,BK162,BK170,HB⟩:=hrel
      cases gk with
      |zero => exact absurd HA.out (by simp [spec_SetVar.l1])
      |succ k2 =>
       have H:=HA.out
       clear HA
       simp only [spec_SetVar.l1] at H
       by_cases c35 : x10_2 < (l0_0.length : Int)
       ·rw [if_pos c35] at H
        have c35b0 : decide (x10_2 < (l0_0.length : Int)) = true:=decide_eq_true c35
        clear c35
        by_cases c36 : 0 ≤ x10_2
        ·rw [if_pos c36] at H
         have c36b0 : decide (0 ≤ x10_2) = true:=decide_eq_true c36
         clear c36
         by_cases c37 : (Op.bytesLess a1.toList (((rd_T59 l0_0 x10_2).f0).toList)) = true
         ·rw [if_pos c37] at H
          have c37b0 : (Op.bytesLess a1.toList (((rd_T59 l0_0 x10_2).f0).toList)) = true:=c37
          clear c37
          by_cases c38 : x8_2.length < 4398046511104
          ·rw [if_pos c38] at H
           have LMc38:=aM c38
           clear c38
           obtain ⟨y185,hy185⟩ : ∃ y_ : List (S59),y_ = (x8_2 ++ [(⟨(rd_T59 l0_0 x10_2).f0,(rd_T59 l0_0 x10_2).f1⟩ : S59)]):=⟨_,rfl⟩
           replace H : (spec_SetVar.l1 k2 a1 y185 (wrap64 (x10_2 + 1)) l0_0 l0_1 a0_2 t163 t166 t169) = some (r1,r2,r3):=by first|(rw [hy185];with_reducible exact H)|(have H2_:=(Option.bind_some _ _).symm.trans H;rw [hy185];with_reducible exact H2_)|(have H2_:=(Option.bind_some _ _).symm.trans H;with_reducible exact H2_)|with_reducible exact H|(rw [hy185];exact H)|exact H
           have Ny185:=aM hy185
           clear hy185
           have H':=aM H
           clear H
           have hnb39:=NB161_162.out
           have hnc39:=NB162_161.out
           have hnb40:=NB161_170.out
           have hnc40:=NB170_161.out
           obtain ⟨⟨hcz41_0,hcz41_1,hcz41_2⟩,hfz41_0,hfz41_1,hfz41_2⟩:=bC3 BK161.out
           have p183 : 0 ≤ (x10_2 : Int):=of_decide_eq_true (by first|(with_reducible assumption)|assumption)
           have q183 : x10_2 < (l0_0.length : Int):=of_decide_eq_true (by first|(with_reducible assumption)|assumption)
           obtain ⟨ad183,e183,hx183_0,hx183_1⟩:=at_T59 HR0_0.out x10_2 p183 q183
           cases e183
           replace hx183_0:=(HB.out.cell (World.block_lt_of_cell? w _ hx183_0)).trans hx183_0
           replace hx183_1:=(HB.out.cell (World.block_lt_of_cell? w _ hx183_1)).trans hx183_1
           replace p183:=eq_true p183
           replace q183:=eq_true q183
           have p184 : 0 ≤ (x10_2 : Int):=of_decide_eq_true (by first|(with_reducible assumption)|assumption)
           have q184 : x10_2 < (l0_0.length : Int):=of_decide_eq_true (by first|(with_reducible assumption)|assumption)
           obtain ⟨ad184,e184,hx184_0,hx184_1⟩:=at_T59 HR0_0.out x10_2 p184 q184
           obtain rfl : ad183 = ad184:=(by injection e184)
           replace hx184_0:=(HB.out.cell (World.block_lt_of_cell? w _ hx184_0)).trans hx184_0
           replace hx184_1:=(HB.out.cell (World.block_lt_of_cell? w _ hx184_1)).trans hx184_1
           replace p184:=eq_true p184
           replace q184:=eq_true q184
           go_wp2_with (first|((with_reducible refine gate_builtin (b:=.append) (xs:=#[.tmp 59,.tmp 65]) rfl ?_);at_builtin;refine Kd.R_append k59 (w0:=w) w.heap.size rfl (.tmp 59) (.tmp 65) 32 59 (.agg #[(.string ⟨#[]⟩),(.string ⟨#[]⟩)]) 32 rfl Try.underlying32 info59 rfl (by decide) (by omega) u8 x8_2 (⟨(rd_T59 l0_0 x10_2).f0,(rd_T59 l0_0 x10_2).f1⟩ : S59) [.string ((rd_T59 l0_0 x10_2).f0),.string ((rd_T59 l0_0 x10_2).f1)] (fun k_ => some k_ ≠ (.slice Ao11 t163.length co11 : Value).ownBlock) (fun _ => False) rfl rfl ?aP (fun _ hk => hk.elim) ?aF ?aO ?aB ?aS ?aL ?_;(case aP => exact k59_mkM _ _ _ (⟨(rd_T59 l0_0 x10_2).f0,(rd_T59 l0_0 x10_2).f1⟩ : S59));(case aB => exact (by repeat (first|(with_reducible first|exact HB.out|apply lA|apply lN|apply lD|refine lS ?_ GE161.out|refine lS ?_ GE162.out|refine lS ?_ GE170.out)|exact HB.out)));(case aF => exact (fun k_ hk => Kd.fresh' (rT (rZ HO_171000.out)) k_ hk));(case aO => exact (rZ HO_8.out));(case aS => exact (lZ (by repeat (first|(with_reducible first|exact HB.out|apply lA|apply lN|apply lD|refine lS ?_ GE161.out|refine lS ?_ GE162.out|refine lS ?_ GE170.out)|exact HB.out))));(case aL => have:=LMc38.out;omega);intro v186 w42 ho hb hg hat;rw [← Ny185.out] at ho;have n0_:=aM (Kd.R_after (ok:=(fun _ => True)) (by (with_reducible repeat (first|apply rA|apply rN|apply rD));exact Kd.R_mono HO_171000.out (fun _ hk => ⟨trivial,hk⟩)) hg hat);have n1_:=aM (Kd.R_over' (rZ HO_171001.out) (Kd.R_typed (rZ HO_8.out)) (by decide) hg);have n2_:=aM (blk_grown (g:=gb161) (o:=.cells #[.slice (some ad183) l0_0.length c0_0,.slice A0_1 l0_1.length c0_1,.string a0_2] 35 (0,0)) (by (with_reducible repeat (first|refine bN ?_ _|refine bD ?_|refine bA ?_ _));exact BK161.out) hg (Kd.R_ne HO_8.out BK161.out (by decide)));have n3_:=aM (blk_grown (g:=gb162) (o:=.cells #[.slice none 0 0,.slice none 0 0,.string (⟨#[]⟩ : ByteArray)] 35 (0,0)) (by (with_reducible repeat (first|refine bN ?_ _|refine bD ?_|refine bA ?_ _));exact BK162.out) hg (Kd.R_ne HO_8.out BK162.out (by decide)));have n4_:=aM (blk_grown (g:=gb170) (o:=.cells #[.slice Ao11 t163.length co11,.slice Ao15 t166.length co15,.string t169] 35 (0,0)) (by (with_reducible repeat (first|refine bN ?_ _|refine bD ?_|refine bA ?_ _));exact BK170.out) hg (Kd.R_ne HO_8.out BK170.out (by decide)));have n5_:=aM (hb);have n6_:=aM (ho);clear HO_171000 HO_171001 BK161 BK162 BK170 HB HO_8;have HO_171000:=n0_;have HO_171001:=n1_;have BK161:=n2_;have BK162:=n3_;have BK170:=n4_;have HB:=n5_;have HO187:=n6_;clear n0_ n1_ n2_ n3_ n4_ n5_ n6_ ho hb hg hat))
           go_roundg k2
           case measure => have:=HK1.out;have:=HK2.out;omega
           case rel => exact ⟨(y185),(wrap64 (x10_2 + 1)),(by first|rfl|(simp;done)|(simp [*];done)),H',⟨by have:=HK1.out;have:=HK2.out;omega⟩,⟨by (with_reducible repeat (first|apply rA|apply rN|apply rD));exact HO187.out⟩,⟨by (with_reducible repeat (first|apply rA|apply rN|apply rD));exact Kd.R_mono HO_171000.out (fun _ hk => hk.2)⟩,⟨by (with_reducible repeat (first|apply rA|apply rN|apply rD));exact HO_171001.out⟩,⟨by (with_reducible repeat (first|refine bN ?_ _|refine bD ?_|refine bA ?_ _));exact BK161.out⟩,⟨by (with_reducible repeat (first|refine bN ?_ _|refine bD ?_|refine bA ?_ _));exact BK162.out⟩,⟨by (with_reducible repeat (first|refine bN ?_ _|refine bD ?_|refine bA ?_ _));exact BK170.out⟩,⟨by repeat (first|(with_reducible first|exact HB.out|apply lA|apply lN|apply lD|refine lS ?_ GE161.out|refine lS ?_ GE162.out|refine lS ?_ GE170.out)|exact HB.out)⟩⟩
          ·rw [if_neg c38] at H
           exact absurd H (by simp)
         ·rw [if_neg c37] at H
          have c37b0 : (Op.bytesLess a1.toList (((rd_T59 l0_0 x10_2).f0).toList)) = false:=by simpa using c37
          clear c37
          have H':=aM H
          clear H
          have hnb43:=NB161_162.out
          have hnc43:=NB162_161.out
          have hnb44:=NB161_170.out
          have hnc44:=NB170_161.out
          obtain ⟨⟨hcz45_0,hcz45_1,hcz45_2⟩,hfz45_0,hfz45_1,hfz45_2⟩:=bC3 BK161.out
          have p183 : 0 ≤ (x10_2 : Int):=of_decide_eq_true (by first|(with_reducible assumption)|assumption)
          have q183 : x10_2 < (l0_0.length : Int):=of_decide_eq_true (by first|(with_reducible assumption)|assumption)
          obtain ⟨ad183,e183,hx183_0,hx183_1⟩:=at_T59 HR0_0.out x10_2 p183 q183
          cases e183
          replace hx183_0:=(HB.out.cell (World.block_lt_of_cell? w _ hx183_0)).trans hx183_0
          replace hx183_1:=(HB.out.cell (World.block_lt_of_cell? w _ hx183_1)).trans hx183_1
          replace p183:=eq_true p183
          replace q183:=eq_true q183
          go_wp2
          go_roundg k2
          case measure => have:=HK1.out;have:=HK2.out;omega
          case rel => exact ⟨(x8_2),(wrap64 (x10_2 + 1)),(by first|rfl|(simp;done)|(simp [*];done)),H',⟨by have:=HK1.out;have:=HK2.out;omega⟩,⟨by (with_reducible repeat (first|apply rA|apply rN|apply rD));exact HO_8.out⟩,⟨by (with_reducible repeat (first|apply rA|apply rN|apply rD));exact HO_171000.out⟩,⟨by (with_reducible repeat (first|apply rA|apply rN|apply rD));exact HO_171001.out⟩,⟨by (with_reducible repeat (first|refine bN ?_ _|refine bD ?_|refine bA ?_ _));exact BK161.out⟩,⟨by (with_reducible repeat (first|refine bN ?_ _|refine bD ?_|refine bA ?_ _));exact BK162.out⟩,⟨by (with_reducible repeat (first|refine bN ?_ _|refine bD ?_|refine bA ?_ _));exact BK170.out⟩,⟨by repeat (first|(with_reducible first|exact HB.out|apply lA|apply lN|apply lD|refine lS ?_ GE161.out|refine lS ?_ GE162.out|refine lS ?_ GE170.out)|exact HB.out)⟩⟩
        ·rw [if_neg c36] at H
         exact absurd H (by simp)
       ·rw [if_neg c35] at H
        have c35b0 : decide (x10_2 < (l0_0.length : Int)) = false:=decide_eq_false c35
        clear c35
        by_cases c46 : (x8_2.length : Int) ≤ 60
        ·rw [if_pos c46] at H
         have c46b0 : decide ((x8_2.length : Int) ≤ 60) = true:=decide_eq_true c46
         have c46b1 : decide (x8_2.length ≤ 60) = true:=decide_eq_true (by omega)
         clear c46
         simp only [Option.some.injEq,Prod.mk.injEq] at H
         obtain ⟨rfl,rfl,rfl⟩:=H
         have hnb47:=NB161_162.out
         have hnc47:=NB162_161.out
         have hnb48:=NB161_170.out
         have hnc48:=NB170_161.out
         obtain ⟨⟨hcz49_0,hcz49_1,hcz49_2⟩,hfz49_0,hfz49_1,hfz49_2⟩:=bC3 BK161.out
         obtain ⟨Ao50,co50,eo50⟩:=Kd.R_slice HO_8.out
         subst eo50
         have hnb51:=NB170_162.out
         have hnc51:=NB162_170.out
         obtain ⟨⟨hcz52_0,hcz52_1,hcz52_2⟩,hfz52_0,hfz52_1,hfz52_2⟩:=bC3 BK170.out
         obtain ⟨⟨hcz53_0,hcz53_1,hcz53_2⟩,hfz53_0,hfz53_1,hfz53_2⟩:=bC3 BK162.out
         go_wp2
         refine bodyPost_ret (results_cell_row rfl _ _ gb162 35 #[.slice Ao50 x8_2.length co50,.slice Ao15 t166.length co15,.string t169] (0,0) _ rfl (by (with_reducible repeat (first|refine bN ?_ _|refine bD ?_|refine bA ?_ _));refine blk_put (cs:=#[.slice Ao50 x8_2.length co50,.slice Ao15 t166.length co15,.string (⟨#[]⟩ : ByteArray)]) ?_ 2 _ rfl;(with_reducible repeat (first|refine bN ?_ _|refine bD ?_|refine bA ?_ _));refine blk_put (cs:=#[.slice Ao50 x8_2.length co50,.slice none 0 0,.string (⟨#[]⟩ : ByteArray)]) ?_ 1 _ rfl;(with_reducible repeat (first|refine bN ?_ _|refine bD ?_|refine bA ?_ _));refine blk_put (cs:=#[.slice none 0 0,.slice none 0 0,.string (⟨#[]⟩ : ByteArray)]) ?_ 0 _ rfl;(with_reducible repeat (first|refine bN ?_ _|refine bD ?_|refine bA ?_ _));refine blk_far ?_ NB162_170.out _;(with_reducible repeat (first|refine bN ?_ _|refine bD ?_|refine bA ?_ _));exact BK162.out) Try.underlying35 rfl (by kernel_rfl)) rfl ?_
         exact ⟨_,_,by first|rfl|(simp [errW_none,errW_some] <;> rfl)|(simp [*,errW_none,errW_some] <;> rfl),by (with_reducible repeat (first|apply rA|apply rN|apply rD));exact Kd.R_mono (rF (rF (rF (rF (rY (rY HO_8.out BK170.out (by decide)) BK162.out (by decide)) (fun _ hk => hk.1.2) _) (fun _ hk => hk.2) _) (fun _ hk => hk.2) _) (fun _ hk => hk.2) _) (fun _ hk => trivial),by (with_reducible repeat (first|apply rA|apply rN|apply rD));exact Kd.R_mono (rF (rF (rF (rF (rY (rY HO_171001.out BK170.out (by decide)) BK162.out (by decide)) (fun _ hk => hk.1.2) _) (fun _ hk => hk.2) _) (fun _ hk => hk.2) _) (fun _ hk => hk.2) _) (fun _ hk => trivial),by repeat (first|(with_reducible first|exact HB.out|apply lA|apply lN|apply lD|refine lS ?_ GE161.out|refine lS ?_ GE162.out|refine lS ?_ GE170.out)|exact HB.out)⟩
        ·rw [if_neg c46] at H
         have c46b0 : decide ((x8_2.length : Int) ≤ 60) = false:=decide_eq_false c46
         have c46b1 : decide (x8_2.length ≤ 60) = false:=decide_eq_false (by omega)
         clear c46
         simp only [Option.some.injEq,Prod.mk.injEq] at H
         obtain ⟨rfl,rfl,rfl⟩:=H
         have hnb54:=NB161_162.out
         have hnc54:=NB162_161.out
         have hnb55:=NB161_170.out
         have hnc55:=NB170_161.out
         obtain ⟨⟨hcz56_0,hcz56_1,hcz56_2⟩,hfz56_0,hfz56_1,hfz56_2⟩:=bC3 BK161.out
         obtain ⟨Ao57,co57,eo57⟩:=Kd.R_slice HO_8.out
         subst eo57
         have hnb58:=NB170_162.out
         have hnc58:=NB162_170.out
         obtain ⟨⟨hcz59_0,hcz59_1,hcz59_2⟩,hfz59_0,hfz59_1,hfz59_2⟩:=bC3 BK170.out
         obtain ⟨⟨hcz60_0,hcz60_1,hcz60_2⟩,hfz60_0,hfz60_1,hfz60_2⟩:=bC3 BK162.out
         go_wp2
         refine bodyPost_ret (results_cell_row rfl _ _ gb162 35 #[.slice Ao11 t163.length co11,.slice Ao15 t166.length co15,.string t169] (0,0) _ rfl (by (with_reducible repeat (first|refine bN ?_ _|refine bD ?_|refine bA ?_ _));refine blk_put (cs:=#[.slice Ao11 t163.length co11,.slice Ao15 t166.length co15,.string (⟨#[]⟩ : ByteArray)]) ?_ 2 _ rfl;(with_reducible repeat (first|refine bN ?_ _|refine bD ?_|refine bA ?_ _));refine blk_put (cs:=#[.slice Ao11 t163.length co11,.slice none 0 0,.string (⟨#[]⟩ : ByteArray)]) ?_ 1 _ rfl;(with_reducible repeat (first|refine bN ?_ _|refine bD ?_|refine bA ?_ _));refine blk_put (cs:=#[.slice none 0 0,.slice none 0 0,.string (⟨#[]⟩ : ByteArray)]) ?_ 0 _ rfl;(with_reducible repeat (first|refine bN ?_ _|refine bD ?_|refine bA ?_ _));exact BK162.out) Try.underlying35 rfl (by kernel_rfl)) rfl ?_
         exact ⟨_,_,by first|rfl|(simp [errW_none,errW_some] <;> rfl)|(simp [*,errW_none,errW_some] <;> rfl),by (with_reducible repeat (first|apply rA|apply rN|apply rD));exact Kd.R_mono (rF (rF (rF (rY HO_171000.out BK162.out (by decide)) (fun _ hk => hk.2) _) (fun _ hk => hk.2) _) (fun _ hk => hk.2) _) (fun _ hk => trivial),by (with_reducible repeat (first|apply rA|apply rN|apply rD));exact Kd.R_mono (rF (rF (rF (rY HO_171001.out BK162.out (by decide)) (fun _ hk => hk.2) _) (fun _ hk => hk.2) _) (fun _ hk => hk.2) _) (fun _ hk => trivial),by repeat (first|(with_reducible first|exact HB.out|apply lA|apply lN|apply lD|refine lS ?_ GE161.out|refine lS ?_ GE162.out|refine lS ?_ GE170.out)|exact HB.out)⟩
    ·rw [if_neg c30] at H
     exact absurd H (by simp)

/-! ### spec_l08Name: function 38 -/
def spec_l08Name.f (s0_0 : List Int) (s0_1 : Int) (s0_2 : Int) : Option (ByteArray × Int × Int):=(spec_l01Pick.f s0_0 s0_1 s0_2 (([(⟨#[110]⟩ : ByteArray),(⟨#[115]⟩ : ByteArray),(⟨#[116]⟩ : ByteArray),(⟨#[117]⟩ : ByteArray),(⟨#[112,114,101]⟩ : ByteArray)] : List ByteArray))).bind fun bt191 => (some (bt191.1,bt191.2.1,bt191.2.2))
set_option maxHeartbeats 8000000 in
set_option maxRecDepth 100000 in
theorem spec_l08Name.calls (g : Nat) (s0_0 : List Int) (s0_1 : Int) (s0_2 : Int) (r1 : ByteArray) (r2 : Int) (r3 : Int) (w0 w : World) (hI : IsS62 w0 w g s0_0 s0_1 s0_2) (hB : Below w0.heap.size w0 w) (h : spec_l08Name.f s0_0 s0_1 s0_2 = some (r1,r2,r3)) :
  Calls Try.prog 38 #[.pointer (some ⟨g,0,none⟩)] w fun e w' => e = .returned (.string r1) ∧ IsS62 w0 w' g s0_0 r2 r3 ∧ Below w0.heap.size w0 w' ∧ KeepBut w w' g none:=by
 have HI0:=aM hI
 have HK:=aM (KeepBut.refl w g none)
 have HL:=aM hB.size
 clear hI
 have HW0:=aM hB.size
 have HB:=aM hB
 clear hB
 have H : ((spec_l01Pick.f s0_0 s0_1 s0_2 (([(⟨#[110]⟩ : ByteArray),(⟨#[115]⟩ : ByteArray),(⟨#[116]⟩ : ByteArray),(⟨#[117]⟩ : ByteArray),(⟨#[112,114,101]⟩ : ByteArray)] : List ByteArray))).bind fun bt191 => (some (bt191.1,bt191.2.1,bt191.2.2))) = some (r1,r2,r3):=h
 clear h
 obtain ⟨y188,hy188⟩ : ∃ y_ : List ByteArray,y_ = (([(⟨#[110]⟩ : ByteArray),(⟨#[115]⟩ : ByteArray),(⟨#[116]⟩ : ByteArray),(⟨#[117]⟩ : ByteArray),(⟨#[112,114,101]⟩ : ByteArray)] : List ByteArray)):=⟨_,rfl⟩
 replace H : ((spec_l01Pick.f s0_0 s0_1 s0_2 y188).bind fun bt191 => (some (bt191.1,bt191.2.1,bt191.2.2))) = some (r1,r2,r3):=by first|(rw [hy188];with_reducible exact H)|(have H2_:=(Option.bind_some _ _).symm.trans H;rw [hy188];with_reducible exact H2_)|(have H2_:=(Option.bind_some _ _).symm.trans H;with_reducible exact H2_)|with_reducible exact H|(rw [hy188];exact H)|exact H
 have Ny188:=aM hy188
 clear hy188
 replace H:=Option.bind_eq_some_iff.mp H
 obtain ⟨⟨t191,t192,t193⟩,A20,H⟩:=H
 replace H : (some (t191,t192,t193)) = some (r1,r2,r3):=H
 have A2:=aM A20
 clear A20
 simp only [Option.some.injEq,Prod.mk.injEq] at H
 obtain ⟨rfl,rfl,rfl⟩:=H
 go_enter Try.func38,Try.ntmps38
 go_wp2_with (first|((with_reducible refine gate_dst (N:=4) rfl ?_);refine Kd.R_lit Kd.string _ 9 ?hg (N:=4) ?hd (xs:=([(⟨#[110]⟩ : ByteArray),(⟨#[115]⟩ : ByteArray),(⟨#[116]⟩ : ByteArray),(⟨#[117]⟩ : ByteArray),(⟨#[112,114,101]⟩ : ByteArray)] : List ByteArray)) (inner:=[.string (⟨#[110]⟩ : ByteArray),.string (⟨#[115]⟩ : ByteArray),.string (⟨#[116]⟩ : ByteArray),.string (⟨#[117]⟩ : ByteArray),.string (⟨#[112,114,101]⟩ : ByteArray)]) (ok:=fun _ => True) (okp:=fun _ => True) ?hr ?hp (fun _ hk => hk) trivial (Below.refl _ _) (Nat.le_refl _) (by simp) ?_;(case hd => rfl);(case hg => rfl);(case hr => first|(go_simp;done)|(go_simp;rfl));(case hp => exact (Reps.one (show Kd.M Kd.string _ _ _ (⟨#[110]⟩ : ByteArray) [.string (⟨#[110]⟩ : ByteArray)] from rfl) (Reps.one (show Kd.M Kd.string _ _ _ (⟨#[115]⟩ : ByteArray) [.string (⟨#[115]⟩ : ByteArray)] from rfl) (Reps.one (show Kd.M Kd.string _ _ _ (⟨#[116]⟩ : ByteArray) [.string (⟨#[116]⟩ : ByteArray)] from rfl) (Reps.one (show Kd.M Kd.string _ _ _ (⟨#[117]⟩ : ByteArray) [.string (⟨#[117]⟩ : ByteArray)] from rfl) (Reps.one (show Kd.M Kd.string _ _ _ (⟨#[112,114,101]⟩ : ByteArray) [.string (⟨#[112,114,101]⟩ : ByteArray)] from rfl) (Reps.none _ _)))))));intro v189 w3 ho4 hb hg_ hnew_;clear hg_ hnew_;(first|rw [← Ny188.out] at ho4|(simp only [Int.reduceToNat] at ho4;rw [← Ny188.out] at ho4));have n0_:=aM (rL ho4 (keep_size (w:=w) (g:=g) (row:=none) (by repeat (first|(with_reducible first|exact HK.out|apply KeepBut.set_|apply keep_drewN|apply keep_drew|apply keep_alloc)|exact HK.out))));have n1_:=aM (IsS62.below (by repeat (first|(with_reducible first|exact HI0.out|apply IsS62.alloc|apply IsS62.drewN|apply IsS62.drew|apply IsS62.set_1|apply IsS62.set_2)|exact HI0.out)) hb);have n2_:=aM (KeepBut.trans (by repeat (first|(with_reducible first|exact HK.out|apply KeepBut.set_|apply keep_drewN|apply keep_drew|apply keep_alloc)|exact HK.out)) (KeepBut.of_below hb g none) (.inl rfl));have n3_:=aM (lP (by repeat (first|(with_reducible first|exact HB.out|apply lA|apply lN|apply lD|refine lS ?_ (IsS62.ge HI0.out))|exact HB.out)) hb);clear HI0 HK HB;have HO190:=n0_;have HI0:=n1_;have HK:=n2_;have HB:=n3_;clear n0_ n1_ n2_ n3_ hb ho4;obtain ⟨Ao5,co5,eo5⟩:=Kd.R_slice HO190.out;subst eo5)|((with_reducible refine gate_callee (f:=34) rfl ?_);refine goesL_ (some 5) rfl rfl Try.func34 (by kernel_rfl) rfl #[.pointer (some ⟨g,0,none⟩),.slice Ao5 y188.length co5] rfl (by (try simp only [List.map_toArray,List.map_cons,List.map_nil]);first|done|rfl|(simp only [List.length_drop,List.length_take];rfl)) ?_;(with_reducible refine (spec_l01Pick.calls g s0_0 s0_1 s0_2 _ _ y188 t191 t192 t193 w0 _ ?side1 ?side2 ?side3 ?side4 ?side5 A2.out).mono ?_);(case side1 => repeat (first|(with_reducible first|exact HI0.out|apply IsS62.alloc|apply IsS62.drewN|apply IsS62.drew|apply IsS62.set_1|apply IsS62.set_2)|exact HI0.out));(case side2 => repeat (first|(with_reducible first|exact HB.out|apply lA|apply lN|apply lD|refine lS ?_ (IsS62.ge HI0.out))|exact HB.out));(case side3 => repeat (first|exact (rR HO190.out).2.2|(with_reducible first|refine cA ?_ _|refine cN ?_ _|refine cD ?_)));(case side4 => exact (rR HO190.out).2.1);(case side5 => exact far_slice (IsS62.own_ne HI0.out HO190.out (by decide)));rintro e w6 ⟨rfl,hi,hb,hk⟩;refine ⟨_,rfl,?_⟩;have n0_:=aM (Kd.R_mono (Kd.R_keep (IsS62.apart (show IsS62 w0 _ g s0_0 s0_1 s0_2 from by repeat (first|(with_reducible first|exact HI0.out|apply IsS62.alloc|apply IsS62.drewN|apply IsS62.drew|apply IsS62.set_1|apply IsS62.set_2)|exact HI0.out)) (rZ HO190.out) (by decide)) hk (fun _ h => h.2)) (fun _ h => h.1));have n1_:=aM (KeepBut.trans (by repeat (first|(with_reducible first|exact HK.out|apply KeepBut.set_|apply keep_drewN|apply keep_drew|apply keep_alloc)|exact HK.out)) hk (.inl rfl));have n2_:=aM (hb);have n3_:=aM (hi);clear HO190 HK HB HI0;have HO190:=n0_;have HK:=n1_;have HB:=n2_;have HI0:=n3_;clear n0_ n1_ n2_ n3_;(try clear hb);(try clear hb2);(try clear hk);(try clear hi)))
 go_ret
 exact ⟨by first|rfl|(simp [errW_none,errW_some] <;> rfl)|(simp [*,errW_none,errW_some] <;> rfl),by repeat (first|(with_reducible first|exact HI0.out|apply IsS62.alloc|apply IsS62.drewN|apply IsS62.drew|apply IsS62.set_1|apply IsS62.set_2)|exact HI0.out),by repeat (first|(with_reducible first|exact HB.out|apply lA|apply lN|apply lD|refine lS ?_ (IsS62.ge HI0.out))|exact HB.out),by repeat (first|(with_reducible first|exact HK.out|apply KeepBut.set_|apply keep_drewN|apply keep_drew|apply keep_alloc)|exact HK.out)⟩

/-! ### spec_l08Ahead: function 46 -/
def spec_l08Ahead.f (a0_0 : ByteArray) (a0_1 : ByteArray) (a0_2 : ByteArray) (a1_0 : ByteArray) (a1_1 : ByteArray) (a1_2 : ByteArray) : Option (Bool):=if (Op.bytesLess a0_0.toList a1_0.toList) = true then (some true) else (if a0_0.toList = a1_0.toList then (some (Op.bytesLess a0_1.toList a1_1.toList)) else (some false))
set_option maxHeartbeats 8000000 in
set_option maxRecDepth 100000 in
theorem spec_l08Ahead.calls (a0_0 : ByteArray) (a0_1 : ByteArray) (a0_2 : ByteArray) (a1_0 : ByteArray) (a1_1 : ByteArray) (a1_2 : ByteArray) (r : Bool) (w : World) (h : spec_l08Ahead.f a0_0 a0_1 a0_2 a1_0 a1_1 a1_2 = some r) :
  Calls Try.prog 46 #[.agg #[.string a0_0,.string a0_1,.string a0_2],.agg #[.string a1_0,.string a1_1,.string a1_2]] w fun e w' => e = .returned (.bool r) ∧ Below w.heap.size w w':=by
 have hu39:=Try.underlying39
 have HB:=aM (Below.refl w.heap.size w)
 have H : (if (Op.bytesLess a0_0.toList a1_0.toList) = true then (some true) else (if a0_0.toList = a1_0.toList then (some (Op.bytesLess a0_1.toList a1_1.toList)) else (some false))) = some r:=h
 clear h
 by_cases c3 : (Op.bytesLess a0_0.toList a1_0.toList) = true
 ·rw [if_pos c3] at H
  have c3b0 : (Op.bytesLess a0_0.toList a1_0.toList) = true:=c3
  clear c3
  obtain rfl:=Option.some.inj H
  go_enter Try.func46,Try.ntmps46
  go_wp2_with (first|((with_reducible refine gate_dst (N:=2) rfl ?_);refine box_event ?hg (N:=2) ?hd (cs:=#[.string a0_0,.string a0_1,.string a0_2]) (t:=39) ?hr ?_;(case hd => rfl);(case hg => rfl);(case hr => first|(go_simp;done)|(go_simp;rfl));intro gb194 hg w4 hbox hb;have n0_:=aM (lQ HB.out hb);have n1_:=aM (hbox);have n2_:=aM ((sQ hg HB.out : w.heap.size ≤ gb194));have n3_:=n2_;clear HB;have HB:=n0_;have BK194:=n1_;have GW194:=n2_;have GE194:=n3_;clear n0_ n1_ n2_ n3_ hb hbox hg)|((with_reducible refine gate_dst (N:=3) rfl ?_);refine box_event ?hg (N:=3) ?hd (cs:=#[.string a1_0,.string a1_1,.string a1_2]) (t:=39) ?hr ?_;(case hd => rfl);(case hg => rfl);(case hr => first|(go_simp;done)|(go_simp;rfl));intro gb195 hg w5 hbox hb;have n0_:=aM (bH BK194.out hb);have n1_:=aM (lQ HB.out hb);have n2_:=aM (hbox);have n3_:=aM ((sQ hg HB.out : w.heap.size ≤ gb195));have n4_:=n3_;have n5_:=aM ((nL hg BK194.out : gb194 ≠ gb195));have n6_:=aM ((nG hg BK194.out : gb195 ≠ gb194));clear BK194 HB;have BK194:=n0_;have HB:=n1_;have BK195:=n2_;have GW195:=n3_;have GE195:=n4_;have NB194_195:=n5_;have NB195_194:=n6_;clear n0_ n1_ n2_ n3_ n4_ n5_ n6_ hb hbox hg;have hnb6:=NB194_195.out;have hnc6:=NB195_194.out;obtain ⟨⟨hcz7_0,hcz7_1,hcz7_2⟩,hfz7_0,hfz7_1,hfz7_2⟩:=bC3 BK194.out;obtain ⟨⟨hcz8_0,hcz8_1,hcz8_2⟩,hfz8_0,hfz8_1,hfz8_2⟩:=bC3 BK195.out))
  go_ret
  exact ⟨by first|rfl|(simp [errW_none,errW_some] <;> rfl)|(simp [*,errW_none,errW_some] <;> rfl),by repeat (first|(with_reducible first|exact HB.out|apply lA|apply lN|apply lD|refine lS ?_ GE194.out|refine lS ?_ GE195.out)|exact HB.out)⟩
 ·rw [if_neg c3] at H
  have c3b0 : (Op.bytesLess a0_0.toList a1_0.toList) = false:=by simpa using c3
  clear c3
  by_cases c9 : a0_0.toList = a1_0.toList
  ·rw [if_pos c9] at H
   have c9b0 : (a0_0.toList == a1_0.toList) = true:=beq_iff_eq.mpr c9
   have c9b1 : (a0_0.toList != a1_0.toList) = false:=bne_eq_false_iff_eq.mpr c9
   clear c9
   obtain rfl:=Option.some.inj H
   go_enter Try.func46,Try.ntmps46
   go_wp2_with (first|((with_reducible refine gate_dst (N:=2) rfl ?_);refine box_event ?hg (N:=2) ?hd (cs:=#[.string a0_0,.string a0_1,.string a0_2]) (t:=39) ?hr ?_;(case hd => rfl);(case hg => rfl);(case hr => first|(go_simp;done)|(go_simp;rfl));intro gb194 hg w10 hbox hb;have n0_:=aM (lQ HB.out hb);have n1_:=aM (hbox);have n2_:=aM ((sQ hg HB.out : w.heap.size ≤ gb194));have n3_:=n2_;clear HB;have HB:=n0_;have BK194:=n1_;have GW194:=n2_;have GE194:=n3_;clear n0_ n1_ n2_ n3_ hb hbox hg)|((with_reducible refine gate_dst (N:=3) rfl ?_);refine box_event ?hg (N:=3) ?hd (cs:=#[.string a1_0,.string a1_1,.string a1_2]) (t:=39) ?hr ?_;(case hd => rfl);(case hg => rfl);(case hr => first|(go_simp;done)|(go_simp;rfl));intro gb195 hg w11 hbox hb;have n0_:=aM (bH BK194.out hb);have n1_:=aM (lQ HB.out hb);have n2_:=aM (hbox);have n3_:=aM ((sQ hg HB.out : w.heap.size ≤ gb195));have n4_:=n3_;have n5_:=aM ((nL hg BK194.out : gb194 ≠ gb195));have n6_:=aM ((nG hg BK194.out : gb195 ≠ gb194));clear BK194 HB;have BK194:=n0_;have HB:=n1_;have BK195:=n2_;have GW195:=n3_;have GE195:=n4_;have NB194_195:=n5_;have NB195_194:=n6_;clear n0_ n1_ n2_ n3_ n4_ n5_ n6_ hb hbox hg;have hnb12:=NB194_195.out;have hnc12:=NB195_194.out;obtain ⟨⟨hcz13_0,hcz13_1,hcz13_2⟩,hfz13_0,hfz13_1,hfz13_2⟩:=bC3 BK194.out;obtain ⟨⟨hcz14_0,hcz14_1,hcz14_2⟩,hfz14_0,hfz14_1,hfz14_2⟩:=bC3 BK195.out))
   go_ret
   exact ⟨by first|rfl|(simp [errW_none,errW_some] <;> rfl)|(simp [*,errW_none,errW_some] <;> rfl),by repeat (first|(with_reducible first|exact HB.out|apply lA|apply lN|apply lD|refine lS ?_ GE194.out|refine lS ?_ GE195.out)|exact HB.out)⟩
  ·rw [if_neg c9] at H
   have c9b0 : (a0_0.toList == a1_0.toList) = false:=beq_eq_false_iff_ne.mpr c9
   have c9b1 : (a0_0.toList != a1_0.toList) = true:=bne_iff_ne.mpr c9
   obtain rfl:=Option.some.inj H
   go_enter Try.func46,Try.ntmps46
   go_wp2_with (first|((with_reducible refine gate_dst (N:=2) rfl ?_);refine box_event ?hg (N:=2) ?hd (cs:=#[.string a0_0,.string a0_1,.string a0_2]) (t:=39) ?hr ?_;(case hd => rfl);(case hg => rfl);(case hr => first|(go_simp;done)|(go_simp;rfl));intro gb194 hg w15 hbox hb;have n0_:=aM (lQ HB.out hb);have n1_:=aM (hbox);have n2_:=aM ((sQ hg HB.out : w.heap.size ≤ gb194));have n3_:=n2_;clear HB;have HB:=n0_;have BK194:=n1_;have GW194:=n2_;have GE194:=n3_;clear n0_ n1_ n2_ n3_ hb hbox hg)|((with_reducible refine gate_dst (N:=3) rfl ?_);refine box_event ?hg (N:=3) ?hd (cs:=#[.string a1_0,.string a1_1,.string a1_2]) (t:=39) ?hr ?_;(case hd => rfl);(case hg => rfl);(case hr => first|(go_simp;done)|(go_simp;rfl));intro gb195 hg w16 hbox hb;have n0_:=aM (bH BK194.out hb);have n1_:=aM (lQ HB.out hb);have n2_:=aM (hbox);have n3_:=aM ((sQ hg HB.out : w.heap.size ≤ gb195));have n4_:=n3_;have n5_:=aM ((nL hg BK194.out : gb194 ≠ gb195));have n6_:=aM ((nG hg BK194.out : gb195 ≠ gb194));clear BK194 HB;have BK194:=n0_;have HB:=n1_;have BK195:=n2_;have GW195:=n3_;have GE195:=n4_;have NB194_195:=n5_;have NB195_194:=n6_;clear n0_ n1_ n2_ n3_ n4_ n5_ n6_ hb hbox hg;have hnb17:=NB194_195.out;have hnc17:=NB195_194.out;obtain ⟨⟨hcz18_0,hcz18_1,hcz18_2⟩,hfz18_0,hfz18_1,hfz18_2⟩:=bC3 BK194.out;obtain ⟨⟨hcz19_0,hcz19_1,hcz19_2⟩,hfz19_0,hfz19_1,hfz19_2⟩:=bC3 BK195.out))
   go_ret
   exact ⟨by first|rfl|(simp [errW_none,errW_some] <;> rfl)|(simp [*,errW_none,errW_some] <;> rfl),by repeat (first|(with_reducible first|exact HB.out|apply lA|apply lN|apply lD|refine lS ?_ GE194.out|refine lS ?_ GE195.out)|exact HB.out)⟩

end Go.Proofs.Ytekngkljphlliaa.QFnSays
