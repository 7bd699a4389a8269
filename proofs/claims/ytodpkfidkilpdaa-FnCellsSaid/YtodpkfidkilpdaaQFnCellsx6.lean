-- A text of this session, made by wip/own_print.py (the kit's print with additions of ours).
import Derived.Test.YtodpkfidkilpdaaQFnCellsx0
import Derived.Test.YtodpkfidkilpdaaQFnCellsx3
import Derived.Test.YtodpkfidkilpdaaQFnCellsx5
namespace Go.Proofs.Ytodpkfidkilpdaa.QFnCells
open Go.RowKit Go.Proofs.YtodpkfidkilpdaaW.PrintWords Go.Proofs.YtodpkfidkilpdaaW.PrintLast Go.Proofs.YtodpkfidkilpdaaW.PrintMore
attribute [local go_sem] max2_int min2_int max_two min_two max_three min_three max_four min_four   -- for this text's walks alone
set_option linter.unusedVariables false
set_option linter.unusedSimpArgs false
open Bool renaming true → bT, false → bf
open Go.Proofs.YtodpkfidkilpdaaW.PrintWords.Kd renaming R_alloc → rA, R_drewN → rN, R_drew → rD, C_alloc → cA, C_drewN → cN, C_drew → cD, R_far → rF, R_below → rB, R_lower → rL, R_lt → rT, R_base → rS, C_below → cB, R_types → rY, R_elder' → rE, R_reads' → rR, R_new' → rW
open Go.Proofs.YtodpkfidkilpdaaW.PrintWords renaming blk_drewN → bN, blk_drew → bD, blk_alloc → bA, below_set → lS, pw_below_drewN → lN, below_drew1 → lD, below_alloc → lA, blk_cell → bC, blk_below → bB, below_size → lZ, below_step → lP, blk_lt → bL, blk_frozen → bF
open Go.Proofs.YtodpkfidkilpdaaW.PrintWords.Aside0 renaming mk → aM
theorem q_ia4 {α : Type} (l : List α) (i : Nat) (a : α) : l.toArray.setIfInBounds i a = (l.set i a).toArray := List.setIfInBounds_toArray ..
theorem q_cz4 {α : Type} (a b : α) (l : List α) : (a :: l).set 0 b = b :: l := rfl
theorem q_cs4 {α : Type} (a b : α) (l : List α) (n : Nat) : (a :: l).set (n + 1) b = a :: l.set n b := rfl

/-! ### impl_Cell: function 80 -/
mutual
def impl_Cell.l0 : Nat → List (S57) → Int → List (S57) → List (S57) → Int → Int → ByteArray → ByteArray → ByteArray → Option ((List (S57)))
 | 0, _, _, _, _, _, _, _, _, _ => none
 | k + 1, x0, x3, x9, x18, x19, x20, x167000, x167001, x167002 => if x20 < x19 then (if 0 ≤ x20 then (if x20 < (x18.length : Int) then ((impl_byKey.f ((rd_T57 x18 x20).f0) ((rd_T57 x18 x20).f1) ((rd_T57 x18 x20).f2) x167000 x167001 x167002).bind fun t172 => (if t172 < 0 then (if x9.length < 2932031007402 then (impl_Cell.l0 k x0 x3 (x9 ++ [(⟨(rd_T57 x18 x20).f0, (rd_T57 x18 x20).f1, (rd_T57 x18 x20).f2⟩ : S57)]) x18 x19 (wrap64 (x20 + 1)) x167000 x167001 x167002) else (none)) else (impl_Cell.l0 k x0 x3 x9 x18 x19 (wrap64 (x20 + 1)) x167000 x167001 x167002))) else (none)) else (none)) else (if x9.length < 2932031007402 then (impl_Cell.l1 k x0 x3 (x9 ++ [(⟨x167000, x167001, x167002⟩ : S57)]) x0 (x0.length : Int) 0 x167000 x167001 x167002) else (none))
def impl_Cell.l1 : Nat → List (S57) → Int → List (S57) → List (S57) → Int → Int → ByteArray → ByteArray → ByteArray → Option ((List (S57)))
 | 0, _, _, _, _, _, _, _, _, _ => none
 | k + 1, x0, x3, x9, x38, x39, x40, x167000, x167001, x167002 => if x40 < x39 then (if 0 ≤ x40 then (if x40 < (x38.length : Int) then ((impl_byKey.f ((rd_T57 x38 x40).f0) ((rd_T57 x38 x40).f1) ((rd_T57 x38 x40).f2) x167000 x167001 x167002).bind fun t181 => (if t181 > 0 then (if x9.length < 2932031007402 then (impl_Cell.l1 k x0 x3 (x9 ++ [(⟨(rd_T57 x38 x40).f0, (rd_T57 x38 x40).f1, (rd_T57 x38 x40).f2⟩ : S57)]) x38 x39 (wrap64 (x40 + 1)) x167000 x167001 x167002) else (none)) else (impl_Cell.l1 k x0 x3 x9 x38 x39 (wrap64 (x40 + 1)) x167000 x167001 x167002))) else (none)) else (none)) else (if (x9.length : Int) > x3 then (some x0) else (some x9))
end
def impl_Cell.f (k : Nat) (l0 : List (S57)) (a1_0 : ByteArray) (a1_1 : ByteArray) (a1_2 : ByteArray) (a2 : Bool) (a3 : Int) : Option ((List (S57))) := if 0 ≤ (wrap64 ((l0.length : Int) + 1)) then (if (wrap64 ((l0.length : Int) + 1) : Int).toNat ≤ 5864062014805 then (impl_Cell.l0 k l0 a3 (([] : List (S57))) l0 (l0.length : Int) 0 a1_0 a1_1 a1_2) else (none)) else (none)
theorem impl_Cell.mono_l : ∀ k, (∀ y0 y1 y2 y3 y4 y5 y6 y7 y8, LeO (impl_Cell.l0 k y0 y1 y2 y3 y4 y5 y6 y7 y8) (impl_Cell.l0 (k + 1) y0 y1 y2 y3 y4 y5 y6 y7 y8)) ∧ (∀ y0 y1 y2 y3 y4 y5 y6 y7 y8, LeO (impl_Cell.l1 k y0 y1 y2 y3 y4 y5 y6 y7 y8) (impl_Cell.l1 (k + 1) y0 y1 y2 y3 y4 y5 y6 y7 y8))
 | 0 => ⟨fun _ _ _ _ _ _ _ _ _ r h => by simp [impl_Cell.l0] at h, fun _ _ _ _ _ _ _ _ _ r h => by simp [impl_Cell.l1] at h⟩
 | k + 1 => by
  obtain ⟨ih0, ih1⟩ := impl_Cell.mono_l k
  refine ⟨?_, ?_⟩
  ·intro y0 y1 y2 y3 y4 y5 y6 y7 y8
   unfold impl_Cell.l0
   repeat' first
   | (with_reducible exact ih0 _ _ _ _ _ _ _ _ _)
   | (with_reducible exact ih1 _ _ _ _ _ _ _ _ _)
   | (with_reducible exact LeO.refl _)
   | (with_reducible exact LeO.none _)
   | (with_reducible refine LeO.ite ?_ ?_)
   | (with_reducible refine LeO.bind ?_ (fun _ => ?_))
   | exact ih0 _ _ _ _ _ _ _ _ _
   | exact ih1 _ _ _ _ _ _ _ _ _
   | exact LeO.none _
   | refine LeO.ite ?_ ?_
   | refine LeO.bind ?_ (fun _ => ?_)
  ·intro y0 y1 y2 y3 y4 y5 y6 y7 y8
   unfold impl_Cell.l1
   repeat' first
   | (with_reducible exact ih0 _ _ _ _ _ _ _ _ _)
   | (with_reducible exact ih1 _ _ _ _ _ _ _ _ _)
   | (with_reducible exact LeO.refl _)
   | (with_reducible exact LeO.none _)
   | (with_reducible refine LeO.ite ?_ ?_)
   | (with_reducible refine LeO.bind ?_ (fun _ => ?_))
   | exact ih0 _ _ _ _ _ _ _ _ _
   | exact ih1 _ _ _ _ _ _ _ _ _
   | exact LeO.none _
   | refine LeO.ite ?_ ?_
   | refine LeO.bind ?_ (fun _ => ?_)
theorem impl_Cell.mono : ∀ a0 a1 a2 a3 a4 a5 k, LeO (impl_Cell.f k a0 a1 a2 a3 a4 a5) (impl_Cell.f (k + 1) a0 a1 a2 a3 a4 a5) := by
 intro a0 a1 a2 a3 a4 a5 k
 obtain ⟨ih0, ih1⟩ := impl_Cell.mono_l k
 unfold impl_Cell.f
 repeat' first
   | (with_reducible exact ih0 _ _ _ _ _ _ _ _ _)
   | (with_reducible exact ih1 _ _ _ _ _ _ _ _ _)
   | (with_reducible exact LeO.refl _)
   | (with_reducible exact LeO.none _)
   | (with_reducible refine LeO.ite ?_ ?_)
   | (with_reducible refine LeO.bind ?_ (fun _ => ?_))
   | exact ih0 _ _ _ _ _ _ _ _ _
   | exact ih1 _ _ _ _ _ _ _ _ _
   | exact LeO.none _
   | refine LeO.ite ?_ ?_
   | refine LeO.bind ?_ (fun _ => ?_)
set_option maxHeartbeats 8000000 in
set_option maxRecDepth 100000 in
theorem impl_Cell.calls (k : Nat) (P0_ : Nat → Prop) (u9000_ : Value) (l0 : List (S57)) (a1_0 : ByteArray) (a1_1 : ByteArray) (a1_2 : ByteArray) (a2 : Bool) (a3 : Int) (r : List (S57)) (w0 w : World) (hB : Below w0.heap.size w0 w) (ho0 : Kd.R k57 57 w w0.heap.size P0_ u9000_ l0) (h : impl_Cell.f k l0 a1_0 a1_1 a1_2 a2 a3 = some r) :
  Calls Try.prog 80 #[u9000_,.agg #[.string a1_0,.string a1_1,.string a1_2],(.func (.func 70) #[] #[]),.int .i64 a3] w fun e w' => ∃ v0_ : Value,e = .returned (v0_) ∧ Kd.R k57 57 w' w0.heap.size (fun k_ => (P0_ k_ ∨ w.heap.size ≤ k_)) v0_ r ∧ Below w0.heap.size w0 w' ∧ Kept w w' (fun k_ => P0_ k_):=by
 have hu57:=Try.underlying57
 have HO0:=aM (show Kd.R k57 57 w w0.heap.size (fun k_ => (P0_ k_ ∨ w.heap.size ≤ k_)) u9000_ l0 from Kd.R_mono ho0 (fun k_ hk => (.inl hk)))
 have HK:=aM (Kept.refl w (fun k_ => P0_ k_))
 have HW0:=aM hB.size
 have HB:=aM hB
 clear hB
 have H : (if 0 ≤ (wrap64 ((l0.length : Int) + 1)) then (if (wrap64 ((l0.length : Int) + 1) : Int).toNat ≤ 5864062014805 then (impl_Cell.l0 k l0 a3 (([] : List (S57))) l0 (l0.length : Int) 0 a1_0 a1_1 a1_2) else (none)) else (none)) = some r:=h
 clear h
 obtain ⟨ji5,hji5⟩ : ∃ j_ : Int,(wrap64 ((l0.length : Int) + 1)) = j_:=⟨_,rfl⟩
 replace H : (if 0 ≤ (ji5) then (if (ji5 : Int).toNat ≤ 5864062014805 then (impl_Cell.l0 k l0 a3 (([] : List (S57))) l0 (l0.length : Int) 0 a1_0 a1_1 a1_2) else (none)) else (none)) = some r:=by first|(rw [hji5] at H;exact H)|(simp only [hji5] at H ⊢;exact H)
 have hji5w : (IntKind.i64.wrap ((l0.length : Int) + 1)) = ji5:=(i64_w _).trans hji5
 by_cases c6 : 0 ≤ (ji5)
 ·rw [if_pos c6] at H
  have c6b0:=eq_true c6
  have c6b1 : decide (0 ≤ (ji5)) = true:=decide_eq_true c6
  clear c6
  by_cases c7 : (ji5 : Int).toNat ≤ 5864062014805
  ·rw [if_pos c7] at H
   have c7b0:=eq_true c7
   have c7b1 : decide ((ji5 : Int).toNat ≤ 5864062014805) = true:=decide_eq_true c7
   clear c7
   obtain ⟨y167,hy167⟩ : ∃ y_ : List (S57),y_ = (([] : List (S57))):=⟨_,rfl⟩
   replace H : (impl_Cell.l0 k l0 a3 y167 l0 (l0.length : Int) 0 a1_0 a1_1 a1_2) = some r:=by first|(rw [hy167];with_reducible exact H)|(have H2_:=(Option.bind_some _ _).symm.trans H;rw [hy167];with_reducible exact H2_)|(have H2_:=(Option.bind_some _ _).symm.trans H;with_reducible exact H2_)|with_reducible exact H|(rw [hy167];exact H)|exact H
   have Ny167:=aM hy167
   clear hy167
   have H':=aM H
   clear H
   go_enter Try.func80,Try.ntmps80
   go_wp2_with (first|((with_reducible refine gate_dst (N:=5) rfl ?_);refine box_event ?hg (N:=5) ?hd (cs:=#[.string a1_0,.string a1_1,.string a1_2]) (t:=57) ?hr ?_;(case hd => rfl);(case hg => rfl);(case hr => first|(go_simp;done)|(go_simp;rfl));intro gb166 hg w8 hbox hb;have n0_:=aM (rB (Kd.R_elderB (rZ HO0.out) gb166 (Nat.le_of_eq hg.symm)) hb);have n1_:=aM (Kept.below (S:=(fun k_ => P0_ k_)) (by repeat (first|(with_reducible first|exact HK.out|apply Kept.alloc|apply Kept.drewN|apply Kept.drew)|exact HK.out)) hb);have n2_:=aM (lQ HB.out hb);have n3_:=aM (hbox);have n4_:=aM ((by rw [hg];exact (by first|exact HK.out.1|exact (show Kept w _ (fun k_ => P0_ k_) from by repeat (first|(with_reducible first|exact HK.out|apply Kept.alloc|apply Kept.drewN|apply Kept.drew)|exact HK.out)).1) : w.heap.size ≤ gb166));have n5_:=aM ((sQ hg HB.out : w0.heap.size ≤ gb166));clear HO0 HK HB;have HO0:=n0_;have HK:=n1_;have HB:=n2_;have BK166:=n3_;have GW166:=n4_;have GE166:=n5_;clear n0_ n1_ n2_ n3_ n4_ n5_ hb hbox hg;obtain ⟨Ao9,co9,eo9⟩:=Kd.R_slice HO0.out;subst eo9)|((with_reducible refine gate_dst (N:=17) rfl ?_);refine Kd.R_make0 k57 _ 57 rfl (N:=17) rfl 36 _ _ rfl ji5 rfl rfl Try.underlying36 (.agg #[(.string ⟨#[]⟩),(.string ⟨#[]⟩),(.string ⟨#[]⟩)]) 48 info57 rfl (by decide) (by omega) z57 (ok:=fun _ => True) (okp:=fun _ => True) (k57_mkM _ _ _ z57 ) (fun _ hk => hk) trivial (of_decide_eq_true (by first|(with_reducible assumption)|assumption)) (Nat.le_trans (Nat.mul_le_mul_right _ (of_decide_eq_true (by first|(with_reducible assumption)|assumption) : ji5.toNat ≤ 5864062014805)) (by omega)) (Below.refl _ _) (Nat.le_refl _) ?_;intro v168 w10 ho11 hb hg_ hnew_;clear hg_ hnew_;(first|rw [← Ny167.out] at ho11|(simp only [Int.reduceToNat] at ho11;rw [← Ny167.out] at ho11));have n0_:=aM (rE (rZ HO0.out) (rS ho11) hb);have n1_:=aM (rL (Kd.R_newB (rW (Kd.R_newM (M:=fun k_ => (P0_ k_ ∨ w.heap.size ≤ k_)) ho11 (by first|exact HK.out.1|exact (show Kept w _ (fun k_ => P0_ k_) from by repeat (first|(with_reducible first|exact HK.out|apply Kept.alloc|apply Kept.drewN|apply Kept.drew|refine Kept.setCell ?_ (.inr GW166.out) _)|exact HK.out)).1) (fun k_ h_ => .inr h_)) (rT (rZ HO0.out))) (g:=gb166) (o:=.cells #[.string a1_0,.string a1_1,.string a1_2] 57 (0,0)) (by (with_reducible repeat (first|refine bN ?_ _|refine bD ?_|refine bA ?_ _));exact BK166.out)) (lZ (by repeat (first|(with_reducible first|exact HB.out|apply lA|apply lN|apply lD|refine lS ?_ GE166.out)|exact HB.out))));have n2_:=aM (bH BK166.out hb);have n3_:=aM (Kept.below (S:=(fun k_ => P0_ k_)) (by repeat (first|(with_reducible first|exact HK.out|apply Kept.alloc|apply Kept.drewN|apply Kept.drew|refine Kept.setCell ?_ (.inr GW166.out) _)|exact HK.out)) hb);have n4_:=aM (lQ HB.out hb);clear HO0 BK166 HK HB;have HO0:=n0_;have HO169:=n1_;have BK166:=n2_;have HK:=n3_;have HB:=n4_;clear n0_ n1_ n2_ n3_ n4_ hb ho11))
   go_loopg [9,20] k (fun kq v9 v20 w' => ∃ (x9_1 : List (S57)) (x20_1 : Int),v20 = .int .i64 x20_1 ∧ Aside0 (impl_Cell.l0 kq l0 a3 x9_1 l0 (l0.length : Int) x20_1 a1_0 a1_1 a1_2 = some r) ∧ Aside0 (kq ≤ k) ∧ Aside0 (Kd.R k57 57 w' w0.heap.size (fun k_ => (P0_ k_ ∨ w.heap.size ≤ k_) ∧ some k_ ≠ (v9 : Value).ownBlock ∧ k_ ≠ gb166) (.slice Ao9 l0.length co9) l0) ∧ Aside0 (Kd.R k57 57 w' w0.heap.size (fun k_ => (P0_ k_ ∨ w.heap.size ≤ k_) ∧ some k_ ≠ ((.slice Ao9 l0.length co9) : Value).ownBlock ∧ some k_ ≠ ((.slice Ao9 l0.length co9) : Value).ownBlock ∧ k_ ≠ gb166) v9 x9_1) ∧ Aside0 (Kd.R k57 57 w' w0.heap.size (fun k_ => (P0_ k_ ∨ w.heap.size ≤ k_) ∧ some k_ ≠ (v9 : Value).ownBlock ∧ k_ ≠ gb166) (.slice Ao9 l0.length co9) l0) ∧ Aside0 (w'.heap[gb166]? = some (.cells #[.string a1_0,.string a1_1,.string a1_2] 57 (0,0))) ∧ Aside0 (Kept w w' (fun k_ => P0_ k_)) ∧ Aside0 (Below w0.heap.size w0 w'))
   case atStart => exact ⟨(y167),(0),(by first|rfl|(simp;done)|(simp [*];done)),H',⟨Nat.le_refl _⟩,⟨by (with_reducible repeat (first|apply rA|apply rN|apply rD));exact Kd.R_mono HO0.out (fun _ hk => ⟨hk.1.1,⟨hk.2,hk.1.2⟩⟩)⟩,⟨by (with_reducible repeat (first|apply rA|apply rN|apply rD));exact Kd.R_mono HO169.out (fun _ hk => ⟨hk.1.1.1,⟨hk.1.2,⟨hk.1.2,hk.2⟩⟩⟩)⟩,⟨by (with_reducible repeat (first|apply rA|apply rN|apply rD));exact Kd.R_mono HO0.out (fun _ hk => ⟨hk.1.1,⟨hk.2,hk.1.2⟩⟩)⟩,⟨by (with_reducible repeat (first|refine bN ?_ _|refine bD ?_|refine bA ?_ _));exact BK166.out⟩,⟨by repeat (first|(with_reducible first|exact HK.out|apply Kept.alloc|apply Kept.drewN|apply Kept.drew|refine Kept.setCell ?_ (.inr GW166.out) _)|exact HK.out)⟩,⟨by repeat (first|(with_reducible first|exact HB.out|apply lA|apply lN|apply lD|refine lS ?_ GE166.out)|exact HB.out)⟩⟩
   case round =>
    clear H'
    try clear p2
    try clear c6
    try clear c6b0
    try clear c6b1
    try clear p6
    try clear c7
    try clear c7b0
    try clear c7b1
    try clear c8
    obtain ⟨x9_1,x20_1,rfl,HA,HK1,HO_0,HO_9,HO_18,BK166,HK,HB⟩:=hrel
    cases gk with
    |zero => exact absurd HA.out (by simp [impl_Cell.l0])
    |succ k1 =>
     have H:=HA.out
     clear HA
     simp only [impl_Cell.l0] at H
     by_cases c12 : x20_1 < (l0.length : Int)
     ·rw [if_pos c12] at H
      have c12b0 : decide (x20_1 < (l0.length : Int)) = true:=decide_eq_true c12
      clear c12
      by_cases c13 : 0 ≤ x20_1
      ·rw [if_pos c13] at H
       have c13b0 : decide (0 ≤ x20_1) = true:=decide_eq_true c13
       clear c13
       by_cases c14 : x20_1 < (l0.length : Int)
       ·rw [if_pos c14] at H
        have c14b0 : decide (x20_1 < (l0.length : Int)) = true:=decide_eq_true c14
        clear c14
        replace H:=Option.bind_eq_some_iff.mp H
        obtain ⟨t172,A150,H⟩:=H
        replace H : (if t172 < 0 then (if x9_1.length < 2932031007402 then (impl_Cell.l0 k1 l0 a3 (x9_1 ++ [(⟨(rd_T57 l0 x20_1).f0,(rd_T57 l0 x20_1).f1,(rd_T57 l0 x20_1).f2⟩ : S57)]) l0 (l0.length : Int) (wrap64 (x20_1 + 1)) a1_0 a1_1 a1_2) else (none)) else (impl_Cell.l0 k1 l0 a3 x9_1 l0 (l0.length : Int) (wrap64 (x20_1 + 1)) a1_0 a1_1 a1_2)) = some r:=H
        have A15:=aM A150
        clear A150
        by_cases c16 : t172 < 0
        ·rw [if_pos c16] at H
         have c16b0 : decide (t172 < 0) = true:=decide_eq_true c16
         clear c16
         by_cases c17 : x9_1.length < 2932031007402
         ·rw [if_pos c17] at H
          have LMc17:=aM c17
          clear c17
          obtain ⟨y173,hy173⟩ : ∃ y_ : List (S57),y_ = (x9_1 ++ [(⟨(rd_T57 l0 x20_1).f0,(rd_T57 l0 x20_1).f1,(rd_T57 l0 x20_1).f2⟩ : S57)]):=⟨_,rfl⟩
          replace H : (impl_Cell.l0 k1 l0 a3 y173 l0 (l0.length : Int) (wrap64 (x20_1 + 1)) a1_0 a1_1 a1_2) = some r:=by first|(rw [hy173];with_reducible exact H)|(have H2_:=(Option.bind_some _ _).symm.trans H;rw [hy173];with_reducible exact H2_)|(have H2_:=(Option.bind_some _ _).symm.trans H;with_reducible exact H2_)|with_reducible exact H|(rw [hy173];exact H)|exact H
          have Ny173:=aM hy173
          clear hy173
          have H':=aM H
          clear H
          have p170 : 0 ≤ (x20_1 : Int):=of_decide_eq_true (by first|(with_reducible assumption)|assumption)
          have q170 : x20_1 < (l0.length : Int):=of_decide_eq_true (by first|(with_reducible assumption)|assumption)
          obtain ⟨ad170,e170,hx170_0,hx170_1,hx170_2⟩:=at_T57 (rR HO_18.out).2.2 x20_1 p170 q170
          cases e170
          replace p170:=eq_true p170
          replace q170:=eq_true q170
          go_wp2_with (first|((with_reducible refine gate_dst (N:=11) rfl ?_);refine box_event ?hg (N:=11) ?hd (cs:=#[.string (⟨#[]⟩ : ByteArray),.string (⟨#[]⟩ : ByteArray),.string (⟨#[]⟩ : ByteArray)]) (t:=57) ?hr ?_;(case hd => rfl);(case hg => rfl);(case hr => first|(go_simp;done)|(go_simp;rfl));intro gb171 hg w18 hbox hb;have n0_:=aM (rB (Kd.R_elderB (rZ HO_0.out) gb171 (Nat.le_of_eq hg.symm)) hb);have n1_:=aM (rB (Kd.R_elderB (rZ HO_9.out) gb171 (Nat.le_of_eq hg.symm)) hb);have n2_:=aM (rB (Kd.R_elderB (rZ HO_18.out) gb171 (Nat.le_of_eq hg.symm)) hb);have n3_:=aM (bH BK166.out hb);have n4_:=aM (Kept.below (S:=(fun k_ => P0_ k_)) (by repeat (first|(with_reducible first|exact HK.out|apply Kept.alloc|apply Kept.drewN|apply Kept.drew|refine Kept.setCell ?_ (.inr GW166.out) _)|exact HK.out)) hb);have n5_:=aM (lQ HB.out hb);have n6_:=aM (hbox);have n7_:=aM ((by rw [hg];exact (by first|exact HK.out.1|exact (show Kept w _ (fun k_ => P0_ k_) from by repeat (first|(with_reducible first|exact HK.out|apply Kept.alloc|apply Kept.drewN|apply Kept.drew|refine Kept.setCell ?_ (.inr GW166.out) _)|exact HK.out)).1) : w.heap.size ≤ gb171));have n8_:=aM ((sQ hg HB.out : w0.heap.size ≤ gb171));have n9_:=aM ((nL hg BK166.out : gb166 ≠ gb171));have n10_:=aM ((nG hg BK166.out : gb171 ≠ gb166));clear HO_0 HO_9 HO_18 BK166 HK HB;have HO_0:=n0_;have HO_9:=n1_;have HO_18:=n2_;have BK166:=n3_;have HK:=n4_;have HB:=n5_;have BK171:=n6_;have GW171:=n7_;have GE171:=n8_;have NB166_171:=n9_;have NB171_166:=n10_;clear n0_ n1_ n2_ n3_ n4_ n5_ n6_ n7_ n8_ n9_ n10_ hb hbox hg;have hnb19:=NB171_166.out;have hnc19:=NB166_171.out;obtain ⟨⟨hcz20_0,hcz20_1,hcz20_2⟩,hfz20_0,hfz20_1,hfz20_2⟩:=bC3 BK171.out;obtain ⟨⟨hcz21_0,hcz21_1,hcz21_2⟩,hfz21_0,hfz21_1,hfz21_2⟩:=bC3 BK166.out)|(go_at_call 70;(with_reducible refine (impl_byKey.calls ((rd_T57 l0 x20_1).f0) ((rd_T57 l0 x20_1).f1) ((rd_T57 l0 x20_1).f2) a1_0 a1_1 a1_2 t172 _ A15.out).mono ?_);rintro e w22 ⟨rfl,hb⟩;have n0_:=aM (rB (by (with_reducible repeat (first|apply rA|apply rN|apply rD));exact (Kd.R_mono (rF (rF (rF (Kd.R_mono HO_0.out (fun k_ hk => (⟨hk,hk.2⟩ : _ ∧ k_ ≠ gb171))) (fun _ hk => hk.2) _) (fun _ hk => hk.2) _) (fun _ hk => hk.2) _) (fun _ h_ => h_.1))) hb);have n1_:=aM (rB (by (with_reducible repeat (first|apply rA|apply rN|apply rD));exact (Kd.R_mono (rF (rF (rF (Kd.R_mono HO_9.out (fun k_ hk => (⟨hk,hk.2⟩ : _ ∧ k_ ≠ gb171))) (fun _ hk => hk.2) _) (fun _ hk => hk.2) _) (fun _ hk => hk.2) _) (fun _ h_ => h_.1))) hb);have n2_:=aM (rB (by (with_reducible repeat (first|apply rA|apply rN|apply rD));exact (Kd.R_mono (rF (rF (rF (Kd.R_mono HO_18.out (fun k_ hk => (⟨hk,hk.2⟩ : _ ∧ k_ ≠ gb171))) (fun _ hk => hk.2) _) (fun _ hk => hk.2) _) (fun _ hk => hk.2) _) (fun _ h_ => h_.1))) hb);have n3_:=aM (bB (g:=gb166) (o:=.cells #[.string a1_0,.string a1_1,.string a1_2] 57 (0,0)) (by (with_reducible repeat (first|refine bN ?_ _|refine bD ?_|refine bA ?_ _));refine blk_far ?_ NB166_171.out _;(with_reducible repeat (first|refine bN ?_ _|refine bD ?_|refine bA ?_ _));refine blk_far ?_ NB166_171.out _;(with_reducible repeat (first|refine bN ?_ _|refine bD ?_|refine bA ?_ _));refine blk_far ?_ NB166_171.out _;(with_reducible repeat (first|refine bN ?_ _|refine bD ?_|refine bA ?_ _));exact BK166.out) hb);have n4_:=aM (bB (g:=gb171) (o:=.cells #[.string ((rd_T57 l0 x20_1).f0),.string ((rd_T57 l0 x20_1).f1),.string ((rd_T57 l0 x20_1).f2)] 57 (0,0)) (by (with_reducible repeat (first|refine bN ?_ _|refine bD ?_|refine bA ?_ _));refine blk_put (cs:=#[.string ((rd_T57 l0 x20_1).f0),.string ((rd_T57 l0 x20_1).f1),.string (⟨#[]⟩ : ByteArray)]) ?_ 2 _ rfl;(with_reducible repeat (first|refine bN ?_ _|refine bD ?_|refine bA ?_ _));refine blk_put (cs:=#[.string ((rd_T57 l0 x20_1).f0),.string (⟨#[]⟩ : ByteArray),.string (⟨#[]⟩ : ByteArray)]) ?_ 1 _ rfl;(with_reducible repeat (first|refine bN ?_ _|refine bD ?_|refine bA ?_ _));refine blk_put (cs:=#[.string (⟨#[]⟩ : ByteArray),.string (⟨#[]⟩ : ByteArray),.string (⟨#[]⟩ : ByteArray)]) ?_ 0 _ rfl;(with_reducible repeat (first|refine bN ?_ _|refine bD ?_|refine bA ?_ _));exact BK171.out) hb);have n5_:=aM (Kept.below (S:=(fun k_ => P0_ k_)) (by repeat (first|(with_reducible first|exact HK.out|apply Kept.alloc|apply Kept.drewN|apply Kept.drew|refine Kept.setCell ?_ (.inr GW166.out) _|refine Kept.setCell ?_ (.inr GW171.out) _)|exact HK.out)) hb);have n6_:=aM (lQ HB.out hb);clear HO_0 HO_9 HO_18 BK166 BK171 HK HB;have HO_0:=n0_;have HO_9:=n1_;have HO_18:=n2_;have BK166:=n3_;have BK171:=n4_;have HK:=n5_;have HB:=n6_;clear n0_ n1_ n2_ n3_ n4_ n5_ n6_;(try clear hb);(try clear hb2);(try clear hk);(try clear hi);obtain ⟨⟨hcz23_0,hcz23_1,hcz23_2⟩,hfz23_0,hfz23_1,hfz23_2⟩:=bC3 BK171.out)|((with_reducible refine gate_builtin (b:=.append) (xs:=#[.tmp 29,.tmp 31]) rfl ?_);at_builtin;refine Kd.R_append k57 (w0:=w0) w0.heap.size rfl (.tmp 29) (.tmp 31) 36 57 (.agg #[(.string ⟨#[]⟩),(.string ⟨#[]⟩),(.string ⟨#[]⟩)]) 48 rfl Try.underlying36 info57 rfl (by decide) (by omega) u9 x9_1 (⟨(rd_T57 l0 x20_1).f0,(rd_T57 l0 x20_1).f1,(rd_T57 l0 x20_1).f2⟩ : S57) [.string ((rd_T57 l0 x20_1).f0),.string ((rd_T57 l0 x20_1).f1),.string ((rd_T57 l0 x20_1).f2)] (fun k_ => (P0_ k_ ∨ w.heap.size ≤ k_) ∧ some k_ ≠ (.slice (some ad170) l0.length co9 : Value).ownBlock ∧ some k_ ≠ (.slice (some ad170) l0.length co9 : Value).ownBlock ∧ k_ ≠ gb166 ∧ k_ ≠ gb171) (fun _ => False) rfl rfl ?aP (fun _ hk => hk.elim) ?aF ?aO ?aB ?aS ?aL ?_;(case aP => exact k57_mkM _ _ _ (⟨(rd_T57 l0 x20_1).f0,(rd_T57 l0 x20_1).f1,(rd_T57 l0 x20_1).f2⟩ : S57));(case aB => exact (by repeat (first|(with_reducible first|exact HB.out|apply lA|apply lN|apply lD|refine lS ?_ GE166.out|refine lS ?_ GE171.out)|exact HB.out)));(case aF => exact (fun k_ hk => ⟨(.inr (Nat.le_trans (by first|exact HK.out.1|exact (show Kept w _ (fun k_ => P0_ k_) from by repeat (first|(with_reducible first|exact HK.out|apply Kept.alloc|apply Kept.drewN|apply Kept.drew|refine Kept.setCell ?_ (.inr GW166.out) _|refine Kept.setCell ?_ (.inr GW171.out) _)|exact HK.out)).1) hk)),Kd.fresh' (rT (rZ HO_0.out)) k_ hk,Kd.fresh' (rT (rZ HO_18.out)) k_ hk,Kd.freshB (g:=gb166) (o:=.cells #[.string a1_0,.string a1_1,.string a1_2] 57 (0,0)) (by (with_reducible repeat (first|refine bN ?_ _|refine bD ?_|refine bA ?_ _));exact BK166.out) k_ hk,Kd.freshB (g:=gb171) (o:=.cells #[.string ((rd_T57 l0 x20_1).f0),.string ((rd_T57 l0 x20_1).f1),.string ((rd_T57 l0 x20_1).f2)] 57 (0,0)) (by (with_reducible repeat (first|refine bN ?_ _|refine bD ?_|refine bA ?_ _));exact BK171.out) k_ hk⟩));(case aO => exact (by (with_reducible repeat (first|apply rA|apply rN|apply rD));exact Kd.R_mono HO_9.out (fun _ hk => ⟨hk.1.1,⟨hk.1.2.1,⟨hk.1.2.2.1,⟨hk.1.2.2.2,hk.2⟩⟩⟩⟩)));(case aS => exact (lZ (by repeat (first|(with_reducible first|exact HB.out|apply lA|apply lN|apply lD|refine lS ?_ GE166.out|refine lS ?_ GE171.out)|exact HB.out))));(case aL => have:=LMc17.out;omega);intro v174 w24 ho hb hg hat;rw [← Ny173.out] at ho;have n0_:=aM (Kd.R_after (ok:=(fun k_ => (P0_ k_ ∨ w.heap.size ≤ k_) ∧ k_ ≠ gb166 ∧ k_ ≠ gb171)) (by (with_reducible repeat (first|apply rA|apply rN|apply rD));exact Kd.R_mono HO_0.out (fun _ hk => ⟨⟨hk.1.1,⟨hk.1.2.2,hk.2⟩⟩,hk.1.2.1⟩)) hg hat);have n1_:=aM (Kd.R_after (ok:=(fun k_ => (P0_ k_ ∨ w.heap.size ≤ k_) ∧ k_ ≠ gb166 ∧ k_ ≠ gb171)) (by (with_reducible repeat (first|apply rA|apply rN|apply rD));exact Kd.R_mono HO_18.out (fun _ hk => ⟨⟨hk.1.1,⟨hk.1.2.2,hk.2⟩⟩,hk.1.2.1⟩)) hg hat);have n2_:=aM (blk_grown (g:=gb166) (o:=.cells #[.string a1_0,.string a1_1,.string a1_2] 57 (0,0)) (by (with_reducible repeat (first|refine bN ?_ _|refine bD ?_|refine bA ?_ _));exact BK166.out) hg (Kd.R_away HO_9.out (fun _ hk => hk.1.2.2.2)));have n3_:=aM (blk_grown (g:=gb171) (o:=.cells #[.string ((rd_T57 l0 x20_1).f0),.string ((rd_T57 l0 x20_1).f1),.string ((rd_T57 l0 x20_1).f2)] 57 (0,0)) (by (with_reducible repeat (first|refine bN ?_ _|refine bD ?_|refine bA ?_ _));exact BK171.out) hg (Kd.R_away HO_9.out (fun _ hk => hk.2)));have n4_:=aM (hb);have n5_:=aM (Kept.of_grown (S:=(fun k_ => P0_ k_)) hg (by repeat (first|(with_reducible first|exact HK.out|apply Kept.alloc|apply Kept.drewN|apply Kept.drew|refine Kept.setCell ?_ (.inr GW166.out) _|refine Kept.setCell ?_ (.inr GW171.out) _)|exact HK.out)) (fun k_ e_ => (HO_9.out.1 k_ e_).1.1));have n6_:=aM (ho);clear HO_0 HO_18 BK166 BK171 HB HK HO_9;have HO_0:=n0_;have HO_18:=n1_;have BK166:=n2_;have BK171:=n3_;have HB:=n4_;have HK:=n5_;have HO175:=n6_;clear n0_ n1_ n2_ n3_ n4_ n5_ n6_ ho hb hg hat))
          go_roundg k1
          case measure => have:=HK1.out;omega
          case rel => exact ⟨(y173),(wrap64 (x20_1 + 1)),(by first|rfl|(simp;done)|(simp [*];done)),H',⟨by have:=HK1.out;omega⟩,⟨by (with_reducible repeat (first|apply rA|apply rN|apply rD));exact Kd.R_mono HO_0.out (fun _ hk => ⟨hk.1.1,⟨hk.2,hk.1.2.1⟩⟩)⟩,⟨by (with_reducible repeat (first|apply rA|apply rN|apply rD));exact Kd.R_mono HO175.out (fun _ hk => ⟨hk.1,⟨hk.2.1,⟨hk.2.2.1,hk.2.2.2.1⟩⟩⟩)⟩,⟨by (with_reducible repeat (first|apply rA|apply rN|apply rD));exact Kd.R_mono HO_18.out (fun _ hk => ⟨hk.1.1,⟨hk.2,hk.1.2.1⟩⟩)⟩,⟨by (with_reducible repeat (first|refine bN ?_ _|refine bD ?_|refine bA ?_ _));exact BK166.out⟩,⟨by repeat (first|(with_reducible first|exact HK.out|apply Kept.alloc|apply Kept.drewN|apply Kept.drew|refine Kept.setCell ?_ (.inr GW166.out) _|refine Kept.setCell ?_ (.inr GW171.out) _)|exact HK.out)⟩,⟨by repeat (first|(with_reducible first|exact HB.out|apply lA|apply lN|apply lD|refine lS ?_ GE166.out|refine lS ?_ GE171.out)|exact HB.out)⟩⟩
         ·rw [if_neg c17] at H
          exact absurd H (by simp)
        ·rw [if_neg c16] at H
         have c16b0 : decide (t172 < 0) = false:=decide_eq_false c16
         clear c16
         have H':=aM H
         clear H
         have p170 : 0 ≤ (x20_1 : Int):=of_decide_eq_true (by first|(with_reducible assumption)|assumption)
         have q170 : x20_1 < (l0.length : Int):=of_decide_eq_true (by first|(with_reducible assumption)|assumption)
         obtain ⟨ad170,e170,hx170_0,hx170_1,hx170_2⟩:=at_T57 (rR HO_18.out).2.2 x20_1 p170 q170
         cases e170
         replace p170:=eq_true p170
         replace q170:=eq_true q170
         go_wp2_with (first|((with_reducible refine gate_dst (N:=11) rfl ?_);refine box_event ?hg (N:=11) ?hd (cs:=#[.string (⟨#[]⟩ : ByteArray),.string (⟨#[]⟩ : ByteArray),.string (⟨#[]⟩ : ByteArray)]) (t:=57) ?hr ?_;(case hd => rfl);(case hg => rfl);(case hr => first|(go_simp;done)|(go_simp;rfl));intro gb171 hg w25 hbox hb;have n0_:=aM (rB (Kd.R_elderB (rZ HO_0.out) gb171 (Nat.le_of_eq hg.symm)) hb);have n1_:=aM (rB (Kd.R_elderB (rZ HO_9.out) gb171 (Nat.le_of_eq hg.symm)) hb);have n2_:=aM (rB (Kd.R_elderB (rZ HO_18.out) gb171 (Nat.le_of_eq hg.symm)) hb);have n3_:=aM (bH BK166.out hb);have n4_:=aM (Kept.below (S:=(fun k_ => P0_ k_)) (by repeat (first|(with_reducible first|exact HK.out|apply Kept.alloc|apply Kept.drewN|apply Kept.drew|refine Kept.setCell ?_ (.inr GW166.out) _)|exact HK.out)) hb);have n5_:=aM (lQ HB.out hb);have n6_:=aM (hbox);have n7_:=aM ((by rw [hg];exact (by first|exact HK.out.1|exact (show Kept w _ (fun k_ => P0_ k_) from by repeat (first|(with_reducible first|exact HK.out|apply Kept.alloc|apply Kept.drewN|apply Kept.drew|refine Kept.setCell ?_ (.inr GW166.out) _)|exact HK.out)).1) : w.heap.size ≤ gb171));have n8_:=aM ((sQ hg HB.out : w0.heap.size ≤ gb171));have n9_:=aM ((nL hg BK166.out : gb166 ≠ gb171));have n10_:=aM ((nG hg BK166.out : gb171 ≠ gb166));clear HO_0 HO_9 HO_18 BK166 HK HB;have HO_0:=n0_;have HO_9:=n1_;have HO_18:=n2_;have BK166:=n3_;have HK:=n4_;have HB:=n5_;have BK171:=n6_;have GW171:=n7_;have GE171:=n8_;have NB166_171:=n9_;have NB171_166:=n10_;clear n0_ n1_ n2_ n3_ n4_ n5_ n6_ n7_ n8_ n9_ n10_ hb hbox hg;have hnb26:=NB171_166.out;have hnc26:=NB166_171.out;obtain ⟨⟨hcz27_0,hcz27_1,hcz27_2⟩,hfz27_0,hfz27_1,hfz27_2⟩:=bC3 BK171.out;obtain ⟨⟨hcz28_0,hcz28_1,hcz28_2⟩,hfz28_0,hfz28_1,hfz28_2⟩:=bC3 BK166.out)|(go_at_call 70;(with_reducible refine (impl_byKey.calls ((rd_T57 l0 x20_1).f0) ((rd_T57 l0 x20_1).f1) ((rd_T57 l0 x20_1).f2) a1_0 a1_1 a1_2 t172 _ A15.out).mono ?_);rintro e w29 ⟨rfl,hb⟩;have n0_:=aM (rB (by (with_reducible repeat (first|apply rA|apply rN|apply rD));exact (Kd.R_mono (rF (rF (rF (Kd.R_mono HO_0.out (fun k_ hk => (⟨hk,hk.2⟩ : _ ∧ k_ ≠ gb171))) (fun _ hk => hk.2) _) (fun _ hk => hk.2) _) (fun _ hk => hk.2) _) (fun _ h_ => h_.1))) hb);have n1_:=aM (rB (by (with_reducible repeat (first|apply rA|apply rN|apply rD));exact (Kd.R_mono (rF (rF (rF (Kd.R_mono HO_9.out (fun k_ hk => (⟨hk,hk.2⟩ : _ ∧ k_ ≠ gb171))) (fun _ hk => hk.2) _) (fun _ hk => hk.2) _) (fun _ hk => hk.2) _) (fun _ h_ => h_.1))) hb);have n2_:=aM (rB (by (with_reducible repeat (first|apply rA|apply rN|apply rD));exact (Kd.R_mono (rF (rF (rF (Kd.R_mono HO_18.out (fun k_ hk => (⟨hk,hk.2⟩ : _ ∧ k_ ≠ gb171))) (fun _ hk => hk.2) _) (fun _ hk => hk.2) _) (fun _ hk => hk.2) _) (fun _ h_ => h_.1))) hb);have n3_:=aM (bB (g:=gb166) (o:=.cells #[.string a1_0,.string a1_1,.string a1_2] 57 (0,0)) (by (with_reducible repeat (first|refine bN ?_ _|refine bD ?_|refine bA ?_ _));refine blk_far ?_ NB166_171.out _;(with_reducible repeat (first|refine bN ?_ _|refine bD ?_|refine bA ?_ _));refine blk_far ?_ NB166_171.out _;(with_reducible repeat (first|refine bN ?_ _|refine bD ?_|refine bA ?_ _));refine blk_far ?_ NB166_171.out _;(with_reducible repeat (first|refine bN ?_ _|refine bD ?_|refine bA ?_ _));exact BK166.out) hb);have n4_:=aM (bB (g:=gb171) (o:=.cells #[.string ((rd_T57 l0 x20_1).f0),.string ((rd_T57 l0 x20_1).f1),.string ((rd_T57 l0 x20_1).f2)] 57 (0,0)) (by (with_reducible repeat (first|refine bN ?_ _|refine bD ?_|refine bA ?_ _));refine blk_put (cs:=#[.string ((rd_T57 l0 x20_1).f0),.string ((rd_T57 l0 x20_1).f1),.string (⟨#[]⟩ : ByteArray)]) ?_ 2 _ rfl;(with_reducible repeat (first|refine bN ?_ _|refine bD ?_|refine bA ?_ _));refine blk_put (cs:=#[.string ((rd_T57 l0 x20_1).f0),.string (⟨#[]⟩ : ByteArray),.string (⟨#[]⟩ : ByteArray)]) ?_ 1 _ rfl;(with_reducible repeat (first|refine bN ?_ _|refine bD ?_|refine bA ?_ _));refine blk_put (cs:=#[.string (⟨#[]⟩ : ByteArray),.string (⟨#[]⟩ : ByteArray),.string (⟨#[]⟩ : ByteArray)]) ?_ 0 _ rfl;(with_reducible repeat (first|refine bN ?_ _|refine bD ?_|refine bA ?_ _));exact BK171.out) hb);have n5_:=aM (Kept.below (S:=(fun k_ => P0_ k_)) (by repeat (first|(with_reducible first|exact HK.out|apply Kept.alloc|apply Kept.drewN|apply Kept.drew|refine Kept.setCell ?_ (.inr GW166.out) _|refine Kept.setCell ?_ (.inr GW171.out) _)|exact HK.out)) hb);have n6_:=aM (lQ HB.out hb);clear HO_0 HO_9 HO_18 BK166 BK171 HK HB;have HO_0:=n0_;have HO_9:=n1_;have HO_18:=n2_;have BK166:=n3_;have BK171:=n4_;have HK:=n5_;have HB:=n6_;clear n0_ n1_ n2_ n3_ n4_ n5_ n6_;(try clear hb);(try clear hb2);(try clear hk);(try clear hi)))
         go_roundg k1
         case measure => have:=HK1.out;omega
         case rel => exact ⟨(x9_1),(wrap64 (x20_1 + 1)),(by first|rfl|(simp;done)|(simp [*];done)),H',⟨by have:=HK1.out;omega⟩,⟨by (with_reducible repeat (first|apply rA|apply rN|apply rD));exact Kd.R_mono HO_0.out (fun _ hk => ⟨hk.1.1,⟨hk.1.2.1,hk.1.2.2⟩⟩)⟩,⟨by (with_reducible repeat (first|apply rA|apply rN|apply rD));exact Kd.R_mono HO_9.out (fun _ hk => ⟨hk.1.1,⟨hk.1.2.1,⟨hk.1.2.2.1,hk.1.2.2.2⟩⟩⟩)⟩,⟨by (with_reducible repeat (first|apply rA|apply rN|apply rD));exact Kd.R_mono HO_18.out (fun _ hk => ⟨hk.1.1,⟨hk.1.2.1,hk.1.2.2⟩⟩)⟩,⟨by (with_reducible repeat (first|refine bN ?_ _|refine bD ?_|refine bA ?_ _));exact BK166.out⟩,⟨by repeat (first|(with_reducible first|exact HK.out|apply Kept.alloc|apply Kept.drewN|apply Kept.drew|refine Kept.setCell ?_ (.inr GW166.out) _|refine Kept.setCell ?_ (.inr GW171.out) _)|exact HK.out)⟩,⟨by repeat (first|(with_reducible first|exact HB.out|apply lA|apply lN|apply lD|refine lS ?_ GE166.out|refine lS ?_ GE171.out)|exact HB.out)⟩⟩
       ·rw [if_neg c14] at H
        exact absurd H (by simp)
      ·rw [if_neg c13] at H
       exact absurd H (by simp)
     ·rw [if_neg c12] at H
      have c12b0 : decide (x20_1 < (l0.length : Int)) = false:=decide_eq_false c12
      clear c12
      by_cases c30 : x9_1.length < 2932031007402
      ·rw [if_pos c30] at H
       have LMc30:=aM c30
       clear c30
       obtain ⟨y176,hy176⟩ : ∃ y_ : List (S57),y_ = (x9_1 ++ [(⟨a1_0,a1_1,a1_2⟩ : S57)]):=⟨_,rfl⟩
       replace H : (impl_Cell.l1 k1 l0 a3 y176 l0 (l0.length : Int) 0 a1_0 a1_1 a1_2) = some r:=by first|(rw [hy176];with_reducible exact H)|(have H2_:=(Option.bind_some _ _).symm.trans H;rw [hy176];with_reducible exact H2_)|(have H2_:=(Option.bind_some _ _).symm.trans H;with_reducible exact H2_)|with_reducible exact H|(rw [hy176];exact H)|exact H
       have Ny176:=aM hy176
       clear hy176
       have H':=aM H
       clear H
       obtain ⟨⟨hcz31_0,hcz31_1,hcz31_2⟩,hfz31_0,hfz31_1,hfz31_2⟩:=bC3 BK166.out
       go_wp2_with (first|((with_reducible refine gate_builtin (b:=.append) (xs:=#[.tmp 34,.tmp 36]) rfl ?_);at_builtin;refine Kd.R_append k57 (w0:=w0) w0.heap.size rfl (.tmp 34) (.tmp 36) 36 57 (.agg #[(.string ⟨#[]⟩),(.string ⟨#[]⟩),(.string ⟨#[]⟩)]) 48 rfl Try.underlying36 info57 rfl (by decide) (by omega) u9 x9_1 (⟨a1_0,a1_1,a1_2⟩ : S57) [.string a1_0,.string a1_1,.string a1_2] (fun k_ => (P0_ k_ ∨ w.heap.size ≤ k_) ∧ some k_ ≠ (.slice Ao9 l0.length co9 : Value).ownBlock ∧ some k_ ≠ (.slice Ao9 l0.length co9 : Value).ownBlock ∧ k_ ≠ gb166) (fun _ => False) rfl rfl ?aP (fun _ hk => hk.elim) ?aF ?aO ?aB ?aS ?aL ?_;(case aP => exact k57_mkM _ _ _ (⟨a1_0,a1_1,a1_2⟩ : S57));(case aB => exact (by repeat (first|(with_reducible first|exact HB.out|apply lA|apply lN|apply lD|refine lS ?_ GE166.out)|exact HB.out)));(case aF => exact (fun k_ hk => ⟨(.inr (Nat.le_trans (by first|exact HK.out.1|exact (show Kept w _ (fun k_ => P0_ k_) from by repeat (first|(with_reducible first|exact HK.out|apply Kept.alloc|apply Kept.drewN|apply Kept.drew|refine Kept.setCell ?_ (.inr GW166.out) _)|exact HK.out)).1) hk)),Kd.fresh' (rT (rZ HO_0.out)) k_ hk,Kd.fresh' (rT (rZ HO_18.out)) k_ hk,Kd.freshB (g:=gb166) (o:=.cells #[.string a1_0,.string a1_1,.string a1_2] 57 (0,0)) (by (with_reducible repeat (first|refine bN ?_ _|refine bD ?_|refine bA ?_ _));exact BK166.out) k_ hk⟩));(case aO => exact (rZ HO_9.out));(case aS => exact (lZ (by repeat (first|(with_reducible first|exact HB.out|apply lA|apply lN|apply lD|refine lS ?_ GE166.out)|exact HB.out))));(case aL => have:=LMc30.out;omega);intro v177 w32 ho hb hg hat;rw [← Ny176.out] at ho;have n0_:=aM (Kd.R_after (ok:=(fun k_ => (P0_ k_ ∨ w.heap.size ≤ k_) ∧ k_ ≠ gb166)) (by (with_reducible repeat (first|apply rA|apply rN|apply rD));exact Kd.R_mono HO_0.out (fun _ hk => ⟨⟨hk.1,hk.2.2⟩,hk.2.1⟩)) hg hat);have n1_:=aM (Kd.R_after (ok:=(fun k_ => (P0_ k_ ∨ w.heap.size ≤ k_) ∧ k_ ≠ gb166)) (by (with_reducible repeat (first|apply rA|apply rN|apply rD));exact Kd.R_mono HO_18.out (fun _ hk => ⟨⟨hk.1,hk.2.2⟩,hk.2.1⟩)) hg hat);have n2_:=aM (blk_grown (g:=gb166) (o:=.cells #[.string a1_0,.string a1_1,.string a1_2] 57 (0,0)) (by (with_reducible repeat (first|refine bN ?_ _|refine bD ?_|refine bA ?_ _));exact BK166.out) hg (Kd.R_away HO_9.out (fun _ hk => hk.2.2.2)));have n3_:=aM (hb);have n4_:=aM (Kept.of_grown (S:=(fun k_ => P0_ k_)) hg (by repeat (first|(with_reducible first|exact HK.out|apply Kept.alloc|apply Kept.drewN|apply Kept.drew|refine Kept.setCell ?_ (.inr GW166.out) _)|exact HK.out)) (fun k_ e_ => (HO_9.out.1 k_ e_).1));have n5_:=aM (ho);clear HO_0 HO_18 BK166 HB HK HO_9;have HO_0:=n0_;have HO_18:=n1_;have BK166:=n2_;have HB:=n3_;have HK:=n4_;have HO178:=n5_;clear n0_ n1_ n2_ n3_ n4_ n5_ ho hb hg hat))
       go_loopg [9,40] k1 (fun kq v9 v40 w' => ∃ (x9_2 : List (S57)) (x40_2 : Int),v40 = .int .i64 x40_2 ∧ Aside0 (impl_Cell.l1 kq l0 a3 x9_2 l0 (l0.length : Int) x40_2 a1_0 a1_1 a1_2 = some r) ∧ Aside0 (kq ≤ k1) ∧ Aside0 (Kd.R k57 57 w' w0.heap.size (fun k_ => (P0_ k_ ∨ w.heap.size ≤ k_) ∧ some k_ ≠ (v9 : Value).ownBlock ∧ k_ ≠ gb166) (.slice Ao9 l0.length co9) l0) ∧ Aside0 (Kd.R k57 57 w' w0.heap.size (fun k_ => (P0_ k_ ∨ w.heap.size ≤ k_) ∧ some k_ ≠ ((.slice Ao9 l0.length co9) : Value).ownBlock ∧ some k_ ≠ ((.slice Ao9 l0.length co9) : Value).ownBlock ∧ k_ ≠ gb166) v9 x9_2) ∧ Aside0 (Kd.R k57 57 w' w0.heap.size (fun k_ => (P0_ k_ ∨ w.heap.size ≤ k_) ∧ some k_ ≠ (v9 : Value).ownBlock ∧ k_ ≠ gb166) (.slice Ao9 l0.length co9) l0) ∧ Aside0 (w'.heap[gb166]? = some (.cells #[.string a1_0,.string a1_1,.string a1_2] 57 (0,0))) ∧ Aside0 (Kept w w' (fun k_ => P0_ k_)) ∧ Aside0 (Below w0.heap.size w0 w'))
       case atStart => exact ⟨(y176),(0),(by first|rfl|(simp;done)|(simp [*];done)),H',⟨Nat.le_refl _⟩,⟨by (with_reducible repeat (first|apply rA|apply rN|apply rD));exact Kd.R_mono HO_0.out (fun _ hk => ⟨hk.1.1,⟨hk.2,hk.1.2⟩⟩)⟩,⟨by (with_reducible repeat (first|apply rA|apply rN|apply rD));exact Kd.R_mono HO178.out (fun _ hk => ⟨hk.1,⟨hk.2.1,⟨hk.2.1,hk.2.2.2⟩⟩⟩)⟩,⟨by (with_reducible repeat (first|apply rA|apply rN|apply rD));exact Kd.R_mono HO_0.out (fun _ hk => ⟨hk.1.1,⟨hk.2,hk.1.2⟩⟩)⟩,⟨by (with_reducible repeat (first|refine bN ?_ _|refine bD ?_|refine bA ?_ _));exact BK166.out⟩,⟨by repeat (first|(with_reducible first|exact HK.out|apply Kept.alloc|apply Kept.drewN|apply Kept.drew|refine Kept.setCell ?_ (.inr GW166.out) _)|exact HK.out)⟩,⟨by repeat (first|(with_reducible first|exact HB.out|apply lA|apply lN|apply lD|refine lS ?_ GE166.out)|exact HB.out)⟩⟩
       case round =>
        clear H'
        try clear c1
        try clear p1
        try clear q1
        try clear hx1
        try clear c2
        try clear p2
        try clear c3
        try clear c6
        try clear c6b0
        try clear c6b1
        try clear p6
        try clear c7
        try clear c7b0
        try clear c7b1
        try clear c8
        try clear c12
        try clear c12b0
        try clear c13
        try clear c13b0
        try clear c14
        try clear c14b0
        try clear c16
        try clear c16b0
        try clear c17
        try clear p17
        try clear q17
        try clear hx17
        try clear c19
        try clear c26
        try clear c30
        try clear hcz20_0
        try clear hcz20_1
        try clear hcz20_2
        try clear hcz21_0
        try clear hcz21_1
        try clear hcz21_2
        try clear hcz23_0
        try clear hcz23_1
        try clear hcz23_2
        try clear hcz27_0
        try clear hcz27_1
        try clear hcz27_2
        try clear hcz28_0
        try clear hcz28_1
        try clear hcz28_2
        try clear hcz31_0
        try clear hcz31_1
        try clear hcz31_2
        try clear hx170_0
        try clear hx170_1
        try clear hx170_2
        try clear p170
        try clear p2
        try clear p6
        try clear q170
        obtain ⟨x9_2,x40_2,rfl,HA,HK2,HO_0,HO_9,HO_38,BK166,HK,HB⟩:=hrel
        cases gk with
        |zero => exact absurd HA.out (by simp [impl_Cell.l1])
        |succ k2 =>
         have H:=HA.out
         clear HA
         simp only [impl_Cell.l1] at H
         by_cases c33 : x40_2 < (l0.length : Int)
         ·rw [if_pos c33] at H
          have c33b0 : decide (x40_2 < (l0.length : Int)) = true:=decide_eq_true c33
          clear c33
          by_cases c34 : 0 ≤ x40_2
          ·rw [if_pos c34] at H
           have c34b0 : decide (0 ≤ x40_2) = true:=decide_eq_true c34
           clear c34
           by_cases c35 : x40_2 < (l0.length : Int)
           ·rw [if_pos c35] at H
            have c35b0 : decide (x40_2 < (l0.length : Int)) = true:=decide_eq_true c35
            clear c35
            replace H:=Option.bind_eq_some_iff.mp H
            obtain ⟨t181,A360,H⟩:=H
            replace H : (if t181 > 0 then (if x9_2.length < 2932031007402 then (impl_Cell.l1 k2 l0 a3 (x9_2 ++ [(⟨(rd_T57 l0 x40_2).f0,(rd_T57 l0 x40_2).f1,(rd_T57 l0 x40_2).f2⟩ : S57)]) l0 (l0.length : Int) (wrap64 (x40_2 + 1)) a1_0 a1_1 a1_2) else (none)) else (impl_Cell.l1 k2 l0 a3 x9_2 l0 (l0.length : Int) (wrap64 (x40_2 + 1)) a1_0 a1_1 a1_2)) = some r:=H
            have A36:=aM A360
            clear A360
            by_cases c37 : t181 > 0
            ·rw [if_pos c37] at H
             have c37b0 : decide (0 < t181) = true:=decide_eq_true c37
             clear c37
             by_cases c38 : x9_2.length < 2932031007402
             ·rw [if_pos c38] at H
              have LMc38:=aM c38
              clear c38
              obtain ⟨y182,hy182⟩ : ∃ y_ : List (S57),y_ = (x9_2 ++ [(⟨(rd_T57 l0 x40_2).f0,(rd_T57 l0 x40_2).f1,(rd_T57 l0 x40_2).f2⟩ : S57)]):=⟨_,rfl⟩
              replace H : (impl_Cell.l1 k2 l0 a3 y182 l0 (l0.length : Int) (wrap64 (x40_2 + 1)) a1_0 a1_1 a1_2) = some r:=by first|(rw [hy182];with_reducible exact H)|(have H2_:=(Option.bind_some _ _).symm.trans H;rw [hy182];with_reducible exact H2_)|(have H2_:=(Option.bind_some _ _).symm.trans H;with_reducible exact H2_)|with_reducible exact H|(rw [hy182];exact H)|exact H
              have Ny182:=aM hy182
              clear hy182
              have H':=aM H
              clear H
              have p179 : 0 ≤ (x40_2 : Int):=of_decide_eq_true (by first|(with_reducible assumption)|assumption)
              have q179 : x40_2 < (l0.length : Int):=of_decide_eq_true (by first|(with_reducible assumption)|assumption)
              obtain ⟨ad179,e179,hx179_0,hx179_1,hx179_2⟩:=at_T57 (rR HO_38.out).2.2 x40_2 p179 q179
              cases e179
              replace p179:=eq_true p179
              replace q179:=eq_true q179
              go_wp2_with (first|((with_reducible refine gate_dst (N:=13) rfl ?_);refine box_event ?hg (N:=13) ?hd (cs:=#[.string (⟨#[]⟩ : ByteArray),.string (⟨#[]⟩ : ByteArray),.string (⟨#[]⟩ : ByteArray)]) (t:=57) ?hr ?_;(case hd => rfl);(case hg => rfl);(case hr => first|(go_simp;done)|(go_simp;rfl));intro gb180 hg w39 hbox hb;have n0_:=aM (rB (Kd.R_elderB (rZ HO_0.out) gb180 (Nat.le_of_eq hg.symm)) hb);have n1_:=aM (rB (Kd.R_elderB (rZ HO_9.out) gb180 (Nat.le_of_eq hg.symm)) hb);have n2_:=aM (rB (Kd.R_elderB (rZ HO_38.out) gb180 (Nat.le_of_eq hg.symm)) hb);have n3_:=aM (bH BK166.out hb);have n4_:=aM (Kept.below (S:=(fun k_ => P0_ k_)) (by repeat (first|(with_reducible first|exact HK.out|apply Kept.alloc|apply Kept.drewN|apply Kept.drew|refine Kept.setCell ?_ (.inr GW166.out) _)|exact HK.out)) hb);have n5_:=aM (lQ HB.out hb);have n6_:=aM (hbox);have n7_:=aM ((by rw [hg];exact (by first|exact HK.out.1|exact (show Kept w _ (fun k_ => P0_ k_) from by repeat (first|(with_reducible first|exact HK.out|apply Kept.alloc|apply Kept.drewN|apply Kept.drew|refine Kept.setCell ?_ (.inr GW166.out) _)|exact HK.out)).1) : w.heap.size ≤ gb180));have n8_:=aM ((sQ hg HB.out : w0.heap.size ≤ gb180));have n9_:=aM ((nL hg BK166.out : gb166 ≠ gb180));have n10_:=aM ((nG hg BK166.out : gb180 ≠ gb166));clear HO_0 HO_9 HO_38 BK166 HK HB;have HO_0:=n0_;have HO_9:=n1_;have HO_38:=n2_;have BK166:=n3_;have HK:=n4_;have HB:=n5_;have BK180:=n6_;have GW180:=n7_;have GE180:=n8_;have NB166_180:=n9_;have NB180_166:=n10_;clear n0_ n1_ n2_ n3_ n4_ n5_ n6_ n7_ n8_ n9_ n10_ hb hbox hg;have hnb40:=NB180_166.out;have hnc40:=NB166_180.out;obtain ⟨⟨hcz41_0,hcz41_1,hcz41_2⟩,hfz41_0,hfz41_1,hfz41_2⟩:=bC3 BK180.out;obtain ⟨⟨hcz42_0,hcz42_1,hcz42_2⟩,hfz42_0,hfz42_1,hfz42_2⟩:=bC3 BK166.out)|(go_at_call 70;(with_reducible refine (impl_byKey.calls ((rd_T57 l0 x40_2).f0) ((rd_T57 l0 x40_2).f1) ((rd_T57 l0 x40_2).f2) a1_0 a1_1 a1_2 t181 _ A36.out).mono ?_);rintro e w43 ⟨rfl,hb⟩;have n0_:=aM (rB (by (with_reducible repeat (first|apply rA|apply rN|apply rD));exact (Kd.R_mono (rF (rF (rF (Kd.R_mono HO_0.out (fun k_ hk => (⟨hk,hk.2⟩ : _ ∧ k_ ≠ gb180))) (fun _ hk => hk.2) _) (fun _ hk => hk.2) _) (fun _ hk => hk.2) _) (fun _ h_ => h_.1))) hb);have n1_:=aM (rB (by (with_reducible repeat (first|apply rA|apply rN|apply rD));exact (Kd.R_mono (rF (rF (rF (Kd.R_mono HO_9.out (fun k_ hk => (⟨hk,hk.2⟩ : _ ∧ k_ ≠ gb180))) (fun _ hk => hk.2) _) (fun _ hk => hk.2) _) (fun _ hk => hk.2) _) (fun _ h_ => h_.1))) hb);have n2_:=aM (rB (by (with_reducible repeat (first|apply rA|apply rN|apply rD));exact (Kd.R_mono (rF (rF (rF (Kd.R_mono HO_38.out (fun k_ hk => (⟨hk,hk.2⟩ : _ ∧ k_ ≠ gb180))) (fun _ hk => hk.2) _) (fun _ hk => hk.2) _) (fun _ hk => hk.2) _) (fun _ h_ => h_.1))) hb);have n3_:=aM (bB (g:=gb166) (o:=.cells #[.string a1_0,.string a1_1,.string a1_2] 57 (0,0)) (by (with_reducible repeat (first|refine bN ?_ _|refine bD ?_|refine bA ?_ _));refine blk_far ?_ NB166_180.out _;(with_reducible repeat (first|refine bN ?_ _|refine bD ?_|refine bA ?_ _));refine blk_far ?_ NB166_180.out _;(with_reducible repeat (first|refine bN ?_ _|refine bD ?_|refine bA ?_ _));refine blk_far ?_ NB166_180.out _;(with_reducible repeat (first|refine bN ?_ _|refine bD ?_|refine bA ?_ _));exact BK166.out) hb);have n4_:=aM (bB (g:=gb180) (o:=.cells #[.string ((rd_T57 l0 x40_2).f0),.string ((rd_T57 l0 x40_2).f1),.string ((rd_T57 l0 x40_2).f2)] 57 (0,0)) (by (with_reducible repeat (first|refine bN ?_ _|refine bD ?_|refine bA ?_ _));refine blk_put (cs:=#[.string ((rd_T57 l0 x40_2).f0),.string ((rd_T57 l0 x40_2).f1),.string (⟨#[]⟩ : ByteArray)]) ?_ 2 _ rfl;(with_reducible repeat (first|refine bN ?_ _|refine bD ?_|refine bA ?_ _));refine blk_put (cs:=#[.string ((rd_T57 l0 x40_2).f0),.string (⟨#[]⟩ : ByteArray),.string (⟨#[]⟩ : ByteArray)]) ?_ 1 _ rfl;(with_reducible repeat (first|refine bN ?_ _|refine bD ?_|refine bA ?_ _));refine blk_put (cs:=#[.string (⟨#[]⟩ : ByteArray),.string (⟨#[]⟩ : ByteArray),.string (⟨#[]⟩ : ByteArray)]) ?_ 0 _ rfl;(with_reducible repeat (first|refine bN ?_ _|refine bD ?_|refine bA ?_ _));exact BK180.out) hb);have n5_:=aM (Kept.below (S:=(fun k_ => P0_ k_)) (by repeat (first|(with_reducible first|exact HK.out|apply Kept.alloc|apply Kept.drewN|apply Kept.drew|refine Kept.setCell ?_ (.inr GW166.out) _|refine Kept.setCell ?_ (.inr GW180.out) _)|exact HK.out)) hb);have n6_:=aM (lQ HB.out hb);clear HO_0 HO_9 HO_38 BK166 BK180 HK HB;have HO_0:=n0_;have HO_9:=n1_;have HO_38:=n2_;have BK166:=n3_;have BK180:=n4_;have HK:=n5_;have HB:=n6_;clear n0_ n1_ n2_ n3_ n4_ n5_ n6_;(try clear hb);(try clear hb2);(try clear hk);(try clear hi);obtain ⟨⟨hcz44_0,hcz44_1,hcz44_2⟩,hfz44_0,hfz44_1,hfz44_2⟩:=bC3 BK180.out)|((with_reducible refine gate_builtin (b:=.append) (xs:=#[.tmp 49,.tmp 51]) rfl ?_);at_builtin;refine Kd.R_append k57 (w0:=w0) w0.heap.size rfl (.tmp 49) (.tmp 51) 36 57 (.agg #[(.string ⟨#[]⟩),(.string ⟨#[]⟩),(.string ⟨#[]⟩)]) 48 rfl Try.underlying36 info57 rfl (by decide) (by omega) u9 x9_2 (⟨(rd_T57 l0 x40_2).f0,(rd_T57 l0 x40_2).f1,(rd_T57 l0 x40_2).f2⟩ : S57) [.string ((rd_T57 l0 x40_2).f0),.string ((rd_T57 l0 x40_2).f1),.string ((rd_T57 l0 x40_2).f2)] (fun k_ => (P0_ k_ ∨ w.heap.size ≤ k_) ∧ some k_ ≠ (.slice (some ad179) l0.length co9 : Value).ownBlock ∧ some k_ ≠ (.slice (some ad179) l0.length co9 : Value).ownBlock ∧ k_ ≠ gb166 ∧ k_ ≠ gb180) (fun _ => False) rfl rfl ?aP (fun _ hk => hk.elim) ?aF ?aO ?aB ?aS ?aL ?_;(case aP => exact k57_mkM _ _ _ (⟨(rd_T57 l0 x40_2).f0,(rd_T57 l0 x40_2).f1,(rd_T57 l0 x40_2).f2⟩ : S57));(case aB => exact (by repeat (first|(with_reducible first|exact HB.out|apply lA|apply lN|apply lD|refine lS ?_ GE166.out|refine lS ?_ GE180.out)|exact HB.out)));(case aF => exact (fun k_ hk => ⟨(.inr (Nat.le_trans (by first|exact HK.out.1|exact (show Kept w _ (fun k_ => P0_ k_) from by repeat (first|(with_reducible first|exact HK.out|apply Kept.alloc|apply Kept.drewN|apply Kept.drew|refine Kept.setCell ?_ (.inr GW166.out) _|refine Kept.setCell ?_ (.inr GW180.out) _)|exact HK.out)).1) hk)),Kd.fresh' (rT (rZ HO_0.out)) k_ hk,Kd.fresh' (rT (rZ HO_38.out)) k_ hk,Kd.freshB (g:=gb166) (o:=.cells #[.string a1_0,.string a1_1,.string a1_2] 57 (0,0)) (by (with_reducible repeat (first|refine bN ?_ _|refine bD ?_|refine bA ?_ _));exact BK166.out) k_ hk,Kd.freshB (g:=gb180) (o:=.cells #[.string ((rd_T57 l0 x40_2).f0),.string ((rd_T57 l0 x40_2).f1),.string ((rd_T57 l0 x40_2).f2)] 57 (0,0)) (by (with_reducible repeat (first|refine bN ?_ _|refine bD ?_|refine bA ?_ _));exact BK180.out) k_ hk⟩));(case aO => exact (by (with_reducible repeat (first|apply rA|apply rN|apply rD));exact Kd.R_mono HO_9.out (fun _ hk => ⟨hk.1.1,⟨hk.1.2.1,⟨hk.1.2.2.1,⟨hk.1.2.2.2,hk.2⟩⟩⟩⟩)));(case aS => exact (lZ (by repeat (first|(with_reducible first|exact HB.out|apply lA|apply lN|apply lD|refine lS ?_ GE166.out|refine lS ?_ GE180.out)|exact HB.out))));(case aL => have:=LMc38.out;omega);intro v183 w45 ho hb hg hat;rw [← Ny182.out] at ho;have n0_:=aM (Kd.R_after (ok:=(fun k_ => (P0_ k_ ∨ w.heap.size ≤ k_) ∧ k_ ≠ gb166 ∧ k_ ≠ gb180)) (by (with_reducible repeat (first|apply rA|apply rN|apply rD));exact Kd.R_mono HO_0.out (fun _ hk => ⟨⟨hk.1.1,⟨hk.1.2.2,hk.2⟩⟩,hk.1.2.1⟩)) hg hat);have n1_:=aM (Kd.R_after (ok:=(fun k_ => (P0_ k_ ∨ w.heap.size ≤ k_) ∧ k_ ≠ gb166 ∧ k_ ≠ gb180)) (by (with_reducible repeat (first|apply rA|apply rN|apply rD));exact Kd.R_mono HO_38.out (fun _ hk => ⟨⟨hk.1.1,⟨hk.1.2.2,hk.2⟩⟩,hk.1.2.1⟩)) hg hat);have n2_:=aM (blk_grown (g:=gb166) (o:=.cells #[.string a1_0,.string a1_1,.string a1_2] 57 (0,0)) (by (with_reducible repeat (first|refine bN ?_ _|refine bD ?_|refine bA ?_ _));exact BK166.out) hg (Kd.R_away HO_9.out (fun _ hk => hk.1.2.2.2)));have n3_:=aM (blk_grown (g:=gb180) (o:=.cells #[.string ((rd_T57 l0 x40_2).f0),.string ((rd_T57 l0 x40_2).f1),.string ((rd_T57 l0 x40_2).f2)] 57 (0,0)) (by (with_reducible repeat (first|refine bN ?_ _|refine bD ?_|refine bA ?_ _));exact BK180.out) hg (Kd.R_away HO_9.out (fun _ hk => hk.2)));have n4_:=aM (hb);have n5_:=aM (Kept.of_grown (S:=(fun k_ => P0_ k_)) hg (by repeat (first|(with_reducible first|exact HK.out|apply Kept.alloc|apply Kept.drewN|apply Kept.drew|refine Kept.setCell ?_ (.inr GW166.out) _|refine Kept.setCell ?_ (.inr GW180.out) _)|exact HK.out)) (fun k_ e_ => (HO_9.out.1 k_ e_).1.1));have n6_:=aM (ho);clear HO_0 HO_38 BK166 BK180 HB HK HO_9;have HO_0:=n0_;have HO_38:=n1_;have BK166:=n2_;have BK180:=n3_;have HB:=n4_;have HK:=n5_;have HO184:=n6_;clear n0_ n1_ n2_ n3_ n4_ n5_ n6_ ho hb hg hat))
              go_roundg k2
              case measure => have:=HK1.out;have:=HK2.out;omega
              case rel => exact ⟨(y182),(wrap64 (x40_2 + 1)),(by first|rfl|(simp;done)|(simp [*];done)),H',⟨by have:=HK1.out;have:=HK2.out;omega⟩,⟨by (with_reducible repeat (first|apply rA|apply rN|apply rD));exact Kd.R_mono HO_0.out (fun _ hk => ⟨hk.1.1,⟨hk.2,hk.1.2.1⟩⟩)⟩,⟨by (with_reducible repeat (first|apply rA|apply rN|apply rD));exact Kd.R_mono HO184.out (fun _ hk => ⟨hk.1,⟨hk.2.1,⟨hk.2.2.1,hk.2.2.2.1⟩⟩⟩)⟩,⟨by (with_reducible repeat (first|apply rA|apply rN|apply rD));exact Kd.R_mono HO_38.out (fun _ hk => ⟨hk.1.1,⟨hk.2,hk.1.2.1⟩⟩)⟩,⟨by (with_reducible repeat (first|refine bN ?_ _|refine bD ?_|refine bA ?_ _));exact BK166.out⟩,⟨by repeat (first|(with_reducible first|exact HK.out|apply Kept.alloc|apply Kept.drewN|apply Kept.drew|refine Kept.setCell ?_ (.inr GW166.out) _|refine Kept.setCell ?_ (.inr GW180.out) _)|exact HK.out)⟩,⟨by repeat (first|(with_reducible first|exact HB.out|apply lA|apply lN|apply lD|refine lS ?_ GE166.out|refine lS ?_ GE180.out)|exact HB.out)⟩⟩
             ·rw [if_neg c38] at H
              exact absurd H (by simp)
            ·rw [if_neg c37] at H
             have c37b0 : decide (0 < t181) = false:=decide_eq_false c37
             clear c37
             have H':=aM H
             clear H
             have p179 : 0 ≤ (x40_2 : Int):=of_decide_eq_true (by first|(with_reducible assumption)|assumption)
             have q179 : x40_2 < (l0.length : Int):=of_decide_eq_true (by first|(with_reducible assumption)|assumption)
             obtain ⟨ad179,e179,hx179_0,hx179_1,hx179_2⟩:=at_T57 (rR HO_38.out).2.2 x40_2 p179 q179
             cases e179
             replace p179:=eq_true p179
             replace q179:=eq_true q179
             go_wp2_with (first|((with_reducible refine gate_dst (N:=13) rfl ?_);refine box_event ?hg (N:=13) ?hd (cs:=#[.string (⟨#[]⟩ : ByteArray),.string (⟨#[]⟩ : ByteArray),.string (⟨#[]⟩ : ByteArray)]) (t:=57) ?hr ?_;(case hd => rfl);(case hg => rfl);(case hr => first|(go_simp;done)|(go_simp;rfl));intro gb180 hg w46 hbox hb;have n0_:=aM (rB (Kd.R_elderB (rZ HO_0.out) gb180 (Nat.le_of_eq hg.symm)) hb);have n1_:=aM (rB (Kd.R_elderB (rZ HO_9.out) gb180 (Nat.le_of_eq hg.symm)) hb);have n2_:=aM (rB (Kd.R_elderB (rZ HO_38.out) gb180 (Nat.le_of_eq hg.symm)) hb);have n3_:=aM (bH BK166.out hb);have n4_:=aM (Kept.below (S:=(fun k_ => P0_ k_)) (by repeat (first|(with_reducible first|exact HK.out|apply Kept.alloc|apply Kept.drewN|apply Kept.drew|refine Kept.setCell ?_ (.inr GW166.out) _)|exact HK.out)) hb);have n5_:=aM (lQ HB.out hb);have n6_:=aM (hbox);have n7_:=aM ((by rw [hg];exact (by first|exact HK.out.1|exact (show Kept w _ (fun k_ => P0_ k_) from by repeat (first|(with_reducible first|exact HK.out|apply Kept.alloc|apply Kept.drewN|apply Kept.drew|refine Kept.setCell ?_ (.inr GW166.out) _)|exact HK.out)).1) : w.heap.size ≤ gb180));have n8_:=aM ((sQ hg HB.out : w0.heap.size ≤ gb180));have n9_:=aM ((nL hg BK166.out : gb166 ≠ gb180));have n10_:=aM ((nG hg BK166.out : gb180 ≠ gb166));clear HO_0 HO_9 HO_38 BK166 HK HB;have HO_0:=n0_;have HO_9:=n1_;have HO_38:=n2_;have BK166:=n3_;have HK:=n4_;have HB:=n5_;have BK180:=n6_;have GW180:=n7_;have GE180:=n8_;have NB166_180:=n9_;have NB180_166:=n10_;clear n0_ n1_ n2_ n3_ n4_ n5_ n6_ n7_ n8_ n9_ n10_ hb hbox hg;have hnb47:=NB180_166.out;have hnc47:=NB166_180.out;obtain ⟨⟨hcz48_0,hcz48_1,hcz48_2⟩,hfz48_0,hfz48_1,hfz48_2⟩:=bC3 BK180.out;obtain ⟨⟨hcz49_0,hcz49_1,hcz49_2⟩,hfz49_0,hfz49_1,hfz49_2⟩:=bC3 BK166.out)|(go_at_call 70;(with_reducible refine (impl_byKey.calls ((rd_T57 l0 x40_2).f0) ((rd_T57 l0 x40_2).f1) ((rd_T57 l0 x40_2).f2) a1_0 a1_1 a1_2 t181 _ A36.out).mono ?_);rintro e w50 ⟨rfl,hb⟩;have n0_:=aM (rB (by (with_reducible repeat (first|apply rA|apply rN|apply rD));exact (Kd.R_mono (rF (rF (rF (Kd.R_mono HO_0.out (fun k_ hk => (⟨hk,hk.2⟩ : _ ∧ k_ ≠ gb180))) (fun _ hk => hk.2) _) (fun _ hk => hk.2) _) (fun _ hk => hk.2) _) (fun _ h_ => h_.1))) hb);have n1_:=aM (rB (by (with_reducible repeat (first|apply rA|apply rN|apply rD));exact (Kd.R_mono (rF (rF (rF (Kd.R_mono HO_9.out (fun k_ hk => (⟨hk,hk.2⟩ : _ ∧ k_ ≠ gb180))) (fun _ hk => hk.2) _) (fun _ hk => hk.2) _) (fun _ hk => hk.2) _) (fun _ h_ => h_.1))) hb);have n2_:=aM (rB (by (with_reducible repeat (first|apply rA|apply rN|apply rD));exact (Kd.R_mono (rF (rF (rF (Kd.R_mono HO_38.out (fun k_ hk => (⟨hk,hk.2⟩ : _ ∧ k_ ≠ gb180))) (fun _ hk => hk.2) _) (fun _ hk => hk.2) _) (fun _ hk => hk.2) _) (fun _ h_ => h_.1))) hb);have n3_:=aM (bB (g:=gb166) (o:=.cells #[.string a1_0,.string a1_1,.string a1_2] 57 (0,0)) (by (with_reducible repeat (first|refine bN ?_ _|refine bD ?_|refine bA ?_ _));refine blk_far ?_ NB166_180.out _;(with_reducible repeat (first|refine bN ?_ _|refine bD ?_|refine bA ?_ _));refine blk_far ?_ NB166_180.out _;(with_reducible repeat (first|refine bN ?_ _|refine bD ?_|refine bA ?_ _));refine blk_far ?_ NB166_180.out _;(with_reducible repeat (first|refine bN ?_ _|refine bD ?_|refine bA ?_ _));exact BK166.out) hb);have n4_:=aM (bB (g:=gb180) (o:=.cells #[.string ((rd_T57 l0 x40_2).f0),.string ((rd_T57 l0 x40_2).f1),.string ((rd_T57 l0 x40_2).f2)] 57 (0,0)) (by (with_reducible repeat (first|refine bN ?_ _|refine bD ?_|refine bA ?_ _));refine blk_put (cs:=#[.string ((rd_T57 l0 x40_2).f0),.string ((rd_T57 l0 x40_2).f1),.string (⟨#[]⟩ : ByteArray)]) ?_ 2 _ rfl;(with_reducible repeat (first|refine bN ?_ _|refine bD ?_|refine bA ?_ _));refine blk_put (cs:=#[.string ((rd_T57 l0 x40_2).f0),.string (⟨#[]⟩ : ByteArray),.string (⟨#[]⟩ : ByteArray)]) ?_ 1 _ rfl;(with_reducible repeat (first|refine bN ?_ _|refine bD ?_|refine bA ?_ _));refine blk_put (cs:=#[.string (⟨#[]⟩ : ByteArray),.string (⟨#[]⟩ : ByteArray),.string (⟨#[]⟩ : ByteArray)]) ?_ 0 _ rfl;(with_reducible repeat (first|refine bN ?_ _|refine bD ?_|refine bA ?_ _));exact BK180.out) hb);have n5_:=aM (Kept.below (S:=(fun k_ => P0_ k_)) (by repeat (first|(with_reducible first|exact HK.out|apply Kept.alloc|apply Kept.drewN|apply Kept.drew|refine Kept.setCell ?_ (.inr GW166.out) _|refine Kept.setCell ?_ (.inr GW180.out) _)|exact HK.out)) hb);have n6_:=aM (lQ HB.out hb);clear HO_0 HO_9 HO_38 BK166 BK180 HK HB;have HO_0:=n0_;have HO_9:=n1_;have HO_38:=n2_;have BK166:=n3_;have BK180:=n4_;have HK:=n5_;have HB:=n6_;clear n0_ n1_ n2_ n3_ n4_ n5_ n6_;(try clear hb);(try clear hb2);(try clear hk);(try clear hi)))
             go_roundg k2
             case measure => have:=HK1.out;have:=HK2.out;omega
             case rel => exact ⟨(x9_2),(wrap64 (x40_2 + 1)),(by first|rfl|(simp;done)|(simp [*];done)),H',⟨by have:=HK1.out;have:=HK2.out;omega⟩,⟨by (with_reducible repeat (first|apply rA|apply rN|apply rD));exact Kd.R_mono HO_0.out (fun _ hk => ⟨hk.1.1,⟨hk.1.2.1,hk.1.2.2⟩⟩)⟩,⟨by (with_reducible repeat (first|apply rA|apply rN|apply rD));exact Kd.R_mono HO_9.out (fun _ hk => ⟨hk.1.1,⟨hk.1.2.1,⟨hk.1.2.2.1,hk.1.2.2.2⟩⟩⟩)⟩,⟨by (with_reducible repeat (first|apply rA|apply rN|apply rD));exact Kd.R_mono HO_38.out (fun _ hk => ⟨hk.1.1,⟨hk.1.2.1,hk.1.2.2⟩⟩)⟩,⟨by (with_reducible repeat (first|refine bN ?_ _|refine bD ?_|refine bA ?_ _));exact BK166.out⟩,⟨by repeat (first|(with_reducible first|exact HK.out|apply Kept.alloc|apply Kept.drewN|apply Kept.drew|refine Kept.setCell ?_ (.inr GW166.out) _|refine Kept.setCell ?_ (.inr GW180.out) _)|exact HK.out)⟩,⟨by repeat (first|(with_reducible first|exact HB.out|apply lA|apply lN|apply lD|refine lS ?_ GE166.out|refine lS ?_ GE180.out)|exact HB.out)⟩⟩
           ·rw [if_neg c35] at H
            exact absurd H (by simp)
          ·rw [if_neg c34] at H
           exact absurd H (by simp)
         ·rw [if_neg c33] at H
          have c33b0 : decide (x40_2 < (l0.length : Int)) = false:=decide_eq_false c33
          clear c33
          by_cases c51 : (x9_2.length : Int) > a3
          ·rw [if_pos c51] at H
           have c51b0 : decide (a3 < (x9_2.length : Int)) = true:=decide_eq_true c51
           clear c51
           obtain rfl:=Option.some.inj H
           obtain ⟨Ao52,co52,eo52⟩:=Kd.R_slice HO_9.out
           subst eo52
           go_wp2
           go_ret
           exact ⟨_,by first|rfl|(simp [errW_none,errW_some] <;> rfl)|(simp only [← hji5];first|rfl|(simp [errW_none,errW_some] <;> rfl))|(simp [*,errW_none,errW_some] <;> rfl),by (with_reducible repeat (first|apply rA|apply rN|apply rD));exact Kd.R_mono HO_0.out (fun _ hk => hk.1),by repeat (first|(with_reducible first|exact HB.out|apply lA|apply lN|apply lD|refine lS ?_ GE166.out)|exact HB.out),by repeat (first|(with_reducible first|exact HK.out|apply Kept.alloc|apply Kept.drewN|apply Kept.drew|refine Kept.setCell ?_ (.inr GW166.out) _)|exact HK.out)⟩
          ·rw [if_neg c51] at H
           have c51b0 : decide (a3 < (x9_2.length : Int)) = false:=decide_eq_false c51
           clear c51
           obtain rfl:=Option.some.inj H
           obtain ⟨Ao53,co53,eo53⟩:=Kd.R_slice HO_9.out
           subst eo53
           go_wp2
           go_ret
           exact ⟨_,by first|rfl|(simp [errW_none,errW_some] <;> rfl)|(simp only [← hji5];first|rfl|(simp [errW_none,errW_some] <;> rfl))|(simp [*,errW_none,errW_some] <;> rfl),by (with_reducible repeat (first|apply rA|apply rN|apply rD));exact Kd.R_mono HO_9.out (fun _ hk => hk.1),by repeat (first|(with_reducible first|exact HB.out|apply lA|apply lN|apply lD|refine lS ?_ GE166.out)|exact HB.out),by repeat (first|(with_reducible first|exact HK.out|apply Kept.alloc|apply Kept.drewN|apply Kept.drew|refine Kept.setCell ?_ (.inr GW166.out) _)|exact HK.out)⟩
      ·rw [if_neg c30] at H
       exact absurd H (by simp)
  ·rw [if_neg c7] at H
   exact absurd H (by simp)
 ·rw [if_neg c6] at H
  exact absurd H (by simp)

/-! ### impl_SetCell: function 31 -/
theorem impl_SetCell_apart {α β : Type} {d1 : Kd α} {d2 : Kd β} {e1 e2 : TypeId} {w : World} {b1 b2 : Nat} {ok1 ok2 : Nat → Prop} {v1 v2 : Value} {xs1 : List α} {xs2 : List β} (h1 : d1.R e1 w b1 ok1 v1 xs1) (h2 : d2.R e2 w b2 ok2 v2 xs2) (he : e2 ≠ e1) (k : Nat) (hk1 : some k = v1.ownBlock) : ¬ some k = v2.ownBlock:=by
 obtain ⟨_,inner,ho,_⟩:=h1
 obtain ⟨cells,hc⟩:=own_typed ho k hk1.symm
 exact Kd.R_ne h2 hc he
theorem impl_SetCell_old {α : Type} {d : Kd α} {e : TypeId} {w : World} {b : Nat} {ok : Nat → Prop} {v : Value} {xs : List α} (h : d.R e w b ok v xs) (k : Nat) (hk : some k = v.ownBlock) : k < w.heap.size:=by
 obtain ⟨inner,ho⟩:=Kd.R_own h
 exact own_lt ho k hk.symm
set_option maxHeartbeats 8000000 in
set_option maxRecDepth 100000 in
theorem impl_SetCell_set (k : Nat) (g : Nat) (u0 : Value) (A1 : Option Addr) (c1 : Nat) (l1 : List S57) (o : ByteArray) (a1 a2 a3 : ByteArray) (x y : ByteArray) (r : List S57) (w0 w : World) (hB : Below w0.heap.size w0 w) (hg : w0.heap.size ≤ g) (hb : w.heap[g]? = some (.cells #[u0,.slice A1 l1.length c1,.string o] 38 (0,0))) (ho : Kd.R k57 57 w w0.heap.size (fun _ => True) (.slice A1 l1.length c1) l1) (hx : impl_Cut.f a2 = some x) (hy : impl_Cut.f a3 = some y) (h : impl_Cell.f k l1 a1 x y true 2000 = some r) :
  Calls Try.prog 65 #[.pointer (some ⟨g,0,none⟩),.string a1,.string a2,.string a3] w fun e w' => e = .returned (.tuple #[]) ∧ ∃ u1 : Value,w'.heap[g]? = some (.cells #[u0,u1,.string o] 38 (0,0)) ∧ Kd.R k57 57 w' w0.heap.size (fun _ => True) u1 r ∧ Below w0.heap.size w0 w' ∧ Kept w w' (fun k => k = g ∨ some k = (Value.slice A1 l1.length c1).ownBlock):=by
 have hu38:=Try.underlying38
 have hu57:=Try.underlying57
 have Ax:=aM hx
 have Ay:=aM hy
 have AH:=aM h
 have BK0:=aM hb
 have HO:=aM (Kd.R_tight rfl ho)
 have HB:=aM hB
 have HG:=aM hg
 have HK:=aM (Kept.refl w (fun k => k = g ∨ some k = (Value.slice A1 l1.length c1).ownBlock))
 clear hB hb ho h hx hy
 have hczw_0 : w.cell? ⟨g,0,none⟩ = some (u0):=(bC BK0.out 0).trans rfl
 have hczw_1 : w.cell? ⟨g,1,none⟩ = some (.slice A1 l1.length c1):=(bC BK0.out 1).trans rfl
 have hczw_2 : w.cell? ⟨g,2,none⟩ = some (.string o):=(bC BK0.out 2).trans rfl
 have hfzw_0:=bF BK0.out 0
 have hfzw_1:=bF BK0.out 1
 have hfzw_2:=bF BK0.out 2
 go_enter Try.func65,Try.ntmps65
 go_wp2_with (first|((with_reducible refine gate_callee (f:=42) rfl ?_);refine goesL_ (some 11) rfl rfl Try.func42 (by kernel_rfl) rfl #[.string a2] rfl (by (try simp only [List.map_toArray,List.map_cons,List.map_nil]);first|done|rfl) ?_;(with_reducible refine (impl_Cut.calls a2 x _ Ax.out).mono ?_);rintro e w4 ⟨rfl,hb⟩;refine ⟨_,rfl,?_⟩;have n0_:=aM (lP (by repeat (first|exact HB.out|apply lA|apply lN|apply lD)) hb);have n1_:=aM (bB (g:=g) (o:=.cells #[u0,.slice A1 l1.length c1,.string o] 38 (0,0)) (by (with_reducible repeat (first|refine bN ?_ _|refine bD ?_|refine bA ?_ _));exact BK0.out) hb);have n2_:=aM (rB (rZ HO.out) hb);have n3_:=aM (Kept.below (by (with_reducible repeat (first|apply Kept.drewN|apply Kept.drew));exact HK.out) hb);clear HB BK0 HO HK;have HB:=n0_;have BK0:=n1_;have HO:=n2_;have HK:=n3_;clear n0_ n1_ n2_ n3_ hb;have hczw4_0 : w4.cell? ⟨g,0,none⟩ = some (u0):=(bC BK0.out 0).trans rfl;have hczw4_1 : w4.cell? ⟨g,1,none⟩ = some (.slice A1 l1.length c1):=(bC BK0.out 1).trans rfl;have hczw4_2 : w4.cell? ⟨g,2,none⟩ = some (.string o):=(bC BK0.out 2).trans rfl;have hfzw4_0:=bF BK0.out 0;have hfzw4_1:=bF BK0.out 1;have hfzw4_2:=bF BK0.out 2)|((with_reducible refine gate_callee (f:=42) rfl ?_);refine goesL_ (some 13) rfl rfl Try.func42 (by kernel_rfl) rfl #[.string a3] rfl (by (try simp only [List.map_toArray,List.map_cons,List.map_nil]);first|done|rfl) ?_;(with_reducible refine (impl_Cut.calls a3 y _ Ay.out).mono ?_);rintro e w5 ⟨rfl,hb⟩;refine ⟨_,rfl,?_⟩;have n0_:=aM (lP (by repeat (first|exact HB.out|apply lA|apply lN|apply lD)) hb);have n1_:=aM (bB (g:=g) (o:=.cells #[u0,.slice A1 l1.length c1,.string o] 38 (0,0)) (by (with_reducible repeat (first|refine bN ?_ _|refine bD ?_|refine bA ?_ _));exact BK0.out) hb);have n2_:=aM (rB (rZ HO.out) hb);have n3_:=aM (Kept.below (by (with_reducible repeat (first|apply Kept.drewN|apply Kept.drew));exact HK.out) hb);clear HB BK0 HO HK;have HB:=n0_;have BK0:=n1_;have HO:=n2_;have HK:=n3_;clear n0_ n1_ n2_ n3_ hb;have hczw5_0 : w5.cell? ⟨g,0,none⟩ = some (u0):=(bC BK0.out 0).trans rfl;have hczw5_1 : w5.cell? ⟨g,1,none⟩ = some (.slice A1 l1.length c1):=(bC BK0.out 1).trans rfl;have hczw5_2 : w5.cell? ⟨g,2,none⟩ = some (.string o):=(bC BK0.out 2).trans rfl;have hfzw5_0:=bF BK0.out 0;have hfzw5_1:=bF BK0.out 1;have hfzw5_2:=bF BK0.out 2)|((with_reducible refine gate_dst (N:=8) rfl ?_);refine box_event ?hg (N:=8) ?hd (cs:=#[.string (⟨#[]⟩ : ByteArray),.string (⟨#[]⟩ : ByteArray),.string (⟨#[]⟩ : ByteArray)]) (t:=57) ?hr ?_;(case hd => rfl);(case hg => rfl);(case hr => first|(go_simp;done)|(go_simp;rfl));intro gb hgb w7 hbox hb;have n0_:=aM (lP (by repeat (first|exact HB.out|apply lA|apply lN|apply lD)) hb);have n1_:=aM (bB (g:=g) (o:=.cells #[u0,.slice A1 l1.length c1,.string o] 38 (0,0)) (by (with_reducible repeat (first|refine bN ?_ _|refine bD ?_|refine bA ?_ _));exact BK0.out) hb);have n2_:=aM (rB (rZ HO.out) hb);have n3_:=aM (Kept.below (by (with_reducible repeat (first|apply Kept.drewN|apply Kept.drew));exact HK.out) hb);have n4_:=aM hbox;have n5_:=aM ((by rw [hgb];exact (lZ (by repeat (first|exact HB.out|apply lA|apply lN|apply lD)))) : w0.heap.size ≤ gb);have n6_:=aM ((by rw [hgb];exact Nat.ne_of_lt (bL (g:=g) (o:=.cells #[u0,.slice A1 l1.length c1,.string o] 38 (0,0)) (by (with_reducible repeat (first|refine bN ?_ _|refine bD ?_|refine bA ?_ _));exact BK0.out))) : g ≠ gb);have n7_:=aM ((by rw [hgb];exact (HK.out).1) : w.heap.size ≤ gb);have n8_:=aM ((fun k hk => by rw [hgb];exact Nat.ne_of_lt (impl_SetCell_old HO.out k hk)) : ∀ k,some k = (Value.slice A1 l1.length c1).ownBlock → k ≠ gb);clear HB BK0 HO HK;have HB:=n0_;have BK0:=n1_;have HO:=n2_;have HK:=n3_;clear n0_ n1_ n2_ n3_;have BK1:=n4_;have GE1:=n5_;have NB1:=n6_;have GK1:=n7_;have NO1:=n8_;clear n4_ n5_ n6_ n7_ n8_ hb hbox hgb;have hnb1:=NB1.out;have hnc1:=NB1.out.symm;have hczw7_0 : w7.cell? ⟨g,0,none⟩ = some (u0):=(bC BK0.out 0).trans rfl;have hczw7_1 : w7.cell? ⟨g,1,none⟩ = some (.slice A1 l1.length c1):=(bC BK0.out 1).trans rfl;have hczw7_2 : w7.cell? ⟨g,2,none⟩ = some (.string o):=(bC BK0.out 2).trans rfl;have hfzw7_0:=bF BK0.out 0;have hfzw7_1:=bF BK0.out 1;have hfzw7_2:=bF BK0.out 2;have hcy_0 : w7.cell? ⟨gb,0,none⟩ = some (.string (⟨#[]⟩ : ByteArray)):=(bC BK1.out 0).trans rfl;have hcy_1 : w7.cell? ⟨gb,1,none⟩ = some (.string (⟨#[]⟩ : ByteArray)):=(bC BK1.out 1).trans rfl;have hcy_2 : w7.cell? ⟨gb,2,none⟩ = some (.string (⟨#[]⟩ : ByteArray)):=(bC BK1.out 2).trans rfl;have hfy_0:=bF BK1.out 0;have hfy_1:=bF BK1.out 1;have hfy_2:=bF BK1.out 2))
 have n0_:=aM ((by repeat (first|exact HB.out|apply lA|apply lN|apply lD|refine lS ?_ GE1.out)) : Below w0.heap.size w0 ((((w7.setCell ⟨gb,0,none⟩ (.string a1)).setCell ⟨gb,1,none⟩ (.string x)).setCell ⟨gb,2,none⟩ (.string y))).drew)
 have n1_:=aM ((by (with_reducible repeat (first|refine bN ?_ _|refine bD ?_|refine bA ?_ _));refine blk_far ?_ NB1.out _;refine blk_far ?_ NB1.out _;refine blk_far ?_ NB1.out _;(with_reducible repeat (first|refine bN ?_ _|refine bD ?_|refine bA ?_ _));exact BK0.out) : ((((w7.setCell ⟨gb,0,none⟩ (.string a1)).setCell ⟨gb,1,none⟩ (.string x)).setCell ⟨gb,2,none⟩ (.string y))).drew.heap[g]? = some (.cells #[u0,.slice A1 l1.length c1,.string o] 38 (0,0)))
 have n2_:=aM ((by (with_reducible repeat (first|apply rA|apply rN|apply rD));exact rF (p:=⟨gb,2,none⟩) (rF (p:=⟨gb,1,none⟩) (rF (p:=⟨gb,0,none⟩) HO.out NO1.out _) NO1.out _) NO1.out _) : Kd.R k57 57 ((((w7.setCell ⟨gb,0,none⟩ (.string a1)).setCell ⟨gb,1,none⟩ (.string x)).setCell ⟨gb,2,none⟩ (.string y))).drew w0.heap.size (fun k => some k = (Value.slice A1 l1.length c1).ownBlock) (.slice A1 l1.length c1) l1)
 have n3_:=aM ((by (with_reducible repeat (first|apply Kept.drewN|apply Kept.drew));exact Kept.setCell (Kept.setCell (Kept.setCell HK.out (p:=⟨gb,0,none⟩) (.inr GK1.out) _) (p:=⟨gb,1,none⟩) (.inr GK1.out) _) (p:=⟨gb,2,none⟩) (.inr GK1.out) _) : Kept w ((((w7.setCell ⟨gb,0,none⟩ (.string a1)).setCell ⟨gb,1,none⟩ (.string x)).setCell ⟨gb,2,none⟩ (.string y))).drew (fun k => k = g ∨ some k = (Value.slice A1 l1.length c1).ownBlock))
 have n4_:=aM ((by (with_reducible repeat (first|refine bN ?_ _|refine bD ?_|refine bA ?_ _));refine blk_put (cs:=#[.string a1,.string x,.string (⟨#[]⟩ : ByteArray)]) ?_ 2 _ rfl;refine blk_put (cs:=#[.string a1,.string (⟨#[]⟩ : ByteArray),.string (⟨#[]⟩ : ByteArray)]) ?_ 1 _ rfl;refine blk_put (cs:=#[.string (⟨#[]⟩ : ByteArray),.string (⟨#[]⟩ : ByteArray),.string (⟨#[]⟩ : ByteArray)]) ?_ 0 _ rfl;exact BK1.out) : ((((w7.setCell ⟨gb,0,none⟩ (.string a1)).setCell ⟨gb,1,none⟩ (.string x)).setCell ⟨gb,2,none⟩ (.string y))).drew.heap[gb]? = some (.cells #[.string a1,.string x,.string y] 57 (0,0)))
 clear HB BK0 HO HK BK1
 have HB:=n0_
 have BK0:=n1_
 have HO:=n2_
 have HK:=n3_
 have BK1:=n4_
 clear n0_ n1_ n2_ n3_ n4_
 refine start_ (n:=10) (S:=fun w' => w'.cell? ⟨g,0,none⟩ = some (u0) ∧ w'.cell? ⟨g,1,none⟩ = some (.slice A1 l1.length c1) ∧ w'.cell? ⟨g,2,none⟩ = some (.string o) ∧ w'.cell? ⟨gb,0,none⟩ = some (.string a1) ∧ w'.cell? ⟨gb,1,none⟩ = some (.string x) ∧ w'.cell? ⟨gb,2,none⟩ = some (.string y)) (ds:=[6,9]) #[bf,bf,bf,bf,bf,bf,bf,bf,bf,bf] (by kernel_rfl) rfl rfl ⟨(bC BK0.out 0).trans rfl,(bC BK0.out 1).trans rfl,(bC BK0.out 2).trans rfl,(bC BK1.out 0).trans rfl,(bC BK1.out 1).trans rfl,(bC BK1.out 2).trans rfl⟩ (fun hHeld => ?_)
 generalize ((((w7.setCell ⟨gb,0,none⟩ (.string a1)).setCell ⟨gb,1,none⟩ (.string x)).setCell ⟨gb,2,none⟩ (.string y))).drew = w8 at HB BK0 HO HK BK1 hHeld ⊢
 refine pure_ (i:=0) (N:=some 15) (v:=?_) (a':=?_) #[bT,bf,bf,bf,bf,bf,bf,bf,bf,bf] rfl rfl (by kernel_rfl) (fun _ _ _ h => h) (Or.inl ⟨by rfl,?_⟩) ?_ ?_
 rotate_left
 ·intro w';go_simp;with_reducible rfl
 rotate_left
 ·simp only [Act.put,q_ia4,q_cz4,q_cs4,i64_w,i32_w];rfl
 refine pure_ (i:=1) (N:=some 16) (v:=?_) (a':=?_) #[bT,bT,bf,bf,bf,bf,bf,bf,bf,bf] rfl rfl (by kernel_rfl) (fun _ _ _ h => h) (Or.inl ⟨by rfl,?_⟩) ?_ ?_
 rotate_left
 ·intro w';go_simp;with_reducible rfl
 rotate_left
 ·simp only [Act.put,q_ia4,q_cz4,q_cs4,i64_w,i32_w];rfl
 refine pure_ (i:=2) (N:=some 17) (v:=?_) (a':=?_) #[bT,bT,bT,bf,bf,bf,bf,bf,bf,bf] rfl rfl (by kernel_rfl) (fun _ _ _ h => h) (Or.inl ⟨by rfl,?_⟩) ?_ ?_
 rotate_left
 ·intro w';go_simp;with_reducible rfl
 rotate_left
 ·simp only [Act.put,q_ia4,q_cz4,q_cs4,i64_w,i32_w];rfl
 refine pure_ (i:=3) (N:=some 18) (v:=?_) (a':=?_) #[bT,bT,bT,bT,bf,bf,bf,bf,bf,bf] rfl rfl (by kernel_rfl) (fun _ _ _ h => h) (Or.inl ⟨by rfl,?_⟩) ?_ ?_
 rotate_left
 ·intro w';go_simp;with_reducible rfl
 rotate_left
 ·simp only [Act.put,q_ia4,q_cz4,q_cs4,i64_w,i32_w];rfl
 refine take_ (i:=4) (N:=some 19) (v:=?_) (a':=?_) #[bT,bT,bT,bT,bT,bf,bf,bf,bf,bf] rfl rfl (by kernel_rfl) (fun _ _ _ h => h) (Or.inl ⟨by rfl,?_⟩) hHeld ?_ ?_
 rotate_left
 ·rintro w' ⟨s0,s1,s2,s3,s4,s5⟩
  go_simp
  with_reducible rfl
 rotate_left
 ·simp only [Act.put,q_ia4,q_cz4,q_cs4,i64_w,i32_w];rfl
 refine take_ (i:=5) (N:=some 20) (v:=?_) (a':=?_) #[bT,bT,bT,bT,bT,bT,bf,bf,bf,bf] rfl rfl (by kernel_rfl) (fun _ _ _ h => h) (Or.inl ⟨by rfl,?_⟩) hHeld ?_ ?_
 rotate_left
 ·rintro w' ⟨s0,s1,s2,s3,s4,s5⟩
  go_simp
  with_reducible rfl
 rotate_left
 ·simp only [Act.put,q_ia4,q_cz4,q_cs4,i64_w,i32_w];rfl
 refine last_ (i:=6) (N:=some 21) #[bT,bT,bT,bT,bT,bT,bT,bf,bf,bf] rfl rfl (by kernel_rfl) (by decide) (fun K hK => ?_)
 refine goes_ Try.func80 (by kernel_rfl) rfl #[.slice A1 l1.length c1,.agg #[.string a1,.string x,.string y],(.func (.func 70) #[] #[]),.int .i64 2000] (by rfl) rfl rfl (by (try simp only [List.map_toArray,List.map_cons,List.map_nil]);first|done|rfl) ?_
 refine (impl_Cell.calls k (fun k => some k = (Value.slice A1 l1.length c1).ownBlock) (.slice A1 l1.length c1) l1 a1 x y true 2000 r w0 _ HB.out HO.out AH.out).mono ?_
 rintro e w9 ⟨u9,rfl,ho9,hb9,hk9⟩
 refine ⟨_,rfl,?_⟩
 obtain ⟨A9,c9,e9⟩:=Kd.R_slice ho9
 subst e9
 have n1_:=aM (blk_kept BK0.out hk9 (fun hP => Kd.R_ne HO.out BK0.out (by decide) hP))
 have n3_:=aM (Kept.then_ HK.out hk9 (fun k hP => .inl (.inr hP)))
 have n2_:=aM ho9
 have n0_:=aM hb9
 clear hb9 hk9 ho9 hHeld
 clear HB BK0 HO HK
 have HB:=n0_
 have BK0:=n1_
 have HO:=n2_
 have HK:=n3_
 clear n0_ n1_ n2_ n3_
 refine hK.out _ _ ?_
 clear hK K
 refine norm_ (a':=?_) ?_ ?_
 rotate_left
 ·show Act.put _ (some 21) _ = _
  simp only [Act.put,q_ia4,q_cz4,q_cs4,i64_w,i32_w]
  rfl
 refine pure_ (i:=7) (N:=some 22) (v:=?_) (a':=?_) #[bT,bT,bT,bT,bT,bT,bT,bT,bf,bf] rfl rfl (by kernel_rfl) (fun _ _ _ h => h) (Or.inl ⟨by rfl,?_⟩) ?_ ?_
 rotate_left
 ·intro w';go_simp;with_reducible rfl
 rotate_left
 ·simp only [Act.put,q_ia4,q_cz4,q_cs4,i64_w,i32_w];rfl
 refine pure_ (i:=8) (N:=some 23) (v:=?_) (a':=?_) #[bT,bT,bT,bT,bT,bT,bT,bT,bT,bf] rfl rfl (by kernel_rfl) (fun _ _ _ h => h) (Or.inl ⟨by rfl,?_⟩) ?_ ?_
 rotate_left
 ·intro w';go_simp;with_reducible rfl
 rotate_left
 ·simp only [Act.put,q_ia4,q_cz4,q_cs4,i64_w,i32_w];rfl
 refine last_ (i:=9) (N:=none) #[bT,bT,bT,bT,bT,bT,bT,bT,bT,bT] rfl rfl (by kernel_rfl) (by decide) (fun K hK => ?_)
 have hs27 : w9.cell? ⟨g,1,none⟩ = some (.slice A1 l1.length c1):=(bC BK0.out 1).trans rfl
 have hfs27:=bF BK0.out 1
 refine skip_ (w1:=?_) (by rfl) rfl ?_ ?_
 rotate_left
 ·go_simp
  rfl
 refine hK.out _ _ ?_
 clear hK K
 refine done_ (by kernel_rfl) ?_
 try go_wp2
 first|go_end0|((try simp only [Exit.inBlock,Exit.then]);refine bodyPost_ret (results_none rfl _ _ _) rfl ?_)
 exact ⟨rfl,.slice A9 r.length c9,(by (with_reducible repeat (first|refine bN ?_ _|refine bD ?_|refine bA ?_ _));refine blk_put (cs:=#[u0,.slice A1 l1.length c1,.string o]) ?_ 1 _ rfl;(with_reducible repeat (first|refine bN ?_ _|refine bD ?_|refine bA ?_ _));exact BK0.out),(by (with_reducible repeat (first|apply rA|apply rN|apply rD));exact Kd.R_mono (rF (rY HO.out BK0.out (by decide)) (fun _ hk => hk.2) _) (fun _ _ => trivial)),(by repeat (first|exact HB.out|apply lA|apply lN|apply lD|refine lS ?_ HG.out)),(by (with_reducible repeat (first|apply Kept.drewN|apply Kept.drew));exact Kept.setCell HK.out (p:=⟨g,1,none⟩) (.inl (.inl rfl)) _)⟩
def impl_SetCell.f (k : Nat) (l0_0 : List S53) (l0_1 : List S57) (a0_2 : ByteArray) (a1 : ByteArray) (a2 : ByteArray) (a3 : ByteArray) : Option ((List (S53)) × (List (S57)) × ByteArray):=(impl_copyStore.f l0_0 l0_1 a0_2).bind fun bt => ((impl_Cut.f a2).bind fun x => ((impl_Cut.f a3).bind fun y => ((impl_Cell.f k bt.2.1 a1 x y true 2000).bind fun t => (some (bt.1,t,bt.2.2)))))
theorem impl_SetCell.mono : ∀ b0 b1 b2 b3 b4 b5 k,LeO (impl_SetCell.f k b0 b1 b2 b3 b4 b5) (impl_SetCell.f (k + 1) b0 b1 b2 b3 b4 b5):=by
 intro b0 b1 b2 b3 b4 b5 k
 unfold impl_SetCell.f
 refine LeO.bind (LeO.refl _) (fun _ => ?_)
 refine LeO.bind (LeO.refl _) (fun _ => ?_)
 refine LeO.bind (LeO.refl _) (fun _ => ?_)
 exact LeO.bind (impl_Cell.mono _ _ _ _ _ _ k) (fun _ => LeO.refl _)
set_option maxHeartbeats 8000000 in
set_option maxRecDepth 100000 in
theorem impl_SetCell.calls (k : Nat) (A0_0 : Option Addr) (c0_0 : Nat) (l0_0 : List (S53)) (A0_1 : Option Addr) (c0_1 : Nat) (l0_1 : List (S57)) (a0_2 : ByteArray) (a1 : ByteArray) (a2 : ByteArray) (a3 : ByteArray) (r1 : List (S53)) (r2 : List (S57)) (r3 : ByteArray) (w : World) (hr0_0 : Kd.C k53 w A0_0 l0_0.length l0_0) (hc0_0 : l0_0.length ≤ c0_0) (hr0_1 : Kd.C k57 w A0_1 l0_1.length l0_1) (hc0_1 : l0_1.length ≤ c0_1) (h : impl_SetCell.f k l0_0 l0_1 a0_2 a1 a2 a3 = some (r1,r2,r3)) :
  Calls Try.prog 31 #[.agg #[.slice A0_0 l0_0.length c0_0,.slice A0_1 l0_1.length c0_1,.string a0_2],.string a1,.string a2,.string a3] w fun e w' => ∃ v0_ v1_ : Value,e = .returned (.agg #[v0_,v1_,.string r3]) ∧ Kd.R k53 53 w' w.heap.size (fun _ => True) v0_ r1 ∧ Kd.R k57 57 w' w.heap.size (fun _ => True) v1_ r2 ∧ Below w.heap.size w w':=by
 have HR0_0:=aM hr0_0
 have HC0_0:=aM hc0_0
 clear hr0_0 hc0_0
 have HR0_1:=aM hr0_1
 have HC0_1:=aM hc0_1
 clear hr0_1 hc0_1
 have HB:=aM (Below.refl w.heap.size w)
 have H:=Option.bind_eq_some_iff.mp h
 clear h
 obtain ⟨⟨t1,t2,t3⟩,A30,H⟩:=H
 replace H:=Option.bind_eq_some_iff.mp H
 obtain ⟨x,Ax,H⟩:=H
 replace H:=Option.bind_eq_some_iff.mp H
 obtain ⟨y,Ay,H⟩:=H
 replace H:=Option.bind_eq_some_iff.mp H
 obtain ⟨t4,A40,H⟩:=H
 have A3:=aM A30
 have A4:=aM A40
 have AAx:=aM Ax
 have AAy:=aM Ay
 clear A30 A40 Ax Ay
 simp only [Option.some.injEq,Prod.mk.injEq] at H
 obtain ⟨rfl,rfl,rfl⟩:=H
 have hu38:=Try.underlying38
 go_enter Try.func31,Try.ntmps31
 go_wp2_with (first|((with_reducible refine gate_dst (N:=4) rfl ?_);refine box_event ?hg (N:=4) ?hd (cs:=#[.slice A0_0 l0_0.length c0_0,.slice A0_1 l0_1.length c0_1,.string a0_2]) (t:=38) ?hr ?_;(case hd => rfl);(case hg => rfl);(case hr => first|(go_simp;done)|(go_simp;rfl));intro gb10 hg w7 hbox hb;have n0_:=aM (lQ HB.out hb);have n1_:=aM hbox;have n2_:=aM ((by rw [hg];exact (lZ (by repeat (first|(with_reducible first|exact HB.out|apply lA|apply lN|apply lD)|exact HB.out)))) : w.heap.size ≤ gb10);clear HB;have HB:=n0_;have BK10:=n1_;have GE10:=n2_;clear n0_ n1_ n2_ hb hbox hg)|((with_reducible refine gate_dst (N:=8) rfl ?_);refine box_event ?hg (N:=8) ?hd (cs:=#[.slice none 0 0,.slice none 0 0,.string (⟨#[]⟩ : ByteArray)]) (t:=38) ?hr ?_;(case hd => rfl);(case hg => rfl);(case hr => first|(go_simp;done)|(go_simp;rfl));intro gb11 hg w8 hbox hb;have n0_:=aM (bH BK10.out hb);have n1_:=aM (lQ HB.out hb);have n2_:=aM hbox;have n3_:=aM ((by rw [hg];exact (lZ (by repeat (first|(with_reducible first|exact HB.out|apply lA|apply lN|apply lD|refine lS ?_ GE10.out)|exact HB.out)))) : w.heap.size ≤ gb11);have n5_:=aM ((by rw [hg];exact Nat.ne_of_lt (bL (g:=gb10) (o:=.cells #[.slice A0_0 l0_0.length c0_0,.slice A0_1 l0_1.length c0_1,.string a0_2] 38 (0,0)) (by (with_reducible repeat (first|refine bN ?_ _|refine bD ?_|refine bA ?_ _));exact BK10.out))) : gb10 ≠ gb11);clear BK10 HB;have BK10:=n0_;have HB:=n1_;have BK11:=n2_;have GE11:=n3_;have NB10_11:=n5_;clear n0_ n1_ n2_ n3_ n5_ hb hbox hg;have hnb9:=NB10_11.out;have hnc9:=NB10_11.out.symm;have hcz10_0 : w8.cell? ⟨gb10,0,none⟩ = some (.slice A0_0 l0_0.length c0_0):=(bC BK10.out 0).trans rfl;have hcz10_1 : w8.cell? ⟨gb10,1,none⟩ = some (.slice A0_1 l0_1.length c0_1):=(bC BK10.out 1).trans rfl;have hcz10_2 : w8.cell? ⟨gb10,2,none⟩ = some (.string a0_2):=(bC BK10.out 2).trans rfl;have hcz10f_0:=bF BK10.out 0;have hcz10f_1:=bF BK10.out 1;have hcz10f_2:=bF BK10.out 2)|((with_reducible refine gate_callee (f:=54) rfl ?_);refine goesL_ (some 11) rfl rfl Try.func54 (by kernel_rfl) rfl #[.agg #[.slice A0_0 l0_0.length c0_0,.slice A0_1 l0_1.length c0_1,.string a0_2]] rfl (by (try simp only [List.map_toArray,List.map_cons,List.map_nil]);first|done|rfl|(simp only [List.length_drop,List.length_take];rfl)) ?_;(with_reducible refine (impl_copyStore.calls _ _ l0_0 _ _ l0_1 a0_2 t1 t2 t3 _ ?side1 ?side2 ?side3 ?side4 A3.out).mono ?_);(case side1 => repeat (first|exact (cB HR0_0.out HB.out)|(with_reducible first|refine cA ?_ _|refine cN ?_ _|refine cD ?_)));(case side2 => exact HC0_0.out);(case side3 => repeat (first|exact (cB HR0_1.out HB.out)|(with_reducible first|refine cA ?_ _|refine cN ?_ _|refine cD ?_)));(case side4 => exact HC0_1.out);rintro e w11 ⟨v13,v16,rfl,ho0,ho1,hb⟩;refine ⟨_,rfl,?_⟩;obtain ⟨Ao1,co1,eo1⟩:=Kd.R_slice ho0;subst eo1;obtain ⟨Ao2,co2,eo2⟩:=Kd.R_slice ho1;subst eo2;have n0_:=aM (rL ho0 (lZ (by repeat (first|(with_reducible first|exact HB.out|apply lA|apply lN|apply lD|refine lS ?_ GE10.out|refine lS ?_ GE11.out)|exact HB.out))));have n1_:=aM (rL ho1 (lZ (by repeat (first|(with_reducible first|exact HB.out|apply lA|apply lN|apply lD|refine lS ?_ GE10.out|refine lS ?_ GE11.out)|exact HB.out))));have n2_:=aM (bH BK10.out hb);have n3_:=aM (bH BK11.out hb);have n4_:=aM (lQ HB.out hb);clear BK10 BK11 HB;have HO1:=n0_;have HO2:=n1_;have BK10:=n2_;have BK11:=n3_;have HB:=n4_;clear n0_ n1_ n2_ n3_ n4_ hb ho0 ho1)|((with_reducible refine gate_dst (N:=9) rfl ?_);refine box_event ?hg (N:=9) ?hd (cs:=#[.slice none 0 0,.slice none 0 0,.string (⟨#[]⟩ : ByteArray)]) (t:=38) ?hr ?_;(case hd => rfl);(case hg => rfl);(case hr => first|(go_simp;done)|(go_simp;rfl));intro gb19 hg w12 hbox hb;have SHG:=aM ((by rw [hg];exact Nat.le_refl _) : w11.heap.size ≤ gb19);have SHB:=aM ((by (with_reducible repeat (first|apply lN|apply lD));exact hb) : Below w11.heap.size w11 w12);have n5_:=aM hbox;have n8_:=aM ((by rw [hg];exact Nat.ne_of_lt (bL (g:=gb10) (o:=.cells #[.slice A0_0 l0_0.length c0_0,.slice A0_1 l0_1.length c0_1,.string a0_2] 38 (0,0)) (by (with_reducible repeat (first|refine bN ?_ _|refine bD ?_|refine bA ?_ _));exact BK10.out))) : gb10 ≠ gb19);have n10_:=aM ((by rw [hg];exact Nat.ne_of_lt (bL (g:=gb11) (o:=.cells #[.slice none 0 0,.slice none 0 0,.string (⟨#[]⟩ : ByteArray)] 38 (0,0)) (by (with_reducible repeat (first|refine bN ?_ _|refine bD ?_|refine bA ?_ _));exact BK11.out))) : gb11 ≠ gb19);have BK19:=n5_;have NB10_19:=n8_;have NB11_19:=n10_;clear n5_ n8_ n10_ hb hbox hg;have hnb14:=NB10_19.out;have hnc14:=NB10_19.out.symm;have hnb15:=NB11_19.out;have hnc15:=NB11_19.out.symm;have hcz16_0 : w12.cell? ⟨gb19,0,none⟩ = some (.slice none 0 0):=(bC BK19.out 0).trans rfl;have hcz16_1 : w12.cell? ⟨gb19,1,none⟩ = some (.slice none 0 0):=(bC BK19.out 1).trans rfl;have hcz16_2 : w12.cell? ⟨gb19,2,none⟩ = some (.string (⟨#[]⟩ : ByteArray)):=(bC BK19.out 2).trans rfl;have hcz16f_0:=bF BK19.out 0;have hcz16f_1:=bF BK19.out 1;have hcz16f_2:=bF BK19.out 2)|((with_reducible refine gate_callee (f:=65) rfl ?_);have hW1 : Kd.R k53 53 (((w12.setCell ⟨gb19,0,none⟩ (.slice Ao1 t1.length co1)).setCell ⟨gb19,1,none⟩ (.slice Ao2 t2.length co2)).setCell ⟨gb19,2,none⟩ (.string t3)) w.heap.size (fun _ => True) (.slice Ao1 t1.length co1) t1:=(by (with_reducible repeat (first|apply rA|apply rN|apply rD));exact Kd.R_mono (rF (rF (rF (rY (rB HO1.out SHB.out) BK19.out (by decide)) (fun _ hk => hk.2) _) (fun _ hk => hk.2) _) (fun _ hk => hk.2) _) (fun _ _ => trivial));have hW2 : Kd.R k57 57 (((w12.setCell ⟨gb19,0,none⟩ (.slice Ao1 t1.length co1)).setCell ⟨gb19,1,none⟩ (.slice Ao2 t2.length co2)).setCell ⟨gb19,2,none⟩ (.string t3)) w.heap.size (fun _ => True) (.slice Ao2 t2.length co2) t2:=(by (with_reducible repeat (first|apply rA|apply rN|apply rD));exact Kd.R_mono (rF (rF (rF (rY (rB HO2.out SHB.out) BK19.out (by decide)) (fun _ hk => hk.2) _) (fun _ hk => hk.2) _) (fun _ hk => hk.2) _) (fun _ _ => trivial));have hB11 : (((w12.setCell ⟨gb19,0,none⟩ (.slice Ao1 t1.length co1)).setCell ⟨gb19,1,none⟩ (.slice Ao2 t2.length co2)).setCell ⟨gb19,2,none⟩ (.string t3)).heap[gb11]? = some (.cells #[.slice none 0 0,.slice none 0 0,.string (⟨#[]⟩ : ByteArray)] 38 (0,0)):=(by (with_reducible repeat (first|refine bN ?_ _|refine bD ?_|refine bA ?_ _));refine blk_far ?_ NB11_19.out _;refine blk_far ?_ NB11_19.out _;refine blk_far ?_ NB11_19.out _;(with_reducible repeat (first|refine bN ?_ _|refine bD ?_|refine bA ?_ _));exact bB BK11.out SHB.out);have hB19 : (((w12.setCell ⟨gb19,0,none⟩ (.slice Ao1 t1.length co1)).setCell ⟨gb19,1,none⟩ (.slice Ao2 t2.length co2)).setCell ⟨gb19,2,none⟩ (.string t3)).heap[gb19]? = some (.cells #[.slice Ao1 t1.length co1,.slice Ao2 t2.length co2,.string t3] 38 (0,0)):=(by (with_reducible repeat (first|refine bN ?_ _|refine bD ?_|refine bA ?_ _));refine blk_put (cs:=#[.slice Ao1 t1.length co1,.slice Ao2 t2.length co2,.string (⟨#[]⟩ : ByteArray)]) ?_ 2 _ rfl;refine blk_put (cs:=#[.slice Ao1 t1.length co1,.slice none 0 0,.string (⟨#[]⟩ : ByteArray)]) ?_ 1 _ rfl;refine blk_put (cs:=#[.slice none 0 0,.slice none 0 0,.string (⟨#[]⟩ : ByteArray)]) ?_ 0 _ rfl;(with_reducible repeat (first|refine bN ?_ _|refine bD ?_|refine bA ?_ _));exact BK19.out);refine goesL_ (some 15) rfl rfl Try.func65 (by kernel_rfl) rfl #[.pointer (some ⟨gb19,0,none⟩),.string a1,.string a2,.string a3] rfl (by (try simp only [List.map_toArray,List.map_cons,List.map_nil]);first|done|rfl) ?_;refine (impl_SetCell_set k gb19 (.slice Ao1 t1.length co1) Ao2 co2 t2 t3 a1 a2 a3 x y t4 w _ ?side1 ?side2 hB19 hW2 AAx.out AAy.out A4.out).mono ?_;(case side1 => repeat (first|exact lP HB.out SHB.out|apply lA|apply lN|apply lD|refine lS ?_ (Nat.le_trans HB.out.size SHG.out)));(case side2 => exact Nat.le_trans HB.out.size SHG.out);rintro e w13 ⟨rfl,u9,hblk,ho9,hb9,hk9⟩;refine ⟨_,rfl,?_⟩;obtain ⟨A9,c9,e9⟩:=Kd.R_slice ho9;subst e9;have n3_:=aM (blk_kept hB11 hk9 (fun hP => hP.elim (fun e_ => NB11_19.out e_) (fun e_ => Kd.R_ne hW2 hB11 (by decide) e_)));have n0_:=aM (Kd.R_mono (ok':=fun _ => True) (Kd.R_kept (Kd.R_tight rfl hW1) hk9 (fun k_ hk_ h_ => h_.elim (fun e_ => Kd.R_ne hW1 hB19 (by decide) (e_ ▸ hk_)) (fun e_ => impl_SetCell_apart hW1 hW2 (by decide) k_ hk_ e_))) (fun _ _ => trivial));have n1_:=aM ho9;have n4_:=aM hb9;have n5_:=aM hblk;clear hblk hb9 hk9 ho9 hW1 hW2 hB11 hB19 BK10 BK11 BK19 HB HO1 HO2;have HO1:=n0_;have HO2:=n1_;have BK11:=n3_;have HB:=n4_;have BK19:=n5_;clear n0_ n1_ n3_ n4_ n5_;have hcz17_0 : w13.cell? ⟨gb19,0,none⟩ = some (.slice Ao1 t1.length co1):=(bC BK19.out 0).trans rfl;have hcz17_1 : w13.cell? ⟨gb19,1,none⟩ = some (.slice A9 t4.length c9):=(bC BK19.out 1).trans rfl;have hcz17_2 : w13.cell? ⟨gb19,2,none⟩ = some (.string t3):=(bC BK19.out 2).trans rfl;have hcz17f_0:=bF BK19.out 0;have hcz17f_1:=bF BK19.out 1;have hcz17f_2:=bF BK19.out 2;have hcz18_0 : w13.cell? ⟨gb11,0,none⟩ = some (.slice none 0 0):=(bC BK11.out 0).trans rfl;have hcz18_1 : w13.cell? ⟨gb11,1,none⟩ = some (.slice none 0 0):=(bC BK11.out 1).trans rfl;have hcz18_2 : w13.cell? ⟨gb11,2,none⟩ = some (.string (⟨#[]⟩ : ByteArray)):=(bC BK11.out 2).trans rfl;have hcz18f_0:=bF BK11.out 0;have hcz18f_1:=bF BK11.out 1;have hcz18f_2:=bF BK11.out 2))
 refine bodyPost_ret (results_cell_row rfl _ _ gb11 38 #[.slice Ao1 t1.length co1,.slice A9 t4.length c9,.string t3] (0,0) _ rfl (by (with_reducible repeat (first|refine bN ?_ _|refine bD ?_|refine bA ?_ _));refine blk_put (cs:=#[.slice Ao1 t1.length co1,.slice A9 t4.length c9,.string (⟨#[]⟩ : ByteArray)]) ?_ 2 _ rfl;refine blk_put (cs:=#[.slice Ao1 t1.length co1,.slice none 0 0,.string (⟨#[]⟩ : ByteArray)]) ?_ 1 _ rfl;refine blk_put (cs:=#[.slice none 0 0,.slice none 0 0,.string (⟨#[]⟩ : ByteArray)]) ?_ 0 _ rfl;(with_reducible repeat (first|refine bN ?_ _|refine bD ?_|refine bA ?_ _));exact BK11.out) Try.underlying38 rfl (by kernel_rfl)) rfl ?_
 exact ⟨_,_,rfl,(by (with_reducible repeat (first|apply rA|apply rN|apply rD));exact (Kd.R_mono (rF (rF (rF (rY HO1.out BK11.out (by decide)) (fun _ hk => hk.2) _) (fun _ hk => hk.2) _) (fun _ hk => hk.2) _) (fun _ hk => trivial))),(by (with_reducible repeat (first|apply rA|apply rN|apply rD));exact (Kd.R_mono (rF (rF (rF (rY HO2.out BK11.out (by decide)) (fun _ hk => hk.2) _) (fun _ hk => hk.2) _) (fun _ hk => hk.2) _) (fun _ hk => trivial))),(by repeat (first|(with_reducible first|exact HB.out|apply lA|apply lN|apply lD|refine lS ?_ GE10.out|refine lS ?_ GE11.out)|exact HB.out))⟩

/-- A state of type 88 at block g of W; what its slices lead to came in by w0. -/
def IsS88 (w0 W : World) (g : Nat) (f0 : List Int) (f1 : Int) (f2 : Int) : Prop:=∃ A0 c0,W.heap[g]? = some (.cells #[.slice A0 f0.length c0,.int .i64 f1,.int .i64 f2] 88 (0,0)) ∧ w0.heap.size ≤ g ∧ Kd.C (Kd.int .u8) w0 A0 f0.length f0
theorem IsS88.grown {w0 W : World} {g : Nat} {f0 : List Int} {f1 : Int} {f2 : Int} {W1 : World} {row : Option Nat} (h : IsS88 w0 W g f0 f1 f2) (hw : W.grownBy W1 row) (hne : some g ≠ row) : IsS88 w0 W1 g f0 f1 f2:=by
 obtain ⟨A0,c0,hb,hg,hr0⟩:=h
 exact ⟨A0,c0,blk_grown hb hw hne,hg,hr0⟩
theorem IsS88.own_neN {w0 W : World} {g : Nat} {f0 : List Int} {f1 : Int} {f2 : Int} {α : Type} {d : Kd α} {e : Nat} {base : Nat} {ok : Nat → Prop} {v : Value} {xs : List α} (h : IsS88 w0 W g f0 f1 f2) (ho : Kd.N d e W base ok v xs) (ht : e ≠ 88) : some g ≠ v.ownBlock:=by
 obtain ⟨A0,c0,hb,hg,hr0⟩:=h
 exact Kd.N_ne ho hb ht
theorem IsS88.fresh {w0 W : World} {g : Nat} {f0 : List Int} {f1 : Int} {f2 : Int} (h : IsS88 w0 W g f0 f1 f2) : ∀ k,W.heap.size ≤ k → k ≠ g:=by
 obtain ⟨A0,c0,hb,hg,hr0⟩:=h
 exact Kd.freshB hb
theorem IsS88.kept {w0 W : World} {g : Nat} {f0 : List Int} {f1 : Int} {f2 : Int} {W1 : World} {S : Nat → Prop} (h : IsS88 w0 W g f0 f1 f2) (hk : Kept W W1 S) (hne : ¬ S g) : IsS88 w0 W1 g f0 f1 f2:=by
 obtain ⟨A0,c0,hb,hg,hr0⟩:=h
 exact ⟨A0,c0,blk_kept hb hk hne,hg,hr0⟩
theorem IsS88.below {w0 W : World} {g : Nat} {f0 : List Int} {f1 : Int} {f2 : Int} {W1 : World} (h : IsS88 w0 W g f0 f1 f2) (hw : Below W.heap.size W W1) : IsS88 w0 W1 g f0 f1 f2:=h.grown (grown_of_below hw none) (by simp)
theorem IsS88.alloc {w0 W : World} {g : Nat} {f0 : List Int} {f1 : Int} {f2 : Int} (h : IsS88 w0 W g f0 f1 f2) (o : Obj) : IsS88 w0 (W.alloc o) g f0 f1 f2:=h.below (lA (Below.refl _ _) o)
theorem IsS88.drewN {w0 W : World} {g : Nat} {f0 : List Int} {f1 : Int} {f2 : Int} (h : IsS88 w0 W g f0 f1 f2) (m : Nat) : IsS88 w0 (W.drewN m) g f0 f1 f2:=h
theorem IsS88.drew {w0 W : World} {g : Nat} {f0 : List Int} {f1 : Int} {f2 : Int} (h : IsS88 w0 W g f0 f1 f2) : IsS88 w0 W.drew g f0 f1 f2:=h
theorem IsS88.at_ {w0 W : World} {g : Nat} {f0 : List Int} {f1 : Int} {f2 : Int} {w' : World} {m : Nat} (hq : W.drewN m = w') (h : IsS88 w0 W g f0 f1 f2) : IsS88 w0 w' g f0 f1 f2:=by subst hq;exact IsS88.drewN h m
theorem IsS88.apart {w0 W : World} {g : Nat} {f0 : List Int} {f1 : Int} {f2 : Int} {α : Type} {d : Kd α} {e : Nat} {base : Nat} {ok : Nat → Prop} {v : Value} {xs : List α} (h : IsS88 w0 W g f0 f1 f2) (ho : d.R e W base ok v xs) (ht : ∀ q,q ∈ e :: d.E → q ≠ 88) : d.R e W base (fun k => ok k ∧ k ≠ g) v xs:=by
 obtain ⟨A0,c0,hb,hg,hr0⟩:=h
 exact rY ho hb ht
theorem IsS88.own_ne {w0 W : World} {g : Nat} {f0 : List Int} {f1 : Int} {f2 : Int} {α : Type} {d : Kd α} {e : Nat} {base : Nat} {ok : Nat → Prop} {v : Value} {xs : List α} (h : IsS88 w0 W g f0 f1 f2) (ho : d.R e W base ok v xs) (ht : e ≠ 88) : some g ≠ v.ownBlock:=by
 obtain ⟨A0,c0,hb,hg,hr0⟩:=h
 exact Kd.R_ne ho hb ht
theorem IsS88.apartQ {w0 W : World} {g : Nat} {f0 : List Int} {f1 : Int} {f2 : Int} {α : Type} {d : Kd α} {e : Nat} {base : Nat} {ok : Nat → Prop} {v : Value} {xs : List α} (h : IsS88 w0 W g f0 f1 f2) (ho : d.Q e W base ok v xs) (ht : ∀ q,q ∈ e :: d.E → q ≠ 88) : d.Q e W base (fun k => ok k ∧ k ≠ g) v xs:=by
 obtain ⟨A0,c0,hb,hg,hr0⟩:=h
 exact Kd.Q_types ho hb ht
theorem IsS88.own_neQ {w0 W : World} {g : Nat} {f0 : List Int} {f1 : Int} {f2 : Int} {α : Type} {d : Kd α} {e : Nat} {base : Nat} {ok : Nat → Prop} {v : Value} {xs : List α} (h : IsS88 w0 W g f0 f1 f2) (ho : d.Q e W base ok v xs) (ht : e ≠ 88) : some g ≠ v.ownBlock:=by
 obtain ⟨A0,c0,hb,hg,hr0⟩:=h
 exact Kd.Q_ne ho hb ht
theorem IsS88.apartS {w0 W : World} {g : Nat} {f0 : List Int} {f1 : Int} {f2 : Int} {α : Type} {d : Kd α} {e : Nat} {base : Nat} {ok : Nat → Prop} {v : Value} {xs : List α} (h : IsS88 w0 W g f0 f1 f2) (ho : d.S e W base ok v xs) (ht : ∀ q,q ∈ e :: d.E → q ≠ 88) : d.S e W base (fun k => ok k ∧ k ≠ g) v xs:=by
 obtain ⟨A0,c0,hb,hg,hr0⟩:=h
 exact Kd.S_types ho hb ht
theorem IsS88.own_neS {w0 W : World} {g : Nat} {f0 : List Int} {f1 : Int} {f2 : Int} {α : Type} {d : Kd α} {e : Nat} {base : Nat} {ok : Nat → Prop} {v : Value} {xs : List α} (h : IsS88 w0 W g f0 f1 f2) (ho : d.S e W base ok v xs) (ht : e ≠ 88) : some g ≠ v.ownBlock:=by
 obtain ⟨A0,c0,hb,hg,hr0⟩:=h
 exact Kd.S_ne ho hb ht
theorem IsS88.lt {w0 W : World} {g : Nat} {f0 : List Int} {f1 : Int} {f2 : Int} (h : IsS88 w0 W g f0 f1 f2) : g < W.heap.size:=by
 obtain ⟨A0,c0,hb,hg,hr0⟩:=h
 exact bL hb
theorem IsS88.ge {w0 W : World} {g : Nat} {f0 : List Int} {f1 : Int} {f2 : Int} (h : IsS88 w0 W g f0 f1 f2) : w0.heap.size ≤ g:=by
 obtain ⟨A0,c0,hb,hg,hr0⟩:=h
 exact hg
theorem IsS88.ne_blk {w0 W : World} {g : Nat} {f0 : List Int} {f1 : Int} {f2 : Int} {a : Nat} {cs : Array Value} {t : TypeId} {fr : Nat × Nat} (h : IsS88 w0 W g f0 f1 f2) (hb2 : W.heap[a]? = some (.cells cs t fr)) (ht : t ≠ 88) : g ≠ a:=by
 obtain ⟨A0,c0,hb,hg,hr0⟩:=h
 rintro rfl
 rw [hb] at hb2
 injection hb2 with hb2
 injection hb2 with _ ht2
 exact ht ht2.symm
theorem IsS88.far {w0 W : World} {g : Nat} {f0 : List Int} {f1 : Int} {f2 : Int} {p : Addr} (h : IsS88 w0 W g f0 f1 f2) (hne : g ≠ p.block) (u : Value) : IsS88 w0 (W.setCell p u) g f0 f1 f2:=by
 obtain ⟨A0,c0,hb,hg,hr0⟩:=h
 exact ⟨A0,c0,blk_far hb hne u,hg,hr0⟩
theorem cellS88_0 {W : World} {g : Nat} {A0 : Option Addr} {c0 : Nat} {f0 : List Int} {f1 : Int} {f2 : Int} (h : W.heap[g]? = some (.cells #[.slice A0 f0.length c0,.int .i64 f1,.int .i64 f2] 88 (0,0))) : W.cell? ⟨g,0,none⟩ = some (.slice A0 f0.length c0):=(bC h 0).trans rfl
theorem cellS88_1 {W : World} {g : Nat} {A0 : Option Addr} {c0 : Nat} {f0 : List Int} {f1 : Int} {f2 : Int} (h : W.heap[g]? = some (.cells #[.slice A0 f0.length c0,.int .i64 f1,.int .i64 f2] 88 (0,0))) : W.cell? ⟨g,1,none⟩ = some (.int .i64 f1):=(bC h 1).trans rfl
theorem IsS88.set_1 {w0 W : World} {g : Nat} {f0 : List Int} {f1 : Int} {f2 : Int} (h : IsS88 w0 W g f0 f1 f2) (x : Int) : IsS88 w0 (W.setCell ⟨g,1,none⟩ (.int .i64 x)) g f0 x f2:=by
 obtain ⟨A0,c0,hb,hg,hr0⟩:=h
 exact ⟨A0,c0,by simpa using blk_set hb 1 (.int .i64 x),hg,hr0⟩
theorem cellS88_2 {W : World} {g : Nat} {A0 : Option Addr} {c0 : Nat} {f0 : List Int} {f1 : Int} {f2 : Int} (h : W.heap[g]? = some (.cells #[.slice A0 f0.length c0,.int .i64 f1,.int .i64 f2] 88 (0,0))) : W.cell? ⟨g,2,none⟩ = some (.int .i64 f2):=(bC h 2).trans rfl
theorem IsS88.set_2 {w0 W : World} {g : Nat} {f0 : List Int} {f1 : Int} {f2 : Int} (h : IsS88 w0 W g f0 f1 f2) (x : Int) : IsS88 w0 (W.setCell ⟨g,2,none⟩ (.int .i64 x)) g f0 f1 x:=by
 obtain ⟨A0,c0,hb,hg,hr0⟩:=h
 exact ⟨A0,c0,by simpa using blk_set hb 2 (.int .i64 x),hg,hr0⟩
theorem IsS88.new (w0 W : World) (A0 : Option Addr) (c0 : Nat) (f0 : List Int) (f1 : Int) (f2 : Int) (hB : Below w0.heap.size w0 W) (hr0 : Kd.C (Kd.int .u8) w0 A0 f0.length f0) : IsS88 w0 (W.alloc (.cells #[.slice A0 f0.length c0,.int .i64 f1,.int .i64 f2] 88)) W.heap.size f0 f1 f2:=⟨A0,c0,by simpa using heap_alloc_new W _,hB.size,hr0⟩

/-! ### spec_l01New: function 44 -/
def spec_l01New.l0 : Nat → List Int → Int → Int → Option (List Int × Int × Int)
 |0,_,_,_ => none
 |k + 1,x0,x3,x4 => if x4 < (x0.length : Int) then (if x4 < 4000 then (if 0 ≤ x4 then (spec_l01New.l0 k x0 (Go.bits .and .i64 (wrap64 ((wrap64 ((wrap64 (x3 * 131)) + (wrap64 (rd x0 x4)))) + 7)) 1073741823) (wrap64 (x4 + 1))) else (none)) else (some (x0,0,x3))) else (some (x0,0,x3))
def spec_l01New.f (k : Nat) (l0 : List Int) : Option (List Int × Int × Int):=spec_l01New.l0 k l0 (wrap64 (38001 + (l0.length : Int))) 0
theorem spec_l01New.mono_l : ∀ k,(∀ y0 y1 y2,LeO (spec_l01New.l0 k y0 y1 y2) (spec_l01New.l0 (k + 1) y0 y1 y2))
 |0 => fun _ _ _ r h => by simp [spec_l01New.l0] at h
 |k + 1 => by
  have ih0:=spec_l01New.mono_l k
  ·intro y0 y1 y2
   unfold spec_l01New.l0
   repeat' first
   |(with_reducible exact ih0 _ _ _)
   |(with_reducible exact LeO.refl _)
   |(with_reducible exact LeO.none _)
   |(with_reducible refine LeO.ite ?_ ?_)
   |(with_reducible refine LeO.bind ?_ (fun _ => ?_))
   |exact ih0 _ _ _
   |exact LeO.none _
   |refine LeO.ite ?_ ?_
   |refine LeO.bind ?_ (fun _ => ?_)
theorem spec_l01New.mono : ∀ a0 k,LeO (spec_l01New.f k a0) (spec_l01New.f (k + 1) a0):=by
 intro a0 k
 have ih0:=spec_l01New.mono_l k
 unfold spec_l01New.f
 repeat' first
   |(with_reducible exact ih0 _ _ _)
   |(with_reducible exact LeO.refl _)
   |(with_reducible exact LeO.none _)
   |(with_reducible refine LeO.ite ?_ ?_)
   |(with_reducible refine LeO.bind ?_ (fun _ => ?_))
   |exact ih0 _ _ _
   |exact LeO.none _
   |refine LeO.ite ?_ ?_
   |refine LeO.bind ?_ (fun _ => ?_)
set_option maxHeartbeats 8000000 in
set_option maxRecDepth 100000 in
theorem spec_l01New.calls (k : Nat) (A0 : Option Addr) (c0 : Nat) (l0 : List Int) (r1 : List Int) (r2 : Int) (r3 : Int) (w0 w : World) (hB : Below w0.heap.size w0 w) (hr0 : Kd.C (Kd.int .u8) w0 A0 l0.length l0) (hc0 : l0.length ≤ c0) (h : spec_l01New.f k l0 = some (r1,r2,r3)) :
  Calls Try.prog 44 #[.slice A0 l0.length c0] w fun e w' => ∃ g_ : Nat,e = .returned (.pointer (some ⟨g_,0,none⟩)) ∧ IsS88 w0 w' g_ r1 r2 r3 ∧ Below w0.heap.size w0 w' ∧ Below w.heap.size w w':=by
 have hu88:=Try.underlying88
 have HR0:=aM hr0
 have HC0:=aM hc0
 clear hr0 hc0
 have HBW:=aM (Below.refl w.heap.size w)
 have HW0:=aM hB.size
 have HB:=aM hB
 clear hB
 have H : (spec_l01New.l0 k l0 (wrap64 (38001 + (l0.length : Int))) 0) = some (r1,r2,r3):=h
 clear h
 have H':=aM H
 clear H
 go_enter Try.func44,Try.ntmps44
 go_wp2
 go_loopg [3,4] k (fun kq v3 v4 w' => ∃ (x3_1 : Int) (x4_1 : Int),v3 = .int .i64 x3_1 ∧ v4 = .int .i64 x4_1 ∧ Aside0 (spec_l01New.l0 kq l0 x3_1 x4_1 = some (r1,r2,r3)) ∧ Aside0 (kq ≤ k) ∧ Aside0 (Below w.heap.size w w') ∧ Aside0 (Below w0.heap.size w0 w'))
 case atStart => exact ⟨(wrap64 (38001 + (l0.length : Int))),(0),(by first|rfl|(simp;done)|(simp [*];done)),(by first|rfl|(simp;done)|(simp [*];done)),H',⟨Nat.le_refl _⟩,⟨by repeat (first|(with_reducible first|exact HBW.out|apply lA|apply lN|apply lD)|exact HBW.out)⟩,⟨by repeat (first|(with_reducible first|exact HB.out|apply lA|apply lN|apply lD)|exact HB.out)⟩⟩
 case round =>
  clear H'
  obtain ⟨x3_1,x4_1,rfl,rfl,HA,HK1,HBW,HB⟩:=hrel
  cases gk with
  |zero => exact absurd HA.out (by simp [spec_l01New.l0])
  |succ k1 =>
   have H:=HA.out
   clear HA
   simp only [spec_l01New.l0] at H
   by_cases c2 : x4_1 < (l0.length : Int)
   ·rw [if_pos c2] at H
    have c2b0 : decide (x4_1 < (l0.length : Int)) = true:=decide_eq_true c2
    clear c2
    by_cases c3 : x4_1 < 4000
    ·rw [if_pos c3] at H
     have c3b0 : decide (x4_1 < 4000) = true:=decide_eq_true c3
     clear c3
     by_cases c4 : 0 ≤ x4_1
     ·rw [if_pos c4] at H
      have c4b0 : decide (0 ≤ x4_1) = true:=decide_eq_true c4
      clear c4
      have H':=aM H
      clear H
      have p185 : 0 ≤ (x4_1 : Int):=of_decide_eq_true (by first|(with_reducible assumption)|assumption)
      have q185 : x4_1 < (l0.length : Int):=of_decide_eq_true (by first|(with_reducible assumption)|assumption)
      obtain ⟨ad185,e185,hx185_0⟩:=Kd.at_int HR0.out x4_1 p185 q185
      cases e185
      replace hx185_0:=pw_cell_below HB.out hx185_0
      replace p185:=eq_true p185
      replace q185:=eq_true q185
      go_wp2
      go_roundg k1
      case measure => have:=HK1.out;omega
      case rel => exact ⟨(Go.bits .and .i64 (wrap64 ((wrap64 ((wrap64 (x3_1 * 131)) + (wrap64 (rd l0 x4_1)))) + 7)) 1073741823),(wrap64 (x4_1 + 1)),(by first|rfl|(simp;done)|(simp [*];done)),(by first|rfl|(simp;done)|(simp [*];done)),H',⟨by have:=HK1.out;omega⟩,⟨by repeat (first|(with_reducible first|exact HBW.out|apply lA|apply lN|apply lD)|exact HBW.out)⟩,⟨by repeat (first|(with_reducible first|exact HB.out|apply lA|apply lN|apply lD)|exact HB.out)⟩⟩
     ·rw [if_neg c4] at H
      exact absurd H (by simp)
    ·rw [if_neg c3] at H
     have c3b0 : decide (x4_1 < 4000) = false:=decide_eq_false c3
     clear c3
     simp only [Option.some.injEq,Prod.mk.injEq] at H
     obtain ⟨rfl,rfl,rfl⟩:=H
     go_wp2_with (first|((with_reducible refine gate_dst (N:=31) rfl ?_);refine box_event ?hg (N:=31) ?hd (cs:=#[.slice A0 l0.length c0,.int .i64 0,.int .i64 x3_1]) (t:=88) ?hr ?_;(case hd => rfl);(case hg => rfl);(case hr => first|(go_simp;done)|(go_simp;rfl));intro gb186 hg w5 hbox hb;have n0_:=aM (lP HBW.out hb);have n1_:=aM (lQ HB.out hb);have n2_:=aM (hbox);have n3_:=aM ((by rw [hg];exact (lZ (by repeat (first|(with_reducible first|exact HBW.out|apply lA|apply lN|apply lD)|exact HBW.out))) : w.heap.size ≤ gb186));have n4_:=aM ((Nat.le_trans HW0.out (by rw [hg];exact (lZ (by repeat (first|(with_reducible first|exact HBW.out|apply lA|apply lN|apply lD)|exact HBW.out))) : w.heap.size ≤ gb186) : w0.heap.size ≤ gb186));clear HBW HB;have HBW:=n0_;have HB:=n1_;have BK186:=n2_;have GW186:=n3_;have GE186:=n4_;clear n0_ n1_ n2_ n3_ n4_ hb hbox hg))
     go_ret
     exact ⟨_,rfl,(show IsS88 w0 _ gb186 l0 0 x3_1 from ⟨_,_,by (with_reducible repeat (first|refine bN ?_ _|refine bD ?_|refine bA ?_ _));exact BK186.out,GE186.out,HR0.out⟩),by repeat (first|(with_reducible first|exact HB.out|apply lA|apply lN|apply lD|refine lS ?_ GE186.out)|exact HB.out),by repeat (first|(with_reducible first|exact HBW.out|apply lA|apply lN|apply lD|refine lS ?_ GW186.out)|exact HBW.out)⟩
   ·rw [if_neg c2] at H
    have c2b0 : decide (x4_1 < (l0.length : Int)) = false:=decide_eq_false c2
    clear c2
    simp only [Option.some.injEq,Prod.mk.injEq] at H
    obtain ⟨rfl,rfl,rfl⟩:=H
    go_wp2_with (first|((with_reducible refine gate_dst (N:=31) rfl ?_);refine box_event ?hg (N:=31) ?hd (cs:=#[.slice A0 l0.length c0,.int .i64 0,.int .i64 x3_1]) (t:=88) ?hr ?_;(case hd => rfl);(case hg => rfl);(case hr => first|(go_simp;done)|(go_simp;rfl));intro gb187 hg w6 hbox hb;have n0_:=aM (lP HBW.out hb);have n1_:=aM (lQ HB.out hb);have n2_:=aM (hbox);have n3_:=aM ((by rw [hg];exact (lZ (by repeat (first|(with_reducible first|exact HBW.out|apply lA|apply lN|apply lD)|exact HBW.out))) : w.heap.size ≤ gb187));have n4_:=aM ((Nat.le_trans HW0.out (by rw [hg];exact (lZ (by repeat (first|(with_reducible first|exact HBW.out|apply lA|apply lN|apply lD)|exact HBW.out))) : w.heap.size ≤ gb187) : w0.heap.size ≤ gb187));clear HBW HB;have HBW:=n0_;have HB:=n1_;have BK187:=n2_;have GW187:=n3_;have GE187:=n4_;clear n0_ n1_ n2_ n3_ n4_ hb hbox hg))
    go_ret
    exact ⟨_,rfl,(show IsS88 w0 _ gb187 l0 0 x3_1 from ⟨_,_,by (with_reducible repeat (first|refine bN ?_ _|refine bD ?_|refine bA ?_ _));exact BK187.out,GE187.out,HR0.out⟩),by repeat (first|(with_reducible first|exact HB.out|apply lA|apply lN|apply lD|refine lS ?_ GE187.out)|exact HB.out),by repeat (first|(with_reducible first|exact HBW.out|apply lA|apply lN|apply lD|refine lS ?_ GW187.out)|exact HBW.out)⟩

/-! ### spec_l08Out: function 51 -/
def spec_l08Out.f (a0 : ByteArray) : Option (ByteArray):=if (a0.size : Int) > 3000 then (if 0 ≤ 3000 then (if 3000 ≤ (a0.size : Int) then (some (a0.extract 0 3000)) else (none)) else (none)) else (some a0)
set_option maxHeartbeats 8000000 in
set_option maxRecDepth 100000 in
theorem spec_l08Out.calls (a0 : ByteArray) (r : ByteArray) (w : World) (h : spec_l08Out.f a0 = some r) :
  Calls Try.prog 51 #[.string a0] w fun e w' => e = .returned (.string r) ∧ Drawn0 w w':=by
 have H : (if (a0.size : Int) > 3000 then (if 0 ≤ 3000 then (if 3000 ≤ (a0.size : Int) then (some (a0.extract 0 3000)) else (none)) else (none)) else (some a0)) = some r:=h
 clear h
 by_cases c2 : (a0.size : Int) > 3000
 ·rw [if_pos c2] at H
  have c2b0 : decide (3000 < (a0.size : Int)) = true:=decide_eq_true c2
  have c2b1 : decide (3000 < a0.size) = true:=decide_eq_true (by omega)
  clear c2
  by_cases c3 : 0 ≤ 3000
  ·rw [if_pos c3] at H
   have c3b0:=eq_true c3
   have c3b1 : decide (0 ≤ 3000) = true:=decide_eq_true c3
   clear c3
   by_cases c4 : 3000 ≤ (a0.size : Int)
   ·rw [if_pos c4] at H
    have c4b0:=eq_true c4
    have c4b1 : decide (3000 ≤ (a0.size : Int)) = true:=decide_eq_true c4
    clear c4
    obtain rfl:=Option.some.inj H
    go_enter Try.func51,Try.ntmps51
    go_wp2
    go_ret
    exact ⟨by first|rfl|(simp;done)|(simp [*];done),by repeat (first|exact Drawn0.refl _|apply Drawn0.step)⟩
   ·rw [if_neg c4] at H
    exact absurd H (by simp)
  ·rw [if_neg c3] at H
   exact absurd H (by simp)
 ·rw [if_neg c2] at H
  have c2b0 : decide (3000 < (a0.size : Int)) = false:=decide_eq_false c2
  have c2b1 : decide (3000 < a0.size) = false:=decide_eq_false (by omega)
  clear c2
  obtain rfl:=Option.some.inj H
  go_enter Try.func51,Try.ntmps51
  go_wp2
  go_ret
  exact ⟨by first|rfl|(simp;done)|(simp [*];done),by repeat (first|exact Drawn0.refl _|apply Drawn0.step)⟩

/-! ### spec_Say: function 20 -/
def spec_Say.f (l0_0 : List (S53)) (l0_1 : List (S57)) (a0_2 : ByteArray) (a1 : ByteArray) : Option ((List (S53)) × (List (S57)) × ByteArray):=(spec_l08Copy.f l0_0 l0_1 a0_2).bind fun bt190 => (if a0_2.size + a1.size ≤ 9223372036854775807 then (if (a0_2 ++ a1).size + 1 ≤ 9223372036854775807 then ((spec_l08Out.f ((a0_2 ++ a1) ++ (⟨#[10]⟩ : ByteArray))).bind fun t198 => (some (bt190.1,bt190.2.1,t198))) else (none)) else (none))
set_option maxHeartbeats 8000000 in
set_option maxRecDepth 100000 in
theorem spec_Say.calls (A0_0 : Option Addr) (c0_0 : Nat) (l0_0 : List (S53)) (A0_1 : Option Addr) (c0_1 : Nat) (l0_1 : List (S57)) (a0_2 : ByteArray) (a1 : ByteArray) (r1 : List (S53)) (r2 : List (S57)) (r3 : ByteArray) (w : World) (hr0_0 : Kd.C k53 w A0_0 l0_0.length l0_0) (hc0_0 : l0_0.length ≤ c0_0) (hr0_1 : Kd.C k57 w A0_1 l0_1.length l0_1) (hc0_1 : l0_1.length ≤ c0_1) (h : spec_Say.f l0_0 l0_1 a0_2 a1 = some (r1,r2,r3)) :
  Calls Try.prog 20 #[.agg #[.slice A0_0 l0_0.length c0_0,.slice A0_1 l0_1.length c0_1,.string a0_2],.string a1] w fun e w' => ∃ v0_ v1_ : Value,e = .returned (.agg #[v0_,v1_,.string r3]) ∧ Kd.R k53 53 w' w.heap.size (fun _ => True) v0_ r1 ∧ Kd.R k57 57 w' w.heap.size (fun _ => True) v1_ r2 ∧ Below w.heap.size w w':=by
 have hu38:=Try.underlying38
 have HR0_0:=aM hr0_0
 have HC0_0:=aM hc0_0
 clear hr0_0 hc0_0
 have HR0_1:=aM hr0_1
 have HC0_1:=aM hc0_1
 clear hr0_1 hc0_1
 have HB:=aM (Below.refl w.heap.size w)
 have H : ((spec_l08Copy.f l0_0 l0_1 a0_2).bind fun bt190 => (if a0_2.size + a1.size ≤ 9223372036854775807 then (if (a0_2 ++ a1).size + 1 ≤ 9223372036854775807 then ((spec_l08Out.f ((a0_2 ++ a1) ++ (⟨#[10]⟩ : ByteArray))).bind fun t198 => (some (bt190.1,bt190.2.1,t198))) else (none)) else (none))) = some (r1,r2,r3):=h
 clear h
 replace H:=Option.bind_eq_some_iff.mp H
 obtain ⟨⟨t190,t193,t196⟩,A30,H⟩:=H
 replace H : (if a0_2.size + a1.size ≤ 9223372036854775807 then (if (a0_2 ++ a1).size + 1 ≤ 9223372036854775807 then ((spec_l08Out.f ((a0_2 ++ a1) ++ (⟨#[10]⟩ : ByteArray))).bind fun t198 => (some (t190,t193,t198))) else (none)) else (none)) = some (r1,r2,r3):=H
 have A3:=aM A30
 clear A30
 by_cases c4 : a0_2.size + a1.size ≤ 9223372036854775807
 ·rw [if_pos c4] at H
  have c4b0:=eq_true c4
  have c4b1 : decide (a0_2.size + a1.size ≤ 9223372036854775807) = true:=decide_eq_true c4
  try have c4b2 : (9223372036854775807 < a0_2.size + a1.size) = False:=eq_false (Nat.not_lt.2 c4)
  by_cases c5 : (a0_2 ++ a1).size + 1 ≤ 9223372036854775807
  ·rw [if_pos c5] at H
   have c5b0:=eq_true c5
   have c5b1 : decide ((a0_2 ++ a1).size + 1 ≤ 9223372036854775807) = true:=decide_eq_true c5
   try have c5b2 : (9223372036854775807 < (a0_2 ++ a1).size + 1) = False:=eq_false (Nat.not_lt.2 c5)
   try (have c5b7:=c5b2;simp only [ByteArray.size_append] at c5b7)
   replace H:=Option.bind_eq_some_iff.mp H
   obtain ⟨t198,A60,H⟩:=H
   replace H : (some (t190,t193,t198)) = some (r1,r2,r3):=H
   have A6:=aM A60
   clear A60
   simp only [Option.some.injEq,Prod.mk.injEq] at H
   obtain ⟨rfl,rfl,rfl⟩:=H
   go_enter Try.func20,Try.ntmps20
   go_wp2_with (first|((with_reducible refine gate_dst (N:=2) rfl ?_);refine box_event ?hg (N:=2) ?hd (cs:=#[.slice A0_0 l0_0.length c0_0,.slice A0_1 l0_1.length c0_1,.string a0_2]) (t:=38) ?hr ?_;(case hd => rfl);(case hg => rfl);(case hr => first|(go_simp;done)|(go_simp;rfl));intro gb188 hg w7 hbox hb;have n0_:=aM (lQ HB.out hb);have n1_:=aM (hbox);have n2_:=aM ((sQ hg HB.out : w.heap.size ≤ gb188));have n3_:=n2_;clear HB;have HB:=n0_;have BK188:=n1_;have GW188:=n2_;have GE188:=n3_;clear n0_ n1_ n2_ n3_ hb hbox hg)|((with_reducible refine gate_dst (N:=4) rfl ?_);refine box_event ?hg (N:=4) ?hd (cs:=#[.slice none 0 0,.slice none 0 0,.string (⟨#[]⟩ : ByteArray)]) (t:=38) ?hr ?_;(case hd => rfl);(case hg => rfl);(case hr => first|(go_simp;done)|(go_simp;rfl));intro gb189 hg w8 hbox hb;have n0_:=aM (bH BK188.out hb);have n1_:=aM (lQ HB.out hb);have n2_:=aM (hbox);have n3_:=aM ((sQ hg HB.out : w.heap.size ≤ gb189));have n4_:=n3_;have n5_:=aM ((nL hg BK188.out : gb188 ≠ gb189));have n6_:=aM ((nG hg BK188.out : gb189 ≠ gb188));clear BK188 HB;have BK188:=n0_;have HB:=n1_;have BK189:=n2_;have GW189:=n3_;have GE189:=n4_;have NB188_189:=n5_;have NB189_188:=n6_;clear n0_ n1_ n2_ n3_ n4_ n5_ n6_ hb hbox hg;have hnb9:=NB188_189.out;have hnc9:=NB189_188.out;obtain ⟨⟨hcz10_0,hcz10_1,hcz10_2⟩,hfz10_0,hfz10_1,hfz10_2⟩:=bC3 BK188.out)|((with_reducible refine gate_callee (f:=50) rfl ?_);refine goesL_ (some 7) rfl rfl Try.func50 (by kernel_rfl) rfl #[.agg #[.slice A0_0 l0_0.length c0_0,.slice A0_1 l0_1.length c0_1,.string a0_2]] rfl (by (try simp only [List.map_toArray,List.map_cons,List.map_nil]);first|done|rfl|(simp only [List.length_drop,List.length_take];rfl)) ?_;(with_reducible refine (spec_l08Copy.calls _ _ l0_0 _ _ l0_1 a0_2 t190 t193 t196 _ ?side1 ?side2 ?side3 ?side4 A3.out).mono ?_);(case side1 => repeat (first|exact (cB HR0_0.out HB.out)|(with_reducible first|refine cA ?_ _|refine cN ?_ _|refine cD ?_)));(case side2 => exact HC0_0.out);(case side3 => repeat (first|exact (cB HR0_1.out HB.out)|(with_reducible first|refine cA ?_ _|refine cN ?_ _|refine cD ?_)));(case side4 => exact HC0_1.out);rintro e w11 ⟨v191,v194,rfl,ho0,ho1,hb⟩;refine ⟨_,rfl,?_⟩;have n0_:=aM (rL ho0 (lZ (by repeat (first|(with_reducible first|exact HB.out|apply lA|apply lN|apply lD|refine lS ?_ GE188.out|refine lS ?_ GE189.out)|exact HB.out))));have n1_:=aM (rL ho1 (lZ (by repeat (first|(with_reducible first|exact HB.out|apply lA|apply lN|apply lD|refine lS ?_ GE188.out|refine lS ?_ GE189.out)|exact HB.out))));have n2_:=aM (bH BK188.out hb);have n3_:=aM (bH BK189.out hb);have n4_:=aM (lQ HB.out hb);clear BK188 BK189 HB;have HO192:=n0_;have HO195:=n1_;have BK188:=n2_;have BK189:=n3_;have HB:=n4_;clear n0_ n1_ n2_ n3_ n4_;(try clear hb);(try clear hb2);(try clear hk);(try clear hi);(try clear ho0);(try clear ho1))|((with_reducible refine gate_dst (N:=5) rfl ?_);refine box_event ?hg (N:=5) ?hd (cs:=#[.slice none 0 0,.slice none 0 0,.string (⟨#[]⟩ : ByteArray)]) (t:=38) ?hr ?_;(case hd => rfl);(case hg => rfl);(case hr => first|(go_simp;done)|(go_simp;rfl));intro gb197 hg w12 hbox hb;have n0_:=aM (rH HO192.out hb);have n1_:=aM (rH HO195.out hb);have n2_:=aM (bH BK188.out hb);have n3_:=aM (bH BK189.out hb);have n4_:=aM (lQ HB.out hb);have n5_:=aM (hbox);have n6_:=aM ((sQ hg HB.out : w.heap.size ≤ gb197));have n7_:=n6_;have n8_:=aM ((nL hg BK188.out : gb188 ≠ gb197));have n9_:=aM ((nG hg BK188.out : gb197 ≠ gb188));have n10_:=aM ((nL hg BK189.out : gb189 ≠ gb197));have n11_:=aM ((nG hg BK189.out : gb197 ≠ gb189));clear HO192 HO195 BK188 BK189 HB;have HO192:=n0_;have HO195:=n1_;have BK188:=n2_;have BK189:=n3_;have HB:=n4_;have BK197:=n5_;have GW197:=n6_;have GE197:=n7_;have NB188_197:=n8_;have NB197_188:=n9_;have NB189_197:=n10_;have NB197_189:=n11_;clear n0_ n1_ n2_ n3_ n4_ n5_ n6_ n7_ n8_ n9_ n10_ n11_ hb hbox hg;obtain ⟨Ao13,co13,eo13⟩:=Kd.R_slice HO192.out;subst eo13;have hnb14:=NB197_188.out;have hnc14:=NB188_197.out;have hnb15:=NB197_189.out;have hnc15:=NB189_197.out;obtain ⟨⟨hcz16_0,hcz16_1,hcz16_2⟩,hfz16_0,hfz16_1,hfz16_2⟩:=bC3 BK197.out;obtain ⟨Ao17,co17,eo17⟩:=Kd.R_slice HO195.out;subst eo17;obtain ⟨⟨hcz18_0,hcz18_1,hcz18_2⟩,hfz18_0,hfz18_1,hfz18_2⟩:=bC3 BK188.out)|((with_reducible refine gate_callee (f:=51) rfl ?_);refine goesL_ (some 13) rfl rfl Try.func51 (by kernel_rfl) rfl #[.string ((a0_2 ++ a1) ++ (⟨#[10]⟩ : ByteArray))] rfl (by (try simp only [List.map_toArray,List.map_cons,List.map_nil]);first|done|rfl|(simp only [List.length_drop,List.length_take];rfl)) ?_;(with_reducible refine (spec_l08Out.calls ((a0_2 ++ a1) ++ (⟨#[10]⟩ : ByteArray)) t198 _ A6.out).mono ?_);rintro e w' ⟨rfl,⟨nd,rfl⟩⟩;refine ⟨_,rfl,?_⟩;obtain ⟨⟨hcz19_0,hcz19_1,hcz19_2⟩,hfz19_0,hfz19_1,hfz19_2⟩:=bC3 BK189.out))
   refine bodyPost_ret (results_cell_row rfl _ _ gb189 38 #[.slice Ao13 t190.length co13,.slice Ao17 t193.length co17,.string t198] (0,0) _ rfl (by (with_reducible repeat (first|refine bN ?_ _|refine bD ?_|refine bA ?_ _));refine blk_put (cs:=#[.slice Ao13 t190.length co13,.slice Ao17 t193.length co17,.string (⟨#[]⟩ : ByteArray)]) ?_ 2 _ rfl;(with_reducible repeat (first|refine bN ?_ _|refine bD ?_|refine bA ?_ _));refine blk_put (cs:=#[.slice Ao13 t190.length co13,.slice none 0 0,.string (⟨#[]⟩ : ByteArray)]) ?_ 1 _ rfl;(with_reducible repeat (first|refine bN ?_ _|refine bD ?_|refine bA ?_ _));refine blk_put (cs:=#[.slice none 0 0,.slice none 0 0,.string (⟨#[]⟩ : ByteArray)]) ?_ 0 _ rfl;(with_reducible repeat (first|refine bN ?_ _|refine bD ?_|refine bA ?_ _));refine blk_far ?_ NB189_197.out _;(with_reducible repeat (first|refine bN ?_ _|refine bD ?_|refine bA ?_ _));refine blk_far ?_ NB189_197.out _;(with_reducible repeat (first|refine bN ?_ _|refine bD ?_|refine bA ?_ _));refine blk_far ?_ NB189_197.out _;(with_reducible repeat (first|refine bN ?_ _|refine bD ?_|refine bA ?_ _));refine blk_far ?_ NB189_197.out _;(with_reducible repeat (first|refine bN ?_ _|refine bD ?_|refine bA ?_ _));exact BK189.out) Try.underlying38 rfl (by kernel_rfl)) rfl ?_
   exact ⟨_,_,by first|rfl|(simp [errW_none,errW_some] <;> rfl)|(simp [*,errW_none,errW_some] <;> rfl),by (with_reducible repeat (first|apply rA|apply rN|apply rD));exact Kd.R_mono (rF (rF (rF (rF (rF (rF (rF (rY (rY HO192.out BK197.out (by decide)) BK189.out (by decide)) (fun _ hk => hk.1.2) _) (fun _ hk => hk.1.2) _) (fun _ hk => hk.1.2) _) (fun _ hk => hk.1.2) _) (fun _ hk => hk.2) _) (fun _ hk => hk.2) _) (fun _ hk => hk.2) _) (fun _ hk => trivial),by (with_reducible repeat (first|apply rA|apply rN|apply rD));exact Kd.R_mono (rF (rF (rF (rF (rF (rF (rF (rY (rY HO195.out BK197.out (by decide)) BK189.out (by decide)) (fun _ hk => hk.1.2) _) (fun _ hk => hk.1.2) _) (fun _ hk => hk.1.2) _) (fun _ hk => hk.1.2) _) (fun _ hk => hk.2) _) (fun _ hk => hk.2) _) (fun _ hk => hk.2) _) (fun _ hk => trivial),by repeat (first|(with_reducible first|exact HB.out|apply lA|apply lN|apply lD|refine lS ?_ GE188.out|refine lS ?_ GE189.out|refine lS ?_ GE197.out)|exact HB.out)⟩
  ·rw [if_neg c5] at H
   exact absurd H (by simp)
 ·rw [if_neg c4] at H
  exact absurd H (by simp)

end Go.Proofs.Ytodpkfidkilpdaa.QFnCells
