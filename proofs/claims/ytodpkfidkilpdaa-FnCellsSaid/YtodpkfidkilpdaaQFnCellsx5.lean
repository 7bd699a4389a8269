-- A text of this session, made by wip/own_print.py (the kit's print with additions of ours).
import Derived.Test.YtodpkfidkilpdaaQFnCellsx0
namespace Go.Proofs.Ytodpkfidkilpdaa.QFnCells
open Go.RowKit Go.Proofs.YtodpkfidkilpdaaW.PrintWords Go.Proofs.YtodpkfidkilpdaaW.PrintLast Go.Proofs.YtodpkfidkilpdaaW.PrintMore
attribute [local go_sem] max2_int min2_int max_two min_two max_three min_three max_four min_four   -- for this text's walks alone
set_option linter.unusedVariables false
set_option linter.unusedSimpArgs false
open Bool renaming true → bT, false → bf
open Go.Proofs.YtodpkfidkilpdaaW.PrintWords.Kd renaming R_alloc → rA, R_drewN → rN, R_drew → rD, C_alloc → cA, C_drewN → cN, C_drew → cD, R_far → rF, R_below → rB, R_lower → rL, R_lt → rT, R_base → rS, C_below → cB, R_types → rY, R_elder' → rE, R_reads' → rR, R_new' → rW
open Go.Proofs.YtodpkfidkilpdaaW.PrintWords renaming blk_drewN → bN, blk_drew → bD, blk_alloc → bA, below_set → lS, pw_below_drewN → lN, below_drew1 → lD, below_alloc → lA, blk_cell → bC, blk_below → bB, below_size → lZ, below_step → lP, blk_lt → bL, blk_frozen → bF
open Go.Proofs.YtodpkfidkilpdaaW.PrintWords.Aside0 renaming mk → aM
theorem q_ia3 {α : Type} (l : List α) (i : Nat) (a : α) : l.toArray.setIfInBounds i a = (l.set i a).toArray := List.setIfInBounds_toArray ..
theorem q_cz3 {α : Type} (a b : α) (l : List α) : (a :: l).set 0 b = b :: l := rfl
theorem q_cs3 {α : Type} (a b : α) (l : List α) (n : Nat) : (a :: l).set (n + 1) b = a :: l.set n b := rfl

/-! ### impl_Cut: function 42 -/
def impl_Cut.f (a0 : ByteArray) : Option (ByteArray) := if 0 ≤ (mn (a0.size : Int) 40) then (if (mn (a0.size : Int) 40) ≤ (a0.size : Int) then (some (a0.extract 0 ((mn (a0.size : Int) 40) : Int).toNat)) else (none)) else (none)
set_option maxHeartbeats 8000000 in
set_option maxRecDepth 100000 in
theorem impl_Cut.calls (a0 : ByteArray) (r : ByteArray) (w : World) (h : impl_Cut.f a0 = some r) :
  Calls Try.prog 42 #[.string a0] w fun e w' => e = .returned (.string r) ∧ Below w.heap.size w w':=by
 have HB:=aM (Below.refl w.heap.size w)
 have H : (if 0 ≤ (mn (a0.size : Int) 40) then (if (mn (a0.size : Int) 40) ≤ (a0.size : Int) then (some (a0.extract 0 ((mn (a0.size : Int) 40) : Int).toNat)) else (none)) else (none)) = some r:=h
 clear h
 obtain ⟨ji2,hji2⟩ : ∃ j_ : Int,(mn (a0.size : Int) 40) = j_:=⟨_,rfl⟩
 replace H : (if 0 ≤ (ji2) then (if (ji2) ≤ (a0.size : Int) then (some (a0.extract 0 ((ji2) : Int).toNat)) else (none)) else (none)) = some r:=by first|(rw [hji2] at H;exact H)|(simp only [hji2] at H ⊢;exact H)
 (try (have hji2h : ji2 ≤ 40:=by (rw [← hji2];unfold mn;(repeat' split) <;> omega)))
 (try (have hji2g : ji2 ≤ 64:=by omega))
 (try (have hji2l : 0 ≤ ji2:=by (rw [← hji2];unfold mn;(repeat' split) <;> omega)))
 (try (have hji2m : 0 ≤ ji2:=by omega))
 have hji2_ : (if 40 < (a0.size : Int) then 40 else (a0.size : Int)) = ji2:=hji2
 by_cases c3 : 0 ≤ (ji2)
 ·rw [if_pos c3] at H
  have c3b0:=eq_true c3
  have c3b1 : decide (0 ≤ (ji2)) = true:=decide_eq_true c3
  clear c3
  by_cases c4 : (ji2) ≤ (a0.size : Int)
  ·rw [if_pos c4] at H
   have c4b0:=eq_true c4
   have c4b1 : decide ((ji2) ≤ (a0.size : Int)) = true:=decide_eq_true c4
   clear c4
   obtain rfl:=Option.some.inj H
   go_enter Try.func42,Try.ntmps42
   go_wp2
   go_ret
   exact ⟨by first|rfl|(simp [errW_none,errW_some] <;> rfl)|(simp only [← hji2];first|rfl|(simp [errW_none,errW_some] <;> rfl))|(simp [*,errW_none,errW_some] <;> rfl),by repeat (first|(with_reducible first|exact HB.out|apply lA|apply lN|apply lD)|exact HB.out)⟩
  ·rw [if_neg c4] at H
   exact absurd H (by simp)
 ·rw [if_neg c3] at H
  exact absurd H (by simp)

/-! ### impl_copyStore: function 54 -/
def impl_copyStore.f (l0_0 : List (S53)) (l0_1 : List (S57)) (a0_2 : ByteArray) : Option ((List (S53)) × (List (S57)) × ByteArray):=(some (([] : List (S53)) : List (S53))).bind fun y150 => (if y150.length + l0_0.length < 4398046511104 then ((some (([] : List (S57)) : List (S57))).bind fun y156 => (if y156.length + l0_1.length < 2932031007402 then (some ((y150 ++ l0_0),(y156 ++ l0_1),a0_2)) else (none))) else (none))
def impl_copyStore.T1 : Bool × List (List Nat × List Nat):=(true,[([],[]),([],[]),([1],[1]),([0,2],[0,2]),([],[]),([],[]),([5],[5]),([4,6,3],[4,6]),([0,1,2,3,5,6],[]),([8,3,7,0,1,2,3,5,6],[3,8]),([0,1,2,3,4,5,6,7,8,9],[]),([10,7,9,0,1,2,3,4,5,6,7,8,9],[7,10])])
def impl_copyStore.B1 : List Nat:=[0,0,2,7,0,0,32,127,111,511,1023,2047]
theorem impl_copyStore.tab1 : rtab .any (opsOf Try.f54 1) = impl_copyStore.T1:=by kernel_rfl
theorem impl_copyStore.bits1 : waitsOk impl_copyStore.T1.2 impl_copyStore.B1 = true:=by kernel_rfl
set_option maxHeartbeats 8000000 in
set_option maxRecDepth 100000 in
theorem impl_copyStore.calls (A0_0 : Option Addr) (c0_0 : Nat) (l0_0 : List (S53)) (A0_1 : Option Addr) (c0_1 : Nat) (l0_1 : List (S57)) (a0_2 : ByteArray) (r1 : List (S53)) (r2 : List (S57)) (r3 : ByteArray) (w : World) (hr0_0 : Kd.C k53 w A0_0 l0_0.length l0_0) (hc0_0 : l0_0.length ≤ c0_0) (hr0_1 : Kd.C k57 w A0_1 l0_1.length l0_1) (hc0_1 : l0_1.length ≤ c0_1) (h : impl_copyStore.f l0_0 l0_1 a0_2 = some (r1,r2,r3)) :
  Calls Try.prog 54 #[.agg #[.slice A0_0 l0_0.length c0_0,.slice A0_1 l0_1.length c0_1,.string a0_2]] w fun e w' => ∃ v0_ v1_ : Value,e = .returned (.agg #[v0_,v1_,.string r3]) ∧ Kd.R k53 53 w' w.heap.size (fun _ => True) v0_ r1 ∧ Kd.R k57 57 w' w.heap.size (fun _ => True) v1_ r2 ∧ Below w.heap.size w w':=by
 have hu38:=Try.underlying38
 have HR0_0:=aM hr0_0
 have HC0_0:=aM hc0_0
 clear hr0_0 hc0_0
 have HR0_1:=aM hr0_1
 have HC0_1:=aM hc0_1
 clear hr0_1 hc0_1
 have HB:=aM (Below.refl w.heap.size w)
 have H : ((some (([] : List (S53)) : List (S53))).bind fun y150 => (if y150.length + l0_0.length < 4398046511104 then ((some (([] : List (S57)) : List (S57))).bind fun y156 => (if y156.length + l0_1.length < 2932031007402 then (some ((y150 ++ l0_0),(y156 ++ l0_1),a0_2)) else (none))) else (none))) = some (r1,r2,r3):=h
 clear h
 obtain ⟨y150,hy150⟩ : ∃ y_ : List (S53),y_ = (([] : List (S53))):=⟨_,rfl⟩
 replace H : (if y150.length + l0_0.length < 4398046511104 then ((some (([] : List (S57)) : List (S57))).bind fun y156 => (if y156.length + l0_1.length < 2932031007402 then (some ((y150 ++ l0_0),(y156 ++ l0_1),a0_2)) else (none))) else (none)) = some (r1,r2,r3):=by first|(rw [hy150];with_reducible exact H)|(have H2_:=(Option.bind_some _ _).symm.trans H;rw [hy150];with_reducible exact H2_)|(have H2_:=(Option.bind_some _ _).symm.trans H;with_reducible exact H2_)|with_reducible exact H|(rw [hy150];exact H)|exact H
 have Ny150:=aM hy150
 clear hy150
 by_cases c2 : y150.length + l0_0.length < 4398046511104
 ·rw [if_pos c2] at H
  have LMc2:=aM c2
  clear c2
  obtain ⟨y153,hy153⟩ : ∃ y_ : List (S53),y_ = (y150 ++ l0_0):=⟨_,rfl⟩
  replace H : ((some (([] : List (S57)) : List (S57))).bind fun y156 => (if y156.length + l0_1.length < 2932031007402 then (some (y153,(y156 ++ l0_1),a0_2)) else (none))) = some (r1,r2,r3):=by first|(rw [hy153];with_reducible exact H)|(have H2_:=(Option.bind_some _ _).symm.trans H;rw [hy153];with_reducible exact H2_)|(have H2_:=(Option.bind_some _ _).symm.trans H;with_reducible exact H2_)|with_reducible exact H|(rw [hy153];exact H)|exact H
  have Ny153:=aM hy153
  clear hy153
  obtain ⟨y156,hy156⟩ : ∃ y_ : List (S57),y_ = (([] : List (S57))):=⟨_,rfl⟩
  replace H : (if y156.length + l0_1.length < 2932031007402 then (some (y153,(y156 ++ l0_1),a0_2)) else (none)) = some (r1,r2,r3):=by first|(rw [hy156];with_reducible exact H)|(have H2_:=(Option.bind_some _ _).symm.trans H;rw [hy156];with_reducible exact H2_)|(have H2_:=(Option.bind_some _ _).symm.trans H;with_reducible exact H2_)|with_reducible exact H|(rw [hy156];exact H)|exact H
  have Ny156:=aM hy156
  clear hy156
  by_cases c3 : y156.length + l0_1.length < 2932031007402
  ·rw [if_pos c3] at H
   have LMc3:=aM c3
   clear c3
   obtain ⟨y159,hy159⟩ : ∃ y_ : List (S57),y_ = (y156 ++ l0_1):=⟨_,rfl⟩
   replace H : (some (y153,y159,a0_2)) = some (r1,r2,r3):=by first|(rw [hy159];with_reducible exact H)|(have H2_:=(Option.bind_some _ _).symm.trans H;rw [hy159];with_reducible exact H2_)|(have H2_:=(Option.bind_some _ _).symm.trans H;with_reducible exact H2_)|with_reducible exact H|(rw [hy159];exact H)|exact H
   have Ny159:=aM hy159
   clear hy159
   simp only [Option.some.injEq,Prod.mk.injEq] at H
   obtain ⟨rfl,rfl,rfl⟩:=H
   go_enter Try.func54,Try.ntmps54
   try go_wp2_with (first|((with_reducible refine gate_dst (N:=1) rfl ?_);refine box_event ?hg (N:=1) ?hd (cs:=#[.slice A0_0 l0_0.length c0_0,.slice A0_1 l0_1.length c0_1,.string a0_2]) (t:=38) ?hr ?_;(case hd => rfl);(case hg => rfl);(case hr => first|(go_simp;done)|(go_simp;rfl));intro gb148 hg w4 hbox hb;have n0_:=aM (lQ HB.out hb);have n1_:=aM (hbox);have n2_:=aM ((sQ hg HB.out : w.heap.size ≤ gb148));have n3_:=n2_;clear HB;have HB:=n0_;have BK148:=n1_;have GW148:=n2_;have GE148:=n3_;clear n0_ n1_ n2_ n3_ hb hbox hg)|((with_reducible refine gate_dst (N:=2) rfl ?_);refine box_event ?hg (N:=2) ?hd (cs:=#[.slice none 0 0,.slice none 0 0,.string (⟨#[]⟩ : ByteArray)]) (t:=38) ?hr ?_;(case hd => rfl);(case hg => rfl);(case hr => first|(go_simp;done)|(go_simp;rfl));intro gb149 hg w5 hbox hb;have n0_:=aM (bH BK148.out hb);have n1_:=aM (lQ HB.out hb);have n2_:=aM (hbox);have n3_:=aM ((sQ hg HB.out : w.heap.size ≤ gb149));have n4_:=n3_;have n5_:=aM ((nL hg BK148.out : gb148 ≠ gb149));have n6_:=aM ((nG hg BK148.out : gb149 ≠ gb148));clear BK148 HB;have BK148:=n0_;have HB:=n1_;have BK149:=n2_;have GW149:=n3_;have GE149:=n4_;have NB148_149:=n5_;have NB149_148:=n6_;clear n0_ n1_ n2_ n3_ n4_ n5_ n6_ hb hbox hg))
   have n0_:=aM (bD BK148.out)
   have n1_:=aM (bD BK149.out)
   have n2_:=aM (lD HB.out)
   clear BK148
   clear BK149
   clear HB
   have BK148:=n0_
   have BK149:=n1_
   have HB:=n2_
   clear n0_ n1_ n2_
   refine start_ (n:=12) (S:=fun w' => w'.cell? ⟨gb148,0,none⟩ = some (.slice A0_0 l0_0.length c0_0) ∧ w'.cell? ⟨gb148,1,none⟩ = some (.slice A0_1 l0_1.length c0_1) ∧ w'.cell? ⟨gb148,2,none⟩ = some (.string a0_2)) (ds:=[9,11]) #[bf,bf,bf,bf,bf,bf,bf,bf,bf,bf,bf,bf] (by kernel_rfl) rfl rfl ⟨(bC BK148.out 0).trans rfl,(bC BK148.out 1).trans rfl,(bC BK148.out 2).trans rfl⟩ (fun hHeld => ?_);refine with_tabW impl_copyStore.tab1 impl_copyStore.bits1 (fun HT_ HW_ => ?_)
   generalize w5.drew = w6 at BK148 BK149 HB hHeld ⊢
   refine pQ (i:=1) (N:=some 4) (v:=?_) (a':=?_) #[bf,bT,bf,bf,bf,bf,bf,bf,bf,bf,bf,bf] (any_of HT_.out (by kernel_rfl)) ?_ ?_ ?_
   rotate_left
   ·intro w';go_simp;with_reducible rfl
   rotate_left
   ·simp only [Act.put,q_ia3,q_cz3,q_cs3,i64_w,i32_w];rfl
   refine pQ (i:=5) (N:=some 8) (v:=?_) (a':=?_) #[bf,bT,bf,bf,bf,bT,bf,bf,bf,bf,bf,bf] (any_of HT_.out (by kernel_rfl)) ?_ ?_ ?_
   rotate_left
   ·intro w';go_simp;with_reducible rfl
   rotate_left
   ·simp only [Act.put,q_ia3,q_cz3,q_cs3,i64_w,i32_w];rfl
   refine take_ (i:=2) (N:=some 5) (v:=?_) (a':=?_) #[bf,bT,bT,bf,bf,bT,bf,bf,bf,bf,bf,bf] rfl rfl (take_ofW HT_.out HW_.out (by kernel_rfl)) (fun _ _ _ h => h) (Or.inl ⟨by rfl,?_⟩) hHeld ?_ ?_
   rotate_left
   ·rintro w' ⟨s0,s1,s2⟩
    go_simp
    with_reducible rfl
   rotate_left
   ·simp only [Act.put,q_ia3,q_cz3,q_cs3,i64_w,i32_w];rfl
   refine take_ (i:=6) (N:=some 9) (v:=?_) (a':=?_) #[bf,bT,bT,bf,bf,bT,bT,bf,bf,bf,bf,bf] rfl rfl (take_ofW HT_.out HW_.out (by kernel_rfl)) (fun _ _ _ h => h) (Or.inl ⟨by rfl,?_⟩) hHeld ?_ ?_
   rotate_left
   ·rintro w' ⟨s0,s1,s2⟩
    go_simp
    with_reducible rfl
   rotate_left
   ·simp only [Act.put,q_ia3,q_cz3,q_cs3,i64_w,i32_w];rfl
   refine join_ (σ:=Value × Value × Value) 4 #[bT,bT,bT,bT,bT,bT,bT,bf,bT,bf,bf,bf] (fun s_ => [(3,s_.1),(6,s_.2.1),(7,s_.2.2),(11,.pointer (some ⟨gb148,0,none⟩))]) (fun s_ w' => (w'.cell? ⟨gb148,0,none⟩ = some (.slice A0_0 l0_0.length c0_0) ∧ w'.cell? ⟨gb148,1,none⟩ = some (.slice A0_1 l0_1.length c0_1) ∧ w'.cell? ⟨gb148,2,none⟩ = some (.string a0_2)) ∧ (Kd.R k53 53 w' w.heap.size (fun _ => True) s_.2.1 y153) ∧ (Kd.R k57 57 w' w.heap.size (fun _ => True) s_.2.2 y156) ∧ (w'.heap[gb148]? = some (.cells #[.slice A0_0 l0_0.length c0_0,.slice A0_1 l0_1.length c0_1,.string a0_2] 38 (0,0))) ∧ (w'.heap[gb149]? = some (.cells #[.slice none 0 0,.slice none 0 0,.string (⟨#[]⟩ : ByteArray)] 38 (0,0))) ∧ (Below w.heap.size w w')) ?_ ?_
   rotate_left
   ·intro hCont
    refine two_ (i:=0) (j:=4) (Ni:=some 3) (Nj:=some 7) #[bT,bT,bT,bf,bf,bT,bT,bf,bf,bf,bf,bf] #[bf,bT,bT,bf,bT,bT,bT,bf,bf,bf,bf,bf] rfl rfl rfl rfl (two_of HT_.out (by kernel_rfl)) (by decide) (by decide) (fun K hK => ?_) (fun K hK => ?_)
    ·skip
     refine Kd.R_lit_step k53 _ 53 ?hg (N:=3) ?hd (xs:=([] : List (S53))) (inner:=[]) (ok:=fun _ => True) (okp:=fun _ => True) ?hr ?hp (fun _ hk => hk) trivial (Below.refl _ _) (Nat.le_refl _) (by simp) ?_;(case hd => rfl);(case hg => rfl);(case hr => first|(go_simp;done)|(go_simp;rfl));(case hp => exact (Reps.none _ _))
     intro v151 w7 ho8 hb hg_ hnew_
     clear hg_ hnew_
     (first|rw [← Ny150.out] at ho8|(simp only [Int.reduceToNat] at ho8;rw [← Ny150.out] at ho8))
     have n0_:=aM (rL ho8 (lZ (by repeat (first|(with_reducible first|exact HB.out|apply lA|apply lN|apply lD|refine lS ?_ GE148.out|refine lS ?_ GE149.out)|exact HB.out))))
     have n1_:=aM (bH BK148.out hb)
     have n2_:=aM (bH BK149.out hb)
     have n3_:=aM (lQ HB.out hb)
     clear BK148
     clear BK149
     clear HB
     have HO152:=n0_
     have BK148:=n1_
     have BK149:=n2_
     have HB:=n3_
     clear n0_ n1_ n2_ n3_
     clear hb ho8
     refine hK.out _ _ ⟨(bC BK148.out 0).trans rfl,(bC BK148.out 1).trans rfl,(bC BK148.out 2).trans rfl⟩ (fun hHeld => ?_)
     clear hK K
     refine norm_ (a':=?_) ?_ ?_
     rotate_left
     ·show Act.put _ (some 3) _ = _
      simp only [Act.put,q_ia3,q_cz3,q_cs3,i64_w,i32_w]
      rfl
     refine two_ (i:=3) (j:=4) (Ni:=some 6) (Nj:=some 7) #[bT,bT,bT,bT,bf,bT,bT,bf,bf,bf,bf,bf] #[bT,bT,bT,bf,bT,bT,bT,bf,bf,bf,bf,bf] rfl rfl rfl rfl (two_of HT_.out (by kernel_rfl)) (by decide) (by decide) (fun K hK => ?_) (fun K hK => ?_)
     ·skip
      refine Kd.R_append_rows_step k53 (w0:=w) w.heap.size (by rfl) (.tmp 3) (.tmp 5) 35 53 (.agg #[(.string ⟨#[]⟩),(.string ⟨#[]⟩)]) 32 rfl Try.underlying35 info53 rfl (by decide) (by omega) v151 y150 l0_0 _ _ _ (fun _ => True) (fun _ => False) rfl rfl ?aO ?aR (fun _ _ h => h) (fun _ h => h.elim) ?aF ?aB ?aS ?aL ?_
      (case aR => repeat (first|exact (cB HR0_0.out HB.out)|(with_reducible first|refine cA ?_ _|refine cN ?_ _|refine cD ?_)))
      (case aB => exact (by repeat (first|(with_reducible first|exact HB.out|apply lA|apply lN|apply lD|refine lS ?_ GE148.out|refine lS ?_ GE149.out)|exact HB.out)))
      (case aF => exact (fun _ _ => trivial))
      (case aO => exact (rZ HO152.out))
      (case aS => exact (lZ (by repeat (first|(with_reducible first|exact HB.out|apply lA|apply lN|apply lD|refine lS ?_ GE148.out|refine lS ?_ GE149.out)|exact HB.out))))
      (case aL => have:=LMc2.out;omega)
      intro v154 w9 ho hb hg hat
      rw [← Ny153.out] at ho
      have n0_:=aM (blk_grown (g:=gb148) (o:=.cells #[.slice A0_0 l0_0.length c0_0,.slice A0_1 l0_1.length c0_1,.string a0_2] 38 (0,0)) (by (with_reducible repeat (first|refine bN ?_ _|refine bD ?_|refine bA ?_ _));exact BK148.out) hg (Kd.R_ne HO152.out BK148.out (by decide)))
      have n1_:=aM (blk_grown (g:=gb149) (o:=.cells #[.slice none 0 0,.slice none 0 0,.string (⟨#[]⟩ : ByteArray)] 38 (0,0)) (by (with_reducible repeat (first|refine bN ?_ _|refine bD ?_|refine bA ?_ _));exact BK149.out) hg (Kd.R_ne HO152.out BK149.out (by decide)))
      have n2_:=aM (hb)
      have n3_:=aM (ho)
      clear BK148
      clear BK149
      clear HB
      clear HO152
      have BK148:=n0_
      have BK149:=n1_
      have HB:=n2_
      have HO155:=n3_
      clear n0_ n1_ n2_ n3_
      clear ho hb hg hat
      refine hK.out _ _ ⟨(bC BK148.out 0).trans rfl,(bC BK148.out 1).trans rfl,(bC BK148.out 2).trans rfl⟩ (fun hHeld => ?_)
      clear hK K
      refine norm_ (a':=?_) ?_ ?_
      rotate_left
      ·show Act.put _ (some 6) _ = _
       simp only [Act.put,q_ia3,q_cz3,q_cs3,i64_w,i32_w]
       rfl
      refine pQ (i:=8) (N:=some 11) (v:=?_) (a':=?_) #[bT,bT,bT,bT,bf,bT,bT,bf,bT,bf,bf,bf] (any_of HT_.out (by kernel_rfl)) ?_ ?_ ?_
      rotate_left
      ·intro w';go_simp;with_reducible rfl
      rotate_left
      ·simp only [Act.put,q_ia3,q_cz3,q_cs3,i64_w,i32_w];rfl
      refine one_ (i:=4) (N:=some 7) #[bT,bT,bT,bT,bT,bT,bT,bf,bT,bf,bf,bf] rfl rfl (one_of HT_.out (by kernel_rfl)) (by decide) (fun K hK => ?_)
      refine Kd.R_lit_step k57 _ 57 ?hg (N:=7) ?hd (xs:=([] : List (S57))) (inner:=[]) (ok:=fun _ => True) (okp:=fun _ => True) ?hr ?hp (fun _ hk => hk) trivial (Below.refl _ _) (Nat.le_refl _) (by simp) ?_;(case hd => rfl);(case hg => rfl);(case hr => first|(go_simp;done)|(go_simp;rfl));(case hp => exact (Reps.none _ _))
      intro v157 w10 ho11 hb hg_ hnew_
      clear hg_ hnew_
      (first|rw [← Ny156.out] at ho11|(simp only [Int.reduceToNat] at ho11;rw [← Ny156.out] at ho11))
      have n0_:=aM (rH HO155.out hb)
      have n1_:=aM (rL ho11 (lZ (by repeat (first|(with_reducible first|exact HB.out|apply lA|apply lN|apply lD|refine lS ?_ GE148.out|refine lS ?_ GE149.out)|exact HB.out))))
      have n2_:=aM (bH BK148.out hb)
      have n3_:=aM (bH BK149.out hb)
      have n4_:=aM (lQ HB.out hb)
      clear HO155
      clear BK148
      clear BK149
      clear HB
      have HO155:=n0_
      have HO158:=n1_
      have BK148:=n2_
      have BK149:=n3_
      have HB:=n4_
      clear n0_ n1_ n2_ n3_ n4_
      clear hb ho11
      refine hK.out _ _ ⟨(bC BK148.out 0).trans rfl,(bC BK148.out 1).trans rfl,(bC BK148.out 2).trans rfl⟩ (fun hHeld => ?_)
      clear hK K
      refine norm_ (a':=?_) ?_ ?_
      rotate_left
      ·show Act.put _ (some 7) _ = _
       simp only [Act.put,q_ia3,q_cz3,q_cs3,i64_w,i32_w]
       rfl
      exact norm_ (by simp only [putAll,Act.put,q_ia3,q_cz3,q_cs3]) (hCont (v151,v154,v157) _ ⟨hHeld,(rZ HO155.out),(rZ HO158.out),(by (with_reducible repeat (first|refine bN ?_ _|refine bD ?_|refine bA ?_ _));exact BK148.out),(by (with_reducible repeat (first|refine bN ?_ _|refine bD ?_|refine bA ?_ _));exact BK149.out),(by repeat (first|(with_reducible first|exact HB.out|apply lA|apply lN|apply lD|refine lS ?_ GE148.out|refine lS ?_ GE149.out)|exact HB.out))⟩)
     ·skip
      refine Kd.R_lit_step k57 _ 57 ?hg (N:=7) ?hd (xs:=([] : List (S57))) (inner:=[]) (ok:=fun _ => True) (okp:=fun _ => True) ?hr ?hp (fun _ hk => hk) trivial (Below.refl _ _) (Nat.le_refl _) (by simp) ?_;(case hd => rfl);(case hg => rfl);(case hr => first|(go_simp;done)|(go_simp;rfl));(case hp => exact (Reps.none _ _))
      intro v157 w9 ho10 hb hg_ hnew_
      clear hg_ hnew_
      (first|rw [← Ny156.out] at ho10|(simp only [Int.reduceToNat] at ho10;rw [← Ny156.out] at ho10))
      have n0_:=aM (rH HO152.out hb)
      have n1_:=aM (rL ho10 (lZ (by repeat (first|(with_reducible first|exact HB.out|apply lA|apply lN|apply lD|refine lS ?_ GE148.out|refine lS ?_ GE149.out)|exact HB.out))))
      have n2_:=aM (bH BK148.out hb)
      have n3_:=aM (bH BK149.out hb)
      have n4_:=aM (lQ HB.out hb)
      clear HO152
      clear BK148
      clear BK149
      clear HB
      have HO152:=n0_
      have HO158:=n1_
      have BK148:=n2_
      have BK149:=n3_
      have HB:=n4_
      clear n0_ n1_ n2_ n3_ n4_
      clear hb ho10
      refine hK.out _ _ ⟨(bC BK148.out 0).trans rfl,(bC BK148.out 1).trans rfl,(bC BK148.out 2).trans rfl⟩ (fun hHeld => ?_)
      clear hK K
      refine norm_ (a':=?_) ?_ ?_
      rotate_left
      ·show Act.put _ (some 7) _ = _
       simp only [Act.put,q_ia3,q_cz3,q_cs3,i64_w,i32_w]
       rfl
      refine one_ (i:=3) (N:=some 6) #[bT,bT,bT,bT,bT,bT,bT,bf,bf,bf,bf,bf] rfl rfl (one_of HT_.out (by kernel_rfl)) (by decide) (fun K hK => ?_)
      refine Kd.R_append_rows_step k53 (w0:=w) w.heap.size (by rfl) (.tmp 3) (.tmp 5) 35 53 (.agg #[(.string ⟨#[]⟩),(.string ⟨#[]⟩)]) 32 rfl Try.underlying35 info53 rfl (by decide) (by omega) v151 y150 l0_0 _ _ _ (fun _ => True) (fun _ => False) rfl rfl ?aO ?aR (fun _ _ h => h) (fun _ h => h.elim) ?aF ?aB ?aS ?aL ?_
      (case aR => repeat (first|exact (cB HR0_0.out HB.out)|(with_reducible first|refine cA ?_ _|refine cN ?_ _|refine cD ?_)))
      (case aB => exact (by repeat (first|(with_reducible first|exact HB.out|apply lA|apply lN|apply lD|refine lS ?_ GE148.out|refine lS ?_ GE149.out)|exact HB.out)))
      (case aF => exact (fun _ _ => trivial))
      (case aO => exact (rZ HO152.out))
      (case aS => exact (lZ (by repeat (first|(with_reducible first|exact HB.out|apply lA|apply lN|apply lD|refine lS ?_ GE148.out|refine lS ?_ GE149.out)|exact HB.out))))
      (case aL => have:=LMc2.out;omega)
      intro v154 w11 ho hb hg hat
      rw [← Ny153.out] at ho
      have n0_:=aM (blk_grown (g:=gb148) (o:=.cells #[.slice A0_0 l0_0.length c0_0,.slice A0_1 l0_1.length c0_1,.string a0_2] 38 (0,0)) (by (with_reducible repeat (first|refine bN ?_ _|refine bD ?_|refine bA ?_ _));exact BK148.out) hg (Kd.R_ne HO152.out BK148.out (by decide)))
      have n1_:=aM (blk_grown (g:=gb149) (o:=.cells #[.slice none 0 0,.slice none 0 0,.string (⟨#[]⟩ : ByteArray)] 38 (0,0)) (by (with_reducible repeat (first|refine bN ?_ _|refine bD ?_|refine bA ?_ _));exact BK149.out) hg (Kd.R_ne HO152.out BK149.out (by decide)))
      have n2_:=aM (Kd.R_over' (rZ HO158.out) (Kd.R_typed (rZ HO152.out)) (by decide) hg)
      have n3_:=aM (hb)
      have n4_:=aM (ho)
      clear BK148
      clear BK149
      clear HO158
      clear HB
      clear HO152
      have BK148:=n0_
      have BK149:=n1_
      have HO158:=n2_
      have HB:=n3_
      have HO155:=n4_
      clear n0_ n1_ n2_ n3_ n4_
      clear ho hb hg hat
      refine hK.out _ _ ⟨(bC BK148.out 0).trans rfl,(bC BK148.out 1).trans rfl,(bC BK148.out 2).trans rfl⟩ (fun hHeld => ?_)
      clear hK K
      refine norm_ (a':=?_) ?_ ?_
      rotate_left
      ·show Act.put _ (some 6) _ = _
       simp only [Act.put,q_ia3,q_cz3,q_cs3,i64_w,i32_w]
       rfl
      refine pQ (i:=8) (N:=some 11) (v:=?_) (a':=?_) #[bT,bT,bT,bT,bT,bT,bT,bf,bT,bf,bf,bf] (any_of HT_.out (by kernel_rfl)) ?_ ?_ ?_
      rotate_left
      ·intro w';go_simp;with_reducible rfl
      rotate_left
      ·simp only [Act.put,q_ia3,q_cz3,q_cs3,i64_w,i32_w];rfl
      exact norm_ (by simp only [putAll,Act.put,q_ia3,q_cz3,q_cs3]) (hCont (v151,v154,v157) _ ⟨hHeld,(rZ HO155.out),(rZ HO158.out),(by (with_reducible repeat (first|refine bN ?_ _|refine bD ?_|refine bA ?_ _));exact BK148.out),(by (with_reducible repeat (first|refine bN ?_ _|refine bD ?_|refine bA ?_ _));exact BK149.out),(by repeat (first|(with_reducible first|exact HB.out|apply lA|apply lN|apply lD|refine lS ?_ GE148.out|refine lS ?_ GE149.out)|exact HB.out))⟩)
    ·skip
     refine Kd.R_lit_step k57 _ 57 ?hg (N:=7) ?hd (xs:=([] : List (S57))) (inner:=[]) (ok:=fun _ => True) (okp:=fun _ => True) ?hr ?hp (fun _ hk => hk) trivial (Below.refl _ _) (Nat.le_refl _) (by simp) ?_;(case hd => rfl);(case hg => rfl);(case hr => first|(go_simp;done)|(go_simp;rfl));(case hp => exact (Reps.none _ _))
     intro v157 w7 ho8 hb hg_ hnew_
     clear hg_ hnew_
     (first|rw [← Ny156.out] at ho8|(simp only [Int.reduceToNat] at ho8;rw [← Ny156.out] at ho8))
     have n0_:=aM (rL ho8 (lZ (by repeat (first|(with_reducible first|exact HB.out|apply lA|apply lN|apply lD|refine lS ?_ GE148.out|refine lS ?_ GE149.out)|exact HB.out))))
     have n1_:=aM (bH BK148.out hb)
     have n2_:=aM (bH BK149.out hb)
     have n3_:=aM (lQ HB.out hb)
     clear BK148
     clear BK149
     clear HB
     have HO158:=n0_
     have BK148:=n1_
     have BK149:=n2_
     have HB:=n3_
     clear n0_ n1_ n2_ n3_
     clear hb ho8
     refine hK.out _ _ ⟨(bC BK148.out 0).trans rfl,(bC BK148.out 1).trans rfl,(bC BK148.out 2).trans rfl⟩ (fun hHeld => ?_)
     clear hK K
     refine norm_ (a':=?_) ?_ ?_
     rotate_left
     ·show Act.put _ (some 7) _ = _
      simp only [Act.put,q_ia3,q_cz3,q_cs3,i64_w,i32_w]
      rfl
     refine one_ (i:=0) (N:=some 3) #[bT,bT,bT,bf,bT,bT,bT,bf,bf,bf,bf,bf] rfl rfl (one_of HT_.out (by kernel_rfl)) (by decide) (fun K hK => ?_)
     refine Kd.R_lit_step k53 _ 53 ?hg (N:=3) ?hd (xs:=([] : List (S53))) (inner:=[]) (ok:=fun _ => True) (okp:=fun _ => True) ?hr ?hp (fun _ hk => hk) trivial (Below.refl _ _) (Nat.le_refl _) (by simp) ?_;(case hd => rfl);(case hg => rfl);(case hr => first|(go_simp;done)|(go_simp;rfl));(case hp => exact (Reps.none _ _))
     intro v151 w9 ho10 hb hg_ hnew_
     clear hg_ hnew_
     (first|rw [← Ny150.out] at ho10|(simp only [Int.reduceToNat] at ho10;rw [← Ny150.out] at ho10))
     have n0_:=aM (rH HO158.out hb)
     have n1_:=aM (rL ho10 (lZ (by repeat (first|(with_reducible first|exact HB.out|apply lA|apply lN|apply lD|refine lS ?_ GE148.out|refine lS ?_ GE149.out)|exact HB.out))))
     have n2_:=aM (bH BK148.out hb)
     have n3_:=aM (bH BK149.out hb)
     have n4_:=aM (lQ HB.out hb)
     clear HO158
     clear BK148
     clear BK149
     clear HB
     have HO158:=n0_
     have HO152:=n1_
     have BK148:=n2_
     have BK149:=n3_
     have HB:=n4_
     clear n0_ n1_ n2_ n3_ n4_
     clear hb ho10
     refine hK.out _ _ ⟨(bC BK148.out 0).trans rfl,(bC BK148.out 1).trans rfl,(bC BK148.out 2).trans rfl⟩ (fun hHeld => ?_)
     clear hK K
     refine norm_ (a':=?_) ?_ ?_
     rotate_left
     ·show Act.put _ (some 3) _ = _
      simp only [Act.put,q_ia3,q_cz3,q_cs3,i64_w,i32_w]
      rfl
     refine one_ (i:=3) (N:=some 6) #[bT,bT,bT,bT,bT,bT,bT,bf,bf,bf,bf,bf] rfl rfl (one_of HT_.out (by kernel_rfl)) (by decide) (fun K hK => ?_)
     refine Kd.R_append_rows_step k53 (w0:=w) w.heap.size (by rfl) (.tmp 3) (.tmp 5) 35 53 (.agg #[(.string ⟨#[]⟩),(.string ⟨#[]⟩)]) 32 rfl Try.underlying35 info53 rfl (by decide) (by omega) v151 y150 l0_0 _ _ _ (fun _ => True) (fun _ => False) rfl rfl ?aO ?aR (fun _ _ h => h) (fun _ h => h.elim) ?aF ?aB ?aS ?aL ?_
     (case aR => repeat (first|exact (cB HR0_0.out HB.out)|(with_reducible first|refine cA ?_ _|refine cN ?_ _|refine cD ?_)))
     (case aB => exact (by repeat (first|(with_reducible first|exact HB.out|apply lA|apply lN|apply lD|refine lS ?_ GE148.out|refine lS ?_ GE149.out)|exact HB.out)))
     (case aF => exact (fun _ _ => trivial))
     (case aO => exact (rZ HO152.out))
     (case aS => exact (lZ (by repeat (first|(with_reducible first|exact HB.out|apply lA|apply lN|apply lD|refine lS ?_ GE148.out|refine lS ?_ GE149.out)|exact HB.out))))
     (case aL => have:=LMc2.out;omega)
     intro v154 w11 ho hb hg hat
     rw [← Ny153.out] at ho
     have n0_:=aM (blk_grown (g:=gb148) (o:=.cells #[.slice A0_0 l0_0.length c0_0,.slice A0_1 l0_1.length c0_1,.string a0_2] 38 (0,0)) (by (with_reducible repeat (first|refine bN ?_ _|refine bD ?_|refine bA ?_ _));exact BK148.out) hg (Kd.R_ne HO152.out BK148.out (by decide)))
     have n1_:=aM (blk_grown (g:=gb149) (o:=.cells #[.slice none 0 0,.slice none 0 0,.string (⟨#[]⟩ : ByteArray)] 38 (0,0)) (by (with_reducible repeat (first|refine bN ?_ _|refine bD ?_|refine bA ?_ _));exact BK149.out) hg (Kd.R_ne HO152.out BK149.out (by decide)))
     have n2_:=aM (Kd.R_over' (rZ HO158.out) (Kd.R_typed (rZ HO152.out)) (by decide) hg)
     have n3_:=aM (hb)
     have n4_:=aM (ho)
     clear BK148
     clear BK149
     clear HO158
     clear HB
     clear HO152
     have BK148:=n0_
     have BK149:=n1_
     have HO158:=n2_
     have HB:=n3_
     have HO155:=n4_
     clear n0_ n1_ n2_ n3_ n4_
     clear ho hb hg hat
     refine hK.out _ _ ⟨(bC BK148.out 0).trans rfl,(bC BK148.out 1).trans rfl,(bC BK148.out 2).trans rfl⟩ (fun hHeld => ?_)
     clear hK K
     refine norm_ (a':=?_) ?_ ?_
     rotate_left
     ·show Act.put _ (some 6) _ = _
      simp only [Act.put,q_ia3,q_cz3,q_cs3,i64_w,i32_w]
      rfl
     refine pQ (i:=8) (N:=some 11) (v:=?_) (a':=?_) #[bT,bT,bT,bT,bT,bT,bT,bf,bT,bf,bf,bf] (any_of HT_.out (by kernel_rfl)) ?_ ?_ ?_
     rotate_left
     ·intro w';go_simp;with_reducible rfl
     rotate_left
     ·simp only [Act.put,q_ia3,q_cz3,q_cs3,i64_w,i32_w];rfl
     exact norm_ (by simp only [putAll,Act.put,q_ia3,q_cz3,q_cs3]) (hCont (v151,v154,v157) _ ⟨hHeld,(rZ HO155.out),(rZ HO158.out),(by (with_reducible repeat (first|refine bN ?_ _|refine bD ?_|refine bA ?_ _));exact BK148.out),(by (with_reducible repeat (first|refine bN ?_ _|refine bD ?_|refine bA ?_ _));exact BK149.out),(by repeat (first|(with_reducible first|exact HB.out|apply lA|apply lN|apply lD|refine lS ?_ GE148.out|refine lS ?_ GE149.out)|exact HB.out))⟩)
   rintro ⟨v151,v154,v157⟩ w12 ⟨hS_,h0_,h1_,h2_,h3_,h4_⟩
   have n0_ : Aside0 (Kd.R k53 53 w12 w.heap.size (fun _ => True) v154 y153):=⟨h0_⟩
   have n1_ : Aside0 (Kd.R k57 57 w12 w.heap.size (fun _ => True) v157 y156):=⟨h1_⟩
   have n2_ : Aside0 (w12.heap[gb148]? = some (.cells #[.slice A0_0 l0_0.length c0_0,.slice A0_1 l0_1.length c0_1,.string a0_2] 38 (0,0))):=⟨h2_⟩
   have n3_ : Aside0 (w12.heap[gb149]? = some (.cells #[.slice none 0 0,.slice none 0 0,.string (⟨#[]⟩ : ByteArray)] 38 (0,0))):=⟨h3_⟩
   have n4_ : Aside0 (Below w.heap.size w w12):=⟨h4_⟩
   clear BK148
   clear BK149
   clear HB
   clear h0_ h1_ h2_ h3_ h4_
   have HO155:=n0_
   have HO158:=n1_
   have BK148:=n2_
   have BK149:=n3_
   have HB:=n4_
   clear n0_ n1_ n2_ n3_ n4_
   have hHeld : w12.cell? ⟨gb148,0,none⟩ = some (.slice A0_0 l0_0.length c0_0) ∧ w12.cell? ⟨gb148,1,none⟩ = some (.slice A0_1 l0_1.length c0_1) ∧ w12.cell? ⟨gb148,2,none⟩ = some (.string a0_2):=hS_
   refine norm_ (a':=?_) ?_ ?_
   rotate_left
   ·simp only [putAll,Act.put,q_ia3,q_cz3,q_cs3];rfl
   refine one_ (i:=7) (N:=some 10) #[bT,bT,bT,bT,bT,bT,bT,bT,bT,bf,bf,bf] rfl rfl (one_of HT_.out (by kernel_rfl)) (by decide) (fun K hK => ?_)
   refine Kd.R_append_rows_step k57 (w0:=w) w.heap.size (by rfl) (.tmp 7) (.tmp 9) 36 57 (.agg #[(.string ⟨#[]⟩),(.string ⟨#[]⟩),(.string ⟨#[]⟩)]) 48 rfl Try.underlying36 info57 rfl (by decide) (by omega) v157 y156 l0_1 _ _ _ (fun _ => True) (fun _ => False) rfl rfl ?aO ?aR (fun _ _ h => h) (fun _ h => h.elim) ?aF ?aB ?aS ?aL ?_
   (case aR => repeat (first|exact (cB HR0_1.out HB.out)|(with_reducible first|refine cA ?_ _|refine cN ?_ _|refine cD ?_)))
   (case aB => exact (by repeat (first|(with_reducible first|exact HB.out|apply lA|apply lN|apply lD|refine lS ?_ GE148.out|refine lS ?_ GE149.out)|exact HB.out)))
   (case aF => exact (fun _ _ => trivial))
   (case aO => exact (rZ HO158.out))
   (case aS => exact (lZ (by repeat (first|(with_reducible first|exact HB.out|apply lA|apply lN|apply lD|refine lS ?_ GE148.out|refine lS ?_ GE149.out)|exact HB.out))))
   (case aL => have:=LMc3.out;omega)
   intro v160 w13 ho hb hg hat
   rw [← Ny159.out] at ho
   have n0_:=aM (blk_grown (g:=gb148) (o:=.cells #[.slice A0_0 l0_0.length c0_0,.slice A0_1 l0_1.length c0_1,.string a0_2] 38 (0,0)) (by (with_reducible repeat (first|refine bN ?_ _|refine bD ?_|refine bA ?_ _));exact BK148.out) hg (Kd.R_ne HO158.out BK148.out (by decide)))
   have n1_:=aM (blk_grown (g:=gb149) (o:=.cells #[.slice none 0 0,.slice none 0 0,.string (⟨#[]⟩ : ByteArray)] 38 (0,0)) (by (with_reducible repeat (first|refine bN ?_ _|refine bD ?_|refine bA ?_ _));exact BK149.out) hg (Kd.R_ne HO158.out BK149.out (by decide)))
   have n2_:=aM (Kd.R_over' (rZ HO155.out) (Kd.R_typed (rZ HO158.out)) (by decide) hg)
   have n3_:=aM (hb)
   have n4_:=aM (ho)
   clear BK148
   clear BK149
   clear HO155
   clear HB
   clear HO158
   have BK148:=n0_
   have BK149:=n1_
   have HO155:=n2_
   have HB:=n3_
   have HO161:=n4_
   clear n0_ n1_ n2_ n3_ n4_
   clear ho hb hg hat
   obtain ⟨Ao14,co14,eo14⟩:=Kd.R_slice HO155.out
   (first|subst eo14|(injection eo14 with f1_ f2_ f3_;have f4_:=f1_.symm;have f5_:=f3_.symm;clear f1_ f2_ f3_;subst f4_;subst f5_))
   obtain ⟨Ao16,co16,eo16⟩:=Kd.R_slice HO161.out
   (first|subst eo16|(injection eo16 with f1_ f2_ f3_;have f4_:=f1_.symm;have f5_:=f3_.symm;clear f1_ f2_ f3_;subst f4_;subst f5_))
   refine hK.out _ _ ⟨(bC BK148.out 0).trans rfl,(bC BK148.out 1).trans rfl,(bC BK148.out 2).trans rfl⟩ (fun hHeld => ?_)
   clear hK K
   refine norm_ (a':=?_) ?_ ?_
   rotate_left
   ·show Act.put _ (some 10) _ = _
    simp only [Act.put,q_ia3,q_cz3,q_cs3,i64_w,i32_w]
    rfl
   refine last_ (i:=9) (N:=none) #[bT,bT,bT,bT,bT,bT,bT,bT,bT,bT,bf,bf] rfl rfl (one_of HT_.out (by kernel_rfl)) (by decide) (fun K hK => ?_)
   have hs15 : w13.cell? ⟨gb148,0,none⟩ = some (.slice A0_0 l0_0.length c0_0):=(bC BK148.out 0).trans rfl
   have hfs15:=bF BK148.out 0
   have hns15_1:=NB149_148.out
   have hms15_1:=NB148_149.out
   refine skip_ (w1:=?_) (by rfl) rfl ?_ ?_
   rotate_left
   ·go_simp
    rfl
   refine hK.out _ _ ?_
   clear hK K
   refine pQ (i:=10) (N:=some 12) (v:=?_) (a':=?_) #[bT,bT,bT,bT,bT,bT,bT,bT,bT,bT,bT,bf] (any_of HT_.out (by kernel_rfl)) ?_ ?_ ?_
   rotate_left
   ·intro w';go_simp;with_reducible rfl
   rotate_left
   ·simp only [Act.put,q_ia3,q_cz3,q_cs3,i64_w,i32_w];rfl
   refine last_ (i:=11) (N:=none) #[bT,bT,bT,bT,bT,bT,bT,bT,bT,bT,bT,bT] rfl rfl (one_of HT_.out (by kernel_rfl)) (by decide) (fun K hK => ?_)
   have hs17 : w13.cell? ⟨gb148,1,none⟩ = some (.slice A0_1 l0_1.length c0_1):=(bC BK148.out 1).trans rfl
   have hfs17:=bF BK148.out 1
   have hns17_1:=NB149_148.out
   have hms17_1:=NB148_149.out
   refine skip_ (w1:=?_) (by rfl) rfl ?_ ?_
   rotate_left
   ·go_simp
    rfl
   refine hK.out _ _ ?_
   clear hK K
   refine done_ (done_of HT_.out (by kernel_rfl)) ?_
   have hnb18:=NB148_149.out
   have hnc18:=NB149_148.out
   obtain ⟨⟨hcz19_0,hcz19_1,hcz19_2⟩,hfz19_0,hfz19_1,hfz19_2⟩:=bC3 BK148.out
   obtain ⟨⟨hcz20_0,hcz20_1,hcz20_2⟩,hfz20_0,hfz20_1,hfz20_2⟩:=bC3 BK149.out
   try go_wp2
   refine bodyPost_ret (results_cell_row rfl _ _ gb149 38 #[.slice Ao14 y153.length co14,.slice Ao16 y159.length co16,.string a0_2] (0,0) _ rfl (by (with_reducible repeat (first|refine bN ?_ _|refine bD ?_|refine bA ?_ _));refine blk_put (cs:=#[.slice Ao14 y153.length co14,.slice Ao16 y159.length co16,.string (⟨#[]⟩ : ByteArray)]) ?_ 2 _ rfl;(with_reducible repeat (first|refine bN ?_ _|refine bD ?_|refine bA ?_ _));refine blk_put (cs:=#[.slice Ao14 y153.length co14,.slice none 0 0,.string (⟨#[]⟩ : ByteArray)]) ?_ 1 _ rfl;(with_reducible repeat (first|refine bN ?_ _|refine bD ?_|refine bA ?_ _));refine blk_put (cs:=#[.slice none 0 0,.slice none 0 0,.string (⟨#[]⟩ : ByteArray)]) ?_ 0 _ rfl;(with_reducible repeat (first|refine bN ?_ _|refine bD ?_|refine bA ?_ _));refine blk_far ?_ NB149_148.out _;(with_reducible repeat (first|refine bN ?_ _|refine bD ?_|refine bA ?_ _));refine blk_far ?_ NB149_148.out _;(with_reducible repeat (first|refine bN ?_ _|refine bD ?_|refine bA ?_ _));exact BK149.out) Try.underlying38 rfl (by kernel_rfl)) rfl ?_
   exact ⟨_,_,by first|rfl|(simp [errW_none,errW_some] <;> rfl)|(simp [*,errW_none,errW_some] <;> rfl),by (with_reducible repeat (first|apply rA|apply rN|apply rD));exact Kd.R_mono (rF (rF (rF (rF (rF (rY (rY HO155.out BK148.out (by decide)) BK149.out (by decide)) (fun _ hk => hk.1.2) _) (fun _ hk => hk.1.2) _) (fun _ hk => hk.2) _) (fun _ hk => hk.2) _) (fun _ hk => hk.2) _) (fun _ hk => trivial),by (with_reducible repeat (first|apply rA|apply rN|apply rD));exact Kd.R_mono (rF (rF (rF (rF (rF (rY (rY HO161.out BK148.out (by decide)) BK149.out (by decide)) (fun _ hk => hk.1.2) _) (fun _ hk => hk.1.2) _) (fun _ hk => hk.2) _) (fun _ hk => hk.2) _) (fun _ hk => hk.2) _) (fun _ hk => trivial),by repeat (first|(with_reducible first|exact HB.out|apply lA|apply lN|apply lD|refine lS ?_ GE148.out|refine lS ?_ GE149.out)|exact HB.out)⟩
  ·rw [if_neg c3] at H
   exact absurd H (by simp)
 ·rw [if_neg c2] at H
  exact absurd H (by simp)

/-! ### strings_Compare: function 85 -/
def strings_Compare.f (a0 : ByteArray) (a1 : ByteArray) : Option (Int):=some (Go.Lib.compareBytes a0.data.toList a1.data.toList)
theorem strings_Compare.calls (a0 : ByteArray) (a1 : ByteArray) (r : Int) (w : World) (h : strings_Compare.f a0 a1 = some r) :
  Calls Try.prog 85 #[.string a0,.string a1] w fun e w' => e = .returned (.int .i64 r) ∧ Drawn0 w w':=by
 obtain rfl:=Option.some.inj h
 refine (Try.strings_Compare a0 a1 w).mono ?_
 rintro e w' ⟨rfl,rfl⟩
 exact ⟨rfl,Drawn0.refl _⟩

/-! ### impl_byKey: function 70 -/
def impl_byKey.f (a0_0 : ByteArray) (a0_1 : ByteArray) (a0_2 : ByteArray) (a1_0 : ByteArray) (a1_1 : ByteArray) (a1_2 : ByteArray) : Option (Int):=if a0_0.toList = a1_0.toList then ((strings_Compare.f a0_1 a1_1).bind fun t164 => (some t164)) else ((strings_Compare.f a0_0 a1_0).bind fun t165 => (some t165))
set_option maxHeartbeats 8000000 in
set_option maxRecDepth 100000 in
theorem impl_byKey.calls (a0_0 : ByteArray) (a0_1 : ByteArray) (a0_2 : ByteArray) (a1_0 : ByteArray) (a1_1 : ByteArray) (a1_2 : ByteArray) (r : Int) (w : World) (h : impl_byKey.f a0_0 a0_1 a0_2 a1_0 a1_1 a1_2 = some r) :
  Calls Try.prog 70 #[.agg #[.string a0_0,.string a0_1,.string a0_2],.agg #[.string a1_0,.string a1_1,.string a1_2]] w fun e w' => e = .returned (.int .i64 r) ∧ Below w.heap.size w w':=by
 have hu57:=Try.underlying57
 have HB:=aM (Below.refl w.heap.size w)
 have H : (if a0_0.toList = a1_0.toList then ((strings_Compare.f a0_1 a1_1).bind fun t164 => (some t164)) else ((strings_Compare.f a0_0 a1_0).bind fun t165 => (some t165))) = some r:=h
 clear h
 by_cases c3 : a0_0.toList = a1_0.toList
 ·rw [if_pos c3] at H
  have c3b0 : (a0_0.toList == a1_0.toList) = true:=beq_iff_eq.mpr c3
  have c3b1 : (a0_0.toList != a1_0.toList) = false:=bne_eq_false_iff_eq.mpr c3
  clear c3
  replace H:=Option.bind_eq_some_iff.mp H
  obtain ⟨t164,A40,H⟩:=H
  replace H : (some t164) = some r:=H
  have A4:=aM A40
  clear A40
  obtain rfl:=Option.some.inj H
  go_enter Try.func70,Try.ntmps70
  go_wp2_with (first|((with_reducible refine gate_dst (N:=2) rfl ?_);refine box_event ?hg (N:=2) ?hd (cs:=#[.string a0_0,.string a0_1,.string a0_2]) (t:=57) ?hr ?_;(case hd => rfl);(case hg => rfl);(case hr => first|(go_simp;done)|(go_simp;rfl));intro gb162 hg w5 hbox hb;have n0_:=aM (lQ HB.out hb);have n1_:=aM (hbox);have n2_:=aM ((sQ hg HB.out : w.heap.size ≤ gb162));have n3_:=n2_;clear HB;have HB:=n0_;have BK162:=n1_;have GW162:=n2_;have GE162:=n3_;clear n0_ n1_ n2_ n3_ hb hbox hg)|((with_reducible refine gate_dst (N:=3) rfl ?_);refine box_event ?hg (N:=3) ?hd (cs:=#[.string a1_0,.string a1_1,.string a1_2]) (t:=57) ?hr ?_;(case hd => rfl);(case hg => rfl);(case hr => first|(go_simp;done)|(go_simp;rfl));intro gb163 hg w6 hbox hb;have n0_:=aM (bH BK162.out hb);have n1_:=aM (lQ HB.out hb);have n2_:=aM (hbox);have n3_:=aM ((sQ hg HB.out : w.heap.size ≤ gb163));have n4_:=n3_;have n5_:=aM ((nL hg BK162.out : gb162 ≠ gb163));have n6_:=aM ((nG hg BK162.out : gb163 ≠ gb162));clear BK162 HB;have BK162:=n0_;have HB:=n1_;have BK163:=n2_;have GW163:=n3_;have GE163:=n4_;have NB162_163:=n5_;have NB163_162:=n6_;clear n0_ n1_ n2_ n3_ n4_ n5_ n6_ hb hbox hg;have hnb7:=NB162_163.out;have hnc7:=NB163_162.out;obtain ⟨⟨hcz8_0,hcz8_1,hcz8_2⟩,hfz8_0,hfz8_1,hfz8_2⟩:=bC3 BK162.out;obtain ⟨⟨hcz9_0,hcz9_1,hcz9_2⟩,hfz9_0,hfz9_1,hfz9_2⟩:=bC3 BK163.out)|((with_reducible refine gate_callee (f:=85) rfl ?_);refine goesL_ (some 19) rfl rfl Try.func85 (by kernel_rfl) rfl #[.string a0_1,.string a1_1] rfl (by (try simp only [List.map_toArray,List.map_cons,List.map_nil]);first|done|rfl|(simp only [List.length_drop,List.length_take];rfl)) ?_;(with_reducible refine (strings_Compare.calls a0_1 a1_1 t164 _ A4.out).mono ?_);rintro e w' ⟨rfl,⟨nd,rfl⟩⟩;refine ⟨_,rfl,?_⟩))
  go_ret
  exact ⟨by first|rfl|(simp [errW_none,errW_some] <;> rfl)|(simp [*,errW_none,errW_some] <;> rfl),by repeat (first|(with_reducible first|exact HB.out|apply lA|apply lN|apply lD|refine lS ?_ GE162.out|refine lS ?_ GE163.out)|exact HB.out)⟩
 ·rw [if_neg c3] at H
  have c3b0 : (a0_0.toList == a1_0.toList) = false:=beq_eq_false_iff_ne.mpr c3
  have c3b1 : (a0_0.toList != a1_0.toList) = true:=bne_iff_ne.mpr c3
  replace H:=Option.bind_eq_some_iff.mp H
  obtain ⟨t165,A100,H⟩:=H
  replace H : (some t165) = some r:=H
  have A10:=aM A100
  clear A100
  obtain rfl:=Option.some.inj H
  go_enter Try.func70,Try.ntmps70
  go_wp2_with (first|((with_reducible refine gate_dst (N:=2) rfl ?_);refine box_event ?hg (N:=2) ?hd (cs:=#[.string a0_0,.string a0_1,.string a0_2]) (t:=57) ?hr ?_;(case hd => rfl);(case hg => rfl);(case hr => first|(go_simp;done)|(go_simp;rfl));intro gb162 hg w11 hbox hb;have n0_:=aM (lQ HB.out hb);have n1_:=aM (hbox);have n2_:=aM ((sQ hg HB.out : w.heap.size ≤ gb162));have n3_:=n2_;clear HB;have HB:=n0_;have BK162:=n1_;have GW162:=n2_;have GE162:=n3_;clear n0_ n1_ n2_ n3_ hb hbox hg)|((with_reducible refine gate_dst (N:=3) rfl ?_);refine box_event ?hg (N:=3) ?hd (cs:=#[.string a1_0,.string a1_1,.string a1_2]) (t:=57) ?hr ?_;(case hd => rfl);(case hg => rfl);(case hr => first|(go_simp;done)|(go_simp;rfl));intro gb163 hg w12 hbox hb;have n0_:=aM (bH BK162.out hb);have n1_:=aM (lQ HB.out hb);have n2_:=aM (hbox);have n3_:=aM ((sQ hg HB.out : w.heap.size ≤ gb163));have n4_:=n3_;have n5_:=aM ((nL hg BK162.out : gb162 ≠ gb163));have n6_:=aM ((nG hg BK162.out : gb163 ≠ gb162));clear BK162 HB;have BK162:=n0_;have HB:=n1_;have BK163:=n2_;have GW163:=n3_;have GE163:=n4_;have NB162_163:=n5_;have NB163_162:=n6_;clear n0_ n1_ n2_ n3_ n4_ n5_ n6_ hb hbox hg;have hnb13:=NB162_163.out;have hnc13:=NB163_162.out;obtain ⟨⟨hcz14_0,hcz14_1,hcz14_2⟩,hfz14_0,hfz14_1,hfz14_2⟩:=bC3 BK162.out;obtain ⟨⟨hcz15_0,hcz15_1,hcz15_2⟩,hfz15_0,hfz15_1,hfz15_2⟩:=bC3 BK163.out)|((with_reducible refine gate_callee (f:=85) rfl ?_);refine goesL_ (some 14) rfl rfl Try.func85 (by kernel_rfl) rfl #[.string a0_0,.string a1_0] rfl (by (try simp only [List.map_toArray,List.map_cons,List.map_nil]);first|done|rfl|(simp only [List.length_drop,List.length_take];rfl)) ?_;(with_reducible refine (strings_Compare.calls a0_0 a1_0 t165 _ A10.out).mono ?_);rintro e w' ⟨rfl,⟨nd,rfl⟩⟩;refine ⟨_,rfl,?_⟩))
  go_ret
  exact ⟨by first|rfl|(simp [errW_none,errW_some] <;> rfl)|(simp [*,errW_none,errW_some] <;> rfl),by repeat (first|(with_reducible first|exact HB.out|apply lA|apply lN|apply lD|refine lS ?_ GE162.out|refine lS ?_ GE163.out)|exact HB.out)⟩

end Go.Proofs.Ytodpkfidkilpdaa.QFnCells
