-- A text of this session, made by wip/own_print.py (the kit's print with additions of ours).
import Derived.Test.YtodpkfidkilpdaaQFnCellsx0
namespace Go.Proofs.Ytodpkfidkilpdaa.QFnCells
open Go.RowKit Go.Proofs.YtodpkfidkilpdaaW.PrintWords Go.Proofs.YtodpkfidkilpdaaW.PrintLast Go.Proofs.YtodpkfidkilpdaaW.PrintMore
attribute [local go_sem] max2_int min2_int max_two min_two max_three min_three max_four min_four   -- for this text's walks alone
set_option linter.unusedVariables false
set_option linter.unusedSimpArgs false
open Bool renaming true → bT, false → bf
open Go.Proofs.YtodpkfidkilpdaaW.PrintWords.Kd renaming R_alloc → rA, R_drewN → rN, R_drew → rD, C_alloc → cA, C_drewN → cN, C_drew → cD, R_far → rF, R_below → rB, R_lower → rL, R_lt → rT, R_base → rS, C_below → cB, R_types → rY, R_elder' → rE, R_reads' → rR, R_new' → rW
open Go.Proofs.YtodpkfidkilpdaaW.PrintWords renaming blk_drewN → bN, blk_drew → bD, blk_alloc → bA, below_set → lS, pw_below_drewN → lN, below_drew1 → lD, below_alloc → lA, blk_cell → bC, blk_below → bB, below_size → lZ, below_step → lP, blk_lt → bL, blk_frozen → bF
open Go.Proofs.YtodpkfidkilpdaaW.PrintWords.Aside0 renaming mk → aM
theorem q_ia1 {α : Type} (l : List α) (i : Nat) (a : α) : l.toArray.setIfInBounds i a = (l.set i a).toArray := List.setIfInBounds_toArray ..
theorem q_cz1 {α : Type} (a b : α) (l : List α) : (a :: l).set 0 b = b :: l := rfl
theorem q_cs1 {α : Type} (a b : α) (l : List α) (n : Nat) : (a :: l).set (n + 1) b = a :: l.set n b := rfl

/-! ### laws_big: function 16 -/
def laws_big.f (l0 : List Int) : Option (Bool) := some (decide ((l0.length : Int) > 1048576))
set_option maxHeartbeats 8000000 in
set_option maxRecDepth 100000 in
theorem laws_big.calls (A0 : Option Addr) (c0 : Nat) (l0 : List Int) (r : Bool) (w : World) (hr0 : Kd.C (Kd.int .u8) w A0 l0.length l0) (hc0 : l0.length ≤ c0) (h : laws_big.f l0 = some r) :
  Calls Try.prog 16 #[.slice A0 l0.length c0] w fun e w' => e = .returned (.bool r) ∧ Drawn0 w w':=by
 have HR0:=aM hr0
 have HC0:=aM hc0
 clear hr0 hc0
 have H : (some (decide ((l0.length : Int) > 1048576))) = some r:=h
 clear h
 obtain rfl:=Option.some.inj H
 go_enter Try.func16,Try.ntmps16
 go_wp2
 go_ret
 exact ⟨by first|rfl|(simp;done)|(simp [*];done),by repeat (first|exact Drawn0.refl _|apply Drawn0.step)⟩

/-! ### spec_Cut: function 39 -/
def spec_Cut.f (a0 : ByteArray) : Option (ByteArray):=if (a0.size : Int) > 40 then (if 0 ≤ 40 then (if 40 ≤ (a0.size : Int) then (some (a0.extract 0 40)) else (none)) else (none)) else (some a0)
set_option maxHeartbeats 8000000 in
set_option maxRecDepth 100000 in
theorem spec_Cut.calls (a0 : ByteArray) (r : ByteArray) (w : World) (h : spec_Cut.f a0 = some r) :
  Calls Try.prog 39 #[.string a0] w fun e w' => e = .returned (.string r) ∧ Drawn0 w w':=by
 have H : (if (a0.size : Int) > 40 then (if 0 ≤ 40 then (if 40 ≤ (a0.size : Int) then (some (a0.extract 0 40)) else (none)) else (none)) else (some a0)) = some r:=h
 clear h
 by_cases c2 : (a0.size : Int) > 40
 ·rw [if_pos c2] at H
  have c2b0 : decide (40 < (a0.size : Int)) = true:=decide_eq_true c2
  have c2b1 : decide (40 < a0.size) = true:=decide_eq_true (by omega)
  clear c2
  by_cases c3 : 0 ≤ 40
  ·rw [if_pos c3] at H
   have c3b0:=eq_true c3
   have c3b1 : decide (0 ≤ 40) = true:=decide_eq_true c3
   clear c3
   by_cases c4 : 40 ≤ (a0.size : Int)
   ·rw [if_pos c4] at H
    have c4b0:=eq_true c4
    have c4b1 : decide (40 ≤ (a0.size : Int)) = true:=decide_eq_true c4
    clear c4
    obtain rfl:=Option.some.inj H
    go_enter Try.func39,Try.ntmps39
    go_wp2
    go_ret
    exact ⟨by first|rfl|(simp;done)|(simp [*];done),by repeat (first|exact Drawn0.refl _|apply Drawn0.step)⟩
   ·rw [if_neg c4] at H
    exact absurd H (by simp)
  ·rw [if_neg c3] at H
   exact absurd H (by simp)
 ·rw [if_neg c2] at H
  have c2b0 : decide (40 < (a0.size : Int)) = false:=decide_eq_false c2
  have c2b1 : decide (40 < a0.size) = false:=decide_eq_false (by omega)
  clear c2
  obtain rfl:=Option.some.inj H
  go_enter Try.func39,Try.ntmps39
  go_wp2
  go_ret
  exact ⟨by first|rfl|(simp;done)|(simp [*];done),by repeat (first|exact Drawn0.refl _|apply Drawn0.step)⟩

/-! ### spec_l08Copy: function 50 -/
def spec_l08Copy.f (l0_0 : List (S53)) (l0_1 : List (S57)) (a0_2 : ByteArray) : Option ((List (S53)) × (List (S57)) × ByteArray):=(some (([] : List (S53)) : List (S53))).bind fun y103 => (if y103.length + l0_0.length < 4398046511104 then ((some (([] : List (S57)) : List (S57))).bind fun y109 => (if y109.length + l0_1.length < 2932031007402 then (some ((y103 ++ l0_0),(y109 ++ l0_1),a0_2)) else (none))) else (none))
def spec_l08Copy.T1 : Bool × List (List Nat × List Nat):=(true,[([],[]),([],[]),([1],[1]),([0,2],[0,2]),([],[]),([],[]),([5],[5]),([4,6,3],[4,6]),([],[]),([8],[8]),([3,7,9],[3,7,9]),([10,7,0,1,2,3,4,5,6,7,8,9,10],[10])])
def spec_l08Copy.B1 : List Nat:=[0,0,2,7,0,0,32,127,0,256,1023,2047]
theorem spec_l08Copy.tab1 : rtab .any (opsOf Try.f50 1) = spec_l08Copy.T1:=by kernel_rfl
theorem spec_l08Copy.bits1 : waitsOk spec_l08Copy.T1.2 spec_l08Copy.B1 = true:=by kernel_rfl
set_option maxHeartbeats 8000000 in
set_option maxRecDepth 100000 in
theorem spec_l08Copy.calls (A0_0 : Option Addr) (c0_0 : Nat) (l0_0 : List (S53)) (A0_1 : Option Addr) (c0_1 : Nat) (l0_1 : List (S57)) (a0_2 : ByteArray) (r1 : List (S53)) (r2 : List (S57)) (r3 : ByteArray) (w : World) (hr0_0 : Kd.C k53 w A0_0 l0_0.length l0_0) (hc0_0 : l0_0.length ≤ c0_0) (hr0_1 : Kd.C k57 w A0_1 l0_1.length l0_1) (hc0_1 : l0_1.length ≤ c0_1) (h : spec_l08Copy.f l0_0 l0_1 a0_2 = some (r1,r2,r3)) :
  Calls Try.prog 50 #[.agg #[.slice A0_0 l0_0.length c0_0,.slice A0_1 l0_1.length c0_1,.string a0_2]] w fun e w' => ∃ v0_ v1_ : Value,e = .returned (.agg #[v0_,v1_,.string r3]) ∧ Kd.R k53 53 w' w.heap.size (fun _ => True) v0_ r1 ∧ Kd.R k57 57 w' w.heap.size (fun _ => True) v1_ r2 ∧ Below w.heap.size w w':=by
 have hu38:=Try.underlying38
 have HR0_0:=aM hr0_0
 have HC0_0:=aM hc0_0
 clear hr0_0 hc0_0
 have HR0_1:=aM hr0_1
 have HC0_1:=aM hc0_1
 clear hr0_1 hc0_1
 have HB:=aM (Below.refl w.heap.size w)
 have H : ((some (([] : List (S53)) : List (S53))).bind fun y103 => (if y103.length + l0_0.length < 4398046511104 then ((some (([] : List (S57)) : List (S57))).bind fun y109 => (if y109.length + l0_1.length < 2932031007402 then (some ((y103 ++ l0_0),(y109 ++ l0_1),a0_2)) else (none))) else (none))) = some (r1,r2,r3):=h
 clear h
 obtain ⟨y103,hy103⟩ : ∃ y_ : List (S53),y_ = (([] : List (S53))):=⟨_,rfl⟩
 replace H : (if y103.length + l0_0.length < 4398046511104 then ((some (([] : List (S57)) : List (S57))).bind fun y109 => (if y109.length + l0_1.length < 2932031007402 then (some ((y103 ++ l0_0),(y109 ++ l0_1),a0_2)) else (none))) else (none)) = some (r1,r2,r3):=by first|(rw [hy103];with_reducible exact H)|(have H2_:=(Option.bind_some _ _).symm.trans H;rw [hy103];with_reducible exact H2_)|(have H2_:=(Option.bind_some _ _).symm.trans H;with_reducible exact H2_)|with_reducible exact H|(rw [hy103];exact H)|exact H
 have Ny103:=aM hy103
 clear hy103
 by_cases c2 : y103.length + l0_0.length < 4398046511104
 ·rw [if_pos c2] at H
  have LMc2:=aM c2
  clear c2
  obtain ⟨y106,hy106⟩ : ∃ y_ : List (S53),y_ = (y103 ++ l0_0):=⟨_,rfl⟩
  replace H : ((some (([] : List (S57)) : List (S57))).bind fun y109 => (if y109.length + l0_1.length < 2932031007402 then (some (y106,(y109 ++ l0_1),a0_2)) else (none))) = some (r1,r2,r3):=by first|(rw [hy106];with_reducible exact H)|(have H2_:=(Option.bind_some _ _).symm.trans H;rw [hy106];with_reducible exact H2_)|(have H2_:=(Option.bind_some _ _).symm.trans H;with_reducible exact H2_)|with_reducible exact H|(rw [hy106];exact H)|exact H
  have Ny106:=aM hy106
  clear hy106
  obtain ⟨y109,hy109⟩ : ∃ y_ : List (S57),y_ = (([] : List (S57))):=⟨_,rfl⟩
  replace H : (if y109.length + l0_1.length < 2932031007402 then (some (y106,(y109 ++ l0_1),a0_2)) else (none)) = some (r1,r2,r3):=by first|(rw [hy109];with_reducible exact H)|(have H2_:=(Option.bind_some _ _).symm.trans H;rw [hy109];with_reducible exact H2_)|(have H2_:=(Option.bind_some _ _).symm.trans H;with_reducible exact H2_)|with_reducible exact H|(rw [hy109];exact H)|exact H
  have Ny109:=aM hy109
  clear hy109
  by_cases c3 : y109.length + l0_1.length < 2932031007402
  ·rw [if_pos c3] at H
   have LMc3:=aM c3
   clear c3
   obtain ⟨y112,hy112⟩ : ∃ y_ : List (S57),y_ = (y109 ++ l0_1):=⟨_,rfl⟩
   replace H : (some (y106,y112,a0_2)) = some (r1,r2,r3):=by first|(rw [hy112];with_reducible exact H)|(have H2_:=(Option.bind_some _ _).symm.trans H;rw [hy112];with_reducible exact H2_)|(have H2_:=(Option.bind_some _ _).symm.trans H;with_reducible exact H2_)|with_reducible exact H|(rw [hy112];exact H)|exact H
   have Ny112:=aM hy112
   clear hy112
   simp only [Option.some.injEq,Prod.mk.injEq] at H
   obtain ⟨rfl,rfl,rfl⟩:=H
   go_enter Try.func50,Try.ntmps50
   try go_wp2_with (first|((with_reducible refine gate_dst (N:=1) rfl ?_);refine box_event ?hg (N:=1) ?hd (cs:=#[.slice A0_0 l0_0.length c0_0,.slice A0_1 l0_1.length c0_1,.string a0_2]) (t:=38) ?hr ?_;(case hd => rfl);(case hg => rfl);(case hr => first|(go_simp;done)|(go_simp;rfl));intro gb101 hg w4 hbox hb;have n0_:=aM (lQ HB.out hb);have n1_:=aM (hbox);have n2_:=aM ((sQ hg HB.out : w.heap.size ≤ gb101));have n3_:=n2_;clear HB;have HB:=n0_;have BK101:=n1_;have GW101:=n2_;have GE101:=n3_;clear n0_ n1_ n2_ n3_ hb hbox hg)|((with_reducible refine gate_dst (N:=2) rfl ?_);refine box_event ?hg (N:=2) ?hd (cs:=#[.slice none 0 0,.slice none 0 0,.string (⟨#[]⟩ : ByteArray)]) (t:=38) ?hr ?_;(case hd => rfl);(case hg => rfl);(case hr => first|(go_simp;done)|(go_simp;rfl));intro gb102 hg w5 hbox hb;have n0_:=aM (bH BK101.out hb);have n1_:=aM (lQ HB.out hb);have n2_:=aM (hbox);have n3_:=aM ((sQ hg HB.out : w.heap.size ≤ gb102));have n4_:=n3_;have n5_:=aM ((nL hg BK101.out : gb101 ≠ gb102));have n6_:=aM ((nG hg BK101.out : gb102 ≠ gb101));clear BK101 HB;have BK101:=n0_;have HB:=n1_;have BK102:=n2_;have GW102:=n3_;have GE102:=n4_;have NB101_102:=n5_;have NB102_101:=n6_;clear n0_ n1_ n2_ n3_ n4_ n5_ n6_ hb hbox hg))
   have n0_:=aM (bD BK101.out)
   have n1_:=aM (bD BK102.out)
   have n2_:=aM (lD HB.out)
   clear BK101
   clear BK102
   clear HB
   have BK101:=n0_
   have BK102:=n1_
   have HB:=n2_
   clear n0_ n1_ n2_
   refine start_ (n:=12) (S:=fun w' => w'.cell? ⟨gb101,0,none⟩ = some (.slice A0_0 l0_0.length c0_0) ∧ w'.cell? ⟨gb101,1,none⟩ = some (.slice A0_1 l0_1.length c0_1) ∧ w'.cell? ⟨gb101,2,none⟩ = some (.string a0_2)) (ds:=[]) #[bf,bf,bf,bf,bf,bf,bf,bf,bf,bf,bf,bf] (by kernel_rfl) rfl rfl ⟨(bC BK101.out 0).trans rfl,(bC BK101.out 1).trans rfl,(bC BK101.out 2).trans rfl⟩ (fun hHeld => ?_);refine with_tabW spec_l08Copy.tab1 spec_l08Copy.bits1 (fun HT_ HW_ => ?_)
   generalize w5.drew = w6 at BK101 BK102 HB hHeld ⊢
   refine pQ (i:=1) (N:=some 4) (v:=?_) (a':=?_) #[bf,bT,bf,bf,bf,bf,bf,bf,bf,bf,bf,bf] (any_of HT_.out (by kernel_rfl)) ?_ ?_ ?_
   rotate_left
   ·intro w';go_simp;with_reducible rfl
   rotate_left
   ·simp only [Act.put,q_ia1,q_cz1,q_cs1,i64_w,i32_w];rfl
   refine pQ (i:=5) (N:=some 8) (v:=?_) (a':=?_) #[bf,bT,bf,bf,bf,bT,bf,bf,bf,bf,bf,bf] (any_of HT_.out (by kernel_rfl)) ?_ ?_ ?_
   rotate_left
   ·intro w';go_simp;with_reducible rfl
   rotate_left
   ·simp only [Act.put,q_ia1,q_cz1,q_cs1,i64_w,i32_w];rfl
   refine pQ (i:=8) (N:=some 11) (v:=?_) (a':=?_) #[bf,bT,bf,bf,bf,bT,bf,bf,bT,bf,bf,bf] (any_of HT_.out (by kernel_rfl)) ?_ ?_ ?_
   rotate_left
   ·intro w';go_simp;with_reducible rfl
   rotate_left
   ·simp only [Act.put,q_ia1,q_cz1,q_cs1,i64_w,i32_w];rfl
   refine take_ (i:=2) (N:=some 5) (v:=?_) (a':=?_) #[bf,bT,bT,bf,bf,bT,bf,bf,bT,bf,bf,bf] rfl rfl (take_ofW HT_.out HW_.out (by kernel_rfl)) (fun _ _ _ h => h) (Or.inl ⟨by rfl,?_⟩) hHeld ?_ ?_
   rotate_left
   ·rintro w' ⟨s0,s1,s2⟩
    go_simp
    with_reducible rfl
   rotate_left
   ·simp only [Act.put,q_ia1,q_cz1,q_cs1,i64_w,i32_w];rfl
   refine take_ (i:=6) (N:=some 9) (v:=?_) (a':=?_) #[bf,bT,bT,bf,bf,bT,bT,bf,bT,bf,bf,bf] rfl rfl (take_ofW HT_.out HW_.out (by kernel_rfl)) (fun _ _ _ h => h) (Or.inl ⟨by rfl,?_⟩) hHeld ?_ ?_
   rotate_left
   ·rintro w' ⟨s0,s1,s2⟩
    go_simp
    with_reducible rfl
   rotate_left
   ·simp only [Act.put,q_ia1,q_cz1,q_cs1,i64_w,i32_w];rfl
   refine take_ (i:=9) (N:=some 12) (v:=?_) (a':=?_) #[bf,bT,bT,bf,bf,bT,bT,bf,bT,bT,bf,bf] rfl rfl (take_ofW HT_.out HW_.out (by kernel_rfl)) (fun _ _ _ h => h) (Or.inl ⟨by rfl,?_⟩) hHeld ?_ ?_
   rotate_left
   ·rintro w' ⟨s0,s1,s2⟩
    go_simp
    with_reducible rfl
   rotate_left
   ·simp only [Act.put,q_ia1,q_cz1,q_cs1,i64_w,i32_w];rfl
   refine join_ (σ:=Value × Value × Value) 3 #[bT,bT,bT,bT,bT,bT,bT,bf,bT,bT,bf,bf] (fun s_ => [(3,s_.1),(6,s_.2.1),(7,s_.2.2)]) (fun s_ w' => (w'.cell? ⟨gb101,0,none⟩ = some (.slice A0_0 l0_0.length c0_0) ∧ w'.cell? ⟨gb101,1,none⟩ = some (.slice A0_1 l0_1.length c0_1) ∧ w'.cell? ⟨gb101,2,none⟩ = some (.string a0_2)) ∧ (Kd.R k53 53 w' w.heap.size (fun _ => True) s_.2.1 y106) ∧ (Kd.R k57 57 w' w.heap.size (fun _ => True) s_.2.2 y109) ∧ (w'.heap[gb101]? = some (.cells #[.slice A0_0 l0_0.length c0_0,.slice A0_1 l0_1.length c0_1,.string a0_2] 38 (0,0))) ∧ (w'.heap[gb102]? = some (.cells #[.slice none 0 0,.slice none 0 0,.string (⟨#[]⟩ : ByteArray)] 38 (0,0))) ∧ (Below w.heap.size w w')) ?_ ?_
   rotate_left
   ·intro hCont
    refine two_ (i:=0) (j:=4) (Ni:=some 3) (Nj:=some 7) #[bT,bT,bT,bf,bf,bT,bT,bf,bT,bT,bf,bf] #[bf,bT,bT,bf,bT,bT,bT,bf,bT,bT,bf,bf] rfl rfl rfl rfl (two_of HT_.out (by kernel_rfl)) (by decide) (by decide) (fun K hK => ?_) (fun K hK => ?_)
    ·skip
     refine Kd.R_lit_step k53 _ 53 ?hg (N:=3) ?hd (xs:=([] : List (S53))) (inner:=[]) (ok:=fun _ => True) (okp:=fun _ => True) ?hr ?hp (fun _ hk => hk) trivial (Below.refl _ _) (Nat.le_refl _) (by simp) ?_;(case hd => rfl);(case hg => rfl);(case hr => first|(go_simp;done)|(go_simp;rfl));(case hp => exact (Reps.none _ _))
     intro v104 w7 ho8 hb hg_ hnew_
     clear hg_ hnew_
     (first|rw [← Ny103.out] at ho8|(simp only [Int.reduceToNat] at ho8;rw [← Ny103.out] at ho8))
     have n0_:=aM (rL ho8 (lZ (by repeat (first|(with_reducible first|exact HB.out|apply lA|apply lN|apply lD|refine lS ?_ GE101.out|refine lS ?_ GE102.out)|exact HB.out))))
     have n1_:=aM (bH BK101.out hb)
     have n2_:=aM (bH BK102.out hb)
     have n3_:=aM (lQ HB.out hb)
     clear BK101
     clear BK102
     clear HB
     have HO105:=n0_
     have BK101:=n1_
     have BK102:=n2_
     have HB:=n3_
     clear n0_ n1_ n2_ n3_
     clear hb ho8
     refine hK.out _ _ ⟨(bC BK101.out 0).trans rfl,(bC BK101.out 1).trans rfl,(bC BK101.out 2).trans rfl⟩ (fun hHeld => ?_)
     clear hK K
     refine norm_ (a':=?_) ?_ ?_
     rotate_left
     ·show Act.put _ (some 3) _ = _
      simp only [Act.put,q_ia1,q_cz1,q_cs1,i64_w,i32_w]
      rfl
     refine two_ (i:=3) (j:=4) (Ni:=some 6) (Nj:=some 7) #[bT,bT,bT,bT,bf,bT,bT,bf,bT,bT,bf,bf] #[bT,bT,bT,bf,bT,bT,bT,bf,bT,bT,bf,bf] rfl rfl rfl rfl (two_of HT_.out (by kernel_rfl)) (by decide) (by decide) (fun K hK => ?_) (fun K hK => ?_)
     ·skip
      refine Kd.R_append_rows_step k53 (w0:=w) w.heap.size (by rfl) (.tmp 3) (.tmp 5) 35 53 (.agg #[(.string ⟨#[]⟩),(.string ⟨#[]⟩)]) 32 rfl Try.underlying35 info53 rfl (by decide) (by omega) v104 y103 l0_0 _ _ _ (fun _ => True) (fun _ => False) rfl rfl ?aO ?aR (fun _ _ h => h) (fun _ h => h.elim) ?aF ?aB ?aS ?aL ?_
      (case aR => repeat (first|exact (cB HR0_0.out HB.out)|(with_reducible first|refine cA ?_ _|refine cN ?_ _|refine cD ?_)))
      (case aB => exact (by repeat (first|(with_reducible first|exact HB.out|apply lA|apply lN|apply lD|refine lS ?_ GE101.out|refine lS ?_ GE102.out)|exact HB.out)))
      (case aF => exact (fun _ _ => trivial))
      (case aO => exact (rZ HO105.out))
      (case aS => exact (lZ (by repeat (first|(with_reducible first|exact HB.out|apply lA|apply lN|apply lD|refine lS ?_ GE101.out|refine lS ?_ GE102.out)|exact HB.out))))
      (case aL => have:=LMc2.out;omega)
      intro v107 w9 ho hb hg hat
      rw [← Ny106.out] at ho
      have n0_:=aM (blk_grown (g:=gb101) (o:=.cells #[.slice A0_0 l0_0.length c0_0,.slice A0_1 l0_1.length c0_1,.string a0_2] 38 (0,0)) (by (with_reducible repeat (first|refine bN ?_ _|refine bD ?_|refine bA ?_ _));exact BK101.out) hg (Kd.R_ne HO105.out BK101.out (by decide)))
      have n1_:=aM (blk_grown (g:=gb102) (o:=.cells #[.slice none 0 0,.slice none 0 0,.string (⟨#[]⟩ : ByteArray)] 38 (0,0)) (by (with_reducible repeat (first|refine bN ?_ _|refine bD ?_|refine bA ?_ _));exact BK102.out) hg (Kd.R_ne HO105.out BK102.out (by decide)))
      have n2_:=aM (hb)
      have n3_:=aM (ho)
      clear BK101
      clear BK102
      clear HB
      clear HO105
      have BK101:=n0_
      have BK102:=n1_
      have HB:=n2_
      have HO108:=n3_
      clear n0_ n1_ n2_ n3_
      clear ho hb hg hat
      refine hK.out _ _ ⟨(bC BK101.out 0).trans rfl,(bC BK101.out 1).trans rfl,(bC BK101.out 2).trans rfl⟩ (fun hHeld => ?_)
      clear hK K
      refine norm_ (a':=?_) ?_ ?_
      rotate_left
      ·show Act.put _ (some 6) _ = _
       simp only [Act.put,q_ia1,q_cz1,q_cs1,i64_w,i32_w]
       rfl
      refine one_ (i:=4) (N:=some 7) #[bT,bT,bT,bT,bT,bT,bT,bf,bT,bT,bf,bf] rfl rfl (one_of HT_.out (by kernel_rfl)) (by decide) (fun K hK => ?_)
      refine Kd.R_lit_step k57 _ 57 ?hg (N:=7) ?hd (xs:=([] : List (S57))) (inner:=[]) (ok:=fun _ => True) (okp:=fun _ => True) ?hr ?hp (fun _ hk => hk) trivial (Below.refl _ _) (Nat.le_refl _) (by simp) ?_;(case hd => rfl);(case hg => rfl);(case hr => first|(go_simp;done)|(go_simp;rfl));(case hp => exact (Reps.none _ _))
      intro v110 w10 ho11 hb hg_ hnew_
      clear hg_ hnew_
      (first|rw [← Ny109.out] at ho11|(simp only [Int.reduceToNat] at ho11;rw [← Ny109.out] at ho11))
      have n0_:=aM (rH HO108.out hb)
      have n1_:=aM (rL ho11 (lZ (by repeat (first|(with_reducible first|exact HB.out|apply lA|apply lN|apply lD|refine lS ?_ GE101.out|refine lS ?_ GE102.out)|exact HB.out))))
      have n2_:=aM (bH BK101.out hb)
      have n3_:=aM (bH BK102.out hb)
      have n4_:=aM (lQ HB.out hb)
      clear HO108
      clear BK101
      clear BK102
      clear HB
      have HO108:=n0_
      have HO111:=n1_
      have BK101:=n2_
      have BK102:=n3_
      have HB:=n4_
      clear n0_ n1_ n2_ n3_ n4_
      clear hb ho11
      refine hK.out _ _ ⟨(bC BK101.out 0).trans rfl,(bC BK101.out 1).trans rfl,(bC BK101.out 2).trans rfl⟩ (fun hHeld => ?_)
      clear hK K
      refine norm_ (a':=?_) ?_ ?_
      rotate_left
      ·show Act.put _ (some 7) _ = _
       simp only [Act.put,q_ia1,q_cz1,q_cs1,i64_w,i32_w]
       rfl
      exact norm_ (by simp only [putAll,Act.put,q_ia1,q_cz1,q_cs1]) (hCont (v104,v107,v110) _ ⟨hHeld,(rZ HO108.out),(rZ HO111.out),(by (with_reducible repeat (first|refine bN ?_ _|refine bD ?_|refine bA ?_ _));exact BK101.out),(by (with_reducible repeat (first|refine bN ?_ _|refine bD ?_|refine bA ?_ _));exact BK102.out),(by repeat (first|(with_reducible first|exact HB.out|apply lA|apply lN|apply lD|refine lS ?_ GE101.out|refine lS ?_ GE102.out)|exact HB.out))⟩)
     ·skip
      refine Kd.R_lit_step k57 _ 57 ?hg (N:=7) ?hd (xs:=([] : List (S57))) (inner:=[]) (ok:=fun _ => True) (okp:=fun _ => True) ?hr ?hp (fun _ hk => hk) trivial (Below.refl _ _) (Nat.le_refl _) (by simp) ?_;(case hd => rfl);(case hg => rfl);(case hr => first|(go_simp;done)|(go_simp;rfl));(case hp => exact (Reps.none _ _))
      intro v110 w9 ho10 hb hg_ hnew_
      clear hg_ hnew_
      (first|rw [← Ny109.out] at ho10|(simp only [Int.reduceToNat] at ho10;rw [← Ny109.out] at ho10))
      have n0_:=aM (rH HO105.out hb)
      have n1_:=aM (rL ho10 (lZ (by repeat (first|(with_reducible first|exact HB.out|apply lA|apply lN|apply lD|refine lS ?_ GE101.out|refine lS ?_ GE102.out)|exact HB.out))))
      have n2_:=aM (bH BK101.out hb)
      have n3_:=aM (bH BK102.out hb)
      have n4_:=aM (lQ HB.out hb)
      clear HO105
      clear BK101
      clear BK102
      clear HB
      have HO105:=n0_
      have HO111:=n1_
      have BK101:=n2_
      have BK102:=n3_
      have HB:=n4_
      clear n0_ n1_ n2_ n3_ n4_
      clear hb ho10
      refine hK.out _ _ ⟨(bC BK101.out 0).trans rfl,(bC BK101.out 1).trans rfl,(bC BK101.out 2).trans rfl⟩ (fun hHeld => ?_)
      clear hK K
      refine norm_ (a':=?_) ?_ ?_
      rotate_left
      ·show Act.put _ (some 7) _ = _
       simp only [Act.put,q_ia1,q_cz1,q_cs1,i64_w,i32_w]
       rfl
      refine one_ (i:=3) (N:=some 6) #[bT,bT,bT,bT,bT,bT,bT,bf,bT,bT,bf,bf] rfl rfl (one_of HT_.out (by kernel_rfl)) (by decide) (fun K hK => ?_)
      refine Kd.R_append_rows_step k53 (w0:=w) w.heap.size (by rfl) (.tmp 3) (.tmp 5) 35 53 (.agg #[(.string ⟨#[]⟩),(.string ⟨#[]⟩)]) 32 rfl Try.underlying35 info53 rfl (by decide) (by omega) v104 y103 l0_0 _ _ _ (fun _ => True) (fun _ => False) rfl rfl ?aO ?aR (fun _ _ h => h) (fun _ h => h.elim) ?aF ?aB ?aS ?aL ?_
      (case aR => repeat (first|exact (cB HR0_0.out HB.out)|(with_reducible first|refine cA ?_ _|refine cN ?_ _|refine cD ?_)))
      (case aB => exact (by repeat (first|(with_reducible first|exact HB.out|apply lA|apply lN|apply lD|refine lS ?_ GE101.out|refine lS ?_ GE102.out)|exact HB.out)))
      (case aF => exact (fun _ _ => trivial))
      (case aO => exact (rZ HO105.out))
      (case aS => exact (lZ (by repeat (first|(with_reducible first|exact HB.out|apply lA|apply lN|apply lD|refine lS ?_ GE101.out|refine lS ?_ GE102.out)|exact HB.out))))
      (case aL => have:=LMc2.out;omega)
      intro v107 w11 ho hb hg hat
      rw [← Ny106.out] at ho
      have n0_:=aM (blk_grown (g:=gb101) (o:=.cells #[.slice A0_0 l0_0.length c0_0,.slice A0_1 l0_1.length c0_1,.string a0_2] 38 (0,0)) (by (with_reducible repeat (first|refine bN ?_ _|refine bD ?_|refine bA ?_ _));exact BK101.out) hg (Kd.R_ne HO105.out BK101.out (by decide)))
      have n1_:=aM (blk_grown (g:=gb102) (o:=.cells #[.slice none 0 0,.slice none 0 0,.string (⟨#[]⟩ : ByteArray)] 38 (0,0)) (by (with_reducible repeat (first|refine bN ?_ _|refine bD ?_|refine bA ?_ _));exact BK102.out) hg (Kd.R_ne HO105.out BK102.out (by decide)))
      have n2_:=aM (Kd.R_over' (rZ HO111.out) (Kd.R_typed (rZ HO105.out)) (by decide) hg)
      have n3_:=aM (hb)
      have n4_:=aM (ho)
      clear BK101
      clear BK102
      clear HO111
      clear HB
      clear HO105
      have BK101:=n0_
      have BK102:=n1_
      have HO111:=n2_
      have HB:=n3_
      have HO108:=n4_
      clear n0_ n1_ n2_ n3_ n4_
      clear ho hb hg hat
      refine hK.out _ _ ⟨(bC BK101.out 0).trans rfl,(bC BK101.out 1).trans rfl,(bC BK101.out 2).trans rfl⟩ (fun hHeld => ?_)
      clear hK K
      refine norm_ (a':=?_) ?_ ?_
      rotate_left
      ·show Act.put _ (some 6) _ = _
       simp only [Act.put,q_ia1,q_cz1,q_cs1,i64_w,i32_w]
       rfl
      exact norm_ (by simp only [putAll,Act.put,q_ia1,q_cz1,q_cs1]) (hCont (v104,v107,v110) _ ⟨hHeld,(rZ HO108.out),(rZ HO111.out),(by (with_reducible repeat (first|refine bN ?_ _|refine bD ?_|refine bA ?_ _));exact BK101.out),(by (with_reducible repeat (first|refine bN ?_ _|refine bD ?_|refine bA ?_ _));exact BK102.out),(by repeat (first|(with_reducible first|exact HB.out|apply lA|apply lN|apply lD|refine lS ?_ GE101.out|refine lS ?_ GE102.out)|exact HB.out))⟩)
    ·skip
     refine Kd.R_lit_step k57 _ 57 ?hg (N:=7) ?hd (xs:=([] : List (S57))) (inner:=[]) (ok:=fun _ => True) (okp:=fun _ => True) ?hr ?hp (fun _ hk => hk) trivial (Below.refl _ _) (Nat.le_refl _) (by simp) ?_;(case hd => rfl);(case hg => rfl);(case hr => first|(go_simp;done)|(go_simp;rfl));(case hp => exact (Reps.none _ _))
     intro v110 w7 ho8 hb hg_ hnew_
     clear hg_ hnew_
     (first|rw [← Ny109.out] at ho8|(simp only [Int.reduceToNat] at ho8;rw [← Ny109.out] at ho8))
     have n0_:=aM (rL ho8 (lZ (by repeat (first|(with_reducible first|exact HB.out|apply lA|apply lN|apply lD|refine lS ?_ GE101.out|refine lS ?_ GE102.out)|exact HB.out))))
     have n1_:=aM (bH BK101.out hb)
     have n2_:=aM (bH BK102.out hb)
     have n3_:=aM (lQ HB.out hb)
     clear BK101
     clear BK102
     clear HB
     have HO111:=n0_
     have BK101:=n1_
     have BK102:=n2_
     have HB:=n3_
     clear n0_ n1_ n2_ n3_
     clear hb ho8
     refine hK.out _ _ ⟨(bC BK101.out 0).trans rfl,(bC BK101.out 1).trans rfl,(bC BK101.out 2).trans rfl⟩ (fun hHeld => ?_)
     clear hK K
     refine norm_ (a':=?_) ?_ ?_
     rotate_left
     ·show Act.put _ (some 7) _ = _
      simp only [Act.put,q_ia1,q_cz1,q_cs1,i64_w,i32_w]
      rfl
     refine one_ (i:=0) (N:=some 3) #[bT,bT,bT,bf,bT,bT,bT,bf,bT,bT,bf,bf] rfl rfl (one_of HT_.out (by kernel_rfl)) (by decide) (fun K hK => ?_)
     refine Kd.R_lit_step k53 _ 53 ?hg (N:=3) ?hd (xs:=([] : List (S53))) (inner:=[]) (ok:=fun _ => True) (okp:=fun _ => True) ?hr ?hp (fun _ hk => hk) trivial (Below.refl _ _) (Nat.le_refl _) (by simp) ?_;(case hd => rfl);(case hg => rfl);(case hr => first|(go_simp;done)|(go_simp;rfl));(case hp => exact (Reps.none _ _))
     intro v104 w9 ho10 hb hg_ hnew_
     clear hg_ hnew_
     (first|rw [← Ny103.out] at ho10|(simp only [Int.reduceToNat] at ho10;rw [← Ny103.out] at ho10))
     have n0_:=aM (rH HO111.out hb)
     have n1_:=aM (rL ho10 (lZ (by repeat (first|(with_reducible first|exact HB.out|apply lA|apply lN|apply lD|refine lS ?_ GE101.out|refine lS ?_ GE102.out)|exact HB.out))))
     have n2_:=aM (bH BK101.out hb)
     have n3_:=aM (bH BK102.out hb)
     have n4_:=aM (lQ HB.out hb)
     clear HO111
     clear BK101
     clear BK102
     clear HB
     have HO111:=n0_
     have HO105:=n1_
     have BK101:=n2_
     have BK102:=n3_
     have HB:=n4_
     clear n0_ n1_ n2_ n3_ n4_
     clear hb ho10
     refine hK.out _ _ ⟨(bC BK101.out 0).trans rfl,(bC BK101.out 1).trans rfl,(bC BK101.out 2).trans rfl⟩ (fun hHeld => ?_)
     clear hK K
     refine norm_ (a':=?_) ?_ ?_
     rotate_left
     ·show Act.put _ (some 3) _ = _
      simp only [Act.put,q_ia1,q_cz1,q_cs1,i64_w,i32_w]
      rfl
     refine one_ (i:=3) (N:=some 6) #[bT,bT,bT,bT,bT,bT,bT,bf,bT,bT,bf,bf] rfl rfl (one_of HT_.out (by kernel_rfl)) (by decide) (fun K hK => ?_)
     refine Kd.R_append_rows_step k53 (w0:=w) w.heap.size (by rfl) (.tmp 3) (.tmp 5) 35 53 (.agg #[(.string ⟨#[]⟩),(.string ⟨#[]⟩)]) 32 rfl Try.underlying35 info53 rfl (by decide) (by omega) v104 y103 l0_0 _ _ _ (fun _ => True) (fun _ => False) rfl rfl ?aO ?aR (fun _ _ h => h) (fun _ h => h.elim) ?aF ?aB ?aS ?aL ?_
     (case aR => repeat (first|exact (cB HR0_0.out HB.out)|(with_reducible first|refine cA ?_ _|refine cN ?_ _|refine cD ?_)))
     (case aB => exact (by repeat (first|(with_reducible first|exact HB.out|apply lA|apply lN|apply lD|refine lS ?_ GE101.out|refine lS ?_ GE102.out)|exact HB.out)))
     (case aF => exact (fun _ _ => trivial))
     (case aO => exact (rZ HO105.out))
     (case aS => exact (lZ (by repeat (first|(with_reducible first|exact HB.out|apply lA|apply lN|apply lD|refine lS ?_ GE101.out|refine lS ?_ GE102.out)|exact HB.out))))
     (case aL => have:=LMc2.out;omega)
     intro v107 w11 ho hb hg hat
     rw [← Ny106.out] at ho
     have n0_:=aM (blk_grown (g:=gb101) (o:=.cells #[.slice A0_0 l0_0.length c0_0,.slice A0_1 l0_1.length c0_1,.string a0_2] 38 (0,0)) (by (with_reducible repeat (first|refine bN ?_ _|refine bD ?_|refine bA ?_ _));exact BK101.out) hg (Kd.R_ne HO105.out BK101.out (by decide)))
     have n1_:=aM (blk_grown (g:=gb102) (o:=.cells #[.slice none 0 0,.slice none 0 0,.string (⟨#[]⟩ : ByteArray)] 38 (0,0)) (by (with_reducible repeat (first|refine bN ?_ _|refine bD ?_|refine bA ?_ _));exact BK102.out) hg (Kd.R_ne HO105.out BK102.out (by decide)))
     have n2_:=aM (Kd.R_over' (rZ HO111.out) (Kd.R_typed (rZ HO105.out)) (by decide) hg)
     have n3_:=aM (hb)
     have n4_:=aM (ho)
     clear BK101
     clear BK102
     clear HO111
     clear HB
     clear HO105
     have BK101:=n0_
     have BK102:=n1_
     have HO111:=n2_
     have HB:=n3_
     have HO108:=n4_
     clear n0_ n1_ n2_ n3_ n4_
     clear ho hb hg hat
     refine hK.out _ _ ⟨(bC BK101.out 0).trans rfl,(bC BK101.out 1).trans rfl,(bC BK101.out 2).trans rfl⟩ (fun hHeld => ?_)
     clear hK K
     refine norm_ (a':=?_) ?_ ?_
     rotate_left
     ·show Act.put _ (some 6) _ = _
      simp only [Act.put,q_ia1,q_cz1,q_cs1,i64_w,i32_w]
      rfl
     exact norm_ (by simp only [putAll,Act.put,q_ia1,q_cz1,q_cs1]) (hCont (v104,v107,v110) _ ⟨hHeld,(rZ HO108.out),(rZ HO111.out),(by (with_reducible repeat (first|refine bN ?_ _|refine bD ?_|refine bA ?_ _));exact BK101.out),(by (with_reducible repeat (first|refine bN ?_ _|refine bD ?_|refine bA ?_ _));exact BK102.out),(by repeat (first|(with_reducible first|exact HB.out|apply lA|apply lN|apply lD|refine lS ?_ GE101.out|refine lS ?_ GE102.out)|exact HB.out))⟩)
   rintro ⟨v104,v107,v110⟩ w12 ⟨hS_,h0_,h1_,h2_,h3_,h4_⟩
   have n0_ : Aside0 (Kd.R k53 53 w12 w.heap.size (fun _ => True) v107 y106):=⟨h0_⟩
   have n1_ : Aside0 (Kd.R k57 57 w12 w.heap.size (fun _ => True) v110 y109):=⟨h1_⟩
   have n2_ : Aside0 (w12.heap[gb101]? = some (.cells #[.slice A0_0 l0_0.length c0_0,.slice A0_1 l0_1.length c0_1,.string a0_2] 38 (0,0))):=⟨h2_⟩
   have n3_ : Aside0 (w12.heap[gb102]? = some (.cells #[.slice none 0 0,.slice none 0 0,.string (⟨#[]⟩ : ByteArray)] 38 (0,0))):=⟨h3_⟩
   have n4_ : Aside0 (Below w.heap.size w w12):=⟨h4_⟩
   clear BK101
   clear BK102
   clear HB
   clear h0_ h1_ h2_ h3_ h4_
   have HO108:=n0_
   have HO111:=n1_
   have BK101:=n2_
   have BK102:=n3_
   have HB:=n4_
   clear n0_ n1_ n2_ n3_ n4_
   have hHeld : w12.cell? ⟨gb101,0,none⟩ = some (.slice A0_0 l0_0.length c0_0) ∧ w12.cell? ⟨gb101,1,none⟩ = some (.slice A0_1 l0_1.length c0_1) ∧ w12.cell? ⟨gb101,2,none⟩ = some (.string a0_2):=hS_
   refine norm_ (a':=?_) ?_ ?_
   rotate_left
   ·simp only [putAll,Act.put,q_ia1,q_cz1,q_cs1];rfl
   refine one_ (i:=7) (N:=some 10) #[bT,bT,bT,bT,bT,bT,bT,bT,bT,bT,bf,bf] rfl rfl (one_of HT_.out (by kernel_rfl)) (by decide) (fun K hK => ?_)
   refine Kd.R_append_rows_step k57 (w0:=w) w.heap.size (by rfl) (.tmp 7) (.tmp 9) 36 57 (.agg #[(.string ⟨#[]⟩),(.string ⟨#[]⟩),(.string ⟨#[]⟩)]) 48 rfl Try.underlying36 info57 rfl (by decide) (by omega) v110 y109 l0_1 _ _ _ (fun _ => True) (fun _ => False) rfl rfl ?aO ?aR (fun _ _ h => h) (fun _ h => h.elim) ?aF ?aB ?aS ?aL ?_
   (case aR => repeat (first|exact (cB HR0_1.out HB.out)|(with_reducible first|refine cA ?_ _|refine cN ?_ _|refine cD ?_)))
   (case aB => exact (by repeat (first|(with_reducible first|exact HB.out|apply lA|apply lN|apply lD|refine lS ?_ GE101.out|refine lS ?_ GE102.out)|exact HB.out)))
   (case aF => exact (fun _ _ => trivial))
   (case aO => exact (rZ HO111.out))
   (case aS => exact (lZ (by repeat (first|(with_reducible first|exact HB.out|apply lA|apply lN|apply lD|refine lS ?_ GE101.out|refine lS ?_ GE102.out)|exact HB.out))))
   (case aL => have:=LMc3.out;omega)
   intro v113 w13 ho hb hg hat
   rw [← Ny112.out] at ho
   have n0_:=aM (blk_grown (g:=gb101) (o:=.cells #[.slice A0_0 l0_0.length c0_0,.slice A0_1 l0_1.length c0_1,.string a0_2] 38 (0,0)) (by (with_reducible repeat (first|refine bN ?_ _|refine bD ?_|refine bA ?_ _));exact BK101.out) hg (Kd.R_ne HO111.out BK101.out (by decide)))
   have n1_:=aM (blk_grown (g:=gb102) (o:=.cells #[.slice none 0 0,.slice none 0 0,.string (⟨#[]⟩ : ByteArray)] 38 (0,0)) (by (with_reducible repeat (first|refine bN ?_ _|refine bD ?_|refine bA ?_ _));exact BK102.out) hg (Kd.R_ne HO111.out BK102.out (by decide)))
   have n2_:=aM (Kd.R_over' (rZ HO108.out) (Kd.R_typed (rZ HO111.out)) (by decide) hg)
   have n3_:=aM (hb)
   have n4_:=aM (ho)
   clear BK101
   clear BK102
   clear HO108
   clear HB
   clear HO111
   have BK101:=n0_
   have BK102:=n1_
   have HO108:=n2_
   have HB:=n3_
   have HO114:=n4_
   clear n0_ n1_ n2_ n3_ n4_
   clear ho hb hg hat
   obtain ⟨Ao14,co14,eo14⟩:=Kd.R_slice HO114.out
   (first|subst eo14|(injection eo14 with f1_ f2_ f3_;have f4_:=f1_.symm;have f5_:=f3_.symm;clear f1_ f2_ f3_;subst f4_;subst f5_))
   obtain ⟨Ao15,co15,eo15⟩:=Kd.R_slice HO108.out
   (first|subst eo15|(injection eo15 with f1_ f2_ f3_;have f4_:=f1_.symm;have f5_:=f3_.symm;clear f1_ f2_ f3_;subst f4_;subst f5_))
   refine hK.out _ _ ⟨(bC BK101.out 0).trans rfl,(bC BK101.out 1).trans rfl,(bC BK101.out 2).trans rfl⟩ (fun hHeld => ?_)
   clear hK K
   refine norm_ (a':=?_) ?_ ?_
   rotate_left
   ·show Act.put _ (some 10) _ = _
    simp only [Act.put,q_ia1,q_cz1,q_cs1,i64_w,i32_w]
    rfl
   refine pQ (i:=10) (N:=some 13) (v:=?_) (a':=?_) #[bT,bT,bT,bT,bT,bT,bT,bT,bT,bT,bT,bf] (any_of HT_.out (by kernel_rfl)) ?_ ?_ ?_
   rotate_left
   ·intro w';go_simp;with_reducible rfl
   rotate_left
   ·simp only [Act.put,q_ia1,q_cz1,q_cs1,i64_w,i32_w];rfl
   refine one_ (i:=11) (N:=none) #[bT,bT,bT,bT,bT,bT,bT,bT,bT,bT,bT,bT] rfl rfl (one_of HT_.out (by kernel_rfl)) (by decide) (fun K hK => ?_)
   have hs16 : w13.cell? ⟨gb102,0,none⟩ = some (.slice none 0 0):=(bC BK102.out 0).trans rfl
   have hfs16:=bF BK102.out 0
   have hns16_0:=NB101_102.out
   have hms16_0:=NB102_101.out
   have hs17 : w13.cell? ⟨gb102,1,none⟩ = some (.slice none 0 0):=(bC BK102.out 1).trans rfl
   have hfs17:=bF BK102.out 1
   have hns17_0:=NB101_102.out
   have hms17_0:=NB102_101.out
   have hs18 : w13.cell? ⟨gb102,2,none⟩ = some (.string (⟨#[]⟩ : ByteArray)):=(bC BK102.out 2).trans rfl
   have hfs18:=bF BK102.out 2
   have hns18_0:=NB101_102.out
   have hms18_0:=NB102_101.out
   refine skip_ (w1:=?_) (by rfl) rfl ?_ ?_
   rotate_left
   ·go_simp
    rfl
   refine hK.out _ _ ⟨((cell_far (p:=⟨gb102,_,none⟩) NB101_102.out _).trans (((cell_far (p:=⟨gb102,_,none⟩) NB101_102.out _).trans (((cell_far (p:=⟨gb102,_,none⟩) NB101_102.out _).trans (hHeld.1)))))),((cell_far (p:=⟨gb102,_,none⟩) NB101_102.out _).trans (((cell_far (p:=⟨gb102,_,none⟩) NB101_102.out _).trans (((cell_far (p:=⟨gb102,_,none⟩) NB101_102.out _).trans (hHeld.2.1)))))),((cell_far (p:=⟨gb102,_,none⟩) NB101_102.out _).trans (((cell_far (p:=⟨gb102,_,none⟩) NB101_102.out _).trans (((cell_far (p:=⟨gb102,_,none⟩) NB101_102.out _).trans (hHeld.2.2))))))⟩ (fun hHeld => ?_)
   clear hK K
   refine done_ (done_of HT_.out (by kernel_rfl)) ?_
   try go_wp2
   refine bodyPost_ret (results_cell_row rfl _ _ gb102 38 #[.slice Ao15 y106.length co15,.slice Ao14 y112.length co14,.string a0_2] (0,0) _ rfl (by (with_reducible repeat (first|refine bN ?_ _|refine bD ?_|refine bA ?_ _));refine blk_put (cs:=#[.slice Ao15 y106.length co15,.slice Ao14 y112.length co14,.string (⟨#[]⟩ : ByteArray)]) ?_ 2 _ rfl;(with_reducible repeat (first|refine bN ?_ _|refine bD ?_|refine bA ?_ _));refine blk_put (cs:=#[.slice Ao15 y106.length co15,.slice none 0 0,.string (⟨#[]⟩ : ByteArray)]) ?_ 1 _ rfl;(with_reducible repeat (first|refine bN ?_ _|refine bD ?_|refine bA ?_ _));refine blk_put (cs:=#[.slice none 0 0,.slice none 0 0,.string (⟨#[]⟩ : ByteArray)]) ?_ 0 _ rfl;(with_reducible repeat (first|refine bN ?_ _|refine bD ?_|refine bA ?_ _));exact BK102.out) Try.underlying38 rfl (by kernel_rfl)) rfl ?_
   exact ⟨_,_,by first|rfl|(simp [errW_none,errW_some] <;> rfl)|(simp [*,errW_none,errW_some] <;> rfl),by (with_reducible repeat (first|apply rA|apply rN|apply rD));exact Kd.R_mono (rF (rF (rF (rY HO108.out BK102.out (by decide)) (fun _ hk => hk.2) _) (fun _ hk => hk.2) _) (fun _ hk => hk.2) _) (fun _ hk => trivial),by (with_reducible repeat (first|apply rA|apply rN|apply rD));exact Kd.R_mono (rF (rF (rF (rY HO114.out BK102.out (by decide)) (fun _ hk => hk.2) _) (fun _ hk => hk.2) _) (fun _ hk => hk.2) _) (fun _ hk => trivial),by repeat (first|(with_reducible first|exact HB.out|apply lA|apply lN|apply lD|refine lS ?_ GE101.out|refine lS ?_ GE102.out)|exact HB.out)⟩
  ·rw [if_neg c3] at H
   exact absurd H (by simp)
 ·rw [if_neg c2] at H
  exact absurd H (by simp)

/-! ### spec_l08Ahead: function 64 -/
def spec_l08Ahead.f (a0_0 : ByteArray) (a0_1 : ByteArray) (a0_2 : ByteArray) (a1_0 : ByteArray) (a1_1 : ByteArray) (a1_2 : ByteArray) : Option (Bool):=if (Op.bytesLess a0_0.toList a1_0.toList) = true then (some true) else (if a0_0.toList = a1_0.toList then (some (Op.bytesLess a0_1.toList a1_1.toList)) else (some false))
set_option maxHeartbeats 8000000 in
set_option maxRecDepth 100000 in
theorem spec_l08Ahead.calls (a0_0 : ByteArray) (a0_1 : ByteArray) (a0_2 : ByteArray) (a1_0 : ByteArray) (a1_1 : ByteArray) (a1_2 : ByteArray) (r : Bool) (w : World) (h : spec_l08Ahead.f a0_0 a0_1 a0_2 a1_0 a1_1 a1_2 = some r) :
  Calls Try.prog 64 #[.agg #[.string a0_0,.string a0_1,.string a0_2],.agg #[.string a1_0,.string a1_1,.string a1_2]] w fun e w' => e = .returned (.bool r) ∧ Below w.heap.size w w':=by
 have hu57:=Try.underlying57
 have HB:=aM (Below.refl w.heap.size w)
 have H : (if (Op.bytesLess a0_0.toList a1_0.toList) = true then (some true) else (if a0_0.toList = a1_0.toList then (some (Op.bytesLess a0_1.toList a1_1.toList)) else (some false))) = some r:=h
 clear h
 by_cases c3 : (Op.bytesLess a0_0.toList a1_0.toList) = true
 ·rw [if_pos c3] at H
  have c3b0 : (Op.bytesLess a0_0.toList a1_0.toList) = true:=c3
  clear c3
  obtain rfl:=Option.some.inj H
  go_enter Try.func64,Try.ntmps64
  go_wp2_with (first|((with_reducible refine gate_dst (N:=2) rfl ?_);refine box_event ?hg (N:=2) ?hd (cs:=#[.string a0_0,.string a0_1,.string a0_2]) (t:=57) ?hr ?_;(case hd => rfl);(case hg => rfl);(case hr => first|(go_simp;done)|(go_simp;rfl));intro gb115 hg w4 hbox hb;have n0_:=aM (lQ HB.out hb);have n1_:=aM (hbox);have n2_:=aM ((sQ hg HB.out : w.heap.size ≤ gb115));have n3_:=n2_;clear HB;have HB:=n0_;have BK115:=n1_;have GW115:=n2_;have GE115:=n3_;clear n0_ n1_ n2_ n3_ hb hbox hg)|((with_reducible refine gate_dst (N:=3) rfl ?_);refine box_event ?hg (N:=3) ?hd (cs:=#[.string a1_0,.string a1_1,.string a1_2]) (t:=57) ?hr ?_;(case hd => rfl);(case hg => rfl);(case hr => first|(go_simp;done)|(go_simp;rfl));intro gb116 hg w5 hbox hb;have n0_:=aM (bH BK115.out hb);have n1_:=aM (lQ HB.out hb);have n2_:=aM (hbox);have n3_:=aM ((sQ hg HB.out : w.heap.size ≤ gb116));have n4_:=n3_;have n5_:=aM ((nL hg BK115.out : gb115 ≠ gb116));have n6_:=aM ((nG hg BK115.out : gb116 ≠ gb115));clear BK115 HB;have BK115:=n0_;have HB:=n1_;have BK116:=n2_;have GW116:=n3_;have GE116:=n4_;have NB115_116:=n5_;have NB116_115:=n6_;clear n0_ n1_ n2_ n3_ n4_ n5_ n6_ hb hbox hg;have hnb6:=NB115_116.out;have hnc6:=NB116_115.out;obtain ⟨⟨hcz7_0,hcz7_1,hcz7_2⟩,hfz7_0,hfz7_1,hfz7_2⟩:=bC3 BK115.out;obtain ⟨⟨hcz8_0,hcz8_1,hcz8_2⟩,hfz8_0,hfz8_1,hfz8_2⟩:=bC3 BK116.out))
  go_ret
  exact ⟨by first|rfl|(simp [errW_none,errW_some] <;> rfl)|(simp [*,errW_none,errW_some] <;> rfl),by repeat (first|(with_reducible first|exact HB.out|apply lA|apply lN|apply lD|refine lS ?_ GE115.out|refine lS ?_ GE116.out)|exact HB.out)⟩
 ·rw [if_neg c3] at H
  have c3b0 : (Op.bytesLess a0_0.toList a1_0.toList) = false:=by simpa using c3
  clear c3
  by_cases c9 : a0_0.toList = a1_0.toList
  ·rw [if_pos c9] at H
   have c9b0 : (a0_0.toList == a1_0.toList) = true:=beq_iff_eq.mpr c9
   have c9b1 : (a0_0.toList != a1_0.toList) = false:=bne_eq_false_iff_eq.mpr c9
   clear c9
   obtain rfl:=Option.some.inj H
   go_enter Try.func64,Try.ntmps64
   go_wp2_with (first|((with_reducible refine gate_dst (N:=2) rfl ?_);refine box_event ?hg (N:=2) ?hd (cs:=#[.string a0_0,.string a0_1,.string a0_2]) (t:=57) ?hr ?_;(case hd => rfl);(case hg => rfl);(case hr => first|(go_simp;done)|(go_simp;rfl));intro gb115 hg w10 hbox hb;have n0_:=aM (lQ HB.out hb);have n1_:=aM (hbox);have n2_:=aM ((sQ hg HB.out : w.heap.size ≤ gb115));have n3_:=n2_;clear HB;have HB:=n0_;have BK115:=n1_;have GW115:=n2_;have GE115:=n3_;clear n0_ n1_ n2_ n3_ hb hbox hg)|((with_reducible refine gate_dst (N:=3) rfl ?_);refine box_event ?hg (N:=3) ?hd (cs:=#[.string a1_0,.string a1_1,.string a1_2]) (t:=57) ?hr ?_;(case hd => rfl);(case hg => rfl);(case hr => first|(go_simp;done)|(go_simp;rfl));intro gb116 hg w11 hbox hb;have n0_:=aM (bH BK115.out hb);have n1_:=aM (lQ HB.out hb);have n2_:=aM (hbox);have n3_:=aM ((sQ hg HB.out : w.heap.size ≤ gb116));have n4_:=n3_;have n5_:=aM ((nL hg BK115.out : gb115 ≠ gb116));have n6_:=aM ((nG hg BK115.out : gb116 ≠ gb115));clear BK115 HB;have BK115:=n0_;have HB:=n1_;have BK116:=n2_;have GW116:=n3_;have GE116:=n4_;have NB115_116:=n5_;have NB116_115:=n6_;clear n0_ n1_ n2_ n3_ n4_ n5_ n6_ hb hbox hg;have hnb12:=NB115_116.out;have hnc12:=NB116_115.out;obtain ⟨⟨hcz13_0,hcz13_1,hcz13_2⟩,hfz13_0,hfz13_1,hfz13_2⟩:=bC3 BK115.out;obtain ⟨⟨hcz14_0,hcz14_1,hcz14_2⟩,hfz14_0,hfz14_1,hfz14_2⟩:=bC3 BK116.out))
   go_ret
   exact ⟨by first|rfl|(simp [errW_none,errW_some] <;> rfl)|(simp [*,errW_none,errW_some] <;> rfl),by repeat (first|(with_reducible first|exact HB.out|apply lA|apply lN|apply lD|refine lS ?_ GE115.out|refine lS ?_ GE116.out)|exact HB.out)⟩
  ·rw [if_neg c9] at H
   have c9b0 : (a0_0.toList == a1_0.toList) = false:=beq_eq_false_iff_ne.mpr c9
   have c9b1 : (a0_0.toList != a1_0.toList) = true:=bne_iff_ne.mpr c9
   obtain rfl:=Option.some.inj H
   go_enter Try.func64,Try.ntmps64
   go_wp2_with (first|((with_reducible refine gate_dst (N:=2) rfl ?_);refine box_event ?hg (N:=2) ?hd (cs:=#[.string a0_0,.string a0_1,.string a0_2]) (t:=57) ?hr ?_;(case hd => rfl);(case hg => rfl);(case hr => first|(go_simp;done)|(go_simp;rfl));intro gb115 hg w15 hbox hb;have n0_:=aM (lQ HB.out hb);have n1_:=aM (hbox);have n2_:=aM ((sQ hg HB.out : w.heap.size ≤ gb115));have n3_:=n2_;clear HB;have HB:=n0_;have BK115:=n1_;have GW115:=n2_;have GE115:=n3_;clear n0_ n1_ n2_ n3_ hb hbox hg)|((with_reducible refine gate_dst (N:=3) rfl ?_);refine box_event ?hg (N:=3) ?hd (cs:=#[.string a1_0,.string a1_1,.string a1_2]) (t:=57) ?hr ?_;(case hd => rfl);(case hg => rfl);(case hr => first|(go_simp;done)|(go_simp;rfl));intro gb116 hg w16 hbox hb;have n0_:=aM (bH BK115.out hb);have n1_:=aM (lQ HB.out hb);have n2_:=aM (hbox);have n3_:=aM ((sQ hg HB.out : w.heap.size ≤ gb116));have n4_:=n3_;have n5_:=aM ((nL hg BK115.out : gb115 ≠ gb116));have n6_:=aM ((nG hg BK115.out : gb116 ≠ gb115));clear BK115 HB;have BK115:=n0_;have HB:=n1_;have BK116:=n2_;have GW116:=n3_;have GE116:=n4_;have NB115_116:=n5_;have NB116_115:=n6_;clear n0_ n1_ n2_ n3_ n4_ n5_ n6_ hb hbox hg;have hnb17:=NB115_116.out;have hnc17:=NB116_115.out;obtain ⟨⟨hcz18_0,hcz18_1,hcz18_2⟩,hfz18_0,hfz18_1,hfz18_2⟩:=bC3 BK115.out;obtain ⟨⟨hcz19_0,hcz19_1,hcz19_2⟩,hfz19_0,hfz19_1,hfz19_2⟩:=bC3 BK116.out))
   go_ret
   exact ⟨by first|rfl|(simp [errW_none,errW_some] <;> rfl)|(simp [*,errW_none,errW_some] <;> rfl),by repeat (first|(with_reducible first|exact HB.out|apply lA|apply lN|apply lD|refine lS ?_ GE115.out|refine lS ?_ GE116.out)|exact HB.out)⟩

end Go.Proofs.Ytodpkfidkilpdaa.QFnCells
