-- A text of this session, made by wip/own_print.py (the kit's print with additions of ours).
import Derived.Test.YtekngkljphlliaaQFnSaysx0
namespace Go.Proofs.Ytekngkljphlliaa.QFnSays
open Go.RowKit Go.Proofs.YtekngkljphlliaaW.PrintWords Go.Proofs.YtekngkljphlliaaW.PrintLast Go.Proofs.YtekngkljphlliaaW.PrintMore
attribute [local go_sem] max2_int min2_int max_two min_two max_three min_three max_four min_four   -- for this text's walks alone
set_option linter.unusedVariables false
set_option linter.unusedSimpArgs false
open Bool renaming true → bT, false → bf
open Go.Proofs.YtekngkljphlliaaW.PrintWords.Kd renaming R_alloc → rA, R_drewN → rN, R_drew → rD, C_alloc → cA, C_drewN → cN, C_drew → cD, R_far → rF, R_below → rB, R_lower → rL, R_lt → rT, R_base → rS, C_below → cB, R_types → rY, R_elder' → rE, R_reads' → rR, R_new' → rW
open Go.Proofs.YtekngkljphlliaaW.PrintWords renaming blk_drewN → bN, blk_drew → bD, blk_alloc → bA, below_set → lS, pw_below_drewN → lN, below_drew1 → lD, below_alloc → lA, blk_cell → bC, blk_below → bB, below_size → lZ, below_step → lP, blk_lt → bL, blk_frozen → bF
open Go.Proofs.YtekngkljphlliaaW.PrintWords.Aside0 renaming mk → aM
theorem q_ia1 {α : Type} (l : List α) (i : Nat) (a : α) : l.toArray.setIfInBounds i a = (l.set i a).toArray := List.setIfInBounds_toArray ..
theorem q_cz1 {α : Type} (a b : α) (l : List α) : (a :: l).set 0 b = b :: l := rfl
theorem q_cs1 {α : Type} (a b : α) (l : List α) (n : Nat) : (a :: l).set (n + 1) b = a :: l.set n b := rfl

/-! ### laws_big: function 6 -/
def laws_big.f (l0 : List Int) : Option (Bool) := some (decide ((l0.length : Int) > 1048576))
set_option maxHeartbeats 8000000 in
set_option maxRecDepth 100000 in
theorem laws_big.calls (A0 : Option Addr) (c0 : Nat) (l0 : List Int) (r : Bool) (w : World) (hr0 : Kd.C (Kd.int .u8) w A0 l0.length l0) (hc0 : l0.length ≤ c0) (h : laws_big.f l0 = some r) :
  Calls Try.prog 6 #[.slice A0 l0.length c0] w fun e w' => e = .returned (.bool r) ∧ Drawn0 w w':=by
 have HR0:=aM hr0
 have HC0:=aM hc0
 clear hr0 hc0
 have H : (some (decide ((l0.length : Int) > 1048576))) = some r:=h
 clear h
 obtain rfl:=Option.some.inj H
 go_enter Try.func6,Try.ntmps6
 go_wp2
 go_ret
 exact ⟨by first|rfl|(simp;done)|(simp [*];done),by repeat (first|exact Drawn0.refl _|apply Drawn0.step)⟩

/-! ### impl_copyStore: function 28 -/
def impl_copyStore.f (l0_0 : List (S59)) (l0_1 : List (S39)) (a0_2 : ByteArray) : Option ((List (S59)) × (List (S39)) × ByteArray):=(some (([] : List (S59)) : List (S59))).bind fun y103 => (if y103.length + l0_0.length < 4398046511104 then ((some (([] : List (S39)) : List (S39))).bind fun y109 => (if y109.length + l0_1.length < 2932031007402 then (some ((y103 ++ l0_0),(y109 ++ l0_1),a0_2)) else (none))) else (none))
def impl_copyStore.T1 : Bool × List (List Nat × List Nat):=(true,[([],[]),([],[]),([1],[1]),([0,2],[0,2]),([],[]),([],[]),([5],[5]),([4,6,3],[4,6]),([0,1,2,3,5,6],[]),([8,3,7,0,1,2,3,5,6],[3,8]),([0,1,2,3,4,5,6,7,8,9],[]),([10,7,9,0,1,2,3,4,5,6,7,8,9],[7,10])])
def impl_copyStore.B1 : List Nat:=[0,0,2,7,0,0,32,127,111,511,1023,2047]
theorem impl_copyStore.tab1 : rtab .any (opsOf Try.f28 1) = impl_copyStore.T1:=by kernel_rfl
theorem impl_copyStore.bits1 : waitsOk impl_copyStore.T1.2 impl_copyStore.B1 = true:=by kernel_rfl
set_option maxHeartbeats 8000000 in
set_option maxRecDepth 100000 in
theorem impl_copyStore.calls (A0_0 : Option Addr) (c0_0 : Nat) (l0_0 : List (S59)) (A0_1 : Option Addr) (c0_1 : Nat) (l0_1 : List (S39)) (a0_2 : ByteArray) (r1 : List (S59)) (r2 : List (S39)) (r3 : ByteArray) (w : World) (hr0_0 : Kd.C k59 w A0_0 l0_0.length l0_0) (hc0_0 : l0_0.length ≤ c0_0) (hr0_1 : Kd.C k39 w A0_1 l0_1.length l0_1) (hc0_1 : l0_1.length ≤ c0_1) (h : impl_copyStore.f l0_0 l0_1 a0_2 = some (r1,r2,r3)) :
  Calls Try.prog 28 #[.agg #[.slice A0_0 l0_0.length c0_0,.slice A0_1 l0_1.length c0_1,.string a0_2]] w fun e w' => ∃ v0_ v1_ : Value,e = .returned (.agg #[v0_,v1_,.string r3]) ∧ Kd.R k59 59 w' w.heap.size (fun _ => True) v0_ r1 ∧ Kd.R k39 39 w' w.heap.size (fun _ => True) v1_ r2 ∧ Below w.heap.size w w':=by
 have hu35:=Try.underlying35
 have HR0_0:=aM hr0_0
 have HC0_0:=aM hc0_0
 clear hr0_0 hc0_0
 have HR0_1:=aM hr0_1
 have HC0_1:=aM hc0_1
 clear hr0_1 hc0_1
 have HB:=aM (Below.refl w.heap.size w)
 have H : ((some (([] : List (S59)) : List (S59))).bind fun y103 => (if y103.length + l0_0.length < 4398046511104 then ((some (([] : List (S39)) : List (S39))).bind fun y109 => (if y109.length + l0_1.length < 2932031007402 then (some ((y103 ++ l0_0),(y109 ++ l0_1),a0_2)) else (none))) else (none))) = some (r1,r2,r3):=h
 clear h
 obtain ⟨y103,hy103⟩ : ∃ y_ : List (S59),y_ = (([] : List (S59))):=⟨_,rfl⟩
 replace H : (if y103.length + l0_0.length < 4398046511104 then ((some (([] : List (S39)) : List (S39))).bind fun y109 => (if y109.length + l0_1.length < 2932031007402 then (some ((y103 ++ l0_0),(y109 ++ l0_1),a0_2)) else (none))) else (none)) = some (r1,r2,r3):=by first|(rw [hy103];with_reducible exact H)|(have H2_:=(Option.bind_some _ _).symm.trans H;rw [hy103];with_reducible exact H2_)|(have H2_:=(Option.bind_some _ _).symm.trans H;with_reducible exact H2_)|with_reducible exact H|(rw [hy103];exact H)|exact H
 have Ny103:=aM hy103
 clear hy103
 by_cases c2 : y103.length + l0_0.length < 4398046511104
 ·rw [if_pos c2] at H
  have LMc2:=aM c2
  clear c2
  obtain ⟨y106,hy106⟩ : ∃ y_ : List (S59),y_ = (y103 ++ l0_0):=⟨_,rfl⟩
  replace H : ((some (([] : List (S39)) : List (S39))).bind fun y109 => (if y109.length + l0_1.length < 2932031007402 then (some (y106,(y109 ++ l0_1),a0_2)) else (none))) = some (r1,r2,r3):=by first|(rw [hy106];with_reducible exact H)|(have H2_:=(Option.bind_some _ _).symm.trans H;rw [hy106];with_reducible exact H2_)|(have H2_:=(Option.bind_some _ _).symm.trans H;with_reducible exact H2_)|with_reducible exact H|(rw [hy106];exact H)|exact H
  have Ny106:=aM hy106
  clear hy106
  obtain ⟨y109,hy109⟩ : ∃ y_ : List (S39),y_ = (([] : List (S39))):=⟨_,rfl⟩
  replace H : (if y109.length + l0_1.length < 2932031007402 then (some (y106,(y109 ++ l0_1),a0_2)) else (none)) = some (r1,r2,r3):=by first|(rw [hy109];with_reducible exact H)|(have H2_:=(Option.bind_some _ _).symm.trans H;rw [hy109];with_reducible exact H2_)|(have H2_:=(Option.bind_some _ _).symm.trans H;with_reducible exact H2_)|with_reducible exact H|(rw [hy109];exact H)|exact H
  have Ny109:=aM hy109
  clear hy109
  by_cases c3 : y109.length + l0_1.length < 2932031007402
  ·rw [if_pos c3] at H
   have LMc3:=aM c3
   clear c3
   obtain ⟨y112,hy112⟩ : ∃ y_ : List (S39),y_ = (y109 ++ l0_1):=⟨_,rfl⟩
   replace H : (some (y106,y112,a0_2)) = some (r1,r2,r3):=by first|(rw [hy112];with_reducible exact H)|(have H2_:=(Option.bind_some _ _).symm.trans H;rw [hy112];with_reducible exact H2_)|(have H2_:=(Option.bind_some _ _).symm.trans H;with_reducible exact H2_)|with_reducible exact H|(rw [hy112];exact H)|exact H
   have Ny112:=aM hy112
   clear hy112
   simp only [Option.some.injEq,Prod.mk.injEq] at H
   obtain ⟨rfl,rfl,rfl⟩:=H
   go_enter Try.func28,Try.ntmps28
   try go_wp2_with (first|((with_reducible refine gate_dst (N:=1) rfl ?_);refine box_event ?hg (N:=1) ?hd (cs:=#[.slice A0_0 l0_0.length c0_0,.slice A0_1 l0_1.length c0_1,.string a0_2]) (t:=35) ?hr ?_;(case hd => rfl);(case hg => rfl);(case hr => first|(go_simp;done)|(go_simp;rfl));intro gb101 hg w4 hbox hb;have n0_:=aM (lQ HB.out hb);have n1_:=aM (hbox);have n2_:=aM ((sQ hg HB.out : w.heap.size ≤ gb101));have n3_:=n2_;clear HB;have HB:=n0_;have BK101:=n1_;have GW101:=n2_;have GE101:=n3_;clear n0_ n1_ n2_ n3_ hb hbox hg)|((with_reducible refine gate_dst (N:=2) rfl ?_);refine box_event ?hg (N:=2) ?hd (cs:=#[.slice none 0 0,.slice none 0 0,.string (⟨#[]⟩ : ByteArray)]) (t:=35) ?hr ?_;(case hd => rfl);(case hg => rfl);(case hr => first|(go_simp;done)|(go_simp;rfl));intro gb102 hg w5 hbox hb;have n0_:=aM (bH BK101.out hb);have n1_:=aM (lQ HB.out hb);have n2_:=aM (hbox);have n3_:=aM ((sQ hg HB.out : w.heap.size ≤ gb102));have n4_:=n3_;have n5_:=aM ((nL hg BK101.out : gb101 ≠ gb102));have n6_:=aM ((nG hg BK101.out : gb102 ≠ gb101));clear BK101 HB;have BK101:=n0_;have HB:=n1_;have BK102:=n2_;have GW102:=n3_;have GE102:=n4_;have NB101_102:=n5_;have NB102_101:=n6_;clear n0_ n1_ n2_ n3_ n4_ n5_ n6_ hb hbox hg))
   have n0_:=aM (bD BK101.out)
   have n1_:=aM (bD BK102.out)
   have n2_:=aM (lD HB.out)
   clear BK101
   clear BK102
   clear HB
   have BK101:=n0_
   have BK102:=n1_
   have HB:=n2_
   clear n0_ n1_ n2_
   refine start_ (n:=12) (S:=fun w' => w'.cell? ⟨gb101,0,none⟩ = some (.slice A0_0 l0_0.length c0_0) ∧ w'.cell? ⟨gb101,1,none⟩ = some (.slice A0_1 l0_1.length c0_1) ∧ w'.cell? ⟨gb101,2,none⟩ = some (.string a0_2)) (ds:=[9,11]) #[bf,bf,bf,bf,bf,bf,bf,bf,bf,bf,bf,bf] (by kernel_rfl) rfl rfl ⟨(bC BK101.out 0).trans rfl,(bC BK101.out 1).trans rfl,(bC BK101.out 2).trans rfl⟩ (fun hHeld => ?_);refine with_tabW impl_copyStore.tab1 impl_copyStore.bits1 (fun HT_ HW_ => ?_)
   generalize w5.drew = w6 at BK101 BK102 HB hHeld ⊢
   refine pQ (i:=1) (N:=some 4) (v:=?_) (a':=?_) #[bf,bT,bf,bf,bf,bf,bf,bf,bf,bf,bf,bf] (any_of HT_.out (by kernel_rfl)) ?_ ?_ ?_
   rotate_left
   ·intro w';go_simp;with_reducible rfl
   rotate_left
   ·simp only [Act.put,q_ia1,q_cz1,q_cs1,i64_w,i32_w];rfl
   refine pQ (i:=5) (N:=some 8) (v:=?_) (a':=?_) #[bf,bT,bf,bf,bf,bT,bf,bf,bf,bf,bf,bf] (any_of HT_.out (by kernel_rfl)) ?_ ?_ ?_
   rotate_left
   ·intro w';go_simp;with_reducible rfl
   rotate_left
   ·simp only [Act.put,q_ia1,q_cz1,q_cs1,i64_w,i32_w];rfl
   refine take_ (i:=2) (N:=some 5) (v:=?_) (a':=?_) #[bf,bT,bT,bf,bf,bT,bf,bf,bf,bf,bf,bf] rfl rfl (take_ofW HT_.out HW_.out (by kernel_rfl)) (fun _ _ _ h => h) (Or.inl ⟨by rfl,?_⟩) hHeld ?_ ?_
   rotate_left
   ·rintro w' ⟨s0,s1,s2⟩
    go_simp
    with_reducible rfl
   rotate_left
   ·simp only [Act.put,q_ia1,q_cz1,q_cs1,i64_w,i32_w];rfl
   refine take_ (i:=6) (N:=some 9) (v:=?_) (a':=?_) #[bf,bT,bT,bf,bf,bT,bT,bf,bf,bf,bf,bf] rfl rfl (take_ofW HT_.out HW_.out (by kernel_rfl)) (fun _ _ _ h => h) (Or.inl ⟨by rfl,?_⟩) hHeld ?_ ?_
   rotate_left
   ·rintro w' ⟨s0,s1,s2⟩
    go_simp
    with_reducible rfl
   rotate_left
   ·simp only [Act.put,q_ia1,q_cz1,q_cs1,i64_w,i32_w];rfl
   refine join_ (σ:=Value × Value × Value) 4 #[bT,bT,bT,bT,bT,bT,bT,bf,bT,bf,bf,bf] (fun s_ => [(3,s_.1),(6,s_.2.1),(7,s_.2.2),(11,.pointer (some ⟨gb101,0,none⟩))]) (fun s_ w' => (w'.cell? ⟨gb101,0,none⟩ = some (.slice A0_0 l0_0.length c0_0) ∧ w'.cell? ⟨gb101,1,none⟩ = some (.slice A0_1 l0_1.length c0_1) ∧ w'.cell? ⟨gb101,2,none⟩ = some (.string a0_2)) ∧ (Kd.R k59 59 w' w.heap.size (fun _ => True) s_.2.1 y106) ∧ (Kd.R k39 39 w' w.heap.size (fun _ => True) s_.2.2 y109) ∧ (w'.heap[gb101]? = some (.cells #[.slice A0_0 l0_0.length c0_0,.slice A0_1 l0_1.length c0_1,.string a0_2] 35 (0,0))) ∧ (w'.heap[gb102]? = some (.cells #[.slice none 0 0,.slice none 0 0,.string (⟨#[]⟩ : ByteArray)] 35 (0,0))) ∧ (Below w.heap.size w w')) ?_ ?_
   rotate_left
   ·intro hCont
    refine two_ (i:=0) (j:=4) (Ni:=some 3) (Nj:=some 7) #[bT,bT,bT,bf,bf,bT,bT,bf,bf,bf,bf,bf] #[bf,bT,bT,bf,bT,bT,bT,bf,bf,bf,bf,bf] rfl rfl rfl rfl (two_of HT_.out (by kernel_rfl)) (by decide) (by decide) (fun K hK => ?_) (fun K hK => ?_)
    ·skip
     refine Kd.R_lit_step k59 _ 59 ?hg (N:=3) ?hd (xs:=([] : List (S59))) (inner:=[]) (ok:=fun _ => True) (okp:=fun _ => True) ?hr ?hp (fun _ hk => hk) trivial (Below.refl _ _) (Nat.le_refl _) (by simp) ?_;(case hd => rfl);(case hg => rfl);(case hr => first|(go_simp;done)|(go_simp;rfl));(case hp => exact (Reps.none _ _))
     intro v104 w7 ho8 hb hg_ hnew_
     clear hg_ hnew_
     (first|rw [← Ny103.out] at ho8|(simp only [Int.reduceToNat] at ho8;rw [← Ny103.out] at ho8))
     have n0_:=aM (rL ho8 (lZ (by repeat (first|(with_reducible first|exact HB.out|apply lA|apply lN|apply lD|refine lS ?_ GE101.out|refine lS ?_ GE102.out)|exact HB.out))))
     have n1_:=aM (bH BK101.out hb)
     have n2_:=aM (bH BK102.out hb)
     have n3_:=aM (lQ HB.out hb)
     clear BK101
     clear BK102
     clear HB
     have HO105:=n0_
     have BK101:=n1_
     have BK102:=n2_
     have HB:=n3_
     clear n0_ n1_ n2_ n3_
     clear hb ho8
     refine hK.out _ _ ⟨(bC BK101.out 0).trans rfl,(bC BK101.out 1).trans rfl,(bC BK101.out 2).trans rfl⟩ (fun hHeld => ?_)
     clear hK K
     refine norm_ (a':=?_) ?_ ?_
     rotate_left
     ·show Act.put _ (some 3) _ = _
      simp only [Act.put,q_ia1,q_cz1,q_cs1,i64_w,i32_w]
      rfl
     refine two_ (i:=3) (j:=4) (Ni:=some 6) (Nj:=some 7) #[bT,bT,bT,bT,bf,bT,bT,bf,bf,bf,bf,bf] #[bT,bT,bT,bf,bT,bT,bT,bf,bf,bf,bf,bf] rfl rfl rfl rfl (two_of HT_.out (by kernel_rfl)) (by decide) (by decide) (fun K hK => ?_) (fun K hK => ?_)
     ·skip
      refine Kd.R_append_rows_step k59 (w0:=w) w.heap.size (by rfl) (.tmp 3) (.tmp 5) 32 59 (.agg #[(.string ⟨#[]⟩),(.string ⟨#[]⟩)]) 32 rfl Try.underlying32 info59 rfl (by decide) (by omega) v104 y103 l0_0 _ _ _ (fun _ => True) (fun _ => False) rfl rfl ?aO ?aR (fun _ _ h => h) (fun _ h => h.elim) ?aF ?aB ?aS ?aL ?_
      (case aR => repeat (first|exact (cB HR0_0.out HB.out)|(with_reducible first|refine cA ?_ _|refine cN ?_ _|refine cD ?_)))
      (case aB => exact (by repeat (first|(with_reducible first|exact HB.out|apply lA|apply lN|apply lD|refine lS ?_ GE101.out|refine lS ?_ GE102.out)|exact HB.out)))
      (case aF => exact (fun _ _ => trivial))
      (case aO => exact (rZ HO105.out))
      (case aS => exact (lZ (by repeat (first|(with_reducible first|exact HB.out|apply lA|apply lN|apply lD|refine lS ?_ GE101.out|refine lS ?_ GE102.out)|exact HB.out))))
      (case aL => have:=LMc2.out;omega)
      intro v107 w9 ho hb hg hat
      rw [← Ny106.out] at ho
      have n0_:=aM (blk_grown (g:=gb101) (o:=.cells #[.slice A0_0 l0_0.length c0_0,.slice A0_1 l0_1.length c0_1,.string a0_2] 35 (0,0)) (by (with_reducible repeat (first|refine bN ?_ _|refine bD ?_|refine bA ?_ _));exact BK101.out) hg (Kd.R_ne HO105.out BK101.out (by decide)))
      have n1_:=aM (blk_grown (g:=gb102) (o:=.cells #[.slice none 0 0,.slice none 0 0,.string (⟨#[]⟩ : ByteArray)] 35 (0,0)) (by (with_reducible repeat (first|refine bN ?_ _|refine bD ?_|refine bA ?_ _));exact BK102.out) hg (Kd.R_ne HO105.out BK102.out (by decide)))
      have n2_:=aM (hb)
      have n3_:=aM (ho)
      clear BK101
      clear BK102
      clear HB
      clear HO105
      have BK101:=n0_
      have BK102:=n1_
      have HB:=n2_
      have HO108:=n3_
      clear n0_ n1_ n2_ n3_
      clear ho hb hg hat
      refine hK.out _ _ ⟨(bC BK101.out 0).trans rfl,(bC BK101.out 1).trans rfl,(bC BK101.out 2).trans rfl⟩ (fun hHeld => ?_)
      clear hK K
      refine norm_ (a':=?_) ?_ ?_
      rotate_left
      ·show Act.put _ (some 6) _ = _
       simp only [Act.put,q_ia1,q_cz1,q_cs1,i64_w,i32_w]
       rfl
      refine pQ (i:=8) (N:=some 11) (v:=?_) (a':=?_) #[bT,bT,bT,bT,bf,bT,bT,bf,bT,bf,bf,bf] (any_of HT_.out (by kernel_rfl)) ?_ ?_ ?_
      rotate_left
      ·intro w';go_simp;with_reducible rfl
      rotate_left
      ·simp only [Act.put,q_ia1,q_cz1,q_cs1,i64_w,i32_w];rfl
      refine one_ (i:=4) (N:=some 7) #[bT,bT,bT,bT,bT,bT,bT,bf,bT,bf,bf,bf] rfl rfl (one_of HT_.out (by kernel_rfl)) (by decide) (fun K hK => ?_)
      refine Kd.R_lit_step k39 _ 39 ?hg (N:=7) ?hd (xs:=([] : List (S39))) (inner:=[]) (ok:=fun _ => True) (okp:=fun _ => True) ?hr ?hp (fun _ hk => hk) trivial (Below.refl _ _) (Nat.le_refl _) (by simp) ?_;(case hd => rfl);(case hg => rfl);(case hr => first|(go_simp;done)|(go_simp;rfl));(case hp => exact (Reps.none _ _))
      intro v110 w10 ho11 hb hg_ hnew_
      clear hg_ hnew_
      (first|rw [← Ny109.out] at ho11|(simp only [Int.reduceToNat] at ho11;rw [← Ny109.out] at ho11))
      have n0_:=aM (rH HO108.out hb)
      have n1_:=aM (rL ho11 (lZ (by repeat (first|(with_reducible first|exact HB.out|apply lA|apply lN|apply lD|refine lS ?_ GE101.out|refine lS ?_ GE102.out)|exact HB.out))))
      have n2_:=aM (bH BK101.out hb)
      have n3_:=aM (bH BK102.out hb)
      have n4_:=aM (lQ HB.out hb)
      clear HO108
      clear BK101
      clear BK102
      clear HB
      have HO108:=n0_
      have HO111:=n1_
      have BK101:=n2_
      have BK102:=n3_
      have HB:=n4_
      clear n0_ n1_ n2_ n3_ n4_
      clear hb ho11
      refine hK.out _ _ ⟨(bC BK101.out 0).trans rfl,(bC BK101.out 1).trans rfl,(bC BK101.out 2).trans rfl⟩ (fun hHeld => ?_)
      clear hK K
      refine norm_ (a':=?_) ?_ ?_
      rotate_left
      ·show Act.put _ (some 7) _ = _
       simp only [Act.put,q_ia1,q_cz1,q_cs1,i64_w,i32_w]
       rfl
      exact norm_ (by simp only [putAll,Act.put,q_ia1,q_cz1,q_cs1]) (hCont (v104,v107,v110) _ ⟨hHeld,(rZ HO108.out),(rZ HO111.out),(by (with_reducible repeat (first|refine bN ?_ _|refine bD ?_|refine bA ?_ _));exact BK101.out),(by (with_reducible repeat (first|refine bN ?_ _|refine bD ?_|refine bA ?_ _));exact BK102.out),(by repeat (first|(with_reducible first|exact HB.out|apply lA|apply lN|apply lD|refine lS ?_ GE101.out|refine lS ?_ GE102.out)|exact HB.out))⟩)
     ·skip
      refine Kd.R_lit_step k39 _ 39 ?hg (N:=7) ?hd (xs:=([] : List (S39))) (inner:=[]) (ok:=fun _ => True) (okp:=fun _ => True) ?hr ?hp (fun _ hk => hk) trivial (Below.refl _ _) (Nat.le_refl _) (by simp) ?_;(case hd => rfl);(case hg => rfl);(case hr => first|(go_simp;done)|(go_simp;rfl));(case hp => exact (Reps.none _ _))
      intro v110 w9 ho10 hb hg_ hnew_
      clear hg_ hnew_
      (first|rw [← Ny109.out] at ho10|(simp only [Int.reduceToNat] at ho10;rw [← Ny109.out] at ho10))
      have n0_:=aM (rH HO105.out hb)
      have n1_:=aM (rL ho10 (lZ (by repeat (first|(with_reducible first|exact HB.out|apply lA|apply lN|apply lD|refine lS ?_ GE101.out|refine lS ?_ GE102.out)|exact HB.out))))
      have n2_:=aM (bH BK101.out hb)
      have n3_:=aM (bH BK102.out hb)
      have n4_:=aM (lQ HB.out hb)
      clear HO105
      clear BK101
      clear BK102
      clear HB
      have HO105:=n0_
      have HO111:=n1_
      have BK101:=n2_
      have BK102:=n3_
      have HB:=n4_
      clear n0_ n1_ n2_ n3_ n4_
      clear hb ho10
      refine hK.out _ _ ⟨(bC BK101.out 0).trans rfl,(bC BK101.out 1).trans rfl,(bC BK101.out 2).trans rfl⟩ (fun hHeld => ?_)
      clear hK K
      refine norm_ (a':=?_) ?_ ?_
      rotate_left
      ·show Act.put _ (some 7) _ = _
       simp only [Act.put,q_ia1,q_cz1,q_cs1,i64_w,i32_w]
       rfl
      refine one_ (i:=3) (N:=some 6) #[bT,bT,bT,bT,bT,bT,bT,bf,bf,bf,bf,bf] rfl rfl (one_of HT_.out (by kernel_rfl)) (by decide) (fun K hK => ?_)
      refine Kd.R_append_rows_step k59 (w0:=w) w.heap.size (by rfl) (.tmp 3) (.tmp 5) 32 59 (.agg #[(.string ⟨#[]⟩),(.string ⟨#[]⟩)]) 32 rfl Try.underlying32 info59 rfl (by decide) (by omega) v104 y103 l0_0 _ _ _ (fun _ => True) (fun _ => False) rfl rfl ?aO ?aR (fun _ _ h => h) (fun _ h => h.elim) ?aF ?aB ?aS ?aL ?_
      (case aR => repeat (first|exact (cB HR0_0.out HB.out)|(with_reducible first|refine cA ?_ _|refine cN ?_ _|refine cD ?_)))
      (case aB => exact (by repeat (first|(with_reducible first|exact HB.out|apply lA|apply lN|apply lD|refine lS ?_ GE101.out|refine lS ?_ GE102.out)|exact HB.out)))
      (case aF => exact (fun _ _ => trivial))
      (case aO => exact (rZ HO105.out))
      (case aS => exact (lZ (by repeat (first|(with_reducible first|exact HB.out|apply lA|apply lN|apply lD|refine lS ?_ GE101.out|refine lS ?_ GE102.out)|exact HB.out))))
      (case aL => have:=LMc2.out;omega)
      intro v107 w11 ho hb hg hat
      rw [← Ny106.out] at ho
      have n0_:=aM (blk_grown (g:=gb101) (o:=.cells #[.slice A0_0 l0_0.length c0_0,.slice A0_1 l0_1.length c0_1,.string a0_2] 35 (0,0)) (by (with_reducible repeat (first|refine bN ?_ _|refine bD ?_|refine bA ?_ _));exact BK101.out) hg (Kd.R_ne HO105.out BK101.out (by decide)))
      have n1_:=aM (blk_grown (g:=gb102) (o:=.cells #[.slice none 0 0,.slice none 0 0,.string (⟨#[]⟩ : ByteArray)] 35 (0,0)) (by (with_reducible repeat (first|refine bN ?_ _|refine bD ?_|refine bA ?_ _));exact BK102.out) hg (Kd.R_ne HO105.out BK102.out (by decide)))
      have n2_:=aM (Kd.R_over' (rZ HO111.out) (Kd.R_typed (rZ HO105.out)) (by decide) hg)
      have n3_:=aM (hb)
      have n4_:=aM (ho)
      clear BK101
      clear BK102
      clear HO111
      clear HB
      clear HO105
      have BK101:=n0_
      have BK102:=n1_
      have HO111:=n2_
      have HB:=n3_
      have HO108:=n4_
      clear n0_ n1_ n2_ n3_ n4_
      clear ho hb hg hat
      refine hK.out _ _ ⟨(bC BK101.out 0).trans rfl,(bC BK101.out 1).trans rfl,(bC BK101.out 2).trans rfl⟩ (fun hHeld => ?_)
      clear hK K
      refine norm_ (a':=?_) ?_ ?_
      rotate_left
      ·show Act.put _ (some 6) _ = _
       simp only [Act.put,q_ia1,q_cz1,q_cs1,i64_w,i32_w]
       rfl
      refine pQ (i:=8) (N:=some 11) (v:=?_) (a':=?_) #[bT,bT,bT,bT,bT,bT,bT,bf,bT,bf,bf,bf] (any_of HT_.out (by kernel_rfl)) ?_ ?_ ?_
      rotate_left
      ·intro w';go_simp;with_reducible rfl
      rotate_left
      ·simp only [Act.put,q_ia1,q_cz1,q_cs1,i64_w,i32_w];rfl
      exact norm_ (by simp only [putAll,Act.put,q_ia1,q_cz1,q_cs1]) (hCont (v104,v107,v110) _ ⟨hHeld,(rZ HO108.out),(rZ HO111.out),(by (with_reducible repeat (first|refine bN ?_ _|refine bD ?_|refine bA ?_ _));exact BK101.out),(by (with_reducible repeat (first|refine bN ?_ _|refine bD ?_|refine bA ?_ _));exact BK102.out),(by repeat (first|(with_reducible first|exact HB.out|apply lA|apply lN|apply lD|refine lS ?_ GE101.out|refine lS ?_ GE102.out)|exact HB.out))⟩)
    ·skip
     refine Kd.R_lit_step k39 _ 39 ?hg (N:=7) ?hd (xs:=([] : List (S39))) (inner:=[]) (ok:=fun _ => True) (okp:=fun _ => True) ?hr ?hp (fun _ hk => hk) trivial (Below.refl _ _) (Nat.le_refl _) (by simp) ?_;(case hd => rfl);(case hg => rfl);(case hr => first|(go_simp;done)|(go_simp;rfl));(case hp => exact (Reps.none _ _))
     intro v110 w7 ho8 hb hg_ hnew_
     clear hg_ hnew_
     (first|rw [← Ny109.out] at ho8|(simp only [Int.reduceToNat] at ho8;rw [← Ny109.out] at ho8))
     have n0_:=aM (rL ho8 (lZ (by repeat (first|(with_reducible first|exact HB.out|apply lA|apply lN|apply lD|refine lS ?_ GE101.out|refine lS ?_ GE102.out)|exact HB.out))))
     have n1_:=aM (bH BK101.out hb)
     have n2_:=aM (bH BK102.out hb)
     have n3_:=aM (lQ HB.out hb)
     clear BK101
     clear BK102
     clear HB
     have HO111:=n0_
     have BK101:=n1_
     have BK102:=n2_
     have HB:=n3_
     clear n0_ n1_ n2_ n3_
     clear hb ho8
     refine hK.out _ _ ⟨(bC BK101.out 0).trans rfl,(bC BK101.out 1).trans rfl,(bC BK101.out 2).trans rfl⟩ (fun hHeld => ?_)
     clear hK K
     refine norm_ (a':=?_) ?_ ?_
     rotate_left
     ·show Act.put _ (some 7) _ = _
      simp only [Act.put,q_ia1,q_cz1,q_cs1,i64_w,i32_w]
      rfl
     refine one_ (i:=0) (N:=some 3) #[bT,bT,bT,bf,bT,bT,bT,bf,bf,bf,bf,bf] rfl rfl (one_of HT_.out (by kernel_rfl)) (by decide) (fun K hK => ?_)
     refine Kd.R_lit_step k59 _ 59 ?hg (N:=3) ?hd (xs:=([] : List (S59))) (inner:=[]) (ok:=fun _ => True) (okp:=fun _ => True) ?hr ?hp (fun _ hk => hk) trivial (Below.refl _ _) (Nat.le_refl _) (by simp) ?_;(case hd => rfl);(case hg => rfl);(case hr => first|(go_simp;done)|(go_simp;rfl));(case hp => exact (Reps.none _ _))
     intro v104 w9 ho10 hb hg_ hnew_
     clear hg_ hnew_
     (first|rw [← Ny103.out] at ho10|(simp only [Int.reduceToNat] at ho10;rw [← Ny103.out] at ho10))
     have n0_:=aM (rH HO111.out hb)
     have n1_:=aM (rL ho10 (lZ (by repeat (first|(with_reducible first|exact HB.out|apply lA|apply lN|apply lD|refine lS ?_ GE101.out|refine lS ?_ GE102.out)|exact HB.out))))
     have n2_:=aM (bH BK101.out hb)
     have n3_:=aM (bH BK102.out hb)
     have n4_:=aM (lQ HB.out hb)
     clear HO111
     clear BK101
     clear BK102
     clear HB
     have HO111:=n0_
     have HO105:=n1_
     have BK101:=n2_
     have BK102:=n3_
     have HB:=n4_
     clear n0_ n1_ n2_ n3_ n4_
     clear hb ho10
     refine hK.out _ _ ⟨(bC BK101.out 0).trans rfl,(bC BK101.out 1).trans rfl,(bC BK101.out 2).trans rfl⟩ (fun hHeld => ?_)
     clear hK K
     refine norm_ (a':=?_) ?_ ?_
     rotate_left
     ·show Act.put _ (some 3) _ = _
      simp only [Act.put,q_ia1,q_cz1,q_cs1,i64_w,i32_w]
      rfl
     refine one_ (i:=3) (N:=some 6) #[bT,bT,bT,bT,bT,bT,bT,bf,bf,bf,bf,bf] rfl rfl (one_of HT_.out (by kernel_rfl)) (by decide) (fun K hK => ?_)
     refine Kd.R_append_rows_step k59 (w0:=w) w.heap.size (by rfl) (.tmp 3) (.tmp 5) 32 59 (.agg #[(.string ⟨#[]⟩),(.string ⟨#[]⟩)]) 32 rfl Try.underlying32 info59 rfl (by decide) (by omega) v104 y103 l0_0 _ _ _ (fun _ => True) (fun _ => False) rfl rfl ?aO ?aR (fun _ _ h => h) (fun _ h => h.elim) ?aF ?aB ?aS ?aL ?_
     (case aR => repeat (first|exact (cB HR0_0.out HB.out)|(with_reducible first|refine cA ?_ _|refine cN ?_ _|refine cD ?_)))
     (case aB => exact (by repeat (first|(with_reducible first|exact HB.out|apply lA|apply lN|apply lD|refine lS ?_ GE101.out|refine lS ?_ GE102.out)|exact HB.out)))
     (case aF => exact (fun _ _ => trivial))
     (case aO => exact (rZ HO105.out))
     (case aS => exact (lZ (by repeat (first|(with_reducible first|exact HB.out|apply lA|apply lN|apply lD|refine lS ?_ GE101.out|refine lS ?_ GE102.out)|exact HB.out))))
     (case aL => have:=LMc2.out;omega)
     intro v107 w11 ho hb hg hat
     rw [← Ny106.out] at ho
     have n0_:=aM (blk_grown (g:=gb101) (o:=.cells #[.slice A0_0 l0_0.length c0_0,.slice A0_1 l0_1.length c0_1,.string a0_2] 35 (0,0)) (by (with_reducible repeat (first|refine bN ?_ _|refine bD ?_|refine bA ?_ _));exact BK101.out) hg (Kd.R_ne HO105.out BK101.out (by decide)))
     have n1_:=aM (blk_grown (g:=gb102) (o:=.cells #[.slice none 0 0,.slice none 0 0,.string (⟨#[]⟩ : ByteArray)] 35 (0,0)) (by (with_reducible repeat (first|refine bN ?_ _|refine bD ?_|refine bA ?_ _));exact BK102.out) hg (Kd.R_ne HO105.out BK102.out (by decide)))
     have n2_:=aM (Kd.R_over' (rZ HO111.out) (Kd.R_typed (rZ HO105.out)) (by decide) hg)
     have n3_:=aM (hb)
     have n4_:=aM (ho)
     clear BK101
     clear BK102
     clear HO111
     clear HB
     clear HO105
     have BK101:=n0_
     have BK102:=n1_
     have HO111:=n2_
     have HB:=n3_
     have HO108:=n4_
     clear n0_ n1_ n2_ n3_ n4_
     clear ho hb hg hat
     refine hK.out _ _ ⟨(bC BK101.out 0).trans rfl,(bC BK101.out 1).trans rfl,(bC BK101.out 2).trans rfl⟩ (fun hHeld => ?_)
     clear hK K
     refine norm_ (a':=?_) ?_ ?_
     rotate_left
     ·show Act.put _ (some 6) _ = _
      simp only [Act.put,q_ia1,q_cz1,q_cs1,i64_w,i32_w]
      rfl
     refine pQ (i:=8) (N:=some 11) (v:=?_) (a':=?_) #[bT,bT,bT,bT,bT,bT,bT,bf,bT,bf,bf,bf] (any_of HT_.out (by kernel_rfl)) ?_ ?_ ?_
     rotate_left
     ·intro w';go_simp;with_reducible rfl
     rotate_left
     ·simp only [Act.put,q_ia1,q_cz1,q_cs1,i64_w,i32_w];rfl
     exact norm_ (by simp only [putAll,Act.put,q_ia1,q_cz1,q_cs1]) (hCont (v104,v107,v110) _ ⟨hHeld,(rZ HO108.out),(rZ HO111.out),(by (with_reducible repeat (first|refine bN ?_ _|refine bD ?_|refine bA ?_ _));exact BK101.out),(by (with_reducible repeat (first|refine bN ?_ _|refine bD ?_|refine bA ?_ _));exact BK102.out),(by repeat (first|(with_reducible first|exact HB.out|apply lA|apply lN|apply lD|refine lS ?_ GE101.out|refine lS ?_ GE102.out)|exact HB.out))⟩)
   rintro ⟨v104,v107,v110⟩ w12 ⟨hS_,h0_,h1_,h2_,h3_,h4_⟩
   have n0_ : Aside0 (Kd.R k59 59 w12 w.heap.size (fun _ => True) v107 y106):=⟨h0_⟩
   have n1_ : Aside0 (Kd.R k39 39 w12 w.heap.size (fun _ => True) v110 y109):=⟨h1_⟩
   have n2_ : Aside0 (w12.heap[gb101]? = some (.cells #[.slice A0_0 l0_0.length c0_0,.slice A0_1 l0_1.length c0_1,.string a0_2] 35 (0,0))):=⟨h2_⟩
   have n3_ : Aside0 (w12.heap[gb102]? = some (.cells #[.slice none 0 0,.slice none 0 0,.string (⟨#[]⟩ : ByteArray)] 35 (0,0))):=⟨h3_⟩
   have n4_ : Aside0 (Below w.heap.size w w12):=⟨h4_⟩
   clear BK101
   clear BK102
   clear HB
   clear h0_ h1_ h2_ h3_ h4_
   have HO108:=n0_
   have HO111:=n1_
   have BK101:=n2_
   have BK102:=n3_
   have HB:=n4_
   clear n0_ n1_ n2_ n3_ n4_
   have hHeld : w12.cell? ⟨gb101,0,none⟩ = some (.slice A0_0 l0_0.length c0_0) ∧ w12.cell? ⟨gb101,1,none⟩ = some (.slice A0_1 l0_1.length c0_1) ∧ w12.cell? ⟨gb101,2,none⟩ = some (.string a0_2):=hS_
   refine norm_ (a':=?_) ?_ ?_
   rotate_left
   ·simp only [putAll,Act.put,q_ia1,q_cz1,q_cs1];rfl
   refine one_ (i:=7) (N:=some 10) #[bT,bT,bT,bT,bT,bT,bT,bT,bT,bf,bf,bf] rfl rfl (one_of HT_.out (by kernel_rfl)) (by decide) (fun K hK => ?_)
   refine Kd.R_append_rows_step k39 (w0:=w) w.heap.size (by rfl) (.tmp 7) (.tmp 9) 33 39 (.agg #[(.string ⟨#[]⟩),(.string ⟨#[]⟩),(.string ⟨#[]⟩)]) 48 rfl Try.underlying33 info39 rfl (by decide) (by omega) v110 y109 l0_1 _ _ _ (fun _ => True) (fun _ => False) rfl rfl ?aO ?aR (fun _ _ h => h) (fun _ h => h.elim) ?aF ?aB ?aS ?aL ?_
   (case aR => repeat (first|exact (cB HR0_1.out HB.out)|(with_reducible first|refine cA ?_ _|refine cN ?_ _|refine cD ?_)))
   (case aB => exact (by repeat (first|(with_reducible first|exact HB.out|apply lA|apply lN|apply lD|refine lS ?_ GE101.out|refine lS ?_ GE102.out)|exact HB.out)))
   (case aF => exact (fun _ _ => trivial))
   (case aO => exact (rZ HO111.out))
   (case aS => exact (lZ (by repeat (first|(with_reducible first|exact HB.out|apply lA|apply lN|apply lD|refine lS ?_ GE101.out|refine lS ?_ GE102.out)|exact HB.out))))
   (case aL => have:=LMc3.out;omega)
   intro v113 w13 ho hb hg hat
   rw [← Ny112.out] at ho
   have n0_:=aM (blk_grown (g:=gb101) (o:=.cells #[.slice A0_0 l0_0.length c0_0,.slice A0_1 l0_1.length c0_1,.string a0_2] 35 (0,0)) (by (with_reducible repeat (first|refine bN ?_ _|refine bD ?_|refine bA ?_ _));exact BK101.out) hg (Kd.R_ne HO111.out BK101.out (by decide)))
   have n1_:=aM (blk_grown (g:=gb102) (o:=.cells #[.slice none 0 0,.slice none 0 0,.string (⟨#[]⟩ : ByteArray)] 35 (0,0)) (by (with_reducible repeat (first|refine bN ?_ _|refine bD ?_|refine bA ?_ _));exact BK102.out) hg (Kd.R_ne HO111.out BK102.out (by decide)))
   have n2_:=aM (Kd.R_over' (rZ HO108.out) (Kd.R_typed (rZ HO111.out)) (by decide) hg)
   have n3_:=aM (hb)
   have n4_:=aM (ho)
   clear BK101
   clear BK102
   clear HO108
   clear HB
   clear HO111
   have BK101:=n0_
   have BK102:=n1_
   have HO108:=n2_
   have HB:=n3_
   have HO114:=n4_
   clear n0_ n1_ n2_ n3_ n4_
   clear ho hb hg hat
   obtain ⟨Ao14,co14,eo14⟩:=Kd.R_slice HO108.out
   (first|subst eo14|(injection eo14 with f1_ f2_ f3_;have f4_:=f1_.symm;have f5_:=f3_.symm;clear f1_ f2_ f3_;subst f4_;subst f5_))
   obtain ⟨Ao16,co16,eo16⟩:=Kd.R_slice HO114.out
   (first|subst eo16|(injection eo16 with f1_ f2_ f3_;have f4_:=f1_.symm;have f5_:=f3_.symm;clear f1_ f2_ f3_;subst f4_;subst f5_))
   refine hK.out _ _ ⟨(bC BK101.out 0).trans rfl,(bC BK101.out 1).trans rfl,(bC BK101.out 2).trans rfl⟩ (fun hHeld => ?_)
   clear hK K
   refine norm_ (a':=?_) ?_ ?_
   rotate_left
   ·show Act.put _ (some 10) _ = _
    simp only [Act.put,q_ia1,q_cz1,q_cs1,i64_w,i32_w]
    rfl
   refine last_ (i:=9) (N:=none) #[bT,bT,bT,bT,bT,bT,bT,bT,bT,bT,bf,bf] rfl rfl (one_of HT_.out (by kernel_rfl)) (by decide) (fun K hK => ?_)
   have hs15 : w13.cell? ⟨gb101,0,none⟩ = some (.slice A0_0 l0_0.length c0_0):=(bC BK101.out 0).trans rfl
   have hfs15:=bF BK101.out 0
   have hns15_1:=NB102_101.out
   have hms15_1:=NB101_102.out
   refine skip_ (w1:=?_) (by rfl) rfl ?_ ?_
   rotate_left
   ·go_simp
    rfl
   refine hK.out _ _ ?_
   clear hK K
   refine pQ (i:=10) (N:=some 12) (v:=?_) (a':=?_) #[bT,bT,bT,bT,bT,bT,bT,bT,bT,bT,bT,bf] (any_of HT_.out (by kernel_rfl)) ?_ ?_ ?_
   rotate_left
   ·intro w';go_simp;with_reducible rfl
   rotate_left
   ·simp only [Act.put,q_ia1,q_cz1,q_cs1,i64_w,i32_w];rfl
   refine last_ (i:=11) (N:=none) #[bT,bT,bT,bT,bT,bT,bT,bT,bT,bT,bT,bT] rfl rfl (one_of HT_.out (by kernel_rfl)) (by decide) (fun K hK => ?_)
   have hs17 : w13.cell? ⟨gb101,1,none⟩ = some (.slice A0_1 l0_1.length c0_1):=(bC BK101.out 1).trans rfl
   have hfs17:=bF BK101.out 1
   have hns17_1:=NB102_101.out
   have hms17_1:=NB101_102.out
   refine skip_ (w1:=?_) (by rfl) rfl ?_ ?_
   rotate_left
   ·go_simp
    rfl
   refine hK.out _ _ ?_
   clear hK K
   refine done_ (done_of HT_.out (by kernel_rfl)) ?_
   have hnb18:=NB101_102.out
   have hnc18:=NB102_101.out
   obtain ⟨⟨hcz19_0,hcz19_1,hcz19_2⟩,hfz19_0,hfz19_1,hfz19_2⟩:=bC3 BK101.out
   obtain ⟨⟨hcz20_0,hcz20_1,hcz20_2⟩,hfz20_0,hfz20_1,hfz20_2⟩:=bC3 BK102.out
   try go_wp2
   refine bodyPost_ret (results_cell_row rfl _ _ gb102 35 #[.slice Ao14 y106.length co14,.slice Ao16 y112.length co16,.string a0_2] (0,0) _ rfl (by (with_reducible repeat (first|refine bN ?_ _|refine bD ?_|refine bA ?_ _));refine blk_put (cs:=#[.slice Ao14 y106.length co14,.slice Ao16 y112.length co16,.string (⟨#[]⟩ : ByteArray)]) ?_ 2 _ rfl;(with_reducible repeat (first|refine bN ?_ _|refine bD ?_|refine bA ?_ _));refine blk_put (cs:=#[.slice Ao14 y106.length co14,.slice none 0 0,.string (⟨#[]⟩ : ByteArray)]) ?_ 1 _ rfl;(with_reducible repeat (first|refine bN ?_ _|refine bD ?_|refine bA ?_ _));refine blk_put (cs:=#[.slice none 0 0,.slice none 0 0,.string (⟨#[]⟩ : ByteArray)]) ?_ 0 _ rfl;(with_reducible repeat (first|refine bN ?_ _|refine bD ?_|refine bA ?_ _));refine blk_far ?_ NB102_101.out _;(with_reducible repeat (first|refine bN ?_ _|refine bD ?_|refine bA ?_ _));refine blk_far ?_ NB102_101.out _;(with_reducible repeat (first|refine bN ?_ _|refine bD ?_|refine bA ?_ _));exact BK102.out) Try.underlying35 rfl (by kernel_rfl)) rfl ?_
   exact ⟨_,_,by first|rfl|(simp [errW_none,errW_some] <;> rfl)|(simp [*,errW_none,errW_some] <;> rfl),by (with_reducible repeat (first|apply rA|apply rN|apply rD));exact Kd.R_mono (rF (rF (rF (rF (rF (rY (rY HO108.out BK101.out (by decide)) BK102.out (by decide)) (fun _ hk => hk.1.2) _) (fun _ hk => hk.1.2) _) (fun _ hk => hk.2) _) (fun _ hk => hk.2) _) (fun _ hk => hk.2) _) (fun _ hk => trivial),by (with_reducible repeat (first|apply rA|apply rN|apply rD));exact Kd.R_mono (rF (rF (rF (rF (rF (rY (rY HO114.out BK101.out (by decide)) BK102.out (by decide)) (fun _ hk => hk.1.2) _) (fun _ hk => hk.1.2) _) (fun _ hk => hk.2) _) (fun _ hk => hk.2) _) (fun _ hk => hk.2) _) (fun _ hk => trivial),by repeat (first|(with_reducible first|exact HB.out|apply lA|apply lN|apply lD|refine lS ?_ GE101.out|refine lS ?_ GE102.out)|exact HB.out)⟩
  ·rw [if_neg c3] at H
   exact absurd H (by simp)
 ·rw [if_neg c2] at H
  exact absurd H (by simp)

/-- A state of type 35 at block g of W; what its slices lead to came in by w0. -/
def IsS35 (J_ : Option Addr → Nat → Option Addr → Nat → Prop) (w0 W : World) (g : Nat) (f0 : List (S59)) (f1 : List (S39)) (f2 : ByteArray) : Prop:=∃ A0 c0,∃ A1 c1,W.heap[g]? = some (.cells #[.slice A0 f0.length c0,.slice A1 f1.length c1,.string f2] 35 (0,0)) ∧ (w0.heap.size ≤ g ∧ J_ A0 c0 A1 c1) ∧ Kd.C k59 w0 A0 f0.length f0 ∧ Kd.C k39 w0 A1 f1.length f1
theorem IsS35.grown {J_ : Option Addr → Nat → Option Addr → Nat → Prop} {w0 W : World} {g : Nat} {f0 : List (S59)} {f1 : List (S39)} {f2 : ByteArray} {W1 : World} {row : Option Nat} (h : IsS35 J_ w0 W g f0 f1 f2) (hw : W.grownBy W1 row) (hne : some g ≠ row) : IsS35 J_ w0 W1 g f0 f1 f2:=by
 obtain ⟨A0,c0,A1,c1,hb,hg,hr0,hr1⟩:=h
 exact ⟨A0,c0,A1,c1,blk_grown hb hw hne,hg,hr0,hr1⟩
theorem IsS35.own_neN {J_ : Option Addr → Nat → Option Addr → Nat → Prop} {w0 W : World} {g : Nat} {f0 : List (S59)} {f1 : List (S39)} {f2 : ByteArray} {α : Type} {d : Kd α} {e : Nat} {base : Nat} {ok : Nat → Prop} {v : Value} {xs : List α} (h : IsS35 J_ w0 W g f0 f1 f2) (ho : Kd.N d e W base ok v xs) (ht : e ≠ 35) : some g ≠ v.ownBlock:=by
 obtain ⟨A0,c0,A1,c1,hb,hg,hr0,hr1⟩:=h
 exact Kd.N_ne ho hb ht
theorem IsS35.fresh {J_ : Option Addr → Nat → Option Addr → Nat → Prop} {w0 W : World} {g : Nat} {f0 : List (S59)} {f1 : List (S39)} {f2 : ByteArray} (h : IsS35 J_ w0 W g f0 f1 f2) : ∀ k,W.heap.size ≤ k → k ≠ g:=by
 obtain ⟨A0,c0,A1,c1,hb,hg,hr0,hr1⟩:=h
 exact Kd.freshB hb
theorem IsS35.kept {J_ : Option Addr → Nat → Option Addr → Nat → Prop} {w0 W : World} {g : Nat} {f0 : List (S59)} {f1 : List (S39)} {f2 : ByteArray} {W1 : World} {S : Nat → Prop} (h : IsS35 J_ w0 W g f0 f1 f2) (hk : Kept W W1 S) (hne : ¬ S g) : IsS35 J_ w0 W1 g f0 f1 f2:=by
 obtain ⟨A0,c0,A1,c1,hb,hg,hr0,hr1⟩:=h
 exact ⟨A0,c0,A1,c1,blk_kept hb hk hne,hg,hr0,hr1⟩
theorem IsS35.below {J_ : Option Addr → Nat → Option Addr → Nat → Prop} {w0 W : World} {g : Nat} {f0 : List (S59)} {f1 : List (S39)} {f2 : ByteArray} {W1 : World} (h : IsS35 J_ w0 W g f0 f1 f2) (hw : Below W.heap.size W W1) : IsS35 J_ w0 W1 g f0 f1 f2:=h.grown (grown_of_below hw none) (by simp)
theorem IsS35.alloc {J_ : Option Addr → Nat → Option Addr → Nat → Prop} {w0 W : World} {g : Nat} {f0 : List (S59)} {f1 : List (S39)} {f2 : ByteArray} (h : IsS35 J_ w0 W g f0 f1 f2) (o : Obj) : IsS35 J_ w0 (W.alloc o) g f0 f1 f2:=h.below (lA (Below.refl _ _) o)
theorem IsS35.drewN {J_ : Option Addr → Nat → Option Addr → Nat → Prop} {w0 W : World} {g : Nat} {f0 : List (S59)} {f1 : List (S39)} {f2 : ByteArray} (h : IsS35 J_ w0 W g f0 f1 f2) (m : Nat) : IsS35 J_ w0 (W.drewN m) g f0 f1 f2:=h
theorem IsS35.drew {J_ : Option Addr → Nat → Option Addr → Nat → Prop} {w0 W : World} {g : Nat} {f0 : List (S59)} {f1 : List (S39)} {f2 : ByteArray} (h : IsS35 J_ w0 W g f0 f1 f2) : IsS35 J_ w0 W.drew g f0 f1 f2:=h
theorem IsS35.at_ {J_ : Option Addr → Nat → Option Addr → Nat → Prop} {w0 W : World} {g : Nat} {f0 : List (S59)} {f1 : List (S39)} {f2 : ByteArray} {w' : World} {m : Nat} (hq : W.drewN m = w') (h : IsS35 J_ w0 W g f0 f1 f2) : IsS35 J_ w0 w' g f0 f1 f2:=by subst hq;exact IsS35.drewN h m
theorem IsS35.apart {J_ : Option Addr → Nat → Option Addr → Nat → Prop} {w0 W : World} {g : Nat} {f0 : List (S59)} {f1 : List (S39)} {f2 : ByteArray} {α : Type} {d : Kd α} {e : Nat} {base : Nat} {ok : Nat → Prop} {v : Value} {xs : List α} (h : IsS35 J_ w0 W g f0 f1 f2) (ho : d.R e W base ok v xs) (ht : ∀ q,q ∈ e :: d.E → q ≠ 35) : d.R e W base (fun k => ok k ∧ k ≠ g) v xs:=by
 obtain ⟨A0,c0,A1,c1,hb,hg,hr0,hr1⟩:=h
 exact rY ho hb ht
theorem IsS35.own_ne {J_ : Option Addr → Nat → Option Addr → Nat → Prop} {w0 W : World} {g : Nat} {f0 : List (S59)} {f1 : List (S39)} {f2 : ByteArray} {α : Type} {d : Kd α} {e : Nat} {base : Nat} {ok : Nat → Prop} {v : Value} {xs : List α} (h : IsS35 J_ w0 W g f0 f1 f2) (ho : d.R e W base ok v xs) (ht : e ≠ 35) : some g ≠ v.ownBlock:=by
 obtain ⟨A0,c0,A1,c1,hb,hg,hr0,hr1⟩:=h
 exact Kd.R_ne ho hb ht
theorem IsS35.apartQ {J_ : Option Addr → Nat → Option Addr → Nat → Prop} {w0 W : World} {g : Nat} {f0 : List (S59)} {f1 : List (S39)} {f2 : ByteArray} {α : Type} {d : Kd α} {e : Nat} {base : Nat} {ok : Nat → Prop} {v : Value} {xs : List α} (h : IsS35 J_ w0 W g f0 f1 f2) (ho : d.Q e W base ok v xs) (ht : ∀ q,q ∈ e :: d.E → q ≠ 35) : d.Q e W base (fun k => ok k ∧ k ≠ g) v xs:=by
 obtain ⟨A0,c0,A1,c1,hb,hg,hr0,hr1⟩:=h
 exact Kd.Q_types ho hb ht
theorem IsS35.own_neQ {J_ : Option Addr → Nat → Option Addr → Nat → Prop} {w0 W : World} {g : Nat} {f0 : List (S59)} {f1 : List (S39)} {f2 : ByteArray} {α : Type} {d : Kd α} {e : Nat} {base : Nat} {ok : Nat → Prop} {v : Value} {xs : List α} (h : IsS35 J_ w0 W g f0 f1 f2) (ho : d.Q e W base ok v xs) (ht : e ≠ 35) : some g ≠ v.ownBlock:=by
 obtain ⟨A0,c0,A1,c1,hb,hg,hr0,hr1⟩:=h
 exact Kd.Q_ne ho hb ht
theorem IsS35.apartS {J_ : Option Addr → Nat → Option Addr → Nat → Prop} {w0 W : World} {g : Nat} {f0 : List (S59)} {f1 : List (S39)} {f2 : ByteArray} {α : Type} {d : Kd α} {e : Nat} {base : Nat} {ok : Nat → Prop} {v : Value} {xs : List α} (h : IsS35 J_ w0 W g f0 f1 f2) (ho : d.S e W base ok v xs) (ht : ∀ q,q ∈ e :: d.E → q ≠ 35) : d.S e W base (fun k => ok k ∧ k ≠ g) v xs:=by
 obtain ⟨A0,c0,A1,c1,hb,hg,hr0,hr1⟩:=h
 exact Kd.S_types ho hb ht
theorem IsS35.own_neS {J_ : Option Addr → Nat → Option Addr → Nat → Prop} {w0 W : World} {g : Nat} {f0 : List (S59)} {f1 : List (S39)} {f2 : ByteArray} {α : Type} {d : Kd α} {e : Nat} {base : Nat} {ok : Nat → Prop} {v : Value} {xs : List α} (h : IsS35 J_ w0 W g f0 f1 f2) (ho : d.S e W base ok v xs) (ht : e ≠ 35) : some g ≠ v.ownBlock:=by
 obtain ⟨A0,c0,A1,c1,hb,hg,hr0,hr1⟩:=h
 exact Kd.S_ne ho hb ht
theorem IsS35.lt {J_ : Option Addr → Nat → Option Addr → Nat → Prop} {w0 W : World} {g : Nat} {f0 : List (S59)} {f1 : List (S39)} {f2 : ByteArray} (h : IsS35 J_ w0 W g f0 f1 f2) : g < W.heap.size:=by
 obtain ⟨A0,c0,A1,c1,hb,hg,hr0,hr1⟩:=h
 exact bL hb
theorem IsS35.ge {J_ : Option Addr → Nat → Option Addr → Nat → Prop} {w0 W : World} {g : Nat} {f0 : List (S59)} {f1 : List (S39)} {f2 : ByteArray} (h : IsS35 J_ w0 W g f0 f1 f2) : w0.heap.size ≤ g:=by
 obtain ⟨A0,c0,A1,c1,hb,hg,hr0,hr1⟩:=h
 exact hg.1
theorem IsS35.ne_blk {J_ : Option Addr → Nat → Option Addr → Nat → Prop} {w0 W : World} {g : Nat} {f0 : List (S59)} {f1 : List (S39)} {f2 : ByteArray} {a : Nat} {cs : Array Value} {t : TypeId} {fr : Nat × Nat} (h : IsS35 J_ w0 W g f0 f1 f2) (hb2 : W.heap[a]? = some (.cells cs t fr)) (ht : t ≠ 35) : g ≠ a:=by
 obtain ⟨A0,c0,A1,c1,hb,hg,hr0,hr1⟩:=h
 rintro rfl
 rw [hb] at hb2
 injection hb2 with hb2
 injection hb2 with _ ht2
 exact ht ht2.symm
theorem IsS35.far {J_ : Option Addr → Nat → Option Addr → Nat → Prop} {w0 W : World} {g : Nat} {f0 : List (S59)} {f1 : List (S39)} {f2 : ByteArray} {p : Addr} (h : IsS35 J_ w0 W g f0 f1 f2) (hne : g ≠ p.block) (u : Value) : IsS35 J_ w0 (W.setCell p u) g f0 f1 f2:=by
 obtain ⟨A0,c0,A1,c1,hb,hg,hr0,hr1⟩:=h
 exact ⟨A0,c0,A1,c1,blk_far hb hne u,hg,hr0,hr1⟩
theorem cellS35_0 {W : World} {g : Nat} {A0 : Option Addr} {c0 : Nat} {A1 : Option Addr} {c1 : Nat} {f0 : List (S59)} {f1 : List (S39)} {f2 : ByteArray} (h : W.heap[g]? = some (.cells #[.slice A0 f0.length c0,.slice A1 f1.length c1,.string f2] 35 (0,0))) : W.cell? ⟨g,0,none⟩ = some (.slice A0 f0.length c0):=(bC h 0).trans rfl
theorem cellS35_1 {W : World} {g : Nat} {A0 : Option Addr} {c0 : Nat} {A1 : Option Addr} {c1 : Nat} {f0 : List (S59)} {f1 : List (S39)} {f2 : ByteArray} (h : W.heap[g]? = some (.cells #[.slice A0 f0.length c0,.slice A1 f1.length c1,.string f2] 35 (0,0))) : W.cell? ⟨g,1,none⟩ = some (.slice A1 f1.length c1):=(bC h 1).trans rfl
theorem cellS35_2 {W : World} {g : Nat} {A0 : Option Addr} {c0 : Nat} {A1 : Option Addr} {c1 : Nat} {f0 : List (S59)} {f1 : List (S39)} {f2 : ByteArray} (h : W.heap[g]? = some (.cells #[.slice A0 f0.length c0,.slice A1 f1.length c1,.string f2] 35 (0,0))) : W.cell? ⟨g,2,none⟩ = some (.string f2):=(bC h 2).trans rfl
theorem IsS35.set_2 {J_ : Option Addr → Nat → Option Addr → Nat → Prop} {w0 W : World} {g : Nat} {f0 : List (S59)} {f1 : List (S39)} {f2 : ByteArray} (h : IsS35 J_ w0 W g f0 f1 f2) (x : ByteArray) : IsS35 J_ w0 (W.setCell ⟨g,2,none⟩ (.string x)) g f0 f1 x:=by
 obtain ⟨A0,c0,A1,c1,hb,hg,hr0,hr1⟩:=h
 exact ⟨A0,c0,A1,c1,by simpa using blk_set hb 2 (.string x),hg,hr0,hr1⟩
theorem IsS35.new {J_ : Option Addr → Nat → Option Addr → Nat → Prop} (w0 W : World) (A0 : Option Addr) (c0 : Nat) (A1 : Option Addr) (c1 : Nat) (f0 : List (S59)) (f1 : List (S39)) (f2 : ByteArray) (hB : Below w0.heap.size w0 W) (hr0 : Kd.C k59 w0 A0 f0.length f0) (hr1 : Kd.C k39 w0 A1 f1.length f1) (hJ : J_ A0 c0 A1 c1) : IsS35 J_ w0 (W.alloc (.cells #[.slice A0 f0.length c0,.slice A1 f1.length c1,.string f2] 35)) W.heap.size f0 f1 f2:=⟨A0,c0,A1,c1,by simpa using heap_alloc_new W _,⟨hB.size,hJ⟩,hr0,hr1⟩

/-! ### impl_Store_say: function 33 -/
def impl_Store_say.f (s0_0 : List (S59)) (s0_1 : List (S39)) (s0_2 : ByteArray) (a1 : ByteArray) : Option (ByteArray):=if s0_2.size + a1.size ≤ 9223372036854775807 then (if (s0_2 ++ a1).size + 1 ≤ 9223372036854775807 then (if 0 ≤ (mn (((s0_2 ++ a1) ++ (⟨#[10]⟩ : ByteArray)).size : Int) 3000) then (if (mn (((s0_2 ++ a1) ++ (⟨#[10]⟩ : ByteArray)).size : Int) 3000) ≤ (((s0_2 ++ a1) ++ (⟨#[10]⟩ : ByteArray)).size : Int) then (some (((s0_2 ++ a1) ++ (⟨#[10]⟩ : ByteArray)).extract 0 ((mn (((s0_2 ++ a1) ++ (⟨#[10]⟩ : ByteArray)).size : Int) 3000) : Int).toNat)) else (none)) else (none)) else (none)) else (none)
set_option maxHeartbeats 8000000 in
set_option maxRecDepth 100000 in
theorem impl_Store_say.calls (J_ : Option Addr → Nat → Option Addr → Nat → Prop) (g : Nat) (s0_0 : List (S59)) (s0_1 : List (S39)) (s0_2 : ByteArray) (a1 : ByteArray) (r : ByteArray) (w0 w : World) (hI : IsS35 J_ w0 w g s0_0 s0_1 s0_2) (hB : Below w0.heap.size w0 w) (h : impl_Store_say.f s0_0 s0_1 s0_2 a1 = some r) :
  Calls Try.prog 33 #[.pointer (some ⟨g,0,none⟩),.string a1] w fun e w' => e = .returned (.tuple #[]) ∧ IsS35 J_ w0 w' g s0_0 s0_1 r ∧ Below w0.heap.size w0 w' ∧ KeepBut w w' g none:=by
 have HI0:=aM hI
 have HK:=aM (KeepBut.refl w g none)
 have HL:=aM hB.size
 clear hI
 have HW0:=aM hB.size
 have HB:=aM hB
 clear hB
 have H : (if s0_2.size + a1.size ≤ 9223372036854775807 then (if (s0_2 ++ a1).size + 1 ≤ 9223372036854775807 then (if 0 ≤ (mn (((s0_2 ++ a1) ++ (⟨#[10]⟩ : ByteArray)).size : Int) 3000) then (if (mn (((s0_2 ++ a1) ++ (⟨#[10]⟩ : ByteArray)).size : Int) 3000) ≤ (((s0_2 ++ a1) ++ (⟨#[10]⟩ : ByteArray)).size : Int) then (some (((s0_2 ++ a1) ++ (⟨#[10]⟩ : ByteArray)).extract 0 ((mn (((s0_2 ++ a1) ++ (⟨#[10]⟩ : ByteArray)).size : Int) 3000) : Int).toNat)) else (none)) else (none)) else (none)) else (none)) = some r:=h
 clear h
 by_cases c3 : s0_2.size + a1.size ≤ 9223372036854775807
 ·rw [if_pos c3] at H
  have c3b0:=eq_true c3
  have c3b1 : decide (s0_2.size + a1.size ≤ 9223372036854775807) = true:=decide_eq_true c3
  try have c3b2 : (9223372036854775807 < s0_2.size + a1.size) = False:=eq_false (Nat.not_lt.2 c3)
  by_cases c4 : (s0_2 ++ a1).size + 1 ≤ 9223372036854775807
  ·rw [if_pos c4] at H
   have c4b0:=eq_true c4
   have c4b1 : decide ((s0_2 ++ a1).size + 1 ≤ 9223372036854775807) = true:=decide_eq_true c4
   try have c4b2 : (9223372036854775807 < (s0_2 ++ a1).size + 1) = False:=eq_false (Nat.not_lt.2 c4)
   try (have c4b7:=c4b2;simp only [ByteArray.size_append] at c4b7)
   obtain ⟨ji5,hji5⟩ : ∃ j_ : Int,(mn (((s0_2 ++ a1) ++ (⟨#[10]⟩ : ByteArray)).size : Int) 3000) = j_:=⟨_,rfl⟩
   replace H : (if 0 ≤ (ji5) then (if (ji5) ≤ (((s0_2 ++ a1) ++ (⟨#[10]⟩ : ByteArray)).size : Int) then (some (((s0_2 ++ a1) ++ (⟨#[10]⟩ : ByteArray)).extract 0 ((ji5) : Int).toNat)) else (none)) else (none)) = some r:=by first|(rw [hji5] at H;exact H)|(simp only [hji5] at H ⊢;exact H)
   (try (have hji5h : ji5 ≤ 3000:=by (rw [← hji5];unfold mn;(repeat' split) <;> omega)))
   (try (have hji5g : ji5 ≤ 64:=by omega))
   (try (have hji5l : 0 ≤ ji5:=by (rw [← hji5];unfold mn;(repeat' split) <;> omega)))
   (try (have hji5m : 0 ≤ ji5:=by omega))
   have hji5_ : (if 3000 < (((s0_2 ++ a1) ++ (⟨#[10]⟩ : ByteArray)).size : Int) then 3000 else (((s0_2 ++ a1) ++ (⟨#[10]⟩ : ByteArray)).size : Int)) = ji5:=hji5
   try (have hji5_8:=hji5_;simp only [ByteArray.size_append,show ((⟨#[10]⟩ : ByteArray)).size = 1 from rfl,Int.natCast_add,Int.natCast_one,Int.cast_ofNat_Int] at hji5_8)
   by_cases c6 : 0 ≤ (ji5)
   ·rw [if_pos c6] at H
    have c6b0:=eq_true c6
    have c6b1 : decide (0 ≤ (ji5)) = true:=decide_eq_true c6
    clear c6
    by_cases c7 : (ji5) ≤ (((s0_2 ++ a1) ++ (⟨#[10]⟩ : ByteArray)).size : Int)
    ·rw [if_pos c7] at H
     have c7b0:=eq_true c7
     have c7b1 : decide ((ji5) ≤ (((s0_2 ++ a1) ++ (⟨#[10]⟩ : ByteArray)).size : Int)) = true:=decide_eq_true c7
     try (have c7b18:=c7b1;simp only [ByteArray.size_append,show ((⟨#[10]⟩ : ByteArray)).size = 1 from rfl,Int.natCast_add,Int.natCast_one,Int.cast_ofNat_Int] at c7b18)
     obtain rfl:=Option.some.inj H
     obtain ⟨ASz8_0,cSz8_0,ASz8_1,cSz8_1,HGz8,hgz8,HSz8_0,HSz8_1⟩:=HI0.out
     have hcz8_0:=cellS35_0 HGz8
     have hcz8_1:=cellS35_1 HGz8
     have hcz8_2:=cellS35_2 HGz8
     have hfz8_2:=bF HGz8 2
     clear HGz8 hgz8
     go_enter Try.func33,Try.ntmps33
     go_wp2
     first|go_end0|((try simp only [Exit.inBlock,Exit.then]);refine bodyPost_ret (results_none rfl _ _ _) rfl ?_)
     exact ⟨by first|rfl|(simp [errW_none,errW_some] <;> rfl)|(simp only [← hji5];first|rfl|(simp [errW_none,errW_some] <;> rfl))|(simp [*,errW_none,errW_some] <;> rfl),by repeat (first|(with_reducible first|exact HI0.out|apply IsS35.alloc|apply IsS35.drewN|apply IsS35.drew|apply IsS35.set_2)|exact HI0.out),by repeat (first|(with_reducible first|exact HB.out|apply lA|apply lN|apply lD|refine lS ?_ (IsS35.ge HI0.out))|exact HB.out),by repeat (first|(with_reducible first|exact HK.out|apply KeepBut.set_|apply keep_drewN|apply keep_drew|apply keep_alloc)|exact HK.out)⟩
    ·rw [if_neg c7] at H
     exact absurd H (by simp)
   ·rw [if_neg c6] at H
    exact absurd H (by simp)
  ·rw [if_neg c4] at H
   exact absurd H (by simp)
 ·rw [if_neg c3] at H
  exact absurd H (by simp)

/-! ### impl_Store_dump: function 29 -/
def impl_Store_dump.l0 : Nat → ByteArray → List (S39) → Int → Int → List (S59) → List (S39) → ByteArray → Option (ByteArray)
 |0,_,_,_,_,_,_,_ => none
 |k + 1,x1,x9,x10,x11,x1000,x1001,x1002 => if x11 < x10 then (if 0 ≤ x11 then (if x11 < (x9.length : Int) then (if ((rd_T39 x9 x11).f0).toList = x1.toList then (if ((rd_T39 x9 x11).f1).size + 1 ≤ 9223372036854775807 then (if (((rd_T39 x9 x11).f1) ++ (⟨#[32]⟩ : ByteArray)).size + ((rd_T39 x9 x11).f2).size ≤ 9223372036854775807 then ((impl_Store_say.f x1000 x1001 x1002 ((((rd_T39 x9 x11).f1) ++ (⟨#[32]⟩ : ByteArray)) ++ ((rd_T39 x9 x11).f2))).bind fun t117 => (impl_Store_dump.l0 k x1 x9 x10 (wrap64 (x11 + 1)) x1000 x1001 t117)) else (none)) else (none)) else (impl_Store_dump.l0 k x1 x9 x10 (wrap64 (x11 + 1)) x1000 x1001 x1002)) else (none)) else (none)) else (some x1002)
def impl_Store_dump.f (k : Nat) (s0_0 : List (S59)) (s0_1 : List (S39)) (s0_2 : ByteArray) (a1 : ByteArray) : Option (ByteArray):=impl_Store_dump.l0 k a1 s0_1 (s0_1.length : Int) 0 s0_0 s0_1 s0_2
theorem impl_Store_dump.mono_l : ∀ k,(∀ y0 y1 y2 y3 y4 y5 y6,LeO (impl_Store_dump.l0 k y0 y1 y2 y3 y4 y5 y6) (impl_Store_dump.l0 (k + 1) y0 y1 y2 y3 y4 y5 y6))
 |0 => fun _ _ _ _ _ _ _ r h => by simp [impl_Store_dump.l0] at h
 |k + 1 => by
  have ih0:=impl_Store_dump.mono_l k
  ·intro y0 y1 y2 y3 y4 y5 y6
   unfold impl_Store_dump.l0
   repeat' first
   |(with_reducible exact ih0 _ _ _ _ _ _ _)
   |(with_reducible exact LeO.refl _)
   |(with_reducible exact LeO.none _)
   |(with_reducible refine LeO.ite ?_ ?_)
   |(with_reducible refine LeO.bind ?_ (fun _ => ?_))
   |exact ih0 _ _ _ _ _ _ _
   |exact LeO.none _
   |refine LeO.ite ?_ ?_
   |refine LeO.bind ?_ (fun _ => ?_)
theorem impl_Store_dump.mono : ∀ a0 a1 a2 a3 k,LeO (impl_Store_dump.f k a0 a1 a2 a3) (impl_Store_dump.f (k + 1) a0 a1 a2 a3):=by
 intro a0 a1 a2 a3 k
 have ih0:=impl_Store_dump.mono_l k
 unfold impl_Store_dump.f
 repeat' first
   |(with_reducible exact ih0 _ _ _ _ _ _ _)
   |(with_reducible exact LeO.refl _)
   |(with_reducible exact LeO.none _)
   |(with_reducible refine LeO.ite ?_ ?_)
   |(with_reducible refine LeO.bind ?_ (fun _ => ?_))
   |exact ih0 _ _ _ _ _ _ _
   |exact LeO.none _
   |refine LeO.ite ?_ ?_
   |refine LeO.bind ?_ (fun _ => ?_)
set_option maxHeartbeats 8000000 in
set_option maxRecDepth 100000 in
theorem impl_Store_dump.calls (J_ : Option Addr → Nat → Option Addr → Nat → Prop) (k : Nat) (g : Nat) (s0_0 : List (S59)) (s0_1 : List (S39)) (s0_2 : ByteArray) (a1 : ByteArray) (r : ByteArray) (w0 w : World) (hI : IsS35 J_ w0 w g s0_0 s0_1 s0_2) (hB : Below w0.heap.size w0 w) (h : impl_Store_dump.f k s0_0 s0_1 s0_2 a1 = some r) :
  Calls Try.prog 29 #[.pointer (some ⟨g,0,none⟩),.string a1] w fun e w' => e = .returned (.tuple #[]) ∧ IsS35 J_ w0 w' g s0_0 s0_1 r ∧ Below w0.heap.size w0 w' ∧ KeepBut w w' g none:=by
 have hu39:=Try.underlying39
 have HI0:=aM hI
 have HK:=aM (KeepBut.refl w g none)
 have HL:=aM hB.size
 clear hI
 have HW0:=aM hB.size
 have HB:=aM hB
 clear hB
 have H : (impl_Store_dump.l0 k a1 s0_1 (s0_1.length : Int) 0 s0_0 s0_1 s0_2) = some r:=h
 clear h
 have H':=aM H
 clear H
 obtain ⟨ASz3_0,cSz3_0,ASz3_1,cSz3_1,HGz3,hgz3,HSz3_0,HSz3_1⟩:=HI0.out
 have hcz3_0:=cellS35_0 HGz3
 have hcz3_1:=cellS35_1 HGz3
 have hcz3_2:=cellS35_2 HGz3
 have hfz3_2:=bF HGz3 2
 clear HGz3 hgz3
 go_enter Try.func29,Try.ntmps29
 go_wp2
 go_loopg [11] k (fun kq v11 w' => ∃ (x11_1 : Int) (x1002_1 : ByteArray),v11 = .int .i64 x11_1 ∧ Aside0 (impl_Store_dump.l0 kq a1 s0_1 (s0_1.length : Int) x11_1 s0_0 s0_1 x1002_1 = some r) ∧ Aside0 (kq ≤ k) ∧ Aside0 (IsS35 J_ w0 w' g s0_0 s0_1 x1002_1) ∧ Aside0 (KeepBut w w' g none) ∧ Aside0 (Below w0.heap.size w0 w'))
 case atStart => exact ⟨(0),(s0_2),(by first|rfl|(simp;done)|(simp [*];done)),H',⟨Nat.le_refl _⟩,⟨by repeat (first|(with_reducible first|exact HI0.out|apply IsS35.alloc|apply IsS35.drewN|apply IsS35.drew|apply IsS35.set_2)|exact HI0.out)⟩,⟨by repeat (first|(with_reducible first|exact HK.out|apply KeepBut.set_|apply keep_drewN|apply keep_drew|apply keep_alloc)|exact HK.out)⟩,⟨by repeat (first|(with_reducible first|exact HB.out|apply lA|apply lN|apply lD|refine lS ?_ (IsS35.ge HI0.out))|exact HB.out)⟩⟩
 case round =>
  clear H'
  try clear c2
  try clear p2
  try clear hcz3_0
  try clear hcz3_1
  try clear hcz3_2
  obtain ⟨x11_1,x1002_1,rfl,HA,HK1,HI0,HK,HB⟩:=hrel
  cases gk with
  |zero => exact absurd HA.out (by simp [impl_Store_dump.l0])
  |succ k1 =>
   have H:=HA.out
   clear HA
   simp only [impl_Store_dump.l0] at H
   by_cases c4 : x11_1 < (s0_1.length : Int)
   ·rw [if_pos c4] at H
    have c4b0 : decide (x11_1 < (s0_1.length : Int)) = true:=decide_eq_true c4
    clear c4
    by_cases c5 : 0 ≤ x11_1
    ·rw [if_pos c5] at H
     have c5b0 : decide (0 ≤ x11_1) = true:=decide_eq_true c5
     clear c5
     by_cases c6 : x11_1 < (s0_1.length : Int)
     ·rw [if_pos c6] at H
      have c6b0 : decide (x11_1 < (s0_1.length : Int)) = true:=decide_eq_true c6
      clear c6
      by_cases c7 : ((rd_T39 s0_1 x11_1).f0).toList = a1.toList
      ·rw [if_pos c7] at H
       have c7b0 : (((rd_T39 s0_1 x11_1).f0).toList == a1.toList) = true:=beq_iff_eq.mpr c7
       have c7b1 : (((rd_T39 s0_1 x11_1).f0).toList != a1.toList) = false:=bne_eq_false_iff_eq.mpr c7
       clear c7
       by_cases c8 : ((rd_T39 s0_1 x11_1).f1).size + 1 ≤ 9223372036854775807
       ·rw [if_pos c8] at H
        have c8b0:=eq_true c8
        have c8b1 : decide (((rd_T39 s0_1 x11_1).f1).size + 1 ≤ 9223372036854775807) = true:=decide_eq_true c8
        try have c8b2 : (9223372036854775807 < ((rd_T39 s0_1 x11_1).f1).size + 1) = False:=eq_false (Nat.not_lt.2 c8)
        by_cases c9 : (((rd_T39 s0_1 x11_1).f1) ++ (⟨#[32]⟩ : ByteArray)).size + ((rd_T39 s0_1 x11_1).f2).size ≤ 9223372036854775807
        ·rw [if_pos c9] at H
         have c9b0:=eq_true c9
         have c9b1 : decide ((((rd_T39 s0_1 x11_1).f1) ++ (⟨#[32]⟩ : ByteArray)).size + ((rd_T39 s0_1 x11_1).f2).size ≤ 9223372036854775807) = true:=decide_eq_true c9
         try have c9b2 : (9223372036854775807 < (((rd_T39 s0_1 x11_1).f1) ++ (⟨#[32]⟩ : ByteArray)).size + ((rd_T39 s0_1 x11_1).f2).size) = False:=eq_false (Nat.not_lt.2 c9)
         try (have c9b7:=c9b2;simp only [ByteArray.size_append,show ((⟨#[32]⟩ : ByteArray)).size = 1 from rfl] at c9b7)
         replace H:=Option.bind_eq_some_iff.mp H
         obtain ⟨t117,A100,H⟩:=H
         replace H : (impl_Store_dump.l0 k1 a1 s0_1 (s0_1.length : Int) (wrap64 (x11_1 + 1)) s0_0 s0_1 t117) = some r:=H
         have A10:=aM A100
         clear A100
         have H':=aM H
         clear H
         obtain ⟨ASz11_0,cSz11_0,ASz11_1,cSz11_1,HGz11,hgz11,HSz11_0,HSz11_1⟩:=HI0.out
         have hcz11_0:=cellS35_0 HGz11
         have hcz11_1:=cellS35_1 HGz11
         have hcz11_2:=cellS35_2 HGz11
         have hfz11_2:=bF HGz11 2
         clear HGz11 hgz11
         have p115 : 0 ≤ (x11_1 : Int):=of_decide_eq_true (by first|(with_reducible assumption)|assumption)
         have q115 : x11_1 < (s0_1.length : Int):=of_decide_eq_true (by first|(with_reducible assumption)|assumption)
         obtain ⟨ad115,e115,hx115_0,hx115_1,hx115_2⟩:=at_T39 HSz3_1 x11_1 p115 q115
         cases e115
         replace hx115_0:=pw_cell_below HB.out hx115_0
         replace hx115_1:=pw_cell_below HB.out hx115_1
         replace hx115_2:=pw_cell_below HB.out hx115_2
         replace p115:=eq_true p115
         replace q115:=eq_true q115
         go_wp2_with (first|((with_reducible refine gate_dst (N:=5) rfl ?_);refine box_event ?hg (N:=5) ?hd (cs:=#[.string (⟨#[]⟩ : ByteArray),.string (⟨#[]⟩ : ByteArray),.string (⟨#[]⟩ : ByteArray)]) (t:=39) ?hr ?_;(case hd => rfl);(case hg => rfl);(case hr => first|(go_simp;done)|(go_simp;rfl));intro gb116 hg w12 hbox hb;have n0_:=aM (IsS35.below (by repeat (first|(with_reducible first|exact HI0.out|apply IsS35.alloc|apply IsS35.drewN|apply IsS35.drew|apply IsS35.set_2)|exact HI0.out)) hb);have n1_:=aM (KeepBut.trans (by repeat (first|(with_reducible first|exact HK.out|apply KeepBut.set_|apply keep_drewN|apply keep_drew|apply keep_alloc)|exact HK.out)) (KeepBut.of_below hb g none) (.inl rfl));have n2_:=aM (lP (by repeat (first|(with_reducible first|exact HB.out|apply lA|apply lN|apply lD|refine lS ?_ (IsS35.ge HI0.out))|exact HB.out)) hb);have n3_:=aM (hbox);have n4_:=aM ((by rw [hg];exact (keep_size (w:=w) (g:=g) (row:=none) (by repeat (first|(with_reducible first|exact HK.out|apply KeepBut.set_|apply keep_drewN|apply keep_drew|apply keep_alloc)|exact HK.out))) : w.heap.size ≤ gb116));have n5_:=aM ((Nat.le_trans HW0.out (by rw [hg];exact (keep_size (w:=w) (g:=g) (row:=none) (by repeat (first|(with_reducible first|exact HK.out|apply KeepBut.set_|apply keep_drewN|apply keep_drew|apply keep_alloc)|exact HK.out))) : w.heap.size ≤ gb116) : w0.heap.size ≤ gb116));have n6_:=aM ((by rw [hg];exact Nat.ne_of_lt (IsS35.lt (show IsS35 J_ w0 _ g s0_0 s0_1 x1002_1 from by repeat (first|(with_reducible first|exact HI0.out|apply IsS35.alloc|apply IsS35.drewN|apply IsS35.drew|apply IsS35.set_2)|exact HI0.out))) : g ≠ gb116));have n7_:=aM ((by rw [hg];exact Nat.ne_of_gt (IsS35.lt (show IsS35 J_ w0 _ g s0_0 s0_1 x1002_1 from by repeat (first|(with_reducible first|exact HI0.out|apply IsS35.alloc|apply IsS35.drewN|apply IsS35.drew|apply IsS35.set_2)|exact HI0.out))) : gb116 ≠ g));clear HI0 HK HB;have HI0:=n0_;have HK:=n1_;have HB:=n2_;have BK116:=n3_;have GW116:=n4_;have GE116:=n5_;have NB0_116:=n6_;have NB116_0:=n7_;clear n0_ n1_ n2_ n3_ n4_ n5_ n6_ n7_ hb hbox hg;have hnb13:=NB116_0.out;have hnc13:=NB0_116.out;obtain ⟨⟨hcz14_0,hcz14_1,hcz14_2⟩,hfz14_0,hfz14_1,hfz14_2⟩:=bC3 BK116.out)|((with_reducible refine gate_callee (f:=33) rfl ?_);refine goesL_ (some 26) rfl rfl Try.func33 (by kernel_rfl) rfl #[.pointer (some ⟨g,0,none⟩),.string ((((rd_T39 s0_1 x11_1).f1) ++ (⟨#[32]⟩ : ByteArray)) ++ ((rd_T39 s0_1 x11_1).f2))] rfl (by (try simp only [List.map_toArray,List.map_cons,List.map_nil]);first|done|rfl|(simp only [List.length_drop,List.length_take];rfl)) ?_;(with_reducible refine (impl_Store_say.calls J_ g s0_0 s0_1 x1002_1 ((((rd_T39 s0_1 x11_1).f1) ++ (⟨#[32]⟩ : ByteArray)) ++ ((rd_T39 s0_1 x11_1).f2)) t117 w0 _ ?side1 ?side2 A10.out).mono ?_);(case side1 => repeat (first|(with_reducible first|exact HI0.out|apply IsS35.alloc|apply IsS35.drewN|apply IsS35.drew|apply IsS35.set_2|refine IsS35.far ?_ NB0_116.out _)|exact HI0.out));(case side2 => repeat (first|(with_reducible first|exact HB.out|apply lA|apply lN|apply lD|refine lS ?_ (IsS35.ge HI0.out)|refine lS ?_ GE116.out)|exact HB.out));rintro e w15 ⟨rfl,hi,hb,hk⟩;refine ⟨_,rfl,?_⟩;have n0_:=aM (KeepBut.blk hk (g':=gb116) (o:=.cells #[.string ((rd_T39 s0_1 x11_1).f0),.string ((rd_T39 s0_1 x11_1).f1),.string ((rd_T39 s0_1 x11_1).f2)] 39 (0,0)) (by (with_reducible repeat (first|refine bN ?_ _|refine bD ?_|refine bA ?_ _));refine blk_put (cs:=#[.string ((rd_T39 s0_1 x11_1).f0),.string ((rd_T39 s0_1 x11_1).f1),.string (⟨#[]⟩ : ByteArray)]) ?_ 2 _ rfl;(with_reducible repeat (first|refine bN ?_ _|refine bD ?_|refine bA ?_ _));refine blk_put (cs:=#[.string ((rd_T39 s0_1 x11_1).f0),.string (⟨#[]⟩ : ByteArray),.string (⟨#[]⟩ : ByteArray)]) ?_ 1 _ rfl;(with_reducible repeat (first|refine bN ?_ _|refine bD ?_|refine bA ?_ _));refine blk_put (cs:=#[.string (⟨#[]⟩ : ByteArray),.string (⟨#[]⟩ : ByteArray),.string (⟨#[]⟩ : ByteArray)]) ?_ 0 _ rfl;(with_reducible repeat (first|refine bN ?_ _|refine bD ?_|refine bA ?_ _));exact BK116.out) NB116_0.out (by simp));have n1_:=aM (KeepBut.trans (by repeat (first|(with_reducible first|exact HK.out|apply KeepBut.set_|apply keep_drewN|apply keep_drew|apply keep_alloc|refine keep_far ?_ GW116.out _)|exact HK.out)) hk (.inl rfl));have n2_:=aM (hb);have n3_:=aM (hi);clear BK116 HK HB HI0;have BK116:=n0_;have HK:=n1_;have HB:=n2_;have HI0:=n3_;clear n0_ n1_ n2_ n3_;(try clear hb);(try clear hb2);(try clear hk);(try clear hi)))
         go_roundg k1
         case measure => have:=HK1.out;omega
         case rel => exact ⟨(wrap64 (x11_1 + 1)),(t117),(by first|rfl|(simp;done)|(simp [*];done)),H',⟨by have:=HK1.out;omega⟩,⟨by repeat (first|(with_reducible first|exact HI0.out|apply IsS35.alloc|apply IsS35.drewN|apply IsS35.drew|apply IsS35.set_2|refine IsS35.far ?_ NB0_116.out _)|exact HI0.out)⟩,⟨by repeat (first|(with_reducible first|exact HK.out|apply KeepBut.set_|apply keep_drewN|apply keep_drew|apply keep_alloc|refine keep_far ?_ GW116.out _)|exact HK.out)⟩,⟨by repeat (first|(with_reducible first|exact HB.out|apply lA|apply lN|apply lD|refine lS ?_ (IsS35.ge HI0.out)|refine lS ?_ GE116.out)|exact HB.out)⟩⟩
        ·rw [if_neg c9] at H
         exact absurd H (by simp)
       ·rw [if_neg c8] at H
        exact absurd H (by simp)
      ·rw [if_neg c7] at H
       have c7b0 : (((rd_T39 s0_1 x11_1).f0).toList == a1.toList) = false:=beq_eq_false_iff_ne.mpr c7
       have c7b1 : (((rd_T39 s0_1 x11_1).f0).toList != a1.toList) = true:=bne_iff_ne.mpr c7
       have H':=aM H
       clear H
       obtain ⟨ASz16_0,cSz16_0,ASz16_1,cSz16_1,HGz16,hgz16,HSz16_0,HSz16_1⟩:=HI0.out
       have hcz16_0:=cellS35_0 HGz16
       have hcz16_1:=cellS35_1 HGz16
       have hcz16_2:=cellS35_2 HGz16
       have hfz16_2:=bF HGz16 2
       clear HGz16 hgz16
       have p115 : 0 ≤ (x11_1 : Int):=of_decide_eq_true (by first|(with_reducible assumption)|assumption)
       have q115 : x11_1 < (s0_1.length : Int):=of_decide_eq_true (by first|(with_reducible assumption)|assumption)
       obtain ⟨ad115,e115,hx115_0,hx115_1,hx115_2⟩:=at_T39 HSz3_1 x11_1 p115 q115
       cases e115
       replace hx115_0:=pw_cell_below HB.out hx115_0
       replace hx115_1:=pw_cell_below HB.out hx115_1
       replace hx115_2:=pw_cell_below HB.out hx115_2
       replace p115:=eq_true p115
       replace q115:=eq_true q115
       go_wp2_with (first|((with_reducible refine gate_dst (N:=5) rfl ?_);refine box_event ?hg (N:=5) ?hd (cs:=#[.string (⟨#[]⟩ : ByteArray),.string (⟨#[]⟩ : ByteArray),.string (⟨#[]⟩ : ByteArray)]) (t:=39) ?hr ?_;(case hd => rfl);(case hg => rfl);(case hr => first|(go_simp;done)|(go_simp;rfl));intro gb116 hg w17 hbox hb;have n0_:=aM (IsS35.below (by repeat (first|(with_reducible first|exact HI0.out|apply IsS35.alloc|apply IsS35.drewN|apply IsS35.drew|apply IsS35.set_2)|exact HI0.out)) hb);have n1_:=aM (KeepBut.trans (by repeat (first|(with_reducible first|exact HK.out|apply KeepBut.set_|apply keep_drewN|apply keep_drew|apply keep_alloc)|exact HK.out)) (KeepBut.of_below hb g none) (.inl rfl));have n2_:=aM (lP (by repeat (first|(with_reducible first|exact HB.out|apply lA|apply lN|apply lD|refine lS ?_ (IsS35.ge HI0.out))|exact HB.out)) hb);have n3_:=aM (hbox);have n4_:=aM ((by rw [hg];exact (keep_size (w:=w) (g:=g) (row:=none) (by repeat (first|(with_reducible first|exact HK.out|apply KeepBut.set_|apply keep_drewN|apply keep_drew|apply keep_alloc)|exact HK.out))) : w.heap.size ≤ gb116));have n5_:=aM ((Nat.le_trans HW0.out (by rw [hg];exact (keep_size (w:=w) (g:=g) (row:=none) (by repeat (first|(with_reducible first|exact HK.out|apply KeepBut.set_|apply keep_drewN|apply keep_drew|apply keep_alloc)|exact HK.out))) : w.heap.size ≤ gb116) : w0.heap.size ≤ gb116));have n6_:=aM ((by rw [hg];exact Nat.ne_of_lt (IsS35.lt (show IsS35 J_ w0 _ g s0_0 s0_1 x1002_1 from by repeat (first|(with_reducible first|exact HI0.out|apply IsS35.alloc|apply IsS35.drewN|apply IsS35.drew|apply IsS35.set_2)|exact HI0.out))) : g ≠ gb116));have n7_:=aM ((by rw [hg];exact Nat.ne_of_gt (IsS35.lt (show IsS35 J_ w0 _ g s0_0 s0_1 x1002_1 from by repeat (first|(with_reducible first|exact HI0.out|apply IsS35.alloc|apply IsS35.drewN|apply IsS35.drew|apply IsS35.set_2)|exact HI0.out))) : gb116 ≠ g));clear HI0 HK HB;have HI0:=n0_;have HK:=n1_;have HB:=n2_;have BK116:=n3_;have GW116:=n4_;have GE116:=n5_;have NB0_116:=n6_;have NB116_0:=n7_;clear n0_ n1_ n2_ n3_ n4_ n5_ n6_ n7_ hb hbox hg;have hnb18:=NB116_0.out;have hnc18:=NB0_116.out;obtain ⟨⟨hcz19_0,hcz19_1,hcz19_2⟩,hfz19_0,hfz19_1,hfz19_2⟩:=bC3 BK116.out))
       go_roundg k1
       case measure => have:=HK1.out;omega
       case rel => exact ⟨(wrap64 (x11_1 + 1)),(x1002_1),(by first|rfl|(simp;done)|(simp [*];done)),H',⟨by have:=HK1.out;omega⟩,⟨by repeat (first|(with_reducible first|exact HI0.out|apply IsS35.alloc|apply IsS35.drewN|apply IsS35.drew|apply IsS35.set_2|refine IsS35.far ?_ NB0_116.out _)|exact HI0.out)⟩,⟨by repeat (first|(with_reducible first|exact HK.out|apply KeepBut.set_|apply keep_drewN|apply keep_drew|apply keep_alloc|refine keep_far ?_ GW116.out _)|exact HK.out)⟩,⟨by repeat (first|(with_reducible first|exact HB.out|apply lA|apply lN|apply lD|refine lS ?_ (IsS35.ge HI0.out)|refine lS ?_ GE116.out)|exact HB.out)⟩⟩
     ·rw [if_neg c6] at H
      exact absurd H (by simp)
    ·rw [if_neg c5] at H
     exact absurd H (by simp)
   ·rw [if_neg c4] at H
    have c4b0 : decide (x11_1 < (s0_1.length : Int)) = false:=decide_eq_false c4
    clear c4
    obtain rfl:=Option.some.inj H
    go_wp2
    first|go_end0|((try simp only [Exit.inBlock,Exit.then]);refine bodyPost_ret (results_none rfl _ _ _) rfl ?_)
    exact ⟨by first|rfl|(simp [errW_none,errW_some] <;> rfl)|(simp [*,errW_none,errW_some] <;> rfl),by repeat (first|(with_reducible first|exact HI0.out|apply IsS35.alloc|apply IsS35.drewN|apply IsS35.drew|apply IsS35.set_2)|exact HI0.out),by repeat (first|(with_reducible first|exact HB.out|apply lA|apply lN|apply lD|refine lS ?_ (IsS35.ge HI0.out))|exact HB.out),by repeat (first|(with_reducible first|exact HK.out|apply KeepBut.set_|apply keep_drewN|apply keep_drew|apply keep_alloc)|exact HK.out)⟩

/-! ### impl_Dump: function 14 -/
def impl_Dump.f (k : Nat) (l0_0 : List S59) (l0_1 : List S39) (a0_2 : ByteArray) (a1 : ByteArray) : Option ((List (S59)) × (List (S39)) × ByteArray):=(impl_copyStore.f l0_0 l0_1 a0_2).bind fun bt => ((impl_Store_dump.f k bt.1 bt.2.1 bt.2.2 a1).bind fun t => (some (bt.1,bt.2.1,t)))
theorem impl_Dump.mono : ∀ a0 a1 a2 a3 k,LeO (impl_Dump.f k a0 a1 a2 a3) (impl_Dump.f (k + 1) a0 a1 a2 a3):=by
 intro a0 a1 a2 a3 k
 unfold impl_Dump.f
 refine LeO.bind (LeO.refl _) (fun _ => ?_)
 exact LeO.bind (impl_Store_dump.mono _ _ _ _ k) (fun _ => LeO.refl _)
set_option maxHeartbeats 8000000 in
set_option maxRecDepth 100000 in
theorem impl_Dump.calls (k : Nat) (A0_0 : Option Addr) (c0_0 : Nat) (l0_0 : List (S59)) (A0_1 : Option Addr) (c0_1 : Nat) (l0_1 : List (S39)) (a0_2 : ByteArray) (a1 : ByteArray) (r1 : List (S59)) (r2 : List (S39)) (r3 : ByteArray) (w : World) (hr0_0 : Kd.C k59 w A0_0 l0_0.length l0_0) (hc0_0 : l0_0.length ≤ c0_0) (hr0_1 : Kd.C k39 w A0_1 l0_1.length l0_1) (hc0_1 : l0_1.length ≤ c0_1) (h : impl_Dump.f k l0_0 l0_1 a0_2 a1 = some (r1,r2,r3)) :
  Calls Try.prog 14 #[.agg #[.slice A0_0 l0_0.length c0_0,.slice A0_1 l0_1.length c0_1,.string a0_2],.string a1] w fun e w' => ∃ v0_ v1_ : Value,e = .returned (.agg #[v0_,v1_,.string r3]) ∧ Kd.R k59 59 w' w.heap.size (fun _ => True) v0_ r1 ∧ Kd.R k39 39 w' w.heap.size (fun _ => True) v1_ r2 ∧ Below w.heap.size w w':=by
 have HR0_0:=aM hr0_0
 have HC0_0:=aM hc0_0
 clear hr0_0 hc0_0
 have HR0_1:=aM hr0_1
 have HC0_1:=aM hc0_1
 clear hr0_1 hc0_1
 have HB:=aM (Below.refl w.heap.size w)
 have H:=Option.bind_eq_some_iff.mp h
 clear h
 obtain ⟨⟨t1,t2,t3⟩,A30,H⟩:=H
 replace H:=Option.bind_eq_some_iff.mp H
 obtain ⟨t4,A40,H⟩:=H
 have A3:=aM A30
 have A4:=aM A40
 clear A30 A40
 simp only [Option.some.injEq,Prod.mk.injEq] at H
 obtain ⟨rfl,rfl,rfl⟩:=H
 have hu35:=Try.underlying35
 go_enter Try.func14,Try.ntmps14
 go_wp2_with (first|((with_reducible refine gate_dst (N:=2) rfl ?_);refine box_event ?hg (N:=2) ?hd (cs:=#[.slice A0_0 l0_0.length c0_0,.slice A0_1 l0_1.length c0_1,.string a0_2]) (t:=35) ?hr ?_;(case hd => rfl);(case hg => rfl);(case hr => first|(go_simp;done)|(go_simp;rfl));intro gb10 hg w7 hbox hb;have n0_:=aM (lQ HB.out hb);have n1_:=aM hbox;have n2_:=aM ((by rw [hg];exact (lZ (by repeat (first|(with_reducible first|exact HB.out|apply lA|apply lN|apply lD)|exact HB.out)))) : w.heap.size ≤ gb10);clear HB;have HB:=n0_;have BK10:=n1_;have GE10:=n2_;clear n0_ n1_ n2_ hb hbox hg)|((with_reducible refine gate_dst (N:=4) rfl ?_);refine box_event ?hg (N:=4) ?hd (cs:=#[.slice none 0 0,.slice none 0 0,.string (⟨#[]⟩ : ByteArray)]) (t:=35) ?hr ?_;(case hd => rfl);(case hg => rfl);(case hr => first|(go_simp;done)|(go_simp;rfl));intro gb11 hg w8 hbox hb;have n0_:=aM (bH BK10.out hb);have n1_:=aM (lQ HB.out hb);have n2_:=aM hbox;have n3_:=aM ((by rw [hg];exact (lZ (by repeat (first|(with_reducible first|exact HB.out|apply lA|apply lN|apply lD|refine lS ?_ GE10.out)|exact HB.out)))) : w.heap.size ≤ gb11);have n5_:=aM ((by rw [hg];exact Nat.ne_of_lt (bL (g:=gb10) (o:=.cells #[.slice A0_0 l0_0.length c0_0,.slice A0_1 l0_1.length c0_1,.string a0_2] 35 (0,0)) (by (with_reducible repeat (first|refine bN ?_ _|refine bD ?_|refine bA ?_ _));exact BK10.out))) : gb10 ≠ gb11);clear BK10 HB;have BK10:=n0_;have HB:=n1_;have BK11:=n2_;have GE11:=n3_;have NB10_11:=n5_;clear n0_ n1_ n2_ n3_ n5_ hb hbox hg;have hnb9:=NB10_11.out;have hnc9:=NB10_11.out.symm;have hcz10_0 : w8.cell? ⟨gb10,0,none⟩ = some (.slice A0_0 l0_0.length c0_0):=(bC BK10.out 0).trans rfl;have hcz10_1 : w8.cell? ⟨gb10,1,none⟩ = some (.slice A0_1 l0_1.length c0_1):=(bC BK10.out 1).trans rfl;have hcz10_2 : w8.cell? ⟨gb10,2,none⟩ = some (.string a0_2):=(bC BK10.out 2).trans rfl;have hcz10f_0:=bF BK10.out 0;have hcz10f_1:=bF BK10.out 1;have hcz10f_2:=bF BK10.out 2)|((with_reducible refine gate_callee (f:=28) rfl ?_);refine goesL_ (some 7) rfl rfl Try.func28 (by kernel_rfl) rfl #[.agg #[.slice A0_0 l0_0.length c0_0,.slice A0_1 l0_1.length c0_1,.string a0_2]] rfl (by (try simp only [List.map_toArray,List.map_cons,List.map_nil]);first|done|rfl|(simp only [List.length_drop,List.length_take];rfl)) ?_;(with_reducible refine (impl_copyStore.calls _ _ l0_0 _ _ l0_1 a0_2 t1 t2 t3 _ ?side1 ?side2 ?side3 ?side4 A3.out).mono ?_);(case side1 => repeat (first|exact (cB HR0_0.out HB.out)|(with_reducible first|refine cA ?_ _|refine cN ?_ _|refine cD ?_)));(case side2 => exact HC0_0.out);(case side3 => repeat (first|exact (cB HR0_1.out HB.out)|(with_reducible first|refine cA ?_ _|refine cN ?_ _|refine cD ?_)));(case side4 => exact HC0_1.out);rintro e w11 ⟨v13,v16,rfl,ho0,ho1,hb⟩;refine ⟨_,rfl,?_⟩;obtain ⟨Ao1,co1,eo1⟩:=Kd.R_slice ho0;subst eo1;obtain ⟨Ao2,co2,eo2⟩:=Kd.R_slice ho1;subst eo2;have n0_:=aM (rL ho0 (lZ (by repeat (first|(with_reducible first|exact HB.out|apply lA|apply lN|apply lD|refine lS ?_ GE10.out|refine lS ?_ GE11.out)|exact HB.out))));have n1_:=aM (rL ho1 (lZ (by repeat (first|(with_reducible first|exact HB.out|apply lA|apply lN|apply lD|refine lS ?_ GE10.out|refine lS ?_ GE11.out)|exact HB.out))));have n2_:=aM (bH BK10.out hb);have n3_:=aM (bH BK11.out hb);have n4_:=aM (lQ HB.out hb);clear BK10 BK11 HB;have HO1:=n0_;have HO2:=n1_;have BK10:=n2_;have BK11:=n3_;have HB:=n4_;clear n0_ n1_ n2_ n3_ n4_ hb ho0 ho1)|((with_reducible refine gate_dst (N:=5) rfl ?_);refine box_event ?hg (N:=5) ?hd (cs:=#[.slice none 0 0,.slice none 0 0,.string (⟨#[]⟩ : ByteArray)]) (t:=35) ?hr ?_;(case hd => rfl);(case hg => rfl);(case hr => first|(go_simp;done)|(go_simp;rfl));intro gb19 hg w12 hbox hb;have SHG:=aM ((by rw [hg];exact Nat.le_refl _) : w11.heap.size ≤ gb19);have SHB:=aM ((by (with_reducible repeat (first|apply lN|apply lD));exact hb) : Below w11.heap.size w11 w12);have n5_:=aM hbox;have n8_:=aM ((by rw [hg];exact Nat.ne_of_lt (bL (g:=gb10) (o:=.cells #[.slice A0_0 l0_0.length c0_0,.slice A0_1 l0_1.length c0_1,.string a0_2] 35 (0,0)) (by (with_reducible repeat (first|refine bN ?_ _|refine bD ?_|refine bA ?_ _));exact BK10.out))) : gb10 ≠ gb19);have n10_:=aM ((by rw [hg];exact Nat.ne_of_lt (bL (g:=gb11) (o:=.cells #[.slice none 0 0,.slice none 0 0,.string (⟨#[]⟩ : ByteArray)] 35 (0,0)) (by (with_reducible repeat (first|refine bN ?_ _|refine bD ?_|refine bA ?_ _));exact BK11.out))) : gb11 ≠ gb19);have BK19:=n5_;have NB10_19:=n8_;have NB11_19:=n10_;clear n5_ n8_ n10_ hb hbox hg;have hnb14:=NB10_19.out;have hnc14:=NB10_19.out.symm;have hnb15:=NB11_19.out;have hnc15:=NB11_19.out.symm;have hcz16_0 : w12.cell? ⟨gb19,0,none⟩ = some (.slice none 0 0):=(bC BK19.out 0).trans rfl;have hcz16_1 : w12.cell? ⟨gb19,1,none⟩ = some (.slice none 0 0):=(bC BK19.out 1).trans rfl;have hcz16_2 : w12.cell? ⟨gb19,2,none⟩ = some (.string (⟨#[]⟩ : ByteArray)):=(bC BK19.out 2).trans rfl;have hcz16f_0:=bF BK19.out 0;have hcz16f_1:=bF BK19.out 1;have hcz16f_2:=bF BK19.out 2)|((with_reducible refine gate_callee (f:=29) rfl ?_);refine goesL_ (some 9) rfl rfl Try.func29 (by kernel_rfl) rfl #[.pointer (some ⟨gb19,0,none⟩),.string a1] rfl (by (try simp only [List.map_toArray,List.map_cons,List.map_nil]);first|done|rfl) ?_;(with_reducible refine (@impl_Store_dump.calls (fun A c B d => A = Ao1 ∧ c = co1 ∧ B = Ao2 ∧ d = co2) k gb19 t1 t2 t3 a1 t4 w11 _ ?side1 ?side2 A4.out).mono ?_);(case side1 => exact ⟨Ao1,co1,Ao2,co2,(by (with_reducible repeat (first|refine bN ?_ _|refine bD ?_|refine bA ?_ _));refine blk_put (cs:=#[.slice Ao1 t1.length co1,.slice Ao2 t2.length co2,.string (⟨#[]⟩ : ByteArray)]) ?_ 2 _ rfl;refine blk_put (cs:=#[.slice Ao1 t1.length co1,.slice none 0 0,.string (⟨#[]⟩ : ByteArray)]) ?_ 1 _ rfl;refine blk_put (cs:=#[.slice none 0 0,.slice none 0 0,.string (⟨#[]⟩ : ByteArray)]) ?_ 0 _ rfl;(with_reducible repeat (first|refine bN ?_ _|refine bD ?_|refine bA ?_ _));exact BK19.out),⟨SHG.out,rfl,rfl,rfl,rfl⟩,(rR HO1.out).2.2,(rR HO2.out).2.2⟩);(case side2 => repeat (first|exact SHB.out|apply lA|apply lN|apply lD|refine lS ?_ SHG.out));rintro e w13 ⟨rfl,hI,hb,hk⟩;refine ⟨_,rfl,?_⟩;obtain ⟨A_,c_,B_,d_,hblk,⟨hge_,he1_,he2_,he3_,he4_⟩,hC1_,hC2_⟩:=hI;clear hge_ hC1_ hC2_;rw [he1_,he2_,he3_,he4_] at hblk;clear he1_ he2_ he3_ he4_;have n0_:=aM (rB HO1.out hb);have n1_:=aM (rB HO2.out hb);have n3_:=aM (bB BK11.out hb);have n4_:=aM (lP HB.out hb);have n5_:=aM hblk;clear hblk hb hk BK10 BK11 BK19 HB HO1 HO2;have HO1:=n0_;have HO2:=n1_;have BK11:=n3_;have HB:=n4_;have BK19:=n5_;clear n0_ n1_ n3_ n4_ n5_;have hcz17_0 : w13.cell? ⟨gb19,0,none⟩ = some (.slice Ao1 t1.length co1):=(bC BK19.out 0).trans rfl;have hcz17_1 : w13.cell? ⟨gb19,1,none⟩ = some (.slice Ao2 t2.length co2):=(bC BK19.out 1).trans rfl;have hcz17_2 : w13.cell? ⟨gb19,2,none⟩ = some (.string t4):=(bC BK19.out 2).trans rfl;have hcz17f_0:=bF BK19.out 0;have hcz17f_1:=bF BK19.out 1;have hcz17f_2:=bF BK19.out 2;have hcz18_0 : w13.cell? ⟨gb11,0,none⟩ = some (.slice none 0 0):=(bC BK11.out 0).trans rfl;have hcz18_1 : w13.cell? ⟨gb11,1,none⟩ = some (.slice none 0 0):=(bC BK11.out 1).trans rfl;have hcz18_2 : w13.cell? ⟨gb11,2,none⟩ = some (.string (⟨#[]⟩ : ByteArray)):=(bC BK11.out 2).trans rfl;have hcz18f_0:=bF BK11.out 0;have hcz18f_1:=bF BK11.out 1;have hcz18f_2:=bF BK11.out 2))
 refine bodyPost_ret (results_cell_row rfl _ _ gb11 35 #[.slice Ao1 t1.length co1,.slice Ao2 t2.length co2,.string t4] (0,0) _ rfl (by (with_reducible repeat (first|refine bN ?_ _|refine bD ?_|refine bA ?_ _));refine blk_put (cs:=#[.slice Ao1 t1.length co1,.slice Ao2 t2.length co2,.string (⟨#[]⟩ : ByteArray)]) ?_ 2 _ rfl;refine blk_put (cs:=#[.slice Ao1 t1.length co1,.slice none 0 0,.string (⟨#[]⟩ : ByteArray)]) ?_ 1 _ rfl;refine blk_put (cs:=#[.slice none 0 0,.slice none 0 0,.string (⟨#[]⟩ : ByteArray)]) ?_ 0 _ rfl;(with_reducible repeat (first|refine bN ?_ _|refine bD ?_|refine bA ?_ _));exact BK11.out) Try.underlying35 rfl (by kernel_rfl)) rfl ?_
 exact ⟨_,_,rfl,(by (with_reducible repeat (first|apply rA|apply rN|apply rD));exact (Kd.R_mono (rF (rF (rF (rY HO1.out BK11.out (by decide)) (fun _ hk => hk.2) _) (fun _ hk => hk.2) _) (fun _ hk => hk.2) _) (fun _ hk => trivial))),(by (with_reducible repeat (first|apply rA|apply rN|apply rD));exact (Kd.R_mono (rF (rF (rF (rY HO2.out BK11.out (by decide)) (fun _ hk => hk.2) _) (fun _ hk => hk.2) _) (fun _ hk => hk.2) _) (fun _ hk => trivial))),(by repeat (first|(with_reducible first|exact HB.out|apply lA|apply lN|apply lD|refine lS ?_ GE10.out|refine lS ?_ GE11.out)|exact HB.out))⟩

end Go.Proofs.Ytekngkljphlliaa.QFnSays
