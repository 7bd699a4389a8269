-- A text of this session, made by wip/own_print.py (the kit's print with additions of ours).
import Derived.Test.YtodpkfidkilpdaaQFnVarsx0
namespace Go.Proofs.Ytodpkfidkilpdaa.QFnVars
open Go.RowKit Go.Proofs.YtodpkfidkilpdaaW.PrintWords Go.Proofs.YtodpkfidkilpdaaW.PrintLast Go.Proofs.YtodpkfidkilpdaaW.PrintMore
attribute [local go_sem] max2_int min2_int max_two min_two max_three min_three max_four min_four   -- for this text's walks alone
set_option linter.unusedVariables false
set_option linter.unusedSimpArgs false
open Bool renaming true → bT, false → bf
open Go.Proofs.YtodpkfidkilpdaaW.PrintWords.Kd renaming R_alloc → rA, R_drewN → rN, R_drew → rD, C_alloc → cA, C_drewN → cN, C_drew → cD, R_far → rF, R_below → rB, R_lower → rL, R_lt → rT, R_base → rS, C_below → cB, R_types → rY, R_elder' → rE, R_reads' → rR, R_new' → rW
open Go.Proofs.YtodpkfidkilpdaaW.PrintWords renaming blk_drewN → bN, blk_drew → bD, blk_alloc → bA, below_set → lS, pw_below_drewN → lN, below_drew1 → lD, below_alloc → lA, blk_cell → bC, blk_below → bB, below_size → lZ, below_step → lP, blk_lt → bL, blk_frozen → bF
open Go.Proofs.YtodpkfidkilpdaaW.PrintWords.Aside0 renaming mk → aM
theorem q_ia3 {α : Type} (l : List α) (i : Nat) (a : α) : l.toArray.setIfInBounds i a = (l.set i a).toArray := List.setIfInBounds_toArray ..
theorem q_cz3 {α : Type} (a b : α) (l : List α) : (a :: l).set 0 b = b :: l := rfl
theorem q_cs3 {α : Type} (a b : α) (l : List α) (n : Nat) : (a :: l).set (n + 1) b = a :: l.set n b := rfl

/-! ### impl_copyStore: function 54 -/
def impl_copyStore.f (l0_0 : List (S53)) (l0_1 : List (S57)) (a0_2 : ByteArray) : Option ((List (S53)) × (List (S57)) × ByteArray) := (some (([] : List (S53)) : List (S53))).bind fun y144 => (if y144.length + l0_0.length < 4398046511104 then ((some (([] : List (S57)) : List (S57))).bind fun y150 => (if y150.length + l0_1.length < 2932031007402 then (some ((y144 ++ l0_0), (y150 ++ l0_1), a0_2)) else (none))) else (none))
def impl_copyStore.T1 : Bool × List (List Nat × List Nat) := (true, [([], []), ([], []), ([1], [1]), ([0, 2], [0, 2]), ([], []), ([], []), ([5], [5]), ([4, 6, 3], [4, 6]), ([0, 1, 2, 3, 5, 6], []), ([8, 3, 7, 0, 1, 2, 3, 5, 6], [3, 8]), ([0, 1, 2, 3, 4, 5, 6, 7, 8, 9], []), ([10, 7, 9, 0, 1, 2, 3, 4, 5, 6, 7, 8, 9], [7, 10])])
def impl_copyStore.B1 : List Nat := [0, 0, 2, 7, 0, 0, 32, 127, 111, 511, 1023, 2047]
theorem impl_copyStore.tab1 : rtab .any (opsOf Try.f54 1) = impl_copyStore.T1 := by kernel_rfl
theorem impl_copyStore.bits1 : waitsOk impl_copyStore.T1.2 impl_copyStore.B1 = true := by kernel_rfl
set_option maxHeartbeats 8000000 in
set_option maxRecDepth 100000 in
theorem impl_copyStore.calls (A0_0 : Option Addr) (c0_0 : Nat) (l0_0 : List (S53)) (A0_1 : Option Addr) (c0_1 : Nat) (l0_1 : List (S57)) (a0_2 : ByteArray) (r1 : List (S53)) (r2 : List (S57)) (r3 : ByteArray) (w : World) (hr0_0 : Kd.C k53 w A0_0 l0_0.length l0_0) (hc0_0 : l0_0.length ≤ c0_0) (hr0_1 : Kd.C k57 w A0_1 l0_1.length l0_1) (hc0_1 : l0_1.length ≤ c0_1) (h : impl_copyStore.f l0_0 l0_1 a0_2 = some (r1,r2,r3)) :
  Calls Try.prog 54 #[.agg #[.slice A0_0 l0_0.length c0_0,.slice A0_1 l0_1.length c0_1,.string a0_2]] w fun e w' => ∃ v0_ v1_ : Value,e = .returned (.agg #[v0_,v1_,.string r3]) ∧ Kd.R k53 53 w' w.heap.size (fun _ => True) v0_ r1 ∧ Kd.R k57 57 w' w.heap.size (fun _ => True) v1_ r2 ∧ Below w.heap.size w w':=by
 have hu38:=Try.underlying38
 have HR0_0:=aM hr0_0
 have HC0_0:=aM hc0_0
 clear hr0_0 hc0_0
 have HR0_1:=aM hr0_1
 have HC0_1:=aM hc0_1
 clear hr0_1 hc0_1
 have HB:=aM (Below.refl w.heap.size w)
 have H : ((some (([] : List (S53)) : List (S53))).bind fun y144 => (if y144.length + l0_0.length < 4398046511104 then ((some (([] : List (S57)) : List (S57))).bind fun y150 => (if y150.length + l0_1.length < 2932031007402 then (some ((y144 ++ l0_0),(y150 ++ l0_1),a0_2)) else (none))) else (none))) = some (r1,r2,r3):=h
 clear h
 obtain ⟨y144,hy144⟩ : ∃ y_ : List (S53),y_ = (([] : List (S53))):=⟨_,rfl⟩
 replace H : (if y144.length + l0_0.length < 4398046511104 then ((some (([] : List (S57)) : List (S57))).bind fun y150 => (if y150.length + l0_1.length < 2932031007402 then (some ((y144 ++ l0_0),(y150 ++ l0_1),a0_2)) else (none))) else (none)) = some (r1,r2,r3):=by first|(rw [hy144];with_reducible exact H)|(have H2_:=(Option.bind_some _ _).symm.trans H;rw [hy144];with_reducible exact H2_)|(have H2_:=(Option.bind_some _ _).symm.trans H;with_reducible exact H2_)|with_reducible exact H|(rw [hy144];exact H)|exact H
 have Ny144:=aM hy144
 clear hy144
 by_cases c2 : y144.length + l0_0.length < 4398046511104
 ·rw [if_pos c2] at H
  have LMc2:=aM c2
  clear c2
  obtain ⟨y147,hy147⟩ : ∃ y_ : List (S53),y_ = (y144 ++ l0_0):=⟨_,rfl⟩
  replace H : ((some (([] : List (S57)) : List (S57))).bind fun y150 => (if y150.length + l0_1.length < 2932031007402 then (some (y147,(y150 ++ l0_1),a0_2)) else (none))) = some (r1,r2,r3):=by first|(rw [hy147];with_reducible exact H)|(have H2_:=(Option.bind_some _ _).symm.trans H;rw [hy147];with_reducible exact H2_)|(have H2_:=(Option.bind_some _ _).symm.trans H;with_reducible exact H2_)|with_reducible exact H|(rw [hy147];exact H)|exact H
  have Ny147:=aM hy147
  clear hy147
  obtain ⟨y150,hy150⟩ : ∃ y_ : List (S57),y_ = (([] : List (S57))):=⟨_,rfl⟩
  replace H : (if y150.length + l0_1.length < 2932031007402 then (some (y147,(y150 ++ l0_1),a0_2)) else (none)) = some (r1,r2,r3):=by first|(rw [hy150];with_reducible exact H)|(have H2_:=(Option.bind_some _ _).symm.trans H;rw [hy150];with_reducible exact H2_)|(have H2_:=(Option.bind_some _ _).symm.trans H;with_reducible exact H2_)|with_reducible exact H|(rw [hy150];exact H)|exact H
  have Ny150:=aM hy150
  clear hy150
  by_cases c3 : y150.length + l0_1.length < 2932031007402
  ·rw [if_pos c3] at H
   have LMc3:=aM c3
   clear c3
   obtain ⟨y153,hy153⟩ : ∃ y_ : List (S57),y_ = (y150 ++ l0_1):=⟨_,rfl⟩
   replace H : (some (y147,y153,a0_2)) = some (r1,r2,r3):=by first|(rw [hy153];with_reducible exact H)|(have H2_:=(Option.bind_some _ _).symm.trans H;rw [hy153];with_reducible exact H2_)|(have H2_:=(Option.bind_some _ _).symm.trans H;with_reducible exact H2_)|with_reducible exact H|(rw [hy153];exact H)|exact H
   have Ny153:=aM hy153
   clear hy153
   simp only [Option.some.injEq,Prod.mk.injEq] at H
   obtain ⟨rfl,rfl,rfl⟩:=H
   go_enter Try.func54,Try.ntmps54
   try go_wp2_with (first|((with_reducible refine gate_dst (N:=1) rfl ?_);refine box_event ?hg (N:=1) ?hd (cs:=#[.slice A0_0 l0_0.length c0_0,.slice A0_1 l0_1.length c0_1,.string a0_2]) (t:=38) ?hr ?_;(case hd => rfl);(case hg => rfl);(case hr => first|(go_simp;done)|(go_simp;rfl));intro gb142 hg w4 hbox hb;have n0_:=aM (lQ HB.out hb);have n1_:=aM (hbox);have n2_:=aM ((sQ hg HB.out : w.heap.size ≤ gb142));have n3_:=n2_;clear HB;have HB:=n0_;have BK142:=n1_;have GW142:=n2_;have GE142:=n3_;clear n0_ n1_ n2_ n3_ hb hbox hg)|((with_reducible refine gate_dst (N:=2) rfl ?_);refine box_event ?hg (N:=2) ?hd (cs:=#[.slice none 0 0,.slice none 0 0,.string (⟨#[]⟩ : ByteArray)]) (t:=38) ?hr ?_;(case hd => rfl);(case hg => rfl);(case hr => first|(go_simp;done)|(go_simp;rfl));intro gb143 hg w5 hbox hb;have n0_:=aM (bH BK142.out hb);have n1_:=aM (lQ HB.out hb);have n2_:=aM (hbox);have n3_:=aM ((sQ hg HB.out : w.heap.size ≤ gb143));have n4_:=n3_;have n5_:=aM ((nL hg BK142.out : gb142 ≠ gb143));have n6_:=aM ((nG hg BK142.out : gb143 ≠ gb142));clear BK142 HB;have BK142:=n0_;have HB:=n1_;have BK143:=n2_;have GW143:=n3_;have GE143:=n4_;have NB142_143:=n5_;have NB143_142:=n6_;clear n0_ n1_ n2_ n3_ n4_ n5_ n6_ hb hbox hg))
   have n0_:=aM (bD BK142.out)
   have n1_:=aM (bD BK143.out)
   have n2_:=aM (lD HB.out)
   clear BK142
   clear BK143
   clear HB
   have BK142:=n0_
   have BK143:=n1_
   have HB:=n2_
   clear n0_ n1_ n2_
   refine start_ (n:=12) (S:=fun w' => w'.cell? ⟨gb142,0,none⟩ = some (.slice A0_0 l0_0.length c0_0) ∧ w'.cell? ⟨gb142,1,none⟩ = some (.slice A0_1 l0_1.length c0_1) ∧ w'.cell? ⟨gb142,2,none⟩ = some (.string a0_2)) (ds:=[9,11]) #[bf,bf,bf,bf,bf,bf,bf,bf,bf,bf,bf,bf] (by kernel_rfl) rfl rfl ⟨(bC BK142.out 0).trans rfl,(bC BK142.out 1).trans rfl,(bC BK142.out 2).trans rfl⟩ (fun hHeld => ?_);refine with_tabW impl_copyStore.tab1 impl_copyStore.bits1 (fun HT_ HW_ => ?_)
   generalize w5.drew = w6 at BK142 BK143 HB hHeld ⊢
   refine pQ (i:=1) (N:=some 4) (v:=?_) (a':=?_) #[bf,bT,bf,bf,bf,bf,bf,bf,bf,bf,bf,bf] (any_of HT_.out (by kernel_rfl)) ?_ ?_ ?_
   rotate_left
   ·intro w';go_simp;with_reducible rfl
   rotate_left
   ·simp only [Act.put,q_ia3,q_cz3,q_cs3,i64_w,i32_w];rfl
   refine pQ (i:=5) (N:=some 8) (v:=?_) (a':=?_) #[bf,bT,bf,bf,bf,bT,bf,bf,bf,bf,bf,bf] (any_of HT_.out (by kernel_rfl)) ?_ ?_ ?_
   rotate_left
   ·intro w';go_simp;with_reducible rfl
   rotate_left
   ·simp only [Act.put,q_ia3,q_cz3,q_cs3,i64_w,i32_w];rfl
   refine take_ (i:=2) (N:=some 5) (v:=?_) (a':=?_) #[bf,bT,bT,bf,bf,bT,bf,bf,bf,bf,bf,bf] rfl rfl (take_ofW HT_.out HW_.out (by kernel_rfl)) (fun _ _ _ h => h) (Or.inl ⟨by rfl,?_⟩) hHeld ?_ ?_
   rotate_left
   ·rintro w' ⟨s0,s1,s2⟩
    go_simp
    with_reducible rfl
   rotate_left
   ·simp only [Act.put,q_ia3,q_cz3,q_cs3,i64_w,i32_w];rfl
   refine take_ (i:=6) (N:=some 9) (v:=?_) (a':=?_) #[bf,bT,bT,bf,bf,bT,bT,bf,bf,bf,bf,bf] rfl rfl (take_ofW HT_.out HW_.out (by kernel_rfl)) (fun _ _ _ h => h) (Or.inl ⟨by rfl,?_⟩) hHeld ?_ ?_
   rotate_left
   ·rintro w' ⟨s0,s1,s2⟩
    go_simp
    with_reducible rfl
   rotate_left
   ·simp only [Act.put,q_ia3,q_cz3,q_cs3,i64_w,i32_w];rfl
   refine join_ (σ:=Value × Value × Value) 4 #[bT,bT,bT,bT,bT,bT,bT,bf,bT,bf,bf,bf] (fun s_ => [(3,s_.1),(6,s_.2.1),(7,s_.2.2),(11,.pointer (some ⟨gb142,0,none⟩))]) (fun s_ w' => (w'.cell? ⟨gb142,0,none⟩ = some (.slice A0_0 l0_0.length c0_0) ∧ w'.cell? ⟨gb142,1,none⟩ = some (.slice A0_1 l0_1.length c0_1) ∧ w'.cell? ⟨gb142,2,none⟩ = some (.string a0_2)) ∧ (Kd.R k53 53 w' w.heap.size (fun _ => True) s_.2.1 y147) ∧ (Kd.R k57 57 w' w.heap.size (fun _ => True) s_.2.2 y150) ∧ (w'.heap[gb142]? = some (.cells #[.slice A0_0 l0_0.length c0_0,.slice A0_1 l0_1.length c0_1,.string a0_2] 38 (0,0))) ∧ (w'.heap[gb143]? = some (.cells #[.slice none 0 0,.slice none 0 0,.string (⟨#[]⟩ : ByteArray)] 38 (0,0))) ∧ (Below w.heap.size w w')) ?_ ?_
   rotate_left
   ·intro hCont
    refine two_ (i:=0) (j:=4) (Ni:=some 3) (Nj:=some 7) #[bT,bT,bT,bf,bf,bT,bT,bf,bf,bf,bf,bf] #[bf,bT,bT,bf,bT,bT,bT,bf,bf,bf,bf,bf] rfl rfl rfl rfl (two_of HT_.out (by kernel_rfl)) (by decide) (by decide) (fun K hK => ?_) (fun K hK => ?_)
    ·skip
     refine Kd.R_lit_step k53 _ 53 ?hg (N:=3) ?hd (xs:=([] : List (S53))) (inner:=[]) (ok:=fun _ => True) (okp:=fun _ => True) ?hr ?hp (fun _ hk => hk) trivial (Below.refl _ _) (Nat.le_refl _) (by simp) ?_;(case hd => rfl);(case hg => rfl);(case hr => first|(go_simp;done)|(go_simp;rfl));(case hp => exact (Reps.none _ _))
     intro v145 w7 ho8 hb hg_ hnew_
     clear hg_ hnew_
     (first|rw [← Ny144.out] at ho8|(simp only [Int.reduceToNat] at ho8;rw [← Ny144.out] at ho8))
     have n0_:=aM (rL ho8 (lZ (by repeat (first|(with_reducible first|exact HB.out|apply lA|apply lN|apply lD|refine lS ?_ GE142.out|refine lS ?_ GE143.out)|exact HB.out))))
     have n1_:=aM (bH BK142.out hb)
     have n2_:=aM (bH BK143.out hb)
     have n3_:=aM (lQ HB.out hb)
     clear BK142
     clear BK143
     clear HB
     have HO146:=n0_
     have BK142:=n1_
     have BK143:=n2_
     have HB:=n3_
     clear n0_ n1_ n2_ n3_
     clear hb ho8
     refine hK.out _ _ ⟨(bC BK142.out 0).trans rfl,(bC BK142.out 1).trans rfl,(bC BK142.out 2).trans rfl⟩ (fun hHeld => ?_)
     clear hK K
     refine norm_ (a':=?_) ?_ ?_
     rotate_left
     ·show Act.put _ (some 3) _ = _
      simp only [Act.put,q_ia3,q_cz3,q_cs3,i64_w,i32_w]
      rfl
     refine two_ (i:=3) (j:=4) (Ni:=some 6) (Nj:=some 7) #[bT,bT,bT,bT,bf,bT,bT,bf,bf,bf,bf,bf] #[bT,bT,bT,bf,bT,bT,bT,bf,bf,bf,bf,bf] rfl rfl rfl rfl (two_of HT_.out (by kernel_rfl)) (by decide) (by decide) (fun K hK => ?_) (fun K hK => ?_)
     ·skip
      refine Kd.R_append_rows_step k53 (w0:=w) w.heap.size (by rfl) (.tmp 3) (.tmp 5) 35 53 (.agg #[(.string ⟨#[]⟩),(.string ⟨#[]⟩)]) 32 rfl Try.underlying35 info53 rfl (by decide) (by omega) v145 y144 l0_0 _ _ _ (fun _ => True) (fun _ => False) rfl rfl ?aO ?aR (fun _ _ h => h) (fun _ h => h.elim) ?aF ?aB ?aS ?aL ?_
      (case aR => repeat (first|exact (cB HR0_0.out HB.out)|(with_reducible first|refine cA ?_ _|refine cN ?_ _|refine cD ?_)))
      (case aB => exact (by repeat (first|(with_reducible first|exact HB.out|apply lA|apply lN|apply lD|refine lS ?_ GE142.out|refine lS ?_ GE143.out)|exact HB.out)))
      (case aF => exact (fun _ _ => trivial))
      (case aO => exact (rZ HO146.out))
      (case aS => exact (lZ (by repeat (first|(with_reducible first|exact HB.out|apply lA|apply lN|apply lD|refine lS ?_ GE142.out|refine lS ?_ GE143.out)|exact HB.out))))
      (case aL => have:=LMc2.out;omega)
      intro v148 w9 ho hb hg hat
      rw [← Ny147.out] at ho
      have n0_:=aM (blk_grown (g:=gb142) (o:=.cells #[.slice A0_0 l0_0.length c0_0,.slice A0_1 l0_1.length c0_1,.string a0_2] 38 (0,0)) (by (with_reducible repeat (first|refine bN ?_ _|refine bD ?_|refine bA ?_ _));exact BK142.out) hg (Kd.R_ne HO146.out BK142.out (by decide)))
      have n1_:=aM (blk_grown (g:=gb143) (o:=.cells #[.slice none 0 0,.slice none 0 0,.string (⟨#[]⟩ : ByteArray)] 38 (0,0)) (by (with_reducible repeat (first|refine bN ?_ _|refine bD ?_|refine bA ?_ _));exact BK143.out) hg (Kd.R_ne HO146.out BK143.out (by decide)))
      have n2_:=aM (hb)
      have n3_:=aM (ho)
      clear BK142
      clear BK143
      clear HB
      clear HO146
      have BK142:=n0_
      have BK143:=n1_
      have HB:=n2_
      have HO149:=n3_
      clear n0_ n1_ n2_ n3_
      clear ho hb hg hat
      refine hK.out _ _ ⟨(bC BK142.out 0).trans rfl,(bC BK142.out 1).trans rfl,(bC BK142.out 2).trans rfl⟩ (fun hHeld => ?_)
      clear hK K
      refine norm_ (a':=?_) ?_ ?_
      rotate_left
      ·show Act.put _ (some 6) _ = _
       simp only [Act.put,q_ia3,q_cz3,q_cs3,i64_w,i32_w]
       rfl
      refine pQ (i:=8) (N:=some 11) (v:=?_) (a':=?_) #[bT,bT,bT,bT,bf,bT,bT,bf,bT,bf,bf,bf] (any_of HT_.out (by kernel_rfl)) ?_ ?_ ?_
      rotate_left
      ·intro w';go_simp;with_reducible rfl
      rotate_left
      ·simp only [Act.put,q_ia3,q_cz3,q_cs3,i64_w,i32_w];rfl
      refine one_ (i:=4) (N:=some 7) #[bT,bT,bT,bT,bT,bT,bT,bf,bT,bf,bf,bf] rfl rfl (one_of HT_.out (by kernel_rfl)) (by decide) (fun K hK => ?_)
      refine Kd.R_lit_step k57 _ 57 ?hg (N:=7) ?hd (xs:=([] : List (S57))) (inner:=[]) (ok:=fun _ => True) (okp:=fun _ => True) ?hr ?hp (fun _ hk => hk) trivial (Below.refl _ _) (Nat.le_refl _) (by simp) ?_;(case hd => rfl);(case hg => rfl);(case hr => first|(go_simp;done)|(go_simp;rfl));(case hp => exact (Reps.none _ _))
      intro v151 w10 ho11 hb hg_ hnew_
      clear hg_ hnew_
      (first|rw [← Ny150.out] at ho11|(simp only [Int.reduceToNat] at ho11;rw [← Ny150.out] at ho11))
      have n0_:=aM (rH HO149.out hb)
      have n1_:=aM (rL ho11 (lZ (by repeat (first|(with_reducible first|exact HB.out|apply lA|apply lN|apply lD|refine lS ?_ GE142.out|refine lS ?_ GE143.out)|exact HB.out))))
      have n2_:=aM (bH BK142.out hb)
      have n3_:=aM (bH BK143.out hb)
      have n4_:=aM (lQ HB.out hb)
      clear HO149
      clear BK142
      clear BK143
      clear HB
      have HO149:=n0_
      have HO152:=n1_
      have BK142:=n2_
      have BK143:=n3_
      have HB:=n4_
      clear n0_ n1_ n2_ n3_ n4_
      clear hb ho11
      refine hK.out _ _ ⟨(bC BK142.out 0).trans rfl,(bC BK142.out 1).trans rfl,(bC BK142.out 2).trans rfl⟩ (fun hHeld => ?_)
      clear hK K
      refine norm_ (a':=?_) ?_ ?_
      rotate_left
      ·show Act.put _ (some 7) _ = _
       simp only [Act.put,q_ia3,q_cz3,q_cs3,i64_w,i32_w]
       rfl
      exact norm_ (by simp only [putAll,Act.put,q_ia3,q_cz3,q_cs3]) (hCont (v145,v148,v151) _ ⟨hHeld,(rZ HO149.out),(rZ HO152.out),(by (with_reducible repeat (first|refine bN ?_ _|refine bD ?_|refine bA ?_ _));exact BK142.out),(by (with_reducible repeat (first|refine bN ?_ _|refine bD ?_|refine bA ?_ _));exact BK143.out),(by repeat (first|(with_reducible first|exact HB.out|apply lA|apply lN|apply lD|refine lS ?_ GE142.out|refine lS ?_ GE143.out)|exact HB.out))⟩)
     ·skip
      refine Kd.R_lit_step k57 _ 57 ?hg (N:=7) ?hd (xs:=([] : List (S57))) (inner:=[]) (ok:=fun _ => True) (okp:=fun _ => True) ?hr ?hp (fun _ hk => hk) trivial (Below.refl _ _) (Nat.le_refl _) (by simp) ?_;(case hd => rfl);(case hg => rfl);(case hr => first|(go_simp;done)|(go_simp;rfl));(case hp => exact (Reps.none _ _))
      intro v151 w9 ho10 hb hg_ hnew_
      clear hg_ hnew_
      (first|rw [← Ny150.out] at ho10|(simp only [Int.reduceToNat] at ho10;rw [← Ny150.out] at ho10))
      have n0_:=aM (rH HO146.out hb)
      have n1_:=aM (rL ho10 (lZ (by repeat (first|(with_reducible first|exact HB.out|apply lA|apply lN|apply lD|refine lS ?_ GE142.out|refine lS ?_ GE143.out)|exact HB.out))))
      have n2_:=aM (bH BK142.out hb)
      have n3_:=aM (bH BK143.out hb)
      have n4_:=aM (lQ HB.out hb)
      clear HO146
      clear BK142
      clear BK143
      clear HB
      have HO146:=n0_
      have HO152:=n1_
      have BK142:=n2_
      have BK143:=n3_
      have HB:=n4_
      clear n0_ n1_ n2_ n3_ n4_
      clear hb ho10
      refine hK.out _ _ ⟨(bC BK142.out 0).trans rfl,(bC BK142.out 1).trans rfl,(bC BK142.out 2).trans rfl⟩ (fun hHeld => ?_)
      clear hK K
      refine norm_ (a':=?_) ?_ ?_
      rotate_left
      ·show Act.put _ (some 7) _ = _
       simp only [Act.put,q_ia3,q_cz3,q_cs3,i64_w,i32_w]
       rfl
      refine one_ (i:=3) (N:=some 6) #[bT,bT,bT,bT,bT,bT,bT,bf,bf,bf,bf,bf] rfl rfl (one_of HT_.out (by kernel_rfl)) (by decide) (fun K hK => ?_)
      refine Kd.R_append_rows_step k53 (w0:=w) w.heap.size (by rfl) (.tmp 3) (.tmp 5) 35 53 (.agg #[(.string ⟨#[]⟩),(.string ⟨#[]⟩)]) 32 rfl Try.underlying35 info53 rfl (by decide) (by omega) v145 y144 l0_0 _ _ _ (fun _ => True) (fun _ => False) rfl rfl ?aO ?aR (fun _ _ h => h) (fun _ h => h.elim) ?aF ?aB ?aS ?aL ?_
      (case aR => repeat (first|exact (cB HR0_0.out HB.out)|(with_reducible first|refine cA ?_ _|refine cN ?_ _|refine cD ?_)))
      (case aB => exact (by repeat (first|(with_reducible first|exact HB.out|apply lA|apply lN|apply lD|refine lS ?_ GE142.out|refine lS ?_ GE143.out)|exact HB.out)))
      (case aF => exact (fun _ _ => trivial))
      (case aO => exact (rZ HO146.out))
      (case aS => exact (lZ (by repeat (first|(with_reducible first|exact HB.out|apply lA|apply lN|apply lD|refine lS ?_ GE142.out|refine lS ?_ GE143.out)|exact HB.out))))
      (case aL => have:=LMc2.out;omega)
      intro v148 w11 ho hb hg hat
      rw [← Ny147.out] at ho
      have n0_:=aM (blk_grown (g:=gb142) (o:=.cells #[.slice A0_0 l0_0.length c0_0,.slice A0_1 l0_1.length c0_1,.string a0_2] 38 (0,0)) (by (with_reducible repeat (first|refine bN ?_ _|refine bD ?_|refine bA ?_ _));exact BK142.out) hg (Kd.R_ne HO146.out BK142.out (by decide)))
      have n1_:=aM (blk_grown (g:=gb143) (o:=.cells #[.slice none 0 0,.slice none 0 0,.string (⟨#[]⟩ : ByteArray)] 38 (0,0)) (by (with_reducible repeat (first|refine bN ?_ _|refine bD ?_|refine bA ?_ _));exact BK143.out) hg (Kd.R_ne HO146.out BK143.out (by decide)))
      have n2_:=aM (Kd.R_over' (rZ HO152.out) (Kd.R_typed (rZ HO146.out)) (by decide) hg)
      have n3_:=aM (hb)
      have n4_:=aM (ho)
      clear BK142
      clear BK143
      clear HO152
      clear HB
      clear HO146
      have BK142:=n0_
      have BK143:=n1_
      have HO152:=n2_
      have HB:=n3_
      have HO149:=n4_
      clear n0_ n1_ n2_ n3_ n4_
      clear ho hb hg hat
      refine hK.out _ _ ⟨(bC BK142.out 0).trans rfl,(bC BK142.out 1).trans rfl,(bC BK142.out 2).trans rfl⟩ (fun hHeld => ?_)
      clear hK K
      refine norm_ (a':=?_) ?_ ?_
      rotate_left
      ·show Act.put _ (some 6) _ = _
       simp only [Act.put,q_ia3,q_cz3,q_cs3,i64_w,i32_w]
       rfl
      refine pQ (i:=8) (N:=some 11) (v:=?_) (a':=?_) #[bT,bT,bT,bT,bT,bT,bT,bf,bT,bf,bf,bf] (any_of HT_.out (by kernel_rfl)) ?_ ?_ ?_
      rotate_left
      ·intro w';go_simp;with_reducible rfl
      rotate_left
      ·simp only [Act.put,q_ia3,q_cz3,q_cs3,i64_w,i32_w];rfl
      exact norm_ (by simp only [putAll,Act.put,q_ia3,q_cz3,q_cs3]) (hCont (v145,v148,v151) _ ⟨hHeld,(rZ HO149.out),(rZ HO152.out),(by (with_reducible repeat (first|refine bN ?_ _|refine bD ?_|refine bA ?_ _));exact BK142.out),(by (with_reducible repeat (first|refine bN ?_ _|refine bD ?_|refine bA ?_ _));exact BK143.out),(by repeat (first|(with_reducible first|exact HB.out|apply lA|apply lN|apply lD|refine lS ?_ GE142.out|refine lS ?_ GE143.out)|exact HB.out))⟩)
    ·skip
     refine Kd.R_lit_step k57 _ 57 ?hg (N:=7) ?hd (xs:=([] : List (S57))) (inner:=[]) (ok:=fun _ => True) (okp:=fun _ => True) ?hr ?hp (fun _ hk => hk) trivial (Below.refl _ _) (Nat.le_refl _) (by simp) ?_;(case hd => rfl);(case hg => rfl);(case hr => first|(go_simp;done)|(go_simp;rfl));(case hp => exact (Reps.none _ _))
     intro v151 w7 ho8 hb hg_ hnew_
     clear hg_ hnew_
     (first|rw [← Ny150.out] at ho8|(simp only [Int.reduceToNat] at ho8;rw [← Ny150.out] at ho8))
     have n0_:=aM (rL ho8 (lZ (by repeat (first|(with_reducible first|exact HB.out|apply lA|apply lN|apply lD|refine lS ?_ GE142.out|refine lS ?_ GE143.out)|exact HB.out))))
     have n1_:=aM (bH BK142.out hb)
     have n2_:=aM (bH BK143.out hb)
     have n3_:=aM (lQ HB.out hb)
     clear BK142
     clear BK143
     clear HB
     have HO152:=n0_
     have BK142:=n1_
     have BK143:=n2_
     have HB:=n3_
     clear n0_ n1_ n2_ n3_
     clear hb ho8
     refine hK.out _ _ ⟨(bC BK142.out 0).trans rfl,(bC BK142.out 1).trans rfl,(bC BK142.out 2).trans rfl⟩ (fun hHeld => ?_)
     clear hK K
     refine norm_ (a':=?_) ?_ ?_
     rotate_left
     ·show Act.put _ (some 7) _ = _
      simp only [Act.put,q_ia3,q_cz3,q_cs3,i64_w,i32_w]
      rfl
     refine one_ (i:=0) (N:=some 3) #[bT,bT,bT,bf,bT,bT,bT,bf,bf,bf,bf,bf] rfl rfl (one_of HT_.out (by kernel_rfl)) (by decide) (fun K hK => ?_)
     refine Kd.R_lit_step k53 _ 53 ?hg (N:=3) ?hd (xs:=([] : List (S53))) (inner:=[]) (ok:=fun _ => True) (okp:=fun _ => True) ?hr ?hp (fun _ hk => hk) trivial (Below.refl _ _) (Nat.le_refl _) (by simp) ?_;(case hd => rfl);(case hg => rfl);(case hr => first|(go_simp;done)|(go_simp;rfl));(case hp => exact (Reps.none _ _))
     intro v145 w9 ho10 hb hg_ hnew_
     clear hg_ hnew_
     (first|rw [← Ny144.out] at ho10|(simp only [Int.reduceToNat] at ho10;rw [← Ny144.out] at ho10))
     have n0_:=aM (rH HO152.out hb)
     have n1_:=aM (rL ho10 (lZ (by repeat (first|(with_reducible first|exact HB.out|apply lA|apply lN|apply lD|refine lS ?_ GE142.out|refine lS ?_ GE143.out)|exact HB.out))))
     have n2_:=aM (bH BK142.out hb)
     have n3_:=aM (bH BK143.out hb)
     have n4_:=aM (lQ HB.out hb)
     clear HO152
     clear BK142
     clear BK143
     clear HB
     have HO152:=n0_
     have HO146:=n1_
     have BK142:=n2_
     have BK143:=n3_
     have HB:=n4_
     clear n0_ n1_ n2_ n3_ n4_
     clear hb ho10
     refine hK.out _ _ ⟨(bC BK142.out 0).trans rfl,(bC BK142.out 1).trans rfl,(bC BK142.out 2).trans rfl⟩ (fun hHeld => ?_)
     clear hK K
     refine norm_ (a':=?_) ?_ ?_
     rotate_left
     ·show Act.put _ (some 3) _ = _
      simp only [Act.put,q_ia3,q_cz3,q_cs3,i64_w,i32_w]
      rfl
     refine one_ (i:=3) (N:=some 6) #[bT,bT,bT,bT,bT,bT,bT,bf,bf,bf,bf,bf] rfl rfl (one_of HT_.out (by kernel_rfl)) (by decide) (fun K hK => ?_)
     refine Kd.R_append_rows_step k53 (w0:=w) w.heap.size (by rfl) (.tmp 3) (.tmp 5) 35 53 (.agg #[(.string ⟨#[]⟩),(.string ⟨#[]⟩)]) 32 rfl Try.underlying35 info53 rfl (by decide) (by omega) v145 y144 l0_0 _ _ _ (fun _ => True) (fun _ => False) rfl rfl ?aO ?aR (fun _ _ h => h) (fun _ h => h.elim) ?aF ?aB ?aS ?aL ?_
     (case aR => repeat (first|exact (cB HR0_0.out HB.out)|(with_reducible first|refine cA ?_ _|refine cN ?_ _|refine cD ?_)))
     (case aB => exact (by repeat (first|(with_reducible first|exact HB.out|apply lA|apply lN|apply lD|refine lS ?_ GE142.out|refine lS ?_ GE143.out)|exact HB.out)))
     (case aF => exact (fun _ _ => trivial))
     (case aO => exact (rZ HO146.out))
     (case aS => exact (lZ (by repeat (first|(with_reducible first|exact HB.out|apply lA|apply lN|apply lD|refine lS ?_ GE142.out|refine lS ?_ GE143.out)|exact HB.out))))
     (case aL => have:=LMc2.out;omega)
     intro v148 w11 ho hb hg hat
     rw [← Ny147.out] at ho
     have n0_:=aM (blk_grown (g:=gb142) (o:=.cells #[.slice A0_0 l0_0.length c0_0,.slice A0_1 l0_1.length c0_1,.string a0_2] 38 (0,0)) (by (with_reducible repeat (first|refine bN ?_ _|refine bD ?_|refine bA ?_ _));exact BK142.out) hg (Kd.R_ne HO146.out BK142.out (by decide)))
     have n1_:=aM (blk_grown (g:=gb143) (o:=.cells #[.slice none 0 0,.slice none 0 0,.string (⟨#[]⟩ : ByteArray)] 38 (0,0)) (by (with_reducible repeat (first|refine bN ?_ _|refine bD ?_|refine bA ?_ _));exact BK143.out) hg (Kd.R_ne HO146.out BK143.out (by decide)))
     have n2_:=aM (Kd.R_over' (rZ HO152.out) (Kd.R_typed (rZ HO146.out)) (by decide) hg)
     have n3_:=aM (hb)
     have n4_:=aM (ho)
     clear BK142
     clear BK143
     clear HO152
     clear HB
     clear HO146
     have BK142:=n0_
     have BK143:=n1_
     have HO152:=n2_
     have HB:=n3_
     have HO149:=n4_
     clear n0_ n1_ n2_ n3_ n4_
     clear ho hb hg hat
     refine hK.out _ _ ⟨(bC BK142.out 0).trans rfl,(bC BK142.out 1).trans rfl,(bC BK142.out 2).trans rfl⟩ (fun hHeld => ?_)
     clear hK K
     refine norm_ (a':=?_) ?_ ?_
     rotate_left
     ·show Act.put _ (some 6) _ = _
      simp only [Act.put,q_ia3,q_cz3,q_cs3,i64_w,i32_w]
      rfl
     refine pQ (i:=8) (N:=some 11) (v:=?_) (a':=?_) #[bT,bT,bT,bT,bT,bT,bT,bf,bT,bf,bf,bf] (any_of HT_.out (by kernel_rfl)) ?_ ?_ ?_
     rotate_left
     ·intro w';go_simp;with_reducible rfl
     rotate_left
     ·simp only [Act.put,q_ia3,q_cz3,q_cs3,i64_w,i32_w];rfl
     exact norm_ (by simp only [putAll,Act.put,q_ia3,q_cz3,q_cs3]) (hCont (v145,v148,v151) _ ⟨hHeld,(rZ HO149.out),(rZ HO152.out),(by (with_reducible repeat (first|refine bN ?_ _|refine bD ?_|refine bA ?_ _));exact BK142.out),(by (with_reducible repeat (first|refine bN ?_ _|refine bD ?_|refine bA ?_ _));exact BK143.out),(by repeat (first|(with_reducible first|exact HB.out|apply lA|apply lN|apply lD|refine lS ?_ GE142.out|refine lS ?_ GE143.out)|exact HB.out))⟩)
   rintro ⟨v145,v148,v151⟩ w12 ⟨hS_,h0_,h1_,h2_,h3_,h4_⟩
   have n0_ : Aside0 (Kd.R k53 53 w12 w.heap.size (fun _ => True) v148 y147):=⟨h0_⟩
   have n1_ : Aside0 (Kd.R k57 57 w12 w.heap.size (fun _ => True) v151 y150):=⟨h1_⟩
   have n2_ : Aside0 (w12.heap[gb142]? = some (.cells #[.slice A0_0 l0_0.length c0_0,.slice A0_1 l0_1.length c0_1,.string a0_2] 38 (0,0))):=⟨h2_⟩
   have n3_ : Aside0 (w12.heap[gb143]? = some (.cells #[.slice none 0 0,.slice none 0 0,.string (⟨#[]⟩ : ByteArray)] 38 (0,0))):=⟨h3_⟩
   have n4_ : Aside0 (Below w.heap.size w w12):=⟨h4_⟩
   clear BK142
   clear BK143
   clear HB
   clear h0_ h1_ h2_ h3_ h4_
   have HO149:=n0_
   have HO152:=n1_
   have BK142:=n2_
   have BK143:=n3_
   have HB:=n4_
   clear n0_ n1_ n2_ n3_ n4_
   have hHeld : w12.cell? ⟨gb142,0,none⟩ = some (.slice A0_0 l0_0.length c0_0) ∧ w12.cell? ⟨gb142,1,none⟩ = some (.slice A0_1 l0_1.length c0_1) ∧ w12.cell? ⟨gb142,2,none⟩ = some (.string a0_2):=hS_
   refine norm_ (a':=?_) ?_ ?_
   rotate_left
   ·simp only [putAll,Act.put,q_ia3,q_cz3,q_cs3];rfl
   refine one_ (i:=7) (N:=some 10) #[bT,bT,bT,bT,bT,bT,bT,bT,bT,bf,bf,bf] rfl rfl (one_of HT_.out (by kernel_rfl)) (by decide) (fun K hK => ?_)
   refine Kd.R_append_rows_step k57 (w0:=w) w.heap.size (by rfl) (.tmp 7) (.tmp 9) 36 57 (.agg #[(.string ⟨#[]⟩),(.string ⟨#[]⟩),(.string ⟨#[]⟩)]) 48 rfl Try.underlying36 info57 rfl (by decide) (by omega) v151 y150 l0_1 _ _ _ (fun _ => True) (fun _ => False) rfl rfl ?aO ?aR (fun _ _ h => h) (fun _ h => h.elim) ?aF ?aB ?aS ?aL ?_
   (case aR => repeat (first|exact (cB HR0_1.out HB.out)|(with_reducible first|refine cA ?_ _|refine cN ?_ _|refine cD ?_)))
   (case aB => exact (by repeat (first|(with_reducible first|exact HB.out|apply lA|apply lN|apply lD|refine lS ?_ GE142.out|refine lS ?_ GE143.out)|exact HB.out)))
   (case aF => exact (fun _ _ => trivial))
   (case aO => exact (rZ HO152.out))
   (case aS => exact (lZ (by repeat (first|(with_reducible first|exact HB.out|apply lA|apply lN|apply lD|refine lS ?_ GE142.out|refine lS ?_ GE143.out)|exact HB.out))))
   (case aL => have:=LMc3.out;omega)
   intro v154 w13 ho hb hg hat
   rw [← Ny153.out] at ho
   have n0_:=aM (blk_grown (g:=gb142) (o:=.cells #[.slice A0_0 l0_0.length c0_0,.slice A0_1 l0_1.length c0_1,.string a0_2] 38 (0,0)) (by (with_reducible repeat (first|refine bN ?_ _|refine bD ?_|refine bA ?_ _));exact BK142.out) hg (Kd.R_ne HO152.out BK142.out (by decide)))
   have n1_:=aM (blk_grown (g:=gb143) (o:=.cells #[.slice none 0 0,.slice none 0 0,.string (⟨#[]⟩ : ByteArray)] 38 (0,0)) (by (with_reducible repeat (first|refine bN ?_ _|refine bD ?_|refine bA ?_ _));exact BK143.out) hg (Kd.R_ne HO152.out BK143.out (by decide)))
   have n2_:=aM (Kd.R_over' (rZ HO149.out) (Kd.R_typed (rZ HO152.out)) (by decide) hg)
   have n3_:=aM (hb)
   have n4_:=aM (ho)
   clear BK142
   clear BK143
   clear HO149
   clear HB
   clear HO152
   have BK142:=n0_
   have BK143:=n1_
   have HO149:=n2_
   have HB:=n3_
   have HO155:=n4_
   clear n0_ n1_ n2_ n3_ n4_
   clear ho hb hg hat
   obtain ⟨Ao14,co14,eo14⟩:=Kd.R_slice HO149.out
   (first|subst eo14|(injection eo14 with f1_ f2_ f3_;have f4_:=f1_.symm;have f5_:=f3_.symm;clear f1_ f2_ f3_;subst f4_;subst f5_))
   obtain ⟨Ao16,co16,eo16⟩:=Kd.R_slice HO155.out
   (first|subst eo16|(injection eo16 with f1_ f2_ f3_;have f4_:=f1_.symm;have f5_:=f3_.symm;clear f1_ f2_ f3_;subst f4_;subst f5_))
   refine hK.out _ _ ⟨(bC BK142.out 0).trans rfl,(bC BK142.out 1).trans rfl,(bC BK142.out 2).trans rfl⟩ (fun hHeld => ?_)
   clear hK K
   refine norm_ (a':=?_) ?_ ?_
   rotate_left
   ·show Act.put _ (some 10) _ = _
    simp only [Act.put,q_ia3,q_cz3,q_cs3,i64_w,i32_w]
    rfl
   refine last_ (i:=9) (N:=none) #[bT,bT,bT,bT,bT,bT,bT,bT,bT,bT,bf,bf] rfl rfl (one_of HT_.out (by kernel_rfl)) (by decide) (fun K hK => ?_)
   have hs15 : w13.cell? ⟨gb142,0,none⟩ = some (.slice A0_0 l0_0.length c0_0):=(bC BK142.out 0).trans rfl
   have hfs15:=bF BK142.out 0
   have hns15_1:=NB143_142.out
   have hms15_1:=NB142_143.out
   refine skip_ (w1:=?_) (by rfl) rfl ?_ ?_
   rotate_left
   ·go_simp
    rfl
   refine hK.out _ _ ?_
   clear hK K
   refine pQ (i:=10) (N:=some 12) (v:=?_) (a':=?_) #[bT,bT,bT,bT,bT,bT,bT,bT,bT,bT,bT,bf] (any_of HT_.out (by kernel_rfl)) ?_ ?_ ?_
   rotate_left
   ·intro w';go_simp;with_reducible rfl
   rotate_left
   ·simp only [Act.put,q_ia3,q_cz3,q_cs3,i64_w,i32_w];rfl
   refine last_ (i:=11) (N:=none) #[bT,bT,bT,bT,bT,bT,bT,bT,bT,bT,bT,bT] rfl rfl (one_of HT_.out (by kernel_rfl)) (by decide) (fun K hK => ?_)
   have hs17 : w13.cell? ⟨gb142,1,none⟩ = some (.slice A0_1 l0_1.length c0_1):=(bC BK142.out 1).trans rfl
   have hfs17:=bF BK142.out 1
   have hns17_1:=NB143_142.out
   have hms17_1:=NB142_143.out
   refine skip_ (w1:=?_) (by rfl) rfl ?_ ?_
   rotate_left
   ·go_simp
    rfl
   refine hK.out _ _ ?_
   clear hK K
   refine done_ (done_of HT_.out (by kernel_rfl)) ?_
   have hnb18:=NB142_143.out
   have hnc18:=NB143_142.out
   obtain ⟨⟨hcz19_0,hcz19_1,hcz19_2⟩,hfz19_0,hfz19_1,hfz19_2⟩:=bC3 BK142.out
   obtain ⟨⟨hcz20_0,hcz20_1,hcz20_2⟩,hfz20_0,hfz20_1,hfz20_2⟩:=bC3 BK143.out
   try go_wp2
   refine bodyPost_ret (results_cell_row rfl _ _ gb143 38 #[.slice Ao14 y147.length co14,.slice Ao16 y153.length co16,.string a0_2] (0,0) _ rfl (by (with_reducible repeat (first|refine bN ?_ _|refine bD ?_|refine bA ?_ _));refine blk_put (cs:=#[.slice Ao14 y147.length co14,.slice Ao16 y153.length co16,.string (⟨#[]⟩ : ByteArray)]) ?_ 2 _ rfl;(with_reducible repeat (first|refine bN ?_ _|refine bD ?_|refine bA ?_ _));refine blk_put (cs:=#[.slice Ao14 y147.length co14,.slice none 0 0,.string (⟨#[]⟩ : ByteArray)]) ?_ 1 _ rfl;(with_reducible repeat (first|refine bN ?_ _|refine bD ?_|refine bA ?_ _));refine blk_put (cs:=#[.slice none 0 0,.slice none 0 0,.string (⟨#[]⟩ : ByteArray)]) ?_ 0 _ rfl;(with_reducible repeat (first|refine bN ?_ _|refine bD ?_|refine bA ?_ _));refine blk_far ?_ NB143_142.out _;(with_reducible repeat (first|refine bN ?_ _|refine bD ?_|refine bA ?_ _));refine blk_far ?_ NB143_142.out _;(with_reducible repeat (first|refine bN ?_ _|refine bD ?_|refine bA ?_ _));exact BK143.out) Try.underlying38 rfl (by kernel_rfl)) rfl ?_
   exact ⟨_,_,by first|rfl|(simp [errW_none,errW_some] <;> rfl)|(simp [*,errW_none,errW_some] <;> rfl),by (with_reducible repeat (first|apply rA|apply rN|apply rD));exact Kd.R_mono (rF (rF (rF (rF (rF (rY (rY HO149.out BK142.out (by decide)) BK143.out (by decide)) (fun _ hk => hk.1.2) _) (fun _ hk => hk.1.2) _) (fun _ hk => hk.2) _) (fun _ hk => hk.2) _) (fun _ hk => hk.2) _) (fun _ hk => trivial),by (with_reducible repeat (first|apply rA|apply rN|apply rD));exact Kd.R_mono (rF (rF (rF (rF (rF (rY (rY HO155.out BK142.out (by decide)) BK143.out (by decide)) (fun _ hk => hk.1.2) _) (fun _ hk => hk.1.2) _) (fun _ hk => hk.2) _) (fun _ hk => hk.2) _) (fun _ hk => hk.2) _) (fun _ hk => trivial),by repeat (first|(with_reducible first|exact HB.out|apply lA|apply lN|apply lD|refine lS ?_ GE142.out|refine lS ?_ GE143.out)|exact HB.out)⟩
  ·rw [if_neg c3] at H
   exact absurd H (by simp)
 ·rw [if_neg c2] at H
  exact absurd H (by simp)

/-! ### strings_Compare: function 85 -/
def strings_Compare.f (a0 : ByteArray) (a1 : ByteArray) : Option (Int):=some (Go.Lib.compareBytes a0.data.toList a1.data.toList)
theorem strings_Compare.calls (a0 : ByteArray) (a1 : ByteArray) (r : Int) (w : World) (h : strings_Compare.f a0 a1 = some r) :
  Calls Try.prog 85 #[.string a0,.string a1] w fun e w' => e = .returned (.int .i64 r) ∧ Drawn0 w w':=by
 obtain rfl:=Option.some.inj h
 refine (Try.strings_Compare a0 a1 w).mono ?_
 rintro e w' ⟨rfl,rfl⟩
 exact ⟨rfl,Drawn0.refl _⟩

/-! ### impl_byName: function 79 -/
def impl_byName.f (a0_0 : ByteArray) (a0_1 : ByteArray) (a1_0 : ByteArray) (a1_1 : ByteArray) : Option (Int):=(strings_Compare.f a0_0 a1_0).bind fun t158 => (some t158)
set_option maxHeartbeats 8000000 in
set_option maxRecDepth 100000 in
theorem impl_byName.calls (a0_0 : ByteArray) (a0_1 : ByteArray) (a1_0 : ByteArray) (a1_1 : ByteArray) (r : Int) (w : World) (h : impl_byName.f a0_0 a0_1 a1_0 a1_1 = some r) :
  Calls Try.prog 79 #[.agg #[.string a0_0,.string a0_1],.agg #[.string a1_0,.string a1_1]] w fun e w' => e = .returned (.int .i64 r) ∧ Below w.heap.size w w':=by
 have hu53:=Try.underlying53
 have HB:=aM (Below.refl w.heap.size w)
 have H : ((strings_Compare.f a0_0 a1_0).bind fun t158 => (some t158)) = some r:=h
 clear h
 replace H:=Option.bind_eq_some_iff.mp H
 obtain ⟨t158,A30,H⟩:=H
 replace H : (some t158) = some r:=H
 have A3:=aM A30
 clear A30
 obtain rfl:=Option.some.inj H
 go_enter Try.func79,Try.ntmps79
 go_wp2_with (first|((with_reducible refine gate_dst (N:=2) rfl ?_);refine box_event ?hg (N:=2) ?hd (cs:=#[.string a0_0,.string a0_1]) (t:=53) ?hr ?_;(case hd => rfl);(case hg => rfl);(case hr => first|(go_simp;done)|(go_simp;rfl));intro gb156 hg w4 hbox hb;have n0_:=aM (lQ HB.out hb);have n1_:=aM (hbox);have n2_:=aM ((sQ hg HB.out : w.heap.size ≤ gb156));have n3_:=n2_;clear HB;have HB:=n0_;have BK156:=n1_;have GW156:=n2_;have GE156:=n3_;clear n0_ n1_ n2_ n3_ hb hbox hg)|((with_reducible refine gate_dst (N:=3) rfl ?_);refine box_event ?hg (N:=3) ?hd (cs:=#[.string a1_0,.string a1_1]) (t:=53) ?hr ?_;(case hd => rfl);(case hg => rfl);(case hr => first|(go_simp;done)|(go_simp;rfl));intro gb157 hg w5 hbox hb;have n0_:=aM (bH BK156.out hb);have n1_:=aM (lQ HB.out hb);have n2_:=aM (hbox);have n3_:=aM ((sQ hg HB.out : w.heap.size ≤ gb157));have n4_:=n3_;have n5_:=aM ((nL hg BK156.out : gb156 ≠ gb157));have n6_:=aM ((nG hg BK156.out : gb157 ≠ gb156));clear BK156 HB;have BK156:=n0_;have HB:=n1_;have BK157:=n2_;have GW157:=n3_;have GE157:=n4_;have NB156_157:=n5_;have NB157_156:=n6_;clear n0_ n1_ n2_ n3_ n4_ n5_ n6_ hb hbox hg;have hnb6:=NB156_157.out;have hnc6:=NB157_156.out;have hcz7_0 : w5.cell? ⟨gb156,0,none⟩ = some (.string a0_0):=(bC BK156.out 0).trans rfl;have hcz7_1 : w5.cell? ⟨gb156,1,none⟩ = some (.string a0_1):=(bC BK156.out 1).trans rfl;have hfz7_0:=bF BK156.out 0;have hfz7_1:=bF BK156.out 1;have hcz8_0 : w5.cell? ⟨gb157,0,none⟩ = some (.string a1_0):=(bC BK157.out 0).trans rfl;have hcz8_1 : w5.cell? ⟨gb157,1,none⟩ = some (.string a1_1):=(bC BK157.out 1).trans rfl;have hfz8_0:=bF BK157.out 0;have hfz8_1:=bF BK157.out 1)|((with_reducible refine gate_callee (f:=85) rfl ?_);refine goesL_ (some 9) rfl rfl Try.func85 (by kernel_rfl) rfl #[.string a0_0,.string a1_0] rfl (by (try simp only [List.map_toArray,List.map_cons,List.map_nil]);first|done|rfl|(simp only [List.length_drop,List.length_take];rfl)) ?_;(with_reducible refine (strings_Compare.calls a0_0 a1_0 t158 _ A3.out).mono ?_);rintro e w' ⟨rfl,⟨nd,rfl⟩⟩;refine ⟨_,rfl,?_⟩))
 go_ret
 exact ⟨by first|rfl|(simp [errW_none,errW_some] <;> rfl)|(simp [*,errW_none,errW_some] <;> rfl),by repeat (first|(with_reducible first|exact HB.out|apply lA|apply lN|apply lD|refine lS ?_ GE156.out|refine lS ?_ GE157.out)|exact HB.out)⟩

/-! ### impl_Var: function 78 -/
mutual
def impl_Var.l0 : Nat → List (S53) → Int → List (S53) → List (S53) → Int → Int → ByteArray → ByteArray → Option ((List (S53)))
 |0,_,_,_,_,_,_,_,_ => none
 |k + 1,x0,x3,x9,x18,x19,x20,x160000,x160001 => if x20 < x19 then (if 0 ≤ x20 then (if x20 < (x18.length : Int) then ((impl_byName.f ((rd_T53 x18 x20).f0) ((rd_T53 x18 x20).f1) x160000 x160001).bind fun t165 => (if t165 < 0 then (if x9.length < 4398046511104 then (impl_Var.l0 k x0 x3 (x9 ++ [(⟨(rd_T53 x18 x20).f0,(rd_T53 x18 x20).f1⟩ : S53)]) x18 x19 (wrap64 (x20 + 1)) x160000 x160001) else (none)) else (impl_Var.l0 k x0 x3 x9 x18 x19 (wrap64 (x20 + 1)) x160000 x160001))) else (none)) else (none)) else (if x9.length < 4398046511104 then (impl_Var.l1 k x0 x3 (x9 ++ [(⟨x160000,x160001⟩ : S53)]) x0 (x0.length : Int) 0 x160000 x160001) else (none))
def impl_Var.l1 : Nat → List (S53) → Int → List (S53) → List (S53) → Int → Int → ByteArray → ByteArray → Option ((List (S53)))
 |0,_,_,_,_,_,_,_,_ => none
 |k + 1,x0,x3,x9,x38,x39,x40,x160000,x160001 => if x40 < x39 then (if 0 ≤ x40 then (if x40 < (x38.length : Int) then ((impl_byName.f ((rd_T53 x38 x40).f0) ((rd_T53 x38 x40).f1) x160000 x160001).bind fun t174 => (if t174 > 0 then (if x9.length < 4398046511104 then (impl_Var.l1 k x0 x3 (x9 ++ [(⟨(rd_T53 x38 x40).f0,(rd_T53 x38 x40).f1⟩ : S53)]) x38 x39 (wrap64 (x40 + 1)) x160000 x160001) else (none)) else (impl_Var.l1 k x0 x3 x9 x38 x39 (wrap64 (x40 + 1)) x160000 x160001))) else (none)) else (none)) else (if (x9.length : Int) > x3 then (some x0) else (some x9))
end
def impl_Var.f (k : Nat) (l0 : List (S53)) (a1_0 : ByteArray) (a1_1 : ByteArray) (a2 : Bool) (a3 : Int) : Option ((List (S53))):=if 0 ≤ (wrap64 ((l0.length : Int) + 1)) then (if (wrap64 ((l0.length : Int) + 1) : Int).toNat ≤ 8796093022208 then (impl_Var.l0 k l0 a3 (([] : List (S53))) l0 (l0.length : Int) 0 a1_0 a1_1) else (none)) else (none)
theorem impl_Var.mono_l : ∀ k,(∀ y0 y1 y2 y3 y4 y5 y6 y7,LeO (impl_Var.l0 k y0 y1 y2 y3 y4 y5 y6 y7) (impl_Var.l0 (k + 1) y0 y1 y2 y3 y4 y5 y6 y7)) ∧ (∀ y0 y1 y2 y3 y4 y5 y6 y7,LeO (impl_Var.l1 k y0 y1 y2 y3 y4 y5 y6 y7) (impl_Var.l1 (k + 1) y0 y1 y2 y3 y4 y5 y6 y7))
 |0 => ⟨fun _ _ _ _ _ _ _ _ r h => by simp [impl_Var.l0] at h,fun _ _ _ _ _ _ _ _ r h => by simp [impl_Var.l1] at h⟩
 |k + 1 => by
  obtain ⟨ih0,ih1⟩:=impl_Var.mono_l k
  refine ⟨?_,?_⟩
  ·intro y0 y1 y2 y3 y4 y5 y6 y7
   unfold impl_Var.l0
   repeat' first
   |(with_reducible exact ih0 _ _ _ _ _ _ _ _)
   |(with_reducible exact ih1 _ _ _ _ _ _ _ _)
   |(with_reducible exact LeO.refl _)
   |(with_reducible exact LeO.none _)
   |(with_reducible refine LeO.ite ?_ ?_)
   |(with_reducible refine LeO.bind ?_ (fun _ => ?_))
   |exact ih0 _ _ _ _ _ _ _ _
   |exact ih1 _ _ _ _ _ _ _ _
   |exact LeO.none _
   |refine LeO.ite ?_ ?_
   |refine LeO.bind ?_ (fun _ => ?_)
  ·intro y0 y1 y2 y3 y4 y5 y6 y7
   unfold impl_Var.l1
   repeat' first
   |(with_reducible exact ih0 _ _ _ _ _ _ _ _)
   |(with_reducible exact ih1 _ _ _ _ _ _ _ _)
   |(with_reducible exact LeO.refl _)
   |(with_reducible exact LeO.none _)
   |(with_reducible refine LeO.ite ?_ ?_)
   |(with_reducible refine LeO.bind ?_ (fun _ => ?_))
   |exact ih0 _ _ _ _ _ _ _ _
   |exact ih1 _ _ _ _ _ _ _ _
   |exact LeO.none _
   |refine LeO.ite ?_ ?_
   |refine LeO.bind ?_ (fun _ => ?_)
theorem impl_Var.mono : ∀ a0 a1 a2 a3 a4 k,LeO (impl_Var.f k a0 a1 a2 a3 a4) (impl_Var.f (k + 1) a0 a1 a2 a3 a4):=by
 intro a0 a1 a2 a3 a4 k
 obtain ⟨ih0,ih1⟩:=impl_Var.mono_l k
 unfold impl_Var.f
 repeat' first
   |(with_reducible exact ih0 _ _ _ _ _ _ _ _)
   |(with_reducible exact ih1 _ _ _ _ _ _ _ _)
   |(with_reducible exact LeO.refl _)
   |(with_reducible exact LeO.none _)
   |(with_reducible refine LeO.ite ?_ ?_)
   |(with_reducible refine LeO.bind ?_ (fun _ => ?_))
   |exact ih0 _ _ _ _ _ _ _ _
   |exact ih1 _ _ _ _ _ _ _ _
   |exact LeO.none _
   |refine LeO.ite ?_ ?_
   |refine LeO.bind ?_ (fun _ => ?_)
set_option maxHeartbeats 8000000 in
set_option maxRecDepth 100000 in
theorem impl_Var.calls (k : Nat) (P0_ : Nat → Prop) (u9000_ : Value) (l0 : List (S53)) (a1_0 : ByteArray) (a1_1 : ByteArray) (a2 : Bool) (a3 : Int) (r : List (S53)) (w0 w : World) (hB : Below w0.heap.size w0 w) (ho0 : Kd.R k53 53 w w0.heap.size P0_ u9000_ l0) (h : impl_Var.f k l0 a1_0 a1_1 a2 a3 = some r) :
  Calls Try.prog 78 #[u9000_,.agg #[.string a1_0,.string a1_1],(.func (.func 79) #[] #[]),.int .i64 a3] w fun e w' => ∃ v0_ : Value,e = .returned (v0_) ∧ Kd.R k53 53 w' w0.heap.size (fun k_ => (P0_ k_ ∨ w.heap.size ≤ k_)) v0_ r ∧ Below w0.heap.size w0 w' ∧ Kept w w' (fun k_ => P0_ k_):=by
 have hu53:=Try.underlying53
 have HO0:=aM (show Kd.R k53 53 w w0.heap.size (fun k_ => (P0_ k_ ∨ w.heap.size ≤ k_)) u9000_ l0 from Kd.R_mono ho0 (fun k_ hk => (.inl hk)))
 have HK:=aM (Kept.refl w (fun k_ => P0_ k_))
 have HW0:=aM hB.size
 have HB:=aM hB
 clear hB
 have H : (if 0 ≤ (wrap64 ((l0.length : Int) + 1)) then (if (wrap64 ((l0.length : Int) + 1) : Int).toNat ≤ 8796093022208 then (impl_Var.l0 k l0 a3 (([] : List (S53))) l0 (l0.length : Int) 0 a1_0 a1_1) else (none)) else (none)) = some r:=h
 clear h
 obtain ⟨ji5,hji5⟩ : ∃ j_ : Int,(wrap64 ((l0.length : Int) + 1)) = j_:=⟨_,rfl⟩
 replace H : (if 0 ≤ (ji5) then (if (ji5 : Int).toNat ≤ 8796093022208 then (impl_Var.l0 k l0 a3 (([] : List (S53))) l0 (l0.length : Int) 0 a1_0 a1_1) else (none)) else (none)) = some r:=by first|(rw [hji5] at H;exact H)|(simp only [hji5] at H ⊢;exact H)
 have hji5w : (IntKind.i64.wrap ((l0.length : Int) + 1)) = ji5:=(i64_w _).trans hji5
 by_cases c6 : 0 ≤ (ji5)
 ·rw [if_pos c6] at H
  have c6b0:=eq_true c6
  have c6b1 : decide (0 ≤ (ji5)) = true:=decide_eq_true c6
  clear c6
  by_cases c7 : (ji5 : Int).toNat ≤ 8796093022208
  ·rw [if_pos c7] at H
   have c7b0:=eq_true c7
   have c7b1 : decide ((ji5 : Int).toNat ≤ 8796093022208) = true:=decide_eq_true c7
   clear c7
   obtain ⟨y160,hy160⟩ : ∃ y_ : List (S53),y_ = (([] : List (S53))):=⟨_,rfl⟩
   replace H : (impl_Var.l0 k l0 a3 y160 l0 (l0.length : Int) 0 a1_0 a1_1) = some r:=by first|(rw [hy160];with_reducible exact H)|(have H2_:=(Option.bind_some _ _).symm.trans H;rw [hy160];with_reducible exact H2_)|(have H2_:=(Option.bind_some _ _).symm.trans H;with_reducible exact H2_)|with_reducible exact H|(rw [hy160];exact H)|exact H
   have Ny160:=aM hy160
   clear hy160
   have H':=aM H
   clear H
   go_enter Try.func78,Try.ntmps78
   go_wp2_with (first|((with_reducible refine gate_dst (N:=5) rfl ?_);refine box_event ?hg (N:=5) ?hd (cs:=#[.string a1_0,.string a1_1]) (t:=53) ?hr ?_;(case hd => rfl);(case hg => rfl);(case hr => first|(go_simp;done)|(go_simp;rfl));intro gb159 hg w8 hbox hb;have n0_:=aM (rB (Kd.R_elderB (rZ HO0.out) gb159 (Nat.le_of_eq hg.symm)) hb);have n1_:=aM (Kept.below (S:=(fun k_ => P0_ k_)) (by repeat (first|(with_reducible first|exact HK.out|apply Kept.alloc|apply Kept.drewN|apply Kept.drew)|exact HK.out)) hb);have n2_:=aM (lQ HB.out hb);have n3_:=aM (hbox);have n4_:=aM ((by rw [hg];exact (by first|exact HK.out.1|exact (show Kept w _ (fun k_ => P0_ k_) from by repeat (first|(with_reducible first|exact HK.out|apply Kept.alloc|apply Kept.drewN|apply Kept.drew)|exact HK.out)).1) : w.heap.size ≤ gb159));have n5_:=aM ((sQ hg HB.out : w0.heap.size ≤ gb159));clear HO0 HK HB;have HO0:=n0_;have HK:=n1_;have HB:=n2_;have BK159:=n3_;have GW159:=n4_;have GE159:=n5_;clear n0_ n1_ n2_ n3_ n4_ n5_ hb hbox hg;obtain ⟨Ao9,co9,eo9⟩:=Kd.R_slice HO0.out;subst eo9)|((with_reducible refine gate_dst (N:=17) rfl ?_);refine Kd.R_make0 k53 _ 53 rfl (N:=17) rfl 35 _ _ rfl ji5 rfl rfl Try.underlying35 (.agg #[(.string ⟨#[]⟩),(.string ⟨#[]⟩)]) 32 info53 rfl (by decide) (by omega) z53 (ok:=fun _ => True) (okp:=fun _ => True) (k53_mkM _ _ _ z53 ) (fun _ hk => hk) trivial (of_decide_eq_true (by first|(with_reducible assumption)|assumption)) (Nat.le_trans (Nat.mul_le_mul_right _ (of_decide_eq_true (by first|(with_reducible assumption)|assumption) : ji5.toNat ≤ 8796093022208)) (by omega)) (Below.refl _ _) (Nat.le_refl _) ?_;intro v161 w10 ho11 hb hg_ hnew_;clear hg_ hnew_;(first|rw [← Ny160.out] at ho11|(simp only [Int.reduceToNat] at ho11;rw [← Ny160.out] at ho11));have n0_:=aM (rE (rZ HO0.out) (rS ho11) hb);have n1_:=aM (rL (Kd.R_newB (rW (Kd.R_newM (M:=fun k_ => (P0_ k_ ∨ w.heap.size ≤ k_)) ho11 (by first|exact HK.out.1|exact (show Kept w _ (fun k_ => P0_ k_) from by repeat (first|(with_reducible first|exact HK.out|apply Kept.alloc|apply Kept.drewN|apply Kept.drew|refine Kept.setCell ?_ (.inr GW159.out) _)|exact HK.out)).1) (fun k_ h_ => .inr h_)) (rT (rZ HO0.out))) (g:=gb159) (o:=.cells #[.string a1_0,.string a1_1] 53 (0,0)) (by (with_reducible repeat (first|refine bN ?_ _|refine bD ?_|refine bA ?_ _));exact BK159.out)) (lZ (by repeat (first|(with_reducible first|exact HB.out|apply lA|apply lN|apply lD|refine lS ?_ GE159.out)|exact HB.out))));have n2_:=aM (bH BK159.out hb);have n3_:=aM (Kept.below (S:=(fun k_ => P0_ k_)) (by repeat (first|(with_reducible first|exact HK.out|apply Kept.alloc|apply Kept.drewN|apply Kept.drew|refine Kept.setCell ?_ (.inr GW159.out) _)|exact HK.out)) hb);have n4_:=aM (lQ HB.out hb);clear HO0 BK159 HK HB;have HO0:=n0_;have HO162:=n1_;have BK159:=n2_;have HK:=n3_;have HB:=n4_;clear n0_ n1_ n2_ n3_ n4_ hb ho11))
   go_loopg [9,20] k (fun kq v9 v20 w' => ∃ (x9_1 : List (S53)) (x20_1 : Int),v20 = .int .i64 x20_1 ∧ Aside0 (impl_Var.l0 kq l0 a3 x9_1 l0 (l0.length : Int) x20_1 a1_0 a1_1 = some r) ∧ Aside0 (kq ≤ k) ∧ Aside0 (Kd.R k53 53 w' w0.heap.size (fun k_ => (P0_ k_ ∨ w.heap.size ≤ k_) ∧ some k_ ≠ (v9 : Value).ownBlock ∧ k_ ≠ gb159) (.slice Ao9 l0.length co9) l0) ∧ Aside0 (Kd.R k53 53 w' w0.heap.size (fun k_ => (P0_ k_ ∨ w.heap.size ≤ k_) ∧ some k_ ≠ ((.slice Ao9 l0.length co9) : Value).ownBlock ∧ some k_ ≠ ((.slice Ao9 l0.length co9) : Value).ownBlock ∧ k_ ≠ gb159) v9 x9_1) ∧ Aside0 (Kd.R k53 53 w' w0.heap.size (fun k_ => (P0_ k_ ∨ w.heap.size ≤ k_) ∧ some k_ ≠ (v9 : Value).ownBlock ∧ k_ ≠ gb159) (.slice Ao9 l0.length co9) l0) ∧ Aside0 (w'.heap[gb159]? = some (.cells #[.string a1_0,.string a1_1] 53 (0,0))) ∧ Aside0 (Kept w w' (fun k_ => P0_ k_)) ∧ Aside0 (Below w0.heap.size w0 w'))
   case atStart => exact ⟨(y160),(0),(by first|rfl|(simp;done)|(simp [*];done)),H',⟨Nat.le_refl _⟩,⟨by (with_reducible repeat (first|apply rA|apply rN|apply rD));exact Kd.R_mono HO0.out (fun _ hk => ⟨hk.1.1,⟨hk.2,hk.1.2⟩⟩)⟩,⟨by (with_reducible repeat (first|apply rA|apply rN|apply rD));exact Kd.R_mono HO162.out (fun _ hk => ⟨hk.1.1.1,⟨hk.1.2,⟨hk.1.2,hk.2⟩⟩⟩)⟩,⟨by (with_reducible repeat (first|apply rA|apply rN|apply rD));exact Kd.R_mono HO0.out (fun _ hk => ⟨hk.1.1,⟨hk.2,hk.1.2⟩⟩)⟩,⟨by (with_reducible repeat (first|refine bN ?_ _|refine bD ?_|refine bA ?_ _));exact BK159.out⟩,⟨by repeat (first|(with_reducible first|exact HK.out|apply Kept.alloc|apply Kept.drewN|apply Kept.drew|refine Kept.setCell ?_ (.inr GW159.out) _)|exact HK.out)⟩,⟨by repeat (first|(with_reducible first|exact HB.out|apply lA|apply lN|apply lD|refine lS ?_ GE159.out)|exact HB.out)⟩⟩
   case round =>
    clear H'
    try clear p2
    try clear c6
    try clear c6b0
    try clear c6b1
    try clear p6
    try clear c7
    try clear c7b0
    try clear c7b1
    obtain ⟨x9_1,x20_1,rfl,HA,HK1,HO_0,HO_9,HO_18,BK159,HK,HB⟩:=hrel
    cases gk with
    |zero => exact absurd HA.out (by simp [impl_Var.l0])
    |succ k1 =>
     have H:=HA.out
     clear HA
     simp only [impl_Var.l0] at H
     by_cases c12 : x20_1 < (l0.length : Int)
     ·rw [if_pos c12] at H
      have c12b0 : decide (x20_1 < (l0.length : Int)) = true:=decide_eq_true c12
      clear c12
      by_cases c13 : 0 ≤ x20_1
      ·rw [if_pos c13] at H
       have c13b0 : decide (0 ≤ x20_1) = true:=decide_eq_true c13
       clear c13
       by_cases c14 : x20_1 < (l0.length : Int)
       ·rw [if_pos c14] at H
        have c14b0 : decide (x20_1 < (l0.length : Int)) = true:=decide_eq_true c14
        clear c14
        replace H:=Option.bind_eq_some_iff.mp H
        obtain ⟨t165,A150,H⟩:=H
        replace H : (if t165 < 0 then (if x9_1.length < 4398046511104 then (impl_Var.l0 k1 l0 a3 (x9_1 ++ [(⟨(rd_T53 l0 x20_1).f0,(rd_T53 l0 x20_1).f1⟩ : S53)]) l0 (l0.length : Int) (wrap64 (x20_1 + 1)) a1_0 a1_1) else (none)) else (impl_Var.l0 k1 l0 a3 x9_1 l0 (l0.length : Int) (wrap64 (x20_1 + 1)) a1_0 a1_1)) = some r:=H
        have A15:=aM A150
        clear A150
        by_cases c16 : t165 < 0
        ·rw [if_pos c16] at H
         have c16b0 : decide (t165 < 0) = true:=decide_eq_true c16
         clear c16
         by_cases c17 : x9_1.length < 4398046511104
         ·rw [if_pos c17] at H
          have LMc17:=aM c17
          clear c17
          obtain ⟨y166,hy166⟩ : ∃ y_ : List (S53),y_ = (x9_1 ++ [(⟨(rd_T53 l0 x20_1).f0,(rd_T53 l0 x20_1).f1⟩ : S53)]):=⟨_,rfl⟩
          replace H : (impl_Var.l0 k1 l0 a3 y166 l0 (l0.length : Int) (wrap64 (x20_1 + 1)) a1_0 a1_1) = some r:=by first|(rw [hy166];with_reducible exact H)|(have H2_:=(Option.bind_some _ _).symm.trans H;rw [hy166];with_reducible exact H2_)|(have H2_:=(Option.bind_some _ _).symm.trans H;with_reducible exact H2_)|with_reducible exact H|(rw [hy166];exact H)|exact H
          have Ny166:=aM hy166
          clear hy166
          have H':=aM H
          clear H
          have p163 : 0 ≤ (x20_1 : Int):=of_decide_eq_true (by first|(with_reducible assumption)|assumption)
          have q163 : x20_1 < (l0.length : Int):=of_decide_eq_true (by first|(with_reducible assumption)|assumption)
          obtain ⟨ad163,e163,hx163_0,hx163_1⟩:=at_T53 (rR HO_18.out).2.2 x20_1 p163 q163
          cases e163
          replace p163:=eq_true p163
          replace q163:=eq_true q163
          go_wp2_with (first|((with_reducible refine gate_dst (N:=11) rfl ?_);refine box_event ?hg (N:=11) ?hd (cs:=#[.string (⟨#[]⟩ : ByteArray),.string (⟨#[]⟩ : ByteArray)]) (t:=53) ?hr ?_;(case hd => rfl);(case hg => rfl);(case hr => first|(go_simp;done)|(go_simp;rfl));intro gb164 hg w18 hbox hb;have n0_:=aM (rB (Kd.R_elderB (rZ HO_0.out) gb164 (Nat.le_of_eq hg.symm)) hb);have n1_:=aM (rB (Kd.R_elderB (rZ HO_9.out) gb164 (Nat.le_of_eq hg.symm)) hb);have n2_:=aM (rB (Kd.R_elderB (rZ HO_18.out) gb164 (Nat.le_of_eq hg.symm)) hb);have n3_:=aM (bH BK159.out hb);have n4_:=aM (Kept.below (S:=(fun k_ => P0_ k_)) (by repeat (first|(with_reducible first|exact HK.out|apply Kept.alloc|apply Kept.drewN|apply Kept.drew|refine Kept.setCell ?_ (.inr GW159.out) _)|exact HK.out)) hb);have n5_:=aM (lQ HB.out hb);have n6_:=aM (hbox);have n7_:=aM ((by rw [hg];exact (by first|exact HK.out.1|exact (show Kept w _ (fun k_ => P0_ k_) from by repeat (first|(with_reducible first|exact HK.out|apply Kept.alloc|apply Kept.drewN|apply Kept.drew|refine Kept.setCell ?_ (.inr GW159.out) _)|exact HK.out)).1) : w.heap.size ≤ gb164));have n8_:=aM ((sQ hg HB.out : w0.heap.size ≤ gb164));have n9_:=aM ((nL hg BK159.out : gb159 ≠ gb164));have n10_:=aM ((nG hg BK159.out : gb164 ≠ gb159));clear HO_0 HO_9 HO_18 BK159 HK HB;have HO_0:=n0_;have HO_9:=n1_;have HO_18:=n2_;have BK159:=n3_;have HK:=n4_;have HB:=n5_;have BK164:=n6_;have GW164:=n7_;have GE164:=n8_;have NB159_164:=n9_;have NB164_159:=n10_;clear n0_ n1_ n2_ n3_ n4_ n5_ n6_ n7_ n8_ n9_ n10_ hb hbox hg;have hnb19:=NB164_159.out;have hnc19:=NB159_164.out;have hcz20_0 : w18.cell? ⟨gb164,0,none⟩ = some (.string (⟨#[]⟩ : ByteArray)):=(bC BK164.out 0).trans rfl;have hcz20_1 : w18.cell? ⟨gb164,1,none⟩ = some (.string (⟨#[]⟩ : ByteArray)):=(bC BK164.out 1).trans rfl;have hfz20_0:=bF BK164.out 0;have hfz20_1:=bF BK164.out 1;have hcz21_0 : w18.cell? ⟨gb159,0,none⟩ = some (.string a1_0):=(bC BK159.out 0).trans rfl;have hcz21_1 : w18.cell? ⟨gb159,1,none⟩ = some (.string a1_1):=(bC BK159.out 1).trans rfl;have hfz21_0:=bF BK159.out 0;have hfz21_1:=bF BK159.out 1)|(go_at_call 79;(with_reducible refine (impl_byName.calls ((rd_T53 l0 x20_1).f0) ((rd_T53 l0 x20_1).f1) a1_0 a1_1 t165 _ A15.out).mono ?_);rintro e w22 ⟨rfl,hb⟩;have n0_:=aM (rB (by (with_reducible repeat (first|apply rA|apply rN|apply rD));exact (Kd.R_mono (rF (rF (Kd.R_mono HO_0.out (fun k_ hk => (⟨hk,hk.2⟩ : _ ∧ k_ ≠ gb164))) (fun _ hk => hk.2) _) (fun _ hk => hk.2) _) (fun _ h_ => h_.1))) hb);have n1_:=aM (rB (by (with_reducible repeat (first|apply rA|apply rN|apply rD));exact (Kd.R_mono (rF (rF (Kd.R_mono HO_9.out (fun k_ hk => (⟨hk,hk.2⟩ : _ ∧ k_ ≠ gb164))) (fun _ hk => hk.2) _) (fun _ hk => hk.2) _) (fun _ h_ => h_.1))) hb);have n2_:=aM (rB (by (with_reducible repeat (first|apply rA|apply rN|apply rD));exact (Kd.R_mono (rF (rF (Kd.R_mono HO_18.out (fun k_ hk => (⟨hk,hk.2⟩ : _ ∧ k_ ≠ gb164))) (fun _ hk => hk.2) _) (fun _ hk => hk.2) _) (fun _ h_ => h_.1))) hb);have n3_:=aM (bB (g:=gb159) (o:=.cells #[.string a1_0,.string a1_1] 53 (0,0)) (by (with_reducible repeat (first|refine bN ?_ _|refine bD ?_|refine bA ?_ _));refine blk_far ?_ NB159_164.out _;(with_reducible repeat (first|refine bN ?_ _|refine bD ?_|refine bA ?_ _));refine blk_far ?_ NB159_164.out _;(with_reducible repeat (first|refine bN ?_ _|refine bD ?_|refine bA ?_ _));exact BK159.out) hb);have n4_:=aM (bB (g:=gb164) (o:=.cells #[.string ((rd_T53 l0 x20_1).f0),.string ((rd_T53 l0 x20_1).f1)] 53 (0,0)) (by (with_reducible repeat (first|refine bN ?_ _|refine bD ?_|refine bA ?_ _));refine blk_put (cs:=#[.string ((rd_T53 l0 x20_1).f0),.string (⟨#[]⟩ : ByteArray)]) ?_ 1 _ rfl;(with_reducible repeat (first|refine bN ?_ _|refine bD ?_|refine bA ?_ _));refine blk_put (cs:=#[.string (⟨#[]⟩ : ByteArray),.string (⟨#[]⟩ : ByteArray)]) ?_ 0 _ rfl;(with_reducible repeat (first|refine bN ?_ _|refine bD ?_|refine bA ?_ _));exact BK164.out) hb);have n5_:=aM (Kept.below (S:=(fun k_ => P0_ k_)) (by repeat (first|(with_reducible first|exact HK.out|apply Kept.alloc|apply Kept.drewN|apply Kept.drew|refine Kept.setCell ?_ (.inr GW159.out) _|refine Kept.setCell ?_ (.inr GW164.out) _)|exact HK.out)) hb);have n6_:=aM (lQ HB.out hb);clear HO_0 HO_9 HO_18 BK159 BK164 HK HB;have HO_0:=n0_;have HO_9:=n1_;have HO_18:=n2_;have BK159:=n3_;have BK164:=n4_;have HK:=n5_;have HB:=n6_;clear n0_ n1_ n2_ n3_ n4_ n5_ n6_;(try clear hb);(try clear hb2);(try clear hk);(try clear hi);have hcz23_0 : w22.cell? ⟨gb164,0,none⟩ = some (.string ((rd_T53 l0 x20_1).f0)):=(bC BK164.out 0).trans rfl;have hcz23_1 : w22.cell? ⟨gb164,1,none⟩ = some (.string ((rd_T53 l0 x20_1).f1)):=(bC BK164.out 1).trans rfl;have hfz23_0:=bF BK164.out 0;have hfz23_1:=bF BK164.out 1)|((with_reducible refine gate_builtin (b:=.append) (xs:=#[.tmp 29,.tmp 31]) rfl ?_);at_builtin;refine Kd.R_append k53 (w0:=w0) w0.heap.size rfl (.tmp 29) (.tmp 31) 35 53 (.agg #[(.string ⟨#[]⟩),(.string ⟨#[]⟩)]) 32 rfl Try.underlying35 info53 rfl (by decide) (by omega) u9 x9_1 (⟨(rd_T53 l0 x20_1).f0,(rd_T53 l0 x20_1).f1⟩ : S53) [.string ((rd_T53 l0 x20_1).f0),.string ((rd_T53 l0 x20_1).f1)] (fun k_ => (P0_ k_ ∨ w.heap.size ≤ k_) ∧ some k_ ≠ (.slice (some ad163) l0.length co9 : Value).ownBlock ∧ some k_ ≠ (.slice (some ad163) l0.length co9 : Value).ownBlock ∧ k_ ≠ gb159 ∧ k_ ≠ gb164) (fun _ => False) rfl rfl ?aP (fun _ hk => hk.elim) ?aF ?aO ?aB ?aS ?aL ?_;(case aP => exact k53_mkM _ _ _ (⟨(rd_T53 l0 x20_1).f0,(rd_T53 l0 x20_1).f1⟩ : S53));(case aB => exact (by repeat (first|(with_reducible first|exact HB.out|apply lA|apply lN|apply lD|refine lS ?_ GE159.out|refine lS ?_ GE164.out)|exact HB.out)));(case aF => exact (fun k_ hk => ⟨(.inr (Nat.le_trans (by first|exact HK.out.1|exact (show Kept w _ (fun k_ => P0_ k_) from by repeat (first|(with_reducible first|exact HK.out|apply Kept.alloc|apply Kept.drewN|apply Kept.drew|refine Kept.setCell ?_ (.inr GW159.out) _|refine Kept.setCell ?_ (.inr GW164.out) _)|exact HK.out)).1) hk)),Kd.fresh' (rT (rZ HO_0.out)) k_ hk,Kd.fresh' (rT (rZ HO_18.out)) k_ hk,Kd.freshB (g:=gb159) (o:=.cells #[.string a1_0,.string a1_1] 53 (0,0)) (by (with_reducible repeat (first|refine bN ?_ _|refine bD ?_|refine bA ?_ _));exact BK159.out) k_ hk,Kd.freshB (g:=gb164) (o:=.cells #[.string ((rd_T53 l0 x20_1).f0),.string ((rd_T53 l0 x20_1).f1)] 53 (0,0)) (by (with_reducible repeat (first|refine bN ?_ _|refine bD ?_|refine bA ?_ _));exact BK164.out) k_ hk⟩));(case aO => exact (by (with_reducible repeat (first|apply rA|apply rN|apply rD));exact Kd.R_mono HO_9.out (fun _ hk => ⟨hk.1.1,⟨hk.1.2.1,⟨hk.1.2.2.1,⟨hk.1.2.2.2,hk.2⟩⟩⟩⟩)));(case aS => exact (lZ (by repeat (first|(with_reducible first|exact HB.out|apply lA|apply lN|apply lD|refine lS ?_ GE159.out|refine lS ?_ GE164.out)|exact HB.out))));(case aL => have:=LMc17.out;omega);intro v167 w24 ho hb hg hat;rw [← Ny166.out] at ho;have n0_:=aM (Kd.R_after (ok:=(fun k_ => (P0_ k_ ∨ w.heap.size ≤ k_) ∧ k_ ≠ gb159 ∧ k_ ≠ gb164)) (by (with_reducible repeat (first|apply rA|apply rN|apply rD));exact Kd.R_mono HO_0.out (fun _ hk => ⟨⟨hk.1.1,⟨hk.1.2.2,hk.2⟩⟩,hk.1.2.1⟩)) hg hat);have n1_:=aM (Kd.R_after (ok:=(fun k_ => (P0_ k_ ∨ w.heap.size ≤ k_) ∧ k_ ≠ gb159 ∧ k_ ≠ gb164)) (by (with_reducible repeat (first|apply rA|apply rN|apply rD));exact Kd.R_mono HO_18.out (fun _ hk => ⟨⟨hk.1.1,⟨hk.1.2.2,hk.2⟩⟩,hk.1.2.1⟩)) hg hat);have n2_:=aM (blk_grown (g:=gb159) (o:=.cells #[.string a1_0,.string a1_1] 53 (0,0)) (by (with_reducible repeat (first|refine bN ?_ _|refine bD ?_|refine bA ?_ _));exact BK159.out) hg (Kd.R_away HO_9.out (fun _ hk => hk.1.2.2.2)));have n3_:=aM (blk_grown (g:=gb164) (o:=.cells #[.string ((rd_T53 l0 x20_1).f0),.string ((rd_T53 l0 x20_1).f1)] 53 (0,0)) (by (with_reducible repeat (first|refine bN ?_ _|refine bD ?_|refine bA ?_ _));exact BK164.out) hg (Kd.R_away HO_9.out (fun _ hk => hk.2)));have n4_:=aM (hb);have n5_:=aM (Kept.of_grown (S:=(fun k_ => P0_ k_)) hg (by repeat (first|(with_reducible first|exact HK.out|apply Kept.alloc|apply Kept.drewN|apply Kept.drew|refine Kept.setCell ?_ (.inr GW159.out) _|refine Kept.setCell ?_ (.inr GW164.out) _)|exact HK.out)) (fun k_ e_ => (HO_9.out.1 k_ e_).1.1));have n6_:=aM (ho);clear HO_0 HO_18 BK159 BK164 HB HK HO_9;have HO_0:=n0_;have HO_18:=n1_;have BK159:=n2_;have BK164:=n3_;have HB:=n4_;have HK:=n5_;have HO168:=n6_;clear n0_ n1_ n2_ n3_ n4_ n5_ n6_ ho hb hg hat))
          go_roundg k1
          case measure => have:=HK1.out;omega
          case rel => exact ⟨(y166),(wrap64 (x20_1 + 1)),(by first|rfl|(simp;done)|(simp [*];done)),H',⟨by have:=HK1.out;omega⟩,⟨by (with_reducible repeat (first|apply rA|apply rN|apply rD));exact Kd.R_mono HO_0.out (fun _ hk => ⟨hk.1.1,⟨hk.2,hk.1.2.1⟩⟩)⟩,⟨by (with_reducible repeat (first|apply rA|apply rN|apply rD));exact Kd.R_mono HO168.out (fun _ hk => ⟨hk.1,⟨hk.2.1,⟨hk.2.2.1,hk.2.2.2.1⟩⟩⟩)⟩,⟨by (with_reducible repeat (first|apply rA|apply rN|apply rD));exact Kd.R_mono HO_18.out (fun _ hk => ⟨hk.1.1,⟨hk.2,hk.1.2.1⟩⟩)⟩,⟨by (with_reducible repeat (first|refine bN ?_ _|refine bD ?_|refine bA ?_ _));exact BK159.out⟩,⟨by repeat (first|(with_reducible first|exact HK.out|apply Kept.alloc|apply Kept.drewN|apply Kept.drew|refine Kept.setCell ?_ (.inr GW159.out) _|refine Kept.setCell ?_ (.inr GW164.out) _)|exact HK.out)⟩,⟨by repeat (first|(with_reducible first|exact HB.out|apply lA|apply lN|apply lD|refine lS ?_ GE159.out|refine lS ?_ GE164.out)|exact HB.out)⟩⟩
         ·rw [if_neg c17] at H
          exact absurd H (by simp)
        ·rw [if_neg c16] at H
         have c16b0 : decide (t165 < 0) = false:=decide_eq_false c16
         clear c16
         have H':=aM H
         clear H
         have p163 : 0 ≤ (x20_1 : Int):=of_decide_eq_true (by first|(with_reducible assumption)|assumption)
         have q163 : x20_1 < (l0.length : Int):=of_decide_eq_true (by first|(with_reducible assumption)|assumption)
         obtain ⟨ad163,e163,hx163_0,hx163_1⟩:=at_T53 (rR HO_18.out).2.2 x20_1 p163 q163
         cases e163
         replace p163:=eq_true p163
         replace q163:=eq_true q163
         go_wp2_with (first|((with_reducible refine gate_dst (N:=11) rfl ?_);refine box_event ?hg (N:=11) ?hd (cs:=#[.string (⟨#[]⟩ : ByteArray),.string (⟨#[]⟩ : ByteArray)]) (t:=53) ?hr ?_;(case hd => rfl);(case hg => rfl);(case hr => first|(go_simp;done)|(go_simp;rfl));intro gb164 hg w25 hbox hb;have n0_:=aM (rB (Kd.R_elderB (rZ HO_0.out) gb164 (Nat.le_of_eq hg.symm)) hb);have n1_:=aM (rB (Kd.R_elderB (rZ HO_9.out) gb164 (Nat.le_of_eq hg.symm)) hb);have n2_:=aM (rB (Kd.R_elderB (rZ HO_18.out) gb164 (Nat.le_of_eq hg.symm)) hb);have n3_:=aM (bH BK159.out hb);have n4_:=aM (Kept.below (S:=(fun k_ => P0_ k_)) (by repeat (first|(with_reducible first|exact HK.out|apply Kept.alloc|apply Kept.drewN|apply Kept.drew|refine Kept.setCell ?_ (.inr GW159.out) _)|exact HK.out)) hb);have n5_:=aM (lQ HB.out hb);have n6_:=aM (hbox);have n7_:=aM ((by rw [hg];exact (by first|exact HK.out.1|exact (show Kept w _ (fun k_ => P0_ k_) from by repeat (first|(with_reducible first|exact HK.out|apply Kept.alloc|apply Kept.drewN|apply Kept.drew|refine Kept.setCell ?_ (.inr GW159.out) _)|exact HK.out)).1) : w.heap.size ≤ gb164));have n8_:=aM ((sQ hg HB.out : w0.heap.size ≤ gb164));have n9_:=aM ((nL hg BK159.out : gb159 ≠ gb164));have n10_:=aM ((nG hg BK159.out : gb164 ≠ gb159));clear HO_0 HO_9 HO_18 BK159 HK HB;have HO_0:=n0_;have HO_9:=n1_;have HO_18:=n2_;have BK159:=n3_;have HK:=n4_;have HB:=n5_;have BK164:=n6_;have GW164:=n7_;have GE164:=n8_;have NB159_164:=n9_;have NB164_159:=n10_;clear n0_ n1_ n2_ n3_ n4_ n5_ n6_ n7_ n8_ n9_ n10_ hb hbox hg;have hnb26:=NB164_159.out;have hnc26:=NB159_164.out;have hcz27_0 : w25.cell? ⟨gb164,0,none⟩ = some (.string (⟨#[]⟩ : ByteArray)):=(bC BK164.out 0).trans rfl;have hcz27_1 : w25.cell? ⟨gb164,1,none⟩ = some (.string (⟨#[]⟩ : ByteArray)):=(bC BK164.out 1).trans rfl;have hfz27_0:=bF BK164.out 0;have hfz27_1:=bF BK164.out 1;have hcz28_0 : w25.cell? ⟨gb159,0,none⟩ = some (.string a1_0):=(bC BK159.out 0).trans rfl;have hcz28_1 : w25.cell? ⟨gb159,1,none⟩ = some (.string a1_1):=(bC BK159.out 1).trans rfl;have hfz28_0:=bF BK159.out 0;have hfz28_1:=bF BK159.out 1)|(go_at_call 79;(with_reducible refine (impl_byName.calls ((rd_T53 l0 x20_1).f0) ((rd_T53 l0 x20_1).f1) a1_0 a1_1 t165 _ A15.out).mono ?_);rintro e w29 ⟨rfl,hb⟩;have n0_:=aM (rB (by (with_reducible repeat (first|apply rA|apply rN|apply rD));exact (Kd.R_mono (rF (rF (Kd.R_mono HO_0.out (fun k_ hk => (⟨hk,hk.2⟩ : _ ∧ k_ ≠ gb164))) (fun _ hk => hk.2) _) (fun _ hk => hk.2) _) (fun _ h_ => h_.1))) hb);have n1_:=aM (rB (by (with_reducible repeat (first|apply rA|apply rN|apply rD));exact (Kd.R_mono (rF (rF (Kd.R_mono HO_9.out (fun k_ hk => (⟨hk,hk.2⟩ : _ ∧ k_ ≠ gb164))) (fun _ hk => hk.2) _) (fun _ hk => hk.2) _) (fun _ h_ => h_.1))) hb);have n2_:=aM (rB (by (with_reducible repeat (first|apply rA|apply rN|apply rD));exact (Kd.R_mono (rF (rF (Kd.R_mono HO_18.out (fun k_ hk => (⟨hk,hk.2⟩ : _ ∧ k_ ≠ gb164))) (fun _ hk => hk.2) _) (fun _ hk => hk.2) _) (fun _ h_ => h_.1))) hb);have n3_:=aM (bB (g:=gb159) (o:=.cells #[.string a1_0,.string a1_1] 53 (0,0)) (by (with_reducible repeat (first|refine bN ?_ _|refine bD ?_|refine bA ?_ _));refine blk_far ?_ NB159_164.out _;(with_reducible repeat (first|refine bN ?_ _|refine bD ?_|refine bA ?_ _));refine blk_far ?_ NB159_164.out _;(with_reducible repeat (first|refine bN ?_ _|refine bD ?_|refine bA ?_ _));exact BK159.out) hb);have n4_:=aM (bB (g:=gb164) (o:=.cells #[.string ((rd_T53 l0 x20_1).f0),.string ((rd_T53 l0 x20_1).f1)] 53 (0,0)) (by (with_reducible repeat (first|refine bN ?_ _|refine bD ?_|refine bA ?_ _));refine blk_put (cs:=#[.string ((rd_T53 l0 x20_1).f0),.string (⟨#[]⟩ : ByteArray)]) ?_ 1 _ rfl;(with_reducible repeat (first|refine bN ?_ _|refine bD ?_|refine bA ?_ _));refine blk_put (cs:=#[.string (⟨#[]⟩ : ByteArray),.string (⟨#[]⟩ : ByteArray)]) ?_ 0 _ rfl;(with_reducible repeat (first|refine bN ?_ _|refine bD ?_|refine bA ?_ _));exact BK164.out) hb);have n5_:=aM (Kept.below (S:=(fun k_ => P0_ k_)) (by repeat (first|(with_reducible first|exact HK.out|apply Kept.alloc|apply Kept.drewN|apply Kept.drew|refine Kept.setCell ?_ (.inr GW159.out) _|refine Kept.setCell ?_ (.inr GW164.out) _)|exact HK.out)) hb);have n6_:=aM (lQ HB.out hb);clear HO_0 HO_9 HO_18 BK159 BK164 HK HB;have HO_0:=n0_;have HO_9:=n1_;have HO_18:=n2_;have BK159:=n3_;have BK164:=n4_;have HK:=n5_;have HB:=n6_;clear n0_ n1_ n2_ n3_ n4_ n5_ n6_;(try clear hb);(try clear hb2);(try clear hk);(try clear hi)))
         go_roundg k1
         case measure => have:=HK1.out;omega
         case rel => exact ⟨(x9_1),(wrap64 (x20_1 + 1)),(by first|rfl|(simp;done)|(simp [*];done)),H',⟨by have:=HK1.out;omega⟩,⟨by (with_reducible repeat (first|apply rA|apply rN|apply rD));exact Kd.R_mono HO_0.out (fun _ hk => ⟨hk.1.1,⟨hk.1.2.1,hk.1.2.2⟩⟩)⟩,⟨by (with_reducible repeat (first|apply rA|apply rN|apply rD));exact Kd.R_mono HO_9.out (fun _ hk => ⟨hk.1.1,⟨hk.1.2.1,⟨hk.1.2.2.1,hk.1.2.2.2⟩⟩⟩)⟩,⟨by (with_reducible repeat (first|apply rA|apply rN|apply rD));exact Kd.R_mono HO_18.out (fun _ hk => ⟨hk.1.1,⟨hk.1.2.1,hk.1.2.2⟩⟩)⟩,⟨by (with_reducible repeat (first|refine bN ?_ _|refine bD ?_|refine bA ?_ _));exact BK159.out⟩,⟨by repeat (first|(with_reducible first|exact HK.out|apply Kept.alloc|apply Kept.drewN|apply Kept.drew|refine Kept.setCell ?_ (.inr GW159.out) _|refine Kept.setCell ?_ (.inr GW164.out) _)|exact HK.out)⟩,⟨by repeat (first|(with_reducible first|exact HB.out|apply lA|apply lN|apply lD|refine lS ?_ GE159.out|refine lS ?_ GE164.out)|exact HB.out)⟩⟩
       ·rw [if_neg c14] at H
        exact absurd H (by simp)
      ·rw [if_neg c13] at H
       exact absurd H (by simp)
     ·rw [if_neg c12] at H
      have c12b0 : decide (x20_1 < (l0.length : Int)) = false:=decide_eq_false c12
      clear c12
      by_cases c30 : x9_1.length < 4398046511104
      ·rw [if_pos c30] at H
       have LMc30:=aM c30
       clear c30
       obtain ⟨y169,hy169⟩ : ∃ y_ : List (S53),y_ = (x9_1 ++ [(⟨a1_0,a1_1⟩ : S53)]):=⟨_,rfl⟩
       replace H : (impl_Var.l1 k1 l0 a3 y169 l0 (l0.length : Int) 0 a1_0 a1_1) = some r:=by first|(rw [hy169];with_reducible exact H)|(have H2_:=(Option.bind_some _ _).symm.trans H;rw [hy169];with_reducible exact H2_)|(have H2_:=(Option.bind_some _ _).symm.trans H;with_reducible exact H2_)|with_reducible exact H|(rw [hy169];exact H)|exact H
       have Ny169:=aM hy169
       clear hy169
       have H':=aM H
       clear H
       have hcz31_0 : wr.cell? ⟨gb159,0,none⟩ = some (.string a1_0):=(bC BK159.out 0).trans rfl
       have hcz31_1 : wr.cell? ⟨gb159,1,none⟩ = some (.string a1_1):=(bC BK159.out 1).trans rfl
       have hfz31_0:=bF BK159.out 0
       have hfz31_1:=bF BK159.out 1
       go_wp2_with (first|((with_reducible refine gate_builtin (b:=.append) (xs:=#[.tmp 34,.tmp 36]) rfl ?_);at_builtin;refine Kd.R_append k53 (w0:=w0) w0.heap.size rfl (.tmp 34) (.tmp 36) 35 53 (.agg #[(.string ⟨#[]⟩),(.string ⟨#[]⟩)]) 32 rfl Try.underlying35 info53 rfl (by decide) (by omega) u9 x9_1 (⟨a1_0,a1_1⟩ : S53) [.string a1_0,.string a1_1] (fun k_ => (P0_ k_ ∨ w.heap.size ≤ k_) ∧ some k_ ≠ (.slice Ao9 l0.length co9 : Value).ownBlock ∧ some k_ ≠ (.slice Ao9 l0.length co9 : Value).ownBlock ∧ k_ ≠ gb159) (fun _ => False) rfl rfl ?aP (fun _ hk => hk.elim) ?aF ?aO ?aB ?aS ?aL ?_;(case aP => exact k53_mkM _ _ _ (⟨a1_0,a1_1⟩ : S53));(case aB => exact (by repeat (first|(with_reducible first|exact HB.out|apply lA|apply lN|apply lD|refine lS ?_ GE159.out)|exact HB.out)));(case aF => exact (fun k_ hk => ⟨(.inr (Nat.le_trans (by first|exact HK.out.1|exact (show Kept w _ (fun k_ => P0_ k_) from by repeat (first|(with_reducible first|exact HK.out|apply Kept.alloc|apply Kept.drewN|apply Kept.drew|refine Kept.setCell ?_ (.inr GW159.out) _)|exact HK.out)).1) hk)),Kd.fresh' (rT (rZ HO_0.out)) k_ hk,Kd.fresh' (rT (rZ HO_18.out)) k_ hk,Kd.freshB (g:=gb159) (o:=.cells #[.string a1_0,.string a1_1] 53 (0,0)) (by (with_reducible repeat (first|refine bN ?_ _|refine bD ?_|refine bA ?_ _));exact BK159.out) k_ hk⟩));(case aO => exact (rZ HO_9.out));(case aS => exact (lZ (by repeat (first|(with_reducible first|exact HB.out|apply lA|apply lN|apply lD|refine lS ?_ GE159.out)|exact HB.out))));(case aL => have:=LMc30.out;omega);intro v170 w32 ho hb hg hat;rw [← Ny169.out] at ho;have n0_:=aM (Kd.R_after (ok:=(fun k_ => (P0_ k_ ∨ w.heap.size ≤ k_) ∧ k_ ≠ gb159)) (by (with_reducible repeat (first|apply rA|apply rN|apply rD));exact Kd.R_mono HO_0.out (fun _ hk => ⟨⟨hk.1,hk.2.2⟩,hk.2.1⟩)) hg hat);have n1_:=aM (Kd.R_after (ok:=(fun k_ => (P0_ k_ ∨ w.heap.size ≤ k_) ∧ k_ ≠ gb159)) (by (with_reducible repeat (first|apply rA|apply rN|apply rD));exact Kd.R_mono HO_18.out (fun _ hk => ⟨⟨hk.1,hk.2.2⟩,hk.2.1⟩)) hg hat);have n2_:=aM (blk_grown (g:=gb159) (o:=.cells #[.string a1_0,.string a1_1] 53 (0,0)) (by (with_reducible repeat (first|refine bN ?_ _|refine bD ?_|refine bA ?_ _));exact BK159.out) hg (Kd.R_away HO_9.out (fun _ hk => hk.2.2.2)));have n3_:=aM (hb);have n4_:=aM (Kept.of_grown (S:=(fun k_ => P0_ k_)) hg (by repeat (first|(with_reducible first|exact HK.out|apply Kept.alloc|apply Kept.drewN|apply Kept.drew|refine Kept.setCell ?_ (.inr GW159.out) _)|exact HK.out)) (fun k_ e_ => (HO_9.out.1 k_ e_).1));have n5_:=aM (ho);clear HO_0 HO_18 BK159 HB HK HO_9;have HO_0:=n0_;have HO_18:=n1_;have BK159:=n2_;have HB:=n3_;have HK:=n4_;have HO171:=n5_;clear n0_ n1_ n2_ n3_ n4_ n5_ ho hb hg hat))
       go_loopg [9,40] k1 (fun kq v9 v40 w' => ∃ (x9_2 : List (S53)) (x40_2 : Int),v40 = .int .i64 x40_2 ∧ Aside0 (impl_Var.l1 kq l0 a3 x9_2 l0 (l0.length : Int) x40_2 a1_0 a1_1 = some r) ∧ Aside0 (kq ≤ k1) ∧ Aside0 (Kd.R k53 53 w' w0.heap.size (fun k_ => (P0_ k_ ∨ w.heap.size ≤ k_) ∧ some k_ ≠ (v9 : Value).ownBlock ∧ k_ ≠ gb159) (.slice Ao9 l0.length co9) l0) ∧ Aside0 (Kd.R k53 53 w' w0.heap.size (fun k_ => (P0_ k_ ∨ w.heap.size ≤ k_) ∧ some k_ ≠ ((.slice Ao9 l0.length co9) : Value).ownBlock ∧ some k_ ≠ ((.slice Ao9 l0.length co9) : Value).ownBlock ∧ k_ ≠ gb159) v9 x9_2) ∧ Aside0 (Kd.R k53 53 w' w0.heap.size (fun k_ => (P0_ k_ ∨ w.heap.size ≤ k_) ∧ some k_ ≠ (v9 : Value).ownBlock ∧ k_ ≠ gb159) (.slice Ao9 l0.length co9) l0) ∧ Aside0 (w'.heap[gb159]? = some (.cells #[.string a1_0,.string a1_1] 53 (0,0))) ∧ Aside0 (Kept w w' (fun k_ => P0_ k_)) ∧ Aside0 (Below w0.heap.size w0 w'))
       case atStart => exact ⟨(y169),(0),(by first|rfl|(simp;done)|(simp [*];done)),H',⟨Nat.le_refl _⟩,⟨by (with_reducible repeat (first|apply rA|apply rN|apply rD));exact Kd.R_mono HO_0.out (fun _ hk => ⟨hk.1.1,⟨hk.2,hk.1.2⟩⟩)⟩,⟨by (with_reducible repeat (first|apply rA|apply rN|apply rD));exact Kd.R_mono HO171.out (fun _ hk => ⟨hk.1,⟨hk.2.1,⟨hk.2.1,hk.2.2.2⟩⟩⟩)⟩,⟨by (with_reducible repeat (first|apply rA|apply rN|apply rD));exact Kd.R_mono HO_0.out (fun _ hk => ⟨hk.1.1,⟨hk.2,hk.1.2⟩⟩)⟩,⟨by (with_reducible repeat (first|refine bN ?_ _|refine bD ?_|refine bA ?_ _));exact BK159.out⟩,⟨by repeat (first|(with_reducible first|exact HK.out|apply Kept.alloc|apply Kept.drewN|apply Kept.drew|refine Kept.setCell ?_ (.inr GW159.out) _)|exact HK.out)⟩,⟨by repeat (first|(with_reducible first|exact HB.out|apply lA|apply lN|apply lD|refine lS ?_ GE159.out)|exact HB.out)⟩⟩
       case round =>
        clear H'
        try clear c1
        try clear p1
        try clear q1
        try clear hx1
        try clear c2
        try clear p2
        try clear c3
        try clear c6
        try clear c6b0
        try clear c6b1
        try clear p6
        try clear c7
        try clear c7b0
        try clear c7b1
        try clear c12
        try clear c12b0
        try clear c13
        try clear c13b0
        try clear c14
        try clear c14b0
        try clear c16
        try clear c16b0
        try clear p16
        try clear q16
        try clear hx16
        try clear c17
        try clear c19
        try clear c26
        try clear c30
        try clear hcz20_0
        try clear hcz20_1
        try clear hcz21_0
        try clear hcz21_1
        try clear hcz23_0
        try clear hcz23_1
        try clear hcz27_0
        try clear hcz27_1
        try clear hcz28_0
        try clear hcz28_1
        try clear hcz31_0
        try clear hcz31_1
        try clear hx163_0
        try clear hx163_1
        try clear p163
        try clear p2
        try clear p6
        try clear q163
        obtain ⟨x9_2,x40_2,rfl,HA,HK2,HO_0,HO_9,HO_38,BK159,HK,HB⟩:=hrel
        cases gk with
        |zero => exact absurd HA.out (by simp [impl_Var.l1])
        |succ k2 =>
         have H:=HA.out
         clear HA
         simp only [impl_Var.l1] at H
         by_cases c33 : x40_2 < (l0.length : Int)
         ·rw [if_pos c33] at H
          have c33b0 : decide (x40_2 < (l0.length : Int)) = true:=decide_eq_true c33
          clear c33
          by_cases c34 : 0 ≤ x40_2
          ·rw [if_pos c34] at H
           have c34b0 : decide (0 ≤ x40_2) = true:=decide_eq_true c34
           clear c34
           by_cases c35 : x40_2 < (l0.length : Int)
           ·rw [if_pos c35] at H
            have c35b0 : decide (x40_2 < (l0.length : Int)) = true:=decide_eq_true c35
            clear c35
            replace H:=Option.bind_eq_some_iff.mp H
            obtain ⟨t174,A360,H⟩:=H
            replace H : (if t174 > 0 then (if x9_2.length < 4398046511104 then (impl_Var.l1 k2 l0 a3 (x9_2 ++ [(⟨(rd_T53 l0 x40_2).f0,(rd_T53 l0 x40_2).f1⟩ : S53)]) l0 (l0.length : Int) (wrap64 (x40_2 + 1)) a1_0 a1_1) else (none)) else (impl_Var.l1 k2 l0 a3 x9_2 l0 (l0.length : Int) (wrap64 (x40_2 + 1)) a1_0 a1_1)) = some r:=H
            have A36:=aM A360
            clear A360
            by_cases c37 : t174 > 0
            ·rw [if_pos c37] at H
             have c37b0 : decide (0 < t174) = true:=decide_eq_true c37
             clear c37
             by_cases c38 : x9_2.length < 4398046511104
             ·rw [if_pos c38] at H
              have LMc38:=aM c38
              clear c38
              obtain ⟨y175,hy175⟩ : ∃ y_ : List (S53),y_ = (x9_2 ++ [(⟨(rd_T53 l0 x40_2).f0,(rd_T53 l0 x40_2).f1⟩ : S53)]):=⟨_,rfl⟩
              replace H : (impl_Var.l1 k2 l0 a3 y175 l0 (l0.length : Int) (wrap64 (x40_2 + 1)) a1_0 a1_1) = some r:=by first|(rw [hy175];with_reducible exact H)|(have H2_:=(Option.bind_some _ _).symm.trans H;rw [hy175];with_reducible exact H2_)|(have H2_:=(Option.bind_some _ _).symm.trans H;with_reducible exact H2_)|with_reducible exact H|(rw [hy175];exact H)|exact H
              have Ny175:=aM hy175
              clear hy175
              have H':=aM H
              clear H
              have p172 : 0 ≤ (x40_2 : Int):=of_decide_eq_true (by first|(with_reducible assumption)|assumption)
              have q172 : x40_2 < (l0.length : Int):=of_decide_eq_true (by first|(with_reducible assumption)|assumption)
              obtain ⟨ad172,e172,hx172_0,hx172_1⟩:=at_T53 (rR HO_38.out).2.2 x40_2 p172 q172
              cases e172
              replace p172:=eq_true p172
              replace q172:=eq_true q172
              go_wp2_with (first|((with_reducible refine gate_dst (N:=13) rfl ?_);refine box_event ?hg (N:=13) ?hd (cs:=#[.string (⟨#[]⟩ : ByteArray),.string (⟨#[]⟩ : ByteArray)]) (t:=53) ?hr ?_;(case hd => rfl);(case hg => rfl);(case hr => first|(go_simp;done)|(go_simp;rfl));intro gb173 hg w39 hbox hb;have n0_:=aM (rB (Kd.R_elderB (rZ HO_0.out) gb173 (Nat.le_of_eq hg.symm)) hb);have n1_:=aM (rB (Kd.R_elderB (rZ HO_9.out) gb173 (Nat.le_of_eq hg.symm)) hb);have n2_:=aM (rB (Kd.R_elderB (rZ HO_38.out) gb173 (Nat.le_of_eq hg.symm)) hb);have n3_:=aM (bH BK159.out hb);have n4_:=aM (Kept.below (S:=(fun k_ => P0_ k_)) (by repeat (first|(with_reducible first|exact HK.out|apply Kept.alloc|apply Kept.drewN|apply Kept.drew|refine Kept.setCell ?_ (.inr GW159.out) _)|exact HK.out)) hb);have n5_:=aM (lQ HB.out hb);have n6_:=aM (hbox);have n7_:=aM ((by rw [hg];exact (by first|exact HK.out.1|exact (show Kept w _ (fun k_ => P0_ k_) from by repeat (first|(with_reducible first|exact HK.out|apply Kept.alloc|apply Kept.drewN|apply Kept.drew|refine Kept.setCell ?_ (.inr GW159.out) _)|exact HK.out)).1) : w.heap.size ≤ gb173));have n8_:=aM ((sQ hg HB.out : w0.heap.size ≤ gb173));have n9_:=aM ((nL hg BK159.out : gb159 ≠ gb173));have n10_:=aM ((nG hg BK159.out : gb173 ≠ gb159));clear HO_0 HO_9 HO_38 BK159 HK HB;have HO_0:=n0_;have HO_9:=n1_;have HO_38:=n2_;have BK159:=n3_;have HK:=n4_;have HB:=n5_;have BK173:=n6_;have GW173:=n7_;have GE173:=n8_;have NB159_173:=n9_;have NB173_159:=n10_;clear n0_ n1_ n2_ n3_ n4_ n5_ n6_ n7_ n8_ n9_ n10_ hb hbox hg;have hnb40:=NB173_159.out;have hnc40:=NB159_173.out;have hcz41_0 : w39.cell? ⟨gb173,0,none⟩ = some (.string (⟨#[]⟩ : ByteArray)):=(bC BK173.out 0).trans rfl;have hcz41_1 : w39.cell? ⟨gb173,1,none⟩ = some (.string (⟨#[]⟩ : ByteArray)):=(bC BK173.out 1).trans rfl;have hfz41_0:=bF BK173.out 0;have hfz41_1:=bF BK173.out 1;have hcz42_0 : w39.cell? ⟨gb159,0,none⟩ = some (.string a1_0):=(bC BK159.out 0).trans rfl;have hcz42_1 : w39.cell? ⟨gb159,1,none⟩ = some (.string a1_1):=(bC BK159.out 1).trans rfl;have hfz42_0:=bF BK159.out 0;have hfz42_1:=bF BK159.out 1)|(go_at_call 79;(with_reducible refine (impl_byName.calls ((rd_T53 l0 x40_2).f0) ((rd_T53 l0 x40_2).f1) a1_0 a1_1 t174 _ A36.out).mono ?_);rintro e w43 ⟨rfl,hb⟩;have n0_:=aM (rB (by (with_reducible repeat (first|apply rA|apply rN|apply rD));exact (Kd.R_mono (rF (rF (Kd.R_mono HO_0.out (fun k_ hk => (⟨hk,hk.2⟩ : _ ∧ k_ ≠ gb173))) (fun _ hk => hk.2) _) (fun _ hk => hk.2) _) (fun _ h_ => h_.1))) hb);have n1_:=aM (rB (by (with_reducible repeat (first|apply rA|apply rN|apply rD));exact (Kd.R_mono (rF (rF (Kd.R_mono HO_9.out (fun k_ hk => (⟨hk,hk.2⟩ : _ ∧ k_ ≠ gb173))) (fun _ hk => hk.2) _) (fun _ hk => hk.2) _) (fun _ h_ => h_.1))) hb);have n2_:=aM (rB (by (with_reducible repeat (first|apply rA|apply rN|apply rD));exact (Kd.R_mono (rF (rF (Kd.R_mono HO_38.out (fun k_ hk => (⟨hk,hk.2⟩ : _ ∧ k_ ≠ gb173))) (fun _ hk => hk.2) _) (fun _ hk => hk.2) _) (fun _ h_ => h_.1))) hb);have n3_:=aM (bB (g:=gb159) (o:=.cells #[.string a1_0,.string a1_1] 53 (0,0)) (by (with_reducible repeat (first|refine bN ?_ _|refine bD ?_|refine bA ?_ _));refine blk_far ?_ NB159_173.out _;(with_reducible repeat (first|refine bN ?_ _|refine bD ?_|refine bA ?_ _));refine blk_far ?_ NB159_173.out _;(with_reducible repeat (first|refine bN ?_ _|refine bD ?_|refine bA ?_ _));exact BK159.out) hb);have n4_:=aM (bB (g:=gb173) (o:=.cells #[.string ((rd_T53 l0 x40_2).f0),.string ((rd_T53 l0 x40_2).f1)] 53 (0,0)) (by (with_reducible repeat (first|refine bN ?_ _|refine bD ?_|refine bA ?_ _));refine blk_put (cs:=#[.string ((rd_T53 l0 x40_2).f0),.string (⟨#[]⟩ : ByteArray)]) ?_ 1 _ rfl;(with_reducible repeat (first|refine bN ?_ _|refine bD ?_|refine bA ?_ _));refine blk_put (cs:=#[.string (⟨#[]⟩ : ByteArray),.string (⟨#[]⟩ : ByteArray)]) ?_ 0 _ rfl;(with_reducible repeat (first|refine bN ?_ _|refine bD ?_|refine bA ?_ _));exact BK173.out) hb);have n5_:=aM (Kept.below (S:=(fun k_ => P0_ k_)) (by repeat (first|(with_reducible first|exact HK.out|apply Kept.alloc|apply Kept.drewN|apply Kept.drew|refine Kept.setCell ?_ (.inr GW159.out) _|refine Kept.setCell ?_ (.inr GW173.out) _)|exact HK.out)) hb);have n6_:=aM (lQ HB.out hb);clear HO_0 HO_9 HO_38 BK159 BK173 HK HB;have HO_0:=n0_;have HO_9:=n1_;have HO_38:=n2_;have BK159:=n3_;have BK173:=n4_;have HK:=n5_;have HB:=n6_;clear n0_ n1_ n2_ n3_ n4_ n5_ n6_;(try clear hb);(try clear hb2);(try clear hk);(try clear hi);have hcz44_0 : w43.cell? ⟨gb173,0,none⟩ = some (.string ((rd_T53 l0 x40_2).f0)):=(bC BK173.out 0).trans rfl;have hcz44_1 : w43.cell? ⟨gb173,1,none⟩ = some (.string ((rd_T53 l0 x40_2).f1)):=(bC BK173.out 1).trans rfl;have hfz44_0:=bF BK173.out 0;have hfz44_1:=bF BK173.out 1)|((with_reducible refine gate_builtin (b:=.append) (xs:=#[.tmp 49,.tmp 51]) rfl ?_);at_builtin;refine Kd.R_append k53 (w0:=w0) w0.heap.size rfl (.tmp 49) (.tmp 51) 35 53 (.agg #[(.string ⟨#[]⟩),(.string ⟨#[]⟩)]) 32 rfl Try.underlying35 info53 rfl (by decide) (by omega) u9 x9_2 (⟨(rd_T53 l0 x40_2).f0,(rd_T53 l0 x40_2).f1⟩ : S53) [.string ((rd_T53 l0 x40_2).f0),.string ((rd_T53 l0 x40_2).f1)] (fun k_ => (P0_ k_ ∨ w.heap.size ≤ k_) ∧ some k_ ≠ (.slice (some ad172) l0.length co9 : Value).ownBlock ∧ some k_ ≠ (.slice (some ad172) l0.length co9 : Value).ownBlock ∧ k_ ≠ gb159 ∧ k_ ≠ gb173) (fun _ => False) rfl rfl ?aP (fun _ hk => hk.elim) ?aF ?aO ?aB ?aS ?aL ?_;(case aP => exact k53_mkM _ _ _ (⟨(rd_T53 l0 x40_2).f0,(rd_T53 l0 x40_2).f1⟩ : S53));(case aB => exact (by repeat (first|(with_reducible first|exact HB.out|apply lA|apply lN|apply lD|refine lS ?_ GE159.out|refine lS ?_ GE173.out)|exact HB.out)));(case aF => exact (fun k_ hk => ⟨(.inr (Nat.le_trans (by first|exact HK.out.1|exact (show Kept w _ (fun k_ => P0_ k_) from by repeat (first|(with_reducible first|exact HK.out|apply Kept.alloc|apply Kept.drewN|apply Kept.drew|refine Kept.setCell ?_ (.inr GW159.out) _|refine Kept.setCell ?_ (.inr GW173.out) _)|exact HK.out)).1) hk)),Kd.fresh' (rT (rZ HO_0.out)) k_ hk,Kd.fresh' (rT (rZ HO_38.out)) k_ hk,Kd.freshB (g:=gb159) (o:=.cells #[.string a1_0,.string a1_1] 53 (0,0)) (by (with_reducible repeat (first|refine bN ?_ _|refine bD ?_|refine bA ?_ _));exact BK159.out) k_ hk,Kd.freshB (g:=gb173) (o:=.cells #[.string ((rd_T53 l0 x40_2).f0),.string ((rd_T53 l0 x40_2).f1)] 53 (0,0)) (by (with_reducible repeat (first|refine bN ?_ _|refine bD ?_|refine bA ?_ _));exact BK173.out) k_ hk⟩));(case aO => exact (by (with_reducible repeat (first|apply rA|apply rN|apply rD));exact Kd.R_mono HO_9.out (fun _ hk => ⟨hk.1.1,⟨hk.1.2.1,⟨hk.1.2.2.1,⟨hk.1.2.2.2,hk.2⟩⟩⟩⟩)));(case aS => exact (lZ (by repeat (first|(with_reducible first|exact HB.out|apply lA|apply lN|apply lD|refine lS ?_ GE159.out|refine lS ?_ GE173.out)|exact HB.out))));(case aL => have:=LMc38.out;omega);intro v176 w45 ho hb hg hat;rw [← Ny175.out] at ho;have n0_:=aM (Kd.R_after (ok:=(fun k_ => (P0_ k_ ∨ w.heap.size ≤ k_) ∧ k_ ≠ gb159 ∧ k_ ≠ gb173)) (by (with_reducible repeat (first|apply rA|apply rN|apply rD));exact Kd.R_mono HO_0.out (fun _ hk => ⟨⟨hk.1.1,⟨hk.1.2.2,hk.2⟩⟩,hk.1.2.1⟩)) hg hat);have n1_:=aM (Kd.R_after (ok:=(fun k_ => (P0_ k_ ∨ w.heap.size ≤ k_) ∧ k_ ≠ gb159 ∧ k_ ≠ gb173)) (by (with_reducible repeat (first|apply rA|apply rN|apply rD));exact Kd.R_mono HO_38.out (fun _ hk => ⟨⟨hk.1.1,⟨hk.1.2.2,hk.2⟩⟩,hk.1.2.1⟩)) hg hat);have n2_:=aM (blk_grown (g:=gb159) (o:=.cells #[.string a1_0,.string a1_1] 53 (0,0)) (by (with_reducible repeat (first|refine bN ?_ _|refine bD ?_|refine bA ?_ _));exact BK159.out) hg (Kd.R_away HO_9.out (fun _ hk => hk.1.2.2.2)));have n3_:=aM (blk_grown (g:=gb173) (o:=.cells #[.string ((rd_T53 l0 x40_2).f0),.string ((rd_T53 l0 x40_2).f1)] 53 (0,0)) (by (with_reducible repeat (first|refine bN ?_ _|refine bD ?_|refine bA ?_ _));exact BK173.out) hg (Kd.R_away HO_9.out (fun _ hk => hk.2)));have n4_:=aM (hb);have n5_:=aM (Kept.of_grown (S:=(fun k_ => P0_ k_)) hg (by repeat (first|(with_reducible first|exact HK.out|apply Kept.alloc|apply Kept.drewN|apply Kept.drew|refine Kept.setCell ?_ (.inr GW159.out) _|refine Kept.setCell ?_ (.inr GW173.out) _)|exact HK.out)) (fun k_ e_ => (HO_9.out.1 k_ e_).1.1));have n6_:=aM (ho);clear HO_0 HO_38 BK159 BK173 HB HK HO_9;have HO_0:=n0_;have HO_38:=n1_;have BK159:=n2_;have BK173:=n3_;have HB:=n4_;have HK:=n5_;have HO177:=n6_;clear n0_ n1_ n2_ n3_ n4_ n5_ n6_ ho hb hg hat))
              go_roundg k2
              case measure => have:=HK1.out;have:=HK2.out;omega
              case rel => exact ⟨(y175),(wrap64 (x40_2 + 1)),(by first|rfl|(simp;done)|(simp [*];done)),H',⟨by have:=HK1.out;have:=HK2.out;omega⟩,⟨by (with_reducible repeat (first|apply rA|apply rN|apply rD));exact Kd.R_mono HO_0.out (fun _ hk => ⟨hk.1.1,⟨hk.2,hk.1.2.1⟩⟩)⟩,⟨by (with_reducible repeat (first|apply rA|apply rN|apply rD));exact Kd.R_mono HO177.out (fun _ hk => ⟨hk.1,⟨hk.2.1,⟨hk.2.2.1,hk.2.2.2.1⟩⟩⟩)⟩,⟨by (with_reducible repeat (first|apply rA|apply rN|apply rD));exact Kd.R_mono HO_38.out (fun _ hk => ⟨hk.1.1,⟨hk.2,hk.1.2.1⟩⟩)⟩,⟨by (with_reducible repeat (first|refine bN ?_ _|refine bD ?_|refine bA ?_ _));exact BK159.out⟩,⟨by repeat (first|(with_reducible first|exact HK.out|apply Kept.alloc|apply Kept.drewN|apply Kept.drew|refine Kept.setCell ?_ (.inr GW159.out) _|refine Kept.setCell ?_ (.inr GW173.out) _)|exact HK.out)⟩,⟨by repeat (first|(with_reducible first|exact HB.out|apply lA|apply lN|apply lD|refine lS ?_ GE159.out|refine lS ?_ GE173.out)|exact HB.out)⟩⟩
             ·rw [if_neg c38] at H
              exact absurd H (by simp)
            ·rw [if_neg c37] at H
             have c37b0 : decide (0 < t174) = false:=decide_eq_false c37
             clear c37
             have H':=aM H
             clear H
             have p172 : 0 ≤ (x40_2 : Int):=of_decide_eq_true (by first|(with_reducible assumption)|assumption)
             have q172 : x40_2 < (l0.length : Int):=of_decide_eq_true (by first|(with_reducible assumption)|assumption)
             obtain ⟨ad172,e172,hx172_0,hx172_1⟩:=at_T53 (rR HO_38.out).2.2 x40_2 p172 q172
             cases e172
             replace p172:=eq_true p172
             replace q172:=eq_true q172
             go_wp2_with (first|((with_reducible refine gate_dst (N:=13) rfl ?_);refine box_event ?hg (N:=13) ?hd (cs:=#[.string (⟨#[]⟩ : ByteArray),.string (⟨#[]⟩ : ByteArray)]) (t:=53) ?hr ?_;(case hd => rfl);(case hg => rfl);(case hr => first|(go_simp;done)|(go_simp;rfl));intro gb173 hg w46 hbox hb;have n0_:=aM (rB (Kd.R_elderB (rZ HO_0.out) gb173 (Nat.le_of_eq hg.symm)) hb);have n1_:=aM (rB (Kd.R_elderB (rZ HO_9.out) gb173 (Nat.le_of_eq hg.symm)) hb);have n2_:=aM (rB (Kd.R_elderB (rZ HO_38.out) gb173 (Nat.le_of_eq hg.symm)) hb);have n3_:=aM (bH BK159.out hb);have n4_:=aM (Kept.below (S:=(fun k_ => P0_ k_)) (by repeat (first|(with_reducible first|exact HK.out|apply Kept.alloc|apply Kept.drewN|apply Kept.drew|refine Kept.setCell ?_ (.inr GW159.out) _)|exact HK.out)) hb);have n5_:=aM (lQ HB.out hb);have n6_:=aM (hbox);have n7_:=aM ((by rw [hg];exact (by first|exact HK.out.1|exact (show Kept w _ (fun k_ => P0_ k_) from by repeat (first|(with_reducible first|exact HK.out|apply Kept.alloc|apply Kept.drewN|apply Kept.drew|refine Kept.setCell ?_ (.inr GW159.out) _)|exact HK.out)).1) : w.heap.size ≤ gb173));have n8_:=aM ((sQ hg HB.out : w0.heap.size ≤ gb173));have n9_:=aM ((nL hg BK159.out : gb159 ≠ gb173));have n10_:=aM ((nG hg BK159.out : gb173 ≠ gb159));clear HO_0 HO_9 HO_38 BK159 HK HB;have HO_0:=n0_;have HO_9:=n1_;have HO_38:=n2_;have BK159:=n3_;have HK:=n4_;have HB:=n5_;have BK173:=n6_;have GW173:=n7_;have GE173:=n8_;have NB159_173:=n9_;have NB173_159:=n10_;clear n0_ n1_ n2_ n3_ n4_ n5_ n6_ n7_ n8_ n9_ n10_ hb hbox hg;have hnb47:=NB173_159.out;have hnc47:=NB159_173.out;have hcz48_0 : w46.cell? ⟨gb173,0,none⟩ = some (.string (⟨#[]⟩ : ByteArray)):=(bC BK173.out 0).trans rfl;have hcz48_1 : w46.cell? ⟨gb173,1,none⟩ = some (.string (⟨#[]⟩ : ByteArray)):=(bC BK173.out 1).trans rfl;have hfz48_0:=bF BK173.out 0;have hfz48_1:=bF BK173.out 1;have hcz49_0 : w46.cell? ⟨gb159,0,none⟩ = some (.string a1_0):=(bC BK159.out 0).trans rfl;have hcz49_1 : w46.cell? ⟨gb159,1,none⟩ = some (.string a1_1):=(bC BK159.out 1).trans rfl;have hfz49_0:=bF BK159.out 0;have hfz49_1:=bF BK159.out 1)|(go_at_call 79;(with_reducible refine (impl_byName.calls ((rd_T53 l0 x40_2).f0) ((rd_T53 l0 x40_2).f1) a1_0 a1_1 t174 _ A36.out).mono ?_);rintro e w50 ⟨rfl,hb⟩;have n0_:=aM (rB (by (with_reducible repeat (first|apply rA|apply rN|apply rD));exact (Kd.R_mono (rF (rF (Kd.R_mono HO_0.out (fun k_ hk => (⟨hk,hk.2⟩ : _ ∧ k_ ≠ gb173))) (fun _ hk => hk.2) _) (fun _ hk => hk.2) _) (fun _ h_ => h_.1))) hb);have n1_:=aM (rB (by (with_reducible repeat (first|apply rA|apply rN|apply rD));exact (Kd.R_mono (rF (rF (Kd.R_mono HO_9.out (fun k_ hk => (⟨hk,hk.2⟩ : _ ∧ k_ ≠ gb173))) (fun _ hk => hk.2) _) (fun _ hk => hk.2) _) (fun _ h_ => h_.1))) hb);have n2_:=aM (rB (by (with_reducible repeat (first|apply rA|apply rN|apply rD));exact (Kd.R_mono (rF (rF (Kd.R_mono HO_38.out (fun k_ hk => (⟨hk,hk.2⟩ : _ ∧ k_ ≠ gb173))) (fun _ hk => hk.2) _) (fun _ hk => hk.2) _) (fun _ h_ => h_.1))) hb);have n3_:=aM (bB (g:=gb159) (o:=.cells #[.string a1_0,.string a1_1] 53 (0,0)) (by (with_reducible repeat (first|refine bN ?_ _|refine bD ?_|refine bA ?_ _));refine blk_far ?_ NB159_173.out _;(with_reducible repeat (first|refine bN ?_ _|refine bD ?_|refine bA ?_ _));refine blk_far ?_ NB159_173.out _;(with_reducible repeat (first|refine bN ?_ _|refine bD ?_|refine bA ?_ _));exact BK159.out) hb);have n4_:=aM (bB (g:=gb173) (o:=.cells #[.string ((rd_T53 l0 x40_2).f0),.string ((rd_T53 l0 x40_2).f1)] 53 (0,0)) (by (with_reducible repeat (first|refine bN ?_ _|refine bD ?_|refine bA ?_ _));refine blk_put (cs:=#[.string ((rd_T53 l0 x40_2).f0),.string (⟨#[]⟩ : ByteArray)]) ?_ 1 _ rfl;(with_reducible repeat (first|refine bN ?_ _|refine bD ?_|refine bA ?_ _));refine blk_put (cs:=#[.string (⟨#[]⟩ : ByteArray),.string (⟨#[]⟩ : ByteArray)]) ?_ 0 _ rfl;(with_reducible repeat (first|refine bN ?_ _|refine bD ?_|refine bA ?_ _));exact BK173.out) hb);have n5_:=aM (Kept.below (S:=(fun k_ => P0_ k_)) (by repeat (first|(with_reducible first|exact HK.out|apply Kept.alloc|apply Kept.drewN|apply Kept.drew|refine Kept.setCell ?_ (.inr GW159.out) _|refine Kept.setCell ?_ (.inr GW173.out) _)|exact HK.out)) hb);have n6_:=aM (lQ HB.out hb);clear HO_0 HO_9 HO_38 BK159 BK173 HK HB;have HO_0:=n0_;have HO_9:=n1_;have HO_38:=n2_;have BK159:=n3_;have BK173:=n4_;have HK:=n5_;have HB:=n6_;clear n0_ n1_ n2_ n3_ n4_ n5_ n6_;(try clear hb);(try clear hb2);(try clear hk);(try clear hi)))
             go_roundg k2
             case measure => have:=HK1.out;have:=HK2.out;omega
             case rel => exact ⟨(x9_2),(wrap64 (x40_2 + 1)),(by first|rfl|(simp;done)|(simp [*];done)),H',⟨by have:=HK1.out;have:=HK2.out;omega⟩,⟨by (with_reducible repeat (first|apply rA|apply rN|apply rD));exact Kd.R_mono HO_0.out (fun _ hk => ⟨hk.1.1,⟨hk.1.2.1,hk.1.2.2⟩⟩)⟩,⟨by (with_reducible repeat (first|apply rA|apply rN|apply rD));exact Kd.R_mono HO_9.out (fun _ hk => ⟨hk.1.1,⟨hk.1.2.1,⟨hk.1.2.2.1,hk.1.2.2.2⟩⟩⟩)⟩,⟨by (with_reducible repeat (first|apply rA|apply rN|apply rD));exact Kd.R_mono HO_38.out (fun _ hk => ⟨hk.1.1,⟨hk.1.2.1,hk.1.2.2⟩⟩)⟩,⟨by (with_reducible repeat (first|refine bN ?_ _|refine bD ?_|refine bA ?_ _));exact BK159.out⟩,⟨by repeat (first|(with_reducible first|exact HK.out|apply Kept.alloc|apply Kept.drewN|apply Kept.drew|refine Kept.setCell ?_ (.inr GW159.out) _|refine Kept.setCell ?_ (.inr GW173.out) _)|exact HK.out)⟩,⟨by repeat (first|(with_reducible first|exact HB.out|apply lA|apply lN|apply lD|refine lS ?_ GE159.out|refine lS ?_ GE173.out)|exact HB.out)⟩⟩
           ·rw [if_neg c35] at H
            exact absurd H (by simp)
          ·rw [if_neg c34] at H
           exact absurd H (by simp)
         ·rw [if_neg c33] at H
          have c33b0 : decide (x40_2 < (l0.length : Int)) = false:=decide_eq_false c33
          clear c33
          by_cases c51 : (x9_2.length : Int) > a3
          ·rw [if_pos c51] at H
           have c51b0 : decide (a3 < (x9_2.length : Int)) = true:=decide_eq_true c51
           clear c51
           obtain rfl:=Option.some.inj H
           obtain ⟨Ao52,co52,eo52⟩:=Kd.R_slice HO_9.out
           subst eo52
           go_wp2
           go_ret
           exact ⟨_,by first|rfl|(simp [errW_none,errW_some] <;> rfl)|(simp only [← hji5];first|rfl|(simp [errW_none,errW_some] <;> rfl))|(simp [*,errW_none,errW_some] <;> rfl),by (with_reducible repeat (first|apply rA|apply rN|apply rD));exact Kd.R_mono HO_0.out (fun _ hk => hk.1),by repeat (first|(with_reducible first|exact HB.out|apply lA|apply lN|apply lD|refine lS ?_ GE159.out)|exact HB.out),by repeat (first|(with_reducible first|exact HK.out|apply Kept.alloc|apply Kept.drewN|apply Kept.drew|refine Kept.setCell ?_ (.inr GW159.out) _)|exact HK.out)⟩
          ·rw [if_neg c51] at H
           have c51b0 : decide (a3 < (x9_2.length : Int)) = false:=decide_eq_false c51
           clear c51
           obtain rfl:=Option.some.inj H
           obtain ⟨Ao53,co53,eo53⟩:=Kd.R_slice HO_9.out
           subst eo53
           go_wp2
           go_ret
           exact ⟨_,by first|rfl|(simp [errW_none,errW_some] <;> rfl)|(simp only [← hji5];first|rfl|(simp [errW_none,errW_some] <;> rfl))|(simp [*,errW_none,errW_some] <;> rfl),by (with_reducible repeat (first|apply rA|apply rN|apply rD));exact Kd.R_mono HO_9.out (fun _ hk => hk.1),by repeat (first|(with_reducible first|exact HB.out|apply lA|apply lN|apply lD|refine lS ?_ GE159.out)|exact HB.out),by repeat (first|(with_reducible first|exact HK.out|apply Kept.alloc|apply Kept.drewN|apply Kept.drew|refine Kept.setCell ?_ (.inr GW159.out) _)|exact HK.out)⟩
      ·rw [if_neg c30] at H
       exact absurd H (by simp)
  ·rw [if_neg c7] at H
   exact absurd H (by simp)
 ·rw [if_neg c6] at H
  exact absurd H (by simp)

end Go.Proofs.Ytodpkfidkilpdaa.QFnVars
