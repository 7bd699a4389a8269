-- A text of this session, made by wip/own_print.py (the kit's print with additions of ours).
import Derived.Test.YtodpkfidkilpdaaQFnVarsx0
import Derived.Test.YtodpkfidkilpdaaQFnVarsx3
import Derived.Test.YtodpkfidkilpdaaQFnVarsx4
import Derived.Test.YtodpkfidkilpdaaQFnVarsx5
namespace Go.Proofs.Ytodpkfidkilpdaa.QFnVars
open Go.RowKit Go.Proofs.YtodpkfidkilpdaaW.PrintWords Go.Proofs.YtodpkfidkilpdaaW.PrintLast Go.Proofs.YtodpkfidkilpdaaW.PrintMore
attribute [local go_sem] max2_int min2_int max_two min_two max_three min_three max_four min_four   -- for this text's walks alone
set_option linter.unusedVariables false
set_option linter.unusedSimpArgs false
open Bool renaming true → bT, false → bf
open Go.Proofs.YtodpkfidkilpdaaW.PrintWords.Kd renaming R_alloc → rA, R_drewN → rN, R_drew → rD, C_alloc → cA, C_drewN → cN, C_drew → cD, R_far → rF, R_below → rB, R_lower → rL, R_lt → rT, R_base → rS, C_below → cB, R_types → rY, R_elder' → rE, R_reads' → rR, R_new' → rW
open Go.Proofs.YtodpkfidkilpdaaW.PrintWords renaming blk_drewN → bN, blk_drew → bD, blk_alloc → bA, below_set → lS, pw_below_drewN → lN, below_drew1 → lD, below_alloc → lA, blk_cell → bC, blk_below → bB, below_size → lZ, below_step → lP, blk_lt → bL, blk_frozen → bF
open Go.Proofs.YtodpkfidkilpdaaW.PrintWords.Aside0 renaming mk → aM
theorem q_ia4 {α : Type} (l : List α) (i : Nat) (a : α) : l.toArray.setIfInBounds i a = (l.set i a).toArray := List.setIfInBounds_toArray ..
theorem q_cz4 {α : Type} (a b : α) (l : List α) : (a :: l).set 0 b = b :: l := rfl
theorem q_cs4 {α : Type} (a b : α) (l : List α) (n : Nat) : (a :: l).set (n + 1) b = a :: l.set n b := rfl

/-! ### impl_SetVar: function 29 -/
theorem impl_SetVar_apart {α β : Type} {d1 : Kd α} {d2 : Kd β} {e1 e2 : TypeId} {w : World} {b1 b2 : Nat} {ok1 ok2 : Nat → Prop} {v1 v2 : Value} {xs1 : List α} {xs2 : List β} (h1 : d1.R e1 w b1 ok1 v1 xs1) (h2 : d2.R e2 w b2 ok2 v2 xs2) (he : e2 ≠ e1) (k : Nat) (hk1 : some k = v1.ownBlock) : ¬ some k = v2.ownBlock := by
 obtain ⟨_, inner, ho, _⟩ := h1
 obtain ⟨cells, hc⟩ := own_typed ho k hk1.symm
 exact Kd.R_ne h2 hc he
theorem impl_SetVar_old {α : Type} {d : Kd α} {e : TypeId} {w : World} {b : Nat} {ok : Nat → Prop} {v : Value} {xs : List α} (h : d.R e w b ok v xs) (k : Nat) (hk : some k = v.ownBlock) : k < w.heap.size := by
 obtain ⟨inner, ho⟩ := Kd.R_own h
 exact own_lt ho k hk.symm
set_option maxHeartbeats 8000000 in
set_option maxRecDepth 100000 in
theorem impl_SetVar_set (k : Nat) (g : Nat) (u0 : Value) (A1 : Option Addr) (c1 : Nat) (l1 : List S53) (o : ByteArray) (a1 a2 : ByteArray) (x : ByteArray) (r : List S53) (w0 w : World) (hB : Below w0.heap.size w0 w) (hg : w0.heap.size ≤ g) (hb : w.heap[g]? = some (.cells #[.slice A1 l1.length c1,u0,.string o] 38 (0,0))) (ho : Kd.R k53 53 w w0.heap.size (fun _ => True) (.slice A1 l1.length c1) l1) (hx : impl_Cut.f a2 = some x) (h : impl_Var.f k l1 a1 x true 60 = some r) :
  Calls Try.prog 63 #[.pointer (some ⟨g,0,none⟩),.string a1,.string a2] w fun e w' => e = .returned (.tuple #[]) ∧ ∃ u1 : Value,w'.heap[g]? = some (.cells #[u1,u0,.string o] 38 (0,0)) ∧ Kd.R k53 53 w' w0.heap.size (fun _ => True) u1 r ∧ Below w0.heap.size w0 w' ∧ Kept w w' (fun k => k = g ∨ some k = (Value.slice A1 l1.length c1).ownBlock):=by
 have hu38:=Try.underlying38
 have hu53:=Try.underlying53
 have Ax:=aM hx
 have AH:=aM h
 have BK0:=aM hb
 have HO:=aM (Kd.R_tight rfl ho)
 have HB:=aM hB
 have HG:=aM hg
 have HK:=aM (Kept.refl w (fun k => k = g ∨ some k = (Value.slice A1 l1.length c1).ownBlock))
 clear hB hb ho h hx
 have hczw_0 : w.cell? ⟨g,0,none⟩ = some (.slice A1 l1.length c1):=(bC BK0.out 0).trans rfl
 have hczw_1 : w.cell? ⟨g,1,none⟩ = some (u0):=(bC BK0.out 1).trans rfl
 have hczw_2 : w.cell? ⟨g,2,none⟩ = some (.string o):=(bC BK0.out 2).trans rfl
 have hfzw_0:=bF BK0.out 0
 have hfzw_1:=bF BK0.out 1
 have hfzw_2:=bF BK0.out 2
 go_enter Try.func63,Try.ntmps63
 have n0_:=aM ((by repeat (first|exact HB.out|apply lA|apply lN|apply lD)) : Below w0.heap.size w0 (w).drew)
 have n1_:=aM ((by (with_reducible repeat (first|refine bN ?_ _|refine bD ?_|refine bA ?_ _));exact BK0.out) : (w).drew.heap[g]? = some (.cells #[.slice A1 l1.length c1,u0,.string o] 38 (0,0)))
 have n2_:=aM ((rZ HO.out) : Kd.R k53 53 (w).drew w0.heap.size (fun k => some k = (Value.slice A1 l1.length c1).ownBlock) (.slice A1 l1.length c1) l1)
 have n3_:=aM ((by (with_reducible repeat (first|apply Kept.drewN|apply Kept.drew));exact HK.out) : Kept w (w).drew (fun k => k = g ∨ some k = (Value.slice A1 l1.length c1).ownBlock))
 clear HB BK0 HO HK
 have HB:=n0_
 have BK0:=n1_
 have HO:=n2_
 have HK:=n3_
 clear n0_ n1_ n2_ n3_
 refine start_ (n:=13) (S:=fun w' => w'.cell? ⟨g,0,none⟩ = some (.slice A1 l1.length c1) ∧ w'.cell? ⟨g,1,none⟩ = some (u0) ∧ w'.cell? ⟨g,2,none⟩ = some (.string o)) (ds:=[9,12]) #[bf,bf,bf,bf,bf,bf,bf,bf,bf,bf,bf,bf,bf] (by kernel_rfl) rfl rfl ⟨(bC BK0.out 0).trans rfl,(bC BK0.out 1).trans rfl,(bC BK0.out 2).trans rfl⟩ (fun hHeld => ?_)
 generalize (w).drew = w8 at HB BK0 HO HK hHeld ⊢
 refine pure_ (i:=0) (N:=some 6) (v:=?_) (a':=?_) #[bT,bf,bf,bf,bf,bf,bf,bf,bf,bf,bf,bf,bf] rfl rfl (by kernel_rfl) (fun _ _ _ h => h) (Or.inl ⟨by rfl,?_⟩) ?_ ?_
 rotate_left
 ·intro w';go_simp;with_reducible rfl
 rotate_left
 ·simp only [Act.put,q_ia4,q_cz4,q_cs4,i64_w,i32_w];rfl
 refine pure_ (i:=1) (N:=some 7) (v:=?_) (a':=?_) #[bT,bT,bf,bf,bf,bf,bf,bf,bf,bf,bf,bf,bf] rfl rfl (by kernel_rfl) (fun _ _ _ h => h) (Or.inl ⟨by rfl,?_⟩) ?_ ?_
 rotate_left
 ·intro w';go_simp;with_reducible rfl
 rotate_left
 ·simp only [Act.put,q_ia4,q_cz4,q_cs4,i64_w,i32_w];rfl
 refine pure_ (i:=2) (N:=some 8) (v:=?_) (a':=?_) #[bT,bT,bT,bf,bf,bf,bf,bf,bf,bf,bf,bf,bf] rfl rfl (by kernel_rfl) (fun _ _ _ h => h) (Or.inl ⟨by rfl,?_⟩) ?_ ?_
 rotate_left
 ·intro w';go_simp;with_reducible rfl
 rotate_left
 ·simp only [Act.put,q_ia4,q_cz4,q_cs4,i64_w,i32_w];rfl
 refine pure_ (i:=3) (N:=some 9) (v:=?_) (a':=?_) #[bT,bT,bT,bT,bf,bf,bf,bf,bf,bf,bf,bf,bf] rfl rfl (by kernel_rfl) (fun _ _ _ h => h) (Or.inl ⟨by rfl,?_⟩) ?_ ?_
 rotate_left
 ·intro w';go_simp;with_reducible rfl
 rotate_left
 ·simp only [Act.put,q_ia4,q_cz4,q_cs4,i64_w,i32_w];rfl
 refine take_ (i:=4) (N:=some 10) (v:=?_) (a':=?_) #[bT,bT,bT,bT,bT,bf,bf,bf,bf,bf,bf,bf,bf] rfl rfl (by kernel_rfl) (fun _ _ _ h => h) (Or.inl ⟨by rfl,?_⟩) hHeld ?_ ?_
 rotate_left
 ·rintro w' ⟨s0,s1,s2⟩
  go_simp
  with_reducible rfl
 rotate_left
 ·simp only [Act.put,q_ia4,q_cz4,q_cs4,i64_w,i32_w];rfl
 refine pure_ (i:=5) (N:=some 11) (v:=?_) (a':=?_) #[bT,bT,bT,bT,bT,bT,bf,bf,bf,bf,bf,bf,bf] rfl rfl (by kernel_rfl) (fun _ _ _ h => h) (Or.inl ⟨by rfl,?_⟩) ?_ ?_
 rotate_left
 ·intro w';go_simp;with_reducible rfl
 rotate_left
 ·simp only [Act.put,q_ia4,q_cz4,q_cs4,i64_w,i32_w];rfl
 refine pure_ (i:=6) (N:=some 12) (v:=?_) (a':=?_) #[bT,bT,bT,bT,bT,bT,bT,bf,bf,bf,bf,bf,bf] rfl rfl (by kernel_rfl) (fun _ _ _ h => h) (Or.inl ⟨by rfl,?_⟩) ?_ ?_
 rotate_left
 ·intro w';go_simp;with_reducible rfl
 rotate_left
 ·simp only [Act.put,q_ia4,q_cz4,q_cs4,i64_w,i32_w];rfl
 refine one_ (i:=7) (N:=some 13) #[bT,bT,bT,bT,bT,bT,bT,bT,bf,bf,bf,bf,bf] rfl rfl (by kernel_rfl) (by decide) (fun K hK => ?_)
 refine goes_ Try.func42 (by kernel_rfl) rfl #[.string a2] (by rfl) rfl rfl (by (try simp only [List.map_toArray,List.map_cons,List.map_nil]);first|done|rfl) ?_
 refine (impl_Cut.calls a2 x _ Ax.out).mono ?_
 rintro e w4 ⟨rfl,hb⟩
 refine ⟨_,rfl,?_⟩
 have n0_:=aM (lP HB.out hb)
 have n1_:=aM (bB BK0.out hb)
 have n2_:=aM (rB HO.out hb)
 have n3_:=aM (Kept.below HK.out hb)
 clear hb hHeld
 clear HB BK0 HO HK
 have HB:=n0_
 have BK0:=n1_
 have HO:=n2_
 have HK:=n3_
 clear n0_ n1_ n2_ n3_
 refine hK.out _ _ ⟨(bC BK0.out 0).trans rfl,(bC BK0.out 1).trans rfl,(bC BK0.out 2).trans rfl⟩ (fun hHeld => ?_)
 clear hK K
 refine norm_ (a':=?_) ?_ ?_
 rotate_left
 ·show Act.put _ (some 13) _ = _
  simp only [Act.put,q_ia4,q_cz4,q_cs4,i64_w,i32_w]
  rfl
 refine pure_ (i:=8) (N:=some 14) (v:=?_) (a':=?_) #[bT,bT,bT,bT,bT,bT,bT,bT,bT,bf,bf,bf,bf] rfl rfl (by kernel_rfl) (fun _ _ _ h => h) (Or.inl ⟨by rfl,?_⟩) ?_ ?_
 rotate_left
 ·intro w';go_simp;with_reducible rfl
 rotate_left
 ·simp only [Act.put,q_ia4,q_cz4,q_cs4,i64_w,i32_w];rfl
 refine last_ (i:=9) (N:=some 15) #[bT,bT,bT,bT,bT,bT,bT,bT,bT,bT,bf,bf,bf] rfl rfl (by kernel_rfl) (by decide) (fun K hK => ?_)
 refine goes_ Try.func78 (by kernel_rfl) rfl #[.slice A1 l1.length c1,.agg #[.string a1,.string x],(.func (.func 79) #[] #[]),.int .i64 60] (by rfl) rfl rfl (by (try simp only [List.map_toArray,List.map_cons,List.map_nil]);first|done|rfl) ?_
 refine (impl_Var.calls k (fun k => some k = (Value.slice A1 l1.length c1).ownBlock) (.slice A1 l1.length c1) l1 a1 x true 60 r w0 _ HB.out HO.out AH.out).mono ?_
 rintro e w9 ⟨u9,rfl,ho9,hb9,hk9⟩
 refine ⟨_,rfl,?_⟩
 obtain ⟨A9,c9,e9⟩:=Kd.R_slice ho9
 subst e9
 have n1_:=aM (blk_kept BK0.out hk9 (fun hP => Kd.R_ne HO.out BK0.out (by decide) hP))
 have n3_:=aM (Kept.then_ HK.out hk9 (fun k hP => .inl (.inr hP)))
 have n2_:=aM ho9
 have n0_:=aM hb9
 clear hb9 hk9 ho9 hHeld
 clear HB BK0 HO HK
 have HB:=n0_
 have BK0:=n1_
 have HO:=n2_
 have HK:=n3_
 clear n0_ n1_ n2_ n3_
 refine hK.out _ _ ?_
 clear hK K
 refine norm_ (a':=?_) ?_ ?_
 rotate_left
 ·show Act.put _ (some 15) _ = _
  simp only [Act.put,q_ia4,q_cz4,q_cs4,i64_w,i32_w]
  rfl
 refine pure_ (i:=10) (N:=some 16) (v:=?_) (a':=?_) #[bT,bT,bT,bT,bT,bT,bT,bT,bT,bT,bT,bf,bf] rfl rfl (by kernel_rfl) (fun _ _ _ h => h) (Or.inl ⟨by rfl,?_⟩) ?_ ?_
 rotate_left
 ·intro w';go_simp;with_reducible rfl
 rotate_left
 ·simp only [Act.put,q_ia4,q_cz4,q_cs4,i64_w,i32_w];rfl
 refine pure_ (i:=11) (N:=some 17) (v:=?_) (a':=?_) #[bT,bT,bT,bT,bT,bT,bT,bT,bT,bT,bT,bT,bf] rfl rfl (by kernel_rfl) (fun _ _ _ h => h) (Or.inl ⟨by rfl,?_⟩) ?_ ?_
 rotate_left
 ·intro w';go_simp;with_reducible rfl
 rotate_left
 ·simp only [Act.put,q_ia4,q_cz4,q_cs4,i64_w,i32_w];rfl
 refine last_ (i:=12) (N:=none) #[bT,bT,bT,bT,bT,bT,bT,bT,bT,bT,bT,bT,bT] rfl rfl (by kernel_rfl) (by decide) (fun K hK => ?_)
 have hs27 : w9.cell? ⟨g,0,none⟩ = some (.slice A1 l1.length c1):=(bC BK0.out 0).trans rfl
 have hfs27:=bF BK0.out 0
 refine skip_ (w1:=?_) (by rfl) rfl ?_ ?_
 rotate_left
 ·go_simp
  rfl
 refine hK.out _ _ ?_
 clear hK K
 refine done_ (by kernel_rfl) ?_
 try go_wp2
 first|go_end0|((try simp only [Exit.inBlock,Exit.then]);refine bodyPost_ret (results_none rfl _ _ _) rfl ?_)
 exact ⟨rfl,.slice A9 r.length c9,(by (with_reducible repeat (first|refine bN ?_ _|refine bD ?_|refine bA ?_ _));refine blk_put (cs:=#[.slice A1 l1.length c1,u0,.string o]) ?_ 0 _ rfl;(with_reducible repeat (first|refine bN ?_ _|refine bD ?_|refine bA ?_ _));exact BK0.out),(by (with_reducible repeat (first|apply rA|apply rN|apply rD));exact Kd.R_mono (rF (rY HO.out BK0.out (by decide)) (fun _ hk => hk.2) _) (fun _ _ => trivial)),(by repeat (first|exact HB.out|apply lA|apply lN|apply lD|refine lS ?_ HG.out)),(by (with_reducible repeat (first|apply Kept.drewN|apply Kept.drew));exact Kept.setCell HK.out (p:=⟨g,0,none⟩) (.inl (.inl rfl)) _)⟩
def impl_SetVar.f (k : Nat) (l0_0 : List S53) (l0_1 : List S57) (a0_2 : ByteArray) (a1 : ByteArray) (a2 : ByteArray) : Option ((List (S53)) × (List (S57)) × ByteArray):=(impl_copyStore.f l0_0 l0_1 a0_2).bind fun bt => ((impl_Cut.f a2).bind fun x => ((impl_Var.f k bt.1 a1 x true 60).bind fun t => (some (t,bt.2.1,bt.2.2))))
theorem impl_SetVar.mono : ∀ b0 b1 b2 b3 b4 k,LeO (impl_SetVar.f k b0 b1 b2 b3 b4) (impl_SetVar.f (k + 1) b0 b1 b2 b3 b4):=by
 intro b0 b1 b2 b3 b4 k
 unfold impl_SetVar.f
 refine LeO.bind (LeO.refl _) (fun _ => ?_)
 refine LeO.bind (LeO.refl _) (fun _ => ?_)
 exact LeO.bind (impl_Var.mono _ _ _ _ _ k) (fun _ => LeO.refl _)
set_option maxHeartbeats 8000000 in
set_option maxRecDepth 100000 in
theorem impl_SetVar.calls (k : Nat) (A0_0 : Option Addr) (c0_0 : Nat) (l0_0 : List (S53)) (A0_1 : Option Addr) (c0_1 : Nat) (l0_1 : List (S57)) (a0_2 : ByteArray) (a1 : ByteArray) (a2 : ByteArray) (r1 : List (S53)) (r2 : List (S57)) (r3 : ByteArray) (w : World) (hr0_0 : Kd.C k53 w A0_0 l0_0.length l0_0) (hc0_0 : l0_0.length ≤ c0_0) (hr0_1 : Kd.C k57 w A0_1 l0_1.length l0_1) (hc0_1 : l0_1.length ≤ c0_1) (h : impl_SetVar.f k l0_0 l0_1 a0_2 a1 a2 = some (r1,r2,r3)) :
  Calls Try.prog 29 #[.agg #[.slice A0_0 l0_0.length c0_0,.slice A0_1 l0_1.length c0_1,.string a0_2],.string a1,.string a2] w fun e w' => ∃ v0_ v1_ : Value,e = .returned (.agg #[v0_,v1_,.string r3]) ∧ Kd.R k53 53 w' w.heap.size (fun _ => True) v0_ r1 ∧ Kd.R k57 57 w' w.heap.size (fun _ => True) v1_ r2 ∧ Below w.heap.size w w':=by
 have HR0_0:=aM hr0_0
 have HC0_0:=aM hc0_0
 clear hr0_0 hc0_0
 have HR0_1:=aM hr0_1
 have HC0_1:=aM hc0_1
 clear hr0_1 hc0_1
 have HB:=aM (Below.refl w.heap.size w)
 have H:=Option.bind_eq_some_iff.mp h
 clear h
 obtain ⟨⟨t1,t2,t3⟩,A30,H⟩:=H
 replace H:=Option.bind_eq_some_iff.mp H
 obtain ⟨x,Ax,H⟩:=H
 replace H:=Option.bind_eq_some_iff.mp H
 obtain ⟨t4,A40,H⟩:=H
 have A3:=aM A30
 have A4:=aM A40
 have AAx:=aM Ax
 clear A30 A40 Ax
 simp only [Option.some.injEq,Prod.mk.injEq] at H
 obtain ⟨rfl,rfl,rfl⟩:=H
 have hu38:=Try.underlying38
 go_enter Try.func29,Try.ntmps29
 go_wp2_with (first|((with_reducible refine gate_dst (N:=3) rfl ?_);refine box_event ?hg (N:=3) ?hd (cs:=#[.slice A0_0 l0_0.length c0_0,.slice A0_1 l0_1.length c0_1,.string a0_2]) (t:=38) ?hr ?_;(case hd => rfl);(case hg => rfl);(case hr => first|(go_simp;done)|(go_simp;rfl));intro gb10 hg w7 hbox hb;have n0_:=aM (lQ HB.out hb);have n1_:=aM hbox;have n2_:=aM ((by rw [hg];exact (lZ (by repeat (first|(with_reducible first|exact HB.out|apply lA|apply lN|apply lD)|exact HB.out)))) : w.heap.size ≤ gb10);clear HB;have HB:=n0_;have BK10:=n1_;have GE10:=n2_;clear n0_ n1_ n2_ hb hbox hg)|((with_reducible refine gate_dst (N:=6) rfl ?_);refine box_event ?hg (N:=6) ?hd (cs:=#[.slice none 0 0,.slice none 0 0,.string (⟨#[]⟩ : ByteArray)]) (t:=38) ?hr ?_;(case hd => rfl);(case hg => rfl);(case hr => first|(go_simp;done)|(go_simp;rfl));intro gb11 hg w8 hbox hb;have n0_:=aM (bH BK10.out hb);have n1_:=aM (lQ HB.out hb);have n2_:=aM hbox;have n3_:=aM ((by rw [hg];exact (lZ (by repeat (first|(with_reducible first|exact HB.out|apply lA|apply lN|apply lD|refine lS ?_ GE10.out)|exact HB.out)))) : w.heap.size ≤ gb11);have n5_:=aM ((by rw [hg];exact Nat.ne_of_lt (bL (g:=gb10) (o:=.cells #[.slice A0_0 l0_0.length c0_0,.slice A0_1 l0_1.length c0_1,.string a0_2] 38 (0,0)) (by (with_reducible repeat (first|refine bN ?_ _|refine bD ?_|refine bA ?_ _));exact BK10.out))) : gb10 ≠ gb11);clear BK10 HB;have BK10:=n0_;have HB:=n1_;have BK11:=n2_;have GE11:=n3_;have NB10_11:=n5_;clear n0_ n1_ n2_ n3_ n5_ hb hbox hg;have hnb9:=NB10_11.out;have hnc9:=NB10_11.out.symm;have hcz10_0 : w8.cell? ⟨gb10,0,none⟩ = some (.slice A0_0 l0_0.length c0_0):=(bC BK10.out 0).trans rfl;have hcz10_1 : w8.cell? ⟨gb10,1,none⟩ = some (.slice A0_1 l0_1.length c0_1):=(bC BK10.out 1).trans rfl;have hcz10_2 : w8.cell? ⟨gb10,2,none⟩ = some (.string a0_2):=(bC BK10.out 2).trans rfl;have hcz10f_0:=bF BK10.out 0;have hcz10f_1:=bF BK10.out 1;have hcz10f_2:=bF BK10.out 2)|((with_reducible refine gate_callee (f:=54) rfl ?_);refine goesL_ (some 9) rfl rfl Try.func54 (by kernel_rfl) rfl #[.agg #[.slice A0_0 l0_0.length c0_0,.slice A0_1 l0_1.length c0_1,.string a0_2]] rfl (by (try simp only [List.map_toArray,List.map_cons,List.map_nil]);first|done|rfl|(simp only [List.length_drop,List.length_take];rfl)) ?_;(with_reducible refine (impl_copyStore.calls _ _ l0_0 _ _ l0_1 a0_2 t1 t2 t3 _ ?side1 ?side2 ?side3 ?side4 A3.out).mono ?_);(case side1 => repeat (first|exact (cB HR0_0.out HB.out)|(with_reducible first|refine cA ?_ _|refine cN ?_ _|refine cD ?_)));(case side2 => exact HC0_0.out);(case side3 => repeat (first|exact (cB HR0_1.out HB.out)|(with_reducible first|refine cA ?_ _|refine cN ?_ _|refine cD ?_)));(case side4 => exact HC0_1.out);rintro e w11 ⟨v13,v16,rfl,ho0,ho1,hb⟩;refine ⟨_,rfl,?_⟩;obtain ⟨Ao1,co1,eo1⟩:=Kd.R_slice ho0;subst eo1;obtain ⟨Ao2,co2,eo2⟩:=Kd.R_slice ho1;subst eo2;have n0_:=aM (rL ho0 (lZ (by repeat (first|(with_reducible first|exact HB.out|apply lA|apply lN|apply lD|refine lS ?_ GE10.out|refine lS ?_ GE11.out)|exact HB.out))));have n1_:=aM (rL ho1 (lZ (by repeat (first|(with_reducible first|exact HB.out|apply lA|apply lN|apply lD|refine lS ?_ GE10.out|refine lS ?_ GE11.out)|exact HB.out))));have n2_:=aM (bH BK10.out hb);have n3_:=aM (bH BK11.out hb);have n4_:=aM (lQ HB.out hb);clear BK10 BK11 HB;have HO1:=n0_;have HO2:=n1_;have BK10:=n2_;have BK11:=n3_;have HB:=n4_;clear n0_ n1_ n2_ n3_ n4_ hb ho0 ho1)|((with_reducible refine gate_dst (N:=7) rfl ?_);refine box_event ?hg (N:=7) ?hd (cs:=#[.slice none 0 0,.slice none 0 0,.string (⟨#[]⟩ : ByteArray)]) (t:=38) ?hr ?_;(case hd => rfl);(case hg => rfl);(case hr => first|(go_simp;done)|(go_simp;rfl));intro gb19 hg w12 hbox hb;have SHG:=aM ((by rw [hg];exact Nat.le_refl _) : w11.heap.size ≤ gb19);have SHB:=aM ((by (with_reducible repeat (first|apply lN|apply lD));exact hb) : Below w11.heap.size w11 w12);have n5_:=aM hbox;have n8_:=aM ((by rw [hg];exact Nat.ne_of_lt (bL (g:=gb10) (o:=.cells #[.slice A0_0 l0_0.length c0_0,.slice A0_1 l0_1.length c0_1,.string a0_2] 38 (0,0)) (by (with_reducible repeat (first|refine bN ?_ _|refine bD ?_|refine bA ?_ _));exact BK10.out))) : gb10 ≠ gb19);have n10_:=aM ((by rw [hg];exact Nat.ne_of_lt (bL (g:=gb11) (o:=.cells #[.slice none 0 0,.slice none 0 0,.string (⟨#[]⟩ : ByteArray)] 38 (0,0)) (by (with_reducible repeat (first|refine bN ?_ _|refine bD ?_|refine bA ?_ _));exact BK11.out))) : gb11 ≠ gb19);have BK19:=n5_;have NB10_19:=n8_;have NB11_19:=n10_;clear n5_ n8_ n10_ hb hbox hg;have hnb14:=NB10_19.out;have hnc14:=NB10_19.out.symm;have hnb15:=NB11_19.out;have hnc15:=NB11_19.out.symm;have hcz16_0 : w12.cell? ⟨gb19,0,none⟩ = some (.slice none 0 0):=(bC BK19.out 0).trans rfl;have hcz16_1 : w12.cell? ⟨gb19,1,none⟩ = some (.slice none 0 0):=(bC BK19.out 1).trans rfl;have hcz16_2 : w12.cell? ⟨gb19,2,none⟩ = some (.string (⟨#[]⟩ : ByteArray)):=(bC BK19.out 2).trans rfl;have hcz16f_0:=bF BK19.out 0;have hcz16f_1:=bF BK19.out 1;have hcz16f_2:=bF BK19.out 2)|((with_reducible refine gate_callee (f:=63) rfl ?_);have hW1 : Kd.R k53 53 (((w12.setCell ⟨gb19,0,none⟩ (.slice Ao1 t1.length co1)).setCell ⟨gb19,1,none⟩ (.slice Ao2 t2.length co2)).setCell ⟨gb19,2,none⟩ (.string t3)) w.heap.size (fun _ => True) (.slice Ao1 t1.length co1) t1:=(by (with_reducible repeat (first|apply rA|apply rN|apply rD));exact Kd.R_mono (rF (rF (rF (rY (rB HO1.out SHB.out) BK19.out (by decide)) (fun _ hk => hk.2) _) (fun _ hk => hk.2) _) (fun _ hk => hk.2) _) (fun _ _ => trivial));have hW2 : Kd.R k57 57 (((w12.setCell ⟨gb19,0,none⟩ (.slice Ao1 t1.length co1)).setCell ⟨gb19,1,none⟩ (.slice Ao2 t2.length co2)).setCell ⟨gb19,2,none⟩ (.string t3)) w.heap.size (fun _ => True) (.slice Ao2 t2.length co2) t2:=(by (with_reducible repeat (first|apply rA|apply rN|apply rD));exact Kd.R_mono (rF (rF (rF (rY (rB HO2.out SHB.out) BK19.out (by decide)) (fun _ hk => hk.2) _) (fun _ hk => hk.2) _) (fun _ hk => hk.2) _) (fun _ _ => trivial));have hB11 : (((w12.setCell ⟨gb19,0,none⟩ (.slice Ao1 t1.length co1)).setCell ⟨gb19,1,none⟩ (.slice Ao2 t2.length co2)).setCell ⟨gb19,2,none⟩ (.string t3)).heap[gb11]? = some (.cells #[.slice none 0 0,.slice none 0 0,.string (⟨#[]⟩ : ByteArray)] 38 (0,0)):=(by (with_reducible repeat (first|refine bN ?_ _|refine bD ?_|refine bA ?_ _));refine blk_far ?_ NB11_19.out _;refine blk_far ?_ NB11_19.out _;refine blk_far ?_ NB11_19.out _;(with_reducible repeat (first|refine bN ?_ _|refine bD ?_|refine bA ?_ _));exact bB BK11.out SHB.out);have hB19 : (((w12.setCell ⟨gb19,0,none⟩ (.slice Ao1 t1.length co1)).setCell ⟨gb19,1,none⟩ (.slice Ao2 t2.length co2)).setCell ⟨gb19,2,none⟩ (.string t3)).heap[gb19]? = some (.cells #[.slice Ao1 t1.length co1,.slice Ao2 t2.length co2,.string t3] 38 (0,0)):=(by (with_reducible repeat (first|refine bN ?_ _|refine bD ?_|refine bA ?_ _));refine blk_put (cs:=#[.slice Ao1 t1.length co1,.slice Ao2 t2.length co2,.string (⟨#[]⟩ : ByteArray)]) ?_ 2 _ rfl;refine blk_put (cs:=#[.slice Ao1 t1.length co1,.slice none 0 0,.string (⟨#[]⟩ : ByteArray)]) ?_ 1 _ rfl;refine blk_put (cs:=#[.slice none 0 0,.slice none 0 0,.string (⟨#[]⟩ : ByteArray)]) ?_ 0 _ rfl;(with_reducible repeat (first|refine bN ?_ _|refine bD ?_|refine bA ?_ _));exact BK19.out);refine goesL_ (some 12) rfl rfl Try.func63 (by kernel_rfl) rfl #[.pointer (some ⟨gb19,0,none⟩),.string a1,.string a2] rfl (by (try simp only [List.map_toArray,List.map_cons,List.map_nil]);first|done|rfl) ?_;refine (impl_SetVar_set k gb19 (.slice Ao2 t2.length co2) Ao1 co1 t1 t3 a1 a2 x t4 w _ ?side1 ?side2 hB19 hW1 AAx.out A4.out).mono ?_;(case side1 => repeat (first|exact lP HB.out SHB.out|apply lA|apply lN|apply lD|refine lS ?_ (Nat.le_trans HB.out.size SHG.out)));(case side2 => exact Nat.le_trans HB.out.size SHG.out);rintro e w13 ⟨rfl,u9,hblk,ho9,hb9,hk9⟩;refine ⟨_,rfl,?_⟩;obtain ⟨A9,c9,e9⟩:=Kd.R_slice ho9;subst e9;have n3_:=aM (blk_kept hB11 hk9 (fun hP => hP.elim (fun e_ => NB11_19.out e_) (fun e_ => Kd.R_ne hW1 hB11 (by decide) e_)));have n0_:=aM (Kd.R_mono (ok':=fun _ => True) (Kd.R_kept (Kd.R_tight rfl hW2) hk9 (fun k_ hk_ h_ => h_.elim (fun e_ => Kd.R_ne hW2 hB19 (by decide) (e_ ▸ hk_)) (fun e_ => impl_SetVar_apart hW2 hW1 (by decide) k_ hk_ e_))) (fun _ _ => trivial));have n1_:=aM ho9;have n4_:=aM hb9;have n5_:=aM hblk;clear hblk hb9 hk9 ho9 hW1 hW2 hB11 hB19 BK10 BK11 BK19 HB HO1 HO2;have HO2:=n0_;have HO1:=n1_;have BK11:=n3_;have HB:=n4_;have BK19:=n5_;clear n0_ n1_ n3_ n4_ n5_;have hcz17_0 : w13.cell? ⟨gb19,0,none⟩ = some (.slice A9 t4.length c9):=(bC BK19.out 0).trans rfl;have hcz17_1 : w13.cell? ⟨gb19,1,none⟩ = some (.slice Ao2 t2.length co2):=(bC BK19.out 1).trans rfl;have hcz17_2 : w13.cell? ⟨gb19,2,none⟩ = some (.string t3):=(bC BK19.out 2).trans rfl;have hcz17f_0:=bF BK19.out 0;have hcz17f_1:=bF BK19.out 1;have hcz17f_2:=bF BK19.out 2;have hcz18_0 : w13.cell? ⟨gb11,0,none⟩ = some (.slice none 0 0):=(bC BK11.out 0).trans rfl;have hcz18_1 : w13.cell? ⟨gb11,1,none⟩ = some (.slice none 0 0):=(bC BK11.out 1).trans rfl;have hcz18_2 : w13.cell? ⟨gb11,2,none⟩ = some (.string (⟨#[]⟩ : ByteArray)):=(bC BK11.out 2).trans rfl;have hcz18f_0:=bF BK11.out 0;have hcz18f_1:=bF BK11.out 1;have hcz18f_2:=bF BK11.out 2))
 refine bodyPost_ret (results_cell_row rfl _ _ gb11 38 #[.slice A9 t4.length c9,.slice Ao2 t2.length co2,.string t3] (0,0) _ rfl (by (with_reducible repeat (first|refine bN ?_ _|refine bD ?_|refine bA ?_ _));refine blk_put (cs:=#[.slice A9 t4.length c9,.slice Ao2 t2.length co2,.string (⟨#[]⟩ : ByteArray)]) ?_ 2 _ rfl;refine blk_put (cs:=#[.slice A9 t4.length c9,.slice none 0 0,.string (⟨#[]⟩ : ByteArray)]) ?_ 1 _ rfl;refine blk_put (cs:=#[.slice none 0 0,.slice none 0 0,.string (⟨#[]⟩ : ByteArray)]) ?_ 0 _ rfl;(with_reducible repeat (first|refine bN ?_ _|refine bD ?_|refine bA ?_ _));exact BK11.out) Try.underlying38 rfl (by kernel_rfl)) rfl ?_
 exact ⟨_,_,rfl,(by (with_reducible repeat (first|apply rA|apply rN|apply rD));exact (Kd.R_mono (rF (rF (rF (rY HO1.out BK11.out (by decide)) (fun _ hk => hk.2) _) (fun _ hk => hk.2) _) (fun _ hk => hk.2) _) (fun _ hk => trivial))),(by (with_reducible repeat (first|apply rA|apply rN|apply rD));exact (Kd.R_mono (rF (rF (rF (rY HO2.out BK11.out (by decide)) (fun _ hk => hk.2) _) (fun _ hk => hk.2) _) (fun _ hk => hk.2) _) (fun _ hk => trivial))),(by repeat (first|(with_reducible first|exact HB.out|apply lA|apply lN|apply lD|refine lS ?_ GE10.out|refine lS ?_ GE11.out)|exact HB.out))⟩

/-- A state of type 88 at block g of W; what its slices lead to came in by w0. -/
def IsS88 (w0 W : World) (g : Nat) (f0 : List Int) (f1 : Int) (f2 : Int) : Prop:=∃ A0 c0,W.heap[g]? = some (.cells #[.slice A0 f0.length c0,.int .i64 f1,.int .i64 f2] 88 (0,0)) ∧ w0.heap.size ≤ g ∧ Kd.C (Kd.int .u8) w0 A0 f0.length f0
theorem IsS88.grown {w0 W : World} {g : Nat} {f0 : List Int} {f1 : Int} {f2 : Int} {W1 : World} {row : Option Nat} (h : IsS88 w0 W g f0 f1 f2) (hw : W.grownBy W1 row) (hne : some g ≠ row) : IsS88 w0 W1 g f0 f1 f2:=by
 obtain ⟨A0,c0,hb,hg,hr0⟩:=h
 exact ⟨A0,c0,blk_grown hb hw hne,hg,hr0⟩
theorem IsS88.own_neN {w0 W : World} {g : Nat} {f0 : List Int} {f1 : Int} {f2 : Int} {α : Type} {d : Kd α} {e : Nat} {base : Nat} {ok : Nat → Prop} {v : Value} {xs : List α} (h : IsS88 w0 W g f0 f1 f2) (ho : Kd.N d e W base ok v xs) (ht : e ≠ 88) : some g ≠ v.ownBlock:=by
 obtain ⟨A0,c0,hb,hg,hr0⟩:=h
 exact Kd.N_ne ho hb ht
theorem IsS88.fresh {w0 W : World} {g : Nat} {f0 : List Int} {f1 : Int} {f2 : Int} (h : IsS88 w0 W g f0 f1 f2) : ∀ k,W.heap.size ≤ k → k ≠ g:=by
 obtain ⟨A0,c0,hb,hg,hr0⟩:=h
 exact Kd.freshB hb
theorem IsS88.kept {w0 W : World} {g : Nat} {f0 : List Int} {f1 : Int} {f2 : Int} {W1 : World} {S : Nat → Prop} (h : IsS88 w0 W g f0 f1 f2) (hk : Kept W W1 S) (hne : ¬ S g) : IsS88 w0 W1 g f0 f1 f2:=by
 obtain ⟨A0,c0,hb,hg,hr0⟩:=h
 exact ⟨A0,c0,blk_kept hb hk hne,hg,hr0⟩
theorem IsS88.below {w0 W : World} {g : Nat} {f0 : List Int} {f1 : Int} {f2 : Int} {W1 : World} (h : IsS88 w0 W g f0 f1 f2) (hw : Below W.heap.size W W1) : IsS88 w0 W1 g f0 f1 f2:=h.grown (grown_of_below hw none) (by simp)
theorem IsS88.alloc {w0 W : World} {g : Nat} {f0 : List Int} {f1 : Int} {f2 : Int} (h : IsS88 w0 W g f0 f1 f2) (o : Obj) : IsS88 w0 (W.alloc o) g f0 f1 f2:=h.below (lA (Below.refl _ _) o)
theorem IsS88.drewN {w0 W : World} {g : Nat} {f0 : List Int} {f1 : Int} {f2 : Int} (h : IsS88 w0 W g f0 f1 f2) (m : Nat) : IsS88 w0 (W.drewN m) g f0 f1 f2:=h
theorem IsS88.drew {w0 W : World} {g : Nat} {f0 : List Int} {f1 : Int} {f2 : Int} (h : IsS88 w0 W g f0 f1 f2) : IsS88 w0 W.drew g f0 f1 f2:=h
theorem IsS88.at_ {w0 W : World} {g : Nat} {f0 : List Int} {f1 : Int} {f2 : Int} {w' : World} {m : Nat} (hq : W.drewN m = w') (h : IsS88 w0 W g f0 f1 f2) : IsS88 w0 w' g f0 f1 f2:=by subst hq;exact IsS88.drewN h m
theorem IsS88.apart {w0 W : World} {g : Nat} {f0 : List Int} {f1 : Int} {f2 : Int} {α : Type} {d : Kd α} {e : Nat} {base : Nat} {ok : Nat → Prop} {v : Value} {xs : List α} (h : IsS88 w0 W g f0 f1 f2) (ho : d.R e W base ok v xs) (ht : ∀ q,q ∈ e :: d.E → q ≠ 88) : d.R e W base (fun k => ok k ∧ k ≠ g) v xs:=by
 obtain ⟨A0,c0,hb,hg,hr0⟩:=h
 exact rY ho hb ht
theorem IsS88.own_ne {w0 W : World} {g : Nat} {f0 : List Int} {f1 : Int} {f2 : Int} {α : Type} {d : Kd α} {e : Nat} {base : Nat} {ok : Nat → Prop} {v : Value} {xs : List α} (h : IsS88 w0 W g f0 f1 f2) (ho : d.R e W base ok v xs) (ht : e ≠ 88) : some g ≠ v.ownBlock:=by
 obtain ⟨A0,c0,hb,hg,hr0⟩:=h
 exact Kd.R_ne ho hb ht
theorem IsS88.apartQ {w0 W : World} {g : Nat} {f0 : List Int} {f1 : Int} {f2 : Int} {α : Type} {d : Kd α} {e : Nat} {base : Nat} {ok : Nat → Prop} {v : Value} {xs : List α} (h : IsS88 w0 W g f0 f1 f2) (ho : d.Q e W base ok v xs) (ht : ∀ q,q ∈ e :: d.E → q ≠ 88) : d.Q e W base (fun k => ok k ∧ k ≠ g) v xs:=by
 obtain ⟨A0,c0,hb,hg,hr0⟩:=h
 exact Kd.Q_types ho hb ht
theorem IsS88.own_neQ {w0 W : World} {g : Nat} {f0 : List Int} {f1 : Int} {f2 : Int} {α : Type} {d : Kd α} {e : Nat} {base : Nat} {ok : Nat → Prop} {v : Value} {xs : List α} (h : IsS88 w0 W g f0 f1 f2) (ho : d.Q e W base ok v xs) (ht : e ≠ 88) : some g ≠ v.ownBlock:=by
 obtain ⟨A0,c0,hb,hg,hr0⟩:=h
 exact Kd.Q_ne ho hb ht
theorem IsS88.apartS {w0 W : World} {g : Nat} {f0 : List Int} {f1 : Int} {f2 : Int} {α : Type} {d : Kd α} {e : Nat} {base : Nat} {ok : Nat → Prop} {v : Value} {xs : List α} (h : IsS88 w0 W g f0 f1 f2) (ho : d.S e W base ok v xs) (ht : ∀ q,q ∈ e :: d.E → q ≠ 88) : d.S e W base (fun k => ok k ∧ k ≠ g) v xs:=by
 obtain ⟨A0,c0,hb,hg,hr0⟩:=h
 exact Kd.S_types ho hb ht
theorem IsS88.own_neS {w0 W : World} {g : Nat} {f0 : List Int} {f1 : Int} {f2 : Int} {α : Type} {d : Kd α} {e : Nat} {base : Nat} {ok : Nat → Prop} {v : Value} {xs : List α} (h : IsS88 w0 W g f0 f1 f2) (ho : d.S e W base ok v xs) (ht : e ≠ 88) : some g ≠ v.ownBlock:=by
 obtain ⟨A0,c0,hb,hg,hr0⟩:=h
 exact Kd.S_ne ho hb ht
theorem IsS88.lt {w0 W : World} {g : Nat} {f0 : List Int} {f1 : Int} {f2 : Int} (h : IsS88 w0 W g f0 f1 f2) : g < W.heap.size:=by
 obtain ⟨A0,c0,hb,hg,hr0⟩:=h
 exact bL hb
theorem IsS88.ge {w0 W : World} {g : Nat} {f0 : List Int} {f1 : Int} {f2 : Int} (h : IsS88 w0 W g f0 f1 f2) : w0.heap.size ≤ g:=by
 obtain ⟨A0,c0,hb,hg,hr0⟩:=h
 exact hg
theorem IsS88.ne_blk {w0 W : World} {g : Nat} {f0 : List Int} {f1 : Int} {f2 : Int} {a : Nat} {cs : Array Value} {t : TypeId} {fr : Nat × Nat} (h : IsS88 w0 W g f0 f1 f2) (hb2 : W.heap[a]? = some (.cells cs t fr)) (ht : t ≠ 88) : g ≠ a:=by
 obtain ⟨A0,c0,hb,hg,hr0⟩:=h
 rintro rfl
 rw [hb] at hb2
 injection hb2 with hb2
 injection hb2 with _ ht2
 exact ht ht2.symm
theorem IsS88.far {w0 W : World} {g : Nat} {f0 : List Int} {f1 : Int} {f2 : Int} {p : Addr} (h : IsS88 w0 W g f0 f1 f2) (hne : g ≠ p.block) (u : Value) : IsS88 w0 (W.setCell p u) g f0 f1 f2:=by
 obtain ⟨A0,c0,hb,hg,hr0⟩:=h
 exact ⟨A0,c0,blk_far hb hne u,hg,hr0⟩
theorem cellS88_0 {W : World} {g : Nat} {A0 : Option Addr} {c0 : Nat} {f0 : List Int} {f1 : Int} {f2 : Int} (h : W.heap[g]? = some (.cells #[.slice A0 f0.length c0,.int .i64 f1,.int .i64 f2] 88 (0,0))) : W.cell? ⟨g,0,none⟩ = some (.slice A0 f0.length c0):=(bC h 0).trans rfl
theorem cellS88_1 {W : World} {g : Nat} {A0 : Option Addr} {c0 : Nat} {f0 : List Int} {f1 : Int} {f2 : Int} (h : W.heap[g]? = some (.cells #[.slice A0 f0.length c0,.int .i64 f1,.int .i64 f2] 88 (0,0))) : W.cell? ⟨g,1,none⟩ = some (.int .i64 f1):=(bC h 1).trans rfl
theorem IsS88.set_1 {w0 W : World} {g : Nat} {f0 : List Int} {f1 : Int} {f2 : Int} (h : IsS88 w0 W g f0 f1 f2) (x : Int) : IsS88 w0 (W.setCell ⟨g,1,none⟩ (.int .i64 x)) g f0 x f2:=by
 obtain ⟨A0,c0,hb,hg,hr0⟩:=h
 exact ⟨A0,c0,by simpa using blk_set hb 1 (.int .i64 x),hg,hr0⟩
theorem cellS88_2 {W : World} {g : Nat} {A0 : Option Addr} {c0 : Nat} {f0 : List Int} {f1 : Int} {f2 : Int} (h : W.heap[g]? = some (.cells #[.slice A0 f0.length c0,.int .i64 f1,.int .i64 f2] 88 (0,0))) : W.cell? ⟨g,2,none⟩ = some (.int .i64 f2):=(bC h 2).trans rfl
theorem IsS88.set_2 {w0 W : World} {g : Nat} {f0 : List Int} {f1 : Int} {f2 : Int} (h : IsS88 w0 W g f0 f1 f2) (x : Int) : IsS88 w0 (W.setCell ⟨g,2,none⟩ (.int .i64 x)) g f0 f1 x:=by
 obtain ⟨A0,c0,hb,hg,hr0⟩:=h
 exact ⟨A0,c0,by simpa using blk_set hb 2 (.int .i64 x),hg,hr0⟩
theorem IsS88.new (w0 W : World) (A0 : Option Addr) (c0 : Nat) (f0 : List Int) (f1 : Int) (f2 : Int) (hB : Below w0.heap.size w0 W) (hr0 : Kd.C (Kd.int .u8) w0 A0 f0.length f0) : IsS88 w0 (W.alloc (.cells #[.slice A0 f0.length c0,.int .i64 f1,.int .i64 f2] 88)) W.heap.size f0 f1 f2:=⟨A0,c0,by simpa using heap_alloc_new W _,hB.size,hr0⟩

/-! ### spec_l01New: function 44 -/
def spec_l01New.l0 : Nat → List Int → Int → Int → Option (List Int × Int × Int)
 |0,_,_,_ => none
 |k + 1,x0,x3,x4 => if x4 < (x0.length : Int) then (if x4 < 4000 then (if 0 ≤ x4 then (spec_l01New.l0 k x0 (Go.bits .and .i64 (wrap64 ((wrap64 ((wrap64 (x3 * 131)) + (wrap64 (rd x0 x4)))) + 7)) 1073741823) (wrap64 (x4 + 1))) else (none)) else (some (x0,0,x3))) else (some (x0,0,x3))
def spec_l01New.f (k : Nat) (l0 : List Int) : Option (List Int × Int × Int):=spec_l01New.l0 k l0 (wrap64 (38001 + (l0.length : Int))) 0
theorem spec_l01New.mono_l : ∀ k,(∀ y0 y1 y2,LeO (spec_l01New.l0 k y0 y1 y2) (spec_l01New.l0 (k + 1) y0 y1 y2))
 |0 => fun _ _ _ r h => by simp [spec_l01New.l0] at h
 |k + 1 => by
  have ih0:=spec_l01New.mono_l k
  ·intro y0 y1 y2
   unfold spec_l01New.l0
   repeat' first
   |(with_reducible exact ih0 _ _ _)
   |(with_reducible exact LeO.refl _)
   |(with_reducible exact LeO.none _)
   |(with_reducible refine LeO.ite ?_ ?_)
   |(with_reducible refine LeO.bind ?_ (fun _ => ?_))
   |exact ih0 _ _ _
   |exact LeO.none _
   |refine LeO.ite ?_ ?_
   |refine LeO.bind ?_ (fun _ => ?_)
theorem spec_l01New.mono : ∀ a0 k,LeO (spec_l01New.f k a0) (spec_l01New.f (k + 1) a0):=by
 intro a0 k
 have ih0:=spec_l01New.mono_l k
 unfold spec_l01New.f
 repeat' first
   |(with_reducible exact ih0 _ _ _)
   |(with_reducible exact LeO.refl _)
   |(with_reducible exact LeO.none _)
   |(with_reducible refine LeO.ite ?_ ?_)
   |(with_reducible refine LeO.bind ?_ (fun _ => ?_))
   |exact ih0 _ _ _
   |exact LeO.none _
   |refine LeO.ite ?_ ?_
   |refine LeO.bind ?_ (fun _ => ?_)
set_option maxHeartbeats 8000000 in
set_option maxRecDepth 100000 in
theorem spec_l01New.calls (k : Nat) (A0 : Option Addr) (c0 : Nat) (l0 : List Int) (r1 : List Int) (r2 : Int) (r3 : Int) (w0 w : World) (hB : Below w0.heap.size w0 w) (hr0 : Kd.C (Kd.int .u8) w0 A0 l0.length l0) (hc0 : l0.length ≤ c0) (h : spec_l01New.f k l0 = some (r1,r2,r3)) :
  Calls Try.prog 44 #[.slice A0 l0.length c0] w fun e w' => ∃ g_ : Nat,e = .returned (.pointer (some ⟨g_,0,none⟩)) ∧ IsS88 w0 w' g_ r1 r2 r3 ∧ Below w0.heap.size w0 w' ∧ Below w.heap.size w w':=by
 have hu88:=Try.underlying88
 have HR0:=aM hr0
 have HC0:=aM hc0
 clear hr0 hc0
 have HBW:=aM (Below.refl w.heap.size w)
 have HW0:=aM hB.size
 have HB:=aM hB
 clear hB
 have H : (spec_l01New.l0 k l0 (wrap64 (38001 + (l0.length : Int))) 0) = some (r1,r2,r3):=h
 clear h
 have H':=aM H
 clear H
 go_enter Try.func44,Try.ntmps44
 go_wp2
 go_loopg [3,4] k (fun kq v3 v4 w' => ∃ (x3_1 : Int) (x4_1 : Int),v3 = .int .i64 x3_1 ∧ v4 = .int .i64 x4_1 ∧ Aside0 (spec_l01New.l0 kq l0 x3_1 x4_1 = some (r1,r2,r3)) ∧ Aside0 (kq ≤ k) ∧ Aside0 (Below w.heap.size w w') ∧ Aside0 (Below w0.heap.size w0 w'))
 case atStart => exact ⟨(wrap64 (38001 + (l0.length : Int))),(0),(by first|rfl|(simp;done)|(simp [*];done)),(by first|rfl|(simp;done)|(simp [*];done)),H',⟨Nat.le_refl _⟩,⟨by repeat (first|(with_reducible first|exact HBW.out|apply lA|apply lN|apply lD)|exact HBW.out)⟩,⟨by repeat (first|(with_reducible first|exact HB.out|apply lA|apply lN|apply lD)|exact HB.out)⟩⟩
 case round =>
  clear H'
  obtain ⟨x3_1,x4_1,rfl,rfl,HA,HK1,HBW,HB⟩:=hrel
  cases gk with
  |zero => exact absurd HA.out (by simp [spec_l01New.l0])
  |succ k1 =>
   have H:=HA.out
   clear HA
   simp only [spec_l01New.l0] at H
   by_cases c2 : x4_1 < (l0.length : Int)
   ·rw [if_pos c2] at H
    have c2b0 : decide (x4_1 < (l0.length : Int)) = true:=decide_eq_true c2
    clear c2
    by_cases c3 : x4_1 < 4000
    ·rw [if_pos c3] at H
     have c3b0 : decide (x4_1 < 4000) = true:=decide_eq_true c3
     clear c3
     by_cases c4 : 0 ≤ x4_1
     ·rw [if_pos c4] at H
      have c4b0 : decide (0 ≤ x4_1) = true:=decide_eq_true c4
      clear c4
      have H':=aM H
      clear H
      have p178 : 0 ≤ (x4_1 : Int):=of_decide_eq_true (by first|(with_reducible assumption)|assumption)
      have q178 : x4_1 < (l0.length : Int):=of_decide_eq_true (by first|(with_reducible assumption)|assumption)
      obtain ⟨ad178,e178,hx178_0⟩:=Kd.at_int HR0.out x4_1 p178 q178
      cases e178
      replace hx178_0:=pw_cell_below HB.out hx178_0
      replace p178:=eq_true p178
      replace q178:=eq_true q178
      go_wp2
      go_roundg k1
      case measure => have:=HK1.out;omega
      case rel => exact ⟨(Go.bits .and .i64 (wrap64 ((wrap64 ((wrap64 (x3_1 * 131)) + (wrap64 (rd l0 x4_1)))) + 7)) 1073741823),(wrap64 (x4_1 + 1)),(by first|rfl|(simp;done)|(simp [*];done)),(by first|rfl|(simp;done)|(simp [*];done)),H',⟨by have:=HK1.out;omega⟩,⟨by repeat (first|(with_reducible first|exact HBW.out|apply lA|apply lN|apply lD)|exact HBW.out)⟩,⟨by repeat (first|(with_reducible first|exact HB.out|apply lA|apply lN|apply lD)|exact HB.out)⟩⟩
     ·rw [if_neg c4] at H
      exact absurd H (by simp)
    ·rw [if_neg c3] at H
     have c3b0 : decide (x4_1 < 4000) = false:=decide_eq_false c3
     clear c3
     simp only [Option.some.injEq,Prod.mk.injEq] at H
     obtain ⟨rfl,rfl,rfl⟩:=H
     go_wp2_with (first|((with_reducible refine gate_dst (N:=31) rfl ?_);refine box_event ?hg (N:=31) ?hd (cs:=#[.slice A0 l0.length c0,.int .i64 0,.int .i64 x3_1]) (t:=88) ?hr ?_;(case hd => rfl);(case hg => rfl);(case hr => first|(go_simp;done)|(go_simp;rfl));intro gb179 hg w5 hbox hb;have n0_:=aM (lP HBW.out hb);have n1_:=aM (lQ HB.out hb);have n2_:=aM (hbox);have n3_:=aM ((by rw [hg];exact (lZ (by repeat (first|(with_reducible first|exact HBW.out|apply lA|apply lN|apply lD)|exact HBW.out))) : w.heap.size ≤ gb179));have n4_:=aM ((Nat.le_trans HW0.out (by rw [hg];exact (lZ (by repeat (first|(with_reducible first|exact HBW.out|apply lA|apply lN|apply lD)|exact HBW.out))) : w.heap.size ≤ gb179) : w0.heap.size ≤ gb179));clear HBW HB;have HBW:=n0_;have HB:=n1_;have BK179:=n2_;have GW179:=n3_;have GE179:=n4_;clear n0_ n1_ n2_ n3_ n4_ hb hbox hg))
     go_ret
     exact ⟨_,rfl,(show IsS88 w0 _ gb179 l0 0 x3_1 from ⟨_,_,by (with_reducible repeat (first|refine bN ?_ _|refine bD ?_|refine bA ?_ _));exact BK179.out,GE179.out,HR0.out⟩),by repeat (first|(with_reducible first|exact HB.out|apply lA|apply lN|apply lD|refine lS ?_ GE179.out)|exact HB.out),by repeat (first|(with_reducible first|exact HBW.out|apply lA|apply lN|apply lD|refine lS ?_ GW179.out)|exact HBW.out)⟩
   ·rw [if_neg c2] at H
    have c2b0 : decide (x4_1 < (l0.length : Int)) = false:=decide_eq_false c2
    clear c2
    simp only [Option.some.injEq,Prod.mk.injEq] at H
    obtain ⟨rfl,rfl,rfl⟩:=H
    go_wp2_with (first|((with_reducible refine gate_dst (N:=31) rfl ?_);refine box_event ?hg (N:=31) ?hd (cs:=#[.slice A0 l0.length c0,.int .i64 0,.int .i64 x3_1]) (t:=88) ?hr ?_;(case hd => rfl);(case hg => rfl);(case hr => first|(go_simp;done)|(go_simp;rfl));intro gb180 hg w6 hbox hb;have n0_:=aM (lP HBW.out hb);have n1_:=aM (lQ HB.out hb);have n2_:=aM (hbox);have n3_:=aM ((by rw [hg];exact (lZ (by repeat (first|(with_reducible first|exact HBW.out|apply lA|apply lN|apply lD)|exact HBW.out))) : w.heap.size ≤ gb180));have n4_:=aM ((Nat.le_trans HW0.out (by rw [hg];exact (lZ (by repeat (first|(with_reducible first|exact HBW.out|apply lA|apply lN|apply lD)|exact HBW.out))) : w.heap.size ≤ gb180) : w0.heap.size ≤ gb180));clear HBW HB;have HBW:=n0_;have HB:=n1_;have BK180:=n2_;have GW180:=n3_;have GE180:=n4_;clear n0_ n1_ n2_ n3_ n4_ hb hbox hg))
    go_ret
    exact ⟨_,rfl,(show IsS88 w0 _ gb180 l0 0 x3_1 from ⟨_,_,by (with_reducible repeat (first|refine bN ?_ _|refine bD ?_|refine bA ?_ _));exact BK180.out,GE180.out,HR0.out⟩),by repeat (first|(with_reducible first|exact HB.out|apply lA|apply lN|apply lD|refine lS ?_ GE180.out)|exact HB.out),by repeat (first|(with_reducible first|exact HBW.out|apply lA|apply lN|apply lD|refine lS ?_ GW180.out)|exact HBW.out)⟩

/-! ### spec_l08Out: function 51 -/
def spec_l08Out.f (a0 : ByteArray) : Option (ByteArray):=if (a0.size : Int) > 3000 then (if 0 ≤ 3000 then (if 3000 ≤ (a0.size : Int) then (some (a0.extract 0 3000)) else (none)) else (none)) else (some a0)
set_option maxHeartbeats 8000000 in
set_option maxRecDepth 100000 in
theorem spec_l08Out.calls (a0 : ByteArray) (r : ByteArray) (w : World) (h : spec_l08Out.f a0 = some r) :
  Calls Try.prog 51 #[.string a0] w fun e w' => e = .returned (.string r) ∧ Drawn0 w w':=by
 have H : (if (a0.size : Int) > 3000 then (if 0 ≤ 3000 then (if 3000 ≤ (a0.size : Int) then (some (a0.extract 0 3000)) else (none)) else (none)) else (some a0)) = some r:=h
 clear h
 by_cases c2 : (a0.size : Int) > 3000
 ·rw [if_pos c2] at H
  have c2b0 : decide (3000 < (a0.size : Int)) = true:=decide_eq_true c2
  have c2b1 : decide (3000 < a0.size) = true:=decide_eq_true (by omega)
  clear c2
  by_cases c3 : 0 ≤ 3000
  ·rw [if_pos c3] at H
   have c3b0:=eq_true c3
   have c3b1 : decide (0 ≤ 3000) = true:=decide_eq_true c3
   clear c3
   by_cases c4 : 3000 ≤ (a0.size : Int)
   ·rw [if_pos c4] at H
    have c4b0:=eq_true c4
    have c4b1 : decide (3000 ≤ (a0.size : Int)) = true:=decide_eq_true c4
    clear c4
    obtain rfl:=Option.some.inj H
    go_enter Try.func51,Try.ntmps51
    go_wp2
    go_ret
    exact ⟨by first|rfl|(simp;done)|(simp [*];done),by repeat (first|exact Drawn0.refl _|apply Drawn0.step)⟩
   ·rw [if_neg c4] at H
    exact absurd H (by simp)
  ·rw [if_neg c3] at H
   exact absurd H (by simp)
 ·rw [if_neg c2] at H
  have c2b0 : decide (3000 < (a0.size : Int)) = false:=decide_eq_false c2
  have c2b1 : decide (3000 < a0.size) = false:=decide_eq_false (by omega)
  clear c2
  obtain rfl:=Option.some.inj H
  go_enter Try.func51,Try.ntmps51
  go_wp2
  go_ret
  exact ⟨by first|rfl|(simp;done)|(simp [*];done),by repeat (first|exact Drawn0.refl _|apply Drawn0.step)⟩

/-! ### spec_Say: function 20 -/
def spec_Say.f (l0_0 : List (S53)) (l0_1 : List (S57)) (a0_2 : ByteArray) (a1 : ByteArray) : Option ((List (S53)) × (List (S57)) × ByteArray):=(spec_l08Copy.f l0_0 l0_1 a0_2).bind fun bt183 => (if a0_2.size + a1.size ≤ 9223372036854775807 then (if (a0_2 ++ a1).size + 1 ≤ 9223372036854775807 then ((spec_l08Out.f ((a0_2 ++ a1) ++ (⟨#[10]⟩ : ByteArray))).bind fun t191 => (some (bt183.1,bt183.2.1,t191))) else (none)) else (none))
set_option maxHeartbeats 8000000 in
set_option maxRecDepth 100000 in
theorem spec_Say.calls (A0_0 : Option Addr) (c0_0 : Nat) (l0_0 : List (S53)) (A0_1 : Option Addr) (c0_1 : Nat) (l0_1 : List (S57)) (a0_2 : ByteArray) (a1 : ByteArray) (r1 : List (S53)) (r2 : List (S57)) (r3 : ByteArray) (w : World) (hr0_0 : Kd.C k53 w A0_0 l0_0.length l0_0) (hc0_0 : l0_0.length ≤ c0_0) (hr0_1 : Kd.C k57 w A0_1 l0_1.length l0_1) (hc0_1 : l0_1.length ≤ c0_1) (h : spec_Say.f l0_0 l0_1 a0_2 a1 = some (r1,r2,r3)) :
  Calls Try.prog 20 #[.agg #[.slice A0_0 l0_0.length c0_0,.slice A0_1 l0_1.length c0_1,.string a0_2],.string a1] w fun e w' => ∃ v0_ v1_ : Value,e = .returned (.agg #[v0_,v1_,.string r3]) ∧ Kd.R k53 53 w' w.heap.size (fun _ => True) v0_ r1 ∧ Kd.R k57 57 w' w.heap.size (fun _ => True) v1_ r2 ∧ Below w.heap.size w w':=by
 have hu38:=Try.underlying38
 have HR0_0:=aM hr0_0
 have HC0_0:=aM hc0_0
 clear hr0_0 hc0_0
 have HR0_1:=aM hr0_1
 have HC0_1:=aM hc0_1
 clear hr0_1 hc0_1
 have HB:=aM (Below.refl w.heap.size w)
 have H : ((spec_l08Copy.f l0_0 l0_1 a0_2).bind fun bt183 => (if a0_2.size + a1.size ≤ 9223372036854775807 then (if (a0_2 ++ a1).size + 1 ≤ 9223372036854775807 then ((spec_l08Out.f ((a0_2 ++ a1) ++ (⟨#[10]⟩ : ByteArray))).bind fun t191 => (some (bt183.1,bt183.2.1,t191))) else (none)) else (none))) = some (r1,r2,r3):=h
 clear h
 replace H:=Option.bind_eq_some_iff.mp H
 obtain ⟨⟨t183,t186,t189⟩,A30,H⟩:=H
 replace H : (if a0_2.size + a1.size ≤ 9223372036854775807 then (if (a0_2 ++ a1).size + 1 ≤ 9223372036854775807 then ((spec_l08Out.f ((a0_2 ++ a1) ++ (⟨#[10]⟩ : ByteArray))).bind fun t191 => (some (t183,t186,t191))) else (none)) else (none)) = some (r1,r2,r3):=H
 have A3:=aM A30
 clear A30
 by_cases c4 : a0_2.size + a1.size ≤ 9223372036854775807
 ·rw [if_pos c4] at H
  have c4b0:=eq_true c4
  have c4b1 : decide (a0_2.size + a1.size ≤ 9223372036854775807) = true:=decide_eq_true c4
  try have c4b2 : (9223372036854775807 < a0_2.size + a1.size) = False:=eq_false (Nat.not_lt.2 c4)
  by_cases c5 : (a0_2 ++ a1).size + 1 ≤ 9223372036854775807
  ·rw [if_pos c5] at H
   have c5b0:=eq_true c5
   have c5b1 : decide ((a0_2 ++ a1).size + 1 ≤ 9223372036854775807) = true:=decide_eq_true c5
   try have c5b2 : (9223372036854775807 < (a0_2 ++ a1).size + 1) = False:=eq_false (Nat.not_lt.2 c5)
   try (have c5b7:=c5b2;simp only [ByteArray.size_append] at c5b7)
   replace H:=Option.bind_eq_some_iff.mp H
   obtain ⟨t191,A60,H⟩:=H
   replace H : (some (t183,t186,t191)) = some (r1,r2,r3):=H
   have A6:=aM A60
   clear A60
   simp only [Option.some.injEq,Prod.mk.injEq] at H
   obtain ⟨rfl,rfl,rfl⟩:=H
   go_enter Try.func20,Try.ntmps20
   go_wp2_with (first|((with_reducible refine gate_dst (N:=2) rfl ?_);refine box_event ?hg (N:=2) ?hd (cs:=#[.slice A0_0 l0_0.length c0_0,.slice A0_1 l0_1.length c0_1,.string a0_2]) (t:=38) ?hr ?_;(case hd => rfl);(case hg => rfl);(case hr => first|(go_simp;done)|(go_simp;rfl));intro gb181 hg w7 hbox hb;have n0_:=aM (lQ HB.out hb);have n1_:=aM (hbox);have n2_:=aM ((sQ hg HB.out : w.heap.size ≤ gb181));have n3_:=n2_;clear HB;have HB:=n0_;have BK181:=n1_;have GW181:=n2_;have GE181:=n3_;clear n0_ n1_ n2_ n3_ hb hbox hg)|((with_reducible refine gate_dst (N:=4) rfl ?_);refine box_event ?hg (N:=4) ?hd (cs:=#[.slice none 0 0,.slice none 0 0,.string (⟨#[]⟩ : ByteArray)]) (t:=38) ?hr ?_;(case hd => rfl);(case hg => rfl);(case hr => first|(go_simp;done)|(go_simp;rfl));intro gb182 hg w8 hbox hb;have n0_:=aM (bH BK181.out hb);have n1_:=aM (lQ HB.out hb);have n2_:=aM (hbox);have n3_:=aM ((sQ hg HB.out : w.heap.size ≤ gb182));have n4_:=n3_;have n5_:=aM ((nL hg BK181.out : gb181 ≠ gb182));have n6_:=aM ((nG hg BK181.out : gb182 ≠ gb181));clear BK181 HB;have BK181:=n0_;have HB:=n1_;have BK182:=n2_;have GW182:=n3_;have GE182:=n4_;have NB181_182:=n5_;have NB182_181:=n6_;clear n0_ n1_ n2_ n3_ n4_ n5_ n6_ hb hbox hg;have hnb9:=NB181_182.out;have hnc9:=NB182_181.out;obtain ⟨⟨hcz10_0,hcz10_1,hcz10_2⟩,hfz10_0,hfz10_1,hfz10_2⟩:=bC3 BK181.out)|((with_reducible refine gate_callee (f:=50) rfl ?_);refine goesL_ (some 7) rfl rfl Try.func50 (by kernel_rfl) rfl #[.agg #[.slice A0_0 l0_0.length c0_0,.slice A0_1 l0_1.length c0_1,.string a0_2]] rfl (by (try simp only [List.map_toArray,List.map_cons,List.map_nil]);first|done|rfl|(simp only [List.length_drop,List.length_take];rfl)) ?_;(with_reducible refine (spec_l08Copy.calls _ _ l0_0 _ _ l0_1 a0_2 t183 t186 t189 _ ?side1 ?side2 ?side3 ?side4 A3.out).mono ?_);(case side1 => repeat (first|exact (cB HR0_0.out HB.out)|(with_reducible first|refine cA ?_ _|refine cN ?_ _|refine cD ?_)));(case side2 => exact HC0_0.out);(case side3 => repeat (first|exact (cB HR0_1.out HB.out)|(with_reducible first|refine cA ?_ _|refine cN ?_ _|refine cD ?_)));(case side4 => exact HC0_1.out);rintro e w11 ⟨v184,v187,rfl,ho0,ho1,hb⟩;refine ⟨_,rfl,?_⟩;have n0_:=aM (rL ho0 (lZ (by repeat (first|(with_reducible first|exact HB.out|apply lA|apply lN|apply lD|refine lS ?_ GE181.out|refine lS ?_ GE182.out)|exact HB.out))));have n1_:=aM (rL ho1 (lZ (by repeat (first|(with_reducible first|exact HB.out|apply lA|apply lN|apply lD|refine lS ?_ GE181.out|refine lS ?_ GE182.out)|exact HB.out))));have n2_:=aM (bH BK181.out hb);have n3_:=aM (bH BK182.out hb);have n4_:=aM (lQ HB.out hb);clear BK181 BK182 HB;have HO185:=n0_;have HO188:=n1_;have BK181:=n2_;have BK182:=n3_;have HB:=n4_;clear n0_ n1_ n2_ n3_ n4_;(try clear hb);(try clear hb2);(try clear hk);(try clear hi);(try clear ho0);(try clear ho1))|((with_reducible refine gate_dst (N:=5) rfl ?_);refine box_event ?hg (N:=5) ?hd (cs:=#[.slice none 0 0,.slice none 0 0,.string (⟨#[]⟩ : ByteArray)]) (t:=38) ?hr ?_;(case hd => rfl);(case hg => rfl);(case hr => first|(go_simp;done)|(go_simp;rfl));intro gb190 hg w12 hbox hb;have n0_:=aM (rH HO185.out hb);have n1_:=aM (rH HO188.out hb);have n2_:=aM (bH BK181.out hb);have n3_:=aM (bH BK182.out hb);have n4_:=aM (lQ HB.out hb);have n5_:=aM (hbox);have n6_:=aM ((sQ hg HB.out : w.heap.size ≤ gb190));have n7_:=n6_;have n8_:=aM ((nL hg BK181.out : gb181 ≠ gb190));have n9_:=aM ((nG hg BK181.out : gb190 ≠ gb181));have n10_:=aM ((nL hg BK182.out : gb182 ≠ gb190));have n11_:=aM ((nG hg BK182.out : gb190 ≠ gb182));clear HO185 HO188 BK181 BK182 HB;have HO185:=n0_;have HO188:=n1_;have BK181:=n2_;have BK182:=n3_;have HB:=n4_;have BK190:=n5_;have GW190:=n6_;have GE190:=n7_;have NB181_190:=n8_;have NB190_181:=n9_;have NB182_190:=n10_;have NB190_182:=n11_;clear n0_ n1_ n2_ n3_ n4_ n5_ n6_ n7_ n8_ n9_ n10_ n11_ hb hbox hg;obtain ⟨Ao13,co13,eo13⟩:=Kd.R_slice HO185.out;subst eo13;have hnb14:=NB190_181.out;have hnc14:=NB181_190.out;have hnb15:=NB190_182.out;have hnc15:=NB182_190.out;obtain ⟨⟨hcz16_0,hcz16_1,hcz16_2⟩,hfz16_0,hfz16_1,hfz16_2⟩:=bC3 BK190.out;obtain ⟨Ao17,co17,eo17⟩:=Kd.R_slice HO188.out;subst eo17;obtain ⟨⟨hcz18_0,hcz18_1,hcz18_2⟩,hfz18_0,hfz18_1,hfz18_2⟩:=bC3 BK181.out)|((with_reducible refine gate_callee (f:=51) rfl ?_);refine goesL_ (some 13) rfl rfl Try.func51 (by kernel_rfl) rfl #[.string ((a0_2 ++ a1) ++ (⟨#[10]⟩ : ByteArray))] rfl (by (try simp only [List.map_toArray,List.map_cons,List.map_nil]);first|done|rfl|(simp only [List.length_drop,List.length_take];rfl)) ?_;(with_reducible refine (spec_l08Out.calls ((a0_2 ++ a1) ++ (⟨#[10]⟩ : ByteArray)) t191 _ A6.out).mono ?_);rintro e w' ⟨rfl,⟨nd,rfl⟩⟩;refine ⟨_,rfl,?_⟩;obtain ⟨⟨hcz19_0,hcz19_1,hcz19_2⟩,hfz19_0,hfz19_1,hfz19_2⟩:=bC3 BK182.out))
   refine bodyPost_ret (results_cell_row rfl _ _ gb182 38 #[.slice Ao13 t183.length co13,.slice Ao17 t186.length co17,.string t191] (0,0) _ rfl (by (with_reducible repeat (first|refine bN ?_ _|refine bD ?_|refine bA ?_ _));refine blk_put (cs:=#[.slice Ao13 t183.length co13,.slice Ao17 t186.length co17,.string (⟨#[]⟩ : ByteArray)]) ?_ 2 _ rfl;(with_reducible repeat (first|refine bN ?_ _|refine bD ?_|refine bA ?_ _));refine blk_put (cs:=#[.slice Ao13 t183.length co13,.slice none 0 0,.string (⟨#[]⟩ : ByteArray)]) ?_ 1 _ rfl;(with_reducible repeat (first|refine bN ?_ _|refine bD ?_|refine bA ?_ _));refine blk_put (cs:=#[.slice none 0 0,.slice none 0 0,.string (⟨#[]⟩ : ByteArray)]) ?_ 0 _ rfl;(with_reducible repeat (first|refine bN ?_ _|refine bD ?_|refine bA ?_ _));refine blk_far ?_ NB182_190.out _;(with_reducible repeat (first|refine bN ?_ _|refine bD ?_|refine bA ?_ _));refine blk_far ?_ NB182_190.out _;(with_reducible repeat (first|refine bN ?_ _|refine bD ?_|refine bA ?_ _));refine blk_far ?_ NB182_190.out _;(with_reducible repeat (first|refine bN ?_ _|refine bD ?_|refine bA ?_ _));refine blk_far ?_ NB182_190.out _;(with_reducible repeat (first|refine bN ?_ _|refine bD ?_|refine bA ?_ _));exact BK182.out) Try.underlying38 rfl (by kernel_rfl)) rfl ?_
   exact ⟨_,_,by first|rfl|(simp [errW_none,errW_some] <;> rfl)|(simp [*,errW_none,errW_some] <;> rfl),by (with_reducible repeat (first|apply rA|apply rN|apply rD));exact Kd.R_mono (rF (rF (rF (rF (rF (rF (rF (rY (rY HO185.out BK190.out (by decide)) BK182.out (by decide)) (fun _ hk => hk.1.2) _) (fun _ hk => hk.1.2) _) (fun _ hk => hk.1.2) _) (fun _ hk => hk.1.2) _) (fun _ hk => hk.2) _) (fun _ hk => hk.2) _) (fun _ hk => hk.2) _) (fun _ hk => trivial),by (with_reducible repeat (first|apply rA|apply rN|apply rD));exact Kd.R_mono (rF (rF (rF (rF (rF (rF (rF (rY (rY HO188.out BK190.out (by decide)) BK182.out (by decide)) (fun _ hk => hk.1.2) _) (fun _ hk => hk.1.2) _) (fun _ hk => hk.1.2) _) (fun _ hk => hk.1.2) _) (fun _ hk => hk.2) _) (fun _ hk => hk.2) _) (fun _ hk => hk.2) _) (fun _ hk => trivial),by repeat (first|(with_reducible first|exact HB.out|apply lA|apply lN|apply lD|refine lS ?_ GE181.out|refine lS ?_ GE182.out|refine lS ?_ GE190.out)|exact HB.out)⟩
  ·rw [if_neg c5] at H
   exact absurd H (by simp)
 ·rw [if_neg c4] at H
  exact absurd H (by simp)

/-! ### spec_l08Ahead: function 64 -/
def spec_l08Ahead.f (a0_0 : ByteArray) (a0_1 : ByteArray) (a0_2 : ByteArray) (a1_0 : ByteArray) (a1_1 : ByteArray) (a1_2 : ByteArray) : Option (Bool):=if (Op.bytesLess a0_0.toList a1_0.toList) = true then (some true) else (if a0_0.toList = a1_0.toList then (some (Op.bytesLess a0_1.toList a1_1.toList)) else (some false))
set_option maxHeartbeats 8000000 in
set_option maxRecDepth 100000 in
theorem spec_l08Ahead.calls (a0_0 : ByteArray) (a0_1 : ByteArray) (a0_2 : ByteArray) (a1_0 : ByteArray) (a1_1 : ByteArray) (a1_2 : ByteArray) (r : Bool) (w : World) (h : spec_l08Ahead.f a0_0 a0_1 a0_2 a1_0 a1_1 a1_2 = some r) :
  Calls Try.prog 64 #[.agg #[.string a0_0,.string a0_1,.string a0_2],.agg #[.string a1_0,.string a1_1,.string a1_2]] w fun e w' => e = .returned (.bool r) ∧ Below w.heap.size w w':=by
 have hu57:=Try.underlying57
 have HB:=aM (Below.refl w.heap.size w)
 have H : (if (Op.bytesLess a0_0.toList a1_0.toList) = true then (some true) else (if a0_0.toList = a1_0.toList then (some (Op.bytesLess a0_1.toList a1_1.toList)) else (some false))) = some r:=h
 clear h
 by_cases c3 : (Op.bytesLess a0_0.toList a1_0.toList) = true
 ·rw [if_pos c3] at H
  have c3b0 : (Op.bytesLess a0_0.toList a1_0.toList) = true:=c3
  clear c3
  obtain rfl:=Option.some.inj H
  go_enter Try.func64,Try.ntmps64
  go_wp2_with (first|((with_reducible refine gate_dst (N:=2) rfl ?_);refine box_event ?hg (N:=2) ?hd (cs:=#[.string a0_0,.string a0_1,.string a0_2]) (t:=57) ?hr ?_;(case hd => rfl);(case hg => rfl);(case hr => first|(go_simp;done)|(go_simp;rfl));intro gb192 hg w4 hbox hb;have n0_:=aM (lQ HB.out hb);have n1_:=aM (hbox);have n2_:=aM ((sQ hg HB.out : w.heap.size ≤ gb192));have n3_:=n2_;clear HB;have HB:=n0_;have BK192:=n1_;have GW192:=n2_;have GE192:=n3_;clear n0_ n1_ n2_ n3_ hb hbox hg)|((with_reducible refine gate_dst (N:=3) rfl ?_);refine box_event ?hg (N:=3) ?hd (cs:=#[.string a1_0,.string a1_1,.string a1_2]) (t:=57) ?hr ?_;(case hd => rfl);(case hg => rfl);(case hr => first|(go_simp;done)|(go_simp;rfl));intro gb193 hg w5 hbox hb;have n0_:=aM (bH BK192.out hb);have n1_:=aM (lQ HB.out hb);have n2_:=aM (hbox);have n3_:=aM ((sQ hg HB.out : w.heap.size ≤ gb193));have n4_:=n3_;have n5_:=aM ((nL hg BK192.out : gb192 ≠ gb193));have n6_:=aM ((nG hg BK192.out : gb193 ≠ gb192));clear BK192 HB;have BK192:=n0_;have HB:=n1_;have BK193:=n2_;have GW193:=n3_;have GE193:=n4_;have NB192_193:=n5_;have NB193_192:=n6_;clear n0_ n1_ n2_ n3_ n4_ n5_ n6_ hb hbox hg;have hnb6:=NB192_193.out;have hnc6:=NB193_192.out;obtain ⟨⟨hcz7_0,hcz7_1,hcz7_2⟩,hfz7_0,hfz7_1,hfz7_2⟩:=bC3 BK192.out;obtain ⟨⟨hcz8_0,hcz8_1,hcz8_2⟩,hfz8_0,hfz8_1,hfz8_2⟩:=bC3 BK193.out))
  go_ret
  exact ⟨by first|rfl|(simp [errW_none,errW_some] <;> rfl)|(simp [*,errW_none,errW_some] <;> rfl),by repeat (first|(with_reducible first|exact HB.out|apply lA|apply lN|apply lD|refine lS ?_ GE192.out|refine lS ?_ GE193.out)|exact HB.out)⟩
 ·rw [if_neg c3] at H
  have c3b0 : (Op.bytesLess a0_0.toList a1_0.toList) = false:=by simpa using c3
  clear c3
  by_cases c9 : a0_0.toList = a1_0.toList
  ·rw [if_pos c9] at H
   have c9b0 : (a0_0.toList == a1_0.toList) = true:=beq_iff_eq.mpr c9
   have c9b1 : (a0_0.toList != a1_0.toList) = false:=bne_eq_false_iff_eq.mpr c9
   clear c9
   obtain rfl:=Option.some.inj H
   go_enter Try.func64,Try.ntmps64
   go_wp2_with (first|((with_reducible refine gate_dst (N:=2) rfl ?_);refine box_event ?hg (N:=2) ?hd (cs:=#[.string a0_0,.string a0_1,.string a0_2]) (t:=57) ?hr ?_;(case hd => rfl);(case hg => rfl);(case hr => first|(go_simp;done)|(go_simp;rfl));intro gb192 hg w10 hbox hb;have n0_:=aM (lQ HB.out hb);have n1_:=aM (hbox);have n2_:=aM ((sQ hg HB.out : w.heap.size ≤ gb192));have n3_:=n2_;clear HB;have HB:=n0_;have BK192:=n1_;have GW192:=n2_;have GE192:=n3_;clear n0_ n1_ n2_ n3_ hb hbox hg)|((with_reducible refine gate_dst (N:=3) rfl ?_);refine box_event ?hg (N:=3) ?hd (cs:=#[.string a1_0,.string a1_1,.string a1_2]) (t:=57) ?hr ?_;(case hd => rfl);(case hg => rfl);(case hr => first|(go_simp;done)|(go_simp;rfl));intro gb193 hg w11 hbox hb;have n0_:=aM (bH BK192.out hb);have n1_:=aM (lQ HB.out hb);have n2_:=aM (hbox);have n3_:=aM ((sQ hg HB.out : w.heap.size ≤ gb193));have n4_:=n3_;have n5_:=aM ((nL hg BK192.out : gb192 ≠ gb193));have n6_:=aM ((nG hg BK192.out : gb193 ≠ gb192));clear BK192 HB;have BK192:=n0_;have HB:=n1_;have BK193:=n2_;have GW193:=n3_;have GE193:=n4_;have NB192_193:=n5_;have NB193_192:=n6_;clear n0_ n1_ n2_ n3_ n4_ n5_ n6_ hb hbox hg;have hnb12:=NB192_193.out;have hnc12:=NB193_192.out;obtain ⟨⟨hcz13_0,hcz13_1,hcz13_2⟩,hfz13_0,hfz13_1,hfz13_2⟩:=bC3 BK192.out;obtain ⟨⟨hcz14_0,hcz14_1,hcz14_2⟩,hfz14_0,hfz14_1,hfz14_2⟩:=bC3 BK193.out))
   go_ret
   exact ⟨by first|rfl|(simp [errW_none,errW_some] <;> rfl)|(simp [*,errW_none,errW_some] <;> rfl),by repeat (first|(with_reducible first|exact HB.out|apply lA|apply lN|apply lD|refine lS ?_ GE192.out|refine lS ?_ GE193.out)|exact HB.out)⟩
  ·rw [if_neg c9] at H
   have c9b0 : (a0_0.toList == a1_0.toList) = false:=beq_eq_false_iff_ne.mpr c9
   have c9b1 : (a0_0.toList != a1_0.toList) = true:=bne_iff_ne.mpr c9
   obtain rfl:=Option.some.inj H
   go_enter Try.func64,Try.ntmps64
   go_wp2_with (first|((with_reducible refine gate_dst (N:=2) rfl ?_);refine box_event ?hg (N:=2) ?hd (cs:=#[.string a0_0,.string a0_1,.string a0_2]) (t:=57) ?hr ?_;(case hd => rfl);(case hg => rfl);(case hr => first|(go_simp;done)|(go_simp;rfl));intro gb192 hg w15 hbox hb;have n0_:=aM (lQ HB.out hb);have n1_:=aM (hbox);have n2_:=aM ((sQ hg HB.out : w.heap.size ≤ gb192));have n3_:=n2_;clear HB;have HB:=n0_;have BK192:=n1_;have GW192:=n2_;have GE192:=n3_;clear n0_ n1_ n2_ n3_ hb hbox hg)|((with_reducible refine gate_dst (N:=3) rfl ?_);refine box_event ?hg (N:=3) ?hd (cs:=#[.string a1_0,.string a1_1,.string a1_2]) (t:=57) ?hr ?_;(case hd => rfl);(case hg => rfl);(case hr => first|(go_simp;done)|(go_simp;rfl));intro gb193 hg w16 hbox hb;have n0_:=aM (bH BK192.out hb);have n1_:=aM (lQ HB.out hb);have n2_:=aM (hbox);have n3_:=aM ((sQ hg HB.out : w.heap.size ≤ gb193));have n4_:=n3_;have n5_:=aM ((nL hg BK192.out : gb192 ≠ gb193));have n6_:=aM ((nG hg BK192.out : gb193 ≠ gb192));clear BK192 HB;have BK192:=n0_;have HB:=n1_;have BK193:=n2_;have GW193:=n3_;have GE193:=n4_;have NB192_193:=n5_;have NB193_192:=n6_;clear n0_ n1_ n2_ n3_ n4_ n5_ n6_ hb hbox hg;have hnb17:=NB192_193.out;have hnc17:=NB193_192.out;obtain ⟨⟨hcz18_0,hcz18_1,hcz18_2⟩,hfz18_0,hfz18_1,hfz18_2⟩:=bC3 BK192.out;obtain ⟨⟨hcz19_0,hcz19_1,hcz19_2⟩,hfz19_0,hfz19_1,hfz19_2⟩:=bC3 BK193.out))
   go_ret
   exact ⟨by first|rfl|(simp [errW_none,errW_some] <;> rfl)|(simp [*,errW_none,errW_some] <;> rfl),by repeat (first|(with_reducible first|exact HB.out|apply lA|apply lN|apply lD|refine lS ?_ GE192.out|refine lS ?_ GE193.out)|exact HB.out)⟩

end Go.Proofs.Ytodpkfidkilpdaa.QFnVars
