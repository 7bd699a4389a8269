-- A text of this session, made by wip/own_print.py (the kit's print with additions of ours).
import Derived.Test.YtodpkfidkilpdaaQFnExactSetVarx0
import Derived.Test.YtodpkfidkilpdaaQFnExactSetVarx7
import Derived.Test.YtodpkfidkilpdaaQFnExactSetVarx8
namespace Go.Proofs.Ytodpkfidkilpdaa.QFnExactSetVar
open Go.RowKit Go.Proofs.YtodpkfidkilpdaaW.PrintWords Go.Proofs.YtodpkfidkilpdaaW.PrintLast Go.Proofs.YtodpkfidkilpdaaW.PrintMore
attribute [local go_sem] max2_int min2_int max_two min_two max_three min_three max_four min_four   -- for this text's walks alone
set_option linter.unusedVariables false
set_option linter.unusedSimpArgs false

/-! ### impl_SetVar: function 29 -/
theorem impl_SetVar_apart {α β : Type} {d1 : Kd α} {d2 : Kd β} {e1 e2 : TypeId} {w : World} {b1 b2 : Nat} {ok1 ok2 : Nat → Prop} {v1 v2 : Value} {xs1 : List α} {xs2 : List β} (h1 : d1.R e1 w b1 ok1 v1 xs1) (h2 : d2.R e2 w b2 ok2 v2 xs2) (he : e2 ≠ e1) (k : Nat) (hk1 : some k = v1.ownBlock) : ¬ some k = v2.ownBlock := by
  obtain ⟨_, inner, ho, _⟩ := h1
  obtain ⟨cells, hc⟩ := own_typed ho k hk1.symm
  exact Kd.R_ne h2 hc he
theorem impl_SetVar_old {α : Type} {d : Kd α} {e : TypeId} {w : World} {b : Nat} {ok : Nat → Prop} {v : Value} {xs : List α} (h : d.R e w b ok v xs) (k : Nat) (hk : some k = v.ownBlock) : k < w.heap.size := by
  obtain ⟨inner, ho⟩ := Kd.R_own h
  exact own_lt ho k hk.symm
set_option maxHeartbeats 8000000 in
set_option maxRecDepth 100000 in
theorem impl_SetVar_set (k : Nat) (g : Nat) (u0 : Value) (A1 : Option Addr) (c1 : Nat) (l1 : List S53) (o : ByteArray) (a1 a2 : ByteArray) (x : ByteArray) (r : List S53) (w0 w : World) (hB : Below w0.heap.size w0 w) (hg : w0.heap.size ≤ g) (hb : w.heap[g]? = some (.cells #[.slice A1 l1.length c1, u0, .string o] 38 (0, 0))) (ho : Kd.R k53 53 w w0.heap.size (fun _ => True) (.slice A1 l1.length c1) l1) (hx : impl_Cut.f a2 = some x) (h : impl_Var.f k l1 a1 x true 60 = some r) :
    Calls Try.prog 63 #[.pointer (some ⟨g, 0, none⟩), .string a1, .string a2] w fun e w' => e = .returned (.tuple #[]) ∧ ∃ u1 : Value, w'.heap[g]? = some (.cells #[u1, u0, .string o] 38 (0, 0)) ∧ Kd.R k53 53 w' w0.heap.size (fun _ => True) u1 r ∧ Below w0.heap.size w0 w' ∧ Kept w w' (fun k => k = g ∨ some k = (Value.slice A1 l1.length c1).ownBlock) := by
  have hu38 := Try.underlying38
  have hu53 := Try.underlying53
  have Ax := Aside0.mk hx
  have AH := Aside0.mk h
  have BK0 := Aside0.mk hb
  have HO := Aside0.mk (Kd.R_tight rfl ho)
  have HB := Aside0.mk hB
  have HG := Aside0.mk hg
  have HK := Aside0.mk (Kept.refl w (fun k => k = g ∨ some k = (Value.slice A1 l1.length c1).ownBlock))
  clear hB hb ho h hx
  have hczw_0 : w.cell? ⟨g, 0, none⟩ = some (.slice A1 l1.length c1) := (blk_cell BK0.out 0).trans rfl
  have hczw_1 : w.cell? ⟨g, 1, none⟩ = some (u0) := (blk_cell BK0.out 1).trans rfl
  have hczw_2 : w.cell? ⟨g, 2, none⟩ = some (.string o) := (blk_cell BK0.out 2).trans rfl
  have hfzw_0 := blk_frozen BK0.out 0
  have hfzw_1 := blk_frozen BK0.out 1
  have hfzw_2 := blk_frozen BK0.out 2
  go_enter Try.func63, Try.ntmps63
  have n0_ := Aside0.mk ((by repeat (first | exact HB.out | apply below_alloc | apply pw_below_drewN | apply below_drew1)) : Below w0.heap.size w0 (w).drew)
  have n1_ := Aside0.mk ((by (with_reducible repeat (first | refine blk_drewN ?_ _ | refine blk_drew ?_ | refine blk_alloc ?_ _)); exact BK0.out) : (w).drew.heap[g]? = some (.cells #[.slice A1 l1.length c1, u0, .string o] 38 (0, 0)))
  have n2_ := Aside0.mk ((by (with_reducible repeat (first | apply Kd.R_alloc | apply Kd.R_drewN | apply Kd.R_drew)); exact HO.out) : Kd.R k53 53 (w).drew w0.heap.size (fun k => some k = (Value.slice A1 l1.length c1).ownBlock) (.slice A1 l1.length c1) l1)
  have n3_ := Aside0.mk ((by (with_reducible repeat (first | apply Kept.drewN | apply Kept.drew)); exact HK.out) : Kept w (w).drew (fun k => k = g ∨ some k = (Value.slice A1 l1.length c1).ownBlock))
  clear HB BK0 HO HK
  have HB := n0_
  have BK0 := n1_
  have HO := n2_
  have HK := n3_
  clear n0_ n1_ n2_ n3_
  refine start_ (n := 13) (S := fun w' => w'.cell? ⟨g, 0, none⟩ = some (.slice A1 l1.length c1) ∧ w'.cell? ⟨g, 1, none⟩ = some (u0) ∧ w'.cell? ⟨g, 2, none⟩ = some (.string o)) (ds := [9, 12]) #[false, false, false, false, false, false, false, false, false, false, false, false, false] (by kernel_rfl) rfl rfl ⟨(blk_cell BK0.out 0).trans rfl, (blk_cell BK0.out 1).trans rfl, (blk_cell BK0.out 2).trans rfl⟩ (fun hHeld => ?_)
  generalize (w).drew = w8 at HB BK0 HO HK hHeld ⊢
  refine pure_ (i := 0) (N := some 6) (v := ?_) (a' := ?_) #[true, false, false, false, false, false, false, false, false, false, false, false, false] rfl rfl (by kernel_rfl) (fun _ _ _ h => h) (Or.inl ⟨by rfl, ?_⟩) ?_ ?_
  rotate_left
  · intro w'
    go_simp
    with_reducible rfl
  rotate_left
  · simp only [Act.put, List.setIfInBounds_toArray, List.set_cons_zero, List.set_cons_succ, i64_w, i32_w]
    rfl
  refine pure_ (i := 1) (N := some 7) (v := ?_) (a' := ?_) #[true, true, false, false, false, false, false, false, false, false, false, false, false] rfl rfl (by kernel_rfl) (fun _ _ _ h => h) (Or.inl ⟨by rfl, ?_⟩) ?_ ?_
  rotate_left
  · intro w'
    go_simp
    with_reducible rfl
  rotate_left
  · simp only [Act.put, List.setIfInBounds_toArray, List.set_cons_zero, List.set_cons_succ, i64_w, i32_w]
    rfl
  refine pure_ (i := 2) (N := some 8) (v := ?_) (a' := ?_) #[true, true, true, false, false, false, false, false, false, false, false, false, false] rfl rfl (by kernel_rfl) (fun _ _ _ h => h) (Or.inl ⟨by rfl, ?_⟩) ?_ ?_
  rotate_left
  · intro w'
    go_simp
    with_reducible rfl
  rotate_left
  · simp only [Act.put, List.setIfInBounds_toArray, List.set_cons_zero, List.set_cons_succ, i64_w, i32_w]
    rfl
  refine pure_ (i := 3) (N := some 9) (v := ?_) (a' := ?_) #[true, true, true, true, false, false, false, false, false, false, false, false, false] rfl rfl (by kernel_rfl) (fun _ _ _ h => h) (Or.inl ⟨by rfl, ?_⟩) ?_ ?_
  rotate_left
  · intro w'
    go_simp
    with_reducible rfl
  rotate_left
  · simp only [Act.put, List.setIfInBounds_toArray, List.set_cons_zero, List.set_cons_succ, i64_w, i32_w]
    rfl
  refine take_ (i := 4) (N := some 10) (v := ?_) (a' := ?_) #[true, true, true, true, true, false, false, false, false, false, false, false, false] rfl rfl (by kernel_rfl) (fun _ _ _ h => h) (Or.inl ⟨by rfl, ?_⟩) hHeld ?_ ?_
  rotate_left
  · rintro w' ⟨s0, s1, s2⟩
    go_simp
    with_reducible rfl
  rotate_left
  · simp only [Act.put, List.setIfInBounds_toArray, List.set_cons_zero, List.set_cons_succ, i64_w, i32_w]
    rfl
  refine pure_ (i := 5) (N := some 11) (v := ?_) (a' := ?_) #[true, true, true, true, true, true, false, false, false, false, false, false, false] rfl rfl (by kernel_rfl) (fun _ _ _ h => h) (Or.inl ⟨by rfl, ?_⟩) ?_ ?_
  rotate_left
  · intro w'
    go_simp
    with_reducible rfl
  rotate_left
  · simp only [Act.put, List.setIfInBounds_toArray, List.set_cons_zero, List.set_cons_succ, i64_w, i32_w]
    rfl
  refine pure_ (i := 6) (N := some 12) (v := ?_) (a' := ?_) #[true, true, true, true, true, true, true, false, false, false, false, false, false] rfl rfl (by kernel_rfl) (fun _ _ _ h => h) (Or.inl ⟨by rfl, ?_⟩) ?_ ?_
  rotate_left
  · intro w'
    go_simp
    with_reducible rfl
  rotate_left
  · simp only [Act.put, List.setIfInBounds_toArray, List.set_cons_zero, List.set_cons_succ, i64_w, i32_w]
    rfl
  refine one_ (i := 7) (N := some 13) #[true, true, true, true, true, true, true, true, false, false, false, false, false] rfl rfl (by kernel_rfl) (by decide) (fun K hK => ?_)
  refine goes_ Try.func42 (by kernel_rfl) rfl #[.string a2] (by rfl) rfl rfl (by (try simp only [List.map_toArray, List.map_cons, List.map_nil]); first | done | rfl) ?_
  refine (impl_Cut.calls a2 x _ Ax.out).mono ?_
  rintro e w4 ⟨rfl, hb⟩
  refine ⟨_, rfl, ?_⟩
  have n0_ := Aside0.mk (below_step HB.out hb)
  have n1_ := Aside0.mk (blk_below BK0.out hb)
  have n2_ := Aside0.mk (Kd.R_below HO.out hb)
  have n3_ := Aside0.mk (Kept.below HK.out hb)
  clear hb hHeld
  clear HB BK0 HO HK
  have HB := n0_
  have BK0 := n1_
  have HO := n2_
  have HK := n3_
  clear n0_ n1_ n2_ n3_
  refine hK.out _ _ ⟨(blk_cell BK0.out 0).trans rfl, (blk_cell BK0.out 1).trans rfl, (blk_cell BK0.out 2).trans rfl⟩ (fun hHeld => ?_)
  clear hK K
  refine norm_ (a' := ?_) ?_ ?_
  rotate_left
  · show Act.put _ (some 13) _ = _
    simp only [Act.put, List.setIfInBounds_toArray, List.set_cons_zero, List.set_cons_succ, i64_w, i32_w]
    rfl
  refine pure_ (i := 8) (N := some 14) (v := ?_) (a' := ?_) #[true, true, true, true, true, true, true, true, true, false, false, false, false] rfl rfl (by kernel_rfl) (fun _ _ _ h => h) (Or.inl ⟨by rfl, ?_⟩) ?_ ?_
  rotate_left
  · intro w'
    go_simp
    with_reducible rfl
  rotate_left
  · simp only [Act.put, List.setIfInBounds_toArray, List.set_cons_zero, List.set_cons_succ, i64_w, i32_w]
    rfl
  refine last_ (i := 9) (N := some 15) #[true, true, true, true, true, true, true, true, true, true, false, false, false] rfl rfl (by kernel_rfl) (by decide) (fun K hK => ?_)
  refine goes_ Try.func78 (by kernel_rfl) rfl #[.slice A1 l1.length c1, .agg #[.string a1, .string x], (.func (.func 79) #[] #[]), .int .i64 60] (by rfl) rfl rfl (by (try simp only [List.map_toArray, List.map_cons, List.map_nil]); first | done | rfl) ?_
  refine (impl_Var.calls k (fun k => some k = (Value.slice A1 l1.length c1).ownBlock) (.slice A1 l1.length c1) l1 a1 x true 60 r w0 _ HB.out HO.out AH.out).mono ?_
  rintro e w9 ⟨u9, rfl, ho9, hb9, hk9⟩
  refine ⟨_, rfl, ?_⟩
  obtain ⟨A9, c9, e9⟩ := Kd.R_slice ho9
  subst e9
  have n1_ := Aside0.mk (blk_kept BK0.out hk9 (fun hP => Kd.R_ne HO.out BK0.out (by decide) hP))
  have n3_ := Aside0.mk (Kept.then_ HK.out hk9 (fun k hP => .inl (.inr hP)))
  have n2_ := Aside0.mk ho9
  have n0_ := Aside0.mk hb9
  clear hb9 hk9 ho9 hHeld
  clear HB BK0 HO HK
  have HB := n0_
  have BK0 := n1_
  have HO := n2_
  have HK := n3_
  clear n0_ n1_ n2_ n3_
  refine hK.out _ _ ?_
  clear hK K
  refine norm_ (a' := ?_) ?_ ?_
  rotate_left
  · show Act.put _ (some 15) _ = _
    simp only [Act.put, List.setIfInBounds_toArray, List.set_cons_zero, List.set_cons_succ, i64_w, i32_w]
    rfl
  refine pure_ (i := 10) (N := some 16) (v := ?_) (a' := ?_) #[true, true, true, true, true, true, true, true, true, true, true, false, false] rfl rfl (by kernel_rfl) (fun _ _ _ h => h) (Or.inl ⟨by rfl, ?_⟩) ?_ ?_
  rotate_left
  · intro w'
    go_simp
    with_reducible rfl
  rotate_left
  · simp only [Act.put, List.setIfInBounds_toArray, List.set_cons_zero, List.set_cons_succ, i64_w, i32_w]
    rfl
  refine pure_ (i := 11) (N := some 17) (v := ?_) (a' := ?_) #[true, true, true, true, true, true, true, true, true, true, true, true, false] rfl rfl (by kernel_rfl) (fun _ _ _ h => h) (Or.inl ⟨by rfl, ?_⟩) ?_ ?_
  rotate_left
  · intro w'
    go_simp
    with_reducible rfl
  rotate_left
  · simp only [Act.put, List.setIfInBounds_toArray, List.set_cons_zero, List.set_cons_succ, i64_w, i32_w]
    rfl
  refine last_ (i := 12) (N := none) #[true, true, true, true, true, true, true, true, true, true, true, true, true] rfl rfl (by kernel_rfl) (by decide) (fun K hK => ?_)
  have hs27 : w9.cell? ⟨g, 0, none⟩ = some (.slice A1 l1.length c1) := (blk_cell BK0.out 0).trans rfl
  have hfs27 := blk_frozen BK0.out 0
  refine skip_ (w1 := ?_) (by rfl) rfl ?_ ?_
  rotate_left
  · go_simp
    rfl
  refine hK.out _ _ ?_
  clear hK K
  refine done_ (by kernel_rfl) ?_
  try go_wp2
  first | go_end0 | ((try simp only [Exit.inBlock, Exit.then]); refine bodyPost_ret (results_none rfl _ _ _) rfl ?_)
  exact ⟨rfl, .slice A9 r.length c9, (by (with_reducible repeat (first | refine blk_drewN ?_ _ | refine blk_drew ?_ | refine blk_alloc ?_ _)); refine blk_put (cs := #[.slice A1 l1.length c1, u0, .string o]) ?_ 0 _ rfl; (with_reducible repeat (first | refine blk_drewN ?_ _ | refine blk_drew ?_ | refine blk_alloc ?_ _)); exact BK0.out), (by (with_reducible repeat (first | apply Kd.R_alloc | apply Kd.R_drewN | apply Kd.R_drew)); exact Kd.R_mono (Kd.R_far (p := ⟨g, 0, none⟩) (Kd.R_types HO.out BK0.out (by decide)) (fun _ hk => hk.2) _) (fun _ _ => trivial)), (by repeat (first | exact HB.out | apply below_alloc | apply pw_below_drewN | apply below_drew1 | refine below_set ?_ HG.out)), (by (with_reducible repeat (first | apply Kept.drewN | apply Kept.drew)); exact Kept.setCell HK.out (p := ⟨g, 0, none⟩) (.inl (.inl rfl)) _)⟩
def impl_SetVar.f (k : Nat) (l0_0 : List S53) (l0_1 : List S57) (a0_2 : ByteArray) (a1 : ByteArray) (a2 : ByteArray) : Option ((List (S53)) × (List (S57)) × ByteArray) := (impl_copyStore.f l0_0 l0_1 a0_2).bind fun bt => ((impl_Cut.f a2).bind fun x => ((impl_Var.f k bt.1 a1 x true 60).bind fun t => (some (t, bt.2.1, bt.2.2))))
theorem impl_SetVar.mono : ∀ b0 b1 b2 b3 b4 k, LeO (impl_SetVar.f k b0 b1 b2 b3 b4) (impl_SetVar.f (k + 1) b0 b1 b2 b3 b4) := by
  intro b0 b1 b2 b3 b4 k
  unfold impl_SetVar.f
  refine LeO.bind (LeO.refl _) (fun _ => ?_)
  refine LeO.bind (LeO.refl _) (fun _ => ?_)
  exact LeO.bind (impl_Var.mono _ _ _ _ _ k) (fun _ => LeO.refl _)
set_option maxHeartbeats 8000000 in
set_option maxRecDepth 100000 in
theorem impl_SetVar.calls (k : Nat) (A0_0 : Option Addr) (c0_0 : Nat) (l0_0 : List (S53)) (A0_1 : Option Addr) (c0_1 : Nat) (l0_1 : List (S57)) (a0_2 : ByteArray) (a1 : ByteArray) (a2 : ByteArray) (r1 : List (S53)) (r2 : List (S57)) (r3 : ByteArray) (w : World) (hr0_0 : Kd.C k53 w A0_0 l0_0.length l0_0) (hc0_0 : l0_0.length ≤ c0_0) (hr0_1 : Kd.C k57 w A0_1 l0_1.length l0_1) (hc0_1 : l0_1.length ≤ c0_1) (h : impl_SetVar.f k l0_0 l0_1 a0_2 a1 a2 = some (r1, r2, r3)) :
    Calls Try.prog 29 #[.agg #[.slice A0_0 l0_0.length c0_0, .slice A0_1 l0_1.length c0_1, .string a0_2], .string a1, .string a2] w fun e w' => ∃ v0_ v1_ : Value, e = .returned (.agg #[v0_, v1_, .string r3]) ∧ Kd.R k53 53 w' w.heap.size (fun _ => True) v0_ r1 ∧ Kd.R k57 57 w' w.heap.size (fun _ => True) v1_ r2 ∧ Below w.heap.size w w' := by
  have HR0_0 := Aside0.mk hr0_0
  have HC0_0 := Aside0.mk hc0_0
  clear hr0_0 hc0_0
  have HR0_1 := Aside0.mk hr0_1
  have HC0_1 := Aside0.mk hc0_1
  clear hr0_1 hc0_1
  have HB := Aside0.mk (Below.refl w.heap.size w)
  have H := Option.bind_eq_some_iff.mp h
  clear h
  obtain ⟨⟨t1, t2, t3⟩, A30, H⟩ := H
  replace H := Option.bind_eq_some_iff.mp H
  obtain ⟨x, Ax, H⟩ := H
  replace H := Option.bind_eq_some_iff.mp H
  obtain ⟨t4, A40, H⟩ := H
  have A3 := Aside0.mk A30
  have A4 := Aside0.mk A40
  have AAx := Aside0.mk Ax
  clear A30 A40 Ax
  simp only [Option.some.injEq, Prod.mk.injEq] at H
  obtain ⟨rfl, rfl, rfl⟩ := H
  have hu38 := Try.underlying38
  go_enter Try.func29, Try.ntmps29
  go_wp2_with (first | ((with_reducible refine gate_dst (N := 3) rfl ?_); refine box_event ?hg (N := 3) ?hd (cs := #[.slice A0_0 l0_0.length c0_0, .slice A0_1 l0_1.length c0_1, .string a0_2]) (t := 38) ?hr ?_; (case hd => rfl); (case hg => rfl); (case hr => first | (go_simp; done) | (go_simp; rfl)); intro gb10 hg w7 hbox hb; have n0_ := Aside0.mk (below_step (by repeat (first | (with_reducible first | exact HB.out | apply below_alloc | apply pw_below_drewN | apply below_drew1) | exact HB.out)) hb); have n1_ := Aside0.mk hbox; have n2_ := Aside0.mk ((by rw [hg]; exact (below_size (by repeat (first | (with_reducible first | exact HB.out | apply below_alloc | apply pw_below_drewN | apply below_drew1) | exact HB.out)))) : w.heap.size ≤ gb10); clear HB; have HB := n0_; have BK10 := n1_; have GE10 := n2_; clear n0_ n1_ n2_; clear hb hbox hg) | ((with_reducible refine gate_dst (N := 6) rfl ?_); refine box_event ?hg (N := 6) ?hd (cs := #[.slice none 0 0, .slice none 0 0, .string (⟨#[]⟩ : ByteArray)]) (t := 38) ?hr ?_; (case hd => rfl); (case hg => rfl); (case hr => first | (go_simp; done) | (go_simp; rfl)); intro gb11 hg w8 hbox hb; have n0_ := Aside0.mk (blk_below (g := gb10) (o := .cells #[.slice A0_0 l0_0.length c0_0, .slice A0_1 l0_1.length c0_1, .string a0_2] 38 (0, 0)) (by (with_reducible repeat (first | refine blk_drewN ?_ _ | refine blk_drew ?_ | refine blk_alloc ?_ _)); exact BK10.out) hb); have n1_ := Aside0.mk (below_step (by repeat (first | (with_reducible first | exact HB.out | apply below_alloc | apply pw_below_drewN | apply below_drew1 | refine below_set ?_ GE10.out) | exact HB.out)) hb); have n2_ := Aside0.mk hbox; have n3_ := Aside0.mk ((by rw [hg]; exact (below_size (by repeat (first | (with_reducible first | exact HB.out | apply below_alloc | apply pw_below_drewN | apply below_drew1 | refine below_set ?_ GE10.out) | exact HB.out)))) : w.heap.size ≤ gb11); have n5_ := Aside0.mk ((by rw [hg]; exact Nat.ne_of_lt (blk_lt (g := gb10) (o := .cells #[.slice A0_0 l0_0.length c0_0, .slice A0_1 l0_1.length c0_1, .string a0_2] 38 (0, 0)) (by (with_reducible repeat (first | refine blk_drewN ?_ _ | refine blk_drew ?_ | refine blk_alloc ?_ _)); exact BK10.out))) : gb10 ≠ gb11); clear BK10; clear HB; have BK10 := n0_; have HB := n1_; have BK11 := n2_; have GE11 := n3_; have NB10_11 := n5_; clear n0_ n1_ n2_ n3_ n5_; clear hb hbox hg; have hnb9 := NB10_11.out; have hnc9 := NB10_11.out.symm; have hcz10_0 : w8.cell? ⟨gb10, 0, none⟩ = some (.slice A0_0 l0_0.length c0_0) := (blk_cell BK10.out 0).trans rfl; have hcz10_1 : w8.cell? ⟨gb10, 1, none⟩ = some (.slice A0_1 l0_1.length c0_1) := (blk_cell BK10.out 1).trans rfl; have hcz10_2 : w8.cell? ⟨gb10, 2, none⟩ = some (.string a0_2) := (blk_cell BK10.out 2).trans rfl; have hcz10f_0 := blk_frozen BK10.out 0; have hcz10f_1 := blk_frozen BK10.out 1; have hcz10f_2 := blk_frozen BK10.out 2) | ((with_reducible refine gate_callee (f := 54) rfl ?_); refine goesL_ (some 9) rfl rfl Try.func54 (by kernel_rfl) rfl #[.agg #[.slice A0_0 l0_0.length c0_0, .slice A0_1 l0_1.length c0_1, .string a0_2]] rfl (by (try simp only [List.map_toArray, List.map_cons, List.map_nil]); first | done | rfl | (simp only [List.length_drop, List.length_take]; rfl)) ?_; (with_reducible refine (impl_copyStore.calls _ _ l0_0 _ _ l0_1 a0_2 t1 t2 t3 _ ?side1 ?side2 ?side3 ?side4 A3.out).mono ?_); (case side1 => repeat (first | exact (Kd.C_below HR0_0.out HB.out) | (with_reducible refine Kd.C_alloc ?_ _) | (with_reducible refine Kd.C_drewN ?_ _) | (with_reducible refine Kd.C_drew ?_))); (case side2 => exact HC0_0.out); (case side3 => repeat (first | exact (Kd.C_below HR0_1.out HB.out) | (with_reducible refine Kd.C_alloc ?_ _) | (with_reducible refine Kd.C_drewN ?_ _) | (with_reducible refine Kd.C_drew ?_))); (case side4 => exact HC0_1.out); rintro e w11 ⟨v13, v16, rfl, ho0, ho1, hb⟩; refine ⟨_, rfl, ?_⟩; obtain ⟨Ao1, co1, eo1⟩ := Kd.R_slice ho0; subst eo1; obtain ⟨Ao2, co2, eo2⟩ := Kd.R_slice ho1; subst eo2; have n0_ := Aside0.mk (Kd.R_lower ho0 (below_size (by repeat (first | (with_reducible first | exact HB.out | apply below_alloc | apply pw_below_drewN | apply below_drew1 | refine below_set ?_ GE10.out | refine below_set ?_ GE11.out) | exact HB.out)))); have n1_ := Aside0.mk (Kd.R_lower ho1 (below_size (by repeat (first | (with_reducible first | exact HB.out | apply below_alloc | apply pw_below_drewN | apply below_drew1 | refine below_set ?_ GE10.out | refine below_set ?_ GE11.out) | exact HB.out)))); have n2_ := Aside0.mk (blk_below (g := gb10) (o := .cells #[.slice A0_0 l0_0.length c0_0, .slice A0_1 l0_1.length c0_1, .string a0_2] 38 (0, 0)) (by (with_reducible repeat (first | refine blk_drewN ?_ _ | refine blk_drew ?_ | refine blk_alloc ?_ _)); exact BK10.out) hb); have n3_ := Aside0.mk (blk_below (g := gb11) (o := .cells #[.slice none 0 0, .slice none 0 0, .string (⟨#[]⟩ : ByteArray)] 38 (0, 0)) (by (with_reducible repeat (first | refine blk_drewN ?_ _ | refine blk_drew ?_ | refine blk_alloc ?_ _)); exact BK11.out) hb); have n4_ := Aside0.mk (below_step (by repeat (first | (with_reducible first | exact HB.out | apply below_alloc | apply pw_below_drewN | apply below_drew1 | refine below_set ?_ GE10.out | refine below_set ?_ GE11.out) | exact HB.out)) hb); clear BK10; clear BK11; clear HB; have HO1 := n0_; have HO2 := n1_; have BK10 := n2_; have BK11 := n3_; have HB := n4_; clear n0_ n1_ n2_ n3_ n4_; clear hb ho0 ho1) | ((with_reducible refine gate_dst (N := 7) rfl ?_); refine box_event ?hg (N := 7) ?hd (cs := #[.slice none 0 0, .slice none 0 0, .string (⟨#[]⟩ : ByteArray)]) (t := 38) ?hr ?_; (case hd => rfl); (case hg => rfl); (case hr => first | (go_simp; done) | (go_simp; rfl)); intro gb19 hg w12 hbox hb; have SHG := Aside0.mk ((by rw [hg]; exact Nat.le_refl _) : w11.heap.size ≤ gb19); have SHB := Aside0.mk ((by (with_reducible repeat (first | apply pw_below_drewN | apply below_drew1)); exact hb) : Below w11.heap.size w11 w12); have n5_ := Aside0.mk hbox; have n8_ := Aside0.mk ((by rw [hg]; exact Nat.ne_of_lt (blk_lt (g := gb10) (o := .cells #[.slice A0_0 l0_0.length c0_0, .slice A0_1 l0_1.length c0_1, .string a0_2] 38 (0, 0)) (by (with_reducible repeat (first | refine blk_drewN ?_ _ | refine blk_drew ?_ | refine blk_alloc ?_ _)); exact BK10.out))) : gb10 ≠ gb19); have n10_ := Aside0.mk ((by rw [hg]; exact Nat.ne_of_lt (blk_lt (g := gb11) (o := .cells #[.slice none 0 0, .slice none 0 0, .string (⟨#[]⟩ : ByteArray)] 38 (0, 0)) (by (with_reducible repeat (first | refine blk_drewN ?_ _ | refine blk_drew ?_ | refine blk_alloc ?_ _)); exact BK11.out))) : gb11 ≠ gb19); have BK19 := n5_; have NB10_19 := n8_; have NB11_19 := n10_; clear n5_ n8_ n10_; clear hb hbox hg; have hnb14 := NB10_19.out; have hnc14 := NB10_19.out.symm; have hnb15 := NB11_19.out; have hnc15 := NB11_19.out.symm; have hcz16_0 : w12.cell? ⟨gb19, 0, none⟩ = some (.slice none 0 0) := (blk_cell BK19.out 0).trans rfl; have hcz16_1 : w12.cell? ⟨gb19, 1, none⟩ = some (.slice none 0 0) := (blk_cell BK19.out 1).trans rfl; have hcz16_2 : w12.cell? ⟨gb19, 2, none⟩ = some (.string (⟨#[]⟩ : ByteArray)) := (blk_cell BK19.out 2).trans rfl; have hcz16f_0 := blk_frozen BK19.out 0; have hcz16f_1 := blk_frozen BK19.out 1; have hcz16f_2 := blk_frozen BK19.out 2) | ((with_reducible refine gate_callee (f := 63) rfl ?_); have hW1 : Kd.R k53 53 (((w12.setCell ⟨gb19, 0, none⟩ (.slice Ao1 t1.length co1)).setCell ⟨gb19, 1, none⟩ (.slice Ao2 t2.length co2)).setCell ⟨gb19, 2, none⟩ (.string t3)) w.heap.size (fun _ => True) (.slice Ao1 t1.length co1) t1 := (by (with_reducible repeat (first | apply Kd.R_alloc | apply Kd.R_drewN | apply Kd.R_drew)); exact Kd.R_mono (Kd.R_far (p := ⟨gb19, 2, none⟩) (Kd.R_far (p := ⟨gb19, 1, none⟩) (Kd.R_far (p := ⟨gb19, 0, none⟩) (Kd.R_types (Kd.R_below HO1.out SHB.out) BK19.out (by decide)) (fun _ hk => hk.2) _) (fun _ hk => hk.2) _) (fun _ hk => hk.2) _) (fun _ _ => trivial)); have hW2 : Kd.R k57 57 (((w12.setCell ⟨gb19, 0, none⟩ (.slice Ao1 t1.length co1)).setCell ⟨gb19, 1, none⟩ (.slice Ao2 t2.length co2)).setCell ⟨gb19, 2, none⟩ (.string t3)) w.heap.size (fun _ => True) (.slice Ao2 t2.length co2) t2 := (by (with_reducible repeat (first | apply Kd.R_alloc | apply Kd.R_drewN | apply Kd.R_drew)); exact Kd.R_mono (Kd.R_far (p := ⟨gb19, 2, none⟩) (Kd.R_far (p := ⟨gb19, 1, none⟩) (Kd.R_far (p := ⟨gb19, 0, none⟩) (Kd.R_types (Kd.R_below HO2.out SHB.out) BK19.out (by decide)) (fun _ hk => hk.2) _) (fun _ hk => hk.2) _) (fun _ hk => hk.2) _) (fun _ _ => trivial)); have hB11 : (((w12.setCell ⟨gb19, 0, none⟩ (.slice Ao1 t1.length co1)).setCell ⟨gb19, 1, none⟩ (.slice Ao2 t2.length co2)).setCell ⟨gb19, 2, none⟩ (.string t3)).heap[gb11]? = some (.cells #[.slice none 0 0, .slice none 0 0, .string (⟨#[]⟩ : ByteArray)] 38 (0, 0)) := (by (with_reducible repeat (first | refine blk_drewN ?_ _ | refine blk_drew ?_ | refine blk_alloc ?_ _)); refine blk_far ?_ NB11_19.out _; refine blk_far ?_ NB11_19.out _; refine blk_far ?_ NB11_19.out _; (with_reducible repeat (first | refine blk_drewN ?_ _ | refine blk_drew ?_ | refine blk_alloc ?_ _)); exact blk_below BK11.out SHB.out); have hB19 : (((w12.setCell ⟨gb19, 0, none⟩ (.slice Ao1 t1.length co1)).setCell ⟨gb19, 1, none⟩ (.slice Ao2 t2.length co2)).setCell ⟨gb19, 2, none⟩ (.string t3)).heap[gb19]? = some (.cells #[.slice Ao1 t1.length co1, .slice Ao2 t2.length co2, .string t3] 38 (0, 0)) := (by (with_reducible repeat (first | refine blk_drewN ?_ _ | refine blk_drew ?_ | refine blk_alloc ?_ _)); refine blk_put (cs := #[.slice Ao1 t1.length co1, .slice Ao2 t2.length co2, .string (⟨#[]⟩ : ByteArray)]) ?_ 2 _ rfl; refine blk_put (cs := #[.slice Ao1 t1.length co1, .slice none 0 0, .string (⟨#[]⟩ : ByteArray)]) ?_ 1 _ rfl; refine blk_put (cs := #[.slice none 0 0, .slice none 0 0, .string (⟨#[]⟩ : ByteArray)]) ?_ 0 _ rfl; (with_reducible repeat (first | refine blk_drewN ?_ _ | refine blk_drew ?_ | refine blk_alloc ?_ _)); exact BK19.out); refine goesL_ (some 12) rfl rfl Try.func63 (by kernel_rfl) rfl #[.pointer (some ⟨gb19, 0, none⟩), .string a1, .string a2] rfl (by (try simp only [List.map_toArray, List.map_cons, List.map_nil]); first | done | rfl) ?_; refine (impl_SetVar_set k gb19 (.slice Ao2 t2.length co2) Ao1 co1 t1 t3 a1 a2 x t4 w _ ?side1 ?side2 hB19 hW1 AAx.out A4.out).mono ?_; (case side1 => repeat (first | exact below_step HB.out SHB.out | apply below_alloc | apply pw_below_drewN | apply below_drew1 | refine below_set ?_ (Nat.le_trans HB.out.size SHG.out))); (case side2 => exact Nat.le_trans HB.out.size SHG.out); rintro e w13 ⟨rfl, u9, hblk, ho9, hb9, hk9⟩; refine ⟨_, rfl, ?_⟩; obtain ⟨A9, c9, e9⟩ := Kd.R_slice ho9; subst e9; have n3_ := Aside0.mk (blk_kept hB11 hk9 (fun hP => hP.elim (fun e_ => NB11_19.out e_) (fun e_ => Kd.R_ne hW1 hB11 (by decide) e_))); have n0_ := Aside0.mk (Kd.R_mono (ok' := fun _ => True) (Kd.R_kept (Kd.R_tight rfl hW2) hk9 (fun k_ hk_ h_ => h_.elim (fun e_ => Kd.R_ne hW2 hB19 (by decide) (e_ ▸ hk_)) (fun e_ => impl_SetVar_apart hW2 hW1 (by decide) k_ hk_ e_))) (fun _ _ => trivial)); have n1_ := Aside0.mk ho9; have n4_ := Aside0.mk hb9; have n5_ := Aside0.mk hblk; clear hblk hb9 hk9 ho9 hW1 hW2 hB11 hB19; clear BK10; clear BK11; clear BK19; clear HB; clear HO1; clear HO2; have HO2 := n0_; have HO1 := n1_; have BK11 := n3_; have HB := n4_; have BK19 := n5_; clear n0_ n1_ n3_ n4_ n5_; have hcz17_0 : w13.cell? ⟨gb19, 0, none⟩ = some (.slice A9 t4.length c9) := (blk_cell BK19.out 0).trans rfl; have hcz17_1 : w13.cell? ⟨gb19, 1, none⟩ = some (.slice Ao2 t2.length co2) := (blk_cell BK19.out 1).trans rfl; have hcz17_2 : w13.cell? ⟨gb19, 2, none⟩ = some (.string t3) := (blk_cell BK19.out 2).trans rfl; have hcz17f_0 := blk_frozen BK19.out 0; have hcz17f_1 := blk_frozen BK19.out 1; have hcz17f_2 := blk_frozen BK19.out 2; have hcz18_0 : w13.cell? ⟨gb11, 0, none⟩ = some (.slice none 0 0) := (blk_cell BK11.out 0).trans rfl; have hcz18_1 : w13.cell? ⟨gb11, 1, none⟩ = some (.slice none 0 0) := (blk_cell BK11.out 1).trans rfl; have hcz18_2 : w13.cell? ⟨gb11, 2, none⟩ = some (.string (⟨#[]⟩ : ByteArray)) := (blk_cell BK11.out 2).trans rfl; have hcz18f_0 := blk_frozen BK11.out 0; have hcz18f_1 := blk_frozen BK11.out 1; have hcz18f_2 := blk_frozen BK11.out 2))
  refine bodyPost_ret (results_cell_row rfl _ _ gb11 38 #[.slice A9 t4.length c9, .slice Ao2 t2.length co2, .string t3] (0, 0) _ rfl (by (with_reducible repeat (first | refine blk_drewN ?_ _ | refine blk_drew ?_ | refine blk_alloc ?_ _)); refine blk_put (cs := #[.slice A9 t4.length c9, .slice Ao2 t2.length co2, .string (⟨#[]⟩ : ByteArray)]) ?_ 2 _ rfl; refine blk_put (cs := #[.slice A9 t4.length c9, .slice none 0 0, .string (⟨#[]⟩ : ByteArray)]) ?_ 1 _ rfl; refine blk_put (cs := #[.slice none 0 0, .slice none 0 0, .string (⟨#[]⟩ : ByteArray)]) ?_ 0 _ rfl; (with_reducible repeat (first | refine blk_drewN ?_ _ | refine blk_drew ?_ | refine blk_alloc ?_ _)); exact BK11.out) Try.underlying38 rfl (by kernel_rfl)) rfl ?_
  exact ⟨_, _, rfl, (by (with_reducible repeat (first | apply Kd.R_alloc | apply Kd.R_drewN | apply Kd.R_drew)); exact (Kd.R_mono (Kd.R_far (p := ⟨gb11, 2, none⟩) (Kd.R_far (p := ⟨gb11, 1, none⟩) (Kd.R_far (p := ⟨gb11, 0, none⟩) (Kd.R_types HO1.out BK11.out (by decide)) (fun _ hk => hk.2) _) (fun _ hk => hk.2) _) (fun _ hk => hk.2) _) (fun _ hk => trivial))), (by (with_reducible repeat (first | apply Kd.R_alloc | apply Kd.R_drewN | apply Kd.R_drew)); exact (Kd.R_mono (Kd.R_far (p := ⟨gb11, 2, none⟩) (Kd.R_far (p := ⟨gb11, 1, none⟩) (Kd.R_far (p := ⟨gb11, 0, none⟩) (Kd.R_types HO2.out BK11.out (by decide)) (fun _ hk => hk.2) _) (fun _ hk => hk.2) _) (fun _ hk => hk.2) _) (fun _ hk => trivial))), (by repeat (first | (with_reducible first | exact HB.out | apply below_alloc | apply pw_below_drewN | apply below_drew1 | refine below_set ?_ GE10.out | refine below_set ?_ GE11.out) | exact HB.out))⟩

end Go.Proofs.Ytodpkfidkilpdaa.QFnExactSetVar
