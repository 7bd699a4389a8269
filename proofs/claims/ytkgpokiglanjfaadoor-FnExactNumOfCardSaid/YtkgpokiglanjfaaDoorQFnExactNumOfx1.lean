-- A text of this session, made by wip/own_print.py (the kit's print with additions of ours).
import Derived.Test.YtkgpokiglanjfaaDoorQFnExactNumOfx0
namespace Go.Proofs.YtkgpokiglanjfaaDoor.QFnExactNumOf
open Go.RowKit Go.Proofs.YtkgpokiglanjfaaDoorW.PrintWords Go.Proofs.YtkgpokiglanjfaaDoorW.PrintLast Go.Proofs.YtkgpokiglanjfaaDoorW.PrintMore
attribute [local go_sem] max2_int min2_int max_two min_two max_three min_three max_four min_four   -- for this text's walks alone
set_option linter.unusedVariables false
set_option linter.unusedSimpArgs false

/-! ### spec_NumOf: function 16 -/
mutual
def spec_NumOf.j1 : Nat → ByteArray → Int → Option (Int)
  | 0, _, _ => none
  | k + 1, x0, x3 => spec_NumOf.l1 k x0 x3 0
def spec_NumOf.l1 : Nat → ByteArray → Int → Int → Option (Int)
  | 0, _, _, _ => none
  | k + 1, x0, x3, x4 => if x3 < (x0.size : Int) then (if 0 ≤ x3 then (if (bt x0 x3) ≥ 48 then (if (bt x0 x3) ≤ 57 then (spec_NumOf.l1 k x0 (wrap64 (x3 + 1)) (Int.tmod (wrap64 ((wrap64 (10 * x4)) + (((bt x0 x3) - 48) % 256))) 1000000)) else (some x4)) else (some x4)) else (none)) else (some x4)
def spec_NumOf.l0 : Nat → ByteArray → Int → Option (Int)
  | 0, _, _ => none
  | k + 1, x0, x3 => if x3 < (x0.size : Int) then (if 0 ≤ x3 then (if (bt x0 x3) = 32 then (spec_NumOf.l0 k x0 (wrap64 (x3 + 1))) else (spec_NumOf.j1 k x0 x3)) else (none)) else (spec_NumOf.j1 k x0 x3)
end
def spec_NumOf.f (k : Nat) (a0 : ByteArray) : Option (Int) := spec_NumOf.l0 k a0 0
theorem spec_NumOf.mono_l : ∀ k, (∀ y0 y1, LeO (spec_NumOf.j1 k y0 y1) (spec_NumOf.j1 (k + 1) y0 y1)) ∧ (∀ y0 y1 y2, LeO (spec_NumOf.l1 k y0 y1 y2) (spec_NumOf.l1 (k + 1) y0 y1 y2)) ∧ (∀ y0 y1, LeO (spec_NumOf.l0 k y0 y1) (spec_NumOf.l0 (k + 1) y0 y1))
  | 0 => ⟨fun _ _ r h => by simp [spec_NumOf.j1] at h, fun _ _ _ r h => by simp [spec_NumOf.l1] at h, fun _ _ r h => by simp [spec_NumOf.l0] at h⟩
  | k + 1 => by
    obtain ⟨ih0, ih1, ih2⟩ := spec_NumOf.mono_l k
    refine ⟨?_, ?_, ?_⟩
    · intro y0 y1
      unfold spec_NumOf.j1
      repeat' first
      | (with_reducible exact ih0 _ _)
      | (with_reducible exact ih1 _ _ _)
      | (with_reducible exact ih2 _ _)
      | (with_reducible exact LeO.refl _)
      | (with_reducible exact LeO.none _)
      | (with_reducible refine LeO.ite ?_ ?_)
      | (with_reducible refine LeO.bind ?_ (fun _ => ?_))
      | exact ih0 _ _
      | exact ih1 _ _ _
      | exact ih2 _ _
      | exact LeO.none _
      | refine LeO.ite ?_ ?_
      | refine LeO.bind ?_ (fun _ => ?_)
    · intro y0 y1 y2
      unfold spec_NumOf.l1
      repeat' first
      | (with_reducible exact ih0 _ _)
      | (with_reducible exact ih1 _ _ _)
      | (with_reducible exact ih2 _ _)
      | (with_reducible exact LeO.refl _)
      | (with_reducible exact LeO.none _)
      | (with_reducible refine LeO.ite ?_ ?_)
      | (with_reducible refine LeO.bind ?_ (fun _ => ?_))
      | exact ih0 _ _
      | exact ih1 _ _ _
      | exact ih2 _ _
      | exact LeO.none _
      | refine LeO.ite ?_ ?_
      | refine LeO.bind ?_ (fun _ => ?_)
    · intro y0 y1
      unfold spec_NumOf.l0
      repeat' first
      | (with_reducible exact ih0 _ _)
      | (with_reducible exact ih1 _ _ _)
      | (with_reducible exact ih2 _ _)
      | (with_reducible exact LeO.refl _)
      | (with_reducible exact LeO.none _)
      | (with_reducible refine LeO.ite ?_ ?_)
      | (with_reducible refine LeO.bind ?_ (fun _ => ?_))
      | exact ih0 _ _
      | exact ih1 _ _ _
      | exact ih2 _ _
      | exact LeO.none _
      | refine LeO.ite ?_ ?_
      | refine LeO.bind ?_ (fun _ => ?_)
theorem spec_NumOf.mono : ∀ a0 k, LeO (spec_NumOf.f k a0) (spec_NumOf.f (k + 1) a0) := by
  intro a0 k
  obtain ⟨ih0, ih1, ih2⟩ := spec_NumOf.mono_l k
  unfold spec_NumOf.f
  repeat' first
      | (with_reducible exact ih0 _ _)
      | (with_reducible exact ih1 _ _ _)
      | (with_reducible exact ih2 _ _)
      | (with_reducible exact LeO.refl _)
      | (with_reducible exact LeO.none _)
      | (with_reducible refine LeO.ite ?_ ?_)
      | (with_reducible refine LeO.bind ?_ (fun _ => ?_))
      | exact ih0 _ _
      | exact ih1 _ _ _
      | exact ih2 _ _
      | exact LeO.none _
      | refine LeO.ite ?_ ?_
      | refine LeO.bind ?_ (fun _ => ?_)
set_option maxHeartbeats 8000000 in
set_option maxRecDepth 100000 in
theorem spec_NumOf.calls (k : Nat) (a0 : ByteArray) (r : Int) (w : World) (h : spec_NumOf.f k a0 = some r) :
    Calls Tryd.prog 16 #[.string a0] w fun e w' => e = .returned (.int .i64 r) ∧ Drawn0 w w' := by
  have H : (spec_NumOf.l0 k a0 0) = some r := h
  clear h
  have HC2 := Aside0.mk H
  clear H
  go_enter Tryd.func16, Tryd.ntmps16
  go_upto_block 0 with (fail)
  go_cut [3] (fun v3 wc => ∃ (kq : Nat) (x3_1 : Int), v3 = .int .i64 x3_1 ∧ Aside0 (spec_NumOf.j1 kq a0 x3_1 = some r) ∧ Aside0 (kq ≤ k) ∧ Drawn0 w wc)
  case first =>
    have H := HC2.out
    clear HC2
    have H' := Aside0.mk H
    clear H
    go_wp2
    go_loopg [3] k (fun kq v3 w' => ∃ (x3_1 : Int), v3 = .int .i64 x3_1 ∧ Aside0 (spec_NumOf.l0 kq a0 x3_1 = some r) ∧ Aside0 (kq ≤ k) ∧ Drawn0 w w')
    case atStart => exact ⟨(0), (by first | rfl | (simp; done) | (simp [*]; done)), H', ⟨Nat.le_refl _⟩, by repeat (first | exact Drawn0.refl _ | apply Drawn0.step)⟩
    case round =>
      clear H'
      try clear c1
      try clear p2
      obtain ⟨x3_1, rfl, HA, HK1, ⟨m1, rfl⟩⟩ := hrel
      cases gk with
      | zero => exact absurd HA.out (by simp [spec_NumOf.l0])
      | succ k1 =>
        have H := HA.out
        clear HA
        simp only [spec_NumOf.l0] at H
        by_cases c3 : x3_1 < (a0.size : Int)
        · rw [if_pos c3] at H
          have c3b0 : decide (x3_1 < (a0.size : Int)) = true := decide_eq_true c3
          clear c3
          (first | rw [c3b0] | (simp only [i64_w, i32_w]; rw [c3b0]) | skip)
          by_cases c4 : 0 ≤ x3_1
          · rw [if_pos c4] at H
            have c4b0 : decide (0 ≤ x3_1) = true := decide_eq_true c4
            clear c4
            by_cases c6 : (bt a0 x3_1) = 32
            · rw [if_pos c6] at H
              have c6b0 : ((bt a0 x3_1) == 32) = true := beq_iff_eq.mpr c6
              have c6b1 : ((bt a0 x3_1) != 32) = false := bne_eq_false_iff_eq.mpr c6
              clear c6
              have H' := Aside0.mk H
              clear H
              have p5 : 0 ≤ (x3_1 : Int) := of_decide_eq_true (by first | (with_reducible assumption) | assumption)
              have q5 : x3_1 < (a0.size : Int) := of_decide_eq_true (by first | (with_reducible assumption) | assumption)
              have hx5 := bt_at a0 x3_1
              replace p5 := eq_true p5
              replace q5 := eq_true q5
              go_wp2
              go_roundg k1
              case measure => have := HK1.out; omega
              case rel => exact ⟨(wrap64 (x3_1 + 1)), (by first | rfl | (simp; done) | (simp [*]; done)), H', ⟨by have := HK1.out; omega⟩, by repeat (first | exact Drawn0.refl _ | apply Drawn0.step)⟩
            · rw [if_neg c6] at H
              have c6b0 : ((bt a0 x3_1) == 32) = false := beq_eq_false_iff_ne.mpr c6
              have c6b1 : ((bt a0 x3_1) != 32) = true := bne_iff_ne.mpr c6
              have H' := Aside0.mk H
              clear H
              have p5 : 0 ≤ (x3_1 : Int) := of_decide_eq_true (by first | (with_reducible assumption) | assumption)
              have q5 : x3_1 < (a0.size : Int) := of_decide_eq_true (by first | (with_reducible assumption) | assumption)
              have hx5 := bt_at a0 x3_1
              replace p5 := eq_true p5
              replace q5 := eq_true q5
              go_wp2
              go_meet
              case rel => exact ⟨_, (x3_1), (by first | rfl | (simp; done) | (simp [*]; done)), H', ⟨by have := HK1.out; first | omega | exact Nat.le_refl _⟩, by repeat (first | exact Drawn0.refl _ | apply Drawn0.step)⟩
          · rw [if_neg c4] at H
            exact absurd H (by simp)
        · rw [if_neg c3] at H
          have c3b0 : decide (x3_1 < (a0.size : Int)) = false := decide_eq_false c3
          clear c3
          (first | rw [c3b0] | (simp only [i64_w, i32_w]; rw [c3b0]) | skip)
          have H' := Aside0.mk H
          clear H
          go_wp2
          go_meet
          case rel => exact ⟨_, (x3_1), (by first | rfl | (simp; done) | (simp [*]; done)), H', ⟨by have := HK1.out; first | omega | exact Nat.le_refl _⟩, by repeat (first | exact Drawn0.refl _ | apply Drawn0.step)⟩
  case rest =>
    clear HC2
    try clear c1
    try clear p2
    try clear c3
    try clear c3b0
    try clear c4
    try clear c4b0
    try clear p5
    try clear q5
    try clear hx5
    try clear c6
    try clear c6b0
    try clear c6b1
    try clear p6
    try clear p2
    try clear p5
    try clear q5
    obtain ⟨kq, x3_1, rfl, HA, HJ1, ⟨mc1, rfl⟩⟩ := hcut
    cases kq with
    | zero => exact absurd HA.out (by simp [spec_NumOf.j1])
    | succ kj1 =>
      have H := HA.out
      clear HA
      simp only [spec_NumOf.j1] at H
      have H' := Aside0.mk H
      clear H
      go_wp2
      go_loopg [3, 4] kj1 (fun kq v3 v4 w' => ∃ (x3_2 : Int) (x4_2 : Int), v3 = .int .i64 x3_2 ∧ v4 = .int .i64 x4_2 ∧ Aside0 (spec_NumOf.l1 kq a0 x3_2 x4_2 = some r) ∧ Aside0 (kq ≤ kj1) ∧ Drawn0 w w')
      case atStart => exact ⟨(x3_1), (0), (by first | rfl | (simp; done) | (simp [*]; done)), (by first | rfl | (simp; done) | (simp [*]; done)), H', ⟨Nat.le_refl _⟩, by repeat (first | exact Drawn0.refl _ | apply Drawn0.step)⟩
      case round =>
        clear H'
        try clear c1
        try clear p2
        try clear c3
        try clear c3b0
        try clear c4
        try clear c4b0
        try clear p5
        try clear q5
        try clear hx5
        try clear c6
        try clear c6b0
        try clear c6b1
        try clear p6
        try clear p2
        try clear p5
        try clear p6
        try clear q5
        obtain ⟨x3_2, x4_2, rfl, rfl, HA, HK2, ⟨m2, rfl⟩⟩ := hrel
        cases gk with
        | zero => exact absurd HA.out (by simp [spec_NumOf.l1])
        | succ k2 =>
          have H := HA.out
          clear HA
          simp only [spec_NumOf.l1] at H
          by_cases c7 : x3_2 < (a0.size : Int)
          · rw [if_pos c7] at H
            have c7b0 : decide (x3_2 < (a0.size : Int)) = true := decide_eq_true c7
            clear c7
            by_cases c8 : 0 ≤ x3_2
            · rw [if_pos c8] at H
              have c8b0 : decide (0 ≤ x3_2) = true := decide_eq_true c8
              clear c8
              by_cases c10 : (bt a0 x3_2) ≥ 48
              · rw [if_pos c10] at H
                have c10b0 : decide (48 ≤ (bt a0 x3_2)) = true := decide_eq_true c10
                clear c10
                by_cases c12 : (bt a0 x3_2) ≤ 57
                · rw [if_pos c12] at H
                  have c12b0 : decide ((bt a0 x3_2) ≤ 57) = true := decide_eq_true c12
                  clear c12
                  have H' := Aside0.mk H
                  clear H
                  have p9 : 0 ≤ (x3_2 : Int) := of_decide_eq_true (by first | (with_reducible assumption) | assumption)
                  have q9 : x3_2 < (a0.size : Int) := of_decide_eq_true (by first | (with_reducible assumption) | assumption)
                  have hx9 := bt_at a0 x3_2
                  replace p9 := eq_true p9
                  replace q9 := eq_true q9
                  have p11 : 0 ≤ (x3_2 : Int) := of_decide_eq_true (by first | (with_reducible assumption) | assumption)
                  have q11 : x3_2 < (a0.size : Int) := of_decide_eq_true (by first | (with_reducible assumption) | assumption)
                  have hx11 := bt_at a0 x3_2
                  replace p11 := eq_true p11
                  replace q11 := eq_true q11
                  have p13 : 0 ≤ (x3_2 : Int) := of_decide_eq_true (by first | (with_reducible assumption) | assumption)
                  have q13 : x3_2 < (a0.size : Int) := of_decide_eq_true (by first | (with_reducible assumption) | assumption)
                  have hx13 := bt_at a0 x3_2
                  replace p13 := eq_true p13
                  replace q13 := eq_true q13
                  go_wp2
                  go_roundg k2
                  case measure => have := HJ1.out; have := HK2.out; omega
                  case rel => exact ⟨(wrap64 (x3_2 + 1)), (Int.tmod (wrap64 ((wrap64 (10 * x4_2)) + (((bt a0 x3_2) - 48) % 256))) 1000000), (by first | rfl | (simp; done) | (simp [*]; done)), (by first | rfl | (simp; done) | (simp [*]; done)), H', ⟨by have := HJ1.out; have := HK2.out; omega⟩, by repeat (first | exact Drawn0.refl _ | apply Drawn0.step)⟩
                · rw [if_neg c12] at H
                  have c12b0 : decide ((bt a0 x3_2) ≤ 57) = false := decide_eq_false c12
                  clear c12
                  obtain rfl := Option.some.inj H
                  have p9 : 0 ≤ (x3_2 : Int) := of_decide_eq_true (by first | (with_reducible assumption) | assumption)
                  have q9 : x3_2 < (a0.size : Int) := of_decide_eq_true (by first | (with_reducible assumption) | assumption)
                  have hx9 := bt_at a0 x3_2
                  replace p9 := eq_true p9
                  replace q9 := eq_true q9
                  have p11 : 0 ≤ (x3_2 : Int) := of_decide_eq_true (by first | (with_reducible assumption) | assumption)
                  have q11 : x3_2 < (a0.size : Int) := of_decide_eq_true (by first | (with_reducible assumption) | assumption)
                  have hx11 := bt_at a0 x3_2
                  replace p11 := eq_true p11
                  replace q11 := eq_true q11
                  go_wp2
                  go_ret
                  exact ⟨by first | rfl | (simp; done) | (simp [*]; done), by repeat (first | exact Drawn0.refl _ | apply Drawn0.step)⟩
              · rw [if_neg c10] at H
                have c10b0 : decide (48 ≤ (bt a0 x3_2)) = false := decide_eq_false c10
                clear c10
                obtain rfl := Option.some.inj H
                have p9 : 0 ≤ (x3_2 : Int) := of_decide_eq_true (by first | (with_reducible assumption) | assumption)
                have q9 : x3_2 < (a0.size : Int) := of_decide_eq_true (by first | (with_reducible assumption) | assumption)
                have hx9 := bt_at a0 x3_2
                replace p9 := eq_true p9
                replace q9 := eq_true q9
                go_wp2
                go_ret
                exact ⟨by first | rfl | (simp; done) | (simp [*]; done), by repeat (first | exact Drawn0.refl _ | apply Drawn0.step)⟩
            · rw [if_neg c8] at H
              exact absurd H (by simp)
          · rw [if_neg c7] at H
            have c7b0 : decide (x3_2 < (a0.size : Int)) = false := decide_eq_false c7
            clear c7
            obtain rfl := Option.some.inj H
            go_wp2
            go_ret
            exact ⟨by first | rfl | (simp; done) | (simp [*]; done), by repeat (first | exact Drawn0.refl _ | apply Drawn0.step)⟩

/-! ### impl_NumOf: function 17 -/
def qfigB (c : Int) : Bool := decide (48 ≤ c) && decide (c ≤ 57)
def qnumL : Int → List Int → Int
  | n, [] => n
  | n, c :: cs => if qfigB c = true then qnumL ((10 * n + (c - 48)) % 1000000) cs else n
theorem qnumL_end (n : Int) : qnumL n [] = n := rfl
theorem qnumL_go {c : Int} (h : qfigB c = true) (n : Int) (cs : List Int) : qnumL n (c :: cs) = qnumL ((10 * n + (c - 48)) % 1000000) cs := by rw [qnumL, if_pos h]
theorem qnumL_stop {c : Int} (h : qfigB c = false) (n : Int) (cs : List Int) : qnumL n (c :: cs) = n := by rw [qnumL, if_neg (by rw [h]; decide)]
theorem qfig_calls (c : Int) (h0 : 0 ≤ c) (h255 : c ≤ 255) (b : Bool) (hb : qfigB c = b) (w : World) : Calls Tryd.prog 51 #[.int .u8 c] w fun e w' => e = .returned (.bool b) ∧ w = w' := by
  unfold qfigB at hb
  by_cases h1 : 48 ≤ c
  · by_cases h2 : c ≤ 57
    · have e1 : decide (48 ≤ c) = true := decide_eq_true h1
      have e2 : decide (c ≤ 57) = true := decide_eq_true h2
      rw [e1, e2] at hb
      subst hb
      go_enter Tryd.func51, Tryd.ntmps51
      go_wp2
      go_ret
      exact ⟨rfl, rfl⟩
    · have e1 : decide (48 ≤ c) = true := decide_eq_true h1
      have e2 : decide (c ≤ 57) = false := decide_eq_false h2
      rw [e1, e2] at hb
      subst hb
      go_enter Tryd.func51, Tryd.ntmps51
      go_wp2
      go_ret
      exact ⟨rfl, rfl⟩
  · have e1 : decide (48 ≤ c) = false := decide_eq_false h1
    rw [e1] at hb
    subst hb
    go_enter Tryd.func51, Tryd.ntmps51
    go_wp2
    go_ret
    exact ⟨rfl, rfl⟩
set_option maxHeartbeats 1000000 in
theorem qnum_calls (s T : ByteArray) (hT : T = ⟨(Go.Lib.trimLeftB s.data.toList 32).toArray⟩) (hs : T.size ≤ 281474976710656) (r : Int) (hr : qnumL 0 (bytesOf T) = r) (w : World) :
    Calls Tryd.prog 17 #[.string s] w fun e w' => e = .returned (.int .i64 r) ∧ Below w.heap.size w w' := by
  obtain ⟨w1, cap, hconv, hcell, hbel⟩ : ∃ w1 cap, (convert 9 27 (.string T)).run Tryd.prog w = .ok (.slice (some ⟨w.heap.size, 0, none⟩) T.size cap) w1 ∧ (∀ j, j < T.size → w1.cell? ⟨w.heap.size, j, none⟩ = some (.int .u8 (T.data.toList.getD j 0).toNat)) ∧ Below w.heap.size w w1 :=
    ⟨_, _, Go.Lib.run_convert_string_bytes w 9 27 5 T Tryd.underlying9 Tryd.underlying27 Tryd.underlying5, fun j hj => Go.Lib.bytesWorld_cell w 5 T j hj, ⟨rfl, rfl, rfl, by rw [Go.Lib.bytesWorld_size]; omega, fun j hj => Go.Lib.bytesWorld_at_old w 5 T j hj⟩⟩
  have HC := Go.Lib.hid hcell
  clear hcell
  have HR := Go.Lib.hid hr
  clear hr
  have HT := Go.Lib.hid hT
  clear hT
  go_enter Tryd.func17, Tryd.ntmps17
  go_wp2_with ((go_at_call 50; refine (Tryd.strings_TrimLeft_one s 32 (by decide) _).mono ?_; rintro e w' ⟨rfl, rfl⟩; rw [← HT.out]))
  go_loopg [3, 10] T.size (fun d v3 v10 w' => ∃ (n : Int) (i : Nat), v3 = .int .i64 n ∧ v10 = .int .i64 i ∧ Aside0 (i + d = T.size) ∧ Aside0 (qnumL n ((bytesOf T).drop i) = r ∧ 0 ≤ n ∧ n < 1000000) ∧ w' = w1)
  case atStart => exact ⟨0, 0, rfl, rfl, ⟨by omega⟩, ⟨HR.out, by omega, by omega⟩, rfl⟩
  case round =>
    obtain ⟨n, i, rfl, rfl, HI, HN, rfl⟩ := hrel
    have hi := HI.out
    clear hconv
    by_cases hlt : i < T.size
    · obtain ⟨c, hc, hc0, hc1, hcs⟩ : ∃ c : Int, wr.cell? ⟨w'.heap.size, i, none⟩ = some (.int .u8 c) ∧ 0 ≤ c ∧ c ≤ 255 ∧ (bytesOf T).drop i = c :: (bytesOf T).drop (i + 1) := by
        have hl : i < (bytesOf T).length := by rw [bytesOf_length]; exact hlt
        have h2 : i < T.data.toList.length := by simpa using hlt
        refine ⟨_, HC.out i hlt, by omega, by have := (T.data.toList.getD i 0).toNat_lt; omega, ?_⟩
        rw [List.drop_eq_getElem_cons hl]
        congr 1
        simp only [bytesOf, List.getElem_map, List.getD, List.getElem?_eq_getElem h2, Option.getD_some]
      have HCS := Go.Lib.hid hcs
      clear hcs
      cases hf : qfigB c with
      | false =>
        have hn := HN.out.1
        rw [HCS.out, qnumL_stop hf] at hn
        subst hn
        go_wp2_with ((go_at_call 51; refine (qfig_calls c hc0 hc1 false hf _).mono ?_; rintro e w3 ⟨rfl, rfl⟩))
        go_ret
        exact ⟨rfl, hbel⟩
      | true =>
        have hb := hf
        unfold qfigB at hb
        simp only [Bool.and_eq_true, decide_eq_true_eq] at hb
        have hn0 := HN.out.2.1
        have hn1 := HN.out.2.2
        have hb1 := hb.1
        have hb2 := hb.2
        clear hb
        go_wp2_with ((go_at_call 51; refine (qfig_calls c hc0 hc1 true hf _).mono ?_; rintro e w3 ⟨rfl, rfl⟩))
        go_roundg (gk - 1)
        case measure => omega
        case rel =>
          refine ⟨(10 * n + (c - 48)) % 1000000, i + 1, ?_, by go_num, ⟨by omega⟩, ⟨?_, by omega, by omega⟩, rfl⟩
          · rfl
          · have hn := HN.out.1
            rw [HCS.out, qnumL_go hf] at hn
            exact hn
    · have hn := HN.out.1
      rw [List.drop_of_length_le (by rw [bytesOf_length]; omega), qnumL_end] at hn
      subst hn
      go_wp2
      go_ret
      exact ⟨rfl, hbel⟩
def impl_NumOf.f (a0 : ByteArray) : Option (Int) := if (Go.Lib.trimLeftB a0.data.toList 32).length ≤ 281474976710656 then some (qnumL 0 (bytesOf ⟨(Go.Lib.trimLeftB a0.data.toList 32).toArray⟩)) else none
theorem impl_NumOf.calls (a0 : ByteArray) (r : Int) (w : World) (h : impl_NumOf.f a0 = some r) :
    Calls Tryd.prog 17 #[.string a0] w fun e w' => e = .returned (.int .i64 r) ∧ Below w.heap.size w w' := by
  unfold impl_NumOf.f at h
  by_cases h1 : (Go.Lib.trimLeftB a0.data.toList 32).length ≤ 281474976710656
  · rw [if_pos h1] at h
    exact qnum_calls a0 _ rfl (by simpa [ByteArray.size] using h1) r (Option.some.inj h) w
  · rw [if_neg h1] at h
    cases h

/-! ### laws_FnExactNumOf: function 4 -/
def laws_FnExactNumOf.f (k : Nat) (a0 : ByteArray) : Option (Bool) := if (a0.size : Int) > 1048576 then (some true) else ((spec_NumOf.f k a0).bind fun t101 => ((impl_NumOf.f a0).bind fun t102 => (if t102 = t101 then (some true) else (some false))))
theorem laws_FnExactNumOf.mono : ∀ a0 k, LeO (laws_FnExactNumOf.f k a0) (laws_FnExactNumOf.f (k + 1) a0) := by
  intro a0 k
  unfold laws_FnExactNumOf.f
  repeat' first
      | (with_reducible exact spec_NumOf.mono _ _)
      | (with_reducible exact LeO.refl _)
      | (with_reducible exact LeO.none _)
      | (with_reducible refine LeO.ite ?_ ?_)
      | (with_reducible refine LeO.bind ?_ (fun _ => ?_))
      | exact spec_NumOf.mono _ _
      | exact LeO.none _
      | refine LeO.ite ?_ ?_
      | refine LeO.bind ?_ (fun _ => ?_)
set_option maxHeartbeats 8000000 in
set_option maxRecDepth 100000 in
theorem laws_FnExactNumOf.calls (k : Nat) (a0 : ByteArray) (r : Bool) (w : World) (h : laws_FnExactNumOf.f k a0 = some r) :
    Calls Tryd.prog 4 #[.string a0] w fun e w' => e = .returned (.bool r) ∧ Below w.heap.size w w' := by
  have HB := Aside0.mk (Below.refl w.heap.size w)
  have H : (if (a0.size : Int) > 1048576 then (some true) else ((spec_NumOf.f k a0).bind fun t101 => ((impl_NumOf.f a0).bind fun t102 => (if t102 = t101 then (some true) else (some false))))) = some r := h
  clear h
  by_cases c2 : (a0.size : Int) > 1048576
  · rw [if_pos c2] at H
    have c2b0 : decide (1048576 < (a0.size : Int)) = true := decide_eq_true c2
    have c2b1 : decide (1048576 < a0.size) = true := decide_eq_true (by omega)
    clear c2
    obtain rfl := Option.some.inj H
    go_enter Tryd.func4, Tryd.ntmps4
    go_wp2
    go_ret
    exact ⟨by first | rfl | (simp [errW_none, errW_some] <;> rfl) | (simp [*, errW_none, errW_some] <;> rfl), by repeat (first | (with_reducible first | exact HB.out | apply below_alloc | apply pw_below_drewN | apply below_drew1) | exact HB.out)⟩
  · rw [if_neg c2] at H
    have c2b0 : decide (1048576 < (a0.size : Int)) = false := decide_eq_false c2
    have c2b1 : decide (1048576 < a0.size) = false := decide_eq_false (by omega)
    clear c2
    replace H := Option.bind_eq_some_iff.mp H
    obtain ⟨t101, A30, H⟩ := H
    replace H : ((impl_NumOf.f a0).bind fun t102 => (if t102 = t101 then (some true) else (some false))) = some r := H
    have A3 := Aside0.mk A30
    clear A30
    replace H := Option.bind_eq_some_iff.mp H
    obtain ⟨t102, A40, H⟩ := H
    replace H : (if t102 = t101 then (some true) else (some false)) = some r := H
    have A4 := Aside0.mk A40
    clear A40
    by_cases c5 : t102 = t101
    · rw [if_pos c5] at H
      have c5b0 : (t102 == t101) = true := beq_iff_eq.mpr c5
      have c5b1 : (t102 != t101) = false := bne_eq_false_iff_eq.mpr c5
      clear c5
      obtain rfl := Option.some.inj H
      go_enter Tryd.func4, Tryd.ntmps4
      go_wp2_with (first | ((with_reducible refine gate_callee (f := 16) rfl ?_); refine goesL_ (some 9) rfl rfl Tryd.func16 (by kernel_rfl) rfl #[.string a0] rfl (by (try simp only [List.map_toArray, List.map_cons, List.map_nil]); first | done | rfl | (simp only [List.length_drop, List.length_take]; rfl)) ?_; (with_reducible refine (spec_NumOf.calls k a0 t101 _ A3.out).mono ?_); rintro e w' ⟨rfl, ⟨nd, rfl⟩⟩; refine ⟨_, rfl, ?_⟩) | ((with_reducible refine gate_callee (f := 17) rfl ?_); refine goesL_ (some 11) rfl rfl Tryd.func17 (by kernel_rfl) rfl #[.string a0] rfl (by (try simp only [List.map_toArray, List.map_cons, List.map_nil]); first | done | rfl | (simp only [List.length_drop, List.length_take]; rfl)) ?_; (with_reducible refine (impl_NumOf.calls a0 t102 _ A4.out).mono ?_); rintro e w6 ⟨rfl, hb⟩; refine ⟨_, rfl, ?_⟩; have n0_ := Aside0.mk (below_step (by repeat (first | (with_reducible first | exact HB.out | apply below_alloc | apply pw_below_drewN | apply below_drew1) | exact HB.out)) hb); clear HB; have HB := n0_; clear n0_; (try clear hb); (try clear hb2); (try clear hk); (try clear hi)))
      go_ret
      exact ⟨by first | rfl | (simp [errW_none, errW_some] <;> rfl) | (simp [*, errW_none, errW_some] <;> rfl), by repeat (first | (with_reducible first | exact HB.out | apply below_alloc | apply pw_below_drewN | apply below_drew1) | exact HB.out)⟩
    · rw [if_neg c5] at H
      have c5b0 : (t102 == t101) = false := beq_eq_false_iff_ne.mpr c5
      have c5b1 : (t102 != t101) = true := bne_iff_ne.mpr c5
      obtain rfl := Option.some.inj H
      go_enter Tryd.func4, Tryd.ntmps4
      go_wp2_with (first | ((with_reducible refine gate_callee (f := 16) rfl ?_); refine goesL_ (some 9) rfl rfl Tryd.func16 (by kernel_rfl) rfl #[.string a0] rfl (by (try simp only [List.map_toArray, List.map_cons, List.map_nil]); first | done | rfl | (simp only [List.length_drop, List.length_take]; rfl)) ?_; (with_reducible refine (spec_NumOf.calls k a0 t101 _ A3.out).mono ?_); rintro e w' ⟨rfl, ⟨nd, rfl⟩⟩; refine ⟨_, rfl, ?_⟩) | ((with_reducible refine gate_callee (f := 17) rfl ?_); refine goesL_ (some 11) rfl rfl Tryd.func17 (by kernel_rfl) rfl #[.string a0] rfl (by (try simp only [List.map_toArray, List.map_cons, List.map_nil]); first | done | rfl | (simp only [List.length_drop, List.length_take]; rfl)) ?_; (with_reducible refine (impl_NumOf.calls a0 t102 _ A4.out).mono ?_); rintro e w7 ⟨rfl, hb⟩; refine ⟨_, rfl, ?_⟩; have n0_ := Aside0.mk (below_step (by repeat (first | (with_reducible first | exact HB.out | apply below_alloc | apply pw_below_drewN | apply below_drew1) | exact HB.out)) hb); clear HB; have HB := n0_; clear n0_; (try clear hb); (try clear hb2); (try clear hk); (try clear hi)))
      go_ret
      exact ⟨by first | rfl | (simp [errW_none, errW_some] <;> rfl) | (simp [*, errW_none, errW_some] <;> rfl), by repeat (first | (with_reducible first | exact HB.out | apply below_alloc | apply pw_below_drewN | apply below_drew1) | exact HB.out)⟩

/-- THE ONE PURE STATEMENT of laws_FnExactNumOf: yours. -/
def laws_FnExactNumOf.Pure : Prop := ∀ (a0 : ByteArray), a0.size ≤ 140737488351232 → ∃ k, laws_FnExactNumOf.f k a0 = some true
theorem laws_FnExactNumOf.walk (P : laws_FnExactNumOf.Pure) (a0 : ByteArray) (w : World) (w0 : a0.size ≤ 140737488351232) :
    Calls Tryd.prog 4 #[.string a0] w fun e w' => e = .returned (.bool true) ∧ Below w.heap.size w w' := by
  obtain ⟨k, h⟩ := P a0 w0
  refine (laws_FnExactNumOf.calls k a0 true w h).mono ?_
  rintro e w' ⟨rfl, hd⟩
  exact ⟨rfl, hd⟩

end Go.Proofs.YtkgpokiglanjfaaDoor.QFnExactNumOf
