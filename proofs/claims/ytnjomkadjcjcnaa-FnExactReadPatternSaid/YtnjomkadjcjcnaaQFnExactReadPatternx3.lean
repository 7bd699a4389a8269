-- A text of this session, made by wip/own_print.py (the kit's print with additions of ours).
import Derived.Test.YtnjomkadjcjcnaaQFnExactReadPatternx0
import Derived.Test.YtnjomkadjcjcnaaQFnExactReadPatternx2
namespace Go.Proofs.Ytnjomkadjcjcnaa.QFnExactReadPattern
open Go.RowKit Go.Proofs.YtnjomkadjcjcnaaW.PrintWords Go.Proofs.YtnjomkadjcjcnaaW.PrintLast Go.Proofs.YtnjomkadjcjcnaaW.PrintMore
attribute [local go_sem] max2_int min2_int max_two min_two max_three min_three max_four min_four   -- for this text's walks alone
set_option linter.unusedVariables false
set_option linter.unusedSimpArgs false
open Bool renaming true → bT, false → bf
open Go.Proofs.YtnjomkadjcjcnaaW.PrintWords.Kd renaming R_alloc → rA, R_drewN → rN, R_drew → rD, C_alloc → cA, C_drewN → cN, C_drew → cD, R_far → rF, R_below → rB, R_lower → rL, R_lt → rT, R_base → rS, C_below → cB, R_types → rY, R_elder' → rE, R_reads' → rR, R_new' → rW
open Go.Proofs.YtnjomkadjcjcnaaW.PrintWords renaming blk_drewN → bN, blk_drew → bD, blk_alloc → bA, below_set → lS, pw_below_drewN → lN, below_drew1 → lD, below_alloc → lA, blk_cell → bC, blk_below → bB, below_size → lZ, below_step → lP, blk_lt → bL, blk_frozen → bF
open Go.Proofs.YtnjomkadjcjcnaaW.PrintWords.Aside0 renaming mk → aM
theorem q_ia3 {α : Type} (l : List α) (i : Nat) (a : α) : l.toArray.setIfInBounds i a = (l.set i a).toArray := List.setIfInBounds_toArray ..
theorem q_cz3 {α : Type} (a b : α) (l : List α) : (a :: l).set 0 b = b :: l := rfl
theorem q_cs3 {α : Type} (a b : α) (l : List α) (n : Nat) : (a :: l).set (n + 1) b = a :: l.set n b := rfl

/-! ### impl_kidsAhead: function 69 -/
def impl_kidsAhead.l0 : Nat → Int → List Int → Int → Int → Option (Bool)
 | 0, _, _, _, _ => none
 | k + 1, x1, x7, x8, x9 => if x9 < x8 then (if 0 ≤ x9 then (if x9 < (x7.length : Int) then ((impl_within.f (rd x7 x9) 0 (wrap64 (x1 - 1))).bind fun t125 => (if t125 = true then (impl_kidsAhead.l0 k x1 x7 x8 (wrap64 (x9 + 1))) else (some false))) else (none)) else (none)) else (some true)
def impl_kidsAhead.f (k : Nat) (l0 : List Int) (a1 : Int) : Option (Bool) := impl_kidsAhead.l0 k a1 l0 (l0.length : Int) 0
theorem impl_kidsAhead.mono_l : ∀ k, (∀ y0 y1 y2 y3, LeO (impl_kidsAhead.l0 k y0 y1 y2 y3) (impl_kidsAhead.l0 (k + 1) y0 y1 y2 y3))
 | 0 => fun _ _ _ _ r h => by simp [impl_kidsAhead.l0] at h
 | k + 1 => by
  have ih0 := impl_kidsAhead.mono_l k
  ·intro y0 y1 y2 y3
   unfold impl_kidsAhead.l0
   repeat' first
   | (with_reducible exact ih0 _ _ _ _)
   | (with_reducible exact LeO.refl _)
   | (with_reducible exact LeO.none _)
   | (with_reducible refine LeO.ite ?_ ?_)
   | (with_reducible refine LeO.bind ?_ (fun _ => ?_))
   | exact ih0 _ _ _ _
   | exact LeO.none _
   | refine LeO.ite ?_ ?_
   | refine LeO.bind ?_ (fun _ => ?_)
theorem impl_kidsAhead.mono : ∀ a0 a1 k, LeO (impl_kidsAhead.f k a0 a1) (impl_kidsAhead.f (k + 1) a0 a1) := by
 intro a0 a1 k
 have ih0 := impl_kidsAhead.mono_l k
 unfold impl_kidsAhead.f
 repeat' first
   | (with_reducible exact ih0 _ _ _ _)
   | (with_reducible exact LeO.refl _)
   | (with_reducible exact LeO.none _)
   | (with_reducible refine LeO.ite ?_ ?_)
   | (with_reducible refine LeO.bind ?_ (fun _ => ?_))
   | exact ih0 _ _ _ _
   | exact LeO.none _
   | refine LeO.ite ?_ ?_
   | refine LeO.bind ?_ (fun _ => ?_)
set_option maxHeartbeats 8000000 in
set_option maxRecDepth 100000 in
theorem impl_kidsAhead.calls (k : Nat) (A0 : Option Addr) (c0 : Nat) (l0 : List Int) (a1 : Int) (r : Bool) (w : World) (hr0 : Kd.C (Kd.int .i64) w A0 l0.length l0) (hc0 : l0.length ≤ c0) (h : impl_kidsAhead.f k l0 a1 = some r) :
  Calls Try.prog 69 #[.slice A0 l0.length c0,.int .i64 a1] w fun e w' => e = .returned (.bool r) ∧ Drawn0 w w':=by
 have HR0:=aM hr0
 have HC0:=aM hc0
 clear hr0 hc0
 have H : (impl_kidsAhead.l0 k a1 l0 (l0.length : Int) 0) = some r:=h
 clear h
 have H':=aM H
 clear H
 go_enter Try.func69,Try.ntmps69
 go_wp2
 go_loopg [9] k (fun kq v9 w' => ∃ (x9_1 : Int),v9 = .int .i64 x9_1 ∧ Aside0 (impl_kidsAhead.l0 kq a1 l0 (l0.length : Int) x9_1 = some r) ∧ Aside0 (kq ≤ k) ∧ Drawn0 w w')
 case atStart => exact ⟨(0),(by first|rfl|(simp;done)|(simp [*];done)),H',⟨Nat.le_refl _⟩,by repeat (first|exact Drawn0.refl _|apply Drawn0.step)⟩
 case round =>
  clear H'
  try clear p2
  obtain ⟨x9_1,rfl,HA,HK1,⟨m1,rfl⟩⟩:=hrel
  cases gk with
  |zero => exact absurd HA.out (by simp [impl_kidsAhead.l0])
  |succ k1 =>
   have H:=HA.out
   clear HA
   simp only [impl_kidsAhead.l0] at H
   by_cases c3 : x9_1 < (l0.length : Int)
   ·rw [if_pos c3] at H
    have c3b0 : decide (x9_1 < (l0.length : Int)) = true:=decide_eq_true c3
    clear c3
    by_cases c4 : 0 ≤ x9_1
    ·rw [if_pos c4] at H
     have c4b0 : decide (0 ≤ x9_1) = true:=decide_eq_true c4
     clear c4
     by_cases c5 : x9_1 < (l0.length : Int)
     ·rw [if_pos c5] at H
      have c5b0 : decide (x9_1 < (l0.length : Int)) = true:=decide_eq_true c5
      clear c5
      replace H:=Option.bind_eq_some_iff.mp H
      obtain ⟨t125,A60,H⟩:=H
      replace H : (if t125 = true then (impl_kidsAhead.l0 k1 a1 l0 (l0.length : Int) (wrap64 (x9_1 + 1))) else (some false)) = some r:=H
      have A6:=aM A60
      clear A60
      by_cases c7 : t125 = true
      ·subst c7
       have H1 : (impl_kidsAhead.l0 k1 a1 l0 (l0.length : Int) (wrap64 (x9_1 + 1))) = some r:=by rw [if_pos rfl] at H;exact H
       clear H
       have H:=H1
       clear H1
       have H':=aM H
       clear H
       have p124 : 0 ≤ (x9_1 : Int):=of_decide_eq_true (by first|(with_reducible assumption)|assumption)
       have q124 : x9_1 < (l0.length : Int):=of_decide_eq_true (by first|(with_reducible assumption)|assumption)
       obtain ⟨ad124,e124,hx124_0⟩:=Kd.at_int HR0.out x9_1 p124 q124
       cases e124
       replace p124:=eq_true p124
       replace q124:=eq_true q124
       go_wp2_with (first|((with_reducible refine gate_callee (f:=34) rfl ?_);refine goesL_ (some 16) rfl rfl Try.func34 (by kernel_rfl) rfl #[.int .i64 (rd l0 x9_1),.int .i64 0,.int .i64 (wrap64 (a1 - 1))] rfl (by (try simp only [List.map_toArray,List.map_cons,List.map_nil]);first|done|rfl|(simp only [List.length_drop,List.length_take];rfl)) ?_;(with_reducible refine (impl_within.calls (rd l0 x9_1) 0 (wrap64 (a1 - 1)) true _ A6.out).mono ?_);rintro e w' ⟨rfl,⟨nd,rfl⟩⟩;refine ⟨_,rfl,?_⟩))
       go_roundg k1
       case measure => have:=HK1.out;omega
       case rel => exact ⟨(wrap64 (x9_1 + 1)),(by first|rfl|(simp;done)|(simp [*];done)),H',⟨by have:=HK1.out;omega⟩,by repeat (first|exact Drawn0.refl _|apply Drawn0.step)⟩
      ·replace c7:=Bool.eq_false_iff.mpr c7
       subst c7
       have H1 : (some false) = some r:=by rw [if_neg (show ¬ (false = true) by decide)] at H;exact H
       clear H
       have H:=H1
       clear H1
       obtain rfl:=Option.some.inj H
       have p124 : 0 ≤ (x9_1 : Int):=of_decide_eq_true (by first|(with_reducible assumption)|assumption)
       have q124 : x9_1 < (l0.length : Int):=of_decide_eq_true (by first|(with_reducible assumption)|assumption)
       obtain ⟨ad124,e124,hx124_0⟩:=Kd.at_int HR0.out x9_1 p124 q124
       cases e124
       replace p124:=eq_true p124
       replace q124:=eq_true q124
       go_wp2_with (first|((with_reducible refine gate_callee (f:=34) rfl ?_);refine goesL_ (some 16) rfl rfl Try.func34 (by kernel_rfl) rfl #[.int .i64 (rd l0 x9_1),.int .i64 0,.int .i64 (wrap64 (a1 - 1))] rfl (by (try simp only [List.map_toArray,List.map_cons,List.map_nil]);first|done|rfl|(simp only [List.length_drop,List.length_take];rfl)) ?_;(with_reducible refine (impl_within.calls (rd l0 x9_1) 0 (wrap64 (a1 - 1)) false _ A6.out).mono ?_);rintro e w' ⟨rfl,⟨nd,rfl⟩⟩;refine ⟨_,rfl,?_⟩))
       go_ret
       exact ⟨by first|rfl|(simp;done)|(simp [*];done),by repeat (first|exact Drawn0.refl _|apply Drawn0.step)⟩
     ·rw [if_neg c5] at H
      exact absurd H (by simp)
    ·rw [if_neg c4] at H
     exact absurd H (by simp)
   ·rw [if_neg c3] at H
    have c3b0 : decide (x9_1 < (l0.length : Int)) = false:=decide_eq_false c3
    clear c3
    obtain rfl:=Option.some.inj H
    go_wp2
    go_ret
    exact ⟨by first|rfl|(simp;done)|(simp [*];done),by repeat (first|exact Drawn0.refl _|apply Drawn0.step)⟩

/-! ### impl_pieceOk: function 49 -/
mutual
def impl_pieceOk.j1 : Nat → Int → Int → Int → ByteArray → List Int → Option (Bool)
 |0,_,_,_,_,_ => none
 |k + 1,x1,x5,x127000,x127001,x127002 => if x127000 = 1 then ((impl_within.f x127000 1 12).bind fun t127 => (if t127 = true then (if (x127001.size : Int) = 1 then (if (x127002.length : Int) = x5 then ((impl_kidsAhead.f k x127002 x1).bind fun t128 => (some t128)) else (some false)) else (some false)) else (some false))) else (if x127000 = 3 then (impl_pieceOk.j2 k x1 x5 (x127001.toList == ([] : List UInt8)) (x127000 == 3) x127000 x127001 x127002) else (impl_pieceOk.j2 k x1 x5 (x127001.toList == ([] : List UInt8)) (x127000 == 4) x127000 x127001 x127002))
def impl_pieceOk.j2 : Nat → Int → Int → Bool → Bool → Int → ByteArray → List Int → Option (Bool)
 |0,_,_,_,_,_,_,_ => none
 |k + 1,x1,x5,x6,x27,x127000,x127001,x127002 => if x27 = true then ((impl_within.f (x127001.size : Int) 1 24).bind fun t129 => ((impl_within.f x127000 1 12).bind fun t130 => (if t130 = true then (if t129 = true then (if (x127002.length : Int) = x5 then ((impl_kidsAhead.f k x127002 x1).bind fun t131 => (some t131)) else (some false)) else (some false)) else (some false)))) else ((impl_within.f x127000 1 12).bind fun t132 => (if t132 = true then (if x6 = true then (if (x127002.length : Int) = x5 then ((impl_kidsAhead.f k x127002 x1).bind fun t133 => (some t133)) else (some false)) else (some false)) else (some false)))
def impl_pieceOk.j0 : Nat → Int → Int → Int → Bool → Int → ByteArray → List Int → Option (Bool)
 |0,_,_,_,_,_,_,_ => none
 |k + 1,x1,x5,x8,x9,x127000,x127001,x127002 => if x9 = true then (impl_pieceOk.j1 k x1 2 x127000 x127001 x127002) else (if x8 = 7 then (impl_pieceOk.j1 k x1 1 x127000 x127001 x127002) else (if x8 = 8 then (impl_pieceOk.j1 k x1 1 x127000 x127001 x127002) else (if x8 = 9 then (impl_pieceOk.j1 k x1 1 x127000 x127001 x127002) else (impl_pieceOk.j1 k x1 x5 x127000 x127001 x127002))))
end
def impl_pieceOk.f (k : Nat) (a0_0 : Int) (a0_1 : ByteArray) (l0_2 : List Int) (a1 : Int) : Option (Bool):=if a0_0 = 5 then (impl_pieceOk.j0 k a1 0 a0_0 (a0_0 == 5) a0_0 a0_1 l0_2) else (impl_pieceOk.j0 k a1 0 a0_0 (a0_0 == 6) a0_0 a0_1 l0_2)
theorem impl_pieceOk.mono_l : ∀ k,(∀ y0 y1 y2 y3 y4,LeO (impl_pieceOk.j1 k y0 y1 y2 y3 y4) (impl_pieceOk.j1 (k + 1) y0 y1 y2 y3 y4)) ∧ (∀ y0 y1 y2 y3 y4 y5 y6,LeO (impl_pieceOk.j2 k y0 y1 y2 y3 y4 y5 y6) (impl_pieceOk.j2 (k + 1) y0 y1 y2 y3 y4 y5 y6)) ∧ (∀ y0 y1 y2 y3 y4 y5 y6,LeO (impl_pieceOk.j0 k y0 y1 y2 y3 y4 y5 y6) (impl_pieceOk.j0 (k + 1) y0 y1 y2 y3 y4 y5 y6))
 |0 => ⟨fun _ _ _ _ _ r h => by simp [impl_pieceOk.j1] at h,fun _ _ _ _ _ _ _ r h => by simp [impl_pieceOk.j2] at h,fun _ _ _ _ _ _ _ r h => by simp [impl_pieceOk.j0] at h⟩
 |k + 1 => by
  obtain ⟨ih0,ih1,ih2⟩:=impl_pieceOk.mono_l k
  refine ⟨?_,?_,?_⟩
  ·intro y0 y1 y2 y3 y4
   unfold impl_pieceOk.j1
   repeat' first
   |(with_reducible exact ih0 _ _ _ _ _)
   |(with_reducible exact ih1 _ _ _ _ _ _ _)
   |(with_reducible exact ih2 _ _ _ _ _ _ _)
   |(with_reducible exact impl_kidsAhead.mono _ _ _)
   |(with_reducible exact LeO.refl _)
   |(with_reducible exact LeO.none _)
   |(with_reducible refine LeO.ite ?_ ?_)
   |(with_reducible refine LeO.bind ?_ (fun _ => ?_))
   |exact ih0 _ _ _ _ _
   |exact ih1 _ _ _ _ _ _ _
   |exact ih2 _ _ _ _ _ _ _
   |exact impl_kidsAhead.mono _ _ _
   |exact LeO.none _
   |refine LeO.ite ?_ ?_
   |refine LeO.bind ?_ (fun _ => ?_)
  ·intro y0 y1 y2 y3 y4 y5 y6
   unfold impl_pieceOk.j2
   repeat' first
   |(with_reducible exact ih0 _ _ _ _ _)
   |(with_reducible exact ih1 _ _ _ _ _ _ _)
   |(with_reducible exact ih2 _ _ _ _ _ _ _)
   |(with_reducible exact impl_kidsAhead.mono _ _ _)
   |(with_reducible exact LeO.refl _)
   |(with_reducible exact LeO.none _)
   |(with_reducible refine LeO.ite ?_ ?_)
   |(with_reducible refine LeO.bind ?_ (fun _ => ?_))
   |exact ih0 _ _ _ _ _
   |exact ih1 _ _ _ _ _ _ _
   |exact ih2 _ _ _ _ _ _ _
   |exact impl_kidsAhead.mono _ _ _
   |exact LeO.none _
   |refine LeO.ite ?_ ?_
   |refine LeO.bind ?_ (fun _ => ?_)
  ·intro y0 y1 y2 y3 y4 y5 y6
   unfold impl_pieceOk.j0
   repeat' first
   |(with_reducible exact ih0 _ _ _ _ _)
   |(with_reducible exact ih1 _ _ _ _ _ _ _)
   |(with_reducible exact ih2 _ _ _ _ _ _ _)
   |(with_reducible exact impl_kidsAhead.mono _ _ _)
   |(with_reducible exact LeO.refl _)
   |(with_reducible exact LeO.none _)
   |(with_reducible refine LeO.ite ?_ ?_)
   |(with_reducible refine LeO.bind ?_ (fun _ => ?_))
   |exact ih0 _ _ _ _ _
   |exact ih1 _ _ _ _ _ _ _
   |exact ih2 _ _ _ _ _ _ _
   |exact impl_kidsAhead.mono _ _ _
   |exact LeO.none _
   |refine LeO.ite ?_ ?_
   |refine LeO.bind ?_ (fun _ => ?_)
theorem impl_pieceOk.mono : ∀ a0 a1 a2 a3 k,LeO (impl_pieceOk.f k a0 a1 a2 a3) (impl_pieceOk.f (k + 1) a0 a1 a2 a3):=by
 intro a0 a1 a2 a3 k
 obtain ⟨ih0,ih1,ih2⟩:=impl_pieceOk.mono_l k
 unfold impl_pieceOk.f
 repeat' first
   |(with_reducible exact ih0 _ _ _ _ _)
   |(with_reducible exact ih1 _ _ _ _ _ _ _)
   |(with_reducible exact ih2 _ _ _ _ _ _ _)
   |(with_reducible exact impl_kidsAhead.mono _ _ _)
   |(with_reducible exact LeO.refl _)
   |(with_reducible exact LeO.none _)
   |(with_reducible refine LeO.ite ?_ ?_)
   |(with_reducible refine LeO.bind ?_ (fun _ => ?_))
   |exact ih0 _ _ _ _ _
   |exact ih1 _ _ _ _ _ _ _
   |exact ih2 _ _ _ _ _ _ _
   |exact impl_kidsAhead.mono _ _ _
   |exact LeO.none _
   |refine LeO.ite ?_ ?_
   |refine LeO.bind ?_ (fun _ => ?_)
set_option maxHeartbeats 8000000 in
set_option maxRecDepth 100000 in
theorem impl_pieceOk.calls (k : Nat) (a0_0 : Int) (a0_1 : ByteArray) (A0_2 : Option Addr) (c0_2 : Nat) (l0_2 : List Int) (a1 : Int) (r : Bool) (w : World) (hr0_2 : Kd.C (Kd.int .i64) w A0_2 l0_2.length l0_2) (hc0_2 : l0_2.length ≤ c0_2) (h : impl_pieceOk.f k a0_0 a0_1 l0_2 a1 = some r) :
  Calls Try.prog 49 #[.agg #[.int .i64 a0_0,.string a0_1,.slice A0_2 l0_2.length c0_2],.int .i64 a1] w fun e w' => e = .returned (.bool r) ∧ Below w.heap.size w w':=by
 have hu85:=Try.underlying85
 have HR0_2:=aM hr0_2
 have HC0_2:=aM hc0_2
 clear hr0_2 hc0_2
 have HB:=aM (Below.refl w.heap.size w)
 have H : (if a0_0 = 5 then (impl_pieceOk.j0 k a1 0 a0_0 (a0_0 == 5) a0_0 a0_1 l0_2) else (impl_pieceOk.j0 k a1 0 a0_0 (a0_0 == 6) a0_0 a0_1 l0_2)) = some r:=h
 clear h
 have HC3:=aM H
 clear H
 go_enter Try.func49,Try.ntmps49
 go_upto_block 0 with (first|((with_reducible refine gate_dst (N:=2) rfl ?_);(try (refine gate_guard (by rfl) ?_;dsimp only));refine box_event ?hg (N:=2) ?hd (cs:=#[.int .i64 a0_0,.string a0_1,.slice A0_2 l0_2.length c0_2]) (t:=85) ?hr ?_;(case hd => rfl);(case hg => rfl);(case hr => first|(go_simp;done)|(go_simp;rfl));intro gb126 hg w4 hbox hb;have n0_:=aM (lP (by repeat (first|(with_reducible first|exact HB.out|apply lA|apply lN|apply lD)|exact HB.out)) hb);have n1_:=aM (hbox);have n2_:=aM ((by rw [hg];exact (lZ (by repeat (first|(with_reducible first|exact HB.out|apply lA|apply lN|apply lD)|exact HB.out))) : w.heap.size ≤ gb126));have n3_:=aM ((by rw [hg];exact (lZ (by repeat (first|(with_reducible first|exact HB.out|apply lA|apply lN|apply lD)|exact HB.out))) : w.heap.size ≤ gb126));clear HB;have HB:=n0_;have BK126:=n1_;have GW126:=n2_;have GE126:=n3_;clear n0_ n1_ n2_ n3_ hb hbox hg;have hcz5_0 : w4.cell? ⟨gb126,0,none⟩ = some (.int .i64 a0_0):=(bC BK126.out 0).trans rfl;have hcz5_1 : w4.cell? ⟨gb126,1,none⟩ = some (.string a0_1):=(bC BK126.out 1).trans rfl;have hcz5_2 : w4.cell? ⟨gb126,2,none⟩ = some (.slice A0_2 l0_2.length c0_2):=(bC BK126.out 2).trans rfl;have hfz5_0:=bF BK126.out 0;have hfz5_1:=bF BK126.out 1;have hfz5_2:=bF BK126.out 2))
 (try simp only [Act.put,q_ia3,q_cz3,q_cs3])
 go_cut [5] (fun v5 wc => ∃ (kq : Nat) (x5_2 : Int),v5 = .int .i64 x5_2 ∧ Aside0 (impl_pieceOk.j1 kq a1 x5_2 a0_0 a0_1 l0_2 = some r) ∧ Aside0 (kq ≤ k) ∧ Aside0 (wc.heap[gb126]? = some (.cells #[.int .i64 a0_0,.string a0_1,(.slice A0_2 l0_2.length c0_2)] 85 (0,0))) ∧ Aside0 (Below w.heap.size w wc))
 case first =>
  have H:=HC3.out
  clear HC3
  have HC6:=aM H
  clear H
  go_upto_if 9 with (fail)
  go_cut [9] (fun v9 wc => ∃ (kq : Nat) (x9_5 : Bool),v9 = .bool x9_5 ∧ Aside0 (impl_pieceOk.j0 kq a1 0 a0_0 x9_5 a0_0 a0_1 l0_2 = some r) ∧ Aside0 (kq ≤ k) ∧ Aside0 (wc.heap[gb126]? = some (.cells #[.int .i64 a0_0,.string a0_1,(.slice A0_2 l0_2.length c0_2)] 85 (0,0))) ∧ Aside0 (Below w.heap.size w wc))
  case first =>
   have H:=HC6.out
   clear HC6
   by_cases c7 : a0_0 = 5
   ·rw [if_pos c7] at H
    have c7b0 : (a0_0 == 5) = true:=beq_iff_eq.mpr c7
    have c7b1 : (a0_0 != 5) = false:=bne_eq_false_iff_eq.mpr c7
    clear c7
    (first|rw [c7b0]|(simp only [i64_w,i32_w];rw [c7b0])|skip)
    have H':=aM H
    clear H
    go_wp2
    go_meet
    case rel => exact ⟨_,((a0_0 == 5)),(by first|rfl|(simp;done)|(simp [*];done)),H',⟨by first|omega|exact Nat.le_refl _⟩,⟨by (with_reducible repeat (first|refine bN ?_ _|refine bD ?_|refine bA ?_ _));exact BK126.out⟩,⟨by repeat (first|(with_reducible first|exact HB.out|apply lA|apply lN|apply lD|refine lS ?_ GE126.out)|exact HB.out)⟩⟩
   ·rw [if_neg c7] at H
    have c7b0 : (a0_0 == 5) = false:=beq_eq_false_iff_ne.mpr c7
    have c7b1 : (a0_0 != 5) = true:=bne_iff_ne.mpr c7
    (first|rw [c7b0]|(simp only [i64_w,i32_w];rw [c7b0])|skip)
    have H':=aM H
    clear H
    go_wp2
    go_meet
    case rel => exact ⟨_,((a0_0 == 6)),(by first|rfl|(simp;done)|(simp [*];done)),H',⟨by first|omega|exact Nat.le_refl _⟩,⟨by (with_reducible repeat (first|refine bN ?_ _|refine bD ?_|refine bA ?_ _));exact BK126.out⟩,⟨by repeat (first|(with_reducible first|exact HB.out|apply lA|apply lN|apply lD|refine lS ?_ GE126.out)|exact HB.out)⟩⟩
  case rest =>
   clear HC6
   try clear p2
   try clear c4
   try clear c7
   try clear c7b0
   try clear c7b1
   try clear hcz5_0
   try clear hcz5_1
   try clear hcz5_2
   try clear hfz5_0
   try clear hfz5_1
   try clear hfz5_2
   obtain ⟨kq,x9_5,rfl,HA,HJ5,BK126,HB⟩:=hcut
   cases kq with
   |zero => exact absurd HA.out (by simp [impl_pieceOk.j0])
   |succ kj5 =>
    have H:=HA.out
    clear HA
    simp only [impl_pieceOk.j0] at H
    by_cases c8 : x9_5 = true
    ·subst c8
     have H1 : (impl_pieceOk.j1 kj5 a1 2 a0_0 a0_1 l0_2) = some r:=by rw [if_pos rfl] at H;exact H
     clear H
     have H:=H1
     clear H1
     have H':=aM H
     clear H
     go_wp2
     go_meet
     case rel => exact ⟨_,(2),(by first|rfl|(simp;done)|(simp [*];done)),H',⟨by have:=HJ5.out;first|omega|exact Nat.le_refl _⟩,⟨by (with_reducible repeat (first|refine bN ?_ _|refine bD ?_|refine bA ?_ _));exact BK126.out⟩,⟨by repeat (first|(with_reducible first|exact HB.out|apply lA|apply lN|apply lD|refine lS ?_ GE126.out)|exact HB.out)⟩⟩
    ·replace c8:=Bool.eq_false_iff.mpr c8
     subst c8
     have H1 : (if a0_0 = 7 then (impl_pieceOk.j1 kj5 a1 1 a0_0 a0_1 l0_2) else (if a0_0 = 8 then (impl_pieceOk.j1 kj5 a1 1 a0_0 a0_1 l0_2) else (if a0_0 = 9 then (impl_pieceOk.j1 kj5 a1 1 a0_0 a0_1 l0_2) else (impl_pieceOk.j1 kj5 a1 0 a0_0 a0_1 l0_2)))) = some r:=by rw [if_neg (show ¬ (false = true) by decide)] at H;exact H
     clear H
     have H:=H1
     clear H1
     by_cases c9 : a0_0 = 7
     ·rw [if_pos c9] at H
      have c9b0 : (a0_0 == 7) = true:=beq_iff_eq.mpr c9
      have c9b1 : (a0_0 != 7) = false:=bne_eq_false_iff_eq.mpr c9
      clear c9
      have H':=aM H
      clear H
      go_wp2
      go_meet
      case rel => exact ⟨_,(1),(by first|rfl|(simp;done)|(simp [*];done)),H',⟨by have:=HJ5.out;first|omega|exact Nat.le_refl _⟩,⟨by (with_reducible repeat (first|refine bN ?_ _|refine bD ?_|refine bA ?_ _));exact BK126.out⟩,⟨by repeat (first|(with_reducible first|exact HB.out|apply lA|apply lN|apply lD|refine lS ?_ GE126.out)|exact HB.out)⟩⟩
     ·rw [if_neg c9] at H
      have c9b0 : (a0_0 == 7) = false:=beq_eq_false_iff_ne.mpr c9
      have c9b1 : (a0_0 != 7) = true:=bne_iff_ne.mpr c9
      by_cases c10 : a0_0 = 8
      ·rw [if_pos c10] at H
       have c10b0 : (a0_0 == 8) = true:=beq_iff_eq.mpr c10
       have c10b1 : (a0_0 != 8) = false:=bne_eq_false_iff_eq.mpr c10
       clear c10
       have H':=aM H
       clear H
       go_wp2
       go_meet
       case rel => exact ⟨_,(1),(by first|rfl|(simp;done)|(simp [*];done)),H',⟨by have:=HJ5.out;first|omega|exact Nat.le_refl _⟩,⟨by (with_reducible repeat (first|refine bN ?_ _|refine bD ?_|refine bA ?_ _));exact BK126.out⟩,⟨by repeat (first|(with_reducible first|exact HB.out|apply lA|apply lN|apply lD|refine lS ?_ GE126.out)|exact HB.out)⟩⟩
      ·rw [if_neg c10] at H
       have c10b0 : (a0_0 == 8) = false:=beq_eq_false_iff_ne.mpr c10
       have c10b1 : (a0_0 != 8) = true:=bne_iff_ne.mpr c10
       by_cases c11 : a0_0 = 9
       ·rw [if_pos c11] at H
        have c11b0 : (a0_0 == 9) = true:=beq_iff_eq.mpr c11
        have c11b1 : (a0_0 != 9) = false:=bne_eq_false_iff_eq.mpr c11
        clear c11
        have H':=aM H
        clear H
        go_wp2
        go_meet
        case rel => exact ⟨_,(1),(by first|rfl|(simp;done)|(simp [*];done)),H',⟨by have:=HJ5.out;first|omega|exact Nat.le_refl _⟩,⟨by (with_reducible repeat (first|refine bN ?_ _|refine bD ?_|refine bA ?_ _));exact BK126.out⟩,⟨by repeat (first|(with_reducible first|exact HB.out|apply lA|apply lN|apply lD|refine lS ?_ GE126.out)|exact HB.out)⟩⟩
       ·rw [if_neg c11] at H
        have c11b0 : (a0_0 == 9) = false:=beq_eq_false_iff_ne.mpr c11
        have c11b1 : (a0_0 != 9) = true:=bne_iff_ne.mpr c11
        have H':=aM H
        clear H
        go_wp2
        go_meet
        case rel => exact ⟨_,(0),(by first|rfl|(simp;done)|(simp [*];done)),H',⟨by have:=HJ5.out;first|omega|exact Nat.le_refl _⟩,⟨by (with_reducible repeat (first|refine bN ?_ _|refine bD ?_|refine bA ?_ _));exact BK126.out⟩,⟨by repeat (first|(with_reducible first|exact HB.out|apply lA|apply lN|apply lD|refine lS ?_ GE126.out)|exact HB.out)⟩⟩
 case rest =>
  clear HC3
  try clear c1
  try clear p2
  try clear c4
  try clear c7
  try clear c7b0
  try clear c7b1
  try clear c8
  try clear c9
  try clear c9b0
  try clear c9b1
  try clear c10
  try clear c10b0
  try clear c10b1
  try clear c11
  try clear c11b0
  try clear c11b1
  try clear hcz5_0
  try clear hcz5_1
  try clear hcz5_2
  try clear hfz5_0
  try clear hfz5_1
  try clear hfz5_2
  try clear p2
  obtain ⟨kq,x5_2,rfl,HA,HJ2,BK126,HB⟩:=hcut
  cases kq with
  |zero => exact absurd HA.out (by simp [impl_pieceOk.j1])
  |succ kj2 =>
   have H:=HA.out
   clear HA
   simp only [impl_pieceOk.j1] at H
   by_cases c12 : a0_0 = 1
   ·rw [if_pos c12] at H
    have c12b0 : (a0_0 == 1) = true:=beq_iff_eq.mpr c12
    have c12b1 : (a0_0 != 1) = false:=bne_eq_false_iff_eq.mpr c12
    clear c12
    replace H:=Option.bind_eq_some_iff.mp H
    obtain ⟨t127,A130,H⟩:=H
    replace H : (if t127 = true then (if (a0_1.size : Int) = 1 then (if (l0_2.length : Int) = x5_2 then ((impl_kidsAhead.f kj2 l0_2 a1).bind fun t128 => (some t128)) else (some false)) else (some false)) else (some false)) = some r:=H
    have A13:=aM A130
    clear A130
    by_cases c14 : t127 = true
    ·subst c14
     have H1 : (if (a0_1.size : Int) = 1 then (if (l0_2.length : Int) = x5_2 then ((impl_kidsAhead.f kj2 l0_2 a1).bind fun t128 => (some t128)) else (some false)) else (some false)) = some r:=by rw [if_pos rfl] at H;exact H
     clear H
     have H:=H1
     clear H1
     by_cases c15 : (a0_1.size : Int) = 1
     ·rw [if_pos c15] at H
      have c15b0 : ((a0_1.size : Int) == 1) = true:=beq_iff_eq.mpr c15
      have c15b1 : ((a0_1.size : Int) != 1) = false:=bne_eq_false_iff_eq.mpr c15
      clear c15
      by_cases c16 : (l0_2.length : Int) = x5_2
      ·rw [if_pos c16] at H
       have c16b0 : ((l0_2.length : Int) == x5_2) = true:=beq_iff_eq.mpr c16
       have c16b1 : ((l0_2.length : Int) != x5_2) = false:=bne_eq_false_iff_eq.mpr c16
       clear c16
       replace H:=Option.bind_eq_some_iff.mp H
       obtain ⟨t128,A170,H⟩:=H
       replace H : (some t128) = some r:=H
       have A17:=aM A170
       clear A170
       obtain rfl:=Option.some.inj H
       have hcz18_0 : wc.cell? ⟨gb126,0,none⟩ = some (.int .i64 a0_0):=(bC BK126.out 0).trans rfl
       have hcz18_1 : wc.cell? ⟨gb126,1,none⟩ = some (.string a0_1):=(bC BK126.out 1).trans rfl
       have hcz18_2 : wc.cell? ⟨gb126,2,none⟩ = some (.slice A0_2 l0_2.length c0_2):=(bC BK126.out 2).trans rfl
       have hfz18_0:=bF BK126.out 0
       have hfz18_1:=bF BK126.out 1
       have hfz18_2:=bF BK126.out 2
       go_wp2_with (first|((with_reducible refine gate_callee (f:=34) rfl ?_);refine goesL_ (some 36) rfl rfl Try.func34 (by kernel_rfl) rfl #[.int .i64 a0_0,.int .i64 1,.int .i64 12] rfl (by (try simp only [List.map_toArray,List.map_cons,List.map_nil]);first|done|rfl|(simp only [List.length_drop,List.length_take];rfl)) ?_;(with_reducible refine (impl_within.calls a0_0 1 12 true _ A13.out).mono ?_);rintro e w' ⟨rfl,⟨nd,rfl⟩⟩;refine ⟨_,rfl,?_⟩)|(go_at_call 69;(with_reducible refine (impl_kidsAhead.calls kj2 _ _ l0_2 a1 t128 _ ?side1 ?side2 A17.out).mono ?_);(case side1 => repeat (first|exact (cB HR0_2.out (by repeat (first|(with_reducible first|exact HB.out|apply lA|apply lN|apply lD|refine lS ?_ GE126.out)|exact HB.out)))|(with_reducible first|refine cA ?_ _|refine cN ?_ _|refine cD ?_)));(case side2 => exact HC0_2.out);rintro e w' ⟨rfl,⟨nd,rfl⟩⟩))
       go_ret
       exact ⟨by first|rfl|(simp [errW_none,errW_some] <;> rfl)|(simp [*,errW_none,errW_some] <;> rfl),by repeat (first|(with_reducible first|exact HB.out|apply lA|apply lN|apply lD|refine lS ?_ GE126.out)|exact HB.out)⟩
      ·rw [if_neg c16] at H
       have c16b0 : ((l0_2.length : Int) == x5_2) = false:=beq_eq_false_iff_ne.mpr c16
       have c16b1 : ((l0_2.length : Int) != x5_2) = true:=bne_iff_ne.mpr c16
       obtain rfl:=Option.some.inj H
       have hcz19_0 : wc.cell? ⟨gb126,0,none⟩ = some (.int .i64 a0_0):=(bC BK126.out 0).trans rfl
       have hcz19_1 : wc.cell? ⟨gb126,1,none⟩ = some (.string a0_1):=(bC BK126.out 1).trans rfl
       have hcz19_2 : wc.cell? ⟨gb126,2,none⟩ = some (.slice A0_2 l0_2.length c0_2):=(bC BK126.out 2).trans rfl
       have hfz19_0:=bF BK126.out 0
       have hfz19_1:=bF BK126.out 1
       have hfz19_2:=bF BK126.out 2
       go_wp2_with (first|((with_reducible refine gate_callee (f:=34) rfl ?_);refine goesL_ (some 36) rfl rfl Try.func34 (by kernel_rfl) rfl #[.int .i64 a0_0,.int .i64 1,.int .i64 12] rfl (by (try simp only [List.map_toArray,List.map_cons,List.map_nil]);first|done|rfl|(simp only [List.length_drop,List.length_take];rfl)) ?_;(with_reducible refine (impl_within.calls a0_0 1 12 true _ A13.out).mono ?_);rintro e w' ⟨rfl,⟨nd,rfl⟩⟩;refine ⟨_,rfl,?_⟩))
       go_ret
       exact ⟨by first|rfl|(simp [errW_none,errW_some] <;> rfl)|(simp [*,errW_none,errW_some] <;> rfl),by repeat (first|(with_reducible first|exact HB.out|apply lA|apply lN|apply lD|refine lS ?_ GE126.out)|exact HB.out)⟩
     ·rw [if_neg c15] at H
      have c15b0 : ((a0_1.size : Int) == 1) = false:=beq_eq_false_iff_ne.mpr c15
      have c15b1 : ((a0_1.size : Int) != 1) = true:=bne_iff_ne.mpr c15
      obtain rfl:=Option.some.inj H
      have hcz20_0 : wc.cell? ⟨gb126,0,none⟩ = some (.int .i64 a0_0):=(bC BK126.out 0).trans rfl
      have hcz20_1 : wc.cell? ⟨gb126,1,none⟩ = some (.string a0_1):=(bC BK126.out 1).trans rfl
      have hcz20_2 : wc.cell? ⟨gb126,2,none⟩ = some (.slice A0_2 l0_2.length c0_2):=(bC BK126.out 2).trans rfl
      have hfz20_0:=bF BK126.out 0
      have hfz20_1:=bF BK126.out 1
      have hfz20_2:=bF BK126.out 2
      go_wp2_with (first|((with_reducible refine gate_callee (f:=34) rfl ?_);refine goesL_ (some 36) rfl rfl Try.func34 (by kernel_rfl) rfl #[.int .i64 a0_0,.int .i64 1,.int .i64 12] rfl (by (try simp only [List.map_toArray,List.map_cons,List.map_nil]);first|done|rfl|(simp only [List.length_drop,List.length_take];rfl)) ?_;(with_reducible refine (impl_within.calls a0_0 1 12 true _ A13.out).mono ?_);rintro e w' ⟨rfl,⟨nd,rfl⟩⟩;refine ⟨_,rfl,?_⟩))
      go_ret
      exact ⟨by first|rfl|(simp [errW_none,errW_some] <;> rfl)|(simp [*,errW_none,errW_some] <;> rfl),by repeat (first|(with_reducible first|exact HB.out|apply lA|apply lN|apply lD|refine lS ?_ GE126.out)|exact HB.out)⟩
    ·replace c14:=Bool.eq_false_iff.mpr c14
     subst c14
     have H1 : (some false) = some r:=by rw [if_neg (show ¬ (false = true) by decide)] at H;exact H
     clear H
     have H:=H1
     clear H1
     obtain rfl:=Option.some.inj H
     have hcz21_0 : wc.cell? ⟨gb126,0,none⟩ = some (.int .i64 a0_0):=(bC BK126.out 0).trans rfl
     have hcz21_1 : wc.cell? ⟨gb126,1,none⟩ = some (.string a0_1):=(bC BK126.out 1).trans rfl
     have hcz21_2 : wc.cell? ⟨gb126,2,none⟩ = some (.slice A0_2 l0_2.length c0_2):=(bC BK126.out 2).trans rfl
     have hfz21_0:=bF BK126.out 0
     have hfz21_1:=bF BK126.out 1
     have hfz21_2:=bF BK126.out 2
     go_wp2_with (first|((with_reducible refine gate_callee (f:=34) rfl ?_);refine goesL_ (some 36) rfl rfl Try.func34 (by kernel_rfl) rfl #[.int .i64 a0_0,.int .i64 1,.int .i64 12] rfl (by (try simp only [List.map_toArray,List.map_cons,List.map_nil]);first|done|rfl|(simp only [List.length_drop,List.length_take];rfl)) ?_;(with_reducible refine (impl_within.calls a0_0 1 12 false _ A13.out).mono ?_);rintro e w' ⟨rfl,⟨nd,rfl⟩⟩;refine ⟨_,rfl,?_⟩))
     go_ret
     exact ⟨by first|rfl|(simp [errW_none,errW_some] <;> rfl)|(simp [*,errW_none,errW_some] <;> rfl),by repeat (first|(with_reducible first|exact HB.out|apply lA|apply lN|apply lD|refine lS ?_ GE126.out)|exact HB.out)⟩
   ·rw [if_neg c12] at H
    have c12b0 : (a0_0 == 1) = false:=beq_eq_false_iff_ne.mpr c12
    have c12b1 : (a0_0 != 1) = true:=bne_iff_ne.mpr c12
    have HC22:=aM H
    clear H
    have hcz23_0 : wc.cell? ⟨gb126,0,none⟩ = some (.int .i64 a0_0):=(bC BK126.out 0).trans rfl
    have hcz23_1 : wc.cell? ⟨gb126,1,none⟩ = some (.string a0_1):=(bC BK126.out 1).trans rfl
    have hcz23_2 : wc.cell? ⟨gb126,2,none⟩ = some (.slice A0_2 l0_2.length c0_2):=(bC BK126.out 2).trans rfl
    have hfz23_0:=bF BK126.out 0
    have hfz23_1:=bF BK126.out 1
    have hfz23_2:=bF BK126.out 2
    go_upto_if 27 with (fail)
    go_cut [27] (fun v27 wc => ∃ (kq : Nat) (x27_21 : Bool),v27 = .bool x27_21 ∧ Aside0 (impl_pieceOk.j2 kq a1 x5_2 (a0_1.toList == ([] : List UInt8)) x27_21 a0_0 a0_1 l0_2 = some r) ∧ Aside0 (kq ≤ kj2) ∧ Aside0 (wc.heap[gb126]? = some (.cells #[.int .i64 a0_0,.string a0_1,(.slice A0_2 l0_2.length c0_2)] 85 (0,0))) ∧ Aside0 (Below w.heap.size w wc))
    case first =>
     have H:=HC22.out
     clear HC22
     by_cases c24 : a0_0 = 3
     ·rw [if_pos c24] at H
      have c24b0 : (a0_0 == 3) = true:=beq_iff_eq.mpr c24
      have c24b1 : (a0_0 != 3) = false:=bne_eq_false_iff_eq.mpr c24
      clear c24
      (first|rw [c24b0]|(simp only [i64_w,i32_w];rw [c24b0])|skip)
      have H':=aM H
      clear H
      go_wp2
      go_meet
      case rel => exact ⟨_,((a0_0 == 3)),(by first|rfl|(simp;done)|(simp [*];done)),H',⟨by have:=HJ2.out;first|omega|exact Nat.le_refl _⟩,⟨by (with_reducible repeat (first|refine bN ?_ _|refine bD ?_|refine bA ?_ _));exact BK126.out⟩,⟨by repeat (first|(with_reducible first|exact HB.out|apply lA|apply lN|apply lD|refine lS ?_ GE126.out)|exact HB.out)⟩⟩
     ·rw [if_neg c24] at H
      have c24b0 : (a0_0 == 3) = false:=beq_eq_false_iff_ne.mpr c24
      have c24b1 : (a0_0 != 3) = true:=bne_iff_ne.mpr c24
      (first|rw [c24b0]|(simp only [i64_w,i32_w];rw [c24b0])|skip)
      have H':=aM H
      clear H
      go_wp2
      go_meet
      case rel => exact ⟨_,((a0_0 == 4)),(by first|rfl|(simp;done)|(simp [*];done)),H',⟨by have:=HJ2.out;first|omega|exact Nat.le_refl _⟩,⟨by (with_reducible repeat (first|refine bN ?_ _|refine bD ?_|refine bA ?_ _));exact BK126.out⟩,⟨by repeat (first|(with_reducible first|exact HB.out|apply lA|apply lN|apply lD|refine lS ?_ GE126.out)|exact HB.out)⟩⟩
    case rest =>
     clear HC22
     try clear c1
     try clear c2
     try clear p2
     try clear c3
     try clear c4
     try clear c7
     try clear c7b0
     try clear c7b1
     try clear c8
     try clear c9
     try clear c9b0
     try clear c9b1
     try clear c10
     try clear c10b0
     try clear c10b1
     try clear c11
     try clear c11b0
     try clear c11b1
     try clear c12
     try clear c12b0
     try clear c12b1
     try clear c14
     try clear c15
     try clear c15b0
     try clear c15b1
     try clear c16
     try clear c16b0
     try clear c16b1
     try clear c24
     try clear c24b0
     try clear c24b1
     try clear hcz18_0
     try clear hcz18_1
     try clear hcz18_2
     try clear hcz19_0
     try clear hcz19_1
     try clear hcz19_2
     try clear hcz20_0
     try clear hcz20_1
     try clear hcz20_2
     try clear hcz21_0
     try clear hcz21_1
     try clear hcz21_2
     try clear hcz23_0
     try clear hcz23_1
     try clear hcz23_2
     try clear hcz5_0
     try clear hcz5_1
     try clear hcz5_2
     try clear hfz18_0
     try clear hfz18_1
     try clear hfz18_2
     try clear hfz19_0
     try clear hfz19_1
     try clear hfz19_2
     try clear hfz20_0
     try clear hfz20_1
     try clear hfz20_2
     try clear hfz21_0
     try clear hfz21_1
     try clear hfz21_2
     try clear hfz23_0
     try clear hfz23_1
     try clear hfz23_2
     try clear hfz5_0
     try clear hfz5_1
     try clear hfz5_2
     try clear p2
     obtain ⟨kq,x27_21,rfl,HA,HJ21,BK126,HB⟩:=hcut
     cases kq with
     |zero => exact absurd HA.out (by simp [impl_pieceOk.j2])
     |succ kj21 =>
      have H:=HA.out
      clear HA
      simp only [impl_pieceOk.j2] at H
      by_cases c25 : x27_21 = true
      ·subst c25
       have H1 : ((impl_within.f (a0_1.size : Int) 1 24).bind fun t129 => ((impl_within.f a0_0 1 12).bind fun t130 => (if t130 = true then (if t129 = true then (if (l0_2.length : Int) = x5_2 then ((impl_kidsAhead.f kj21 l0_2 a1).bind fun t131 => (some t131)) else (some false)) else (some false)) else (some false)))) = some r:=by rw [if_pos rfl] at H;exact H
       clear H
       have H:=H1
       clear H1
       replace H:=Option.bind_eq_some_iff.mp H
       obtain ⟨t129,A260,H⟩:=H
       replace H : ((impl_within.f a0_0 1 12).bind fun t130 => (if t130 = true then (if t129 = true then (if (l0_2.length : Int) = x5_2 then ((impl_kidsAhead.f kj21 l0_2 a1).bind fun t131 => (some t131)) else (some false)) else (some false)) else (some false))) = some r:=H
       have A26:=aM A260
       clear A260
       replace H:=Option.bind_eq_some_iff.mp H
       obtain ⟨t130,A270,H⟩:=H
       replace H : (if t130 = true then (if t129 = true then (if (l0_2.length : Int) = x5_2 then ((impl_kidsAhead.f kj21 l0_2 a1).bind fun t131 => (some t131)) else (some false)) else (some false)) else (some false)) = some r:=H
       have A27:=aM A270
       clear A270
       by_cases c28 : t130 = true
       ·subst c28
        have H1 : (if t129 = true then (if (l0_2.length : Int) = x5_2 then ((impl_kidsAhead.f kj21 l0_2 a1).bind fun t131 => (some t131)) else (some false)) else (some false)) = some r:=by rw [if_pos rfl] at H;exact H
        clear H
        have H:=H1
        clear H1
        by_cases c29 : t129 = true
        ·subst c29
         have H1 : (if (l0_2.length : Int) = x5_2 then ((impl_kidsAhead.f kj21 l0_2 a1).bind fun t131 => (some t131)) else (some false)) = some r:=by rw [if_pos rfl] at H;exact H
         clear H
         have H:=H1
         clear H1
         by_cases c30 : (l0_2.length : Int) = x5_2
         ·rw [if_pos c30] at H
          have c30b0 : ((l0_2.length : Int) == x5_2) = true:=beq_iff_eq.mpr c30
          have c30b1 : ((l0_2.length : Int) != x5_2) = false:=bne_eq_false_iff_eq.mpr c30
          clear c30
          replace H:=Option.bind_eq_some_iff.mp H
          obtain ⟨t131,A310,H⟩:=H
          replace H : (some t131) = some r:=H
          have A31:=aM A310
          clear A310
          obtain rfl:=Option.some.inj H
          have hcz32_0 : wc.cell? ⟨gb126,0,none⟩ = some (.int .i64 a0_0):=(bC BK126.out 0).trans rfl
          have hcz32_1 : wc.cell? ⟨gb126,1,none⟩ = some (.string a0_1):=(bC BK126.out 1).trans rfl
          have hcz32_2 : wc.cell? ⟨gb126,2,none⟩ = some (.slice A0_2 l0_2.length c0_2):=(bC BK126.out 2).trans rfl
          have hfz32_0:=bF BK126.out 0
          have hfz32_1:=bF BK126.out 1
          have hfz32_2:=bF BK126.out 2
          go_wp2_with (first|((with_reducible refine gate_callee (f:=34) rfl ?_);refine goesL_ (some 33) rfl rfl Try.func34 (by kernel_rfl) rfl #[.int .i64 (a0_1.size : Int),.int .i64 1,.int .i64 24] rfl (by (try simp only [List.map_toArray,List.map_cons,List.map_nil]);first|done|rfl|(simp only [List.length_drop,List.length_take];rfl)) ?_;(with_reducible refine (impl_within.calls (a0_1.size : Int) 1 24 true _ A26.out).mono ?_);rintro e w' ⟨rfl,⟨nd,rfl⟩⟩;refine ⟨_,rfl,?_⟩)|((with_reducible refine gate_callee (f:=34) rfl ?_);refine goesL_ (some 36) rfl rfl Try.func34 (by kernel_rfl) rfl #[.int .i64 a0_0,.int .i64 1,.int .i64 12] rfl (by (try simp only [List.map_toArray,List.map_cons,List.map_nil]);first|done|rfl|(simp only [List.length_drop,List.length_take];rfl)) ?_;(with_reducible refine (impl_within.calls a0_0 1 12 true _ A27.out).mono ?_);rintro e w' ⟨rfl,⟨nd,rfl⟩⟩;refine ⟨_,rfl,?_⟩)|(go_at_call 69;(with_reducible refine (impl_kidsAhead.calls kj21 _ _ l0_2 a1 t131 _ ?side1 ?side2 A31.out).mono ?_);(case side1 => repeat (first|exact (cB HR0_2.out (by repeat (first|(with_reducible first|exact HB.out|apply lA|apply lN|apply lD|refine lS ?_ GE126.out)|exact HB.out)))|(with_reducible first|refine cA ?_ _|refine cN ?_ _|refine cD ?_)));(case side2 => exact HC0_2.out);rintro e w' ⟨rfl,⟨nd,rfl⟩⟩))
          go_ret
          exact ⟨by first|rfl|(simp [errW_none,errW_some] <;> rfl)|(simp [*,errW_none,errW_some] <;> rfl),by repeat (first|(with_reducible first|exact HB.out|apply lA|apply lN|apply lD|refine lS ?_ GE126.out)|exact HB.out)⟩
         ·rw [if_neg c30] at H
          have c30b0 : ((l0_2.length : Int) == x5_2) = false:=beq_eq_false_iff_ne.mpr c30
          have c30b1 : ((l0_2.length : Int) != x5_2) = true:=bne_iff_ne.mpr c30
          obtain rfl:=Option.some.inj H
          have hcz33_0 : wc.cell? ⟨gb126,0,none⟩ = some (.int .i64 a0_0):=(bC BK126.out 0).trans rfl
          have hcz33_1 : wc.cell? ⟨gb126,1,none⟩ = some (.string a0_1):=(bC BK126.out 1).trans rfl
          have hcz33_2 : wc.cell? ⟨gb126,2,none⟩ = some (.slice A0_2 l0_2.length c0_2):=(bC BK126.out 2).trans rfl
          have hfz33_0:=bF BK126.out 0
          have hfz33_1:=bF BK126.out 1
          have hfz33_2:=bF BK126.out 2
          go_wp2_with (first|((with_reducible refine gate_callee (f:=34) rfl ?_);refine goesL_ (some 33) rfl rfl Try.func34 (by kernel_rfl) rfl #[.int .i64 (a0_1.size : Int),.int .i64 1,.int .i64 24] rfl (by (try simp only [List.map_toArray,List.map_cons,List.map_nil]);first|done|rfl|(simp only [List.length_drop,List.length_take];rfl)) ?_;(with_reducible refine (impl_within.calls (a0_1.size : Int) 1 24 true _ A26.out).mono ?_);rintro e w' ⟨rfl,⟨nd,rfl⟩⟩;refine ⟨_,rfl,?_⟩)|((with_reducible refine gate_callee (f:=34) rfl ?_);refine goesL_ (some 36) rfl rfl Try.func34 (by kernel_rfl) rfl #[.int .i64 a0_0,.int .i64 1,.int .i64 12] rfl (by (try simp only [List.map_toArray,List.map_cons,List.map_nil]);first|done|rfl|(simp only [List.length_drop,List.length_take];rfl)) ?_;(with_reducible refine (impl_within.calls a0_0 1 12 true _ A27.out).mono ?_);rintro e w' ⟨rfl,⟨nd,rfl⟩⟩;refine ⟨_,rfl,?_⟩))
          go_ret
          exact ⟨by first|rfl|(simp [errW_none,errW_some] <;> rfl)|(simp [*,errW_none,errW_some] <;> rfl),by repeat (first|(with_reducible first|exact HB.out|apply lA|apply lN|apply lD|refine lS ?_ GE126.out)|exact HB.out)⟩
        ·replace c29:=Bool.eq_false_iff.mpr c29
         subst c29
         have H1 : (some false) = some r:=by rw [if_neg (show ¬ (false = true) by decide)] at H;exact H
         clear H
         have H:=H1
         clear H1
         obtain rfl:=Option.some.inj H
         have hcz34_0 : wc.cell? ⟨gb126,0,none⟩ = some (.int .i64 a0_0):=(bC BK126.out 0).trans rfl
         have hcz34_1 : wc.cell? ⟨gb126,1,none⟩ = some (.string a0_1):=(bC BK126.out 1).trans rfl
         have hcz34_2 : wc.cell? ⟨gb126,2,none⟩ = some (.slice A0_2 l0_2.length c0_2):=(bC BK126.out 2).trans rfl
         have hfz34_0:=bF BK126.out 0
         have hfz34_1:=bF BK126.out 1
         have hfz34_2:=bF BK126.out 2
         go_wp2_with (first|((with_reducible refine gate_callee (f:=34) rfl ?_);refine goesL_ (some 33) rfl rfl Try.func34 (by kernel_rfl) rfl #[.int .i64 (a0_1.size : Int),.int .i64 1,.int .i64 24] rfl (by (try simp only [List.map_toArray,List.map_cons,List.map_nil]);first|done|rfl|(simp only [List.length_drop,List.length_take];rfl)) ?_;(with_reducible refine (impl_within.calls (a0_1.size : Int) 1 24 false _ A26.out).mono ?_);rintro e w' ⟨rfl,⟨nd,rfl⟩⟩;refine ⟨_,rfl,?_⟩)|((with_reducible refine gate_callee (f:=34) rfl ?_);refine goesL_ (some 36) rfl rfl Try.func34 (by kernel_rfl) rfl #[.int .i64 a0_0,.int .i64 1,.int .i64 12] rfl (by (try simp only [List.map_toArray,List.map_cons,List.map_nil]);first|done|rfl|(simp only [List.length_drop,List.length_take];rfl)) ?_;(with_reducible refine (impl_within.calls a0_0 1 12 true _ A27.out).mono ?_);rintro e w' ⟨rfl,⟨nd,rfl⟩⟩;refine ⟨_,rfl,?_⟩))
         go_ret
         exact ⟨by first|rfl|(simp [errW_none,errW_some] <;> rfl)|(simp [*,errW_none,errW_some] <;> rfl),by repeat (first|(with_reducible first|exact HB.out|apply lA|apply lN|apply lD|refine lS ?_ GE126.out)|exact HB.out)⟩
       ·replace c28:=Bool.eq_false_iff.mpr c28
        subst c28
        have H1 : (some false) = some r:=by rw [if_neg (show ¬ (false = true) by decide)] at H;exact H
        clear H
        have H:=H1
        clear H1
        obtain rfl:=Option.some.inj H
        have hcz35_0 : wc.cell? ⟨gb126,0,none⟩ = some (.int .i64 a0_0):=(bC BK126.out 0).trans rfl
        have hcz35_1 : wc.cell? ⟨gb126,1,none⟩ = some (.string a0_1):=(bC BK126.out 1).trans rfl
        have hcz35_2 : wc.cell? ⟨gb126,2,none⟩ = some (.slice A0_2 l0_2.length c0_2):=(bC BK126.out 2).trans rfl
        have hfz35_0:=bF BK126.out 0
        have hfz35_1:=bF BK126.out 1
        have hfz35_2:=bF BK126.out 2
        go_wp2_with (first|((with_reducible refine gate_callee (f:=34) rfl ?_);refine goesL_ (some 33) rfl rfl Try.func34 (by kernel_rfl) rfl #[.int .i64 (a0_1.size : Int),.int .i64 1,.int .i64 24] rfl (by (try simp only [List.map_toArray,List.map_cons,List.map_nil]);first|done|rfl|(simp only [List.length_drop,List.length_take];rfl)) ?_;(with_reducible refine (impl_within.calls (a0_1.size : Int) 1 24 t129 _ A26.out).mono ?_);rintro e w' ⟨rfl,⟨nd,rfl⟩⟩;refine ⟨_,rfl,?_⟩)|((with_reducible refine gate_callee (f:=34) rfl ?_);refine goesL_ (some 36) rfl rfl Try.func34 (by kernel_rfl) rfl #[.int .i64 a0_0,.int .i64 1,.int .i64 12] rfl (by (try simp only [List.map_toArray,List.map_cons,List.map_nil]);first|done|rfl|(simp only [List.length_drop,List.length_take];rfl)) ?_;(with_reducible refine (impl_within.calls a0_0 1 12 false _ A27.out).mono ?_);rintro e w' ⟨rfl,⟨nd,rfl⟩⟩;refine ⟨_,rfl,?_⟩))
        go_ret
        exact ⟨by first|rfl|(simp [errW_none,errW_some] <;> rfl)|(simp [*,errW_none,errW_some] <;> rfl),by repeat (first|(with_reducible first|exact HB.out|apply lA|apply lN|apply lD|refine lS ?_ GE126.out)|exact HB.out)⟩
      ·replace c25:=Bool.eq_false_iff.mpr c25
       subst c25
       have H1 : ((impl_within.f a0_0 1 12).bind fun t132 => (if t132 = true then (if (a0_1.toList == ([] : List UInt8)) = true then (if (l0_2.length : Int) = x5_2 then ((impl_kidsAhead.f kj21 l0_2 a1).bind fun t133 => (some t133)) else (some false)) else (some false)) else (some false))) = some r:=by rw [if_neg (show ¬ (false = true) by decide)] at H;exact H
       clear H
       have H:=H1
       clear H1
       replace H:=Option.bind_eq_some_iff.mp H
       obtain ⟨t132,A360,H⟩:=H
       replace H : (if t132 = true then (if (a0_1.toList == ([] : List UInt8)) = true then (if (l0_2.length : Int) = x5_2 then ((impl_kidsAhead.f kj21 l0_2 a1).bind fun t133 => (some t133)) else (some false)) else (some false)) else (some false)) = some r:=H
       have A36:=aM A360
       clear A360
       by_cases c37 : t132 = true
       ·subst c37
        have H1 : (if (a0_1.toList == ([] : List UInt8)) = true then (if (l0_2.length : Int) = x5_2 then ((impl_kidsAhead.f kj21 l0_2 a1).bind fun t133 => (some t133)) else (some false)) else (some false)) = some r:=by rw [if_pos rfl] at H;exact H
        clear H
        have H:=H1
        clear H1
        by_cases c38 : (a0_1.toList == ([] : List UInt8)) = true
        ·rw [if_pos c38] at H
         have c38b0 : (a0_1.toList == ([] : List UInt8)) = true:=c38
         have c38b8 : a0_1.toList.isEmpty = true:=by simpa using c38b0
         (try (have c38b1 : decide (a0_1.toList = ([] : List UInt8)) = true:=by simpa using c38))
         (try (have c38b2 : (a0_1.toList == ([] : List UInt8)) = true:=by simpa using c38))
         clear c38
         by_cases c39 : (l0_2.length : Int) = x5_2
         ·rw [if_pos c39] at H
          have c39b0 : ((l0_2.length : Int) == x5_2) = true:=beq_iff_eq.mpr c39
          have c39b1 : ((l0_2.length : Int) != x5_2) = false:=bne_eq_false_iff_eq.mpr c39
          clear c39
          replace H:=Option.bind_eq_some_iff.mp H
          obtain ⟨t133,A400,H⟩:=H
          replace H : (some t133) = some r:=H
          have A40:=aM A400
          clear A400
          obtain rfl:=Option.some.inj H
          have hcz41_0 : wc.cell? ⟨gb126,0,none⟩ = some (.int .i64 a0_0):=(bC BK126.out 0).trans rfl
          have hcz41_1 : wc.cell? ⟨gb126,1,none⟩ = some (.string a0_1):=(bC BK126.out 1).trans rfl
          have hcz41_2 : wc.cell? ⟨gb126,2,none⟩ = some (.slice A0_2 l0_2.length c0_2):=(bC BK126.out 2).trans rfl
          have hfz41_0:=bF BK126.out 0
          have hfz41_1:=bF BK126.out 1
          have hfz41_2:=bF BK126.out 2
          go_wp2_with (first|((with_reducible refine gate_callee (f:=34) rfl ?_);refine goesL_ (some 36) rfl rfl Try.func34 (by kernel_rfl) rfl #[.int .i64 a0_0,.int .i64 1,.int .i64 12] rfl (by (try simp only [List.map_toArray,List.map_cons,List.map_nil]);first|done|rfl|(simp only [List.length_drop,List.length_take];rfl)) ?_;(with_reducible refine (impl_within.calls a0_0 1 12 true _ A36.out).mono ?_);rintro e w' ⟨rfl,⟨nd,rfl⟩⟩;refine ⟨_,rfl,?_⟩)|(go_at_call 69;(with_reducible refine (impl_kidsAhead.calls kj21 _ _ l0_2 a1 t133 _ ?side1 ?side2 A40.out).mono ?_);(case side1 => repeat (first|exact (cB HR0_2.out (by repeat (first|(with_reducible first|exact HB.out|apply lA|apply lN|apply lD|refine lS ?_ GE126.out)|exact HB.out)))|(with_reducible first|refine cA ?_ _|refine cN ?_ _|refine cD ?_)));(case side2 => exact HC0_2.out);rintro e w' ⟨rfl,⟨nd,rfl⟩⟩))
          go_ret
          exact ⟨by first|rfl|(simp [errW_none,errW_some] <;> rfl)|(simp [*,errW_none,errW_some] <;> rfl),by repeat (first|(with_reducible first|exact HB.out|apply lA|apply lN|apply lD|refine lS ?_ GE126.out)|exact HB.out)⟩
         ·rw [if_neg c39] at H
          have c39b0 : ((l0_2.length : Int) == x5_2) = false:=beq_eq_false_iff_ne.mpr c39
          have c39b1 : ((l0_2.length : Int) != x5_2) = true:=bne_iff_ne.mpr c39
          obtain rfl:=Option.some.inj H
          have hcz42_0 : wc.cell? ⟨gb126,0,none⟩ = some (.int .i64 a0_0):=(bC BK126.out 0).trans rfl
          have hcz42_1 : wc.cell? ⟨gb126,1,none⟩ = some (.string a0_1):=(bC BK126.out 1).trans rfl
          have hcz42_2 : wc.cell? ⟨gb126,2,none⟩ = some (.slice A0_2 l0_2.length c0_2):=(bC BK126.out 2).trans rfl
          have hfz42_0:=bF BK126.out 0
          have hfz42_1:=bF BK126.out 1
          have hfz42_2:=bF BK126.out 2
          go_wp2_with (first|((with_reducible refine gate_callee (f:=34) rfl ?_);refine goesL_ (some 36) rfl rfl Try.func34 (by kernel_rfl) rfl #[.int .i64 a0_0,.int .i64 1,.int .i64 12] rfl (by (try simp only [List.map_toArray,List.map_cons,List.map_nil]);first|done|rfl|(simp only [List.length_drop,List.length_take];rfl)) ?_;(with_reducible refine (impl_within.calls a0_0 1 12 true _ A36.out).mono ?_);rintro e w' ⟨rfl,⟨nd,rfl⟩⟩;refine ⟨_,rfl,?_⟩))
          go_ret
          exact ⟨by first|rfl|(simp [errW_none,errW_some] <;> rfl)|(simp [*,errW_none,errW_some] <;> rfl),by repeat (first|(with_reducible first|exact HB.out|apply lA|apply lN|apply lD|refine lS ?_ GE126.out)|exact HB.out)⟩
        ·rw [if_neg c38] at H
         have c38b0 : (a0_1.toList == ([] : List UInt8)) = false:=by simpa using c38
         have c38b8 : a0_1.toList.isEmpty = false:=by simpa using c38b0
         (try (have c38b1 : decide (a0_1.toList = ([] : List UInt8)) = false:=by simpa using c38))
         (try (have c38b2 : (a0_1.toList == ([] : List UInt8)) = false:=by simpa using c38))
         (try (have c38b3 : ¬ (a0_1.toList = ([] : List UInt8)):=by simpa using c38))
         clear c38
         obtain rfl:=Option.some.inj H
         have hcz43_0 : wc.cell? ⟨gb126,0,none⟩ = some (.int .i64 a0_0):=(bC BK126.out 0).trans rfl
         have hcz43_1 : wc.cell? ⟨gb126,1,none⟩ = some (.string a0_1):=(bC BK126.out 1).trans rfl
         have hcz43_2 : wc.cell? ⟨gb126,2,none⟩ = some (.slice A0_2 l0_2.length c0_2):=(bC BK126.out 2).trans rfl
         have hfz43_0:=bF BK126.out 0
         have hfz43_1:=bF BK126.out 1
         have hfz43_2:=bF BK126.out 2
         go_wp2_with (first|((with_reducible refine gate_callee (f:=34) rfl ?_);refine goesL_ (some 36) rfl rfl Try.func34 (by kernel_rfl) rfl #[.int .i64 a0_0,.int .i64 1,.int .i64 12] rfl (by (try simp only [List.map_toArray,List.map_cons,List.map_nil]);first|done|rfl|(simp only [List.length_drop,List.length_take];rfl)) ?_;(with_reducible refine (impl_within.calls a0_0 1 12 true _ A36.out).mono ?_);rintro e w' ⟨rfl,⟨nd,rfl⟩⟩;refine ⟨_,rfl,?_⟩))
         go_ret
         exact ⟨by first|rfl|(simp [errW_none,errW_some] <;> rfl)|(simp [*,errW_none,errW_some] <;> rfl),by repeat (first|(with_reducible first|exact HB.out|apply lA|apply lN|apply lD|refine lS ?_ GE126.out)|exact HB.out)⟩
       ·replace c37:=Bool.eq_false_iff.mpr c37
        subst c37
        have H1 : (some false) = some r:=by rw [if_neg (show ¬ (false = true) by decide)] at H;exact H
        clear H
        have H:=H1
        clear H1
        obtain rfl:=Option.some.inj H
        have hcz44_0 : wc.cell? ⟨gb126,0,none⟩ = some (.int .i64 a0_0):=(bC BK126.out 0).trans rfl
        have hcz44_1 : wc.cell? ⟨gb126,1,none⟩ = some (.string a0_1):=(bC BK126.out 1).trans rfl
        have hcz44_2 : wc.cell? ⟨gb126,2,none⟩ = some (.slice A0_2 l0_2.length c0_2):=(bC BK126.out 2).trans rfl
        have hfz44_0:=bF BK126.out 0
        have hfz44_1:=bF BK126.out 1
        have hfz44_2:=bF BK126.out 2
        go_wp2_with (first|((with_reducible refine gate_callee (f:=34) rfl ?_);refine goesL_ (some 36) rfl rfl Try.func34 (by kernel_rfl) rfl #[.int .i64 a0_0,.int .i64 1,.int .i64 12] rfl (by (try simp only [List.map_toArray,List.map_cons,List.map_nil]);first|done|rfl|(simp only [List.length_drop,List.length_take];rfl)) ?_;(with_reducible refine (impl_within.calls a0_0 1 12 false _ A36.out).mono ?_);rintro e w' ⟨rfl,⟨nd,rfl⟩⟩;refine ⟨_,rfl,?_⟩))
        go_ret
        exact ⟨by first|rfl|(simp [errW_none,errW_some] <;> rfl)|(simp [*,errW_none,errW_some] <;> rfl),by repeat (first|(with_reducible first|exact HB.out|apply lA|apply lN|apply lD|refine lS ?_ GE126.out)|exact HB.out)⟩

end Go.Proofs.Ytnjomkadjcjcnaa.QFnExactReadPattern
