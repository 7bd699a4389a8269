-- A text of this session, made by wip/own_print.py (the kit's print with additions of ours).
import Derived.Test.YtekngkljphlliaaQFnTurnedx0
import Derived.Test.YtekngkljphlliaaQFnTurnedx1
namespace Go.Proofs.Ytekngkljphlliaa.QFnTurned
open Go.RowKit Go.Proofs.YtekngkljphlliaaW.PrintWords Go.Proofs.YtekngkljphlliaaW.PrintLast Go.Proofs.YtekngkljphlliaaW.PrintMore
attribute [local go_sem] max2_int min2_int max_two min_two max_three min_three max_four min_four   -- for this text's walks alone
set_option linter.unusedVariables false
set_option linter.unusedSimpArgs false
open Bool renaming true → bT, false → bf
open Go.Proofs.YtekngkljphlliaaW.PrintWords.Kd renaming R_alloc → rA, R_drewN → rN, R_drew → rD, C_alloc → cA, C_drewN → cN, C_drew → cD, R_far → rF, R_below → rB, R_lower → rL, R_lt → rT, R_base → rS, C_below → cB, R_types → rY, R_elder' → rE, R_reads' → rR, R_new' → rW
open Go.Proofs.YtekngkljphlliaaW.PrintWords renaming blk_drewN → bN, blk_drew → bD, blk_alloc → bA, below_set → lS, pw_below_drewN → lN, below_drew1 → lD, below_alloc → lA, blk_cell → bC, blk_below → bB, below_size → lZ, below_step → lP, blk_lt → bL, blk_frozen → bF
open Go.Proofs.YtekngkljphlliaaW.PrintWords.Aside0 renaming mk → aM
theorem q_ia2 {α : Type} (l : List α) (i : Nat) (a : α) : l.toArray.setIfInBounds i a = (l.set i a).toArray := List.setIfInBounds_toArray ..
theorem q_cz2 {α : Type} (a b : α) (l : List α) : (a :: l).set 0 b = b :: l := rfl
theorem q_cs2 {α : Type} (a b : α) (l : List α) (n : Nat) : (a :: l).set (n + 1) b = a :: l.set n b := rfl

/-! ### impl_highFirst: function 26 -/
def impl_highFirst.l0 : Nat → Int → List Int → Int → Option (ByteArray)
 | 0, _, _, _ => none
 | k + 1, x0, x5, x6 => if x6 ≥ 0 then (if 0 ≤ x6 then (if x6 < (x5.length : Int) then (impl_highFirst.l0 k (x0 / 256) (x5.set (x6 : Int).toNat ((Go.bits .and .i64 x0 255) % 256)) (wrap64 (x6 - 1))) else (none)) else (none)) else (some (strOfNums x5))
def impl_highFirst.f (k : Nat) (a0 : Int) (a1 : Int) : Option (ByteArray) := if 0 ≤ a1 then (if (a1 : Int).toNat ≤ 281474976710656 then (impl_highFirst.l0 k a0 (List.replicate (a1 : Int).toNat 0) (wrap64 (a1 - 1))) else (none)) else (none)
theorem impl_highFirst.mono_l : ∀ k, (∀ y0 y1 y2, LeO (impl_highFirst.l0 k y0 y1 y2) (impl_highFirst.l0 (k + 1) y0 y1 y2))
 | 0 => fun _ _ _ r h => by simp [impl_highFirst.l0] at h
 | k + 1 => by
  have ih0 := impl_highFirst.mono_l k
  ·intro y0 y1 y2
   unfold impl_highFirst.l0
   repeat' first
   | (with_reducible exact ih0 _ _ _)
   | (with_reducible exact LeO.refl _)
   | (with_reducible exact LeO.none _)
   | (with_reducible refine LeO.ite ?_ ?_)
   | (with_reducible refine LeO.bind ?_ (fun _ => ?_))
   | exact ih0 _ _ _
   | exact LeO.none _
   | refine LeO.ite ?_ ?_
   | refine LeO.bind ?_ (fun _ => ?_)
theorem impl_highFirst.mono : ∀ a0 a1 k, LeO (impl_highFirst.f k a0 a1) (impl_highFirst.f (k + 1) a0 a1) := by
 intro a0 a1 k
 have ih0 := impl_highFirst.mono_l k
 unfold impl_highFirst.f
 repeat' first
   | (with_reducible exact ih0 _ _ _)
   | (with_reducible exact LeO.refl _)
   | (with_reducible exact LeO.none _)
   | (with_reducible refine LeO.ite ?_ ?_)
   | (with_reducible refine LeO.bind ?_ (fun _ => ?_))
   | exact ih0 _ _ _
   | exact LeO.none _
   | refine LeO.ite ?_ ?_
   | refine LeO.bind ?_ (fun _ => ?_)
set_option maxHeartbeats 8000000 in
set_option maxRecDepth 100000 in
theorem impl_highFirst.calls (k : Nat) (a0 : Int) (a1 : Int) (r : ByteArray) (w : World) (h : impl_highFirst.f k a0 a1 = some r) :
  Calls Try.prog 26 #[.int .i64 a0,.int .i64 a1] w fun e w' => e = .returned (.string r) ∧ Below w.heap.size w w':=by
 have HB:=aM (Below.refl w.heap.size w)
 have H : (if 0 ≤ a1 then (if (a1 : Int).toNat ≤ 281474976710656 then (impl_highFirst.l0 k a0 (List.replicate (a1 : Int).toNat 0) (wrap64 (a1 - 1))) else (none)) else (none)) = some r:=h
 clear h
 by_cases c3 : 0 ≤ a1
 ·rw [if_pos c3] at H
  have c3b0:=eq_true c3
  have c3b1 : decide (0 ≤ a1) = true:=decide_eq_true c3
  clear c3
  by_cases c4 : (a1 : Int).toNat ≤ 281474976710656
  ·rw [if_pos c4] at H
   have c4b0:=eq_true c4
   have c4b1 : decide ((a1 : Int).toNat ≤ 281474976710656) = true:=decide_eq_true c4
   clear c4
   obtain ⟨y156,hy156⟩ : ∃ y_ : List Int,y_ = (List.replicate (a1 : Int).toNat 0):=⟨_,rfl⟩
   replace H : (impl_highFirst.l0 k a0 y156 (wrap64 (a1 - 1))) = some r:=by first|(rw [hy156];with_reducible exact H)|(have H2_:=(Option.bind_some _ _).symm.trans H;rw [hy156];with_reducible exact H2_)|(have H2_:=(Option.bind_some _ _).symm.trans H;with_reducible exact H2_)|with_reducible exact H|(rw [hy156];exact H)|exact H
   have Ny156:=aM hy156
   clear hy156
   have H':=aM H
   clear H
   go_enter Try.func26,Try.ntmps26
   go_wp2_with (first|((with_reducible refine gate_dst (N:=8) rfl ?_);refine Kd.R_make (Kd.int .u8) _ 5 rfl (N:=8) rfl 22 _ _ rfl a1 rfl rfl Try.underlying22 (.int .u8 0) 1 info5 rfl (by decide) (by omega) 0 (ok:=fun _ => True) (okp:=fun _ => True) rfl (fun _ hk => hk) trivial (of_decide_eq_true (by first|(with_reducible assumption)|assumption)) (Nat.le_trans (Nat.mul_le_mul_right _ (of_decide_eq_true (by first|(with_reducible assumption)|assumption) : a1.toNat ≤ 281474976710656)) (by omega)) (Below.refl _ _) (Nat.le_refl _) ?_;intro v157 w5 ho6 hb hg_ hnew_;clear hg_ hnew_;(first|rw [← Ny156.out] at ho6|(simp only [Int.reduceToNat] at ho6;rw [← Ny156.out] at ho6));have n0_:=aM (rL ho6 (lZ (by repeat (first|(with_reducible first|exact HB.out|apply lA|apply lN|apply lD)|exact HB.out))));have n1_:=aM (lP (by repeat (first|(with_reducible first|exact HB.out|apply lA|apply lN|apply lD)|exact HB.out)) hb);clear HB;have HO158:=n0_;have HB:=n1_;clear n0_ n1_ hb ho6))
   go_loopg [0,6] k (fun kq v0 v6 w' => ∃ (x0_1 : Int) (x5_1 : List Int) (x6_1 : Int),v0 = .int .i64 x0_1 ∧ v6 = .int .i64 x6_1 ∧ Aside0 (impl_highFirst.l0 kq x0_1 x5_1 x6_1 = some r) ∧ Aside0 (kq ≤ k) ∧ Aside0 (Kd.R (Kd.int .u8) 5 w' w.heap.size (fun _ => True) v157 x5_1) ∧ Aside0 (Below w.heap.size w w'))
   case atStart => exact ⟨(a0),(y156),(wrap64 (a1 - 1)),(by first|rfl|(simp;done)|(simp [*];done)),(by first|rfl|(simp;done)|(simp [*];done)),H',⟨Nat.le_refl _⟩,⟨by (with_reducible repeat (first|apply rA|apply rN|apply rD));exact HO158.out⟩,⟨by repeat (first|(with_reducible first|exact HB.out|apply lA|apply lN|apply lD)|exact HB.out)⟩⟩
   case round =>
    clear H'
    try clear c2
    try clear p2
    try clear c3
    try clear c3b0
    try clear c3b1
    try clear c4
    try clear c4b0
    try clear c4b1
    try clear p6
    obtain ⟨x0_1,x5_1,x6_1,rfl,rfl,HA,HK1,HO_5,HB⟩:=hrel
    cases gk with
    |zero => exact absurd HA.out (by simp [impl_highFirst.l0])
    |succ k1 =>
     have H:=HA.out
     clear HA
     simp only [impl_highFirst.l0] at H
     by_cases c7 : x6_1 ≥ 0
     ·rw [if_pos c7] at H
      have c7b0 : decide (0 ≤ x6_1) = true:=decide_eq_true c7
      clear c7
      by_cases c8 : 0 ≤ x6_1
      ·rw [if_pos c8] at H
       have c8b0 : decide (0 ≤ x6_1) = true:=decide_eq_true c8
       clear c8
       by_cases c9 : x6_1 < (x5_1.length : Int)
       ·rw [if_pos c9] at H
        have c9b0 : decide (x6_1 < (x5_1.length : Int)) = true:=decide_eq_true c9
        clear c9
        obtain ⟨y159,hy159⟩ : ∃ y_ : List Int,y_ = (x5_1.set (x6_1 : Int).toNat ((Go.bits .and .i64 x0_1 255) % 256)):=⟨_,rfl⟩
        replace H : (impl_highFirst.l0 k1 (x0_1 / 256) y159 (wrap64 (x6_1 - 1))) = some r:=by first|(rw [hy159];with_reducible exact H)|(have H2_:=(Option.bind_some _ _).symm.trans H;rw [hy159];with_reducible exact H2_)|(have H2_:=(Option.bind_some _ _).symm.trans H;with_reducible exact H2_)|with_reducible exact H|(rw [hy159];exact H)|exact H
        have Ny159:=aM hy159
        clear hy159
        have H':=aM H
        clear H
        have p10 : 0 ≤ (x6_1 : Int):=of_decide_eq_true (by first|(with_reducible assumption)|assumption)
        have q10 : (x6_1 : Int) < ((x5_1.length : Int) : Int):=of_decide_eq_true (by first|(with_reducible assumption)|assumption)
        obtain ⟨go10,co10,eo10,gb10,gl10,cl10,HG10⟩:=Kd.R_form HO_5.out (by omega)
        (first|cases eo10|(injection eo10 with ea_ en_ ec_;(first|subst ea_|(injection ea_ with ea_;subst ea_));subst ec_;clear en_))
        have GB10:=aM gb10
        have GG10:=aM HG10
        clear gb10 gl10 HG10
        obtain ⟨hx10_0,hf10_0⟩:=Kd.R_celln 0 HO_5.out (x6_1 : Int) p10 q10
        replace p10:=eq_true p10
        replace q10:=eq_true q10
        have HP11:=Kd.R_putg HO_5.out (x6_1 : Int) ((Go.bits .and .i64 x0_1 255) % 256)
        go_wp2_with (first|((with_reducible refine gate_store (t:=5) (p:=20) rfl ?_);refine store_event (t:=5) (p:=20) (v:=?vo_w12) (w1:=(wr.setCell ⟨go10,(x6_1 : Int).toNat,none⟩ (.int .u8 ((Go.bits .and .i64 x0_1 255) % 256)))) ?hg ?ho ?hn ?hr ?_;(case ho => rfl);(case hg => rfl);(case hn => rfl);(case hr => first|(go_simp;done)|(go_simp;rfl));intro w12 hw;have hg : wr.grownBy w12 (some go10):=(by rw [hw];exact HP11.2);have hp_ : Kd.R (Kd.int .u8) 5 w12 w.heap.size (fun _ => True) (.slice (some ⟨go10,0,none⟩) x5_1.length co10) y159:=(by rw [hw,Ny159.out];exact HP11.1);clear HP11;have n0_:=aM (hp_);have n1_:=aM ((by rw [hw];exact lS (HB.out) GB10.out : Below w.heap.size w w12));clear HO_5 HB;have HO_5:=n0_;have HB:=n1_;clear n0_ n1_ hg hw hp_))
        go_roundg k1
        case measure => have:=HK1.out;omega
        case rel => exact ⟨(x0_1 / 256),(y159),(wrap64 (x6_1 - 1)),(by first|rfl|(simp;done)|(simp [*];done)),(by first|rfl|(simp;done)|(simp [*];done)),H',⟨by have:=HK1.out;omega⟩,⟨by (with_reducible repeat (first|apply rA|apply rN|apply rD));exact HO_5.out⟩,⟨by repeat (first|(with_reducible first|exact HB.out|apply lA|apply lN|apply lD)|exact HB.out)⟩⟩
       ·rw [if_neg c9] at H
        exact absurd H (by simp)
      ·rw [if_neg c8] at H
       exact absurd H (by simp)
     ·rw [if_neg c7] at H
      have c7b0 : decide (0 ≤ x6_1) = false:=decide_eq_false c7
      clear c7
      obtain rfl:=Option.some.inj H
      have hcv13:=own_string (P:=Try.prog) Try.underlying22 Try.underlying5 Try.underlying9 (Kd.own_of_R HO_5.out)
      go_wp2
      go_ret
      exact ⟨by first|rfl|(simp [errW_none,errW_some] <;> rfl)|(simp [*,errW_none,errW_some] <;> rfl),by repeat (first|(with_reducible first|exact HB.out|apply lA|apply lN|apply lD)|exact HB.out)⟩
  ·rw [if_neg c4] at H
   exact absurd H (by simp)
 ·rw [if_neg c3] at H
  exact absurd H (by simp)

/-! ### impl_Sealed: function 9 -/
def impl_Sealed.f (k : Nat) (a0 : ByteArray) : Option (ByteArray × Bool):=if (a0.size : Int) > 20000 then (some ((⟨#[]⟩ : ByteArray),false)) else ((impl_SumOf.f k a0).bind fun t160 => ((impl_highFirst.f k (wrap64 (t160)) 4).bind fun t161 => (if a0.size + t161.size ≤ 9223372036854775807 then (some (a0 ++ t161,true)) else (none))))
theorem impl_Sealed.mono : ∀ a0 k,LeO (impl_Sealed.f k a0) (impl_Sealed.f (k + 1) a0):=by
 intro a0 k
 unfold impl_Sealed.f
 repeat' first
   |(with_reducible exact impl_SumOf.mono _ _)
   |(with_reducible exact impl_highFirst.mono _ _ _)
   |(with_reducible exact LeO.refl _)
   |(with_reducible exact LeO.none _)
   |(with_reducible refine LeO.ite ?_ ?_)
   |(with_reducible refine LeO.bind ?_ (fun _ => ?_))
   |exact impl_SumOf.mono _ _
   |exact impl_highFirst.mono _ _ _
   |exact LeO.none _
   |refine LeO.ite ?_ ?_
   |refine LeO.bind ?_ (fun _ => ?_)
set_option maxHeartbeats 8000000 in
set_option maxRecDepth 100000 in
theorem impl_Sealed.calls (k : Nat) (a0 : ByteArray) (r1 : ByteArray) (r2 : Bool) (w : World) (h : impl_Sealed.f k a0 = some (r1,r2)) :
  Calls Try.prog 9 #[.string a0] w fun e w' => e = .returned (.tuple #[.string r1,.bool r2]) ∧ Below w.heap.size w w':=by
 have HB:=aM (Below.refl w.heap.size w)
 have H : (if (a0.size : Int) > 20000 then (some ((⟨#[]⟩ : ByteArray),false)) else ((impl_SumOf.f k a0).bind fun t160 => ((impl_highFirst.f k (wrap64 (t160)) 4).bind fun t161 => (if a0.size + t161.size ≤ 9223372036854775807 then (some (a0 ++ t161,true)) else (none))))) = some (r1,r2):=h
 clear h
 by_cases c2 : (a0.size : Int) > 20000
 ·rw [if_pos c2] at H
  have c2b0 : decide (20000 < (a0.size : Int)) = true:=decide_eq_true c2
  have c2b1 : decide (20000 < a0.size) = true:=decide_eq_true (by omega)
  clear c2
  simp only [Option.some.injEq,Prod.mk.injEq] at H
  obtain ⟨rfl,rfl⟩:=H
  go_enter Try.func9,Try.ntmps9
  go_wp2
  go_ret2
  exact ⟨by first|rfl|(simp [errW_none,errW_some] <;> rfl)|(simp [*,errW_none,errW_some] <;> rfl),by repeat (first|(with_reducible first|exact HB.out|apply lA|apply lN|apply lD)|exact HB.out)⟩
 ·rw [if_neg c2] at H
  have c2b0 : decide (20000 < (a0.size : Int)) = false:=decide_eq_false c2
  have c2b1 : decide (20000 < a0.size) = false:=decide_eq_false (by omega)
  clear c2
  replace H:=Option.bind_eq_some_iff.mp H
  obtain ⟨t160,A30,H⟩:=H
  replace H : ((impl_highFirst.f k (wrap64 (t160)) 4).bind fun t161 => (if a0.size + t161.size ≤ 9223372036854775807 then (some (a0 ++ t161,true)) else (none))) = some (r1,r2):=H
  have A3:=aM A30
  clear A30
  replace H:=Option.bind_eq_some_iff.mp H
  obtain ⟨t161,A40,H⟩:=H
  replace H : (if a0.size + t161.size ≤ 9223372036854775807 then (some (a0 ++ t161,true)) else (none)) = some (r1,r2):=H
  have A4:=aM A40
  clear A40
  by_cases c5 : a0.size + t161.size ≤ 9223372036854775807
  ·rw [if_pos c5] at H
   have c5b0:=eq_true c5
   have c5b1 : decide (a0.size + t161.size ≤ 9223372036854775807) = true:=decide_eq_true c5
   try have c5b2 : (9223372036854775807 < a0.size + t161.size) = False:=eq_false (Nat.not_lt.2 c5)
   simp only [Option.some.injEq,Prod.mk.injEq] at H
   obtain ⟨rfl,rfl⟩:=H
   go_enter Try.func9,Try.ntmps9
   go_wp2_with (first|((with_reducible refine gate_callee (f:=12) rfl ?_);refine goesL_ (some 9) rfl rfl Try.func12 (by kernel_rfl) rfl #[.string a0] rfl (by (try simp only [List.map_toArray,List.map_cons,List.map_nil]);first|done|rfl|(simp only [List.length_drop,List.length_take];rfl)) ?_;(with_reducible refine (impl_SumOf.calls k a0 t160 _ A3.out).mono ?_);rintro e w' ⟨rfl,⟨nd,rfl⟩⟩;refine ⟨_,rfl,?_⟩)|((with_reducible refine gate_callee (f:=26) rfl ?_);refine goesL_ (some 11) rfl rfl Try.func26 (by kernel_rfl) rfl #[.int .i64 (wrap64 (t160)),.int .i64 4] rfl (by (try simp only [List.map_toArray,List.map_cons,List.map_nil]);first|done|rfl|(simp only [List.length_drop,List.length_take];rfl)) ?_;(with_reducible refine (impl_highFirst.calls k (wrap64 (t160)) 4 t161 _ A4.out).mono ?_);rintro e w6 ⟨rfl,hb⟩;refine ⟨_,rfl,?_⟩;have n0_:=aM (lP (by repeat (first|(with_reducible first|exact HB.out|apply lA|apply lN|apply lD)|exact HB.out)) hb);clear HB;have HB:=n0_;clear n0_;(try clear hb);(try clear hb2);(try clear hk);(try clear hi)))
   go_ret2
   exact ⟨by first|rfl|(simp [errW_none,errW_some] <;> rfl)|(simp [*,errW_none,errW_some] <;> rfl),by repeat (first|(with_reducible first|exact HB.out|apply lA|apply lN|apply lD)|exact HB.out)⟩
  ·rw [if_neg c5] at H
   exact absurd H (by simp)

/-! ### impl_Unsealed: function 10 -/
def impl_Unsealed.f (k : Nat) (a0 : ByteArray) : Option (ByteArray × Bool):=if (wrap64 ((a0.size : Int) - 4)) < 0 then (some ((⟨#[]⟩ : ByteArray),false)) else (if 0 ≤ (wrap64 ((a0.size : Int) - 4)) then (if (wrap64 ((a0.size : Int) - 4)) ≤ (a0.size : Int) then ((impl_Sealed.f k (a0.extract 0 ((wrap64 ((a0.size : Int) - 4)) : Int).toNat)).bind fun bt162 => (if bt162.2 = true then (if bt162.1.toList = a0.toList then (some (a0.extract 0 ((wrap64 ((a0.size : Int) - 4)) : Int).toNat,true)) else (some ((⟨#[]⟩ : ByteArray),false))) else (some ((⟨#[]⟩ : ByteArray),false)))) else (none)) else (none))
theorem impl_Unsealed.mono : ∀ a0 k,LeO (impl_Unsealed.f k a0) (impl_Unsealed.f (k + 1) a0):=by
 intro a0 k
 unfold impl_Unsealed.f
 repeat' first
   |(with_reducible exact impl_Sealed.mono _ _)
   |(with_reducible exact LeO.refl _)
   |(with_reducible exact LeO.none _)
   |(with_reducible refine LeO.ite ?_ ?_)
   |(with_reducible refine LeO.bind ?_ (fun _ => ?_))
   |exact impl_Sealed.mono _ _
   |exact LeO.none _
   |refine LeO.ite ?_ ?_
   |refine LeO.bind ?_ (fun _ => ?_)
set_option maxHeartbeats 8000000 in
set_option maxRecDepth 100000 in
theorem impl_Unsealed.calls (k : Nat) (a0 : ByteArray) (r1 : ByteArray) (r2 : Bool) (w : World) (h : impl_Unsealed.f k a0 = some (r1,r2)) :
  Calls Try.prog 10 #[.string a0] w fun e w' => e = .returned (.tuple #[.string r1,.bool r2]) ∧ Below w.heap.size w w':=by
 have HB:=aM (Below.refl w.heap.size w)
 have H : (if (wrap64 ((a0.size : Int) - 4)) < 0 then (some ((⟨#[]⟩ : ByteArray),false)) else (if 0 ≤ (wrap64 ((a0.size : Int) - 4)) then (if (wrap64 ((a0.size : Int) - 4)) ≤ (a0.size : Int) then ((impl_Sealed.f k (a0.extract 0 ((wrap64 ((a0.size : Int) - 4)) : Int).toNat)).bind fun bt162 => (if bt162.2 = true then (if bt162.1.toList = a0.toList then (some (a0.extract 0 ((wrap64 ((a0.size : Int) - 4)) : Int).toNat,true)) else (some ((⟨#[]⟩ : ByteArray),false))) else (some ((⟨#[]⟩ : ByteArray),false)))) else (none)) else (none))) = some (r1,r2):=h
 clear h
 by_cases c2 : (wrap64 ((a0.size : Int) - 4)) < 0
 ·rw [if_pos c2] at H
  have c2b0 : decide ((wrap64 ((a0.size : Int) - 4)) < 0) = true:=decide_eq_true c2
  clear c2
  simp only [Option.some.injEq,Prod.mk.injEq] at H
  obtain ⟨rfl,rfl⟩:=H
  go_enter Try.func10,Try.ntmps10
  go_wp2
  go_ret2
  exact ⟨by first|rfl|(simp [errW_none,errW_some] <;> rfl)|(simp [*,errW_none,errW_some] <;> rfl),by repeat (first|(with_reducible first|exact HB.out|apply lA|apply lN|apply lD)|exact HB.out)⟩
 ·rw [if_neg c2] at H
  have c2b0 : decide ((wrap64 ((a0.size : Int) - 4)) < 0) = false:=decide_eq_false c2
  clear c2
  obtain ⟨ji3,hji3⟩ : ∃ j_ : Int,(wrap64 ((a0.size : Int) - 4)) = j_:=⟨_,rfl⟩
  replace H : (if 0 ≤ (ji3) then (if (ji3) ≤ (a0.size : Int) then ((impl_Sealed.f k (a0.extract 0 ((ji3) : Int).toNat)).bind fun bt162 => (if bt162.2 = true then (if bt162.1.toList = a0.toList then (some (a0.extract 0 ((ji3) : Int).toNat,true)) else (some ((⟨#[]⟩ : ByteArray),false))) else (some ((⟨#[]⟩ : ByteArray),false)))) else (none)) else (none)) = some (r1,r2):=by first|(rw [hji3] at H;exact H)|(simp only [hji3] at H ⊢;exact H)
  (try rw [hji3] at c2b0)
  have hji3w : (IntKind.i64.wrap ((a0.size : Int) - 4)) = ji3:=(i64_w _).trans hji3
  by_cases c4 : 0 ≤ (ji3)
  ·rw [if_pos c4] at H
   have c4b0:=eq_true c4
   have c4b1 : decide (0 ≤ (ji3)) = true:=decide_eq_true c4
   clear c4
   by_cases c5 : (ji3) ≤ (a0.size : Int)
   ·rw [if_pos c5] at H
    have c5b0:=eq_true c5
    have c5b1 : decide ((ji3) ≤ (a0.size : Int)) = true:=decide_eq_true c5
    clear c5
    replace H:=Option.bind_eq_some_iff.mp H
    obtain ⟨⟨t162,t163⟩,A60,H⟩:=H
    replace H : (if t163 = true then (if t162.toList = a0.toList then (some (a0.extract 0 ((ji3) : Int).toNat,true)) else (some ((⟨#[]⟩ : ByteArray),false))) else (some ((⟨#[]⟩ : ByteArray),false))) = some (r1,r2):=H
    have A6:=aM A60
    clear A60
    by_cases c7 : t163 = true
    ·subst c7
     have H1 : (if t162.toList = a0.toList then (some (a0.extract 0 ((ji3) : Int).toNat,true)) else (some ((⟨#[]⟩ : ByteArray),false))) = some (r1,r2):=by rw [if_pos rfl] at H;exact H
     clear H
     have H:=H1
     clear H1
     by_cases c8 : t162.toList = a0.toList
     ·rw [if_pos c8] at H
      have c8b0 : (t162.toList == a0.toList) = true:=beq_iff_eq.mpr c8
      have c8b1 : (t162.toList != a0.toList) = false:=bne_eq_false_iff_eq.mpr c8
      clear c8
      have c9b0:=eq_true (of_decide_eq_true (by first|(with_reducible assumption)|assumption) : 0 ≤ (ji3))
      have c10b0:=eq_true (of_decide_eq_true (by first|(with_reducible assumption)|assumption) : (ji3) ≤ (a0.size : Int))
      simp only [Option.some.injEq,Prod.mk.injEq] at H
      obtain ⟨rfl,rfl⟩:=H
      go_enter Try.func10,Try.ntmps10
      go_wp2_with (first|((with_reducible refine gate_callee (f:=9) rfl ?_);refine goesL_ (some 16) rfl rfl Try.func9 (by kernel_rfl) rfl #[.string (a0.extract 0 ((ji3) : Int).toNat)] rfl (by (try simp only [List.map_toArray,List.map_cons,List.map_nil]);first|done|(simp only [hji3];rfl)|rfl|(simp only [List.length_drop,List.length_take];rfl)) ?_;(with_reducible refine (impl_Sealed.calls k (a0.extract 0 ((ji3) : Int).toNat) t162 true _ A6.out).mono ?_);rintro e w11 ⟨rfl,hb⟩;refine ⟨_,rfl,?_⟩;have n0_:=aM (lP (by repeat (first|(with_reducible first|exact HB.out|apply lA|apply lN|apply lD)|exact HB.out)) hb);clear HB;have HB:=n0_;clear n0_;(try clear hb);(try clear hb2);(try clear hk);(try clear hi)))
      go_ret2
      exact ⟨by first|rfl|(simp [errW_none,errW_some] <;> rfl)|(simp only [← hji3];first|rfl|(simp [errW_none,errW_some] <;> rfl))|(simp [*,errW_none,errW_some] <;> rfl),by repeat (first|(with_reducible first|exact HB.out|apply lA|apply lN|apply lD)|exact HB.out)⟩
     ·rw [if_neg c8] at H
      have c8b0 : (t162.toList == a0.toList) = false:=beq_eq_false_iff_ne.mpr c8
      have c8b1 : (t162.toList != a0.toList) = true:=bne_iff_ne.mpr c8
      simp only [Option.some.injEq,Prod.mk.injEq] at H
      obtain ⟨rfl,rfl⟩:=H
      go_enter Try.func10,Try.ntmps10
      go_wp2_with (first|((with_reducible refine gate_callee (f:=9) rfl ?_);refine goesL_ (some 16) rfl rfl Try.func9 (by kernel_rfl) rfl #[.string (a0.extract 0 ((ji3) : Int).toNat)] rfl (by (try simp only [List.map_toArray,List.map_cons,List.map_nil]);first|done|(simp only [hji3];rfl)|rfl|(simp only [List.length_drop,List.length_take];rfl)) ?_;(with_reducible refine (impl_Sealed.calls k (a0.extract 0 ((ji3) : Int).toNat) t162 true _ A6.out).mono ?_);rintro e w12 ⟨rfl,hb⟩;refine ⟨_,rfl,?_⟩;have n0_:=aM (lP (by repeat (first|(with_reducible first|exact HB.out|apply lA|apply lN|apply lD)|exact HB.out)) hb);clear HB;have HB:=n0_;clear n0_;(try clear hb);(try clear hb2);(try clear hk);(try clear hi)))
      go_ret2
      exact ⟨by first|rfl|(simp [errW_none,errW_some] <;> rfl)|(simp only [← hji3];first|rfl|(simp [errW_none,errW_some] <;> rfl))|(simp [*,errW_none,errW_some] <;> rfl),by repeat (first|(with_reducible first|exact HB.out|apply lA|apply lN|apply lD)|exact HB.out)⟩
    ·replace c7:=Bool.eq_false_iff.mpr c7
     subst c7
     have H1 : (some ((⟨#[]⟩ : ByteArray),false)) = some (r1,r2):=by rw [if_neg (show ¬ (false = true) by decide)] at H;exact H
     clear H
     have H:=H1
     clear H1
     simp only [Option.some.injEq,Prod.mk.injEq] at H
     obtain ⟨rfl,rfl⟩:=H
     go_enter Try.func10,Try.ntmps10
     go_wp2_with (first|((with_reducible refine gate_callee (f:=9) rfl ?_);refine goesL_ (some 16) rfl rfl Try.func9 (by kernel_rfl) rfl #[.string (a0.extract 0 ((ji3) : Int).toNat)] rfl (by (try simp only [List.map_toArray,List.map_cons,List.map_nil]);first|done|(simp only [hji3];rfl)|rfl|(simp only [List.length_drop,List.length_take];rfl)) ?_;(with_reducible refine (impl_Sealed.calls k (a0.extract 0 ((ji3) : Int).toNat) t162 false _ A6.out).mono ?_);rintro e w13 ⟨rfl,hb⟩;refine ⟨_,rfl,?_⟩;have n0_:=aM (lP (by repeat (first|(with_reducible first|exact HB.out|apply lA|apply lN|apply lD)|exact HB.out)) hb);clear HB;have HB:=n0_;clear n0_;(try clear hb);(try clear hb2);(try clear hk);(try clear hi)))
     go_ret2
     exact ⟨by first|rfl|(simp [errW_none,errW_some] <;> rfl)|(simp only [← hji3];first|rfl|(simp [errW_none,errW_some] <;> rfl))|(simp [*,errW_none,errW_some] <;> rfl),by repeat (first|(with_reducible first|exact HB.out|apply lA|apply lN|apply lD)|exact HB.out)⟩
   ·rw [if_neg c5] at H
    exact absurd H (by simp)
  ·rw [if_neg c4] at H
   exact absurd H (by simp)

/-! ### laws_FnTurned: function 3 -/
def turnedB (t : ByteArray) (x y : Int) : ByteArray:=strOfNums ((bytesOf t).set (x % t.size).toNat (Go.bits .xor .u8 ((bytesOf t).getD (x % t.size).toNat 0) (1 + y % 255)))
set_option maxHeartbeats 4000000 in
set_option maxRecDepth 100000 in
theorem turned_walk (k : Nat) (A0 : Option Addr) (c0 : Nat) (l0 : List Int) (s t x : ByteArray) (p : List Int) (m m1 : Int) (w : World)
  (hr0 : Kd.C (Kd.int .u8) w A0 l0.length l0) (hc0 : l0.length ≤ c0) (a1 : laws_big.f l0 = some false) (a2 : spec_DrawSumOf.f k l0 = some s) (a3 : spec_DrawPlaces.f k l0 = some p) (a4 : impl_Sealed.f k s = some (t,true)) (a5 : impl_Unsealed.f k t = some (s,true))
  (ht : t.size = s.size + 4) (hs : s.size ≤ 20000) (hpl : p.length = 12) (hp0 : 0 ≤ rd p 0 ∧ rd p 0 < 10000) (hp1 : 0 ≤ rd p 1 ∧ rd p 1 < 10000) (a6 : impl_Unsealed.f k (turnedB t (rd p 0) (rd p 1)) = some (x,false)) (a7 : impl_SumOf.f k s = some m) (a8 : impl_SumMore.f k m ⟨#[120]⟩ = some m1) (a9 : impl_SumOf.f k (s ++ ⟨#[120]⟩) = some m1) :
  Calls Try.prog 3 #[.slice A0 l0.length c0] w fun e w' => e = .returned (.bool true) ∧ Below w.heap.size w w':=by
 have HR0:=aM hr0;have HC0:=aM hc0;have A1:=aM a1;have A2:=aM a2;have A3:=aM a3;have A4:=aM a4;have A5:=aM a5;have A6:=aM a6;have A7:=aM a7;have A8:=aM a8;have A9:=aM a9
 have HT:=aM ht;have HS:=aM hs;have HL:=aM hpl;have HP0:=aM hp0;have HP1:=aM hp1
 clear hr0 hc0 a1 a2 a3 a4 a5 a6 a7 a8 a9 ht hs hpl hp0 hp1
 have HB:=aM (Below.refl w.heap.size w)
 have hconv : ∀ W : World,(convert 9 22 (.string t)).run Try.prog W = .ok (.slice (some ⟨W.heap.size,0,none⟩) t.size (grownCap W t.size 0 5)) (Go.Lib.bytesWorld W 5 t):=fun W => Go.Lib.run_convert_string_bytes W 9 22 5 t Try.underlying9 Try.underlying22 Try.underlying5
 have hq1 : ((t.size : Int) != wrap64 ((s.size : Int) + 4)) = false:=by have h1:=HT.out;have h2:=HS.out;rw [show wrap64 ((s.size : Int) + 4) = (s.size : Int) + 4 by unfold wrap64;omega];simp;omega
 go_enter Try.func3,Try.ntmps3
 go_upto_region 9 with (first
  |(go_at_call 6;(with_reducible refine (laws_big.calls _ _ l0 false _ HR0.out HC0.out A1.out).mono ?_);rintro e w' ⟨rfl,⟨nd,rfl⟩⟩)
  |(go_at_call 7;(with_reducible refine (spec_DrawSumOf.calls k _ _ l0 s _ ?side1 HC0.out A2.out).mono ?_);(case side1 => repeat (first|exact HR0.out|(with_reducible first|refine cA ?_ _|refine cN ?_ _|refine cD ?_)));rintro e w2 ⟨rfl,hb⟩;have n0_:=aM (lQ HB.out hb);clear hb HB;have HB:=n0_;clear n0_)
  |(go_at_call 8;(with_reducible refine (spec_DrawPlaces.calls k _ _ l0 p _ ?side1 HC0.out A3.out).mono ?_);(case side1 => repeat (first|exact cB HR0.out HB.out|(with_reducible first|refine cA ?_ _|refine cN ?_ _|refine cD ?_)));rintro e w3 ⟨v0,rfl,ho0,hb⟩;have HO:=aM (rL ho0 (lZ HB.out));have n0_:=aM (lQ HB.out hb);clear hb HB ho0;have HB:=n0_;clear n0_)
  |(go_at_call 9;(with_reducible refine (impl_Sealed.calls k s t true _ A4.out).mono ?_);rintro e w4 ⟨rfl,hb⟩;have n0_:=aM (lQ HB.out hb);have n1_:=aM (rH HO.out hb);clear hb HB HO;have HB:=n0_;have HO:=n1_;clear n0_ n1_)
  |(go_at_call 10;(with_reducible refine (impl_Unsealed.calls k t s true _ A5.out).mono ?_);rintro e w5 ⟨rfl,hb⟩;have n0_:=aM (lQ HB.out hb);have n1_:=aM (rH HO.out hb);clear hb HB HO;have HB:=n0_;have HO:=n1_;clear n0_ n1_))
 obtain ⟨ad,co,eo⟩:=Kd.R_slice1 HO.out (by have:=HL.out;omega)
 subst eo
 obtain ⟨w6,cap,hcv,hb6,hcell,hfro⟩ : ∃ w6 cap,(convert 9 22 (.string t)).run Try.prog w5 = .ok (.slice (some ⟨w5.heap.size,0,none⟩) t.size cap) w6 ∧ Below w5.heap.size w5 w6 ∧ (∀ j,j < t.size → w6.cell? ⟨w5.heap.size,j,none⟩ = some (.int .u8 (t.data.toList.getD j 0).toNat)) ∧ (∀ j,j < t.size → w6.frozen? ⟨w5.heap.size,j,none⟩ = false):=by
  refine ⟨_,_,hconv w5,⟨rfl,rfl,rfl,by rw [Go.Lib.bytesWorld_size];omega,fun j hj => Go.Lib.bytesWorld_at_old w5 5 t j hj⟩,fun j hj => Go.Lib.bytesWorld_cell w5 5 t j hj,fun j hj => ?_⟩
  unfold World.frozen?
  rw [Go.Lib.bytesWorld_at_new]
  have hz : t.size ≤ (Go.Lib.bytesCells w5 5 t).size:=by
   unfold Go.Lib.bytesCells
   rw [Array.size_append,Array.size_map]
   have : t.size = t.data.size:=rfl
   omega
  simp only [Bool.and_eq_false_iff,decide_eq_false_iff_not]
  exact .inl (by omega)
 clear hconv
 have HBL:=aM HB.out.size
 have n0_:=aM (lQ HB.out hb6)
 have n1_:=aM (rH HO.out hb6)
 clear HB HO
 have HB:=n0_
 have HO:=n1_
 clear n0_ n1_
 have HB6:=aM hb6
 clear hb6
 have HCE:=aM hcell
 have HFR:=aM hfro
 clear hcell hfro
 obtain ⟨ad0,e0,hx0⟩:=Kd.at_int (rR HO.out).2.2 0 (by omega) (by have:=HL.out;omega)
 cases e0
 obtain ⟨ad1,e1,hx1⟩:=Kd.at_int (rR HO.out).2.2 1 (by omega) (by have:=HL.out;omega)
 obtain rfl : ad = ad1:=(by injection e1)
 (try rw [show ((0 : Int)).toNat = 0 from rfl] at hx0);(try rw [Addr.add_zero'] at hx0)
 (try simp only [show (1 : Int).toNat = 1 from rfl,Nat.reduceMul,Nat.reduceEqDiff,Go.Addr.add,↓reduceIte] at hx1)
 have qi0 : (0 < p.length) = True:=eq_true (by have:=HL.out;omega)
 have qi1 : (1 < p.length) = True:=eq_true (by have:=HL.out;omega)
 have hz0 : ((t.size : Int) == 0) = false:=beq_eq_false_iff_ne.2 (by have:=HT.out;omega)
 obtain ⟨j,hj⟩ : ∃ j : Nat,(rd p 0).tmod (t.size : Int) = (j : Int):=by
  have h1:=HP0.out;have h2:=HT.out
  rw [Int.tmod_eq_emod_of_nonneg h1.1]
  exact ⟨(rd p 0 % (t.size : Int)).toNat,by have:=Int.emod_nonneg (rd p 0) (show (t.size : Int) ≠ 0 by omega);omega⟩
 have HJ:=aM hj
 have hjt : j < t.size:=by
  have h1:=HP0.out;have h2:=HT.out
  rw [Int.tmod_eq_emod_of_nonneg h1.1] at hj
  have:=Int.emod_lt_of_pos (rd p 0) (show (0 : Int) < (t.size : Int) by omega)
  omega
 obtain ⟨c,hc⟩ : ∃ c : Int,((t.data.toList.getD j 0).toNat : Int) = c:=⟨_,rfl⟩
 have hcj:=HCE.out j hjt
 rw [hc] at hcj
 have HC:=aM hc
 clear hc
 have hfj:=HFR.out j hjt
 go_upto_region 11 with (fail)
 rename_i K hK
 obtain ⟨z0,hz1⟩ : ∃ z0 : Int,(rd p 1).tmod 255 = z0:=⟨_,rfl⟩
 have HZ:=aM hz1
 have hz2 : 0 ≤ z0 ∧ z0 ≤ 254:=by
  have h1:=HP1.out
  rw [← hz1,Int.tmod_eq_emod_of_nonneg h1.1]
  omega
 have HZ2:=aM hz2
 have hz3 : IntKind.i64.wrap (1 + z0) = 1 + z0:=by rw [IntKind.wrap_i64];omega
 have hz4 : IntKind.u8.wrap (1 + z0) = 1 + z0:=by rw [IntKind.wrap_u8];omega
 have hj0 : 0 ≤ (j : Int):=by omega
 have qq1 : ((1 : Int) < (p.length : Int)) = True:=eq_true (by have:=HL.out;omega)
 clear hz2
 go_still_tail 14,(by kernel_rfl)
 change wpList _ _ _ _ _ w6.drew
 obtain ⟨w7,hw7⟩ : ∃ w7,w6.drew = w7:=⟨_,rfl⟩
 rw [hw7]
 have n0_:=aM (show Below w.heap.size w w7 by rw [← hw7];exact lD HB.out)
 have n1_:=aM (show ∀ j,j < t.size → w7.cell? ⟨w5.heap.size,j,none⟩ = some (.int .u8 (t.data.toList.getD j 0).toNat) by rw [← hw7];exact HCE.out)
 have n2_:=aM (show ∀ j,j < t.size → w7.frozen? ⟨w5.heap.size,j,none⟩ = false by rw [← hw7];exact HFR.out)
 clear HB HCE HFR HO hcj hfj hx0 hx1
 have HB:=n0_
 have HCE:=n1_
 have HFR:=n2_
 clear n0_ n1_ n2_ hw7
 have hcj:=HCE.out j hjt
 rw [HC.out] at hcj
 have hfj:=HFR.out j hjt
 have hbt : ∀ i : Nat,(bytesOf t).getD i 0 = ((t.data.toList.getD i 0).toNat : Int):=fun i => by
  unfold bytesOf
  rw [List.getD_eq_getElem?_getD,List.getElem?_map,List.getD_eq_getElem?_getD]
  cases t.data.toList[i]? <;> rfl
 have hT : strOfNums ((bytesOf t).set j (Go.bits .xor .u8 c (1 + z0))) = turnedB t (rd p 0) (rd p 1):=by
  have h1:=HP0.out
  have h2:=HP1.out
  have e1:=HJ.out
  have e2:=HZ.out
  rw [Int.tmod_eq_emod_of_nonneg h1.1] at e1
  rw [Int.tmod_eq_emod_of_nonneg h2.1] at e2
  unfold turnedB
  rw [e1,e2,Int.toNat_natCast,hbt,HC.out]
 have hcv2 : (convert 22 9 (.slice (some ⟨w5.heap.size,0,none⟩) t.size cap)).run Try.prog (w7.setCell ⟨w5.heap.size,j,none⟩ (.int .u8 (Go.bits .xor .u8 c (1 + z0)))) = .ok (.string (turnedB t (rd p 0) (rd p 1))) (w7.setCell ⟨w5.heap.size,j,none⟩ (.int .u8 (Go.bits .xor .u8 c (1 + z0)))):=by
  rw [← hT]
  refine run_convert_bytes_arg _ 22 5 Try.underlying22 Try.underlying5 w5.heap.size 0 t.size cap _ (by rw [List.length_set,bytesOf_length]) (fun i hi => ?_) 9 Try.underlying9
  rw [Nat.zero_add]
  by_cases e : i = j
  ·subst e
   rw [World.cell?_setCell_same (h:=HCE.out i hi)]
   rw [List.getD_eq_getElem?_getD,List.getElem?_set_self (by rw [bytesOf_length];exact hi)]
   rfl
  ·rw [World.cell?_setCell_other (h:=fun h => by injection h with h1 h2;exact e h2.symm),HCE.out i hi]
   have es : ((bytesOf t).set j (Go.bits .xor .u8 c (1 + z0))).getD i 0 = (bytesOf t).getD i 0:=by
    rw [List.getD_eq_getElem?_getD,List.getElem?_set_ne (fun h => e h.symm),← List.getD_eq_getElem?_getD]
   rw [es,hbt]
 have n0_:=aM (lS (v:=.int .u8 (Go.bits .xor .u8 c (1 + z0))) (j:=j) HB.out (show w.heap.size ≤ w5.heap.size from HBL.out))
 clear hT hbt HCE HFR HB HC HB6 hcv
 have HB:=n0_
 clear n0_
 go_upto_region 13 with (first
  |(go_at_call 10;(with_reducible refine (impl_Unsealed.calls k (turnedB t (rd p 0) (rd p 1)) x false _ A6.out).mono ?_);rintro e w9 ⟨rfl,hb⟩;have n0_:=aM (lQ HB.out hb);clear hb HB;have HB:=n0_;clear n0_))
 rename_i K3 hK3
 have hss : s.size + 1 ≤ 9223372036854775807:=by have:=HS.out;omega
 go_wp2_with (first|(go_at_call 12;(first|(with_reducible refine (impl_SumOf.calls k s m _ A7.out).mono ?_)|(with_reducible refine (impl_SumOf.calls k (s ++ ⟨#[120]⟩) m1 _ A9.out).mono ?_));rintro e w' ⟨rfl,⟨nd,rfl⟩⟩;(try first|exact ⟨rfl,_,World.drewN_drewN _ _ _⟩|exact ⟨rfl,_,Eq.trans (World.drewN_drewN _ _ _) (congrArg (World.drewN _) (Nat.add_assoc _ _ _))⟩))|(go_at_call 11;(with_reducible refine (impl_SumMore.calls k m ⟨#[120]⟩ m1 _ A8.out).mono ?_);rintro e w' ⟨rfl,⟨nd,rfl⟩⟩;(try first|exact ⟨rfl,_,World.drewN_drewN _ _ _⟩|exact ⟨rfl,_,Eq.trans (World.drewN_drewN _ _ _) (congrArg (World.drewN _) (Nat.add_assoc _ _ _))⟩)))
 repeat (go_quiet (first|(go_at_call 12;(first|(with_reducible refine (impl_SumOf.calls k s m _ A7.out).mono ?_)|(with_reducible refine (impl_SumOf.calls k (s ++ ⟨#[120]⟩) m1 _ A9.out).mono ?_));rintro e w' ⟨rfl,⟨nd,rfl⟩⟩;(try first|exact ⟨rfl,_,World.drewN_drewN _ _ _⟩|exact ⟨rfl,_,Eq.trans (World.drewN_drewN _ _ _) (congrArg (World.drewN _) (Nat.add_assoc _ _ _))⟩))|(go_at_call 11;(with_reducible refine (impl_SumMore.calls k m ⟨#[120]⟩ m1 _ A8.out).mono ?_);rintro e w' ⟨rfl,⟨nd,rfl⟩⟩;(try first|exact ⟨rfl,_,World.drewN_drewN _ _ _⟩|exact ⟨rfl,_,Eq.trans (World.drewN_drewN _ _ _) (congrArg (World.drewN _) (Nat.add_assoc _ _ _))⟩)));try go_wp2_with (first|(go_at_call 12;(first|(with_reducible refine (impl_SumOf.calls k s m _ A7.out).mono ?_)|(with_reducible refine (impl_SumOf.calls k (s ++ ⟨#[120]⟩) m1 _ A9.out).mono ?_));rintro e w' ⟨rfl,⟨nd,rfl⟩⟩;(try first|exact ⟨rfl,_,World.drewN_drewN _ _ _⟩|exact ⟨rfl,_,Eq.trans (World.drewN_drewN _ _ _) (congrArg (World.drewN _) (Nat.add_assoc _ _ _))⟩))|(go_at_call 11;(with_reducible refine (impl_SumMore.calls k m ⟨#[120]⟩ m1 _ A8.out).mono ?_);rintro e w' ⟨rfl,⟨nd,rfl⟩⟩;(try first|exact ⟨rfl,_,World.drewN_drewN _ _ _⟩|exact ⟨rfl,_,Eq.trans (World.drewN_drewN _ _ _) (congrArg (World.drewN _) (Nat.add_assoc _ _ _))⟩))))
 go_ret
 exact ⟨rfl,by repeat (first|(with_reducible first|exact HB.out|apply lA|apply lN|apply lD)|exact HB.out)⟩
def laws_FnTurned.f (k : Nat) (l0 : List Int) : Option Bool:=
 (laws_big.f l0).bind fun g => if g = true then some true else
 (spec_DrawSumOf.f k l0).bind fun s => (spec_DrawPlaces.f k l0).bind fun p => (impl_Sealed.f k s).bind fun a => (impl_Unsealed.f k a.1).bind fun b =>
 (impl_Unsealed.f k (turnedB a.1 (rd p 0) (rd p 1))).bind fun c => (impl_SumOf.f k s).bind fun m => (impl_SumMore.f k m ⟨#[120]⟩).bind fun m1 => (impl_SumOf.f k (s ++ ⟨#[120]⟩)).bind fun m2 =>
 if a.2 = true ∧ b.2 = true ∧ b.1 = s ∧ a.1.size = s.size + 4 ∧ s.size ≤ 20000 ∧ p.length = 12 ∧ (0 ≤ rd p 0 ∧ rd p 0 < 10000) ∧ (0 ≤ rd p 1 ∧ rd p 1 < 10000) ∧ c.2 = false ∧ m1 = m2 then some true else none
theorem laws_FnTurned.calls (k : Nat) (A0 : Option Addr) (c0 : Nat) (l0 : List Int) (r : Bool) (w : World) (hr0 : Kd.C (Kd.int .u8) w A0 l0.length l0) (hc0 : l0.length ≤ c0) (h : laws_FnTurned.f k l0 = some r) :
  Calls Try.prog 3 #[.slice A0 l0.length c0] w fun e w' => e = .returned (.bool r) ∧ Below w.heap.size w w':=by
 unfold laws_FnTurned.f at h
 obtain ⟨g,a1,h⟩:=Option.bind_eq_some_iff.mp h
 by_cases c : g = true
 ·subst c
  rw [if_pos rfl] at h
  obtain rfl:=Option.some.inj h
  have HR0:=aM hr0;have HC0:=aM hc0;have A1:=aM a1
  clear hr0 hc0 a1 h
  have HB:=aM (Below.refl w.heap.size w)
  go_enter Try.func3,Try.ntmps3
  go_wp2_with (go_at_call 6;(with_reducible refine (laws_big.calls _ _ l0 true _ HR0.out HC0.out A1.out).mono ?_);rintro e w' ⟨rfl,⟨nd,rfl⟩⟩)
  go_ret
  exact ⟨rfl,by repeat (first|(with_reducible first|exact HB.out|apply lA|apply lN|apply lD)|exact HB.out)⟩
 ·rw [if_neg c] at h
  obtain rfl : g = false:=Bool.eq_false_iff.mpr c
  obtain ⟨s,a2,h2⟩:=Option.bind_eq_some_iff.mp h
  obtain ⟨p,a3,h3⟩:=Option.bind_eq_some_iff.mp h2
  obtain ⟨⟨t,t2⟩,a4,h4⟩:=Option.bind_eq_some_iff.mp h3
  obtain ⟨⟨u,u2⟩,a5,h5⟩:=Option.bind_eq_some_iff.mp h4
  obtain ⟨⟨x,x2⟩,a6,h6⟩:=Option.bind_eq_some_iff.mp h5
  obtain ⟨m,a7,h7⟩:=Option.bind_eq_some_iff.mp h6
  obtain ⟨m1,a8,h8⟩:=Option.bind_eq_some_iff.mp h7
  obtain ⟨m2,a9,h9⟩:=Option.bind_eq_some_iff.mp h8
  clear h h2 h3 h4 h5 h6 h7 h8
  dsimp only at a5 a6 h9
  split at h9
  ·next hc =>
   obtain ⟨q1,q2,q3,ht,hs,hpl,hp0,hp1,q4,q5⟩:=hc
   subst q1 q2 q3 q4 q5
   obtain rfl:=Option.some.inj h9
   exact turned_walk k A0 c0 l0 _ t x p m _ w hr0 hc0 a1 a2 a3 a4 a5 ht hs hpl hp0 hp1 a6 a7 a8 a9
  ·cases h9
def laws_FnTurned.Pure : Prop:=∀ (l0 : List Int),l0.length ≤ maxLen → l0.length * 1 ≤ 140737488351232 → (∀ x ∈ l0,(Lit.int .u8 x).wf = true) → ∃ k,laws_FnTurned.f k l0 = some true
theorem laws_FnTurned.walk (P : laws_FnTurned.Pure) (a0 : Option Addr) (len0 cap0 : Nat) (z0 : List Int) (w : World) (w0 : (a0 = none ∧ len0 = 0 ∧ cap0 = 0 ∧ z0 = []) ∨ ∃ x,a0 = some x ∧ len0 ≤ cap0 ∧ cap0 ≤ maxLen ∧ z0.length = cap0 ∧ (∀ i,i < z0.length → w.cell? (x.add i) = some (.int .u8 (z0.getD i 0))) ∧ ∀ n ∈ z0,(Lit.int .u8 n).wf = true) (y0 : len0 * 1 ≤ 140737488351232) :
 Calls Try.prog 3 #[.slice a0 len0 cap0] w fun e w' => e = .returned (.bool true) ∧ Below w.heap.size w w':=by
 obtain ⟨l0,rfl,hr0,hm0,hw0,hc0⟩:=ReadsInt.ofRowC w0
 obtain ⟨k,h⟩:=P l0 hm0 y0 hw0
 refine (laws_FnTurned.calls k _ _ l0 true w (Kd.C_of_reads (d:=(0 : Int)) (h1:=fun _ => rfl) hr0) hc0 h).mono ?_
 rintro e w' ⟨rfl,hd⟩
 exact ⟨rfl,hd⟩


end Go.Proofs.Ytekngkljphlliaa.QFnTurned
