-- A text of this session, made by wip/own_print.py (the kit's print with additions of ours).
import Derived.Test.YtnjomkadjcjcnaaQFnBrokenx0
import Derived.Test.YtnjomkadjcjcnaaQFnBrokenx1
import Derived.Test.YtnjomkadjcjcnaaQFnBrokenx2
import Derived.Test.YtnjomkadjcjcnaaQFnBrokenx3
namespace Go.Proofs.Ytnjomkadjcjcnaa.QFnBroken
open Go.RowKit Go.Proofs.YtnjomkadjcjcnaaW.PrintWords Go.Proofs.YtnjomkadjcjcnaaW.PrintLast Go.Proofs.YtnjomkadjcjcnaaW.PrintMore
attribute [local go_sem] max2_int min2_int max_two min_two max_three min_three max_four min_four   -- for this text's walks alone
set_option linter.unusedVariables false
set_option linter.unusedSimpArgs false
open Bool renaming true → bT, false → bf
open Go.Proofs.YtnjomkadjcjcnaaW.PrintWords.Kd renaming R_alloc → rA, R_drewN → rN, R_drew → rD, C_alloc → cA, C_drewN → cN, C_drew → cD, R_far → rF, R_below → rB, R_lower → rL, R_lt → rT, R_base → rS, C_below → cB, R_types → rY, R_elder' → rE, R_reads' → rR, R_new' → rW
open Go.Proofs.YtnjomkadjcjcnaaW.PrintWords renaming blk_drewN → bN, blk_drew → bD, blk_alloc → bA, below_set → lS, pw_below_drewN → lN, below_drew1 → lD, below_alloc → lA, blk_cell → bC, blk_below → bB, below_size → lZ, below_step → lP, blk_lt → bL, blk_frozen → bF
open Go.Proofs.YtnjomkadjcjcnaaW.PrintWords.Aside0 renaming mk → aM
theorem q_ia4 {α : Type} (l : List α) (i : Nat) (a : α) : l.toArray.setIfInBounds i a = (l.set i a).toArray := List.setIfInBounds_toArray ..
theorem q_cz4 {α : Type} (a b : α) (l : List α) : (a :: l).set 0 b = b :: l := rfl
theorem q_cs4 {α : Type} (a b : α) (l : List α) (n : Nat) : (a :: l).set (n + 1) b = a :: l.set n b := rfl

/-! ### laws_FnBroken: function 6 -/
set_option maxHeartbeats 4000000
set_option maxRecDepth 100000
/-! What a reader of patterns does at the text "x", and behind it. -/
theorem bis_nil (g : Nat) (V : Value) (b : Bool) (c : Int) (w : World) (h : w.heap[g]? = some (.cells #[.string (⟨#[]⟩ : ByteArray), V, .bool b] 76 (0, 0))) :
  Calls Try.prog 76 #[.pointer (some ⟨g, 0, none⟩), .int .u8 c] w fun e w' => e = .returned (.bool false) ∧ w = w' := by
 obtain ⟨⟨h0, h1, h2⟩, f0, f1, f2⟩ := bC3 h
 have HH := aM h
 clear h
 go_enter Try.func76, Try.ntmps76
 go_wp2

 go_ret
 exact ⟨rfl, rfl⟩
theorem bis_x (g : Nat) (V : Value) (b : Bool) (c : Int) (hc : ((120 : Int) == c) = false) (w : World) (h : w.heap[g]? = some (.cells #[.string (⟨#[120]⟩ : ByteArray), V, .bool b] 76 (0, 0))) :
  Calls Try.prog 76 #[.pointer (some ⟨g, 0, none⟩), .int .u8 c] w fun e w' => e = .returned (.bool false) ∧ w = w' := by
 obtain ⟨⟨h0, h1, h2⟩, f0, f1, f2⟩ := bC3 h
 have HH := aM h
 clear h
 have hc2 : ((((⟨#[120]⟩ : ByteArray)[0]'(by decide)).toNat : Int) == c) = false := hc
 clear hc
 go_enter Try.func76, Try.ntmps76
 go_wp2

 go_ret
 exact ⟨rfl, rfl⟩
theorem btake_nil (g : Nat) (V : Value) (b : Bool) (c : Int) (w : World) (h : w.heap[g]? = some (.cells #[.string (⟨#[]⟩ : ByteArray), V, .bool b] 76 (0, 0))) :
  Calls Try.prog 59 #[.pointer (some ⟨g, 0, none⟩), .int .u8 c] w fun e w' => e = .returned (.bool false) ∧ w = w' := by
 have HH := aM h
 clear h
 go_enter Try.func59, Try.ntmps59
 go_wp2_with (go_at_call 76; refine (bis_nil g V b c _ HH.out).mono ?_; rintro e w' ⟨rfl, rfl⟩)
 go_ret
 exact ⟨rfl, rfl⟩
theorem btake_x (g : Nat) (V : Value) (b : Bool) (c : Int) (hc : ((120 : Int) == c) = false) (w : World) (h : w.heap[g]? = some (.cells #[.string (⟨#[120]⟩ : ByteArray), V, .bool b] 76 (0, 0))) :
  Calls Try.prog 59 #[.pointer (some ⟨g, 0, none⟩), .int .u8 c] w fun e w' => e = .returned (.bool false) ∧ w = w' := by
 have HH := aM h
 have HC := aM hc
 clear h hc
 go_enter Try.func59, Try.ntmps59
 go_wp2_with (go_at_call 76; refine (bis_x g V b c HC.out _ HH.out).mono ?_; rintro e w' ⟨rfl, rfl⟩)
 go_ret
 exact ⟨rfl, rfl⟩
def StR (w0 W : World) (g : Nat) (t : ByteArray) (ps : List S85) (b : Bool) : Prop :=
 ∃ A c, W.heap[g]? = some (.cells #[.string t, .slice A ps.length c, .bool b] 76 (0, 0)) ∧ w0.heap.size ≤ g ∧ k85.R 85 W w0.heap.size (fun k => k ≠ g) (.slice A ps.length c) ps ∧ Below w0.heap.size w0 W
theorem info85 : (Try.prog.info? 85).map (fun i => (i.zero, i.size, i.bytes)) = some (some (.agg #[.int .i64 0, .string ⟨#[]⟩, .slice none 0 0]), 3, 48) := by kernel_rfl
set_option maxHeartbeats 4000000 in
set_option maxRecDepth 100000 in
theorem bput (g : Nat) (t : ByteArray) (ps : List S85) (b : Bool) (op : Int) (text : ByteArray) (Ak : Option Addr) (ck : Nat) (kids : List Int) (w0 w : World) (hS : StR w0 w g t ps b) (hk : Kd.C (Kd.int .i64) w Ak kids.length kids) (hck : kids.length ≤ ck) (hl : ps.length ≤ 1000) (hl2 : kids.length ≤ 1000) :
  Calls Try.prog 60 #[.pointer (some ⟨g,0,none⟩),.int .i64 op,.string text,.slice Ak kids.length ck] w fun e w' => e = .returned (.int .i64 ps.length) ∧ StR w0 w' g t (ps ++ [⟨op,text,kids⟩]) b:=by
 obtain ⟨A,c,hb,hg,hR,hB⟩:=hS
 obtain ⟨⟨h0,h1,h2⟩,f0,f1,f2⟩:=bC3 hb
 have HK:=aM hk;have HCK:=aM hck;have HL:=aM hl;have HL2:=aM hl2;have HR:=aM hR;have HB:=aM hB;have HBK:=aM hb;have HG:=aM hg
 clear hk hck hl hl2 hR hB hb hg
 have hlt : g < w.heap.size:=by have:=bL HBK.out;exact this
 obtain ⟨i0,hi0,hz0,hz1,hz2⟩:=info_parts info85
 have hf : impl_copyInts.f kids = some kids:=by
  unfold impl_copyInts.f
  rw [Option.bind_some,if_pos (by have:=HL2.out;simp;omega)]
  rfl
 have HF:=aM hf
 clear hf
 go_enter Try.func60,Try.ntmps60
 go_wp2_with fail
 go_region_law (first
   |(refine step_append_lies _ (by rfl) _ _ _ (by rfl) w0.heap.size 85 i0 _ 3 48 Try.underlying28 hi0 hz0 hz1 hz2 rfl (by omega) (.slice A ps.length c) ps.length inner (by rfl) hown ⟨w1.heap.size,0,none⟩ 1 1 [.int .i64 op,.string text,.slice Av kids.length cv] (by rfl) (by rfl) (World.news_of_block (cs:=#[.int .i64 op,.string text,.slice Av kids.length cv]) (t:=85) (fr:=(0,0)) (heap_alloc_new w1 _)) (by simp [Value.oneCell']) (by omega) (by have:=HL.out;simp [maxLen];omega) (by have:=HL.out;omega) (by have h1_:=hb.size;have h2_:=HB.out.size;simp at h1_ ⊢;omega) (w1.heap.size + 1) (by simp) ?_;intro gg cap w2 hown2 hgrow hat hlt2;have HOW:=aM hown2;have HGR:=aM hgrow;have HAT:=aM hat;have hbk2:=aM ((hgrow.block g (by simp;exact Nat.lt_succ_of_lt hlt1.out) (fun e => hR0.out g e.symm rfl)).trans ((Below.heap_alloc w1 _ g hlt1.out).trans hbk1.out));obtain ⟨⟨z0,hz1_,z2⟩,y0,fz1,y2⟩:=bC3 hbk2.out;clear hown2 hgrow hat)
   |(go_simp;go_at_call 35;refine (impl_copyInts.calls Ak ck kids kids _ ?side1 HCK.out HF.out).mono ?_;(case side1 => repeat (first|exact HK.out|(with_reducible first|refine cA ?_ _|refine cN ?_ _|refine cD ?_)));rintro e w1 ⟨v0,rfl,ho,hb⟩;have HO:=aM ho;clear ho;obtain ⟨Av,cv,ev⟩:=Kd.R_slice HO.out;subst ev;have HR1:=aM (rH HR.out hb);have HRa:=aM (show k85.R 85 ((w1.alloc (.cells #[.int .i64 op,.string text,.slice Av kids.length cv] 85)).drew) w0.heap.size (fun k => k ≠ g) (.slice A ps.length c) ps from rZ HR1.out);obtain ⟨hR0_,inner,hown,hreps_⟩:=HRa.out;have hR0:=aM hR0_;have hreps:=aM hreps_;clear hR0_ hreps_;have hlt1:=aM (show g < w1.heap.size from Nat.lt_of_lt_of_le hlt hb.size);have hbk1:=aM ((hb.block g (by simpa using hlt)).trans HBK.out);obtain ⟨⟨x0,hx1,x2⟩,y0,fx1,y2⟩:=bC3 hbk1.out;have hbka:=aM ((Below.heap_alloc w1 (.cells #[.int .i64 op,.string text,.slice Av kids.length cv] 85) g hlt1.out).trans hbk1.out);obtain ⟨⟨xa0,hxa1,xa2⟩,ya0,fxa1,ya2⟩:=bC3 hbka.out))
 all_goals
  have hgk : g < w.heap.size:=hlt
  have hkids : (Kd.int .i64).R 3 ((w1.alloc (.cells #[.int .i64 op,.string text,.slice Av kids.length cv] 85)).drew) w0.heap.size (fun k => w.heap.size ≤ k) (.slice Av kids.length cv) kids:=
   rZ (rL (Kd.R_mono (Kd.R_bound HO.out) (fun k hk => hk.2.1)) HB.out.size)
  have hown3:=rT HR.out
  have hgd : ((w1.alloc (.cells #[.int .i64 op,.string text,.slice Av kids.length cv] 85)).drew).grownBy w2 (Value.slice A ps.length c).ownBlock:=⟨HGR.out.os,HGR.out.tape,HGR.out.output,HGR.out.size,HGR.out.block⟩
  have R2:=Kd.R_appended hR0.out hreps.out (k85_mkM _ w0.heap.size (fun k => w.heap.size ≤ k) (⟨op,text,kids⟩ : S85) hkids) (fun k hk => ⟨by omega,fun e_ => by have:=hown3 k e_.symm;omega⟩) (fun k hk => by have:=hlt1.out;simp at hk;omega) HOW.out hgd (by
   rcases HAT.out with e_|e_
   ·exact .inl e_.symm
   ·exact .inr ⟨gg,rfl,by rw [e_];simp⟩)
  have B2 : Below w0.heap.size w0 w2:=Below.grown (lD (lA (lQ HB.out hb) _)) hgd (by have h1_:=hb.size;have h2_:=HB.out.size;simp at h1_ ⊢;omega) (rS HR.out)
  have HF2:=aM (show StR w0 (w2.setCell ⟨g,1,none⟩ (.slice (some ⟨gg,0,none⟩) (ps.length + 1) cap)) g t (ps ++ [⟨op,text,kids⟩]) b from by
   have hl1 : (ps ++ [(⟨op,text,kids⟩ : S85)]).length = ps.length + 1:=by rw [List.length_append,List.length_singleton]
   refine ⟨some ⟨gg,0,none⟩,cap,?_,HG.out,?_,lS B2 HG.out⟩
   ·rw [hl1]
    exact blk_put hbk2.out 1 _ rfl
   ·rw [hl1]
    exact rF (p:=⟨g,1,none⟩) R2 (fun k hk => hk) _)
  have hw : wrap64 (ps.length : Int) = (ps.length : Int):=by unfold wrap64;have:=HL.out;omega
  clear R2 B2 hgd hkids hown3 hown
  go_wp2
  go_ret
  exact ⟨by first|rfl|simp,HF2.out⟩
theorem StR.text {w0 w : World} {g : Nat} {t : ByteArray} {ps : List S85} {b : Bool} (h : StR w0 w g t ps b) (t' : ByteArray) : StR w0 (w.setCell ⟨g,0,none⟩ (.string t')) g t' ps b:=by
 obtain ⟨A,c,hb,hg,hR,hB⟩:=h
 exact ⟨A,c,blk_put hb 0 _ rfl,hg,rF (p:=⟨g,0,none⟩) hR (fun k hk => hk) _,lS hB hg⟩
theorem StR.drewN {w0 w : World} {g : Nat} {t : ByteArray} {ps : List S85} {b : Bool} (h : StR w0 w g t ps b) (n : Nat) : StR w0 (w.drewN n) g t ps b:=by
 obtain ⟨A,c,hb,hg,hR,hB⟩:=h
 exact ⟨A,c,bN hb _,hg,rN hR _,lN hB _⟩
theorem btakeR_nil (g : Nat) (ps : List S85) (b : Bool) (c : Int) (w0 w : World) (h : StR w0 w g ⟨#[]⟩ ps b) :
  Calls Try.prog 59 #[.pointer (some ⟨g,0,none⟩),.int .u8 c] w fun e w' => e = .returned (.bool false) ∧ w = w':=by
 obtain ⟨A,q,hb,_⟩:=h
 exact btake_nil g _ _ c w hb
theorem btakeR_x (g : Nat) (ps : List S85) (b : Bool) (c : Int) (hc : ((120 : Int) == c) = false) (w0 w : World) (h : StR w0 w g ⟨#[120]⟩ ps b) :
  Calls Try.prog 59 #[.pointer (some ⟨g,0,none⟩),.int .u8 c] w fun e w' => e = .returned (.bool false) ∧ w = w':=by
 obtain ⟨A,q,hb,_⟩:=h
 exact btake_x g _ _ c hc w hb
set_option maxHeartbeats 4000000 in
set_option maxRecDepth 100000 in
theorem bsingle (g : Nat) (w0 w : World) (h : StR w0 w g ⟨#[120]⟩ [] false) :
  Calls Try.prog 112 #[.pointer (some ⟨g,0,none⟩)] w fun e w' => e = .returned (.int .i64 0) ∧ StR w0 w' g ⟨#[]⟩ [⟨1,⟨#[120]⟩,[]⟩] false:=by
 have HS:=aM h
 obtain ⟨A,q,hb,_⟩:=h
 obtain ⟨⟨h0,h1,h2⟩,f0,f1,f2⟩:=bC3 hb
 have hib : Go.Lib.indexByte [42,43,63,124,40,41,91,93,46,94,36,92] 120 = -1:=by decide
 clear hb
 go_enter Try.func112,Try.ntmps112
 go_upto_region 5 with (first
  |(go_at_call 59;refine (btakeR_x g _ _ 92 rfl w0 _ HS.out).mono ?_;rintro e w' ⟨rfl,rfl⟩)
  |(go_at_call 83;refine (Try.strings_IndexByte _ _ _).mono ?_;rintro e w' ⟨rfl,rfl⟩))
 rename_i K hK
 have e1 : (⟨#[120]⟩ : ByteArray).extract 0 1 = ⟨#[120]⟩:=rfl
 have e2 : (⟨#[120]⟩ : ByteArray).extract 1 1 = ⟨#[]⟩:=rfl
 go_wp2_with (first
  |(go_at_call 60;refine (bput g ⟨#[]⟩ [] false 1 ⟨#[120]⟩ none 0 [] w0 _ ?side1 (Kd.C_nil _ _) (Nat.le_refl _) (by decide) (by decide)).mono ?_;(case side1 => exact StR.text HS.out ⟨#[]⟩);rintro e w2 ⟨rfl,hs2⟩;have HS2:=aM hs2;clear hs2))

 go_ret
 exact ⟨rfl,HS2.out⟩
set_option maxHeartbeats 4000000 in
set_option maxRecDepth 100000 in
theorem bbase (g : Nat) (w0 w : World) (h : StR w0 w g ⟨#[120]⟩ [] false) :
  Calls Try.prog 97 #[.pointer (some ⟨g,0,none⟩)] w fun e w' => e = .returned (.int .i64 0) ∧ StR w0 w' g ⟨#[]⟩ [⟨1,⟨#[120]⟩,[]⟩] false:=by
 have HS:=aM h
 clear h
 go_enter Try.func97,Try.ntmps97
 go_wp2_with (first
  |(go_at_call 59;refine (btakeR_x g _ _ _ (by rfl) w0 _ HS.out).mono ?_;rintro e w' ⟨rfl,rfl⟩)
  |(go_at_call 112;refine (bsingle g w0 _ HS.out).mono ?_;rintro e w2 ⟨rfl,hs2⟩;have HS2:=aM hs2;clear hs2))
 go_ret
 exact ⟨rfl,HS2.out⟩
set_option maxHeartbeats 4000000 in
set_option maxRecDepth 100000 in
theorem bthing (g : Nat) (w0 w : World) (h : StR w0 w g ⟨#[120]⟩ [] false) :
  Calls Try.prog 77 #[.pointer (some ⟨g,0,none⟩)] w fun e w' => e = .returned (.int .i64 0) ∧ StR w0 w' g ⟨#[]⟩ [⟨1,⟨#[120]⟩,[]⟩] false:=by
 have HS:=aM h
 clear h
 go_enter Try.func77,Try.ntmps77
 go_wp2_with (first
  |(go_at_call 97;refine (bbase g w0 _ HS.out).mono ?_;rintro e w2 ⟨rfl,hs2⟩;have HS2:=aM hs2;clear hs2))
 obtain ⟨A,q,hb,_⟩:=HS2.out
 obtain ⟨⟨h0,h1,h2⟩,f0,f1,f2⟩:=bC3 hb
 clear hb
 refine wp_loop_rounds 1 ?_
 rw [rounds_succ]
 go_wp2_with (first
  |(go_at_call 59;refine (btakeR_nil g _ _ _ w0 _ HS2.out).mono ?_;rintro e w' ⟨rfl,rfl⟩))
 go_ret
 exact ⟨rfl,HS2.out⟩
set_option maxHeartbeats 4000000 in
set_option maxRecDepth 100000 in
theorem bis_R_x (g : Nat) (ps : List S85) (b : Bool) (c : Int) (hc : ((120 : Int) == c) = false) (w0 w : World) (h : StR w0 w g ⟨#[120]⟩ ps b) :
  Calls Try.prog 76 #[.pointer (some ⟨g,0,none⟩),.int .u8 c] w fun e w' => e = .returned (.bool false) ∧ w = w':=by
 obtain ⟨A,q,hb,_⟩:=h
 exact bis_x g _ _ c hc w hb
set_option maxHeartbeats 4000000 in
set_option maxRecDepth 100000 in
theorem brow (g : Nat) (w0 w : World) (h : StR w0 w g ⟨#[120]⟩ [] false) :
  Calls Try.prog 58 #[.pointer (some ⟨g,0,none⟩)] w fun e w' => e = .returned (.int .i64 0) ∧ StR w0 w' g ⟨#[]⟩ [⟨1,⟨#[120]⟩,[]⟩] false:=by
 have HS:=aM h
 obtain ⟨A,q,hb,_⟩:=h
 obtain ⟨⟨h0,h1,h2⟩,f0,f1,f2⟩:=bC3 hb
 clear hb
 go_enter Try.func58,Try.ntmps58
 go_wp2_with (first
  |(go_at_call 76;refine (bis_R_x g _ _ _ (by rfl) w0 _ HS.out).mono ?_;rintro e w' ⟨rfl,rfl⟩)
  |(go_at_call 77;refine (bthing g w0 _ HS.out).mono ?_;rintro e w2 ⟨rfl,hs2⟩;have HS2:=aM hs2;clear hs2))
 obtain ⟨A2,q2,hb2,_⟩:=HS2.out
 obtain ⟨⟨h3,h4,h5⟩,f3,f4,f5⟩:=bC3 hb2
 clear hb2
 refine wp_loop_rounds 1 ?_
 rw [rounds_succ]
 go_wp2
 go_ret
 exact ⟨rfl,HS2.out⟩
set_option maxHeartbeats 4000000 in
set_option maxRecDepth 100000 in
theorem balternatives (g : Nat) (w0 w : World) (h : StR w0 w g ⟨#[120]⟩ [] false) :
  Calls Try.prog 38 #[.pointer (some ⟨g,0,none⟩)] w fun e w' => e = .returned (.int .i64 0) ∧ StR w0 w' g ⟨#[]⟩ [⟨1,⟨#[120]⟩,[]⟩] false:=by
 have HS:=aM h
 clear h
 go_enter Try.func38,Try.ntmps38
 go_wp2_with (first
  |(go_at_call 58;refine (brow g w0 _ HS.out).mono ?_;rintro e w2 ⟨rfl,hs2⟩;have HS2:=aM hs2;clear hs2))
 obtain ⟨A2,q2,hb2,_⟩:=HS2.out
 obtain ⟨⟨h3,h4,h5⟩,f3,f4,f5⟩:=bC3 hb2
 clear hb2
 refine wp_loop_rounds 1 ?_
 rw [rounds_succ]
 go_wp2_with (first
  |(go_at_call 59;refine (btakeR_nil g _ _ _ w0 _ HS2.out).mono ?_;rintro e w' ⟨rfl,rfl⟩))
 go_ret
 exact ⟨rfl,HS2.out⟩
set_option maxHeartbeats 4000000 in
set_option maxRecDepth 100000 in
theorem breadP (k : Nat) (hk : 200 ≤ k) (w : World) :
  Calls Try.prog 19 #[.string ⟨#[120]⟩] w fun e w' => (∃ A q,e = .returned (.tuple #[.agg #[.slice A 1 q],.bool true])) ∧ Below w.heap.size w w':=by
 have hwi : impl_within.f 1 1 24 = some true:=by decide
 go_enter Try.func19,Try.ntmps19
 go_upto_region 4 with (first
  |(go_at_call 34;refine (impl_within.calls _ _ _ true _ hwi).mono ?_;rintro e w' ⟨rfl,⟨nd,rfl⟩⟩))
 rename_i K hK
 obtain ⟨wa,hwa⟩ : ∃ wa,(w.alloc (.cells #[.slice none 0 0] 30)).drewN nd = wa:=⟨_,rfl⟩
 have hsz : wa.heap.size = w.heap.size + 1:=by rw [← hwa];simp
 have hBa : Below w.heap.size w wa:=by rw [← hwa];exact lN (lA (Below.refl _ _) _) _
 have hra : wa.heap[w.heap.size]? = some (.cells #[.slice none 0 0] 30 (0,0)):=by rw [← hwa];exact heap_alloc_new w _
 rw [hwa]
 have HS:=aM (show StR wa (wa.alloc (.cells #[.string ⟨#[120]⟩,.slice none 0 0,.bool false] 76)) (w.heap.size + 1) ⟨#[120]⟩ [] false from ⟨none,0,by rw [← hsz];exact heap_alloc_new wa _,by omega,Kd.R_nil _ _ _ _ _,lA (Below.refl _ _) _⟩)
 have HBa:=aM hBa;have HRA:=aM hra;have HSZ:=aM hsz
 clear hwa hBa hra hsz
 go_upto_region 5 with (first
  |(go_at_call 38;refine (balternatives _ wa _ HS.out).mono ?_;rintro e w2 ⟨rfl,hs2⟩;have HS2:=aM hs2;clear hs2))
 rename_i K2 hK2
 obtain ⟨A2,q2,hb2,hg2,hR2,hB2⟩:=HS2.out
 obtain ⟨⟨h3,h4,h5⟩,f3,f4,f5⟩:=bC3 hb2
 have HR2:=aM hR2;have HB2:=aM hB2;have HBK:=aM hb2
 clear hb2 hg2 hR2 hB2
 have hpo : impl_PatternOk.f k [⟨1,⟨#[120]⟩,[]⟩] = some true:=at_rounds (g:=fun k => impl_PatternOk.f k [⟨1,⟨#[120]⟩,[]⟩]) (fun k => impl_PatternOk.mono _ k) hk (by decide +kernel)
 have HPO:=aM hpo
 clear hpo
 go_wp2_with (first
  |(go_at_call 30;refine (impl_PatternOk.calls k A2 q2 [⟨1,⟨#[120]⟩,[]⟩] true _ (rR HR2.out).2.2 (rR HR2.out).2.1 HPO.out).mono ?_;rintro e w3 ⟨rfl,hb3⟩;have hbk3:=(hb3.block _ (bL HBK.out)).trans HBK.out;obtain ⟨⟨x3,x4,x5⟩,y3,y4,y5⟩:=bC3 hbk3;have hr3:=(hb3.block w.heap.size (by have h1_:=HB2.out.size;have h2_:=HSZ.out;omega)).trans ((HB2.out.block w.heap.size (by have h2_:=HSZ.out;omega)).trans HRA.out);have hc3:=(bC hr3 0).trans rfl;have hf3:=bF hr3 0;have HB3:=aM (show Below w.heap.size w w3 from (HBa.out.trans (HB2.out.mono (by have h2_:=HSZ.out;omega))).trans (hb3.mono (by have h1_:=HB2.out.size;have h2_:=HSZ.out;omega)));clear hbk3 hr3 hb3))
 exact bodyPost_ret (v:=.tuple #[.agg #[.slice A2 1 q2],.bool true]) (by simp [results,Try.results19,go_sem,hc3]) rfl ⟨⟨_,_,rfl⟩,lS HB3.out (Nat.le_refl _)⟩
def CodeV (tb : Nat) (lb : Nat) (n : Nat) (line en : Int) : Value:=.agg #[.slice (some ⟨tb,0,none⟩) 1 1,.slice (some ⟨lb,0,none⟩) n n,.int .i64 0,.int .i64 line,.int .i64 en]
set_option maxHeartbeats 4000000 in
set_option maxRecDepth 100000 in
theorem barg_text (k : Nat) (hk : 200 ≤ k) (tb lb n i : Nat) (hi : i < n) (line en e2 : Int) (w : World) (ht : w.cell? ⟨tb,0,none⟩ = some (.string ⟨#[120]⟩)) (h0 : w.cell? ⟨lb,i * 2,none⟩ = some (.int .i64 1)) (h1 : w.cell? ⟨lb,i * 2 + 1,none⟩ = some (.int .i64 0)) :
  Calls Try.prog 63 #[CodeV tb lb n line en,.int .i64 i,.int .i64 e2] w fun e w' => e = .returned (.bool true) ∧ Below w.heap.size w w':=by
 have hwi : impl_within.f 0 0 0 = some true:=by decide
 have hht : impl_hasText.f 1 = some true:=by decide +kernel
 have hin : impl_isNamed.f 1 = some false:=by decide +kernel
 have l1:=World.block_lt_of_cell? w _ ht
 have l2:=World.block_lt_of_cell? w _ h0
 unfold CodeV
 go_enter Try.func63,Try.ntmps63
 go_wp2_with (first
  |(go_at_call 34;refine (impl_within.calls _ _ _ true _ hwi).mono ?_;rintro e w' ⟨rfl,⟨nd,rfl⟩⟩)
  |(go_at_call 79;refine (impl_hasText.calls _ true _ hht).mono ?_;rintro e w' ⟨rfl,⟨nd,rfl⟩⟩)
  |(go_at_call 80;refine (impl_isNamed.calls _ false _ hin).mono ?_;rintro e w' ⟨rfl,⟨nd,rfl⟩⟩)
  |(go_at_call 19;refine (breadP k hk _).mono ?_;rintro e w2 ⟨⟨A,q,rfl⟩,hb⟩;have q1 : w2.cell? ⟨w.heap.size + 1,0,none⟩ = some (.int .i64 1):=(hb.cell (by simp)).trans (by simp);have q2 : w2.cell? ⟨w.heap.size,0,none⟩ = some (.slice (some ⟨tb,0,none⟩) 1 1):=(hb.cell (by simp;omega)).trans (by simp);have q3 : w.heap.size + 1 < w2.heap.size:=(by have q_:=hb.size;simp at q_;omega);have HB:=aM (show Below w.heap.size w w2 from Below.trans (by repeat (first|exact Below.refl _ _|apply lA|apply lN|apply lD)) (hb.mono (by simp;omega)));clear hb))
 go_ret
 exact ⟨rfl,by repeat (first|exact HB.out|apply lA|apply lN|apply lD)⟩
set_option maxHeartbeats 4000000 in
set_option maxRecDepth 100000 in
theorem barg_set (k : Nat) (hk : 200 ≤ k) (tb lb n i : Nat) (hi : i < n) (line en e2 : Int) (w : World) (ht : w.cell? ⟨tb,0,none⟩ = some (.string ⟨#[120]⟩)) (h0 : w.cell? ⟨lb,i * 2,none⟩ = some (.int .i64 17)) (h1 : w.cell? ⟨lb,i * 2 + 1,none⟩ = some (.int .i64 0)) :
  Calls Try.prog 63 #[CodeV tb lb n line en,.int .i64 i,.int .i64 e2] w fun e w' => e = .returned (.bool true) ∧ Below w.heap.size w w':=by
 have hwi : impl_within.f 0 0 0 = some true:=by decide
 have hht : impl_hasText.f 17 = some true:=by decide +kernel
 have hin : impl_isNamed.f 17 = some true:=by decide +kernel
 have hle : impl_isLetters.f k ⟨#[120]⟩ = some true:=at_rounds (g:=fun k => impl_isLetters.f k ⟨#[120]⟩) (fun k => impl_isLetters.mono _ k) hk (by decide +kernel)
 have HLE:=aM hle
 clear hle
 have l1:=World.block_lt_of_cell? w _ ht
 have l2:=World.block_lt_of_cell? w _ h0
 unfold CodeV
 go_enter Try.func63,Try.ntmps63
 go_wp2_with (first
  |(go_at_call 34;refine (impl_within.calls _ _ _ true _ hwi).mono ?_;rintro e w' ⟨rfl,⟨nd,rfl⟩⟩)
  |(go_at_call 79;refine (impl_hasText.calls _ true _ hht).mono ?_;rintro e w' ⟨rfl,⟨nd,rfl⟩⟩)
  |(go_at_call 80;refine (impl_isNamed.calls _ true _ hin).mono ?_;rintro e w' ⟨rfl,⟨nd,rfl⟩⟩)
  |(go_at_call 81;refine (impl_isLetters.calls k ⟨#[120]⟩ true _ HLE.out).mono ?_;rintro e w' ⟨rfl,⟨nd,rfl⟩⟩)
  |(go_at_call 19;refine (breadP k hk _).mono ?_;rintro e w2 ⟨⟨A,q,rfl⟩,hb⟩;have q8 : w.heap.size < w2.heap.size:=(by have q_:=hb.size;simp at q_;omega);have q5 : w2.cell? ⟨w.heap.size + 1,1,none⟩ = some (.int .i64 0):=(hb.cell (by simp)).trans (by simp);have q6 : w2.cell? ⟨tb,0,none⟩ = some (.string ⟨#[120]⟩):=(hb.cell (by simp;omega)).trans (((show Below w.heap.size w _ from by repeat (first|exact Below.refl _ _|apply lA|apply lN|apply lD)).cell (p:=⟨tb,0,none⟩) l1).trans ht);have q7 : tb < w2.heap.size:=(by have q_:=hb.size;simp at q_;omega);have q1 : w2.cell? ⟨w.heap.size + 1,0,none⟩ = some (.int .i64 17):=(hb.cell (by simp)).trans (by simp);have q2 : w2.cell? ⟨w.heap.size,0,none⟩ = some (.slice (some ⟨tb,0,none⟩) 1 1):=(hb.cell (by simp;omega)).trans (by simp);have q3 : w.heap.size + 1 < w2.heap.size:=(by have q_:=hb.size;simp at q_;omega);have HB:=aM (show Below w.heap.size w w2 from Below.trans (by repeat (first|exact Below.refl _ _|apply lA|apply lN|apply lD)) (hb.mono (by simp;omega)));clear hb))
 go_ret
 exact ⟨rfl,by repeat (first|exact HB.out|apply lA|apply lN|apply lD)⟩
set_option maxHeartbeats 4000000 in
set_option maxRecDepth 100000 in
theorem barg_far (tb lb n i : Nat) (hi : i < n) (line en e2 a : Int) (ha : 1 ≤ a) (w : World) (h0 : w.cell? ⟨lb,i * 2,none⟩ = some (.int .i64 17)) (h1 : w.cell? ⟨lb,i * 2 + 1,none⟩ = some (.int .i64 a)) :
  Calls Try.prog 63 #[CodeV tb lb n line en,.int .i64 i,.int .i64 e2] w fun e w' => e = .returned (.bool false) ∧ Below w.heap.size w w':=by
 have hwi : impl_within.f a 0 0 = some false:=by
  unfold impl_within.f
  by_cases c : a ≥ 0
  ·rw [if_pos c,decide_eq_false (by omega)]
  ·rw [if_neg c]
 have HWI:=aM hwi
 have HA:=aM ha
 clear hwi ha
 have hht : impl_hasText.f 17 = some true:=by decide +kernel
 have l2:=World.block_lt_of_cell? w _ h0
 have HB:=aM (Below.refl w.heap.size w)
 unfold CodeV
 go_enter Try.func63,Try.ntmps63
 go_wp2_with (first
  |(go_at_call 34;refine (impl_within.calls _ _ _ false _ HWI.out).mono ?_;rintro e w' ⟨rfl,⟨nd,rfl⟩⟩)
  |(go_at_call 79;refine (impl_hasText.calls _ true _ hht).mono ?_;rintro e w' ⟨rfl,⟨nd,rfl⟩⟩))
 go_ret
 exact ⟨rfl,by repeat (first|exact HB.out|apply lA|apply lN|apply lD)⟩
set_option maxHeartbeats 4000000 in
set_option maxRecDepth 100000 in
theorem barg_zero (tb lb n : Nat) (hn : 1 < n) (line en e2 : Int) (w : World) (h0 : w.cell? ⟨lb,2,none⟩ = some (.int .i64 21)) (h1 : w.cell? ⟨lb,3,none⟩ = some (.int .i64 0)) :
  Calls Try.prog 63 #[CodeV tb lb n line en,.int .i64 1,.int .i64 e2] w fun e w' => e = .returned (.bool false) ∧ Below w.heap.size w w':=by
 have hwi : impl_within.f 0 2 e2 = some false:=by
  unfold impl_within.f
  rw [if_neg (by decide)]
 have HWI:=aM hwi
 clear hwi
 have hht : impl_hasText.f 21 = some false:=by decide +kernel
 have l2:=World.block_lt_of_cell? w _ h0
 have HB:=aM (Below.refl w.heap.size w)
 unfold CodeV
 go_enter Try.func63,Try.ntmps63
 go_wp2_with (first
  |(go_at_call 34;refine (impl_within.calls _ _ _ false _ HWI.out).mono ?_;rintro e w' ⟨rfl,⟨nd,rfl⟩⟩)
  |(go_at_call 79;refine (impl_hasText.calls _ false _ hht).mono ?_;rintro e w' ⟨rfl,⟨nd,rfl⟩⟩))
 go_ret
 exact ⟨rfl,by repeat (first|exact HB.out|apply lA|apply lN|apply lD)⟩
set_option maxHeartbeats 4000000 in
set_option maxRecDepth 100000 in
theorem brep1 (b : Nat) (w : World) (hb : w.heap[b]? = some (.cells #[.int .i64 (-1)] 3 (0,0))) :
  Calls Try.prog 61 #[.slice (some ⟨b,0,none⟩) 1 1,.int .i64 1] w fun e w' => ∃ g,e = .returned (.slice (some ⟨g,0,none⟩) 1 1) ∧ w'.heap[g]? = some (.cells #[.int .i64 (-1)] 3 (0,0)) ∧ w.heap.size ≤ g ∧ Below w.heap.size w w':=by
 have hc:=bC hb 0
 have hi3 : (Try.prog.info? 3).map (fun i => (i.zero,i.size,i.bytes)) = some (some (.int .i64 0),1,8):=by kernel_rfl
 obtain ⟨i0,hi0,hz0,hz1,hz2⟩:=info_parts hi3
 have hmk : ∀ W : World,(Instr.makeSlice 34 (.int .i64 1) (.int .i64 1)).run Try.prog W = .ok (.slice (some ⟨W.heap.size,0,none⟩) 1 1) (W.alloc (.cells #[.int .i64 0] 3)):=fun W => by
  have h:=run_make (P:=Try.prog) W 34 3 i0 _ Try.underlying34 hi0 hz0 .i64 .i64 1 1 (by omega) (by omega) (by rw [hz2];omega) (by omega)
  rw [hz1] at h
  rw [h]
  have e : Array.range 1 = #[0]:=by decide
  simp [madeCells,Value.cells,e]
 clear hi3 hi0 hz0 hz1 hz2
 have hlb:=bL hb
 have hcp : (Builtin.copy_ #[34,34] 3 #[.slice (some ⟨w.heap.size,0,none⟩) 1 1,.slice (some ⟨b,0,none⟩) 1 1]).run Try.prog (w.alloc (.cells #[.int .i64 0] 3)) = .ok (.int .i64 1) ((w.alloc (.cells #[.int .i64 0] 3)).setCell ⟨w.heap.size,0,none⟩ (.int .i64 (-1))):=by
  refine run_copy_cells _ 34 34 3 3 w.heap.size 0 1 1 ⟨b,0,none⟩ 1 1 [.int .i64 (-1)] Try.underlying34 (by kernel_rfl) rfl (fun j v hj => ?_) (fun j hj => ?_) (fun j hj => ?_) (by simp [Value.oneCell'])
  ·cases j with
   |zero => injection hj with hj;subst hj;exact ((lA (Below.refl w.heap.size w) _).cell (p:=⟨b,0,none⟩) hlb).trans (hc.trans rfl)
   |succ j => cases hj
  ·obtain rfl : j = 0:=by simp at hj;exact hj
   rw [bC (heap_alloc_new w _) 0];rfl
  ·obtain rfl : j = 0:=by simp at hj;exact hj
   exact bF (heap_alloc_new w _) 0
 have HN:=aM (blk_put (heap_alloc_new w (.cells #[.int .i64 0] 3)) 0 (.int .i64 (-1)) (cs':=#[.int .i64 (-1)]) rfl)
 go_enter Try.func61,Try.ntmps61
 go_wp2_with (first
  |(go_at_call 78;refine (Try.bits_Mul 1 1 (by decide) (by decide) _).mono ?_;rintro e w' ⟨rfl,rfl⟩))
 refine wp_loop_rounds 1 ?_
 rw [rounds_succ]
 go_wp2
 go_ret
 exact ⟨_,rfl,heap_alloc_new _ _,Nat.le_refl _,lA (Below.refl _ _) _⟩
set_option maxHeartbeats 4000000 in
set_option maxRecDepth 100000 in
theorem brep2 (b : Nat) (w : World) (hb : w.heap[b]? = some (.cells #[.int .i64 (-1)] 3 (0,0))) :
  Calls Try.prog 61 #[.slice (some ⟨b,0,none⟩) 1 1,.int .i64 2] w fun e w' => ∃ g,e = .returned (.slice (some ⟨g,0,none⟩) 2 2) ∧ w'.heap[g]? = some (.cells #[.int .i64 (-1),.int .i64 (-1)] 3 (0,0)) ∧ w.heap.size ≤ g ∧ Below w.heap.size w w':=by
 have hc:=bC hb 0
 have hi3 : (Try.prog.info? 3).map (fun i => (i.zero,i.size,i.bytes)) = some (some (.int .i64 0),1,8):=by kernel_rfl
 obtain ⟨i0,hi0,hz0,hz1,hz2⟩:=info_parts hi3
 have hmk : ∀ W : World,(Instr.makeSlice 34 (.int .i64 2) (.int .i64 2)).run Try.prog W = .ok (.slice (some ⟨W.heap.size,0,none⟩) 2 2) (W.alloc (.cells #[.int .i64 0,.int .i64 0] 3)):=fun W => by
  have h:=run_make (P:=Try.prog) W 34 3 i0 _ Try.underlying34 hi0 hz0 .i64 .i64 2 2 (by omega) (by omega) (by rw [hz2];omega) (by omega)
  rw [hz1] at h
  rw [h]
  have e : Array.range 2 = #[0,1]:=by decide
  simp [madeCells,Value.cells,e]
 clear hi3 hi0 hz0 hz1 hz2
 have hlb:=bL hb
 have hcp : (Builtin.copy_ #[34,34] 3 #[.slice (some ⟨w.heap.size,0,none⟩) 2 2,.slice (some ⟨b,0,none⟩) 1 1]).run Try.prog (w.alloc (.cells #[.int .i64 0,.int .i64 0] 3)) = .ok (.int .i64 1) ((w.alloc (.cells #[.int .i64 0,.int .i64 0] 3)).setCell ⟨w.heap.size,0,none⟩ (.int .i64 (-1))):=by
  refine run_copy_cells _ 34 34 3 3 w.heap.size 0 2 2 ⟨b,0,none⟩ 1 1 [.int .i64 (-1)] Try.underlying34 (by kernel_rfl) rfl (fun j v hj => ?_) (fun j hj => ?_) (fun j hj => ?_) (by simp [Value.oneCell'])
  ·cases j with
   |zero => injection hj with hj;subst hj;exact ((lA (Below.refl w.heap.size w) _).cell (p:=⟨b,0,none⟩) hlb).trans (hc.trans rfl)
   |succ j => cases hj
  ·obtain rfl : j = 0:=by simp at hj;exact hj
   rw [bC (heap_alloc_new w _) 0];rfl
  ·obtain rfl : j = 0:=by simp at hj;exact hj
   exact bF (heap_alloc_new w _) 0
 have hcp2 : (Builtin.copy_ #[34,34] 3 #[.slice (some ⟨w.heap.size,1,none⟩) 1 1,.slice (some ⟨w.heap.size,0,none⟩) 1 2]).run Try.prog (w.alloc (.cells #[.int .i64 (-1),.int .i64 0] 3)).drew = .ok (.int .i64 1) ((w.alloc (.cells #[.int .i64 (-1),.int .i64 0] 3)).drew.setCell ⟨w.heap.size,1,none⟩ (.int .i64 (-1))):=by
  refine run_copy_cells _ 34 34 3 3 w.heap.size 1 1 1 ⟨w.heap.size,0,none⟩ 1 2 [.int .i64 (-1)] Try.underlying34 (by kernel_rfl) rfl (fun j v hj => ?_) (fun j hj => ?_) (fun j hj => ?_) (by simp [Value.oneCell'])
  ·cases j with
   |zero => injection hj with hj;subst hj;exact (bC (bD (heap_alloc_new w _)) 0).trans rfl
   |succ j => cases hj
  ·obtain rfl : j = 0:=by simp at hj;exact hj
   rw [bC (bD (heap_alloc_new w _)) 1];rfl
  ·obtain rfl : j = 0:=by simp at hj;exact hj
   exact bF (bD (heap_alloc_new w _)) 1
 go_enter Try.func61,Try.ntmps61
 go_wp2_with (first
  |(go_at_call 78;refine (Try.bits_Mul 1 2 (by decide) (by decide) _).mono ?_;rintro e w' ⟨rfl,rfl⟩))
 refine wp_loop_rounds 2 ?_
 rw [rounds_succ]
 go_wp2
 go_region
 go_wp2
 rw [rounds_succ]
 go_wp2
 go_ret
 exact ⟨_,rfl,bD (heap_alloc_new _ _),Nat.le_refl _,lD (lA (Below.refl _ _) _)⟩
set_option maxHeartbeats 4000000 in
set_option maxRecDepth 100000 in
theorem brep3 (b : Nat) (w : World) (hb : w.heap[b]? = some (.cells #[.int .i64 (-1)] 3 (0,0))) :
  Calls Try.prog 61 #[.slice (some ⟨b,0,none⟩) 1 1,.int .i64 3] w fun e w' => ∃ g,e = .returned (.slice (some ⟨g,0,none⟩) 3 3) ∧ w'.heap[g]? = some (.cells #[.int .i64 (-1),.int .i64 (-1),.int .i64 (-1)] 3 (0,0)) ∧ w.heap.size ≤ g ∧ Below w.heap.size w w':=by
 have hc:=bC hb 0
 have hi3 : (Try.prog.info? 3).map (fun i => (i.zero,i.size,i.bytes)) = some (some (.int .i64 0),1,8):=by kernel_rfl
 obtain ⟨i0,hi0,hz0,hz1,hz2⟩:=info_parts hi3
 have hmk : ∀ W : World,(Instr.makeSlice 34 (.int .i64 3) (.int .i64 3)).run Try.prog W = .ok (.slice (some ⟨W.heap.size,0,none⟩) 3 3) (W.alloc (.cells #[.int .i64 0,.int .i64 0,.int .i64 0] 3)):=fun W => by
  have h:=run_make (P:=Try.prog) W 34 3 i0 _ Try.underlying34 hi0 hz0 .i64 .i64 3 3 (by omega) (by omega) (by rw [hz2];omega) (by omega)
  rw [hz1] at h
  rw [h]
  have e : Array.range 3 = #[0,1,2]:=by decide
  simp [madeCells,Value.cells,e]
 clear hi3 hi0 hz0 hz1 hz2
 have hlb:=bL hb
 have hcp : (Builtin.copy_ #[34,34] 3 #[.slice (some ⟨w.heap.size,0,none⟩) 3 3,.slice (some ⟨b,0,none⟩) 1 1]).run Try.prog (w.alloc (.cells #[.int .i64 0,.int .i64 0,.int .i64 0] 3)) = .ok (.int .i64 1) ((w.alloc (.cells #[.int .i64 0,.int .i64 0,.int .i64 0] 3)).setCell ⟨w.heap.size,0,none⟩ (.int .i64 (-1))):=by
  refine run_copy_cells _ 34 34 3 3 w.heap.size 0 3 3 ⟨b,0,none⟩ 1 1 [.int .i64 (-1)] Try.underlying34 (by kernel_rfl) rfl (fun j v hj => ?_) (fun j hj => ?_) (fun j hj => ?_) (by simp [Value.oneCell'])
  ·cases j with
   |zero => injection hj with hj;subst hj;exact ((lA (Below.refl w.heap.size w) _).cell (p:=⟨b,0,none⟩) hlb).trans (hc.trans rfl)
   |succ j => cases hj
  ·obtain rfl : j = 0:=by simp at hj;exact hj
   rw [bC (heap_alloc_new w _) 0];rfl
  ·obtain rfl : j = 0:=by simp at hj;exact hj
   exact bF (heap_alloc_new w _) 0
 have hcp2 : (Builtin.copy_ #[34,34] 3 #[.slice (some ⟨w.heap.size,1,none⟩) 2 2,.slice (some ⟨w.heap.size,0,none⟩) 1 3]).run Try.prog (w.alloc (.cells #[.int .i64 (-1),.int .i64 0,.int .i64 0] 3)).drew = .ok (.int .i64 1) ((w.alloc (.cells #[.int .i64 (-1),.int .i64 0,.int .i64 0] 3)).drew.setCell ⟨w.heap.size,1,none⟩ (.int .i64 (-1))):=by
  refine run_copy_cells _ 34 34 3 3 w.heap.size 1 2 2 ⟨w.heap.size,0,none⟩ 1 3 [.int .i64 (-1)] Try.underlying34 (by kernel_rfl) rfl (fun j v hj => ?_) (fun j hj => ?_) (fun j hj => ?_) (by simp [Value.oneCell'])
  ·cases j with
   |zero => injection hj with hj;subst hj;exact (bC (bD (heap_alloc_new w _)) 0).trans rfl
   |succ j => cases hj
  ·obtain rfl : j = 0:=by simp at hj;exact hj
   rw [bC (bD (heap_alloc_new w _)) 1];rfl
  ·obtain rfl : j = 0:=by simp at hj;exact hj
   exact bF (bD (heap_alloc_new w _)) 1
 have hcp3 : (Builtin.copy_ #[34,34] 3 #[.slice (some ⟨w.heap.size,2,none⟩) 1 1,.slice (some ⟨w.heap.size,0,none⟩) 2 3]).run Try.prog (w.alloc (.cells #[.int .i64 (-1),.int .i64 (-1),.int .i64 0] 3)).drew.drew = .ok (.int .i64 1) ((w.alloc (.cells #[.int .i64 (-1),.int .i64 (-1),.int .i64 0] 3)).drew.drew.setCell ⟨w.heap.size,2,none⟩ (.int .i64 (-1))):=by
  refine run_copy_cells _ 34 34 3 3 w.heap.size 2 1 1 ⟨w.heap.size,0,none⟩ 2 3 [.int .i64 (-1)] Try.underlying34 (by kernel_rfl) rfl (fun j v hj => ?_) (fun j hj => ?_) (fun j hj => ?_) (by simp [Value.oneCell'])
  ·cases j with
   |zero => injection hj with hj;subst hj;exact (bC (bD (bD (heap_alloc_new w _))) 0).trans rfl
   |succ j => cases hj
  ·obtain rfl : j = 0:=by simp at hj;exact hj
   rw [bC (bD (bD (heap_alloc_new w _))) 2];rfl
  ·obtain rfl : j = 0:=by simp at hj;exact hj
   exact bF (bD (bD (heap_alloc_new w _))) 2
 go_enter Try.func61,Try.ntmps61
 go_wp2_with (first
  |(go_at_call 78;refine (Try.bits_Mul 1 3 (by decide) (by decide) _).mono ?_;rintro e w' ⟨rfl,rfl⟩))
 refine wp_loop_rounds 3 ?_
 rw [rounds_succ]
 go_wp2
 go_region
 go_wp2
 rw [rounds_succ]
 go_wp2
 go_region
 go_wp2
 rw [rounds_succ]
 go_wp2
 go_ret
 exact ⟨_,rfl,bD (bD (heap_alloc_new _ _)),Nat.le_refl _,lD (lD (lA (Below.refl _ _) _))⟩
set_option maxHeartbeats 4000000 in
set_option maxRecDepth 100000 in
theorem bcome (g hp fp j n c : Nat) (h : Int) (h0 : 0 ≤ h) (h20 : h ≤ 20) (hj : j < n) (hj2 : j ≤ 1000) (w : World) (hh : w.cell? ⟨hp,0,none⟩ = some (.slice (some ⟨g,0,none⟩) n c)) (hf : w.cell? ⟨fp,0,none⟩ = some (.int .i64 0)) (hc : w.cell? ⟨g,j,none⟩ = some (.int .i64 (-1))) (hz : w.frozen? ⟨g,j,none⟩ = false) :
  Calls Try.prog 62 #[.int .i64 j,.int .i64 h,.pointer (some ⟨hp,0,none⟩),.pointer (some ⟨fp,0,none⟩)] w fun e w' => e = .returned (.bool true) ∧ w.setCell ⟨g,j,none⟩ (.int .i64 h) = w':=by
 have hq : IntKind.i64.wrap ((j : Int) - 0) = (j : Int):=by rw [IntKind.wrap_i64];omega
 have hq2 : ((j : Int) - 0) = (j : Int):=by omega
 have hq1 : 0 ≤ (j : Int):=by omega
 have hq3 : (j : Int) < n:=by omega
 go_enter Try.func62,Try.ntmps62
 go_wp2
 go_ret
 exact ⟨rfl,rfl⟩
theorem name_world {P : Program} {f : FuncId} {a : Array Value} {w : World} {Q : Ending → World → Prop} (h : ∀ W,w = W → Calls P f a W Q) : Calls P f a w Q:=h w rfl
theorem new_at {w : World} {o : Obj} {n : Nat} (h : w.heap.size = n) : (w.alloc o).heap[n]? = some o:=by rw [← h];exact heap_alloc_new w o
theorem bC5 {w : World} {g : Nat} {a b c d e : Value} {t : TypeId} (h : w.heap[g]? = some (.cells #[a,b,c,d,e] t (0,0))) : w.cell? ⟨g,0,none⟩ = some a ∧ w.cell? ⟨g,1,none⟩ = some b ∧ w.cell? ⟨g,2,none⟩ = some c ∧ w.cell? ⟨g,3,none⟩ = some d ∧ w.cell? ⟨g,4,none⟩ = some e:=
 ⟨(bC h 0).trans rfl,(bC h 1).trans rfl,(bC h 2).trans rfl,(bC h 3).trans rfl,(bC h 4).trans rfl⟩

def PS (w0 W : World) (c0 g h : Nat) (cv hs : Array Value) (n : Nat) : Prop:=
 (W.heap[c0]? = some (.cells cv 50 (0,0)) ∧ W.heap[c0 + 1]? = some (.cells #[.int .i64 0] 3 (0,0)) ∧ W.heap[g]? = some (.cells hs 3 (0,0)) ∧ W.heap[h]? = some (.cells #[.slice (some ⟨g,0,none⟩) n n] 34 (0,0))) ∧ w0.heap.size ≤ c0 ∧ c0 + 1 < g ∧ g < h ∧ Below w0.heap.size w0 W
theorem PS.below {w0 W W2 : World} {c0 g h : Nat} {cv hs : Array Value} {n : Nat} (p : PS w0 W c0 g h cv hs n) (hb : Below W.heap.size W W2) : PS w0 W2 c0 g h cv hs n:=by
 obtain ⟨⟨a,b,c,d⟩,e1,e2,e3,f⟩:=p
 exact ⟨⟨bB a hb,bB b hb,bB c hb,bB d hb⟩,e1,e2,e3,lP f hb⟩
theorem PS.alloc {w0 W : World} {c0 g h : Nat} {cv hs : Array Value} {n : Nat} (p : PS w0 W c0 g h cv hs n) (o : Obj) : PS w0 (W.alloc o) c0 g h cv hs n:=by
 obtain ⟨⟨a,b,c,d⟩,e1,e2,e3,f⟩:=p
 exact ⟨⟨bA a _,bA b _,bA c _,bA d _⟩,e1,e2,e3,lA f _⟩
theorem PS.drewN {w0 W : World} {c0 g h : Nat} {cv hs : Array Value} {n : Nat} (p : PS w0 W c0 g h cv hs n) (m : Nat) : PS w0 (W.drewN m) c0 g h cv hs n:=by
 obtain ⟨⟨a,b,c,d⟩,e1,e2,e3,f⟩:=p
 exact ⟨⟨bN a _,bN b _,bN c _,bN d _⟩,e1,e2,e3,lN f _⟩
theorem PS.set {w0 W : World} {c0 g h : Nat} {cv hs hs' : Array Value} {n : Nat} (p : PS w0 W c0 g h cv hs n) (j : Nat) (v : Value) (hv : hs' = hs.setIfInBounds j v) : PS w0 (W.setCell ⟨g,j,none⟩ v) c0 g h cv hs' n:=by
 obtain ⟨⟨a,b,c,d⟩,e1,e2,e3,f⟩:=p
 exact ⟨⟨(Below.heap_setCell W ⟨g,j,none⟩ v c0 (by simp;omega)).trans a,(Below.heap_setCell W ⟨g,j,none⟩ v (c0 + 1) (by simp;omega)).trans b,blk_put c j v hv.symm,(Below.heap_setCell W ⟨g,j,none⟩ v h (by simp;omega)).trans d⟩,e1,e2,e3,lS f (by omega)⟩
theorem keepS {u W w' : World} {x : Nat} {a b : Value} (h1 : W.cell? ⟨x,0,none⟩ = some a) (h2 : W.cell? ⟨x,1,none⟩ = some b) (h3 : Aside0 (Below u.heap.size u W)) (hb : Below W.heap.size W w') :
  w'.cell? ⟨x,0,none⟩ = some a ∧ w'.cell? ⟨x,1,none⟩ = some b ∧ Aside0 (Below u.heap.size u w'):=⟨pw_cell_below hb h1,pw_cell_below hb h2,aM (lP h3.out hb)⟩
set_option maxHeartbeats 4000000 in
set_option maxRecDepth 100000 in
theorem bpart_a (k : Nat) (hk : 200 ≤ k) (tb lb : Nat) (line en : Int) (w : World) (ht : w.cell? ⟨tb,0,none⟩ = some (.string ⟨#[120]⟩)) (l0 : w.cell? ⟨lb,0,none⟩ = some (.int .i64 1)) (l1 : w.cell? ⟨lb,1,none⟩ = some (.int .i64 0)) (l2 : w.cell? ⟨lb,2,none⟩ = some (.int .i64 17)) (l3 : w.cell? ⟨lb,3,none⟩ = some (.int .i64 0)) :
  Calls Try.prog 43 #[CodeV tb lb 2 line en,.int .i64 0,.int .i64 2] w fun e w' => e = .returned (.bool true) ∧ Below w.heap.size w w':=by
 have hmf : ∀ (fn : Fn) (first cap : Array Value) (w : World),(Instr.makeFunc fn first cap).run Try.prog w = .ok (.func fn first cap) w:=fun _ _ _ _ => rfl
 have hbt:=World.block_lt_of_cell? w _ ht
 have hbl:=World.block_lt_of_cell? w _ l0
 have HHT:=aM ht;have HL0:=aM l0;have HL1:=aM l1;have HL2:=aM l2;have HL3:=aM l3
 clear ht l0 l1 l2 l3
 have T0:=aM (at_rounds (g:=fun k => impl_takesOf.f k 1 0) (fun k => impl_takesOf.mono _ _ k) hk (show _ = some 0 by decide +kernel))
 have U0:=aM (show impl_putsOf.f 1 0 = some 1 by decide +kernel)
 have T1:=aM (at_rounds (g:=fun k => impl_takesOf.f k 17 0) (fun k => impl_takesOf.mono _ _ k) hk (show _ = some 1 by decide +kernel))
 have U1:=aM (show impl_putsOf.f 17 0 = some 0 by decide +kernel)
 unfold CodeV
 go_enter Try.func43,Try.ntmps43
 go_wp2_with fail
 refine name_world fun W hW => ?_
 have hsz : W.heap.size = w.heap.size + 3:=by rw [← hW];simp
 have e2 : W.heap[w.heap.size+2]? = some (.cells #[.int .i64 (-1)] 3 (0,0)):=by rw [← hW];exact new_at (by simp)
 have e1 : W.heap[w.heap.size+1]? = some (.cells #[.int .i64 0] 3 (0,0)):=by rw [← hW];exact bA (new_at (by simp)) _
 have e0 : W.heap[w.heap.size]? = some (.cells #[.slice (some ⟨tb,0,none⟩) 1 1,.slice (some ⟨lb,0,none⟩) 2 2,.int .i64 0,.int .i64 line,.int .i64 en] 50 (0,0)):=by rw [← hW];exact bA (bA (new_at (by simp)) _) _
 have hB : Below w.heap.size w W:=by rw [← hW];exact lA (lA (lA (Below.refl _ _) _) _) _
 clear hW
 refine (brep3 _ _ e2).mono ?_
 rintro e w1 ⟨g,rfl,hg,hge,hb⟩
 have B1:=aM (hB.trans (hb.mono (by omega)))
 have i0:=aM ((hb.block w.heap.size (by omega)).trans e0)
 have i1:=aM ((hb.block (w.heap.size + 1) (by omega)).trans e1)
 have hs1:=hb.size
 have hgs : g < w1.heap.size:=bL hg
 have hgw : w.heap.size + 3 ≤ g:=by omega
 have hs2 : w.heap.size + 3 ≤ w1.heap.size:=by omega
 have HG:=aM hg
 have g0 : w1.cell? ⟨g,0,none⟩ = some (.int .i64 (-1)):=(bC hg 0).trans rfl
 have gf0:=bF hg 0
 have g1 : w1.cell? ⟨g,1,none⟩ = some (.int .i64 (-1)):=(bC hg 1).trans rfl
 have gf1:=bF hg 1
 have g2 : w1.cell? ⟨g,2,none⟩ = some (.int .i64 (-1)):=(bC hg 2).trans rfl
 have gf2:=bF hg 2
 obtain ⟨a0,a1,a2,a3,a4⟩:=bC5 i0.out
 have b0 : w1.cell? ⟨w.heap.size + 1,0,none⟩ = some (.int .i64 0):=(bC i1.out 0).trans rfl
 clear hsz e2 e1 e0 hB hg hge hb hs1
 have s0 : w.heap.size < w1.heap.size:=by omega
 have s1 : w.heap.size + 1 < w1.heap.size:=by omega
 have lb0 : w1.cell? ⟨lb,0,none⟩ = some (.int .i64 1):=(B1.out.cell (p:=⟨lb,0,none⟩) hbl).trans HL0.out
 have lb1 : w1.cell? ⟨lb,1,none⟩ = some (.int .i64 0):=(B1.out.cell (p:=⟨lb,1,none⟩) hbl).trans HL1.out
 have lb2 : w1.cell? ⟨lb,2,none⟩ = some (.int .i64 17):=(B1.out.cell (p:=⟨lb,2,none⟩) hbl).trans HL2.out
 have lb3 : w1.cell? ⟨lb,3,none⟩ = some (.int .i64 0):=(B1.out.cell (p:=⟨lb,3,none⟩) hbl).trans HL3.out
 have slb : lb < w1.heap.size:=by have:=(B1.out).size;omega
 have n0 : ¬ (lb = g):=by omega
 have n1 : ¬ (g = lb):=by omega
 have n2 : ¬ (w.heap.size = g):=by omega
 have n3 : ¬ (g = w.heap.size):=by omega
 have n4 : ¬ (w.heap.size + 1 = g):=by omega
 have n5 : ¬ (g = w.heap.size + 1):=by omega
 have n6 : ¬ (w1.heap.size = g):=by omega
 have n7 : ¬ (g = w1.heap.size):=by omega
 go_wp2_with fail
 refine wp_loop_rounds 3 ?_
 rw [rounds_succ]
 go_wp2_with fail
 refine name_world fun W0 hW => ?_
 have P0:=aM (show PS w W0 w.heap.size g w1.heap.size #[.slice (some ⟨tb,0,none⟩) 1 1,.slice (some ⟨lb,0,none⟩) 2 2,.int .i64 0,.int .i64 line,.int .i64 en] #[.int .i64 0,.int .i64 (-1),.int .i64 (-1)] 3 from by
  rw [← hW]
  exact PS.alloc ⟨⟨bA ((Below.heap_setCell w1 _ _ _ (by simpa using Nat.ne_of_lt (by omega))).trans i0.out) _,bA ((Below.heap_setCell w1 _ _ _ (by simpa using Nat.ne_of_lt (by omega))).trans i1.out) _,bA (blk_put HG.out 0 _ rfl) _,new_at (by simp)⟩,Nat.le_refl _,by omega,hgs,lA (lS B1.out (by omega)) _⟩ _)
 have X0:=aM (show W0.heap[(w1.heap.size + 1)]? = some (.cells #[.int .i64 1,.int .i64 0] 47 (0,0)) from by rw [← hW];exact new_at (by simp))
 have gX0 : g < (w1.heap.size + 1):=by omega
 clear hW a0 a1 a2 a3 a4 b0 s0 s1 slb g0 gf0 g1 gf1 g2 gf2 lb0 lb1 lb2 lb3
 have tbw : W0.cell? ⟨tb,0,none⟩ = some (.string ⟨#[120]⟩):=(P0.out.2.2.2.2.cell (p:=⟨tb,0,none⟩) hbt).trans HHT.out
 have lw0 : W0.cell? ⟨lb,0,none⟩ = some (.int .i64 1):=(P0.out.2.2.2.2.cell (p:=⟨lb,0,none⟩) hbl).trans HL0.out
 have lw1 : W0.cell? ⟨lb,1,none⟩ = some (.int .i64 0):=(P0.out.2.2.2.2.cell (p:=⟨lb,1,none⟩) hbl).trans HL1.out
 refine (barg_text k hk tb lb 2 0 (by decide) line en 2 W0 tbw lw0 lw1).mono ?_
 rintro e w2 ⟨rfl,hb⟩
 have P1:=aM (P0.out.below hb);have X1:=aM (bB X0.out hb)
 clear hb tbw lw0 lw1 P0 X0
 obtain ⟨a0,a1,a2,a3,a4⟩:=bC5 P1.out.1.1
 have b0 : w2.cell? ⟨w.heap.size + 1,0,none⟩ = some (.int .i64 0):=(bC P1.out.1.2.1 0).trans rfl
 have g0 : w2.cell? ⟨g,0,none⟩ = some (.int .i64 0):=(bC P1.out.1.2.2.1 0).trans rfl
 have gf0:=bF P1.out.1.2.2.1 0
 have g1 : w2.cell? ⟨g,1,none⟩ = some (.int .i64 (-1)):=(bC P1.out.1.2.2.1 1).trans rfl
 have gf1:=bF P1.out.1.2.2.1 1
 have g2 : w2.cell? ⟨g,2,none⟩ = some (.int .i64 (-1)):=(bC P1.out.1.2.2.1 2).trans rfl
 have gf2:=bF P1.out.1.2.2.1 2
 have h0 : w2.cell? ⟨w1.heap.size,0,none⟩ = some (.slice (some ⟨g,0,none⟩) 3 3):=(bC P1.out.1.2.2.2 0).trans rfl
 have s0 : w.heap.size < w2.heap.size:=bL P1.out.1.1
 have s1 : w.heap.size + 1 < w2.heap.size:=bL P1.out.1.2.1
 have sg : g < w2.heap.size:=bL P1.out.1.2.2.1
 have sh : w1.heap.size < w2.heap.size:=bL P1.out.1.2.2.2
 have x0 : w2.cell? ⟨(w1.heap.size + 1),0,none⟩ = some (.int .i64 1):=(bC X1.out 0).trans rfl
 have x1 : w2.cell? ⟨(w1.heap.size + 1),1,none⟩ = some (.int .i64 0):=(bC X1.out 1).trans rfl
 have sx : (w1.heap.size + 1) < w2.heap.size:=bL X1.out
 go_wp2_with fail
 have HB2:=aM (Below.refl w2.heap.size w2)
 go_region_held3 (fun w' => w'.cell? ⟨(w1.heap.size + 1),0,none⟩ = some (.int .i64 1) ∧ w'.cell? ⟨(w1.heap.size + 1),1,none⟩ = some (.int .i64 0) ∧ Aside0 (Below w2.heap.size w2 w'))
  (first|exact ⟨x0,x1,HB2⟩|exact ⟨x0,x1,aM (lD HB2.out)⟩|exact (keepS (W:=w2.drew) x0 x1 (aM (lD HB2.out)) hq1)|(have q_:=keepS (W:=w2.drew) x0 x1 (aM (lD HB2.out)) hq1;exact keepS q_.1 q_.2.1 q_.2.2 hq2))
  (first|(go_at_call 64;refine (impl_takesOf.calls k 1 0 0 _ T0.out).mono ?_;rintro e w3 ⟨rfl,hq1⟩)|(go_at_call 65;refine (impl_putsOf.calls 1 0 1 _ U0.out).mono ?_;rintro e w4 ⟨rfl,hq2⟩))
 have hb4 : Below w2.heap.size w2 w4:=lP (lP (lD HB2.out) hq1) hq2
 have P2:=aM (P1.out.below hb4);have X2:=aM (bB X1.out hb4)
 clear hb4 hq1 hq2 HB2 P1 X1 a0 a1 a2 a3 a4 b0 h0 s0 s1 sg sh g0 gf0 g1 gf1 g2 gf2 x0 x1 sx
 obtain ⟨a0,a1,a2,a3,a4⟩:=bC5 P2.out.1.1
 have b0 : w4.cell? ⟨w.heap.size + 1,0,none⟩ = some (.int .i64 0):=(bC P2.out.1.2.1 0).trans rfl
 have g0 : w4.cell? ⟨g,0,none⟩ = some (.int .i64 0):=(bC P2.out.1.2.2.1 0).trans rfl
 have gf0:=bF P2.out.1.2.2.1 0
 have g1 : w4.cell? ⟨g,1,none⟩ = some (.int .i64 (-1)):=(bC P2.out.1.2.2.1 1).trans rfl
 have gf1:=bF P2.out.1.2.2.1 1
 have g2 : w4.cell? ⟨g,2,none⟩ = some (.int .i64 (-1)):=(bC P2.out.1.2.2.1 2).trans rfl
 have gf2:=bF P2.out.1.2.2.1 2
 have h0 : w4.cell? ⟨w1.heap.size,0,none⟩ = some (.slice (some ⟨g,0,none⟩) 3 3):=(bC P2.out.1.2.2.2 0).trans rfl
 have s0 : w.heap.size < w4.heap.size:=bL P2.out.1.1
 have s1 : w.heap.size + 1 < w4.heap.size:=bL P2.out.1.2.1
 have sg : g < w4.heap.size:=bL P2.out.1.2.2.1
 have sh : w1.heap.size < w4.heap.size:=bL P2.out.1.2.2.2
 have x0 : w4.cell? ⟨(w1.heap.size + 1),0,none⟩ = some (.int .i64 1):=(bC X2.out 0).trans rfl
 have x1 : w4.cell? ⟨(w1.heap.size + 1),1,none⟩ = some (.int .i64 0):=(bC X2.out 1).trans rfl
 have sx : (w1.heap.size + 1) < w4.heap.size:=bL X2.out
 go_wp2_with fail
 refine (impl_takesOf.calls k 1 0 0 _ T0.out).mono ?_
 rintro e w5 ⟨rfl,hb⟩
 have P3:=aM (P2.out.below hb);have X3:=aM (bB X2.out hb)
 clear hb P2 X2 a0 a1 a2 a3 a4 b0 h0 s0 s1 sg sh g0 gf0 g1 gf1 g2 gf2 x0 x1 sx
 obtain ⟨a0,a1,a2,a3,a4⟩:=bC5 P3.out.1.1
 have b0 : w5.cell? ⟨w.heap.size + 1,0,none⟩ = some (.int .i64 0):=(bC P3.out.1.2.1 0).trans rfl
 have g0 : w5.cell? ⟨g,0,none⟩ = some (.int .i64 0):=(bC P3.out.1.2.2.1 0).trans rfl
 have gf0:=bF P3.out.1.2.2.1 0
 have g1 : w5.cell? ⟨g,1,none⟩ = some (.int .i64 (-1)):=(bC P3.out.1.2.2.1 1).trans rfl
 have gf1:=bF P3.out.1.2.2.1 1
 have g2 : w5.cell? ⟨g,2,none⟩ = some (.int .i64 (-1)):=(bC P3.out.1.2.2.1 2).trans rfl
 have gf2:=bF P3.out.1.2.2.1 2
 have h0 : w5.cell? ⟨w1.heap.size,0,none⟩ = some (.slice (some ⟨g,0,none⟩) 3 3):=(bC P3.out.1.2.2.2 0).trans rfl
 have s0 : w.heap.size < w5.heap.size:=bL P3.out.1.1
 have s1 : w.heap.size + 1 < w5.heap.size:=bL P3.out.1.2.1
 have sg : g < w5.heap.size:=bL P3.out.1.2.2.1
 have sh : w1.heap.size < w5.heap.size:=bL P3.out.1.2.2.2
 have x0 : w5.cell? ⟨(w1.heap.size + 1),0,none⟩ = some (.int .i64 1):=(bC X3.out 0).trans rfl
 have x1 : w5.cell? ⟨(w1.heap.size + 1),1,none⟩ = some (.int .i64 0):=(bC X3.out 1).trans rfl
 have sx : (w1.heap.size + 1) < w5.heap.size:=bL X3.out
 go_wp2_with fail
 refine (bcome g w1.heap.size (w.heap.size + 1) 1 3 3 1 (by decide) (by decide) (by decide) (by decide) _ h0 b0 g1 gf1).mono ?_
 rintro e w6 ⟨rfl,h6⟩
 have P4:=aM (show PS w w6 w.heap.size g w1.heap.size #[.slice (some ⟨tb,0,none⟩) 1 1,.slice (some ⟨lb,0,none⟩) 2 2,.int .i64 0,.int .i64 line,.int .i64 en] #[.int .i64 0,.int .i64 1,.int .i64 (-1)] 3 from by rw [← h6];exact P3.out.set 1 _ rfl)
 have X4:=aM (show w6.heap[(w1.heap.size + 1)]? = some (.cells #[.int .i64 1,.int .i64 0] 47 (0,0)) from by rw [← h6];exact (Below.heap_setCell _ _ _ _ (by simpa using Nat.ne_of_gt gX0)).trans X3.out)
 clear h6 P3 X3 a0 a1 a2 a3 a4 b0 h0 s0 s1 sg sh g0 gf0 g1 gf1 g2 gf2 x0 x1 sx
 obtain ⟨a0,a1,a2,a3,a4⟩:=bC5 P4.out.1.1
 have b0 : w6.cell? ⟨w.heap.size + 1,0,none⟩ = some (.int .i64 0):=(bC P4.out.1.2.1 0).trans rfl
 have g0 : w6.cell? ⟨g,0,none⟩ = some (.int .i64 0):=(bC P4.out.1.2.2.1 0).trans rfl
 have gf0:=bF P4.out.1.2.2.1 0
 have g1 : w6.cell? ⟨g,1,none⟩ = some (.int .i64 1):=(bC P4.out.1.2.2.1 1).trans rfl
 have gf1:=bF P4.out.1.2.2.1 1
 have g2 : w6.cell? ⟨g,2,none⟩ = some (.int .i64 (-1)):=(bC P4.out.1.2.2.1 2).trans rfl
 have gf2:=bF P4.out.1.2.2.1 2
 have h0 : w6.cell? ⟨w1.heap.size,0,none⟩ = some (.slice (some ⟨g,0,none⟩) 3 3):=(bC P4.out.1.2.2.2 0).trans rfl
 have s0 : w.heap.size < w6.heap.size:=bL P4.out.1.1
 have s1 : w.heap.size + 1 < w6.heap.size:=bL P4.out.1.2.1
 have sg : g < w6.heap.size:=bL P4.out.1.2.2.1
 have sh : w1.heap.size < w6.heap.size:=bL P4.out.1.2.2.2
 have x0 : w6.cell? ⟨(w1.heap.size + 1),0,none⟩ = some (.int .i64 1):=(bC X4.out 0).trans rfl
 have x1 : w6.cell? ⟨(w1.heap.size + 1),1,none⟩ = some (.int .i64 0):=(bC X4.out 1).trans rfl
 have sx : (w1.heap.size + 1) < w6.heap.size:=bL X4.out
 have lb0 : w6.cell? ⟨lb,0,none⟩ = some (.int .i64 1):=(P4.out.2.2.2.2.cell (p:=⟨lb,0,none⟩) hbl).trans HL0.out
 have lb1 : w6.cell? ⟨lb,1,none⟩ = some (.int .i64 0):=(P4.out.2.2.2.2.cell (p:=⟨lb,1,none⟩) hbl).trans HL1.out
 have lb2 : w6.cell? ⟨lb,2,none⟩ = some (.int .i64 17):=(P4.out.2.2.2.2.cell (p:=⟨lb,2,none⟩) hbl).trans HL2.out
 have lb3 : w6.cell? ⟨lb,3,none⟩ = some (.int .i64 0):=(P4.out.2.2.2.2.cell (p:=⟨lb,3,none⟩) hbl).trans HL3.out
 have slb : lb < w6.heap.size:=by have:=(P4.out.2.2.2.2).size;omega
 go_wp2_with fail
 rw [rounds_succ]
 go_wp2_with fail
 refine name_world fun W1 hW => ?_
 have P10:=aM (show PS w W1 w.heap.size g w1.heap.size #[.slice (some ⟨tb,0,none⟩) 1 1,.slice (some ⟨lb,0,none⟩) 2 2,.int .i64 0,.int .i64 line,.int .i64 en] #[.int .i64 0,.int .i64 1,.int .i64 (-1)] 3 from by rw [← hW];exact P4.out.alloc _)
 have X10:=aM (show W1.heap[w6.heap.size]? = some (.cells #[.int .i64 17,.int .i64 0] 47 (0,0)) from by rw [← hW];exact new_at (by simp))
 have gX1 : g < w6.heap.size:=by omega
 clear hW a0 a1 a2 a3 a4 b0 h0 s0 s1 sg sh g0 gf0 g1 gf1 g2 gf2 x0 x1 sx slb lb0 lb1 lb2 lb3
 have tbw : W1.cell? ⟨tb,0,none⟩ = some (.string ⟨#[120]⟩):=(P10.out.2.2.2.2.cell (p:=⟨tb,0,none⟩) hbt).trans HHT.out
 have lw0 : W1.cell? ⟨lb,2,none⟩ = some (.int .i64 17):=(P10.out.2.2.2.2.cell (p:=⟨lb,2,none⟩) hbl).trans HL2.out
 have lw1 : W1.cell? ⟨lb,3,none⟩ = some (.int .i64 0):=(P10.out.2.2.2.2.cell (p:=⟨lb,3,none⟩) hbl).trans HL3.out
 refine (barg_set k hk tb lb 2 1 (by decide) line en 2 W1 tbw lw0 lw1).mono ?_
 rintro e w7 ⟨rfl,hb⟩
 have P11:=aM (P10.out.below hb);have X11:=aM (bB X10.out hb)
 clear hb tbw lw0 lw1 P10 X10
 obtain ⟨a0,a1,a2,a3,a4⟩:=bC5 P11.out.1.1
 have b0 : w7.cell? ⟨w.heap.size + 1,0,none⟩ = some (.int .i64 0):=(bC P11.out.1.2.1 0).trans rfl
 have g0 : w7.cell? ⟨g,0,none⟩ = some (.int .i64 0):=(bC P11.out.1.2.2.1 0).trans rfl
 have gf0:=bF P11.out.1.2.2.1 0
 have g1 : w7.cell? ⟨g,1,none⟩ = some (.int .i64 1):=(bC P11.out.1.2.2.1 1).trans rfl
 have gf1:=bF P11.out.1.2.2.1 1
 have g2 : w7.cell? ⟨g,2,none⟩ = some (.int .i64 (-1)):=(bC P11.out.1.2.2.1 2).trans rfl
 have gf2:=bF P11.out.1.2.2.1 2
 have h0 : w7.cell? ⟨w1.heap.size,0,none⟩ = some (.slice (some ⟨g,0,none⟩) 3 3):=(bC P11.out.1.2.2.2 0).trans rfl
 have s0 : w.heap.size < w7.heap.size:=bL P11.out.1.1
 have s1 : w.heap.size + 1 < w7.heap.size:=bL P11.out.1.2.1
 have sg : g < w7.heap.size:=bL P11.out.1.2.2.1
 have sh : w1.heap.size < w7.heap.size:=bL P11.out.1.2.2.2
 have x0 : w7.cell? ⟨w6.heap.size,0,none⟩ = some (.int .i64 17):=(bC X11.out 0).trans rfl
 have x1 : w7.cell? ⟨w6.heap.size,1,none⟩ = some (.int .i64 0):=(bC X11.out 1).trans rfl
 have sx : w6.heap.size < w7.heap.size:=bL X11.out
 go_wp2_with fail
 have HB2:=aM (Below.refl w7.heap.size w7)
 go_region_held3 (fun w' => w'.cell? ⟨w6.heap.size,0,none⟩ = some (.int .i64 17) ∧ w'.cell? ⟨w6.heap.size,1,none⟩ = some (.int .i64 0) ∧ Aside0 (Below w7.heap.size w7 w'))
  (first|exact ⟨x0,x1,HB2⟩|exact ⟨x0,x1,aM (lD HB2.out)⟩|exact (keepS (W:=w7.drew) x0 x1 (aM (lD HB2.out)) hq1)|(have q_:=keepS (W:=w7.drew) x0 x1 (aM (lD HB2.out)) hq1;exact keepS q_.1 q_.2.1 q_.2.2 hq2))
  (first|(go_at_call 64;refine (impl_takesOf.calls k 17 0 1 _ T1.out).mono ?_;rintro e w8 ⟨rfl,hq1⟩)|(go_at_call 65;refine (impl_putsOf.calls 17 0 0 _ U1.out).mono ?_;rintro e w9 ⟨rfl,hq2⟩))
 have hb4 : Below w7.heap.size w7 w9:=lP (lP (lD HB2.out) hq1) hq2
 have P12:=aM (P11.out.below hb4);have X12:=aM (bB X11.out hb4)
 clear hb4 hq1 hq2 HB2 P11 X11 a0 a1 a2 a3 a4 b0 h0 s0 s1 sg sh g0 gf0 g1 gf1 g2 gf2 x0 x1 sx
 obtain ⟨a0,a1,a2,a3,a4⟩:=bC5 P12.out.1.1
 have b0 : w9.cell? ⟨w.heap.size + 1,0,none⟩ = some (.int .i64 0):=(bC P12.out.1.2.1 0).trans rfl
 have g0 : w9.cell? ⟨g,0,none⟩ = some (.int .i64 0):=(bC P12.out.1.2.2.1 0).trans rfl
 have gf0:=bF P12.out.1.2.2.1 0
 have g1 : w9.cell? ⟨g,1,none⟩ = some (.int .i64 1):=(bC P12.out.1.2.2.1 1).trans rfl
 have gf1:=bF P12.out.1.2.2.1 1
 have g2 : w9.cell? ⟨g,2,none⟩ = some (.int .i64 (-1)):=(bC P12.out.1.2.2.1 2).trans rfl
 have gf2:=bF P12.out.1.2.2.1 2
 have h0 : w9.cell? ⟨w1.heap.size,0,none⟩ = some (.slice (some ⟨g,0,none⟩) 3 3):=(bC P12.out.1.2.2.2 0).trans rfl
 have s0 : w.heap.size < w9.heap.size:=bL P12.out.1.1
 have s1 : w.heap.size + 1 < w9.heap.size:=bL P12.out.1.2.1
 have sg : g < w9.heap.size:=bL P12.out.1.2.2.1
 have sh : w1.heap.size < w9.heap.size:=bL P12.out.1.2.2.2
 have x0 : w9.cell? ⟨w6.heap.size,0,none⟩ = some (.int .i64 17):=(bC X12.out 0).trans rfl
 have x1 : w9.cell? ⟨w6.heap.size,1,none⟩ = some (.int .i64 0):=(bC X12.out 1).trans rfl
 have sx : w6.heap.size < w9.heap.size:=bL X12.out
 go_wp2_with fail
 refine (impl_takesOf.calls k 17 0 1 _ T1.out).mono ?_
 rintro e w10 ⟨rfl,hb⟩
 have P13:=aM (P12.out.below hb);have X13:=aM (bB X12.out hb)
 clear hb P12 X12 a0 a1 a2 a3 a4 b0 h0 s0 s1 sg sh g0 gf0 g1 gf1 g2 gf2 x0 x1 sx
 obtain ⟨a0,a1,a2,a3,a4⟩:=bC5 P13.out.1.1
 have b0 : w10.cell? ⟨w.heap.size + 1,0,none⟩ = some (.int .i64 0):=(bC P13.out.1.2.1 0).trans rfl
 have g0 : w10.cell? ⟨g,0,none⟩ = some (.int .i64 0):=(bC P13.out.1.2.2.1 0).trans rfl
 have gf0:=bF P13.out.1.2.2.1 0
 have g1 : w10.cell? ⟨g,1,none⟩ = some (.int .i64 1):=(bC P13.out.1.2.2.1 1).trans rfl
 have gf1:=bF P13.out.1.2.2.1 1
 have g2 : w10.cell? ⟨g,2,none⟩ = some (.int .i64 (-1)):=(bC P13.out.1.2.2.1 2).trans rfl
 have gf2:=bF P13.out.1.2.2.1 2
 have h0 : w10.cell? ⟨w1.heap.size,0,none⟩ = some (.slice (some ⟨g,0,none⟩) 3 3):=(bC P13.out.1.2.2.2 0).trans rfl
 have s0 : w.heap.size < w10.heap.size:=bL P13.out.1.1
 have s1 : w.heap.size + 1 < w10.heap.size:=bL P13.out.1.2.1
 have sg : g < w10.heap.size:=bL P13.out.1.2.2.1
 have sh : w1.heap.size < w10.heap.size:=bL P13.out.1.2.2.2
 have x0 : w10.cell? ⟨w6.heap.size,0,none⟩ = some (.int .i64 17):=(bC X13.out 0).trans rfl
 have x1 : w10.cell? ⟨w6.heap.size,1,none⟩ = some (.int .i64 0):=(bC X13.out 1).trans rfl
 have sx : w6.heap.size < w10.heap.size:=bL X13.out
 go_wp2_with fail
 refine (bcome g w1.heap.size (w.heap.size + 1) 2 3 3 0 (by decide) (by decide) (by decide) (by decide) _ h0 b0 g2 gf2).mono ?_
 rintro e w11 ⟨rfl,h6⟩
 have P14:=aM (show PS w w11 w.heap.size g w1.heap.size #[.slice (some ⟨tb,0,none⟩) 1 1,.slice (some ⟨lb,0,none⟩) 2 2,.int .i64 0,.int .i64 line,.int .i64 en] #[.int .i64 0,.int .i64 1,.int .i64 0] 3 from by rw [← h6];exact P13.out.set 2 _ rfl)
 have X14:=aM (show w11.heap[w6.heap.size]? = some (.cells #[.int .i64 17,.int .i64 0] 47 (0,0)) from by rw [← h6];exact (Below.heap_setCell _ _ _ _ (by simpa using Nat.ne_of_gt gX1)).trans X13.out)
 clear h6 P13 X13 a0 a1 a2 a3 a4 b0 h0 s0 s1 sg sh g0 gf0 g1 gf1 g2 gf2 x0 x1 sx
 obtain ⟨a0,a1,a2,a3,a4⟩:=bC5 P14.out.1.1
 have b0 : w11.cell? ⟨w.heap.size + 1,0,none⟩ = some (.int .i64 0):=(bC P14.out.1.2.1 0).trans rfl
 have g0 : w11.cell? ⟨g,0,none⟩ = some (.int .i64 0):=(bC P14.out.1.2.2.1 0).trans rfl
 have gf0:=bF P14.out.1.2.2.1 0
 have g1 : w11.cell? ⟨g,1,none⟩ = some (.int .i64 1):=(bC P14.out.1.2.2.1 1).trans rfl
 have gf1:=bF P14.out.1.2.2.1 1
 have g2 : w11.cell? ⟨g,2,none⟩ = some (.int .i64 0):=(bC P14.out.1.2.2.1 2).trans rfl
 have gf2:=bF P14.out.1.2.2.1 2
 have h0 : w11.cell? ⟨w1.heap.size,0,none⟩ = some (.slice (some ⟨g,0,none⟩) 3 3):=(bC P14.out.1.2.2.2 0).trans rfl
 have s0 : w.heap.size < w11.heap.size:=bL P14.out.1.1
 have s1 : w.heap.size + 1 < w11.heap.size:=bL P14.out.1.2.1
 have sg : g < w11.heap.size:=bL P14.out.1.2.2.1
 have sh : w1.heap.size < w11.heap.size:=bL P14.out.1.2.2.2
 have x0 : w11.cell? ⟨w6.heap.size,0,none⟩ = some (.int .i64 17):=(bC X14.out 0).trans rfl
 have x1 : w11.cell? ⟨w6.heap.size,1,none⟩ = some (.int .i64 0):=(bC X14.out 1).trans rfl
 have sx : w6.heap.size < w11.heap.size:=bL X14.out
 have lb0 : w11.cell? ⟨lb,0,none⟩ = some (.int .i64 1):=(P14.out.2.2.2.2.cell (p:=⟨lb,0,none⟩) hbl).trans HL0.out
 have lb1 : w11.cell? ⟨lb,1,none⟩ = some (.int .i64 0):=(P14.out.2.2.2.2.cell (p:=⟨lb,1,none⟩) hbl).trans HL1.out
 have lb2 : w11.cell? ⟨lb,2,none⟩ = some (.int .i64 17):=(P14.out.2.2.2.2.cell (p:=⟨lb,2,none⟩) hbl).trans HL2.out
 have lb3 : w11.cell? ⟨lb,3,none⟩ = some (.int .i64 0):=(P14.out.2.2.2.2.cell (p:=⟨lb,3,none⟩) hbl).trans HL3.out
 have slb : lb < w11.heap.size:=by have:=(P14.out.2.2.2.2).size;omega
 go_wp2_with fail
 rw [rounds_succ]
 go_wp2
 go_ret
 exact ⟨rfl,P14.out.2.2.2.2⟩
set_option maxHeartbeats 4000000 in
set_option maxRecDepth 100000 in
theorem bpart_b (k : Nat) (hk : 200 ≤ k) (tb lb : Nat) (line en : Int) (w : World) (ht : w.cell? ⟨tb,0,none⟩ = some (.string ⟨#[120]⟩)) (l0 : w.cell? ⟨lb,0,none⟩ = some (.int .i64 17)) (l1 : w.cell? ⟨lb,1,none⟩ = some (.int .i64 0)) :
  Calls Try.prog 43 #[CodeV tb lb 1 line en,.int .i64 0,.int .i64 1] w fun e w' => e = .returned (.bool false) ∧ Below w.heap.size w w':=by
 have hmf : ∀ (fn : Fn) (first cap : Array Value) (w : World),(Instr.makeFunc fn first cap).run Try.prog w = .ok (.func fn first cap) w:=fun _ _ _ _ => rfl
 have hbt:=World.block_lt_of_cell? w _ ht
 have hbl:=World.block_lt_of_cell? w _ l0
 have HHT:=aM ht;have HL0:=aM l0;have HL1:=aM l1
 clear ht l0 l1
 have T0:=aM (at_rounds (g:=fun k => impl_takesOf.f k 17 0) (fun k => impl_takesOf.mono _ _ k) hk (show _ = some 1 by decide +kernel))
 have U0:=aM (show impl_putsOf.f 17 0 = some 0 by decide +kernel)
 unfold CodeV
 go_enter Try.func43,Try.ntmps43
 go_wp2_with fail
 refine name_world fun W hW => ?_
 have hsz : W.heap.size = w.heap.size + 3:=by rw [← hW];simp
 have e2 : W.heap[w.heap.size+2]? = some (.cells #[.int .i64 (-1)] 3 (0,0)):=by rw [← hW];exact new_at (by simp)
 have e1 : W.heap[w.heap.size+1]? = some (.cells #[.int .i64 0] 3 (0,0)):=by rw [← hW];exact bA (new_at (by simp)) _
 have e0 : W.heap[w.heap.size]? = some (.cells #[.slice (some ⟨tb,0,none⟩) 1 1,.slice (some ⟨lb,0,none⟩) 1 1,.int .i64 0,.int .i64 line,.int .i64 en] 50 (0,0)):=by rw [← hW];exact bA (bA (new_at (by simp)) _) _
 have hB : Below w.heap.size w W:=by rw [← hW];exact lA (lA (lA (Below.refl _ _) _) _) _
 clear hW
 refine (brep2 _ _ e2).mono ?_
 rintro e w1 ⟨g,rfl,hg,hge,hb⟩
 have B1:=aM (hB.trans (hb.mono (by omega)))
 have i0:=aM ((hb.block w.heap.size (by omega)).trans e0)
 have i1:=aM ((hb.block (w.heap.size + 1) (by omega)).trans e1)
 have hs1:=hb.size
 have hgs : g < w1.heap.size:=bL hg
 have hgw : w.heap.size + 3 ≤ g:=by omega
 have hs2 : w.heap.size + 3 ≤ w1.heap.size:=by omega
 have HG:=aM hg
 have g0 : w1.cell? ⟨g,0,none⟩ = some (.int .i64 (-1)):=(bC hg 0).trans rfl
 have gf0:=bF hg 0
 have g1 : w1.cell? ⟨g,1,none⟩ = some (.int .i64 (-1)):=(bC hg 1).trans rfl
 have gf1:=bF hg 1
 obtain ⟨a0,a1,a2,a3,a4⟩:=bC5 i0.out
 have b0 : w1.cell? ⟨w.heap.size + 1,0,none⟩ = some (.int .i64 0):=(bC i1.out 0).trans rfl
 clear hsz e2 e1 e0 hB hg hge hb hs1
 have s0 : w.heap.size < w1.heap.size:=by omega
 have s1 : w.heap.size + 1 < w1.heap.size:=by omega
 have lb0 : w1.cell? ⟨lb,0,none⟩ = some (.int .i64 17):=(B1.out.cell (p:=⟨lb,0,none⟩) hbl).trans HL0.out
 have lb1 : w1.cell? ⟨lb,1,none⟩ = some (.int .i64 0):=(B1.out.cell (p:=⟨lb,1,none⟩) hbl).trans HL1.out
 have slb : lb < w1.heap.size:=by have:=(B1.out).size;omega
 have n0 : ¬ (lb = g):=by omega
 have n1 : ¬ (g = lb):=by omega
 have n2 : ¬ (w.heap.size = g):=by omega
 have n3 : ¬ (g = w.heap.size):=by omega
 have n4 : ¬ (w.heap.size + 1 = g):=by omega
 have n5 : ¬ (g = w.heap.size + 1):=by omega
 have n6 : ¬ (w1.heap.size = g):=by omega
 have n7 : ¬ (g = w1.heap.size):=by omega
 go_wp2_with fail
 refine wp_loop_rounds 2 ?_
 rw [rounds_succ]
 go_wp2_with fail
 refine name_world fun W0 hW => ?_
 have P0:=aM (show PS w W0 w.heap.size g w1.heap.size #[.slice (some ⟨tb,0,none⟩) 1 1,.slice (some ⟨lb,0,none⟩) 1 1,.int .i64 0,.int .i64 line,.int .i64 en] #[.int .i64 0,.int .i64 (-1)] 2 from by
  rw [← hW]
  exact PS.alloc ⟨⟨bA ((Below.heap_setCell w1 _ _ _ (by simpa using Nat.ne_of_lt (by omega))).trans i0.out) _,bA ((Below.heap_setCell w1 _ _ _ (by simpa using Nat.ne_of_lt (by omega))).trans i1.out) _,bA (blk_put HG.out 0 _ rfl) _,new_at (by simp)⟩,Nat.le_refl _,by omega,hgs,lA (lS B1.out (by omega)) _⟩ _)
 have X0:=aM (show W0.heap[(w1.heap.size + 1)]? = some (.cells #[.int .i64 17,.int .i64 0] 47 (0,0)) from by rw [← hW];exact new_at (by simp))
 have gX0 : g < (w1.heap.size + 1):=by omega
 clear hW a0 a1 a2 a3 a4 b0 s0 s1 slb g0 gf0 g1 gf1 lb0 lb1
 have tbw : W0.cell? ⟨tb,0,none⟩ = some (.string ⟨#[120]⟩):=(P0.out.2.2.2.2.cell (p:=⟨tb,0,none⟩) hbt).trans HHT.out
 have lw0 : W0.cell? ⟨lb,0,none⟩ = some (.int .i64 17):=(P0.out.2.2.2.2.cell (p:=⟨lb,0,none⟩) hbl).trans HL0.out
 have lw1 : W0.cell? ⟨lb,1,none⟩ = some (.int .i64 0):=(P0.out.2.2.2.2.cell (p:=⟨lb,1,none⟩) hbl).trans HL1.out
 refine (barg_set k hk tb lb 1 0 (by decide) line en 1 W0 tbw lw0 lw1).mono ?_
 rintro e w2 ⟨rfl,hb⟩
 have P1:=aM (P0.out.below hb);have X1:=aM (bB X0.out hb)
 clear hb tbw lw0 lw1 P0 X0
 obtain ⟨a0,a1,a2,a3,a4⟩:=bC5 P1.out.1.1
 have b0 : w2.cell? ⟨w.heap.size + 1,0,none⟩ = some (.int .i64 0):=(bC P1.out.1.2.1 0).trans rfl
 have g0 : w2.cell? ⟨g,0,none⟩ = some (.int .i64 0):=(bC P1.out.1.2.2.1 0).trans rfl
 have gf0:=bF P1.out.1.2.2.1 0
 have g1 : w2.cell? ⟨g,1,none⟩ = some (.int .i64 (-1)):=(bC P1.out.1.2.2.1 1).trans rfl
 have gf1:=bF P1.out.1.2.2.1 1
 have h0 : w2.cell? ⟨w1.heap.size,0,none⟩ = some (.slice (some ⟨g,0,none⟩) 2 2):=(bC P1.out.1.2.2.2 0).trans rfl
 have s0 : w.heap.size < w2.heap.size:=bL P1.out.1.1
 have s1 : w.heap.size + 1 < w2.heap.size:=bL P1.out.1.2.1
 have sg : g < w2.heap.size:=bL P1.out.1.2.2.1
 have sh : w1.heap.size < w2.heap.size:=bL P1.out.1.2.2.2
 have x0 : w2.cell? ⟨(w1.heap.size + 1),0,none⟩ = some (.int .i64 17):=(bC X1.out 0).trans rfl
 have x1 : w2.cell? ⟨(w1.heap.size + 1),1,none⟩ = some (.int .i64 0):=(bC X1.out 1).trans rfl
 have sx : (w1.heap.size + 1) < w2.heap.size:=bL X1.out
 go_wp2_with fail
 have HB2:=aM (Below.refl w2.heap.size w2)
 go_region_held3 (fun w' => w'.cell? ⟨(w1.heap.size + 1),0,none⟩ = some (.int .i64 17) ∧ w'.cell? ⟨(w1.heap.size + 1),1,none⟩ = some (.int .i64 0) ∧ Aside0 (Below w2.heap.size w2 w'))
  (first|exact ⟨x0,x1,HB2⟩|exact ⟨x0,x1,aM (lD HB2.out)⟩|exact (keepS (W:=w2.drew) x0 x1 (aM (lD HB2.out)) hq1)|(have q_:=keepS (W:=w2.drew) x0 x1 (aM (lD HB2.out)) hq1;exact keepS q_.1 q_.2.1 q_.2.2 hq2))
  (first|(go_at_call 64;refine (impl_takesOf.calls k 17 0 1 _ T0.out).mono ?_;rintro e w3 ⟨rfl,hq1⟩)|(go_at_call 65;refine (impl_putsOf.calls 17 0 0 _ U0.out).mono ?_;rintro e w4 ⟨rfl,hq2⟩))
 have hb4 : Below w2.heap.size w2 w4:=lP (lP (lD HB2.out) hq1) hq2
 have P2:=aM (P1.out.below hb4);have X2:=aM (bB X1.out hb4)
 clear hb4 hq1 hq2 HB2 P1 X1 a0 a1 a2 a3 a4 b0 h0 s0 s1 sg sh g0 gf0 g1 gf1 x0 x1 sx
 obtain ⟨a0,a1,a2,a3,a4⟩:=bC5 P2.out.1.1
 have b0 : w4.cell? ⟨w.heap.size + 1,0,none⟩ = some (.int .i64 0):=(bC P2.out.1.2.1 0).trans rfl
 have g0 : w4.cell? ⟨g,0,none⟩ = some (.int .i64 0):=(bC P2.out.1.2.2.1 0).trans rfl
 have gf0:=bF P2.out.1.2.2.1 0
 have g1 : w4.cell? ⟨g,1,none⟩ = some (.int .i64 (-1)):=(bC P2.out.1.2.2.1 1).trans rfl
 have gf1:=bF P2.out.1.2.2.1 1
 have h0 : w4.cell? ⟨w1.heap.size,0,none⟩ = some (.slice (some ⟨g,0,none⟩) 2 2):=(bC P2.out.1.2.2.2 0).trans rfl
 have s0 : w.heap.size < w4.heap.size:=bL P2.out.1.1
 have s1 : w.heap.size + 1 < w4.heap.size:=bL P2.out.1.2.1
 have sg : g < w4.heap.size:=bL P2.out.1.2.2.1
 have sh : w1.heap.size < w4.heap.size:=bL P2.out.1.2.2.2
 have x0 : w4.cell? ⟨(w1.heap.size + 1),0,none⟩ = some (.int .i64 17):=(bC X2.out 0).trans rfl
 have x1 : w4.cell? ⟨(w1.heap.size + 1),1,none⟩ = some (.int .i64 0):=(bC X2.out 1).trans rfl
 have sx : (w1.heap.size + 1) < w4.heap.size:=bL X2.out
 go_wp2_with fail
 refine (impl_takesOf.calls k 17 0 1 _ T0.out).mono ?_
 rintro e w5 ⟨rfl,hb⟩
 have P3:=aM (P2.out.below hb);have X3:=aM (bB X2.out hb)
 clear hb P2 X2 a0 a1 a2 a3 a4 b0 h0 s0 s1 sg sh g0 gf0 g1 gf1 x0 x1 sx
 obtain ⟨a0,a1,a2,a3,a4⟩:=bC5 P3.out.1.1
 have b0 : w5.cell? ⟨w.heap.size + 1,0,none⟩ = some (.int .i64 0):=(bC P3.out.1.2.1 0).trans rfl
 have g0 : w5.cell? ⟨g,0,none⟩ = some (.int .i64 0):=(bC P3.out.1.2.2.1 0).trans rfl
 have gf0:=bF P3.out.1.2.2.1 0
 have g1 : w5.cell? ⟨g,1,none⟩ = some (.int .i64 (-1)):=(bC P3.out.1.2.2.1 1).trans rfl
 have gf1:=bF P3.out.1.2.2.1 1
 have h0 : w5.cell? ⟨w1.heap.size,0,none⟩ = some (.slice (some ⟨g,0,none⟩) 2 2):=(bC P3.out.1.2.2.2 0).trans rfl
 have s0 : w.heap.size < w5.heap.size:=bL P3.out.1.1
 have s1 : w.heap.size + 1 < w5.heap.size:=bL P3.out.1.2.1
 have sg : g < w5.heap.size:=bL P3.out.1.2.2.1
 have sh : w1.heap.size < w5.heap.size:=bL P3.out.1.2.2.2
 have x0 : w5.cell? ⟨(w1.heap.size + 1),0,none⟩ = some (.int .i64 17):=(bC X3.out 0).trans rfl
 have x1 : w5.cell? ⟨(w1.heap.size + 1),1,none⟩ = some (.int .i64 0):=(bC X3.out 1).trans rfl
 have sx : (w1.heap.size + 1) < w5.heap.size:=bL X3.out
 go_wp2
 go_ret
 exact ⟨rfl,P3.out.2.2.2.2⟩
set_option maxHeartbeats 4000000 in
set_option maxRecDepth 100000 in
theorem bpart_d (k : Nat) (hk : 200 ≤ k) (tb lb : Nat) (line en : Int) (w : World) (ht : w.cell? ⟨tb,0,none⟩ = some (.string ⟨#[120]⟩)) (l0 : w.cell? ⟨lb,0,none⟩ = some (.int .i64 1)) (l1 : w.cell? ⟨lb,1,none⟩ = some (.int .i64 0)) :
  Calls Try.prog 43 #[CodeV tb lb 1 line en,.int .i64 0,.int .i64 1] w fun e w' => e = .returned (.bool false) ∧ Below w.heap.size w w':=by
 have hmf : ∀ (fn : Fn) (first cap : Array Value) (w : World),(Instr.makeFunc fn first cap).run Try.prog w = .ok (.func fn first cap) w:=fun _ _ _ _ => rfl
 have hbt:=World.block_lt_of_cell? w _ ht
 have hbl:=World.block_lt_of_cell? w _ l0
 have HHT:=aM ht;have HL0:=aM l0;have HL1:=aM l1
 clear ht l0 l1
 have T0:=aM (at_rounds (g:=fun k => impl_takesOf.f k 1 0) (fun k => impl_takesOf.mono _ _ k) hk (show _ = some 0 by decide +kernel))
 have U0:=aM (show impl_putsOf.f 1 0 = some 1 by decide +kernel)
 unfold CodeV
 go_enter Try.func43,Try.ntmps43
 go_wp2_with fail
 refine name_world fun W hW => ?_
 have hsz : W.heap.size = w.heap.size + 3:=by rw [← hW];simp
 have e2 : W.heap[w.heap.size+2]? = some (.cells #[.int .i64 (-1)] 3 (0,0)):=by rw [← hW];exact new_at (by simp)
 have e1 : W.heap[w.heap.size+1]? = some (.cells #[.int .i64 0] 3 (0,0)):=by rw [← hW];exact bA (new_at (by simp)) _
 have e0 : W.heap[w.heap.size]? = some (.cells #[.slice (some ⟨tb,0,none⟩) 1 1,.slice (some ⟨lb,0,none⟩) 1 1,.int .i64 0,.int .i64 line,.int .i64 en] 50 (0,0)):=by rw [← hW];exact bA (bA (new_at (by simp)) _) _
 have hB : Below w.heap.size w W:=by rw [← hW];exact lA (lA (lA (Below.refl _ _) _) _) _
 clear hW
 refine (brep2 _ _ e2).mono ?_
 rintro e w1 ⟨g,rfl,hg,hge,hb⟩
 have B1:=aM (hB.trans (hb.mono (by omega)))
 have i0:=aM ((hb.block w.heap.size (by omega)).trans e0)
 have i1:=aM ((hb.block (w.heap.size + 1) (by omega)).trans e1)
 have hs1:=hb.size
 have hgs : g < w1.heap.size:=bL hg
 have hgw : w.heap.size + 3 ≤ g:=by omega
 have hs2 : w.heap.size + 3 ≤ w1.heap.size:=by omega
 have HG:=aM hg
 have g0 : w1.cell? ⟨g,0,none⟩ = some (.int .i64 (-1)):=(bC hg 0).trans rfl
 have gf0:=bF hg 0
 have g1 : w1.cell? ⟨g,1,none⟩ = some (.int .i64 (-1)):=(bC hg 1).trans rfl
 have gf1:=bF hg 1
 obtain ⟨a0,a1,a2,a3,a4⟩:=bC5 i0.out
 have b0 : w1.cell? ⟨w.heap.size + 1,0,none⟩ = some (.int .i64 0):=(bC i1.out 0).trans rfl
 clear hsz e2 e1 e0 hB hg hge hb hs1
 have s0 : w.heap.size < w1.heap.size:=by omega
 have s1 : w.heap.size + 1 < w1.heap.size:=by omega
 have lb0 : w1.cell? ⟨lb,0,none⟩ = some (.int .i64 1):=(B1.out.cell (p:=⟨lb,0,none⟩) hbl).trans HL0.out
 have lb1 : w1.cell? ⟨lb,1,none⟩ = some (.int .i64 0):=(B1.out.cell (p:=⟨lb,1,none⟩) hbl).trans HL1.out
 have slb : lb < w1.heap.size:=by have:=(B1.out).size;omega
 have n0 : ¬ (lb = g):=by omega
 have n1 : ¬ (g = lb):=by omega
 have n2 : ¬ (w.heap.size = g):=by omega
 have n3 : ¬ (g = w.heap.size):=by omega
 have n4 : ¬ (w.heap.size + 1 = g):=by omega
 have n5 : ¬ (g = w.heap.size + 1):=by omega
 have n6 : ¬ (w1.heap.size = g):=by omega
 have n7 : ¬ (g = w1.heap.size):=by omega
 go_wp2_with fail
 refine wp_loop_rounds 2 ?_
 rw [rounds_succ]
 go_wp2_with fail
 refine name_world fun W0 hW => ?_
 have P0:=aM (show PS w W0 w.heap.size g w1.heap.size #[.slice (some ⟨tb,0,none⟩) 1 1,.slice (some ⟨lb,0,none⟩) 1 1,.int .i64 0,.int .i64 line,.int .i64 en] #[.int .i64 0,.int .i64 (-1)] 2 from by
  rw [← hW]
  exact PS.alloc ⟨⟨bA ((Below.heap_setCell w1 _ _ _ (by simpa using Nat.ne_of_lt (by omega))).trans i0.out) _,bA ((Below.heap_setCell w1 _ _ _ (by simpa using Nat.ne_of_lt (by omega))).trans i1.out) _,bA (blk_put HG.out 0 _ rfl) _,new_at (by simp)⟩,Nat.le_refl _,by omega,hgs,lA (lS B1.out (by omega)) _⟩ _)
 have X0:=aM (show W0.heap[(w1.heap.size + 1)]? = some (.cells #[.int .i64 1,.int .i64 0] 47 (0,0)) from by rw [← hW];exact new_at (by simp))
 have gX0 : g < (w1.heap.size + 1):=by omega
 clear hW a0 a1 a2 a3 a4 b0 s0 s1 slb g0 gf0 g1 gf1 lb0 lb1
 have tbw : W0.cell? ⟨tb,0,none⟩ = some (.string ⟨#[120]⟩):=(P0.out.2.2.2.2.cell (p:=⟨tb,0,none⟩) hbt).trans HHT.out
 have lw0 : W0.cell? ⟨lb,0,none⟩ = some (.int .i64 1):=(P0.out.2.2.2.2.cell (p:=⟨lb,0,none⟩) hbl).trans HL0.out
 have lw1 : W0.cell? ⟨lb,1,none⟩ = some (.int .i64 0):=(P0.out.2.2.2.2.cell (p:=⟨lb,1,none⟩) hbl).trans HL1.out
 refine (barg_text k hk tb lb 1 0 (by decide) line en 1 W0 tbw lw0 lw1).mono ?_
 rintro e w2 ⟨rfl,hb⟩
 have P1:=aM (P0.out.below hb);have X1:=aM (bB X0.out hb)
 clear hb tbw lw0 lw1 P0 X0
 obtain ⟨a0,a1,a2,a3,a4⟩:=bC5 P1.out.1.1
 have b0 : w2.cell? ⟨w.heap.size + 1,0,none⟩ = some (.int .i64 0):=(bC P1.out.1.2.1 0).trans rfl
 have g0 : w2.cell? ⟨g,0,none⟩ = some (.int .i64 0):=(bC P1.out.1.2.2.1 0).trans rfl
 have gf0:=bF P1.out.1.2.2.1 0
 have g1 : w2.cell? ⟨g,1,none⟩ = some (.int .i64 (-1)):=(bC P1.out.1.2.2.1 1).trans rfl
 have gf1:=bF P1.out.1.2.2.1 1
 have h0 : w2.cell? ⟨w1.heap.size,0,none⟩ = some (.slice (some ⟨g,0,none⟩) 2 2):=(bC P1.out.1.2.2.2 0).trans rfl
 have s0 : w.heap.size < w2.heap.size:=bL P1.out.1.1
 have s1 : w.heap.size + 1 < w2.heap.size:=bL P1.out.1.2.1
 have sg : g < w2.heap.size:=bL P1.out.1.2.2.1
 have sh : w1.heap.size < w2.heap.size:=bL P1.out.1.2.2.2
 have x0 : w2.cell? ⟨(w1.heap.size + 1),0,none⟩ = some (.int .i64 1):=(bC X1.out 0).trans rfl
 have x1 : w2.cell? ⟨(w1.heap.size + 1),1,none⟩ = some (.int .i64 0):=(bC X1.out 1).trans rfl
 have sx : (w1.heap.size + 1) < w2.heap.size:=bL X1.out
 go_wp2_with fail
 have HB2:=aM (Below.refl w2.heap.size w2)
 go_region_held3 (fun w' => w'.cell? ⟨(w1.heap.size + 1),0,none⟩ = some (.int .i64 1) ∧ w'.cell? ⟨(w1.heap.size + 1),1,none⟩ = some (.int .i64 0) ∧ Aside0 (Below w2.heap.size w2 w'))
  (first|exact ⟨x0,x1,HB2⟩|exact ⟨x0,x1,aM (lD HB2.out)⟩|exact (keepS (W:=w2.drew) x0 x1 (aM (lD HB2.out)) hq1)|(have q_:=keepS (W:=w2.drew) x0 x1 (aM (lD HB2.out)) hq1;exact keepS q_.1 q_.2.1 q_.2.2 hq2))
  (first|(go_at_call 64;refine (impl_takesOf.calls k 1 0 0 _ T0.out).mono ?_;rintro e w3 ⟨rfl,hq1⟩)|(go_at_call 65;refine (impl_putsOf.calls 1 0 1 _ U0.out).mono ?_;rintro e w4 ⟨rfl,hq2⟩))
 have hb4 : Below w2.heap.size w2 w4:=lP (lP (lD HB2.out) hq1) hq2
 have P2:=aM (P1.out.below hb4);have X2:=aM (bB X1.out hb4)
 clear hb4 hq1 hq2 HB2 P1 X1 a0 a1 a2 a3 a4 b0 h0 s0 s1 sg sh g0 gf0 g1 gf1 x0 x1 sx
 obtain ⟨a0,a1,a2,a3,a4⟩:=bC5 P2.out.1.1
 have b0 : w4.cell? ⟨w.heap.size + 1,0,none⟩ = some (.int .i64 0):=(bC P2.out.1.2.1 0).trans rfl
 have g0 : w4.cell? ⟨g,0,none⟩ = some (.int .i64 0):=(bC P2.out.1.2.2.1 0).trans rfl
 have gf0:=bF P2.out.1.2.2.1 0
 have g1 : w4.cell? ⟨g,1,none⟩ = some (.int .i64 (-1)):=(bC P2.out.1.2.2.1 1).trans rfl
 have gf1:=bF P2.out.1.2.2.1 1
 have h0 : w4.cell? ⟨w1.heap.size,0,none⟩ = some (.slice (some ⟨g,0,none⟩) 2 2):=(bC P2.out.1.2.2.2 0).trans rfl
 have s0 : w.heap.size < w4.heap.size:=bL P2.out.1.1
 have s1 : w.heap.size + 1 < w4.heap.size:=bL P2.out.1.2.1
 have sg : g < w4.heap.size:=bL P2.out.1.2.2.1
 have sh : w1.heap.size < w4.heap.size:=bL P2.out.1.2.2.2
 have x0 : w4.cell? ⟨(w1.heap.size + 1),0,none⟩ = some (.int .i64 1):=(bC X2.out 0).trans rfl
 have x1 : w4.cell? ⟨(w1.heap.size + 1),1,none⟩ = some (.int .i64 0):=(bC X2.out 1).trans rfl
 have sx : (w1.heap.size + 1) < w4.heap.size:=bL X2.out
 go_wp2_with fail
 refine (impl_takesOf.calls k 1 0 0 _ T0.out).mono ?_
 rintro e w5 ⟨rfl,hb⟩
 have P3:=aM (P2.out.below hb);have X3:=aM (bB X2.out hb)
 clear hb P2 X2 a0 a1 a2 a3 a4 b0 h0 s0 s1 sg sh g0 gf0 g1 gf1 x0 x1 sx
 obtain ⟨a0,a1,a2,a3,a4⟩:=bC5 P3.out.1.1
 have b0 : w5.cell? ⟨w.heap.size + 1,0,none⟩ = some (.int .i64 0):=(bC P3.out.1.2.1 0).trans rfl
 have g0 : w5.cell? ⟨g,0,none⟩ = some (.int .i64 0):=(bC P3.out.1.2.2.1 0).trans rfl
 have gf0:=bF P3.out.1.2.2.1 0
 have g1 : w5.cell? ⟨g,1,none⟩ = some (.int .i64 (-1)):=(bC P3.out.1.2.2.1 1).trans rfl
 have gf1:=bF P3.out.1.2.2.1 1
 have h0 : w5.cell? ⟨w1.heap.size,0,none⟩ = some (.slice (some ⟨g,0,none⟩) 2 2):=(bC P3.out.1.2.2.2 0).trans rfl
 have s0 : w.heap.size < w5.heap.size:=bL P3.out.1.1
 have s1 : w.heap.size + 1 < w5.heap.size:=bL P3.out.1.2.1
 have sg : g < w5.heap.size:=bL P3.out.1.2.2.1
 have sh : w1.heap.size < w5.heap.size:=bL P3.out.1.2.2.2
 have x0 : w5.cell? ⟨(w1.heap.size + 1),0,none⟩ = some (.int .i64 1):=(bC X3.out 0).trans rfl
 have x1 : w5.cell? ⟨(w1.heap.size + 1),1,none⟩ = some (.int .i64 0):=(bC X3.out 1).trans rfl
 have sx : (w1.heap.size + 1) < w5.heap.size:=bL X3.out
 go_wp2_with fail
 refine (bcome g w1.heap.size (w.heap.size + 1) 1 2 2 1 (by decide) (by decide) (by decide) (by decide) _ h0 b0 g1 gf1).mono ?_
 rintro e w6 ⟨rfl,h6⟩
 have P4:=aM (show PS w w6 w.heap.size g w1.heap.size #[.slice (some ⟨tb,0,none⟩) 1 1,.slice (some ⟨lb,0,none⟩) 1 1,.int .i64 0,.int .i64 line,.int .i64 en] #[.int .i64 0,.int .i64 1] 2 from by rw [← h6];exact P3.out.set 1 _ rfl)
 have X4:=aM (show w6.heap[(w1.heap.size + 1)]? = some (.cells #[.int .i64 1,.int .i64 0] 47 (0,0)) from by rw [← h6];exact (Below.heap_setCell _ _ _ _ (by simpa using Nat.ne_of_gt gX0)).trans X3.out)
 clear h6 P3 X3 a0 a1 a2 a3 a4 b0 h0 s0 s1 sg sh g0 gf0 g1 gf1 x0 x1 sx
 obtain ⟨a0,a1,a2,a3,a4⟩:=bC5 P4.out.1.1
 have b0 : w6.cell? ⟨w.heap.size + 1,0,none⟩ = some (.int .i64 0):=(bC P4.out.1.2.1 0).trans rfl
 have g0 : w6.cell? ⟨g,0,none⟩ = some (.int .i64 0):=(bC P4.out.1.2.2.1 0).trans rfl
 have gf0:=bF P4.out.1.2.2.1 0
 have g1 : w6.cell? ⟨g,1,none⟩ = some (.int .i64 1):=(bC P4.out.1.2.2.1 1).trans rfl
 have gf1:=bF P4.out.1.2.2.1 1
 have h0 : w6.cell? ⟨w1.heap.size,0,none⟩ = some (.slice (some ⟨g,0,none⟩) 2 2):=(bC P4.out.1.2.2.2 0).trans rfl
 have s0 : w.heap.size < w6.heap.size:=bL P4.out.1.1
 have s1 : w.heap.size + 1 < w6.heap.size:=bL P4.out.1.2.1
 have sg : g < w6.heap.size:=bL P4.out.1.2.2.1
 have sh : w1.heap.size < w6.heap.size:=bL P4.out.1.2.2.2
 have x0 : w6.cell? ⟨(w1.heap.size + 1),0,none⟩ = some (.int .i64 1):=(bC X4.out 0).trans rfl
 have x1 : w6.cell? ⟨(w1.heap.size + 1),1,none⟩ = some (.int .i64 0):=(bC X4.out 1).trans rfl
 have sx : (w1.heap.size + 1) < w6.heap.size:=bL X4.out
 have lb0 : w6.cell? ⟨lb,0,none⟩ = some (.int .i64 1):=(P4.out.2.2.2.2.cell (p:=⟨lb,0,none⟩) hbl).trans HL0.out
 have lb1 : w6.cell? ⟨lb,1,none⟩ = some (.int .i64 0):=(P4.out.2.2.2.2.cell (p:=⟨lb,1,none⟩) hbl).trans HL1.out
 have slb : lb < w6.heap.size:=by have:=(P4.out.2.2.2.2).size;omega
 go_wp2_with fail
 rw [rounds_succ]
 go_wp2
 go_ret
 exact ⟨rfl,P4.out.2.2.2.2⟩
set_option maxHeartbeats 4000000 in
set_option maxRecDepth 100000 in
theorem bpart_e (k : Nat) (hk : 200 ≤ k) (tb lb : Nat) (line en : Int) (w : World) (ht : w.cell? ⟨tb,0,none⟩ = some (.string ⟨#[120]⟩)) (l0 : w.cell? ⟨lb,0,none⟩ = some (.int .i64 1)) (l1 : w.cell? ⟨lb,1,none⟩ = some (.int .i64 0)) (l2 : w.cell? ⟨lb,2,none⟩ = some (.int .i64 21)) (l3 : w.cell? ⟨lb,3,none⟩ = some (.int .i64 0)) :
  Calls Try.prog 43 #[CodeV tb lb 2 line en,.int .i64 0,.int .i64 2] w fun e w' => e = .returned (.bool false) ∧ Below w.heap.size w w':=by
 have hmf : ∀ (fn : Fn) (first cap : Array Value) (w : World),(Instr.makeFunc fn first cap).run Try.prog w = .ok (.func fn first cap) w:=fun _ _ _ _ => rfl
 have hbt:=World.block_lt_of_cell? w _ ht
 have hbl:=World.block_lt_of_cell? w _ l0
 have HHT:=aM ht;have HL0:=aM l0;have HL1:=aM l1;have HL2:=aM l2;have HL3:=aM l3
 clear ht l0 l1 l2 l3
 have T0:=aM (at_rounds (g:=fun k => impl_takesOf.f k 1 0) (fun k => impl_takesOf.mono _ _ k) hk (show _ = some 0 by decide +kernel))
 have U0:=aM (show impl_putsOf.f 1 0 = some 1 by decide +kernel)
 unfold CodeV
 go_enter Try.func43,Try.ntmps43
 go_wp2_with fail
 refine name_world fun W hW => ?_
 have hsz : W.heap.size = w.heap.size + 3:=by rw [← hW];simp
 have e2 : W.heap[w.heap.size+2]? = some (.cells #[.int .i64 (-1)] 3 (0,0)):=by rw [← hW];exact new_at (by simp)
 have e1 : W.heap[w.heap.size+1]? = some (.cells #[.int .i64 0] 3 (0,0)):=by rw [← hW];exact bA (new_at (by simp)) _
 have e0 : W.heap[w.heap.size]? = some (.cells #[.slice (some ⟨tb,0,none⟩) 1 1,.slice (some ⟨lb,0,none⟩) 2 2,.int .i64 0,.int .i64 line,.int .i64 en] 50 (0,0)):=by rw [← hW];exact bA (bA (new_at (by simp)) _) _
 have hB : Below w.heap.size w W:=by rw [← hW];exact lA (lA (lA (Below.refl _ _) _) _) _
 clear hW
 refine (brep3 _ _ e2).mono ?_
 rintro e w1 ⟨g,rfl,hg,hge,hb⟩
 have B1:=aM (hB.trans (hb.mono (by omega)))
 have i0:=aM ((hb.block w.heap.size (by omega)).trans e0)
 have i1:=aM ((hb.block (w.heap.size + 1) (by omega)).trans e1)
 have hs1:=hb.size
 have hgs : g < w1.heap.size:=bL hg
 have hgw : w.heap.size + 3 ≤ g:=by omega
 have hs2 : w.heap.size + 3 ≤ w1.heap.size:=by omega
 have HG:=aM hg
 have g0 : w1.cell? ⟨g,0,none⟩ = some (.int .i64 (-1)):=(bC hg 0).trans rfl
 have gf0:=bF hg 0
 have g1 : w1.cell? ⟨g,1,none⟩ = some (.int .i64 (-1)):=(bC hg 1).trans rfl
 have gf1:=bF hg 1
 have g2 : w1.cell? ⟨g,2,none⟩ = some (.int .i64 (-1)):=(bC hg 2).trans rfl
 have gf2:=bF hg 2
 obtain ⟨a0,a1,a2,a3,a4⟩:=bC5 i0.out
 have b0 : w1.cell? ⟨w.heap.size + 1,0,none⟩ = some (.int .i64 0):=(bC i1.out 0).trans rfl
 clear hsz e2 e1 e0 hB hg hge hb hs1
 have s0 : w.heap.size < w1.heap.size:=by omega
 have s1 : w.heap.size + 1 < w1.heap.size:=by omega
 have lb0 : w1.cell? ⟨lb,0,none⟩ = some (.int .i64 1):=(B1.out.cell (p:=⟨lb,0,none⟩) hbl).trans HL0.out
 have lb1 : w1.cell? ⟨lb,1,none⟩ = some (.int .i64 0):=(B1.out.cell (p:=⟨lb,1,none⟩) hbl).trans HL1.out
 have lb2 : w1.cell? ⟨lb,2,none⟩ = some (.int .i64 21):=(B1.out.cell (p:=⟨lb,2,none⟩) hbl).trans HL2.out
 have lb3 : w1.cell? ⟨lb,3,none⟩ = some (.int .i64 0):=(B1.out.cell (p:=⟨lb,3,none⟩) hbl).trans HL3.out
 have slb : lb < w1.heap.size:=by have:=(B1.out).size;omega
 have n0 : ¬ (lb = g):=by omega
 have n1 : ¬ (g = lb):=by omega
 have n2 : ¬ (w.heap.size = g):=by omega
 have n3 : ¬ (g = w.heap.size):=by omega
 have n4 : ¬ (w.heap.size + 1 = g):=by omega
 have n5 : ¬ (g = w.heap.size + 1):=by omega
 have n6 : ¬ (w1.heap.size = g):=by omega
 have n7 : ¬ (g = w1.heap.size):=by omega
 go_wp2_with fail
 refine wp_loop_rounds 3 ?_
 rw [rounds_succ]
 go_wp2_with fail
 refine name_world fun W0 hW => ?_
 have P0:=aM (show PS w W0 w.heap.size g w1.heap.size #[.slice (some ⟨tb,0,none⟩) 1 1,.slice (some ⟨lb,0,none⟩) 2 2,.int .i64 0,.int .i64 line,.int .i64 en] #[.int .i64 0,.int .i64 (-1),.int .i64 (-1)] 3 from by
  rw [← hW]
  exact PS.alloc ⟨⟨bA ((Below.heap_setCell w1 _ _ _ (by simpa using Nat.ne_of_lt (by omega))).trans i0.out) _,bA ((Below.heap_setCell w1 _ _ _ (by simpa using Nat.ne_of_lt (by omega))).trans i1.out) _,bA (blk_put HG.out 0 _ rfl) _,new_at (by simp)⟩,Nat.le_refl _,by omega,hgs,lA (lS B1.out (by omega)) _⟩ _)
 have X0:=aM (show W0.heap[(w1.heap.size + 1)]? = some (.cells #[.int .i64 1,.int .i64 0] 47 (0,0)) from by rw [← hW];exact new_at (by simp))
 have gX0 : g < (w1.heap.size + 1):=by omega
 clear hW a0 a1 a2 a3 a4 b0 s0 s1 slb g0 gf0 g1 gf1 g2 gf2 lb0 lb1 lb2 lb3
 have tbw : W0.cell? ⟨tb,0,none⟩ = some (.string ⟨#[120]⟩):=(P0.out.2.2.2.2.cell (p:=⟨tb,0,none⟩) hbt).trans HHT.out
 have lw0 : W0.cell? ⟨lb,0,none⟩ = some (.int .i64 1):=(P0.out.2.2.2.2.cell (p:=⟨lb,0,none⟩) hbl).trans HL0.out
 have lw1 : W0.cell? ⟨lb,1,none⟩ = some (.int .i64 0):=(P0.out.2.2.2.2.cell (p:=⟨lb,1,none⟩) hbl).trans HL1.out
 refine (barg_text k hk tb lb 2 0 (by decide) line en 2 W0 tbw lw0 lw1).mono ?_
 rintro e w2 ⟨rfl,hb⟩
 have P1:=aM (P0.out.below hb);have X1:=aM (bB X0.out hb)
 clear hb tbw lw0 lw1 P0 X0
 obtain ⟨a0,a1,a2,a3,a4⟩:=bC5 P1.out.1.1
 have b0 : w2.cell? ⟨w.heap.size + 1,0,none⟩ = some (.int .i64 0):=(bC P1.out.1.2.1 0).trans rfl
 have g0 : w2.cell? ⟨g,0,none⟩ = some (.int .i64 0):=(bC P1.out.1.2.2.1 0).trans rfl
 have gf0:=bF P1.out.1.2.2.1 0
 have g1 : w2.cell? ⟨g,1,none⟩ = some (.int .i64 (-1)):=(bC P1.out.1.2.2.1 1).trans rfl
 have gf1:=bF P1.out.1.2.2.1 1
 have g2 : w2.cell? ⟨g,2,none⟩ = some (.int .i64 (-1)):=(bC P1.out.1.2.2.1 2).trans rfl
 have gf2:=bF P1.out.1.2.2.1 2
 have h0 : w2.cell? ⟨w1.heap.size,0,none⟩ = some (.slice (some ⟨g,0,none⟩) 3 3):=(bC P1.out.1.2.2.2 0).trans rfl
 have s0 : w.heap.size < w2.heap.size:=bL P1.out.1.1
 have s1 : w.heap.size + 1 < w2.heap.size:=bL P1.out.1.2.1
 have sg : g < w2.heap.size:=bL P1.out.1.2.2.1
 have sh : w1.heap.size < w2.heap.size:=bL P1.out.1.2.2.2
 have x0 : w2.cell? ⟨(w1.heap.size + 1),0,none⟩ = some (.int .i64 1):=(bC X1.out 0).trans rfl
 have x1 : w2.cell? ⟨(w1.heap.size + 1),1,none⟩ = some (.int .i64 0):=(bC X1.out 1).trans rfl
 have sx : (w1.heap.size + 1) < w2.heap.size:=bL X1.out
 go_wp2_with fail
 have HB2:=aM (Below.refl w2.heap.size w2)
 go_region_held3 (fun w' => w'.cell? ⟨(w1.heap.size + 1),0,none⟩ = some (.int .i64 1) ∧ w'.cell? ⟨(w1.heap.size + 1),1,none⟩ = some (.int .i64 0) ∧ Aside0 (Below w2.heap.size w2 w'))
  (first|exact ⟨x0,x1,HB2⟩|exact ⟨x0,x1,aM (lD HB2.out)⟩|exact (keepS (W:=w2.drew) x0 x1 (aM (lD HB2.out)) hq1)|(have q_:=keepS (W:=w2.drew) x0 x1 (aM (lD HB2.out)) hq1;exact keepS q_.1 q_.2.1 q_.2.2 hq2))
  (first|(go_at_call 64;refine (impl_takesOf.calls k 1 0 0 _ T0.out).mono ?_;rintro e w3 ⟨rfl,hq1⟩)|(go_at_call 65;refine (impl_putsOf.calls 1 0 1 _ U0.out).mono ?_;rintro e w4 ⟨rfl,hq2⟩))
 have hb4 : Below w2.heap.size w2 w4:=lP (lP (lD HB2.out) hq1) hq2
 have P2:=aM (P1.out.below hb4);have X2:=aM (bB X1.out hb4)
 clear hb4 hq1 hq2 HB2 P1 X1 a0 a1 a2 a3 a4 b0 h0 s0 s1 sg sh g0 gf0 g1 gf1 g2 gf2 x0 x1 sx
 obtain ⟨a0,a1,a2,a3,a4⟩:=bC5 P2.out.1.1
 have b0 : w4.cell? ⟨w.heap.size + 1,0,none⟩ = some (.int .i64 0):=(bC P2.out.1.2.1 0).trans rfl
 have g0 : w4.cell? ⟨g,0,none⟩ = some (.int .i64 0):=(bC P2.out.1.2.2.1 0).trans rfl
 have gf0:=bF P2.out.1.2.2.1 0
 have g1 : w4.cell? ⟨g,1,none⟩ = some (.int .i64 (-1)):=(bC P2.out.1.2.2.1 1).trans rfl
 have gf1:=bF P2.out.1.2.2.1 1
 have g2 : w4.cell? ⟨g,2,none⟩ = some (.int .i64 (-1)):=(bC P2.out.1.2.2.1 2).trans rfl
 have gf2:=bF P2.out.1.2.2.1 2
 have h0 : w4.cell? ⟨w1.heap.size,0,none⟩ = some (.slice (some ⟨g,0,none⟩) 3 3):=(bC P2.out.1.2.2.2 0).trans rfl
 have s0 : w.heap.size < w4.heap.size:=bL P2.out.1.1
 have s1 : w.heap.size + 1 < w4.heap.size:=bL P2.out.1.2.1
 have sg : g < w4.heap.size:=bL P2.out.1.2.2.1
 have sh : w1.heap.size < w4.heap.size:=bL P2.out.1.2.2.2
 have x0 : w4.cell? ⟨(w1.heap.size + 1),0,none⟩ = some (.int .i64 1):=(bC X2.out 0).trans rfl
 have x1 : w4.cell? ⟨(w1.heap.size + 1),1,none⟩ = some (.int .i64 0):=(bC X2.out 1).trans rfl
 have sx : (w1.heap.size + 1) < w4.heap.size:=bL X2.out
 go_wp2_with fail
 refine (impl_takesOf.calls k 1 0 0 _ T0.out).mono ?_
 rintro e w5 ⟨rfl,hb⟩
 have P3:=aM (P2.out.below hb);have X3:=aM (bB X2.out hb)
 clear hb P2 X2 a0 a1 a2 a3 a4 b0 h0 s0 s1 sg sh g0 gf0 g1 gf1 g2 gf2 x0 x1 sx
 obtain ⟨a0,a1,a2,a3,a4⟩:=bC5 P3.out.1.1
 have b0 : w5.cell? ⟨w.heap.size + 1,0,none⟩ = some (.int .i64 0):=(bC P3.out.1.2.1 0).trans rfl
 have g0 : w5.cell? ⟨g,0,none⟩ = some (.int .i64 0):=(bC P3.out.1.2.2.1 0).trans rfl
 have gf0:=bF P3.out.1.2.2.1 0
 have g1 : w5.cell? ⟨g,1,none⟩ = some (.int .i64 (-1)):=(bC P3.out.1.2.2.1 1).trans rfl
 have gf1:=bF P3.out.1.2.2.1 1
 have g2 : w5.cell? ⟨g,2,none⟩ = some (.int .i64 (-1)):=(bC P3.out.1.2.2.1 2).trans rfl
 have gf2:=bF P3.out.1.2.2.1 2
 have h0 : w5.cell? ⟨w1.heap.size,0,none⟩ = some (.slice (some ⟨g,0,none⟩) 3 3):=(bC P3.out.1.2.2.2 0).trans rfl
 have s0 : w.heap.size < w5.heap.size:=bL P3.out.1.1
 have s1 : w.heap.size + 1 < w5.heap.size:=bL P3.out.1.2.1
 have sg : g < w5.heap.size:=bL P3.out.1.2.2.1
 have sh : w1.heap.size < w5.heap.size:=bL P3.out.1.2.2.2
 have x0 : w5.cell? ⟨(w1.heap.size + 1),0,none⟩ = some (.int .i64 1):=(bC X3.out 0).trans rfl
 have x1 : w5.cell? ⟨(w1.heap.size + 1),1,none⟩ = some (.int .i64 0):=(bC X3.out 1).trans rfl
 have sx : (w1.heap.size + 1) < w5.heap.size:=bL X3.out
 go_wp2_with fail
 refine (bcome g w1.heap.size (w.heap.size + 1) 1 3 3 1 (by decide) (by decide) (by decide) (by decide) _ h0 b0 g1 gf1).mono ?_
 rintro e w6 ⟨rfl,h6⟩
 have P4:=aM (show PS w w6 w.heap.size g w1.heap.size #[.slice (some ⟨tb,0,none⟩) 1 1,.slice (some ⟨lb,0,none⟩) 2 2,.int .i64 0,.int .i64 line,.int .i64 en] #[.int .i64 0,.int .i64 1,.int .i64 (-1)] 3 from by rw [← h6];exact P3.out.set 1 _ rfl)
 have X4:=aM (show w6.heap[(w1.heap.size + 1)]? = some (.cells #[.int .i64 1,.int .i64 0] 47 (0,0)) from by rw [← h6];exact (Below.heap_setCell _ _ _ _ (by simpa using Nat.ne_of_gt gX0)).trans X3.out)
 clear h6 P3 X3 a0 a1 a2 a3 a4 b0 h0 s0 s1 sg sh g0 gf0 g1 gf1 g2 gf2 x0 x1 sx
 obtain ⟨a0,a1,a2,a3,a4⟩:=bC5 P4.out.1.1
 have b0 : w6.cell? ⟨w.heap.size + 1,0,none⟩ = some (.int .i64 0):=(bC P4.out.1.2.1 0).trans rfl
 have g0 : w6.cell? ⟨g,0,none⟩ = some (.int .i64 0):=(bC P4.out.1.2.2.1 0).trans rfl
 have gf0:=bF P4.out.1.2.2.1 0
 have g1 : w6.cell? ⟨g,1,none⟩ = some (.int .i64 1):=(bC P4.out.1.2.2.1 1).trans rfl
 have gf1:=bF P4.out.1.2.2.1 1
 have g2 : w6.cell? ⟨g,2,none⟩ = some (.int .i64 (-1)):=(bC P4.out.1.2.2.1 2).trans rfl
 have gf2:=bF P4.out.1.2.2.1 2
 have h0 : w6.cell? ⟨w1.heap.size,0,none⟩ = some (.slice (some ⟨g,0,none⟩) 3 3):=(bC P4.out.1.2.2.2 0).trans rfl
 have s0 : w.heap.size < w6.heap.size:=bL P4.out.1.1
 have s1 : w.heap.size + 1 < w6.heap.size:=bL P4.out.1.2.1
 have sg : g < w6.heap.size:=bL P4.out.1.2.2.1
 have sh : w1.heap.size < w6.heap.size:=bL P4.out.1.2.2.2
 have x0 : w6.cell? ⟨(w1.heap.size + 1),0,none⟩ = some (.int .i64 1):=(bC X4.out 0).trans rfl
 have x1 : w6.cell? ⟨(w1.heap.size + 1),1,none⟩ = some (.int .i64 0):=(bC X4.out 1).trans rfl
 have sx : (w1.heap.size + 1) < w6.heap.size:=bL X4.out
 have lb0 : w6.cell? ⟨lb,0,none⟩ = some (.int .i64 1):=(P4.out.2.2.2.2.cell (p:=⟨lb,0,none⟩) hbl).trans HL0.out
 have lb1 : w6.cell? ⟨lb,1,none⟩ = some (.int .i64 0):=(P4.out.2.2.2.2.cell (p:=⟨lb,1,none⟩) hbl).trans HL1.out
 have lb2 : w6.cell? ⟨lb,2,none⟩ = some (.int .i64 21):=(P4.out.2.2.2.2.cell (p:=⟨lb,2,none⟩) hbl).trans HL2.out
 have lb3 : w6.cell? ⟨lb,3,none⟩ = some (.int .i64 0):=(P4.out.2.2.2.2.cell (p:=⟨lb,3,none⟩) hbl).trans HL3.out
 have slb : lb < w6.heap.size:=by have:=(P4.out.2.2.2.2).size;omega
 go_wp2_with fail
 rw [rounds_succ]
 go_wp2_with fail
 refine name_world fun W1 hW => ?_
 have P10:=aM (show PS w W1 w.heap.size g w1.heap.size #[.slice (some ⟨tb,0,none⟩) 1 1,.slice (some ⟨lb,0,none⟩) 2 2,.int .i64 0,.int .i64 line,.int .i64 en] #[.int .i64 0,.int .i64 1,.int .i64 (-1)] 3 from by rw [← hW];exact P4.out.alloc _)
 have X10:=aM (show W1.heap[w6.heap.size]? = some (.cells #[.int .i64 21,.int .i64 0] 47 (0,0)) from by rw [← hW];exact new_at (by simp))
 have gX1 : g < w6.heap.size:=by omega
 clear hW a0 a1 a2 a3 a4 b0 h0 s0 s1 sg sh g0 gf0 g1 gf1 g2 gf2 x0 x1 sx slb lb0 lb1 lb2 lb3
 have tbw : W1.cell? ⟨tb,0,none⟩ = some (.string ⟨#[120]⟩):=(P10.out.2.2.2.2.cell (p:=⟨tb,0,none⟩) hbt).trans HHT.out
 have lw0 : W1.cell? ⟨lb,2,none⟩ = some (.int .i64 21):=(P10.out.2.2.2.2.cell (p:=⟨lb,2,none⟩) hbl).trans HL2.out
 have lw1 : W1.cell? ⟨lb,3,none⟩ = some (.int .i64 0):=(P10.out.2.2.2.2.cell (p:=⟨lb,3,none⟩) hbl).trans HL3.out
 refine (barg_zero tb lb 2 (by decide) line en 2 W1 lw0 lw1).mono ?_
 rintro e w7 ⟨rfl,hb⟩
 have F:=aM (P10.out.below hb)
 clear hb tbw lw0 lw1
 go_wp2
 go_ret
 exact ⟨rfl,F.out.2.2.2.2⟩
set_option maxHeartbeats 4000000 in
set_option maxRecDepth 100000 in
theorem bpart_f (k : Nat) (hk : 200 ≤ k) (tb lb : Nat) (line en : Int) (a : Int) (ha : 1 ≤ a) (w : World) (ht : w.cell? ⟨tb,0,none⟩ = some (.string ⟨#[120]⟩)) (l0 : w.cell? ⟨lb,0,none⟩ = some (.int .i64 1)) (l1 : w.cell? ⟨lb,1,none⟩ = some (.int .i64 0)) (l2 : w.cell? ⟨lb,2,none⟩ = some (.int .i64 17)) (l3 : w.cell? ⟨lb,3,none⟩ = some (.int .i64 a)) :
  Calls Try.prog 43 #[CodeV tb lb 2 line en,.int .i64 0,.int .i64 2] w fun e w' => e = .returned (.bool false) ∧ Below w.heap.size w w':=by
 have hmf : ∀ (fn : Fn) (first cap : Array Value) (w : World),(Instr.makeFunc fn first cap).run Try.prog w = .ok (.func fn first cap) w:=fun _ _ _ _ => rfl
 have hbt:=World.block_lt_of_cell? w _ ht
 have hbl:=World.block_lt_of_cell? w _ l0
 have HHT:=aM ht;have HL0:=aM l0;have HL1:=aM l1;have HL2:=aM l2;have HL3:=aM l3;have HA:=aM ha
 clear ht l0 l1 l2 l3 ha
 have T0:=aM (at_rounds (g:=fun k => impl_takesOf.f k 1 0) (fun k => impl_takesOf.mono _ _ k) hk (show _ = some 0 by decide +kernel))
 have U0:=aM (show impl_putsOf.f 1 0 = some 1 by decide +kernel)
 unfold CodeV
 go_enter Try.func43,Try.ntmps43
 go_wp2_with fail
 refine name_world fun W hW => ?_
 have hsz : W.heap.size = w.heap.size + 3:=by rw [← hW];simp
 have e2 : W.heap[w.heap.size+2]? = some (.cells #[.int .i64 (-1)] 3 (0,0)):=by rw [← hW];exact new_at (by simp)
 have e1 : W.heap[w.heap.size+1]? = some (.cells #[.int .i64 0] 3 (0,0)):=by rw [← hW];exact bA (new_at (by simp)) _
 have e0 : W.heap[w.heap.size]? = some (.cells #[.slice (some ⟨tb,0,none⟩) 1 1,.slice (some ⟨lb,0,none⟩) 2 2,.int .i64 0,.int .i64 line,.int .i64 en] 50 (0,0)):=by rw [← hW];exact bA (bA (new_at (by simp)) _) _
 have hB : Below w.heap.size w W:=by rw [← hW];exact lA (lA (lA (Below.refl _ _) _) _) _
 clear hW
 refine (brep3 _ _ e2).mono ?_
 rintro e w1 ⟨g,rfl,hg,hge,hb⟩
 have B1:=aM (hB.trans (hb.mono (by omega)))
 have i0:=aM ((hb.block w.heap.size (by omega)).trans e0)
 have i1:=aM ((hb.block (w.heap.size + 1) (by omega)).trans e1)
 have hs1:=hb.size
 have hgs : g < w1.heap.size:=bL hg
 have hgw : w.heap.size + 3 ≤ g:=by omega
 have hs2 : w.heap.size + 3 ≤ w1.heap.size:=by omega
 have HG:=aM hg
 have g0 : w1.cell? ⟨g,0,none⟩ = some (.int .i64 (-1)):=(bC hg 0).trans rfl
 have gf0:=bF hg 0
 have g1 : w1.cell? ⟨g,1,none⟩ = some (.int .i64 (-1)):=(bC hg 1).trans rfl
 have gf1:=bF hg 1
 have g2 : w1.cell? ⟨g,2,none⟩ = some (.int .i64 (-1)):=(bC hg 2).trans rfl
 have gf2:=bF hg 2
 obtain ⟨a0,a1,a2,a3,a4⟩:=bC5 i0.out
 have b0 : w1.cell? ⟨w.heap.size + 1,0,none⟩ = some (.int .i64 0):=(bC i1.out 0).trans rfl
 clear hsz e2 e1 e0 hB hg hge hb hs1
 have s0 : w.heap.size < w1.heap.size:=by omega
 have s1 : w.heap.size + 1 < w1.heap.size:=by omega
 have lb0 : w1.cell? ⟨lb,0,none⟩ = some (.int .i64 1):=(B1.out.cell (p:=⟨lb,0,none⟩) hbl).trans HL0.out
 have lb1 : w1.cell? ⟨lb,1,none⟩ = some (.int .i64 0):=(B1.out.cell (p:=⟨lb,1,none⟩) hbl).trans HL1.out
 have lb2 : w1.cell? ⟨lb,2,none⟩ = some (.int .i64 17):=(B1.out.cell (p:=⟨lb,2,none⟩) hbl).trans HL2.out
 have lb3 : w1.cell? ⟨lb,3,none⟩ = some (.int .i64 a):=(B1.out.cell (p:=⟨lb,3,none⟩) hbl).trans HL3.out
 have slb : lb < w1.heap.size:=by have:=(B1.out).size;omega
 have n0 : ¬ (lb = g):=by omega
 have n1 : ¬ (g = lb):=by omega
 have n2 : ¬ (w.heap.size = g):=by omega
 have n3 : ¬ (g = w.heap.size):=by omega
 have n4 : ¬ (w.heap.size + 1 = g):=by omega
 have n5 : ¬ (g = w.heap.size + 1):=by omega
 have n6 : ¬ (w1.heap.size = g):=by omega
 have n7 : ¬ (g = w1.heap.size):=by omega
 go_wp2_with fail
 refine wp_loop_rounds 3 ?_
 rw [rounds_succ]
 go_wp2_with fail
 refine name_world fun W0 hW => ?_
 have P0:=aM (show PS w W0 w.heap.size g w1.heap.size #[.slice (some ⟨tb,0,none⟩) 1 1,.slice (some ⟨lb,0,none⟩) 2 2,.int .i64 0,.int .i64 line,.int .i64 en] #[.int .i64 0,.int .i64 (-1),.int .i64 (-1)] 3 from by
  rw [← hW]
  exact PS.alloc ⟨⟨bA ((Below.heap_setCell w1 _ _ _ (by simpa using Nat.ne_of_lt (by omega))).trans i0.out) _,bA ((Below.heap_setCell w1 _ _ _ (by simpa using Nat.ne_of_lt (by omega))).trans i1.out) _,bA (blk_put HG.out 0 _ rfl) _,new_at (by simp)⟩,Nat.le_refl _,by omega,hgs,lA (lS B1.out (by omega)) _⟩ _)
 have X0:=aM (show W0.heap[(w1.heap.size + 1)]? = some (.cells #[.int .i64 1,.int .i64 0] 47 (0,0)) from by rw [← hW];exact new_at (by simp))
 have gX0 : g < (w1.heap.size + 1):=by omega
 clear hW a0 a1 a2 a3 a4 b0 s0 s1 slb g0 gf0 g1 gf1 g2 gf2 lb0 lb1 lb2 lb3
 have tbw : W0.cell? ⟨tb,0,none⟩ = some (.string ⟨#[120]⟩):=(P0.out.2.2.2.2.cell (p:=⟨tb,0,none⟩) hbt).trans HHT.out
 have lw0 : W0.cell? ⟨lb,0,none⟩ = some (.int .i64 1):=(P0.out.2.2.2.2.cell (p:=⟨lb,0,none⟩) hbl).trans HL0.out
 have lw1 : W0.cell? ⟨lb,1,none⟩ = some (.int .i64 0):=(P0.out.2.2.2.2.cell (p:=⟨lb,1,none⟩) hbl).trans HL1.out
 refine (barg_text k hk tb lb 2 0 (by decide) line en 2 W0 tbw lw0 lw1).mono ?_
 rintro e w2 ⟨rfl,hb⟩
 have P1:=aM (P0.out.below hb);have X1:=aM (bB X0.out hb)
 clear hb tbw lw0 lw1 P0 X0
 obtain ⟨a0,a1,a2,a3,a4⟩:=bC5 P1.out.1.1
 have b0 : w2.cell? ⟨w.heap.size + 1,0,none⟩ = some (.int .i64 0):=(bC P1.out.1.2.1 0).trans rfl
 have g0 : w2.cell? ⟨g,0,none⟩ = some (.int .i64 0):=(bC P1.out.1.2.2.1 0).trans rfl
 have gf0:=bF P1.out.1.2.2.1 0
 have g1 : w2.cell? ⟨g,1,none⟩ = some (.int .i64 (-1)):=(bC P1.out.1.2.2.1 1).trans rfl
 have gf1:=bF P1.out.1.2.2.1 1
 have g2 : w2.cell? ⟨g,2,none⟩ = some (.int .i64 (-1)):=(bC P1.out.1.2.2.1 2).trans rfl
 have gf2:=bF P1.out.1.2.2.1 2
 have h0 : w2.cell? ⟨w1.heap.size,0,none⟩ = some (.slice (some ⟨g,0,none⟩) 3 3):=(bC P1.out.1.2.2.2 0).trans rfl
 have s0 : w.heap.size < w2.heap.size:=bL P1.out.1.1
 have s1 : w.heap.size + 1 < w2.heap.size:=bL P1.out.1.2.1
 have sg : g < w2.heap.size:=bL P1.out.1.2.2.1
 have sh : w1.heap.size < w2.heap.size:=bL P1.out.1.2.2.2
 have x0 : w2.cell? ⟨(w1.heap.size + 1),0,none⟩ = some (.int .i64 1):=(bC X1.out 0).trans rfl
 have x1 : w2.cell? ⟨(w1.heap.size + 1),1,none⟩ = some (.int .i64 0):=(bC X1.out 1).trans rfl
 have sx : (w1.heap.size + 1) < w2.heap.size:=bL X1.out
 go_wp2_with fail
 have HB2:=aM (Below.refl w2.heap.size w2)
 go_region_held3 (fun w' => w'.cell? ⟨(w1.heap.size + 1),0,none⟩ = some (.int .i64 1) ∧ w'.cell? ⟨(w1.heap.size + 1),1,none⟩ = some (.int .i64 0) ∧ Aside0 (Below w2.heap.size w2 w'))
  (first|exact ⟨x0,x1,HB2⟩|exact ⟨x0,x1,aM (lD HB2.out)⟩|exact (keepS (W:=w2.drew) x0 x1 (aM (lD HB2.out)) hq1)|(have q_:=keepS (W:=w2.drew) x0 x1 (aM (lD HB2.out)) hq1;exact keepS q_.1 q_.2.1 q_.2.2 hq2))
  (first|(go_at_call 64;refine (impl_takesOf.calls k 1 0 0 _ T0.out).mono ?_;rintro e w3 ⟨rfl,hq1⟩)|(go_at_call 65;refine (impl_putsOf.calls 1 0 1 _ U0.out).mono ?_;rintro e w4 ⟨rfl,hq2⟩))
 have hb4 : Below w2.heap.size w2 w4:=lP (lP (lD HB2.out) hq1) hq2
 have P2:=aM (P1.out.below hb4);have X2:=aM (bB X1.out hb4)
 clear hb4 hq1 hq2 HB2 P1 X1 a0 a1 a2 a3 a4 b0 h0 s0 s1 sg sh g0 gf0 g1 gf1 g2 gf2 x0 x1 sx
 obtain ⟨a0,a1,a2,a3,a4⟩:=bC5 P2.out.1.1
 have b0 : w4.cell? ⟨w.heap.size + 1,0,none⟩ = some (.int .i64 0):=(bC P2.out.1.2.1 0).trans rfl
 have g0 : w4.cell? ⟨g,0,none⟩ = some (.int .i64 0):=(bC P2.out.1.2.2.1 0).trans rfl
 have gf0:=bF P2.out.1.2.2.1 0
 have g1 : w4.cell? ⟨g,1,none⟩ = some (.int .i64 (-1)):=(bC P2.out.1.2.2.1 1).trans rfl
 have gf1:=bF P2.out.1.2.2.1 1
 have g2 : w4.cell? ⟨g,2,none⟩ = some (.int .i64 (-1)):=(bC P2.out.1.2.2.1 2).trans rfl
 have gf2:=bF P2.out.1.2.2.1 2
 have h0 : w4.cell? ⟨w1.heap.size,0,none⟩ = some (.slice (some ⟨g,0,none⟩) 3 3):=(bC P2.out.1.2.2.2 0).trans rfl
 have s0 : w.heap.size < w4.heap.size:=bL P2.out.1.1
 have s1 : w.heap.size + 1 < w4.heap.size:=bL P2.out.1.2.1
 have sg : g < w4.heap.size:=bL P2.out.1.2.2.1
 have sh : w1.heap.size < w4.heap.size:=bL P2.out.1.2.2.2
 have x0 : w4.cell? ⟨(w1.heap.size + 1),0,none⟩ = some (.int .i64 1):=(bC X2.out 0).trans rfl
 have x1 : w4.cell? ⟨(w1.heap.size + 1),1,none⟩ = some (.int .i64 0):=(bC X2.out 1).trans rfl
 have sx : (w1.heap.size + 1) < w4.heap.size:=bL X2.out
 go_wp2_with fail
 refine (impl_takesOf.calls k 1 0 0 _ T0.out).mono ?_
 rintro e w5 ⟨rfl,hb⟩
 have P3:=aM (P2.out.below hb);have X3:=aM (bB X2.out hb)
 clear hb P2 X2 a0 a1 a2 a3 a4 b0 h0 s0 s1 sg sh g0 gf0 g1 gf1 g2 gf2 x0 x1 sx
 obtain ⟨a0,a1,a2,a3,a4⟩:=bC5 P3.out.1.1
 have b0 : w5.cell? ⟨w.heap.size + 1,0,none⟩ = some (.int .i64 0):=(bC P3.out.1.2.1 0).trans rfl
 have g0 : w5.cell? ⟨g,0,none⟩ = some (.int .i64 0):=(bC P3.out.1.2.2.1 0).trans rfl
 have gf0:=bF P3.out.1.2.2.1 0
 have g1 : w5.cell? ⟨g,1,none⟩ = some (.int .i64 (-1)):=(bC P3.out.1.2.2.1 1).trans rfl
 have gf1:=bF P3.out.1.2.2.1 1
 have g2 : w5.cell? ⟨g,2,none⟩ = some (.int .i64 (-1)):=(bC P3.out.1.2.2.1 2).trans rfl
 have gf2:=bF P3.out.1.2.2.1 2
 have h0 : w5.cell? ⟨w1.heap.size,0,none⟩ = some (.slice (some ⟨g,0,none⟩) 3 3):=(bC P3.out.1.2.2.2 0).trans rfl
 have s0 : w.heap.size < w5.heap.size:=bL P3.out.1.1
 have s1 : w.heap.size + 1 < w5.heap.size:=bL P3.out.1.2.1
 have sg : g < w5.heap.size:=bL P3.out.1.2.2.1
 have sh : w1.heap.size < w5.heap.size:=bL P3.out.1.2.2.2
 have x0 : w5.cell? ⟨(w1.heap.size + 1),0,none⟩ = some (.int .i64 1):=(bC X3.out 0).trans rfl
 have x1 : w5.cell? ⟨(w1.heap.size + 1),1,none⟩ = some (.int .i64 0):=(bC X3.out 1).trans rfl
 have sx : (w1.heap.size + 1) < w5.heap.size:=bL X3.out
 go_wp2_with fail
 refine (bcome g w1.heap.size (w.heap.size + 1) 1 3 3 1 (by decide) (by decide) (by decide) (by decide) _ h0 b0 g1 gf1).mono ?_
 rintro e w6 ⟨rfl,h6⟩
 have P4:=aM (show PS w w6 w.heap.size g w1.heap.size #[.slice (some ⟨tb,0,none⟩) 1 1,.slice (some ⟨lb,0,none⟩) 2 2,.int .i64 0,.int .i64 line,.int .i64 en] #[.int .i64 0,.int .i64 1,.int .i64 (-1)] 3 from by rw [← h6];exact P3.out.set 1 _ rfl)
 have X4:=aM (show w6.heap[(w1.heap.size + 1)]? = some (.cells #[.int .i64 1,.int .i64 0] 47 (0,0)) from by rw [← h6];exact (Below.heap_setCell _ _ _ _ (by simpa using Nat.ne_of_gt gX0)).trans X3.out)
 clear h6 P3 X3 a0 a1 a2 a3 a4 b0 h0 s0 s1 sg sh g0 gf0 g1 gf1 g2 gf2 x0 x1 sx
 obtain ⟨a0,a1,a2,a3,a4⟩:=bC5 P4.out.1.1
 have b0 : w6.cell? ⟨w.heap.size + 1,0,none⟩ = some (.int .i64 0):=(bC P4.out.1.2.1 0).trans rfl
 have g0 : w6.cell? ⟨g,0,none⟩ = some (.int .i64 0):=(bC P4.out.1.2.2.1 0).trans rfl
 have gf0:=bF P4.out.1.2.2.1 0
 have g1 : w6.cell? ⟨g,1,none⟩ = some (.int .i64 1):=(bC P4.out.1.2.2.1 1).trans rfl
 have gf1:=bF P4.out.1.2.2.1 1
 have g2 : w6.cell? ⟨g,2,none⟩ = some (.int .i64 (-1)):=(bC P4.out.1.2.2.1 2).trans rfl
 have gf2:=bF P4.out.1.2.2.1 2
 have h0 : w6.cell? ⟨w1.heap.size,0,none⟩ = some (.slice (some ⟨g,0,none⟩) 3 3):=(bC P4.out.1.2.2.2 0).trans rfl
 have s0 : w.heap.size < w6.heap.size:=bL P4.out.1.1
 have s1 : w.heap.size + 1 < w6.heap.size:=bL P4.out.1.2.1
 have sg : g < w6.heap.size:=bL P4.out.1.2.2.1
 have sh : w1.heap.size < w6.heap.size:=bL P4.out.1.2.2.2
 have x0 : w6.cell? ⟨(w1.heap.size + 1),0,none⟩ = some (.int .i64 1):=(bC X4.out 0).trans rfl
 have x1 : w6.cell? ⟨(w1.heap.size + 1),1,none⟩ = some (.int .i64 0):=(bC X4.out 1).trans rfl
 have sx : (w1.heap.size + 1) < w6.heap.size:=bL X4.out
 have lb0 : w6.cell? ⟨lb,0,none⟩ = some (.int .i64 1):=(P4.out.2.2.2.2.cell (p:=⟨lb,0,none⟩) hbl).trans HL0.out
 have lb1 : w6.cell? ⟨lb,1,none⟩ = some (.int .i64 0):=(P4.out.2.2.2.2.cell (p:=⟨lb,1,none⟩) hbl).trans HL1.out
 have lb2 : w6.cell? ⟨lb,2,none⟩ = some (.int .i64 17):=(P4.out.2.2.2.2.cell (p:=⟨lb,2,none⟩) hbl).trans HL2.out
 have lb3 : w6.cell? ⟨lb,3,none⟩ = some (.int .i64 a):=(P4.out.2.2.2.2.cell (p:=⟨lb,3,none⟩) hbl).trans HL3.out
 have slb : lb < w6.heap.size:=by have:=(P4.out.2.2.2.2).size;omega
 go_wp2_with fail
 rw [rounds_succ]
 go_wp2_with fail
 refine name_world fun W1 hW => ?_
 have P10:=aM (show PS w W1 w.heap.size g w1.heap.size #[.slice (some ⟨tb,0,none⟩) 1 1,.slice (some ⟨lb,0,none⟩) 2 2,.int .i64 0,.int .i64 line,.int .i64 en] #[.int .i64 0,.int .i64 1,.int .i64 (-1)] 3 from by rw [← hW];exact P4.out.alloc _)
 have X10:=aM (show W1.heap[w6.heap.size]? = some (.cells #[.int .i64 17,.int .i64 a] 47 (0,0)) from by rw [← hW];exact new_at (by simp))
 have gX1 : g < w6.heap.size:=by omega
 clear hW a0 a1 a2 a3 a4 b0 h0 s0 s1 sg sh g0 gf0 g1 gf1 g2 gf2 x0 x1 sx slb lb0 lb1 lb2 lb3
 have tbw : W1.cell? ⟨tb,0,none⟩ = some (.string ⟨#[120]⟩):=(P10.out.2.2.2.2.cell (p:=⟨tb,0,none⟩) hbt).trans HHT.out
 have lw0 : W1.cell? ⟨lb,2,none⟩ = some (.int .i64 17):=(P10.out.2.2.2.2.cell (p:=⟨lb,2,none⟩) hbl).trans HL2.out
 have lw1 : W1.cell? ⟨lb,3,none⟩ = some (.int .i64 a):=(P10.out.2.2.2.2.cell (p:=⟨lb,3,none⟩) hbl).trans HL3.out
 refine (barg_far tb lb 2 1 (by decide) line en 2 a HA.out W1 lw0 lw1).mono ?_
 rintro e w7 ⟨rfl,hb⟩
 have F:=aM (P10.out.below hb)
 clear hb tbw lw0 lw1
 go_wp2
 go_ret
 exact ⟨rfl,F.out.2.2.2.2⟩

set_option maxHeartbeats 4000000 in
set_option maxRecDepth 100000 in
theorem bpart_z (A1 A2 : Option Addr) (n1 c1 n2 c2 : Nat) (b l en : Int) (k : Int) (k0 : 0 ≤ k) (k1 : k ≤ 250) (w : World) :
  Calls Try.prog 43 #[.agg #[.slice A1 n1 c1,.slice A2 n2 c2,.int .i64 b,.int .i64 l,.int .i64 en],.int .i64 k,.int .i64 k] w fun e w' => e = .returned (.bool true) ∧ Below w.heap.size w w':=by
 have hmf : ∀ (fn : Fn) (first cap : Array Value) (w : World),(Instr.makeFunc fn first cap).run Try.prog w = .ok (.func fn first cap) w:=fun _ _ _ _ => rfl
 have hk0 : k - k = 0:=by omega
 go_enter Try.func43,Try.ntmps43
 go_wp2_with fail
 refine name_world fun W hW => ?_
 have hsz : W.heap.size = w.heap.size + 3:=by rw [← hW];simp
 have e2 : W.heap[w.heap.size+2]? = some (.cells #[.int .i64 (-1)] 3 (0,0)):=by rw [← hW];exact new_at (by simp)
 have e1 : W.heap[w.heap.size+1]? = some (.cells #[.int .i64 k] 3 (0,0)):=by rw [← hW];exact bA (new_at (by simp)) _
 have hB : Below w.heap.size w W:=by rw [← hW];exact lA (lA (lA (Below.refl _ _) _) _) _
 clear hW
 refine (brep1 _ _ e2).mono ?_
 rintro e w1 ⟨g,rfl,hg,hge,hb⟩
 have B1:=aM (hB.trans (hb.mono (by omega)))
 have i1:=aM ((hb.block (w.heap.size + 1) (by omega)).trans e1)
 have hs1:=hb.size
 have hgs : g < w1.heap.size:=bL hg
 have hgw : w.heap.size + 3 ≤ g:=by omega
 have g0 : w1.cell? ⟨g,0,none⟩ = some (.int .i64 (-1)):=(bC hg 0).trans rfl
 have gf0:=bF hg 0
 have b0 : w1.cell? ⟨w.heap.size + 1,0,none⟩ = some (.int .i64 k):=(bC i1.out 0).trans rfl
 have s1 : w.heap.size + 1 < w1.heap.size:=by omega
 have hg0 : w.heap.size ≤ g:=by omega
 clear hsz e2 e1 hB hg hge hb hs1
 have n3 : ¬ (w.heap.size + 1 = g):=by omega
 have n4 : ¬ (g = w.heap.size + 1):=by omega
 have n5 : ¬ (w1.heap.size = g):=by omega
 have n6 : ¬ (g = w1.heap.size):=by omega
 go_wp2_with fail
 refine wp_loop_rounds 1 ?_
 rw [rounds_succ]
 go_wp2
 go_ret
 exact ⟨rfl,lA (lS B1.out hg0) _⟩
set_option maxHeartbeats 4000000 in
set_option maxRecDepth 100000 in
theorem bok_a (k : Nat) (hk : 200 ≤ k) (tb lb : Nat) (w : World) (ht : w.cell? ⟨tb,0,none⟩ = some (.string ⟨#[120]⟩)) (l0 : w.cell? ⟨lb,0,none⟩ = some (.int .i64 1)) (l1 : w.cell? ⟨lb,1,none⟩ = some (.int .i64 0)) (l2 : w.cell? ⟨lb,2,none⟩ = some (.int .i64 17)) (l3 : w.cell? ⟨lb,3,none⟩ = some (.int .i64 0)) :
  Calls Try.prog 23 #[CodeV tb lb 2 2 2] w fun e w' => e = .returned (.bool true) ∧ Below w.heap.size w w':=by
 have HB:=aM (Below.refl w.heap.size w)
 have hw0 : impl_within.f 1 1 24 = some true:=by decide +kernel
 have hw1 : impl_within.f 0 0 255 = some true:=by decide +kernel
 have hw2 : impl_within.f 17 1 24 = some true:=by decide +kernel
 have hw3 : impl_within.f 2 0 2 = some true:=by decide +kernel
 have hw4 : impl_within.f 2 2 2 = some true:=by decide +kernel
 have HW : Aside0 (impl_within.f 1 1 24 = some true) ∧ Aside0 (impl_within.f 0 0 255 = some true) ∧ Aside0 (impl_within.f 17 1 24 = some true) ∧ Aside0 (impl_within.f 2 0 2 = some true) ∧ Aside0 (impl_within.f 2 2 2 = some true):=⟨aM hw0,aM hw1,aM hw2,aM hw3,aM hw4⟩
 obtain ⟨HW0,HW1,HW2,HW3,HW4⟩:=HW
 clear hw0 hw1 hw2 hw3 hw4
 have hbt:=World.block_lt_of_cell? w _ ht
 have hbl:=World.block_lt_of_cell? w _ l0
 have HHT:=aM ht;have HL0:=aM l0;have HL1:=aM l1;have HL2:=aM l2;have HL3:=aM l3
 unfold CodeV
 go_enter Try.func23,Try.ntmps23
 go_wp2_with (first|(go_at_call 34;(with_reducible refine (impl_within.calls 1 1 24 true _ HW0.out).mono ?_);rintro e w' ⟨rfl,⟨nd,rfl⟩⟩)|(go_at_call 34;(with_reducible refine (impl_within.calls 0 0 255 true _ HW1.out).mono ?_);rintro e w' ⟨rfl,⟨nd,rfl⟩⟩)|(go_at_call 34;(with_reducible refine (impl_within.calls 17 1 24 true _ HW2.out).mono ?_);rintro e w' ⟨rfl,⟨nd,rfl⟩⟩)|(go_at_call 34;(with_reducible refine (impl_within.calls 2 0 2 true _ HW3.out).mono ?_);rintro e w' ⟨rfl,⟨nd,rfl⟩⟩)|(go_at_call 34;(with_reducible refine (impl_within.calls 2 2 2 true _ HW4.out).mono ?_);rintro e w' ⟨rfl,⟨nd,rfl⟩⟩))
 refine wp_loop_rounds 2 ?_
 rw [rounds_succ]
 go_wp2_with (first|(go_at_call 34;(with_reducible refine (impl_within.calls 1 1 24 true _ HW0.out).mono ?_);rintro e w' ⟨rfl,⟨nd,rfl⟩⟩)|(go_at_call 34;(with_reducible refine (impl_within.calls 0 0 255 true _ HW1.out).mono ?_);rintro e w' ⟨rfl,⟨nd,rfl⟩⟩)|(go_at_call 34;(with_reducible refine (impl_within.calls 17 1 24 true _ HW2.out).mono ?_);rintro e w' ⟨rfl,⟨nd,rfl⟩⟩)|(go_at_call 34;(with_reducible refine (impl_within.calls 2 0 2 true _ HW3.out).mono ?_);rintro e w' ⟨rfl,⟨nd,rfl⟩⟩)|(go_at_call 34;(with_reducible refine (impl_within.calls 2 2 2 true _ HW4.out).mono ?_);rintro e w' ⟨rfl,⟨nd,rfl⟩⟩))
 rw [rounds_succ]
 go_wp2_with (first|(go_at_call 34;(with_reducible refine (impl_within.calls 1 1 24 true _ HW0.out).mono ?_);rintro e w' ⟨rfl,⟨nd,rfl⟩⟩)|(go_at_call 34;(with_reducible refine (impl_within.calls 0 0 255 true _ HW1.out).mono ?_);rintro e w' ⟨rfl,⟨nd,rfl⟩⟩)|(go_at_call 34;(with_reducible refine (impl_within.calls 17 1 24 true _ HW2.out).mono ?_);rintro e w' ⟨rfl,⟨nd,rfl⟩⟩)|(go_at_call 34;(with_reducible refine (impl_within.calls 2 0 2 true _ HW3.out).mono ?_);rintro e w' ⟨rfl,⟨nd,rfl⟩⟩)|(go_at_call 34;(with_reducible refine (impl_within.calls 2 2 2 true _ HW4.out).mono ?_);rintro e w' ⟨rfl,⟨nd,rfl⟩⟩))
 refine wp_loop_rounds 3 ?_
 rw [rounds_succ]
 go_wp2_with (first|(go_at_call 34;(with_reducible refine (impl_within.calls 1 1 24 true _ HW0.out).mono ?_);rintro e w' ⟨rfl,⟨nd,rfl⟩⟩)|(go_at_call 34;(with_reducible refine (impl_within.calls 0 0 255 true _ HW1.out).mono ?_);rintro e w' ⟨rfl,⟨nd,rfl⟩⟩)|(go_at_call 34;(with_reducible refine (impl_within.calls 17 1 24 true _ HW2.out).mono ?_);rintro e w' ⟨rfl,⟨nd,rfl⟩⟩)|(go_at_call 34;(with_reducible refine (impl_within.calls 2 0 2 true _ HW3.out).mono ?_);rintro e w' ⟨rfl,⟨nd,rfl⟩⟩)|(go_at_call 34;(with_reducible refine (impl_within.calls 2 2 2 true _ HW4.out).mono ?_);rintro e w' ⟨rfl,⟨nd,rfl⟩⟩))
 rw [rounds_succ]
 go_wp2_with (first|(go_at_call 34;(with_reducible refine (impl_within.calls 1 1 24 true _ HW0.out).mono ?_);rintro e w' ⟨rfl,⟨nd,rfl⟩⟩)|(go_at_call 34;(with_reducible refine (impl_within.calls 0 0 255 true _ HW1.out).mono ?_);rintro e w' ⟨rfl,⟨nd,rfl⟩⟩)|(go_at_call 34;(with_reducible refine (impl_within.calls 17 1 24 true _ HW2.out).mono ?_);rintro e w' ⟨rfl,⟨nd,rfl⟩⟩)|(go_at_call 34;(with_reducible refine (impl_within.calls 2 0 2 true _ HW3.out).mono ?_);rintro e w' ⟨rfl,⟨nd,rfl⟩⟩)|(go_at_call 34;(with_reducible refine (impl_within.calls 2 2 2 true _ HW4.out).mono ?_);rintro e w' ⟨rfl,⟨nd,rfl⟩⟩))
 rw [rounds_succ]
 go_wp2_with (first|(go_at_call 34;(with_reducible refine (impl_within.calls 1 1 24 true _ HW0.out).mono ?_);rintro e w' ⟨rfl,⟨nd,rfl⟩⟩)|(go_at_call 34;(with_reducible refine (impl_within.calls 0 0 255 true _ HW1.out).mono ?_);rintro e w' ⟨rfl,⟨nd,rfl⟩⟩)|(go_at_call 34;(with_reducible refine (impl_within.calls 17 1 24 true _ HW2.out).mono ?_);rintro e w' ⟨rfl,⟨nd,rfl⟩⟩)|(go_at_call 34;(with_reducible refine (impl_within.calls 2 0 2 true _ HW3.out).mono ?_);rintro e w' ⟨rfl,⟨nd,rfl⟩⟩)|(go_at_call 34;(with_reducible refine (impl_within.calls 2 2 2 true _ HW4.out).mono ?_);rintro e w' ⟨rfl,⟨nd,rfl⟩⟩))
 refine name_world fun W hW => ?_
 have i0 : W.heap[w.heap.size]? = some (.cells #[.slice (some ⟨tb,0,none⟩) 1 1,.slice (some ⟨lb,0,none⟩) 2 2,.int .i64 0,.int .i64 2,.int .i64 2] 50 (0,0)):=by rw [← hW];(repeat (first|exact new_at rfl|refine bN ?_ _|refine bA ?_ _))
 have hB : Below w.heap.size w W:=by rw [← hW];repeat (first|exact Below.refl _ _|apply lA|apply lN|apply lD)
 clear hW
 have tbw : W.cell? ⟨tb,0,none⟩ = some (.string ⟨#[120]⟩):=(hB.cell (p:=⟨tb,0,none⟩) hbt).trans HHT.out
 have lw0 : W.cell? ⟨lb,0,none⟩ = some (.int .i64 1):=(hB.cell (p:=⟨lb,0,none⟩) hbl).trans HL0.out
 have lw1 : W.cell? ⟨lb,1,none⟩ = some (.int .i64 0):=(hB.cell (p:=⟨lb,1,none⟩) hbl).trans HL1.out
 have lw2 : W.cell? ⟨lb,2,none⟩ = some (.int .i64 17):=(hB.cell (p:=⟨lb,2,none⟩) hbl).trans HL2.out
 have lw3 : W.cell? ⟨lb,3,none⟩ = some (.int .i64 0):=(hB.cell (p:=⟨lb,3,none⟩) hbl).trans HL3.out
 refine (bpart_a k hk tb lb 2 2 W tbw lw0 lw1 lw2 lw3).mono ?_
 rintro e w1 ⟨rfl,hb⟩
 have I1:=aM (bB i0 hb);have B1:=aM (lP hB hb)
 clear i0 hB hb tbw lw0 lw1 lw2 lw3 ht l0 l1 l2 l3
 obtain ⟨a0,a1,a2,a3,a4⟩:=bC5 I1.out
 go_wp2_with fail
 refine (bpart_z (some ⟨tb,0,none⟩) (some ⟨lb,0,none⟩) 1 1 2 2 0 2 2 2 (by decide) (by decide) _).mono ?_
 rintro e w2 ⟨rfl,hb⟩
 have I2:=aM (bB I1.out hb);have B2:=aM (lP B1.out hb)
 clear hb a0 a1 a2 a3 a4
 obtain ⟨a0,a1,a2,a3,a4⟩:=bC5 I2.out
 go_wp2_with fail
 refine (bpart_z (some ⟨tb,0,none⟩) (some ⟨lb,0,none⟩) 1 1 2 2 0 2 2 2 (by decide) (by decide) _).mono ?_
 rintro e w3 ⟨rfl,hb⟩
 have I3:=aM (bB I2.out hb);have B3:=aM (lP B2.out hb)
 clear hb a0 a1 a2 a3 a4
 go_wp2
 go_ret
 exact ⟨rfl,B3.out⟩

set_option maxHeartbeats 4000000 in
set_option maxRecDepth 100000 in
theorem bok_b (k : Nat) (hk : 200 ≤ k) (tb lb : Nat) (w : World) (ht : w.cell? ⟨tb,0,none⟩ = some (.string ⟨#[120]⟩)) (l0 : w.cell? ⟨lb,0,none⟩ = some (.int .i64 17)) (l1 : w.cell? ⟨lb,1,none⟩ = some (.int .i64 0)) :
  Calls Try.prog 23 #[CodeV tb lb 1 1 1] w fun e w' => e = .returned (.bool false) ∧ Below w.heap.size w w':=by
 have HB:=aM (Below.refl w.heap.size w)
 have hw0 : impl_within.f 17 1 24 = some true:=by decide +kernel
 have hw1 : impl_within.f 0 0 255 = some true:=by decide +kernel
 have hw2 : impl_within.f 1 0 1 = some true:=by decide +kernel
 have hw3 : impl_within.f 1 1 1 = some true:=by decide +kernel
 have HW : Aside0 (impl_within.f 17 1 24 = some true) ∧ Aside0 (impl_within.f 0 0 255 = some true) ∧ Aside0 (impl_within.f 1 0 1 = some true) ∧ Aside0 (impl_within.f 1 1 1 = some true):=⟨aM hw0,aM hw1,aM hw2,aM hw3⟩
 obtain ⟨HW0,HW1,HW2,HW3⟩:=HW
 clear hw0 hw1 hw2 hw3
 have hbt:=World.block_lt_of_cell? w _ ht
 have hbl:=World.block_lt_of_cell? w _ l0
 have HHT:=aM ht;have HL0:=aM l0;have HL1:=aM l1
 unfold CodeV
 go_enter Try.func23,Try.ntmps23
 go_wp2_with (first|(go_at_call 34;(with_reducible refine (impl_within.calls 17 1 24 true _ HW0.out).mono ?_);rintro e w' ⟨rfl,⟨nd,rfl⟩⟩)|(go_at_call 34;(with_reducible refine (impl_within.calls 0 0 255 true _ HW1.out).mono ?_);rintro e w' ⟨rfl,⟨nd,rfl⟩⟩)|(go_at_call 34;(with_reducible refine (impl_within.calls 1 0 1 true _ HW2.out).mono ?_);rintro e w' ⟨rfl,⟨nd,rfl⟩⟩)|(go_at_call 34;(with_reducible refine (impl_within.calls 1 1 1 true _ HW3.out).mono ?_);rintro e w' ⟨rfl,⟨nd,rfl⟩⟩))
 refine wp_loop_rounds 2 ?_
 rw [rounds_succ]
 go_wp2_with (first|(go_at_call 34;(with_reducible refine (impl_within.calls 17 1 24 true _ HW0.out).mono ?_);rintro e w' ⟨rfl,⟨nd,rfl⟩⟩)|(go_at_call 34;(with_reducible refine (impl_within.calls 0 0 255 true _ HW1.out).mono ?_);rintro e w' ⟨rfl,⟨nd,rfl⟩⟩)|(go_at_call 34;(with_reducible refine (impl_within.calls 1 0 1 true _ HW2.out).mono ?_);rintro e w' ⟨rfl,⟨nd,rfl⟩⟩)|(go_at_call 34;(with_reducible refine (impl_within.calls 1 1 1 true _ HW3.out).mono ?_);rintro e w' ⟨rfl,⟨nd,rfl⟩⟩))
 rw [rounds_succ]
 go_wp2_with (first|(go_at_call 34;(with_reducible refine (impl_within.calls 17 1 24 true _ HW0.out).mono ?_);rintro e w' ⟨rfl,⟨nd,rfl⟩⟩)|(go_at_call 34;(with_reducible refine (impl_within.calls 0 0 255 true _ HW1.out).mono ?_);rintro e w' ⟨rfl,⟨nd,rfl⟩⟩)|(go_at_call 34;(with_reducible refine (impl_within.calls 1 0 1 true _ HW2.out).mono ?_);rintro e w' ⟨rfl,⟨nd,rfl⟩⟩)|(go_at_call 34;(with_reducible refine (impl_within.calls 1 1 1 true _ HW3.out).mono ?_);rintro e w' ⟨rfl,⟨nd,rfl⟩⟩))
 refine wp_loop_rounds 2 ?_
 rw [rounds_succ]
 go_wp2_with (first|(go_at_call 34;(with_reducible refine (impl_within.calls 17 1 24 true _ HW0.out).mono ?_);rintro e w' ⟨rfl,⟨nd,rfl⟩⟩)|(go_at_call 34;(with_reducible refine (impl_within.calls 0 0 255 true _ HW1.out).mono ?_);rintro e w' ⟨rfl,⟨nd,rfl⟩⟩)|(go_at_call 34;(with_reducible refine (impl_within.calls 1 0 1 true _ HW2.out).mono ?_);rintro e w' ⟨rfl,⟨nd,rfl⟩⟩)|(go_at_call 34;(with_reducible refine (impl_within.calls 1 1 1 true _ HW3.out).mono ?_);rintro e w' ⟨rfl,⟨nd,rfl⟩⟩))
 rw [rounds_succ]
 go_wp2_with (first|(go_at_call 34;(with_reducible refine (impl_within.calls 17 1 24 true _ HW0.out).mono ?_);rintro e w' ⟨rfl,⟨nd,rfl⟩⟩)|(go_at_call 34;(with_reducible refine (impl_within.calls 0 0 255 true _ HW1.out).mono ?_);rintro e w' ⟨rfl,⟨nd,rfl⟩⟩)|(go_at_call 34;(with_reducible refine (impl_within.calls 1 0 1 true _ HW2.out).mono ?_);rintro e w' ⟨rfl,⟨nd,rfl⟩⟩)|(go_at_call 34;(with_reducible refine (impl_within.calls 1 1 1 true _ HW3.out).mono ?_);rintro e w' ⟨rfl,⟨nd,rfl⟩⟩))
 refine name_world fun W hW => ?_
 have i0 : W.heap[w.heap.size]? = some (.cells #[.slice (some ⟨tb,0,none⟩) 1 1,.slice (some ⟨lb,0,none⟩) 1 1,.int .i64 0,.int .i64 1,.int .i64 1] 50 (0,0)):=by rw [← hW];(repeat (first|exact new_at rfl|refine bN ?_ _|refine bA ?_ _))
 have hB : Below w.heap.size w W:=by rw [← hW];repeat (first|exact Below.refl _ _|apply lA|apply lN|apply lD)
 clear hW
 have tbw : W.cell? ⟨tb,0,none⟩ = some (.string ⟨#[120]⟩):=(hB.cell (p:=⟨tb,0,none⟩) hbt).trans HHT.out
 have lw0 : W.cell? ⟨lb,0,none⟩ = some (.int .i64 17):=(hB.cell (p:=⟨lb,0,none⟩) hbl).trans HL0.out
 have lw1 : W.cell? ⟨lb,1,none⟩ = some (.int .i64 0):=(hB.cell (p:=⟨lb,1,none⟩) hbl).trans HL1.out
 refine (bpart_b k hk tb lb 1 1 W tbw lw0 lw1).mono ?_
 rintro e w1 ⟨rfl,hb⟩
 have I1:=aM (bB i0 hb);have B1:=aM (lP hB hb)
 clear i0 hB hb tbw lw0 lw1 ht l0 l1
 obtain ⟨a0,a1,a2,a3,a4⟩:=bC5 I1.out
 go_wp2
 go_ret
 exact ⟨rfl,B1.out⟩

set_option maxHeartbeats 4000000 in
set_option maxRecDepth 100000 in
theorem bok_d (k : Nat) (hk : 200 ≤ k) (tb lb : Nat) (w : World) (ht : w.cell? ⟨tb,0,none⟩ = some (.string ⟨#[120]⟩)) (l0 : w.cell? ⟨lb,0,none⟩ = some (.int .i64 1)) (l1 : w.cell? ⟨lb,1,none⟩ = some (.int .i64 0)) :
  Calls Try.prog 23 #[CodeV tb lb 1 1 1] w fun e w' => e = .returned (.bool false) ∧ Below w.heap.size w w':=by
 have HB:=aM (Below.refl w.heap.size w)
 have hw0 : impl_within.f 1 1 24 = some true:=by decide +kernel
 have hw1 : impl_within.f 0 0 255 = some true:=by decide +kernel
 have hw2 : impl_within.f 1 0 1 = some true:=by decide +kernel
 have hw3 : impl_within.f 1 1 1 = some true:=by decide +kernel
 have HW : Aside0 (impl_within.f 1 1 24 = some true) ∧ Aside0 (impl_within.f 0 0 255 = some true) ∧ Aside0 (impl_within.f 1 0 1 = some true) ∧ Aside0 (impl_within.f 1 1 1 = some true):=⟨aM hw0,aM hw1,aM hw2,aM hw3⟩
 obtain ⟨HW0,HW1,HW2,HW3⟩:=HW
 clear hw0 hw1 hw2 hw3
 have hbt:=World.block_lt_of_cell? w _ ht
 have hbl:=World.block_lt_of_cell? w _ l0
 have HHT:=aM ht;have HL0:=aM l0;have HL1:=aM l1
 unfold CodeV
 go_enter Try.func23,Try.ntmps23
 go_wp2_with (first|(go_at_call 34;(with_reducible refine (impl_within.calls 1 1 24 true _ HW0.out).mono ?_);rintro e w' ⟨rfl,⟨nd,rfl⟩⟩)|(go_at_call 34;(with_reducible refine (impl_within.calls 0 0 255 true _ HW1.out).mono ?_);rintro e w' ⟨rfl,⟨nd,rfl⟩⟩)|(go_at_call 34;(with_reducible refine (impl_within.calls 1 0 1 true _ HW2.out).mono ?_);rintro e w' ⟨rfl,⟨nd,rfl⟩⟩)|(go_at_call 34;(with_reducible refine (impl_within.calls 1 1 1 true _ HW3.out).mono ?_);rintro e w' ⟨rfl,⟨nd,rfl⟩⟩))
 refine wp_loop_rounds 2 ?_
 rw [rounds_succ]
 go_wp2_with (first|(go_at_call 34;(with_reducible refine (impl_within.calls 1 1 24 true _ HW0.out).mono ?_);rintro e w' ⟨rfl,⟨nd,rfl⟩⟩)|(go_at_call 34;(with_reducible refine (impl_within.calls 0 0 255 true _ HW1.out).mono ?_);rintro e w' ⟨rfl,⟨nd,rfl⟩⟩)|(go_at_call 34;(with_reducible refine (impl_within.calls 1 0 1 true _ HW2.out).mono ?_);rintro e w' ⟨rfl,⟨nd,rfl⟩⟩)|(go_at_call 34;(with_reducible refine (impl_within.calls 1 1 1 true _ HW3.out).mono ?_);rintro e w' ⟨rfl,⟨nd,rfl⟩⟩))
 rw [rounds_succ]
 go_wp2_with (first|(go_at_call 34;(with_reducible refine (impl_within.calls 1 1 24 true _ HW0.out).mono ?_);rintro e w' ⟨rfl,⟨nd,rfl⟩⟩)|(go_at_call 34;(with_reducible refine (impl_within.calls 0 0 255 true _ HW1.out).mono ?_);rintro e w' ⟨rfl,⟨nd,rfl⟩⟩)|(go_at_call 34;(with_reducible refine (impl_within.calls 1 0 1 true _ HW2.out).mono ?_);rintro e w' ⟨rfl,⟨nd,rfl⟩⟩)|(go_at_call 34;(with_reducible refine (impl_within.calls 1 1 1 true _ HW3.out).mono ?_);rintro e w' ⟨rfl,⟨nd,rfl⟩⟩))
 refine wp_loop_rounds 2 ?_
 rw [rounds_succ]
 go_wp2_with (first|(go_at_call 34;(with_reducible refine (impl_within.calls 1 1 24 true _ HW0.out).mono ?_);rintro e w' ⟨rfl,⟨nd,rfl⟩⟩)|(go_at_call 34;(with_reducible refine (impl_within.calls 0 0 255 true _ HW1.out).mono ?_);rintro e w' ⟨rfl,⟨nd,rfl⟩⟩)|(go_at_call 34;(with_reducible refine (impl_within.calls 1 0 1 true _ HW2.out).mono ?_);rintro e w' ⟨rfl,⟨nd,rfl⟩⟩)|(go_at_call 34;(with_reducible refine (impl_within.calls 1 1 1 true _ HW3.out).mono ?_);rintro e w' ⟨rfl,⟨nd,rfl⟩⟩))
 rw [rounds_succ]
 go_wp2_with (first|(go_at_call 34;(with_reducible refine (impl_within.calls 1 1 24 true _ HW0.out).mono ?_);rintro e w' ⟨rfl,⟨nd,rfl⟩⟩)|(go_at_call 34;(with_reducible refine (impl_within.calls 0 0 255 true _ HW1.out).mono ?_);rintro e w' ⟨rfl,⟨nd,rfl⟩⟩)|(go_at_call 34;(with_reducible refine (impl_within.calls 1 0 1 true _ HW2.out).mono ?_);rintro e w' ⟨rfl,⟨nd,rfl⟩⟩)|(go_at_call 34;(with_reducible refine (impl_within.calls 1 1 1 true _ HW3.out).mono ?_);rintro e w' ⟨rfl,⟨nd,rfl⟩⟩))
 refine name_world fun W hW => ?_
 have i0 : W.heap[w.heap.size]? = some (.cells #[.slice (some ⟨tb,0,none⟩) 1 1,.slice (some ⟨lb,0,none⟩) 1 1,.int .i64 0,.int .i64 1,.int .i64 1] 50 (0,0)):=by rw [← hW];(repeat (first|exact new_at rfl|refine bN ?_ _|refine bA ?_ _))
 have hB : Below w.heap.size w W:=by rw [← hW];repeat (first|exact Below.refl _ _|apply lA|apply lN|apply lD)
 clear hW
 have tbw : W.cell? ⟨tb,0,none⟩ = some (.string ⟨#[120]⟩):=(hB.cell (p:=⟨tb,0,none⟩) hbt).trans HHT.out
 have lw0 : W.cell? ⟨lb,0,none⟩ = some (.int .i64 1):=(hB.cell (p:=⟨lb,0,none⟩) hbl).trans HL0.out
 have lw1 : W.cell? ⟨lb,1,none⟩ = some (.int .i64 0):=(hB.cell (p:=⟨lb,1,none⟩) hbl).trans HL1.out
 refine (bpart_d k hk tb lb 1 1 W tbw lw0 lw1).mono ?_
 rintro e w1 ⟨rfl,hb⟩
 have I1:=aM (bB i0 hb);have B1:=aM (lP hB hb)
 clear i0 hB hb tbw lw0 lw1 ht l0 l1
 obtain ⟨a0,a1,a2,a3,a4⟩:=bC5 I1.out
 go_wp2
 go_ret
 exact ⟨rfl,B1.out⟩

set_option maxHeartbeats 4000000 in
set_option maxRecDepth 100000 in
theorem bok_e (k : Nat) (hk : 200 ≤ k) (tb lb : Nat) (w : World) (ht : w.cell? ⟨tb,0,none⟩ = some (.string ⟨#[120]⟩)) (l0 : w.cell? ⟨lb,0,none⟩ = some (.int .i64 1)) (l1 : w.cell? ⟨lb,1,none⟩ = some (.int .i64 0)) (l2 : w.cell? ⟨lb,2,none⟩ = some (.int .i64 21)) (l3 : w.cell? ⟨lb,3,none⟩ = some (.int .i64 0)) :
  Calls Try.prog 23 #[CodeV tb lb 2 2 2] w fun e w' => e = .returned (.bool false) ∧ Below w.heap.size w w':=by
 have HB:=aM (Below.refl w.heap.size w)
 have hw0 : impl_within.f 1 1 24 = some true:=by decide +kernel
 have hw1 : impl_within.f 0 0 255 = some true:=by decide +kernel
 have hw2 : impl_within.f 21 1 24 = some true:=by decide +kernel
 have hw3 : impl_within.f 2 0 2 = some true:=by decide +kernel
 have hw4 : impl_within.f 2 2 2 = some true:=by decide +kernel
 have HW : Aside0 (impl_within.f 1 1 24 = some true) ∧ Aside0 (impl_within.f 0 0 255 = some true) ∧ Aside0 (impl_within.f 21 1 24 = some true) ∧ Aside0 (impl_within.f 2 0 2 = some true) ∧ Aside0 (impl_within.f 2 2 2 = some true):=⟨aM hw0,aM hw1,aM hw2,aM hw3,aM hw4⟩
 obtain ⟨HW0,HW1,HW2,HW3,HW4⟩:=HW
 clear hw0 hw1 hw2 hw3 hw4
 have hbt:=World.block_lt_of_cell? w _ ht
 have hbl:=World.block_lt_of_cell? w _ l0
 have HHT:=aM ht;have HL0:=aM l0;have HL1:=aM l1;have HL2:=aM l2;have HL3:=aM l3
 unfold CodeV
 go_enter Try.func23,Try.ntmps23
 go_wp2_with (first|(go_at_call 34;(with_reducible refine (impl_within.calls 1 1 24 true _ HW0.out).mono ?_);rintro e w' ⟨rfl,⟨nd,rfl⟩⟩)|(go_at_call 34;(with_reducible refine (impl_within.calls 0 0 255 true _ HW1.out).mono ?_);rintro e w' ⟨rfl,⟨nd,rfl⟩⟩)|(go_at_call 34;(with_reducible refine (impl_within.calls 21 1 24 true _ HW2.out).mono ?_);rintro e w' ⟨rfl,⟨nd,rfl⟩⟩)|(go_at_call 34;(with_reducible refine (impl_within.calls 2 0 2 true _ HW3.out).mono ?_);rintro e w' ⟨rfl,⟨nd,rfl⟩⟩)|(go_at_call 34;(with_reducible refine (impl_within.calls 2 2 2 true _ HW4.out).mono ?_);rintro e w' ⟨rfl,⟨nd,rfl⟩⟩))
 refine wp_loop_rounds 2 ?_
 rw [rounds_succ]
 go_wp2_with (first|(go_at_call 34;(with_reducible refine (impl_within.calls 1 1 24 true _ HW0.out).mono ?_);rintro e w' ⟨rfl,⟨nd,rfl⟩⟩)|(go_at_call 34;(with_reducible refine (impl_within.calls 0 0 255 true _ HW1.out).mono ?_);rintro e w' ⟨rfl,⟨nd,rfl⟩⟩)|(go_at_call 34;(with_reducible refine (impl_within.calls 21 1 24 true _ HW2.out).mono ?_);rintro e w' ⟨rfl,⟨nd,rfl⟩⟩)|(go_at_call 34;(with_reducible refine (impl_within.calls 2 0 2 true _ HW3.out).mono ?_);rintro e w' ⟨rfl,⟨nd,rfl⟩⟩)|(go_at_call 34;(with_reducible refine (impl_within.calls 2 2 2 true _ HW4.out).mono ?_);rintro e w' ⟨rfl,⟨nd,rfl⟩⟩))
 rw [rounds_succ]
 go_wp2_with (first|(go_at_call 34;(with_reducible refine (impl_within.calls 1 1 24 true _ HW0.out).mono ?_);rintro e w' ⟨rfl,⟨nd,rfl⟩⟩)|(go_at_call 34;(with_reducible refine (impl_within.calls 0 0 255 true _ HW1.out).mono ?_);rintro e w' ⟨rfl,⟨nd,rfl⟩⟩)|(go_at_call 34;(with_reducible refine (impl_within.calls 21 1 24 true _ HW2.out).mono ?_);rintro e w' ⟨rfl,⟨nd,rfl⟩⟩)|(go_at_call 34;(with_reducible refine (impl_within.calls 2 0 2 true _ HW3.out).mono ?_);rintro e w' ⟨rfl,⟨nd,rfl⟩⟩)|(go_at_call 34;(with_reducible refine (impl_within.calls 2 2 2 true _ HW4.out).mono ?_);rintro e w' ⟨rfl,⟨nd,rfl⟩⟩))
 refine wp_loop_rounds 3 ?_
 rw [rounds_succ]
 go_wp2_with (first|(go_at_call 34;(with_reducible refine (impl_within.calls 1 1 24 true _ HW0.out).mono ?_);rintro e w' ⟨rfl,⟨nd,rfl⟩⟩)|(go_at_call 34;(with_reducible refine (impl_within.calls 0 0 255 true _ HW1.out).mono ?_);rintro e w' ⟨rfl,⟨nd,rfl⟩⟩)|(go_at_call 34;(with_reducible refine (impl_within.calls 21 1 24 true _ HW2.out).mono ?_);rintro e w' ⟨rfl,⟨nd,rfl⟩⟩)|(go_at_call 34;(with_reducible refine (impl_within.calls 2 0 2 true _ HW3.out).mono ?_);rintro e w' ⟨rfl,⟨nd,rfl⟩⟩)|(go_at_call 34;(with_reducible refine (impl_within.calls 2 2 2 true _ HW4.out).mono ?_);rintro e w' ⟨rfl,⟨nd,rfl⟩⟩))
 rw [rounds_succ]
 go_wp2_with (first|(go_at_call 34;(with_reducible refine (impl_within.calls 1 1 24 true _ HW0.out).mono ?_);rintro e w' ⟨rfl,⟨nd,rfl⟩⟩)|(go_at_call 34;(with_reducible refine (impl_within.calls 0 0 255 true _ HW1.out).mono ?_);rintro e w' ⟨rfl,⟨nd,rfl⟩⟩)|(go_at_call 34;(with_reducible refine (impl_within.calls 21 1 24 true _ HW2.out).mono ?_);rintro e w' ⟨rfl,⟨nd,rfl⟩⟩)|(go_at_call 34;(with_reducible refine (impl_within.calls 2 0 2 true _ HW3.out).mono ?_);rintro e w' ⟨rfl,⟨nd,rfl⟩⟩)|(go_at_call 34;(with_reducible refine (impl_within.calls 2 2 2 true _ HW4.out).mono ?_);rintro e w' ⟨rfl,⟨nd,rfl⟩⟩))
 rw [rounds_succ]
 go_wp2_with (first|(go_at_call 34;(with_reducible refine (impl_within.calls 1 1 24 true _ HW0.out).mono ?_);rintro e w' ⟨rfl,⟨nd,rfl⟩⟩)|(go_at_call 34;(with_reducible refine (impl_within.calls 0 0 255 true _ HW1.out).mono ?_);rintro e w' ⟨rfl,⟨nd,rfl⟩⟩)|(go_at_call 34;(with_reducible refine (impl_within.calls 21 1 24 true _ HW2.out).mono ?_);rintro e w' ⟨rfl,⟨nd,rfl⟩⟩)|(go_at_call 34;(with_reducible refine (impl_within.calls 2 0 2 true _ HW3.out).mono ?_);rintro e w' ⟨rfl,⟨nd,rfl⟩⟩)|(go_at_call 34;(with_reducible refine (impl_within.calls 2 2 2 true _ HW4.out).mono ?_);rintro e w' ⟨rfl,⟨nd,rfl⟩⟩))
 refine name_world fun W hW => ?_
 have i0 : W.heap[w.heap.size]? = some (.cells #[.slice (some ⟨tb,0,none⟩) 1 1,.slice (some ⟨lb,0,none⟩) 2 2,.int .i64 0,.int .i64 2,.int .i64 2] 50 (0,0)):=by rw [← hW];(repeat (first|exact new_at rfl|refine bN ?_ _|refine bA ?_ _))
 have hB : Below w.heap.size w W:=by rw [← hW];repeat (first|exact Below.refl _ _|apply lA|apply lN|apply lD)
 clear hW
 have tbw : W.cell? ⟨tb,0,none⟩ = some (.string ⟨#[120]⟩):=(hB.cell (p:=⟨tb,0,none⟩) hbt).trans HHT.out
 have lw0 : W.cell? ⟨lb,0,none⟩ = some (.int .i64 1):=(hB.cell (p:=⟨lb,0,none⟩) hbl).trans HL0.out
 have lw1 : W.cell? ⟨lb,1,none⟩ = some (.int .i64 0):=(hB.cell (p:=⟨lb,1,none⟩) hbl).trans HL1.out
 have lw2 : W.cell? ⟨lb,2,none⟩ = some (.int .i64 21):=(hB.cell (p:=⟨lb,2,none⟩) hbl).trans HL2.out
 have lw3 : W.cell? ⟨lb,3,none⟩ = some (.int .i64 0):=(hB.cell (p:=⟨lb,3,none⟩) hbl).trans HL3.out
 refine (bpart_e k hk tb lb 2 2 W tbw lw0 lw1 lw2 lw3).mono ?_
 rintro e w1 ⟨rfl,hb⟩
 have I1:=aM (bB i0 hb);have B1:=aM (lP hB hb)
 clear i0 hB hb tbw lw0 lw1 lw2 lw3 ht l0 l1 l2 l3
 obtain ⟨a0,a1,a2,a3,a4⟩:=bC5 I1.out
 go_wp2
 go_ret
 exact ⟨rfl,B1.out⟩

set_option maxHeartbeats 4000000 in
set_option maxRecDepth 100000 in
theorem bok_f (k : Nat) (hk : 200 ≤ k) (tb lb : Nat) (a : Int) (ha : 1 ≤ a) (ha2 : a ≤ 255) (w : World) (ht : w.cell? ⟨tb,0,none⟩ = some (.string ⟨#[120]⟩)) (l0 : w.cell? ⟨lb,0,none⟩ = some (.int .i64 1)) (l1 : w.cell? ⟨lb,1,none⟩ = some (.int .i64 0)) (l2 : w.cell? ⟨lb,2,none⟩ = some (.int .i64 17)) (l3 : w.cell? ⟨lb,3,none⟩ = some (.int .i64 a)) :
  Calls Try.prog 23 #[CodeV tb lb 2 2 2] w fun e w' => e = .returned (.bool false) ∧ Below w.heap.size w w':=by
 have HB:=aM (Below.refl w.heap.size w)
 have hw0 : impl_within.f 1 1 24 = some true:=by decide +kernel
 have hw1 : impl_within.f 0 0 255 = some true:=by decide +kernel
 have hw2 : impl_within.f 17 1 24 = some true:=by decide +kernel
 have hw3 : impl_within.f a 0 255 = some true:=by unfold impl_within.f;rw [if_pos (by omega),decide_eq_true (by omega)]
 have hw4 : impl_within.f 2 0 2 = some true:=by decide +kernel
 have hw5 : impl_within.f 2 2 2 = some true:=by decide +kernel
 have HW : Aside0 (impl_within.f 1 1 24 = some true) ∧ Aside0 (impl_within.f 0 0 255 = some true) ∧ Aside0 (impl_within.f 17 1 24 = some true) ∧ Aside0 (impl_within.f a 0 255 = some true) ∧ Aside0 (impl_within.f 2 0 2 = some true) ∧ Aside0 (impl_within.f 2 2 2 = some true):=⟨aM hw0,aM hw1,aM hw2,aM hw3,aM hw4,aM hw5⟩
 obtain ⟨HW0,HW1,HW2,HW3,HW4,HW5⟩:=HW
 clear hw0 hw1 hw2 hw3 hw4 hw5
 have hbt:=World.block_lt_of_cell? w _ ht
 have hbl:=World.block_lt_of_cell? w _ l0
 have HHT:=aM ht;have HL0:=aM l0;have HL1:=aM l1;have HL2:=aM l2;have HL3:=aM l3
 have HA:=aM ha;clear ha ha2
 unfold CodeV
 go_enter Try.func23,Try.ntmps23
 go_wp2_with (first|(go_at_call 34;(with_reducible refine (impl_within.calls 1 1 24 true _ HW0.out).mono ?_);rintro e w' ⟨rfl,⟨nd,rfl⟩⟩)|(go_at_call 34;(with_reducible refine (impl_within.calls 0 0 255 true _ HW1.out).mono ?_);rintro e w' ⟨rfl,⟨nd,rfl⟩⟩)|(go_at_call 34;(with_reducible refine (impl_within.calls 17 1 24 true _ HW2.out).mono ?_);rintro e w' ⟨rfl,⟨nd,rfl⟩⟩)|(go_at_call 34;(with_reducible refine (impl_within.calls a 0 255 true _ HW3.out).mono ?_);rintro e w' ⟨rfl,⟨nd,rfl⟩⟩)|(go_at_call 34;(with_reducible refine (impl_within.calls 2 0 2 true _ HW4.out).mono ?_);rintro e w' ⟨rfl,⟨nd,rfl⟩⟩)|(go_at_call 34;(with_reducible refine (impl_within.calls 2 2 2 true _ HW5.out).mono ?_);rintro e w' ⟨rfl,⟨nd,rfl⟩⟩))
 refine wp_loop_rounds 2 ?_
 rw [rounds_succ]
 go_wp2_with (first|(go_at_call 34;(with_reducible refine (impl_within.calls 1 1 24 true _ HW0.out).mono ?_);rintro e w' ⟨rfl,⟨nd,rfl⟩⟩)|(go_at_call 34;(with_reducible refine (impl_within.calls 0 0 255 true _ HW1.out).mono ?_);rintro e w' ⟨rfl,⟨nd,rfl⟩⟩)|(go_at_call 34;(with_reducible refine (impl_within.calls 17 1 24 true _ HW2.out).mono ?_);rintro e w' ⟨rfl,⟨nd,rfl⟩⟩)|(go_at_call 34;(with_reducible refine (impl_within.calls a 0 255 true _ HW3.out).mono ?_);rintro e w' ⟨rfl,⟨nd,rfl⟩⟩)|(go_at_call 34;(with_reducible refine (impl_within.calls 2 0 2 true _ HW4.out).mono ?_);rintro e w' ⟨rfl,⟨nd,rfl⟩⟩)|(go_at_call 34;(with_reducible refine (impl_within.calls 2 2 2 true _ HW5.out).mono ?_);rintro e w' ⟨rfl,⟨nd,rfl⟩⟩))
 rw [rounds_succ]
 go_wp2_with (first|(go_at_call 34;(with_reducible refine (impl_within.calls 1 1 24 true _ HW0.out).mono ?_);rintro e w' ⟨rfl,⟨nd,rfl⟩⟩)|(go_at_call 34;(with_reducible refine (impl_within.calls 0 0 255 true _ HW1.out).mono ?_);rintro e w' ⟨rfl,⟨nd,rfl⟩⟩)|(go_at_call 34;(with_reducible refine (impl_within.calls 17 1 24 true _ HW2.out).mono ?_);rintro e w' ⟨rfl,⟨nd,rfl⟩⟩)|(go_at_call 34;(with_reducible refine (impl_within.calls a 0 255 true _ HW3.out).mono ?_);rintro e w' ⟨rfl,⟨nd,rfl⟩⟩)|(go_at_call 34;(with_reducible refine (impl_within.calls 2 0 2 true _ HW4.out).mono ?_);rintro e w' ⟨rfl,⟨nd,rfl⟩⟩)|(go_at_call 34;(with_reducible refine (impl_within.calls 2 2 2 true _ HW5.out).mono ?_);rintro e w' ⟨rfl,⟨nd,rfl⟩⟩))
 refine wp_loop_rounds 3 ?_
 rw [rounds_succ]
 go_wp2_with (first|(go_at_call 34;(with_reducible refine (impl_within.calls 1 1 24 true _ HW0.out).mono ?_);rintro e w' ⟨rfl,⟨nd,rfl⟩⟩)|(go_at_call 34;(with_reducible refine (impl_within.calls 0 0 255 true _ HW1.out).mono ?_);rintro e w' ⟨rfl,⟨nd,rfl⟩⟩)|(go_at_call 34;(with_reducible refine (impl_within.calls 17 1 24 true _ HW2.out).mono ?_);rintro e w' ⟨rfl,⟨nd,rfl⟩⟩)|(go_at_call 34;(with_reducible refine (impl_within.calls a 0 255 true _ HW3.out).mono ?_);rintro e w' ⟨rfl,⟨nd,rfl⟩⟩)|(go_at_call 34;(with_reducible refine (impl_within.calls 2 0 2 true _ HW4.out).mono ?_);rintro e w' ⟨rfl,⟨nd,rfl⟩⟩)|(go_at_call 34;(with_reducible refine (impl_within.calls 2 2 2 true _ HW5.out).mono ?_);rintro e w' ⟨rfl,⟨nd,rfl⟩⟩))
 rw [rounds_succ]
 go_wp2_with (first|(go_at_call 34;(with_reducible refine (impl_within.calls 1 1 24 true _ HW0.out).mono ?_);rintro e w' ⟨rfl,⟨nd,rfl⟩⟩)|(go_at_call 34;(with_reducible refine (impl_within.calls 0 0 255 true _ HW1.out).mono ?_);rintro e w' ⟨rfl,⟨nd,rfl⟩⟩)|(go_at_call 34;(with_reducible refine (impl_within.calls 17 1 24 true _ HW2.out).mono ?_);rintro e w' ⟨rfl,⟨nd,rfl⟩⟩)|(go_at_call 34;(with_reducible refine (impl_within.calls a 0 255 true _ HW3.out).mono ?_);rintro e w' ⟨rfl,⟨nd,rfl⟩⟩)|(go_at_call 34;(with_reducible refine (impl_within.calls 2 0 2 true _ HW4.out).mono ?_);rintro e w' ⟨rfl,⟨nd,rfl⟩⟩)|(go_at_call 34;(with_reducible refine (impl_within.calls 2 2 2 true _ HW5.out).mono ?_);rintro e w' ⟨rfl,⟨nd,rfl⟩⟩))
 rw [rounds_succ]
 go_wp2_with (first|(go_at_call 34;(with_reducible refine (impl_within.calls 1 1 24 true _ HW0.out).mono ?_);rintro e w' ⟨rfl,⟨nd,rfl⟩⟩)|(go_at_call 34;(with_reducible refine (impl_within.calls 0 0 255 true _ HW1.out).mono ?_);rintro e w' ⟨rfl,⟨nd,rfl⟩⟩)|(go_at_call 34;(with_reducible refine (impl_within.calls 17 1 24 true _ HW2.out).mono ?_);rintro e w' ⟨rfl,⟨nd,rfl⟩⟩)|(go_at_call 34;(with_reducible refine (impl_within.calls a 0 255 true _ HW3.out).mono ?_);rintro e w' ⟨rfl,⟨nd,rfl⟩⟩)|(go_at_call 34;(with_reducible refine (impl_within.calls 2 0 2 true _ HW4.out).mono ?_);rintro e w' ⟨rfl,⟨nd,rfl⟩⟩)|(go_at_call 34;(with_reducible refine (impl_within.calls 2 2 2 true _ HW5.out).mono ?_);rintro e w' ⟨rfl,⟨nd,rfl⟩⟩))
 refine name_world fun W hW => ?_
 have i0 : W.heap[w.heap.size]? = some (.cells #[.slice (some ⟨tb,0,none⟩) 1 1,.slice (some ⟨lb,0,none⟩) 2 2,.int .i64 0,.int .i64 2,.int .i64 2] 50 (0,0)):=by rw [← hW];(repeat (first|exact new_at rfl|refine bN ?_ _|refine bA ?_ _))
 have hB : Below w.heap.size w W:=by rw [← hW];repeat (first|exact Below.refl _ _|apply lA|apply lN|apply lD)
 clear hW
 have tbw : W.cell? ⟨tb,0,none⟩ = some (.string ⟨#[120]⟩):=(hB.cell (p:=⟨tb,0,none⟩) hbt).trans HHT.out
 have lw0 : W.cell? ⟨lb,0,none⟩ = some (.int .i64 1):=(hB.cell (p:=⟨lb,0,none⟩) hbl).trans HL0.out
 have lw1 : W.cell? ⟨lb,1,none⟩ = some (.int .i64 0):=(hB.cell (p:=⟨lb,1,none⟩) hbl).trans HL1.out
 have lw2 : W.cell? ⟨lb,2,none⟩ = some (.int .i64 17):=(hB.cell (p:=⟨lb,2,none⟩) hbl).trans HL2.out
 have lw3 : W.cell? ⟨lb,3,none⟩ = some (.int .i64 a):=(hB.cell (p:=⟨lb,3,none⟩) hbl).trans HL3.out
 refine (bpart_f k hk tb lb 2 2 a HA.out W tbw lw0 lw1 lw2 lw3).mono ?_
 rintro e w1 ⟨rfl,hb⟩
 have I1:=aM (bB i0 hb);have B1:=aM (lP hB hb)
 clear i0 hB hb tbw lw0 lw1 lw2 lw3 ht l0 l1 l2 l3
 obtain ⟨a0,a1,a2,a3,a4⟩:=bC5 I1.out
 go_wp2
 go_ret
 exact ⟨rfl,B1.out⟩

set_option maxHeartbeats 4000000 in
set_option maxRecDepth 100000 in
theorem bok_z (w : World) :
  Calls Try.prog 23 #[.agg #[.slice none 0 0,.slice none 0 0,.int .i64 0,.int .i64 0,.int .i64 0]] w fun e w' => e = .returned (.bool true) ∧ Below w.heap.size w w':=by
 have HB:=aM (Below.refl w.heap.size w)
 have hw0 : impl_within.f 0 0 0 = some true:=by decide +kernel
 have HW0:=aM hw0
 clear hw0
 go_enter Try.func23,Try.ntmps23
 go_wp2_with (first|(go_at_call 34;(with_reducible refine (impl_within.calls 0 0 0 true _ HW0.out).mono ?_);rintro e w' ⟨rfl,⟨nd,rfl⟩⟩))
 refine wp_loop_rounds 1 ?_
 rw [rounds_succ]
 go_wp2_with (first|(go_at_call 34;(with_reducible refine (impl_within.calls 0 0 0 true _ HW0.out).mono ?_);rintro e w' ⟨rfl,⟨nd,rfl⟩⟩))
 refine wp_loop_rounds 1 ?_
 rw [rounds_succ]
 go_wp2_with (first|(go_at_call 34;(with_reducible refine (impl_within.calls 0 0 0 true _ HW0.out).mono ?_);rintro e w' ⟨rfl,⟨nd,rfl⟩⟩))
 refine name_world fun W hW => ?_
 have i0 : W.heap[w.heap.size]? = some (.cells #[.slice none 0 0,.slice none 0 0,.int .i64 0,.int .i64 0,.int .i64 0] 50 (0,0)):=by rw [← hW];(repeat (first|exact new_at rfl|refine bN ?_ _|refine bA ?_ _))
 have hB : Below w.heap.size w W:=by rw [← hW];repeat (first|exact Below.refl _ _|apply lA|apply lN|apply lD)
 clear hW
 refine (bpart_z none none 0 0 0 0 0 0 0 0 (by decide) (by decide) W).mono ?_
 rintro e w1 ⟨rfl,hb⟩
 have I1:=aM (bB i0 hb);have B1:=aM (lP hB hb)
 clear i0 hB hb
 obtain ⟨a0,a1,a2,a3,a4⟩:=bC5 I1.out
 go_wp2_with fail
 refine (bpart_z none none 0 0 0 0 0 0 0 0 (by decide) (by decide) _).mono ?_
 rintro e w2 ⟨rfl,hb⟩
 have I2:=aM (bB I1.out hb);have B2:=aM (lP B1.out hb)
 clear hb a0 a1 a2 a3 a4
 obtain ⟨a0,a1,a2,a3,a4⟩:=bC5 I2.out
 go_wp2_with fail
 refine (bpart_z none none 0 0 0 0 0 0 0 0 (by decide) (by decide) _).mono ?_
 rintro e w3 ⟨rfl,hb⟩
 have I3:=aM (bB I2.out hb);have B3:=aM (lP B2.out hb)
 clear hb a0 a1 a2 a3 a4
 go_wp2
 go_ret
 exact ⟨rfl,B3.out⟩

set_option maxHeartbeats 4000000 in
set_option maxRecDepth 100000 in
theorem broken_walk (k : Nat) (hk : 200 ≤ k) (A0 : Option Addr) (c0 : Nat) (l0 : List Int) (p : List Int) (w : World)
  (hr0 : Kd.C (Kd.int .u8) w A0 l0.length l0) (hc0 : l0.length ≤ c0) (a1 : laws_big.f l0 = some false) (a3 : spec_DrawPlaces.f k l0 = some p) (hpl : p.length = 12) (hp0 : 0 ≤ rd p 0 ∧ rd p 0 < 10000) :
  Calls Try.prog 6 #[.slice A0 l0.length c0] w fun e w' => e = .returned (.bool true) ∧ Below w.heap.size w w':=by
 have HR0:=aM hr0;have HC0:=aM hc0;have A1:=aM a1;have A3:=aM a3;have HL:=aM hpl;have HP0:=aM hp0
 clear hr0 hc0 a1 a3 hpl hp0
 go_enter Try.func6,Try.ntmps6
 go_wp2_with fail
 refine (laws_big.calls _ _ l0 false _ HR0.out HC0.out A1.out).mono ?_
 rintro e w1 ⟨rfl,⟨nd,rfl⟩⟩
 go_wp2_with fail
 refine name_world fun W hW => ?_
 have hsz : W.heap.size = w.heap.size + 10:=by rw [← hW];simp
 have i_t : W.heap[w.heap.size]? = some (.cells #[.string ⟨#[120]⟩] 9 (0,0)):=by rw [← hW];exact bA (bA (bA (bA (bA (bA (bA (bA (bA (new_at (by simp)) _) _) _) _) _) _) _) _) _
 have i_la : W.heap[w.heap.size + 1]? = some (.cells #[.int .i64 1,.int .i64 0,.int .i64 17,.int .i64 0] 47 (0,0)):=by rw [← hW];exact bA (bA (bA (bA (bA (bA (bA (bA (new_at (by simp)) _) _) _) _) _) _) _) _
 have i_a : W.heap[w.heap.size + 1 + 1]? = some (.cells #[.slice (some ⟨w.heap.size,0,none⟩) 1 1,.slice (some ⟨w.heap.size + 1,0,none⟩) 2 2,.int .i64 0,.int .i64 2,.int .i64 2] 50 (0,0)):=by rw [← hW];exact bA (bA (bA (bA (bA (bA (bA (new_at (by simp)) _) _) _) _) _) _) _
 have i_b : W.heap[w.heap.size + 1 + 1 + 1]? = some (.cells #[.slice (some ⟨w.heap.size,0,none⟩) 1 1,.slice (some ⟨w.heap.size + 1 + 1 + 1 + 1,0,none⟩) 1 1,.int .i64 0,.int .i64 1,.int .i64 1] 50 (0,0)):=by rw [← hW];exact bA (bA (bA (bA (bA (bA (new_at (by simp)) _) _) _) _) _) _
 have i_lb : W.heap[w.heap.size + 1 + 1 + 1 + 1]? = some (.cells #[.int .i64 17,.int .i64 0] 47 (0,0)):=by rw [← hW];exact bA (bA (bA (bA (bA (new_at (by simp)) _) _) _) _) _
 have i_d : W.heap[w.heap.size + 1 + 1 + 1 + 1 + 1]? = some (.cells #[.slice (some ⟨w.heap.size,0,none⟩) 1 1,.slice (some ⟨w.heap.size + 1 + 1 + 1 + 1 + 1 + 1,0,none⟩) 1 1,.int .i64 0,.int .i64 1,.int .i64 1] 50 (0,0)):=by rw [← hW];exact bA (bA (bA (bA (new_at (by simp)) _) _) _) _
 have i_ld : W.heap[w.heap.size + 1 + 1 + 1 + 1 + 1 + 1]? = some (.cells #[.int .i64 1,.int .i64 0] 47 (0,0)):=by rw [← hW];exact bA (bA (bA (new_at (by simp)) _) _) _
 have i_e : W.heap[w.heap.size + 1 + 1 + 1 + 1 + 1 + 1 + 1]? = some (.cells #[.slice (some ⟨w.heap.size,0,none⟩) 1 1,.slice (some ⟨w.heap.size + 1 + 1 + 1 + 1 + 1 + 1 + 1 + 1,0,none⟩) 2 2,.int .i64 0,.int .i64 2,.int .i64 2] 50 (0,0)):=by rw [← hW];exact bA (bA (new_at (by simp)) _) _
 have i_le : W.heap[w.heap.size + 1 + 1 + 1 + 1 + 1 + 1 + 1 + 1]? = some (.cells #[.int .i64 1,.int .i64 0,.int .i64 21,.int .i64 0] 47 (0,0)):=by rw [← hW];exact bA (new_at (by simp)) _
 have i_f : W.heap[w.heap.size + 1 + 1 + 1 + 1 + 1 + 1 + 1 + 1 + 1]? = some (.cells #[.slice (some ⟨w.heap.size,0,none⟩) 1 1,.slice (some ⟨w.heap.size + 1,0,none⟩) 2 2,.int .i64 0,.int .i64 2,.int .i64 2] 50 (0,0)):=by rw [← hW];exact new_at (by simp)
 have hB : Below w.heap.size w W:=by rw [← hW];repeat (first|exact Below.refl _ _|apply lA|apply lN|apply lD)
 clear hW
 refine (spec_DrawPlaces.calls k _ _ l0 p _ (cB HR0.out hB) HC0.out A3.out).mono ?_
 rintro e w2 ⟨v0,rfl,ho,hb⟩
 obtain ⟨ad,co,eo⟩:=Kd.R_slice1 ho (by have:=HL.out;omega)
 subst eo
 obtain ⟨ad0,e0,hx0⟩:=Kd.at_int (rR ho).2.2 0 (by omega) (by have:=HL.out;omega)
 cases e0
 (try rw [show ((0 : Int)).toNat = 0 from rfl] at hx0);(try rw [Addr.add_zero'] at hx0)
 have q0 : (0 < p.length) = True:=eq_true (by have:=HL.out;omega)
 obtain ⟨z0,hz1⟩ : ∃ z0 : Int,(rd p 0).tmod 200 = z0:=⟨_,rfl⟩
 have hz2 : 0 ≤ z0 ∧ z0 ≤ 199:=by
  have h1:=HP0.out
  rw [← hz1,Int.tmod_eq_emod_of_nonneg h1.1]
  omega
 have HZ2:=aM hz2
 have hz3 : IntKind.i64.wrap (1 + z0) = 1 + z0:=by rw [IntKind.wrap_i64];omega
 have j_t:=aM (bB i_t hb)
 have j_la:=aM (bB i_la hb)
 have j_a:=aM (bB i_a hb)
 have j_b:=aM (bB i_b hb)
 have j_lb:=aM (bB i_lb hb)
 have j_d:=aM (bB i_d hb)
 have j_ld:=aM (bB i_ld hb)
 have j_e:=aM (bB i_e hb)
 have j_le:=aM (bB i_le hb)
 have j_f:=aM (bB i_f hb)
 have B2:=aM (lP hB hb)
 have s2 : w.heap.size + 10 ≤ w2.heap.size:=by have:=hb.size;omega
 clear hz2 ho hb hB hsz i_t i_la i_a i_b i_lb i_d i_ld i_e i_le i_f
 obtain ⟨f0,f1,f2,f3,f4⟩:=bC5 j_f.out
 have ff1:=bF j_f.out 1
 obtain ⟨c0_,c1_,c2_,c3_,c4_⟩:=bC5 j_a.out
 have s3 : w.heap.size + 1 + 1 + 1 + 1 + 1 + 1 + 1 + 1 + 1 < w2.heap.size:=by omega
 have s4 : w.heap.size + 1 + 1 < w2.heap.size:=by omega
 go_wp2_with fail
 refine name_world fun V hV => ?_
 have k_t:=aM (show V.heap[w.heap.size]? = some (.cells #[.string ⟨#[120]⟩] 9 (0,0)) from by rw [← hV];exact bA ((Below.heap_setCell w2 _ _ _ (by simp;try omega)).trans j_t.out) _)
 have k_la:=aM (show V.heap[w.heap.size + 1]? = some (.cells #[.int .i64 1,.int .i64 0,.int .i64 17,.int .i64 0] 47 (0,0)) from by rw [← hV];exact bA ((Below.heap_setCell w2 _ _ _ (by simp;try omega)).trans j_la.out) _)
 have k_a:=aM (show V.heap[w.heap.size + 1 + 1]? = some (.cells #[.slice (some ⟨w.heap.size,0,none⟩) 1 1,.slice (some ⟨w.heap.size + 1,0,none⟩) 2 2,.int .i64 0,.int .i64 2,.int .i64 2] 50 (0,0)) from by rw [← hV];exact bA ((Below.heap_setCell w2 _ _ _ (by simp;try omega)).trans j_a.out) _)
 have k_b:=aM (show V.heap[w.heap.size + 1 + 1 + 1]? = some (.cells #[.slice (some ⟨w.heap.size,0,none⟩) 1 1,.slice (some ⟨w.heap.size + 1 + 1 + 1 + 1,0,none⟩) 1 1,.int .i64 0,.int .i64 1,.int .i64 1] 50 (0,0)) from by rw [← hV];exact bA ((Below.heap_setCell w2 _ _ _ (by simp;try omega)).trans j_b.out) _)
 have k_lb:=aM (show V.heap[w.heap.size + 1 + 1 + 1 + 1]? = some (.cells #[.int .i64 17,.int .i64 0] 47 (0,0)) from by rw [← hV];exact bA ((Below.heap_setCell w2 _ _ _ (by simp;try omega)).trans j_lb.out) _)
 have k_d:=aM (show V.heap[w.heap.size + 1 + 1 + 1 + 1 + 1]? = some (.cells #[.slice (some ⟨w.heap.size,0,none⟩) 1 1,.slice (some ⟨w.heap.size + 1 + 1 + 1 + 1 + 1 + 1,0,none⟩) 1 1,.int .i64 0,.int .i64 1,.int .i64 1] 50 (0,0)) from by rw [← hV];exact bA ((Below.heap_setCell w2 _ _ _ (by simp;try omega)).trans j_d.out) _)
 have k_ld:=aM (show V.heap[w.heap.size + 1 + 1 + 1 + 1 + 1 + 1]? = some (.cells #[.int .i64 1,.int .i64 0] 47 (0,0)) from by rw [← hV];exact bA ((Below.heap_setCell w2 _ _ _ (by simp;try omega)).trans j_ld.out) _)
 have k_e:=aM (show V.heap[w.heap.size + 1 + 1 + 1 + 1 + 1 + 1 + 1]? = some (.cells #[.slice (some ⟨w.heap.size,0,none⟩) 1 1,.slice (some ⟨w.heap.size + 1 + 1 + 1 + 1 + 1 + 1 + 1 + 1,0,none⟩) 2 2,.int .i64 0,.int .i64 2,.int .i64 2] 50 (0,0)) from by rw [← hV];exact bA ((Below.heap_setCell w2 _ _ _ (by simp;try omega)).trans j_e.out) _)
 have k_le:=aM (show V.heap[w.heap.size + 1 + 1 + 1 + 1 + 1 + 1 + 1 + 1]? = some (.cells #[.int .i64 1,.int .i64 0,.int .i64 21,.int .i64 0] 47 (0,0)) from by rw [← hV];exact bA ((Below.heap_setCell w2 _ _ _ (by simp;try omega)).trans j_le.out) _)
 have k_f:=aM (show V.heap[w.heap.size + 1 + 1 + 1 + 1 + 1 + 1 + 1 + 1 + 1]? = some (.cells #[.slice (some ⟨w.heap.size,0,none⟩) 1 1,.slice (some ⟨w2.heap.size,0,none⟩) 2 2,.int .i64 0,.int .i64 2,.int .i64 2] 50 (0,0)) from by rw [← hV];exact bA (blk_put j_f.out 1 _ rfl) _)
 have k_lf:=aM (show V.heap[w2.heap.size]? = some (.cells #[.int .i64 1,.int .i64 0,.int .i64 17,.int .i64 (1 + z0)] 47 (0,0)) from by rw [← hV];exact new_at (by simp))
 have B3:=aM (show Below w.heap.size w V from by rw [← hV];exact lA (lS B2.out (by omega)) _)
 clear hV f0 f1 f2 f3 f4 ff1 c0_ c1_ c2_ c3_ c4_ s2 s3 s4 hx0 hz1 hz3 q0 B2 j_t j_la j_a j_b j_lb j_d j_ld j_e j_le j_f
 refine (bok_a k hk w.heap.size (w.heap.size + 1) _ ((bC k_t.out 0).trans rfl) ((bC k_la.out 0).trans rfl) ((bC k_la.out 1).trans rfl) ((bC k_la.out 2).trans rfl) ((bC k_la.out 3).trans rfl)).mono ?_
 rintro e v0 ⟨rfl,hb⟩
 have m_t:=aM (bB k_t.out hb)
 have m_la:=aM (bB k_la.out hb)
 have m_a:=aM (bB k_a.out hb)
 have m_b:=aM (bB k_b.out hb)
 have m_lb:=aM (bB k_lb.out hb)
 have m_d:=aM (bB k_d.out hb)
 have m_ld:=aM (bB k_ld.out hb)
 have m_e:=aM (bB k_e.out hb)
 have m_le:=aM (bB k_le.out hb)
 have m_f:=aM (bB k_f.out hb)
 have m_lf:=aM (bB k_lf.out hb)
 have B4:=aM (lP B3.out hb)
 clear hb k_t k_la k_a k_b k_lb k_d k_ld k_e k_le k_f k_lf
 obtain ⟨c0_,c1_,c2_,c3_,c4_⟩:=bC5 m_b.out
 go_wp2_with fail
 refine (bok_b k hk w.heap.size (w.heap.size + 1 + 1 + 1 + 1) _ ((bC m_t.out 0).trans rfl) ((bC m_lb.out 0).trans rfl) ((bC m_lb.out 1).trans rfl)).mono ?_
 rintro e v1 ⟨rfl,hb⟩
 have n_t:=aM (bB m_t.out hb)
 have n_la:=aM (bB m_la.out hb)
 have n_a:=aM (bB m_a.out hb)
 have n_b:=aM (bB m_b.out hb)
 have n_lb:=aM (bB m_lb.out hb)
 have n_d:=aM (bB m_d.out hb)
 have n_ld:=aM (bB m_ld.out hb)
 have n_e:=aM (bB m_e.out hb)
 have n_le:=aM (bB m_le.out hb)
 have n_f:=aM (bB m_f.out hb)
 have n_lf:=aM (bB m_lf.out hb)
 have B5:=aM (lP B4.out hb)
 clear hb m_t m_la m_a m_b m_lb m_d m_ld m_e m_le m_f m_lf c0_ c1_ c2_ c3_ c4_
 obtain ⟨c0_,c1_,c2_,c3_,c4_⟩:=bC5 n_d.out
 go_wp2_with fail
 refine (bok_d k hk w.heap.size (w.heap.size + 1 + 1 + 1 + 1 + 1 + 1) _ ((bC n_t.out 0).trans rfl) ((bC n_ld.out 0).trans rfl) ((bC n_ld.out 1).trans rfl)).mono ?_
 rintro e v2 ⟨rfl,hb⟩
 have o_t:=aM (bB n_t.out hb)
 have o_la:=aM (bB n_la.out hb)
 have o_a:=aM (bB n_a.out hb)
 have o_b:=aM (bB n_b.out hb)
 have o_lb:=aM (bB n_lb.out hb)
 have o_d:=aM (bB n_d.out hb)
 have o_ld:=aM (bB n_ld.out hb)
 have o_e:=aM (bB n_e.out hb)
 have o_le:=aM (bB n_le.out hb)
 have o_f:=aM (bB n_f.out hb)
 have o_lf:=aM (bB n_lf.out hb)
 have B6:=aM (lP B5.out hb)
 clear hb n_t n_la n_a n_b n_lb n_d n_ld n_e n_le n_f n_lf c0_ c1_ c2_ c3_ c4_
 obtain ⟨c0_,c1_,c2_,c3_,c4_⟩:=bC5 o_e.out
 go_wp2_with fail
 refine (bok_e k hk w.heap.size (w.heap.size + 1 + 1 + 1 + 1 + 1 + 1 + 1 + 1) _ ((bC o_t.out 0).trans rfl) ((bC o_le.out 0).trans rfl) ((bC o_le.out 1).trans rfl) ((bC o_le.out 2).trans rfl) ((bC o_le.out 3).trans rfl)).mono ?_
 rintro e v3 ⟨rfl,hb⟩
 have p__t:=aM (bB o_t.out hb)
 have p__la:=aM (bB o_la.out hb)
 have p__a:=aM (bB o_a.out hb)
 have p__b:=aM (bB o_b.out hb)
 have p__lb:=aM (bB o_lb.out hb)
 have p__d:=aM (bB o_d.out hb)
 have p__ld:=aM (bB o_ld.out hb)
 have p__e:=aM (bB o_e.out hb)
 have p__le:=aM (bB o_le.out hb)
 have p__f:=aM (bB o_f.out hb)
 have p__lf:=aM (bB o_lf.out hb)
 have B7:=aM (lP B6.out hb)
 clear hb o_t o_la o_a o_b o_lb o_d o_ld o_e o_le o_f o_lf c0_ c1_ c2_ c3_ c4_
 obtain ⟨c0_,c1_,c2_,c3_,c4_⟩:=bC5 p__f.out
 go_wp2_with fail
 refine (bok_f k hk w.heap.size (w2.heap.size) (1 + z0) (by have:=HZ2.out;omega) (by have:=HZ2.out;omega) _ ((bC p__t.out 0).trans rfl) ((bC p__lf.out 0).trans rfl) ((bC p__lf.out 1).trans rfl) ((bC p__lf.out 2).trans rfl) ((bC p__lf.out 3).trans rfl)).mono ?_
 rintro e v4 ⟨rfl,hb⟩
 have q_t:=aM (bB p__t.out hb)
 have q_la:=aM (bB p__la.out hb)
 have q_a:=aM (bB p__a.out hb)
 have q_b:=aM (bB p__b.out hb)
 have q_lb:=aM (bB p__lb.out hb)
 have q_d:=aM (bB p__d.out hb)
 have q_ld:=aM (bB p__ld.out hb)
 have q_e:=aM (bB p__e.out hb)
 have q_le:=aM (bB p__le.out hb)
 have q_f:=aM (bB p__f.out hb)
 have q_lf:=aM (bB p__lf.out hb)
 have B8:=aM (lP B7.out hb)
 clear hb p__t p__la p__a p__b p__lb p__d p__ld p__e p__le p__f p__lf c0_ c1_ c2_ c3_ c4_
 go_wp2_with fail
 refine (bok_z _).mono ?_
 rintro e v5 ⟨rfl,hb⟩
 have B9:=aM (lP B8.out hb)
 clear hb q_t q_la q_a q_b q_lb q_d q_ld q_e q_le q_f q_lf
 go_wp2
 go_ret
 exact ⟨rfl,B9.out⟩
def laws_FnBroken.f (k : Nat) (l0 : List Int) : Option Bool:=
 (laws_big.f l0).bind fun g => if g = true then some true else
 (spec_DrawPlaces.f k l0).bind fun p => if 200 ≤ k ∧ p.length = 12 ∧ (0 ≤ rd p 0 ∧ rd p 0 < 10000) then some true else none
theorem laws_FnBroken.calls (k : Nat) (A0 : Option Addr) (c0 : Nat) (l0 : List Int) (r : Bool) (w : World) (hr0 : Kd.C (Kd.int .u8) w A0 l0.length l0) (hc0 : l0.length ≤ c0) (h : laws_FnBroken.f k l0 = some r) :
  Calls Try.prog 6 #[.slice A0 l0.length c0] w fun e w' => e = .returned (.bool r) ∧ Below w.heap.size w w':=by
 unfold laws_FnBroken.f at h
 obtain ⟨g,a1,h⟩:=Option.bind_eq_some_iff.mp h
 by_cases c : g = true
 ·subst c
  rw [if_pos rfl] at h
  obtain rfl:=Option.some.inj h
  have HR0:=aM hr0;have HC0:=aM hc0;have A1:=aM a1
  clear hr0 hc0 a1 h
  have HB:=aM (Below.refl w.heap.size w)
  go_enter Try.func6,Try.ntmps6
  go_wp2_with (go_at_call 21;(with_reducible refine (laws_big.calls _ _ l0 true _ HR0.out HC0.out A1.out).mono ?_);rintro e w' ⟨rfl,⟨nd,rfl⟩⟩)
  go_ret
  exact ⟨rfl,by repeat (first|(with_reducible first|exact HB.out|apply lA|apply lN|apply lD)|exact HB.out)⟩
 ·rw [if_neg c] at h
  obtain rfl : g = false:=Bool.eq_false_iff.mpr c
  obtain ⟨p,a3,h⟩:=Option.bind_eq_some_iff.mp h
  split at h
  ·next hc =>
   obtain ⟨q1,q2,q3⟩:=hc
   obtain rfl:=Option.some.inj h
   exact broken_walk k q1 A0 c0 l0 p w hr0 hc0 a1 a3 q2 q3
  ·cases h
def laws_FnBroken.Pure : Prop:=∀ (l0 : List Int),l0.length ≤ maxLen → l0.length * 1 ≤ 140737488351232 → (∀ x ∈ l0,(Lit.int .u8 x).wf = true) → ∃ k,laws_FnBroken.f k l0 = some true
theorem laws_FnBroken.walk (P : laws_FnBroken.Pure) (a0 : Option Addr) (len0 cap0 : Nat) (z0 : List Int) (w : World) (w0 : (a0 = none ∧ len0 = 0 ∧ cap0 = 0 ∧ z0 = []) ∨ ∃ x,a0 = some x ∧ len0 ≤ cap0 ∧ cap0 ≤ maxLen ∧ z0.length = cap0 ∧ (∀ i,i < z0.length → w.cell? (x.add i) = some (.int .u8 (z0.getD i 0))) ∧ ∀ n ∈ z0,(Lit.int .u8 n).wf = true) (y0 : len0 * 1 ≤ 140737488351232) :
 Calls Try.prog 6 #[.slice a0 len0 cap0] w fun e w' => e = .returned (.bool true) ∧ Below w.heap.size w w':=by
 obtain ⟨l0,rfl,hr0,hm0,hw0,hc0⟩:=ReadsInt.ofRowC w0
 obtain ⟨k,h⟩:=P l0 hm0 y0 hw0
 refine (laws_FnBroken.calls k _ _ l0 true w (Kd.C_of_reads (d:=(0 : Int)) (h1:=fun _ => rfl) hr0) hc0 h).mono ?_
 rintro e w' ⟨rfl,hd⟩
 exact ⟨rfl,hd⟩


end Go.Proofs.Ytnjomkadjcjcnaa.QFnBroken
