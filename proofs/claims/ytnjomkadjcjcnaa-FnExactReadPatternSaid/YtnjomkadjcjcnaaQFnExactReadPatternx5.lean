-- A text of this session, made by wip/own_print.py (the kit's print with additions of ours).
import Derived.Test.YtnjomkadjcjcnaaQFnExactReadPatternx0
import Derived.Test.YtnjomkadjcjcnaaQFnExactReadPatternx1
import Derived.Test.YtnjomkadjcjcnaaQFnExactReadPatternx2
import Derived.Test.YtnjomkadjcjcnaaQFnExactReadPatternx4
namespace Go.Proofs.Ytnjomkadjcjcnaa.QFnExactReadPattern
open Go.RowKit Go.Proofs.YtnjomkadjcjcnaaW.PrintWords Go.Proofs.YtnjomkadjcjcnaaW.PrintLast Go.Proofs.YtnjomkadjcjcnaaW.PrintMore
attribute [local go_sem] max2_int min2_int max_two min_two max_three min_three max_four min_four   -- for this text's walks alone
set_option linter.unusedVariables false
set_option linter.unusedSimpArgs false
open Bool renaming true → bT, false → bf
open Go.Proofs.YtnjomkadjcjcnaaW.PrintWords.Kd renaming R_alloc → rA, R_drewN → rN, R_drew → rD, C_alloc → cA, C_drewN → cN, C_drew → cD, R_far → rF, R_below → rB, R_lower → rL, R_lt → rT, R_base → rS, C_below → cB, R_types → rY, R_elder' → rE, R_reads' → rR, R_new' → rW
open Go.Proofs.YtnjomkadjcjcnaaW.PrintWords renaming blk_drewN → bN, blk_drew → bD, blk_alloc → bA, below_set → lS, pw_below_drewN → lN, below_drew1 → lD, below_alloc → lA, blk_cell → bC, blk_below → bB, below_size → lZ, below_step → lP, blk_lt → bL, blk_frozen → bF
open Go.Proofs.YtnjomkadjcjcnaaW.PrintWords.Aside0 renaming mk → aM
theorem q_ia4 {α : Type} (l : List α) (i : Nat) (a : α) : l.toArray.setIfInBounds i a = (l.set i a).toArray := List.setIfInBounds_toArray ..
theorem q_cz4 {α : Type} (a b : α) (l : List α) : (a :: l).set 0 b = b :: l := rfl
theorem q_cs4 {α : Type} (a b : α) (l : List α) (n : Nat) : (a :: l).set (n + 1) b = a :: l.set n b := rfl

/-! ### laws_FnExactReadPattern: function 5 -/
set_option maxHeartbeats 4000000
set_option maxRecDepth 100000
/-! The reader of patterns as one plain function over texts: none where there is no pattern. -/
def hdB (t : ByteArray) (c : Int) : Bool := decide (0 < t.size ∧ bt t 0 = c)
def tl (t : ByteArray) : ByteArray := t.extract 1 t.size
def spB (c : Int) : Bool := decide (c ∈ [(42 : Int), 43, 63, 124, 40, 41, 91, 93, 46, 94, 36, 92])
def stopB (t : ByteArray) : Bool := decide (t.size = 0) || hdB t 124 || hdB t 41
abbrev PR := Option (Int × ByteArray × List S85)
def eb : ByteArray := ⟨#[]⟩
def pSet (t : ByteArray) (ps : List S85) : PR :=
 if Go.Lib.indexByte (if hdB t 94 = true then tl t else t).data.toList 93 ≤ 0 then none else
 some (ps.length, (if hdB t 94 = true then tl t else t).extract ((Go.Lib.indexByte (if hdB t 94 = true then tl t else t).data.toList 93).toNat + 1) (if hdB t 94 = true then tl t else t).size,
  ps ++ [⟨if hdB t 94 = true then 4 else 3, (if hdB t 94 = true then tl t else t).extract 0 (Go.Lib.indexByte (if hdB t 94 = true then tl t else t).data.toList 93).toNat, []⟩])
def pOne (sg : Bool) (u : ByteArray) (ps : List S85) : PR :=
 if u.size = 0 ∨ sg ≠ spB (bt u 0) then none else some (ps.length, tl u, ps ++ [⟨1, u.extract 0 1, []⟩])
def pSingle (t : ByteArray) (ps : List S85) : PR := if hdB t 92 = true then pOne true (tl t) ps else pOne false t ps
def pGroup (alt : ByteArray → List S85 → PR) (t : ByteArray) (ps : List S85) : PR := (alt t ps).bind fun x => if hdB x.2.1 41 = true then some (x.1, tl x.2.1, x.2.2) else none
def pBase (alt : ByteArray → List S85 → PR) (t : ByteArray) (ps : List S85) : PR :=
 if hdB t 94 = true then some (ps.length, tl t, ps ++ [⟨10, eb, []⟩]) else if hdB t 36 = true then some (ps.length, tl t, ps ++ [⟨11, eb, []⟩]) else if hdB t 46 = true then some (ps.length, tl t, ps ++ [⟨2, eb, []⟩])
 else if hdB t 91 = true then pSet (tl t) ps else if hdB t 40 = true then pGroup alt (tl t) ps else pSingle t ps
def pStar : Nat → Int → ByteArray → List S85 → PR
 | 0, _, _, _ => none
 | n + 1, k, t, ps => if hdB t 42 = true then pStar n ps.length (tl t) (ps ++ [⟨7, eb, [k]⟩]) else if hdB t 43 = true then pStar n ps.length (tl t) (ps ++ [⟨8, eb, [k]⟩]) else if hdB t 63 = true then pStar n ps.length (tl t) (ps ++ [⟨9, eb, [k]⟩]) else some (k, t, ps)
def pThing (alt : ByteArray → List S85 → PR) (t : ByteArray) (ps : List S85) : PR := (pBase alt t ps).bind fun x => pStar 50 x.1 x.2.1 x.2.2
def pRowL (alt : ByteArray → List S85 → PR) : Nat → Int → ByteArray → List S85 → PR
 | 0, _, _, _ => none
 | n + 1, k, t, ps => if stopB t = true then some (k, t, ps) else (pThing alt t ps).bind fun x => pRowL alt n x.2.2.length x.2.1 (x.2.2 ++ [⟨5, eb, [k, x.1]⟩])
def pRow (alt : ByteArray → List S85 → PR) (t : ByteArray) (ps : List S85) : PR := if stopB t = true then some (ps.length, t, ps ++ [⟨12, eb, []⟩]) else (pThing alt t ps).bind fun x => pRowL alt 50 x.1 x.2.1 x.2.2
def pAltL (alt : ByteArray → List S85 → PR) : Nat → Int → ByteArray → List S85 → PR
 | 0, _, _, _ => none
 | n + 1, k, t, ps => if hdB t 124 = true then (pRow alt (tl t) ps).bind fun x => pAltL alt n x.2.2.length x.2.1 (x.2.2 ++ [⟨6, eb, [k, x.1]⟩]) else some (k, t, ps)
def pAlt : Nat → ByteArray → List S85 → PR
 | 0, _, _ => none
 | d + 1, t, ps => (pRow (pAlt d) t ps).bind fun x => pAltL (pAlt d) 50 x.1 x.2.1 x.2.2
theorem hd_pos {t : ByteArray} {c : Int} (h : hdB t c = true) : 0 < t.size := (of_decide_eq_true h).1
theorem hd_bt {t : ByteArray} {c : Int} (h : hdB t c = true) : bt t 0 = c := (of_decide_eq_true h).2
theorem tl_size (t : ByteArray) : (tl t).size = t.size - 1 := by unfold tl; simp
theorem ris (g : Nat) (t : ByteArray) (V : Value) (b : Bool) (c : Int) (w : World) (h : w.heap[g]? = some (.cells #[.string t, V, .bool b] 76 (0, 0))) :
  Calls Try.prog 76 #[.pointer (some ⟨g, 0, none⟩), .int .u8 c] w fun e w' => e = .returned (.bool (hdB t c)) ∧ w = w' := by
 obtain ⟨⟨h0, h1, h2⟩, f0, f1, f2⟩ := bC3 h
 clear h
 by_cases hz : t.size = 0
 ·have e : hdB t c = false := decide_eq_false (by omega)
  rw [e]
  have e1 : t.toList.isEmpty = true := by
   have : t.toList.length = 0 := by rw [ByteArray.toList_eq, data_length]; exact hz
   rw [List.length_eq_zero_iff] at this
   rw [this]; rfl
  have e2 : (t.toList == ([] : List UInt8)) = true := by
   have := List.isEmpty_iff.1 e1
   rw [this]; rfl
  clear e hz
  go_enter Try.func76, Try.ntmps76
  go_wp2
  go_ret
  exact ⟨rfl, rfl⟩
 ·have e1 : t.toList.isEmpty = false := by
   have : t.toList.length ≠ 0 := by rw [ByteArray.toList_eq, data_length]; exact hz
   cases hl : t.toList with
   | nil => rw [hl] at this; exact absurd rfl this
   | cons _ _ => rfl
  have e2 : (t.toList == ([] : List UInt8)) = false := by
   cases hl : t.toList with
   | nil => rw [hl] at e1; cases e1
   | cons _ _ => rfl
  have hp : 0 < t.size := by omega
  have hb : (((t[0]'hp).toNat : Int) == c) = hdB t c := by
   have := bt_at t 0 hp
   unfold hdB
   rw [show ((t[0]'hp).toNat : Int) = bt t 0 from this]
   by_cases hc : bt t 0 = c
   ·rw [decide_eq_true ⟨hp, hc⟩]; simpa using hc
   ·rw [decide_eq_false (fun h => hc h.2)]; simpa using hc
  generalize hdB t c = q at hb ⊢
  go_enter Try.func76, Try.ntmps76
  go_wp2
  go_ret
  exact ⟨rfl, rfl⟩
def StS (w0 W : World) (g : Nat) (t : ByteArray) (ps : List S85) (b : Bool) : Prop :=
 ∃ A c, W.heap[g]? = some (.cells #[.string t, .slice A ps.length c, .bool b] 76 (0, 0)) ∧ w0.heap.size ≤ g ∧ Kd.S k85 85 W w0.heap.size (fun k => k ≠ g) (.slice A ps.length c) ps ∧ Below w0.heap.size w0 W
theorem StS.text {w0 w : World} {g : Nat} {t : ByteArray} {ps : List S85} {b : Bool} (h : StS w0 w g t ps b) (t' : ByteArray) : StS w0 (w.setCell ⟨g, 0, none⟩ (.string t')) g t' ps b := by
 obtain ⟨A, c, hb, hg, hR, hB⟩ := h
 exact ⟨A, c, blk_put hb 0 _ rfl, hg, Kd.S_far (p := ⟨g, 0, none⟩) hR (fun k hk => hk) _, lS hB hg⟩
theorem StS.bad {w0 w : World} {g : Nat} {t : ByteArray} {ps : List S85} {b : Bool} (h : StS w0 w g t ps b) : StS w0 (w.setCell ⟨g, 2, none⟩ (.bool true)) g t ps true := by
 obtain ⟨A, c, hb, hg, hR, hB⟩ := h
 exact ⟨A, c, blk_put hb 2 _ rfl, hg, Kd.S_far (p := ⟨g, 2, none⟩) hR (fun k hk => hk) _, lS hB hg⟩
theorem StS.drewN {w0 w : World} {g : Nat} {t : ByteArray} {ps : List S85} {b : Bool} (h : StS w0 w g t ps b) (n : Nat) : StS w0 (w.drewN n) g t ps b := by
 obtain ⟨A, c, hb, hg, hR, hB⟩ := h
 exact ⟨A, c, bN hb _, hg, Kd.S_drewN hR _, lN hB _⟩
theorem StS.alloc {w0 w : World} {g : Nat} {t : ByteArray} {ps : List S85} {b : Bool} (h : StS w0 w g t ps b) (o : Obj) : StS w0 (w.alloc o) g t ps b := by
 obtain ⟨A, c, hb, hg, hR, hB⟩ := h
 exact ⟨A, c, bA hb _, hg, Kd.S_alloc hR _, lA hB _⟩
theorem StS.blk {w0 w : World} {g : Nat} {t : ByteArray} {ps : List S85} {b : Bool} (h : StS w0 w g t ps b) : ∃ V, w.heap[g]? = some (.cells #[.string t, V, .bool b] 76 (0, 0)) := by
 obtain ⟨A, c, hb, _⟩ := h
 exact ⟨_, hb⟩
theorem risS (g : Nat) (t : ByteArray) (ps : List S85) (b : Bool) (c : Int) (w0 w : World) (h : StS w0 w g t ps b) :
  Calls Try.prog 76 #[.pointer (some ⟨g, 0, none⟩), .int .u8 c] w fun e w' => e = .returned (.bool (hdB t c)) ∧ w = w' := by
 obtain ⟨V, hb⟩ := h.blk
 exact ris g t V b c w hb
theorem rtake_f (g : Nat) (t : ByteArray) (ps : List S85) (b : Bool) (c : Int) (hc : hdB t c = false) (w0 w : World) (h : StS w0 w g t ps b) :
  Calls Try.prog 59 #[.pointer (some ⟨g, 0, none⟩), .int .u8 c] w fun e w' => e = .returned (.bool false) ∧ w = w' := by
 have HS := aM h
 have hr := risS g t ps b c w0 w h
 rw [hc] at hr
 have HR := aM hr
 clear h hr hc
 go_enter Try.func59, Try.ntmps59
 go_wp2_with (go_at_call 76; refine HR.out.mono ?_; rintro e w' ⟨rfl, rfl⟩)
 go_ret
 exact ⟨rfl, rfl⟩
theorem rtake_t (g : Nat) (t : ByteArray) (ps : List S85) (b : Bool) (c : Int) (hc : hdB t c = true) (w0 w : World) (h : StS w0 w g t ps b) :
  Calls Try.prog 59 #[.pointer (some ⟨g, 0, none⟩), .int .u8 c] w fun e w' => e = .returned (.bool true) ∧ StS w0 w' g (tl t) ps b := by
 have HT := aM (h.text (tl t))
 have hr := risS g t ps b c w0 w h
 rw [hc] at hr
 have HR := aM hr
 obtain ⟨V, hb⟩ := h.blk
 obtain ⟨⟨h0, h1, h2⟩, f0, f1, f2⟩ := bC3 hb
 have hp := hd_pos hc
 have hp2 : 1 ≤ t.size := hp
 clear h hr hc hb
 go_enter Try.func59, Try.ntmps59
 go_wp2_with (go_at_call 76; refine HR.out.mono ?_; rintro e w' ⟨rfl, rfl⟩)
 go_ret
 exact ⟨rfl, HT.out⟩
theorem rinfo85 : (Try.prog.info? 85).map (fun i => (i.zero, i.size, i.bytes)) = some (some (.agg #[.int .i64 0, .string ⟨#[]⟩, .slice none 0 0]), 3, 48) := by kernel_rfl
theorem S_appended {α : Type} {d : Kd α} {e base : Nat} {ok okp : Nat → Prop} {W w1 : World} {v v1 : Value} {xs : List α} {p : α} {f : Nat → Nat} {inner cs : List Value} (h0 : ∀ k, v.ownBlock = some k → ok k) (hr : Reps ((Kd.tag f d).M W base (fun k => ok k ∧ some k ≠ v.ownBlock)) d.sz xs.zipIdx inner) (hp : d.M W base okp p cs) (hf : ∀ k, okp k → f k = xs.length) (hokp : ∀ k, okp k → ok k ∧ some k ≠ v.ownBlock) (hfresh : ∀ k, W.heap.size ≤ k → ok k)
  (hown : w1.ownsRow base e d.sz v1 (xs.length + 1) (inner ++ cs)) (hg : W.grownBy w1 v.ownBlock) (hat : v1.ownBlock = v.ownBlock ∨ ∃ b, v1.ownBlock = some b ∧ W.heap.size ≤ b) : Kd.S d e w1 base ok v1 (xs ++ [p]) := by
 have h := Kd.R_appended (d := Kd.tag f d) (p := (p, xs.length)) h0 hr (d.M_mono (fun k hk => ⟨hk, hf k hk⟩) hp) hokp hfresh (by rw [List.length_zipIdx]; exact hown) hg hat
 refine ⟨f, ?_⟩
 rw [Kd.zip_snoc]
 exact h
set_option maxHeartbeats 4000000 in
set_option maxRecDepth 100000 in
theorem rput (g : Nat) (t : ByteArray) (ps : List S85) (b : Bool) (op : Int) (text : ByteArray) (Ak : Option Addr) (ck : Nat) (kids : List Int) (w0 w : World) (hS : StS w0 w g t ps b) (hk : Kd.C (Kd.int .i64) w Ak kids.length kids) (hck : kids.length ≤ ck) (hl : ps.length ≤ 1000) (hl2 : kids.length ≤ 1000) :
  Calls Try.prog 60 #[.pointer (some ⟨g,0,none⟩),.int .i64 op,.string text,.slice Ak kids.length ck] w fun e w' => e = .returned (.int .i64 ps.length) ∧ StS w0 w' g t (ps ++ [⟨op,text,kids⟩]) b:=by
 obtain ⟨A,c,hb,hg,hR,hB⟩:=hS
 obtain ⟨⟨h0,h1,h2⟩,f0,f1,f2⟩:=bC3 hb
 have HK:=aM hk;have HCK:=aM hck;have HL:=aM hl;have HL2:=aM hl2;have HR:=aM hR;have HB:=aM hB;have HBK:=aM hb;have HG:=aM hg
 clear hk hck hl hl2 hR hB hb hg
 have hlt : g < w.heap.size:=by have:=bL HBK.out;exact this
 obtain ⟨i0,hi0,hz0,hz1,hz2⟩:=info_parts rinfo85
 have hf : impl_copyInts.f kids = some kids:=by
  unfold impl_copyInts.f
  rw [Option.bind_some,if_pos (by have:=HL2.out;simp;omega)]
  rfl
 have HF:=aM hf
 clear hf
 go_enter Try.func60,Try.ntmps60
 go_wp2_with fail
 go_region_law (first
   |(refine step_append_lies _ (by rfl) _ _ _ (by rfl) w0.heap.size 85 i0 _ 3 48 Try.underlying28 hi0 hz0 hz1 hz2 rfl (by omega) (.slice A ps.length c) ps.length inner (by rfl) hown ⟨w1.heap.size,0,none⟩ 1 1 [.int .i64 op,.string text,.slice Av kids.length cv] (by rfl) (by rfl) (World.news_of_block (cs:=#[.int .i64 op,.string text,.slice Av kids.length cv]) (t:=85) (fr:=(0,0)) (heap_alloc_new w1 _)) (by simp [Value.oneCell']) (by omega) (by have:=HL.out;simp [maxLen];omega) (by have:=HL.out;omega) (by have h1_:=hb.size;have h2_:=HB.out.size;simp at h1_ ⊢;omega) (w1.heap.size + 1) (by simp) ?_;intro gg cap w2 hown2 hgrow hat hlt2;have HOW:=aM hown2;have HGR:=aM hgrow;have HAT:=aM hat;have hbk2:=aM ((hgrow.block g (by simp;exact Nat.lt_succ_of_lt hlt1.out) (fun e => hR0.out g e.symm rfl)).trans ((Below.heap_alloc w1 _ g hlt1.out).trans hbk1.out));obtain ⟨⟨z0,hz1_,z2⟩,y0,fz1,y2⟩:=bC3 hbk2.out;clear hown2 hgrow hat)
   |(go_simp;go_at_call 35;refine (impl_copyInts.calls Ak ck kids kids _ ?side1 HCK.out HF.out).mono ?_;(case side1 => repeat (first|exact HK.out|(with_reducible first|refine cA ?_ _|refine cN ?_ _|refine cD ?_)));rintro e w1 ⟨v0,rfl,ho,hb⟩;have HO:=aM ho;clear ho;obtain ⟨Av,cv,ev⟩:=Kd.R_slice HO.out;subst ev;have HR1:=aM (Kd.S_step HR.out (fun k _ hk => hb.block k (by simpa using hk)));have HRa:=aM (show Kd.S k85 85 ((w1.alloc (.cells #[.int .i64 op,.string text,.slice Av kids.length cv] 85)).drew) w0.heap.size (fun k => k ≠ g ∧ k < w.heap.size) (.slice A ps.length c) ps from Kd.S_drew (Kd.S_alloc (Kd.S_step (w:=w) (Kd.S_mono (Kd.S_bound HR.out) (fun k hk => ⟨hk.1,hk.2.2.1⟩)) (fun k hk _ => hb.block k (by simpa using hk.2))) _));obtain ⟨fo,htag,hRt⟩:=Kd.S_tag HRa.out ps.length (fun k => w.heap.size ≤ k) (fun k hk h2 => by have:=h2.2;omega);have HFO:=aM htag;have HRt:=aM (Kd.R_mono hRt (fun k hk => hk.1));obtain ⟨hR0_,inner,hown,hreps_⟩:=HRt.out;rw [List.length_zipIdx] at hown;have hR0:=aM hR0_;have hreps:=aM hreps_;clear hR0_ hreps_ htag hRt;have hlt1:=aM (show g < w1.heap.size from Nat.lt_of_lt_of_le hlt hb.size);have hbk1:=aM ((hb.block g (by simpa using hlt)).trans HBK.out);obtain ⟨⟨x0,hx1,x2⟩,y0,fx1,y2⟩:=bC3 hbk1.out;have hbka:=aM ((Below.heap_alloc w1 (.cells #[.int .i64 op,.string text,.slice Av kids.length cv] 85) g hlt1.out).trans hbk1.out);obtain ⟨⟨xa0,hxa1,xa2⟩,ya0,fxa1,ya2⟩:=bC3 hbka.out))
 all_goals
  have hgk : g < w.heap.size:=hlt
  have hkids : (Kd.int .i64).R 3 ((w1.alloc (.cells #[.int .i64 op,.string text,.slice Av kids.length cv] 85)).drew) w0.heap.size (fun k => w.heap.size ≤ k) (.slice Av kids.length cv) kids:=
   rZ (rL (Kd.R_mono (Kd.R_bound HO.out) (fun k hk => hk.2.1)) HB.out.size)
  have hown3 : ∀ k,(Value.slice A ps.length c).ownBlock = some k → k < w.heap.size:=Kd.S_lt HR.out
  have hgd : ((w1.alloc (.cells #[.int .i64 op,.string text,.slice Av kids.length cv] 85)).drew).grownBy w2 (Value.slice A ps.length c).ownBlock:=⟨HGR.out.os,HGR.out.tape,HGR.out.output,HGR.out.size,HGR.out.block⟩
  have R2:=S_appended hR0.out hreps.out (k85_mkM _ w0.heap.size (fun k => w.heap.size ≤ k) (⟨op,text,kids⟩ : S85) hkids) HFO.out (fun k hk => ⟨by omega,fun e_ => by have:=hown3 k e_.symm;omega⟩) (fun k hk => by have:=hlt1.out;simp at hk;omega) HOW.out hgd (by
   rcases HAT.out with e_|e_
   ·exact .inl e_.symm
   ·exact .inr ⟨gg,rfl,by rw [e_];simp⟩)
  have B2 : Below w0.heap.size w0 w2:=Below.grown (lD (lA (lQ HB.out hb) _)) hgd (by have h1_:=hb.size;have h2_:=HB.out.size;simp at h1_ ⊢;omega) (Kd.S_base HR.out)
  have HF2:=aM (show StS w0 (w2.setCell ⟨g,1,none⟩ (.slice (some ⟨gg,0,none⟩) (ps.length + 1) cap)) g t (ps ++ [⟨op,text,kids⟩]) b from by
   have hl1 : (ps ++ [(⟨op,text,kids⟩ : S85)]).length = ps.length + 1:=by rw [List.length_append,List.length_singleton]
   refine ⟨some ⟨gg,0,none⟩,cap,?_,HG.out,?_,lS B2 HG.out⟩
   ·rw [hl1]
    exact blk_put hbk2.out 1 _ rfl
   ·rw [hl1]
    exact Kd.S_far (p:=⟨g,1,none⟩) R2 (fun k hk => hk) _)
  have hw : wrap64 (ps.length : Int) = (ps.length : Int):=by unfold wrap64;have:=HL.out;omega
  clear R2 B2 hgd hkids hown3 hown
  go_wp2
  go_ret
  exact ⟨by first|rfl|simp,HF2.out⟩
theorem ix_lt {t : ByteArray} {i : Nat} (h : Go.Lib.indexByte t.data.toList 93 = (i : Int)) : i < t.size:=by
 have:=(Go.Lib.indexByte_some h).1
 have h2:=(List.getElem?_eq_some_iff.1 this).1
 rwa [data_length] at h2
set_option maxHeartbeats 4000000 in
set_option maxRecDepth 100000 in
theorem rcut1_t (t : ByteArray) (i : Nat) (hi : Go.Lib.indexByte t.data.toList 93 = (i : Int)) (hs : t.size ≤ 1000) (w : World) :
  Calls Try.prog 116 #[.string t,.string ⟨#[93]⟩] w fun e w' => e = .returned (.tuple #[.string (t.extract 0 i),.string (t.extract (i + 1) t.size),.bool true]) ∧ ∃ n,w' = w.drewN n:=by
 have hlt:=ix_lt hi
 have hx:=Try.stringslite_Index_one t 93
 rw [hi] at hx
 have HX:=aM hx
 have hi1 : IntKind.i64.wrap ((i : Int) + 1) = (i : Int) + 1:=by rw [IntKind.wrap_i64];omega
 have hi2 : ((i : Int) + 1).toNat = i + 1:=by omega
 have hi3 : (0 : Int) ≤ (i : Int) + 1:=by omega
 have hi4 : (i : Int) + 1 ≤ t.size:=by omega
 have hi5 : (i : Int) ≤ t.size:=by omega
 have hi6 : (0 : Int) ≤ (i : Int):=by omega
 clear hx hi
 go_enter Try.func116,Try.ntmps116
 go_wp2_with (go_at_call 117;refine (HX.out _).mono ?_;rintro e w' ⟨rfl,rfl⟩)
 go_quiet (fail)
 go_wp2
 go_ret3
 exact ⟨by simp,_,rfl⟩
set_option maxHeartbeats 4000000 in
set_option maxRecDepth 100000 in
theorem rcut1_f (t : ByteArray) (hi : Go.Lib.indexByte t.data.toList 93 = -1) (w : World) :
  Calls Try.prog 116 #[.string t,.string ⟨#[93]⟩] w fun e w' => e = .returned (.tuple #[.string t,.string ⟨#[]⟩,.bool false]) ∧ ∃ n,w' = w.drewN n:=by
 have hx:=Try.stringslite_Index_one t 93
 rw [hi] at hx
 have HX:=aM hx
 clear hx hi
 go_enter Try.func116,Try.ntmps116
 go_wp2_with (go_at_call 117;refine (HX.out _).mono ?_;rintro e w' ⟨rfl,rfl⟩)
 go_ret3
 exact ⟨rfl,0,rfl⟩
theorem rcut_t (t a r : ByteArray) (i : Nat) (hi : Go.Lib.indexByte t.data.toList 93 = (i : Int)) (hs : t.size ≤ 1000) (ha : t.extract 0 i = a) (hr : t.extract (i + 1) t.size = r) (w : World) :
  Calls Try.prog 115 #[.string t,.string ⟨#[93]⟩] w fun e w' => e = .returned (.tuple #[.string a,.string r,.bool true]) ∧ ∃ n,w' = w.drewN n:=by
 have hx:=rcut1_t t i hi hs
 rw [ha,hr] at hx
 have HX:=aM hx
 clear hx hi ha hr hs
 go_enter Try.func115,Try.ntmps115
 go_wp2_with (go_at_call 116;refine (HX.out _).mono ?_;rintro e w' ⟨rfl,nd,rfl⟩)
 go_ret3
 exact ⟨rfl,_,rfl⟩
theorem rcut_f (t : ByteArray) (hi : Go.Lib.indexByte t.data.toList 93 = -1) (w : World) :
  Calls Try.prog 115 #[.string t,.string ⟨#[93]⟩] w fun e w' => e = .returned (.tuple #[.string t,.string ⟨#[]⟩,.bool false]) ∧ ∃ n,w' = w.drewN n:=by
 have HX:=aM (rcut1_f t hi)
 clear hi
 go_enter Try.func115,Try.ntmps115
 go_wp2_with (go_at_call 116;refine (HX.out _).mono ?_;rintro e w' ⟨rfl,nd,rfl⟩)
 go_ret3
 exact ⟨rfl,_,rfl⟩
/-- What a reader's function comes to: the plain reader's answer, or a state that is bad where that one has none. -/
def PoI (w0 : World) (g : Nat) (r : PR) (m z c : Nat) (e : Ending) (w' : World) : Prop:=
 ∃ (k : Int) (u : ByteArray) (qs : List S85) (b : Bool),e = .returned (.int .i64 k) ∧ StS w0 w' g u qs b ∧ qs.length + 2 * u.size ≤ m ∧ (b = false → r = some (k,u,qs) ∧ u.size + c ≤ z ∧ qs.length + 2 * u.size + c ≤ m) ∧ (b = true → r = none)
theorem PoI.mono {w0 : World} {g : Nat} {r : PR} {m m' z z' c c' : Nat} {e : Ending} {w' : World} (h : PoI w0 g r m z c e w') (hm : m ≤ m') (hz : z + c' ≤ z' + c) (hc : m + c' ≤ m' + c) : PoI w0 g r m' z' c' e w':=by
 obtain ⟨k,u,qs,b,h1,h2,h3,h4,h5⟩:=h
 exact ⟨k,u,qs,b,h1,h2,by omega,fun hb => ⟨(h4 hb).1,by have:=(h4 hb).2.1;omega,by have:=(h4 hb).2.2;omega⟩,h5⟩
theorem PoI.ok {w0 : World} {g : Nat} {r : PR} {m z c : Nat} {w' : World} {k : Int} {u : ByteArray} {qs : List S85} (hs : StS w0 w' g u qs false) (hr : r = some (k,u,qs)) (hz : u.size + c ≤ z) (hm : qs.length + 2 * u.size + c ≤ m) : PoI w0 g r m z c (.returned (.int .i64 k)) w':=
 ⟨k,u,qs,false,rfl,hs,by omega,fun _ => ⟨hr,hz,hm⟩,fun h => by cases h⟩
theorem PoI.no {w0 : World} {g : Nat} {r : PR} {m z c : Nat} {w' : World} {k : Int} {u : ByteArray} {qs : List S85} (hs : StS w0 w' g u qs true) (hr : r = none) (hm : qs.length + 2 * u.size ≤ m) : PoI w0 g r m z c (.returned (.int .i64 k)) w':=
 ⟨k,u,qs,true,rfl,hs,hm,(fun h => by cases h),fun _ => hr⟩
theorem no_list {t : ByteArray} (h : t.size ≠ 0) : t.toList.isEmpty = false ∧ (t.toList == ([] : List UInt8)) = false:=by
 have : t.toList.length ≠ 0:=by rw [ByteArray.toList_eq,data_length];exact h
 cases hl : t.toList with
 |nil => rw [hl] at this;exact absurd rfl this
 |cons _ _ => exact ⟨rfl,rfl⟩
def AltC (alt : ByteArray → List S85 → PR) (d : Nat) : Prop:=∀ (g : Nat) (w0 w : World) (t : ByteArray) (ps : List S85),StS w0 w g t ps false → t.size < d → ps.length + 2 * t.size ≤ 90 →
 Calls Try.prog 38 #[.pointer (some ⟨g,0,none⟩)] w (PoI w0 g (alt t ps) (ps.length + 2 * t.size + 1) t.size 0)
set_option maxHeartbeats 4000000 in
set_option maxRecDepth 100000 in
theorem rset_c_none (g : Nat) (t : ByteArray) (ps : List S85) (w0 w : World) (h : StS w0 w g t ps false) (hM : ps.length + 2 * t.size ≤ 90) (hc : hdB t 94 = true) (hi : Go.Lib.indexByte (tl t).data.toList 93 = -1) :
  Calls Try.prog 110 #[.pointer (some ⟨g,0,none⟩)] w (PoI w0 g (pSet t ps) (ps.length + 2 * t.size) t.size 0):=by
 have hp:=hd_pos hc
 have hts:=tl_size t
 have hr : pSet t ps = none:=by unfold pSet;rw [hc];simp only [if_true];rw [if_pos (by rw [hi];decide)]
 have hx:=rcut_f (tl t) hi
 have HX:=aM hx;have HR:=aM hr;have HM:=aM hM;have HC:=aM hc;have HS:=aM h
 have HTS:=aM hts;have HP:=aM hp;clear hts hp
 clear hx hr hM hc h hi
 go_enter Try.func110,Try.ntmps110
 go_wp2_with fail
 refine (rtake_t g t ps false 94 HC.out w0 _ HS.out).mono ?_
 rintro e w1 ⟨rfl,hs1⟩
 have HS1:=aM hs1
 obtain ⟨V,hb⟩:=hs1.blk
 obtain ⟨⟨h0,h1,h2⟩,f0,f1,f2⟩:=bC3 hb
 clear hs1 hb
 go_wp2_with fail
 refine (HX.out _).mono ?_
 rintro e w2 ⟨rfl,nd,rfl⟩
 have HF:=aM (show StS w0 _ g (tl t) ps true from (HS1.out.drewN nd).bad)
 go_wp2
 go_ret
 exact PoI.no HF.out HR.out (by have:=HM.out;have:=HTS.out;omega)
set_option maxHeartbeats 4000000 in
set_option maxRecDepth 100000 in
theorem rset_c_zero (g : Nat) (t : ByteArray) (ps : List S85) (w0 w : World) (h : StS w0 w g t ps false) (hM : ps.length + 2 * t.size ≤ 90) (hc : hdB t 94 = true) (hi : Go.Lib.indexByte (tl t).data.toList 93 = ((0 : Nat) : Int)) :
  Calls Try.prog 110 #[.pointer (some ⟨g,0,none⟩)] w (PoI w0 g (pSet t ps) (ps.length + 2 * t.size) t.size 0):=by
 have hp:=hd_pos hc
 have hts:=tl_size t
 have hr : pSet t ps = none:=by unfold pSet;rw [hc];simp only [if_true];rw [if_pos (by rw [hi];decide)]
 obtain ⟨r,hrr⟩ : ∃ r,(tl t).extract (0 + 1) (tl t).size = r:=⟨_,rfl⟩
 have hx:=rcut_t (tl t) ⟨#[]⟩ r 0 hi (by omega) (by simp;rfl) hrr
 clear hrr
 have HX:=aM hx;have HR:=aM hr;have HM:=aM hM;have HC:=aM hc;have HS:=aM h
 have HTS:=aM hts;have HP:=aM hp;clear hts hp
 clear hx hr hM hc h hi
 go_enter Try.func110,Try.ntmps110
 go_wp2_with fail
 refine (rtake_t g t ps false 94 HC.out w0 _ HS.out).mono ?_
 rintro e w1 ⟨rfl,hs1⟩
 have HS1:=aM hs1
 obtain ⟨V,hb⟩:=hs1.blk
 obtain ⟨⟨h0,h1,h2⟩,f0,f1,f2⟩:=bC3 hb
 clear hs1 hb
 go_wp2_with fail
 refine (HX.out _).mono ?_
 rintro e w2 ⟨rfl,nd,rfl⟩
 have HF:=aM (show StS w0 _ g (tl t) ps true from (HS1.out.drewN nd).bad)
 go_wp2
 go_ret
 exact PoI.no HF.out HR.out (by have:=HM.out;have:=HTS.out;omega)
set_option maxHeartbeats 4000000 in
set_option maxRecDepth 100000 in
theorem rset_c_some (g : Nat) (t : ByteArray) (ps : List S85) (w0 w : World) (h : StS w0 w g t ps false) (hM : ps.length + 2 * t.size ≤ 90) (hc : hdB t 94 = true) (i : Nat) (hi0 : 0 < i) (hi : Go.Lib.indexByte (tl t).data.toList 93 = (i : Int)) :
  Calls Try.prog 110 #[.pointer (some ⟨g,0,none⟩)] w (PoI w0 g (pSet t ps) (ps.length + 2 * t.size) t.size 0):=by
 have hp:=hd_pos hc
 have hts:=tl_size t
 have hlt:=ix_lt hi
 obtain ⟨r,hrr⟩ : ∃ r,(tl t).extract (i + 1) (tl t).size = r:=⟨_,rfl⟩
 obtain ⟨q,hq⟩ : ∃ q,(tl t).extract 0 i = q:=⟨_,rfl⟩
 have hx:=rcut_t (tl t) q r i hi (by omega) hq hrr
 have hrs : r.size + i + 1 = (tl t).size:=by rw [← hrr];simp;omega
 have hqs : q.size = i:=by rw [← hq,ByteArray.size_extract];omega
 obtain ⟨e1,e2⟩:=no_list (t:=q) (by omega)
 clear hqs
 have hr : pSet t ps = some ((ps.length : Int),r,ps ++ [⟨4,q,[]⟩]):=by unfold pSet;rw [hc];simp only [if_true];rw [if_neg (by rw [hi];omega),hi,Int.toNat_natCast,hrr,hq]
 clear hq hrr
 have HX:=aM hx;have HR:=aM hr;have HM:=aM hM;have HC:=aM hc;have HS:=aM h
 have HTS:=aM hts;have HP:=aM hp;clear hts hp
 have HRS:=aM hrs;have HI0:=aM hi0;clear hrs hi0 hlt
 clear hx hr hM hc h hi
 go_enter Try.func110,Try.ntmps110
 go_wp2_with fail
 refine (rtake_t g t ps false 94 HC.out w0 _ HS.out).mono ?_
 rintro e w1 ⟨rfl,hs1⟩
 have HS1:=aM hs1
 obtain ⟨V,hb⟩:=hs1.blk
 obtain ⟨⟨h0,h1,h2⟩,f0,f1,f2⟩:=bC3 hb
 clear hs1 hb
 go_wp2_with fail
 refine (HX.out _).mono ?_
 rintro e w2 ⟨rfl,nd,rfl⟩
 have HF:=aM (show StS w0 _ g r ps false from (HS1.out.drewN nd).text r)
 go_wp2_with (go_at_call 60;refine (rput g r ps false 4 q none 0 [] w0 _ HF.out (Kd.C_nil _ _) (Nat.le_refl _) (by have:=HM.out;omega) (by decide)).mono ?_;rintro e w3 ⟨rfl,hs3⟩;have HS3:=aM hs3;clear hs3)
 go_ret
 exact PoI.ok HS3.out HR.out (by have:=HRS.out;have:=HM.out;have:=HTS.out;have:=HP.out;omega) (by have:=HRS.out;have:=HM.out;have:=HI0.out;have:=HTS.out;have:=HP.out;rw [List.length_append,List.length_singleton];omega)
set_option maxHeartbeats 4000000 in
set_option maxRecDepth 100000 in
theorem rset_n_none (g : Nat) (t : ByteArray) (ps : List S85) (w0 w : World) (h : StS w0 w g t ps false) (hM : ps.length + 2 * t.size ≤ 90) (hc : hdB t 94 = false) (hi : Go.Lib.indexByte t.data.toList 93 = -1) :
  Calls Try.prog 110 #[.pointer (some ⟨g,0,none⟩)] w (PoI w0 g (pSet t ps) (ps.length + 2 * t.size) t.size 0):=by
 have hr : pSet t ps = none:=by unfold pSet;rw [hc];simp only [Bool.false_eq_true,if_false];rw [if_pos (by rw [hi];decide)]
 have hx:=rcut_f t hi
 have HX:=aM hx;have HR:=aM hr;have HM:=aM hM;have HC:=aM hc;have HS:=aM h
 clear hx hr hM hc h hi
 go_enter Try.func110,Try.ntmps110
 go_wp2_with fail
 refine (rtake_f g t ps false 94 HC.out w0 _ HS.out).mono ?_
 rintro e w' ⟨rfl,rfl⟩
 have hs1:=HS.out
 have HS1:=aM hs1
 obtain ⟨V,hb⟩:=hs1.blk
 obtain ⟨⟨h0,h1,h2⟩,f0,f1,f2⟩:=bC3 hb
 clear hs1 hb
 go_wp2_with fail
 refine (HX.out _).mono ?_
 rintro e w2 ⟨rfl,nd,rfl⟩
 have HF:=aM (show StS w0 _ g t ps true from (HS1.out.drewN nd).bad)
 go_wp2
 go_ret
 exact PoI.no HF.out HR.out (by have:=HM.out;omega)
set_option maxHeartbeats 4000000 in
set_option maxRecDepth 100000 in
theorem rset_n_zero (g : Nat) (t : ByteArray) (ps : List S85) (w0 w : World) (h : StS w0 w g t ps false) (hM : ps.length + 2 * t.size ≤ 90) (hc : hdB t 94 = false) (hi : Go.Lib.indexByte t.data.toList 93 = ((0 : Nat) : Int)) :
  Calls Try.prog 110 #[.pointer (some ⟨g,0,none⟩)] w (PoI w0 g (pSet t ps) (ps.length + 2 * t.size) t.size 0):=by
 have hr : pSet t ps = none:=by unfold pSet;rw [hc];simp only [Bool.false_eq_true,if_false];rw [if_pos (by rw [hi];decide)]
 obtain ⟨r,hrr⟩ : ∃ r,t.extract (0 + 1) t.size = r:=⟨_,rfl⟩
 have hx:=rcut_t t ⟨#[]⟩ r 0 hi (by omega) (by simp;rfl) hrr
 clear hrr
 have HX:=aM hx;have HR:=aM hr;have HM:=aM hM;have HC:=aM hc;have HS:=aM h
 clear hx hr hM hc h hi
 go_enter Try.func110,Try.ntmps110
 go_wp2_with fail
 refine (rtake_f g t ps false 94 HC.out w0 _ HS.out).mono ?_
 rintro e w' ⟨rfl,rfl⟩
 have hs1:=HS.out
 have HS1:=aM hs1
 obtain ⟨V,hb⟩:=hs1.blk
 obtain ⟨⟨h0,h1,h2⟩,f0,f1,f2⟩:=bC3 hb
 clear hs1 hb
 go_wp2_with fail
 refine (HX.out _).mono ?_
 rintro e w2 ⟨rfl,nd,rfl⟩
 have HF:=aM (show StS w0 _ g t ps true from (HS1.out.drewN nd).bad)
 go_wp2
 go_ret
 exact PoI.no HF.out HR.out (by have:=HM.out;omega)
set_option maxHeartbeats 4000000 in
set_option maxRecDepth 100000 in
theorem rset_n_some (g : Nat) (t : ByteArray) (ps : List S85) (w0 w : World) (h : StS w0 w g t ps false) (hM : ps.length + 2 * t.size ≤ 90) (hc : hdB t 94 = false) (i : Nat) (hi0 : 0 < i) (hi : Go.Lib.indexByte t.data.toList 93 = (i : Int)) :
  Calls Try.prog 110 #[.pointer (some ⟨g,0,none⟩)] w (PoI w0 g (pSet t ps) (ps.length + 2 * t.size) t.size 0):=by
 have hlt:=ix_lt hi
 obtain ⟨r,hrr⟩ : ∃ r,t.extract (i + 1) t.size = r:=⟨_,rfl⟩
 obtain ⟨q,hq⟩ : ∃ q,t.extract 0 i = q:=⟨_,rfl⟩
 have hx:=rcut_t t q r i hi (by omega) hq hrr
 have hrs : r.size + i + 1 = t.size:=by rw [← hrr];simp;omega
 have hqs : q.size = i:=by rw [← hq,ByteArray.size_extract];omega
 obtain ⟨e1,e2⟩:=no_list (t:=q) (by omega)
 clear hqs
 have hr : pSet t ps = some ((ps.length : Int),r,ps ++ [⟨3,q,[]⟩]):=by unfold pSet;rw [hc];simp only [Bool.false_eq_true,if_false];rw [if_neg (by rw [hi];omega),hi,Int.toNat_natCast,hrr,hq]
 clear hq hrr
 have HX:=aM hx;have HR:=aM hr;have HM:=aM hM;have HC:=aM hc;have HS:=aM h
 have HRS:=aM hrs;have HI0:=aM hi0;clear hrs hi0 hlt
 clear hx hr hM hc h hi
 go_enter Try.func110,Try.ntmps110
 go_wp2_with fail
 refine (rtake_f g t ps false 94 HC.out w0 _ HS.out).mono ?_
 rintro e w' ⟨rfl,rfl⟩
 have hs1:=HS.out
 have HS1:=aM hs1
 obtain ⟨V,hb⟩:=hs1.blk
 obtain ⟨⟨h0,h1,h2⟩,f0,f1,f2⟩:=bC3 hb
 clear hs1 hb
 go_wp2_with fail
 refine (HX.out _).mono ?_
 rintro e w2 ⟨rfl,nd,rfl⟩
 have HF:=aM (show StS w0 _ g r ps false from (HS1.out.drewN nd).text r)
 go_wp2_with (go_at_call 60;refine (rput g r ps false 3 q none 0 [] w0 _ HF.out (Kd.C_nil _ _) (Nat.le_refl _) (by have:=HM.out;omega) (by decide)).mono ?_;rintro e w3 ⟨rfl,hs3⟩;have HS3:=aM hs3;clear hs3)
 go_ret
 exact PoI.ok HS3.out HR.out (by have:=HRS.out;have:=HM.out;omega) (by have:=HRS.out;have:=HM.out;have:=HI0.out;rw [List.length_append,List.length_singleton];omega)
theorem rset (g : Nat) (t : ByteArray) (ps : List S85) (w0 w : World) (h : StS w0 w g t ps false) (hM : ps.length + 2 * t.size ≤ 90) :
  Calls Try.prog 110 #[.pointer (some ⟨g,0,none⟩)] w (PoI w0 g (pSet t ps) (ps.length + 2 * t.size) t.size 0):=by
 have ht : ∀ u : ByteArray,Go.Lib.indexByte u.data.toList 93 = -1 ∨ Go.Lib.indexByte u.data.toList 93 = ((0 : Nat) : Int) ∨ ∃ i : Nat,0 < i ∧ Go.Lib.indexByte u.data.toList 93 = (i : Int):=fun u => by
  have h1:=Go.Lib.indexByte_ge u.data.toList 93
  by_cases h2 : Go.Lib.indexByte u.data.toList 93 = -1
  ·exact .inl h2
  ·by_cases h3 : Go.Lib.indexByte u.data.toList 93 = 0
   ·exact .inr (.inl h3)
   ·exact .inr (.inr ⟨(Go.Lib.indexByte u.data.toList 93).toNat,by omega,by omega⟩)
 by_cases hc : hdB t 94 = true
 ·rcases ht (tl t) with hi|hi|⟨i,hi0,hi⟩
  ·exact rset_c_none g t ps w0 w h hM hc hi
  ·exact rset_c_zero g t ps w0 w h hM hc hi
  ·exact rset_c_some g t ps w0 w h hM hc i hi0 hi
 ·have hc:=Bool.eq_false_iff.mpr hc
  rcases ht t with hi|hi|⟨i,hi0,hi⟩
  ·exact rset_n_none g t ps w0 w h hM hc hi
  ·exact rset_n_zero g t ps w0 w h hM hc hi
  ·exact rset_n_some g t ps w0 w h hM hc i hi0 hi
theorem sp_ix (u : ByteArray) (hp : 0 < u.size) : ∃ z : Int,Go.Lib.indexByte [42,43,63,124,40,41,91,93,46,94,36,92] ((u[0]'hp)) = z ∧ decide (0 ≤ z) = spB (bt u 0):=by
 refine ⟨_,rfl,?_⟩
 rw [← bt_at u 0 hp]
 show decide (0 ≤ Go.Lib.indexByte [42,43,63,124,40,41,91,93,46,94,36,92] (u[0]'hp)) = spB (((u[0]'hp).toNat : Nat) : Int)
 generalize u[0]'hp = v
 have : ∀ n : Nat,n < 256 → decide (0 ≤ Go.Lib.indexByte [42,43,63,124,40,41,91,93,46,94,36,92] (UInt8.ofNat n)) = spB (n : Int):=by decide +kernel
 have h:=this v.toNat v.toNat_lt
 rw [UInt8.ofNat_toNat] at h
 exact h
set_option maxHeartbeats 4000000 in
set_option maxRecDepth 100000 in
theorem rsingle_s_z (g : Nat) (t : ByteArray) (ps : List S85) (w0 w : World) (h : StS w0 w g t ps false) (hM : ps.length + 2 * t.size ≤ 90) (hc : hdB t 92 = true) (hz : (tl t).size = 0) :
  Calls Try.prog 112 #[.pointer (some ⟨g,0,none⟩)] w (PoI w0 g (pSingle t ps) (ps.length + 2 * t.size) t.size 1):=by
 have hts:=tl_size t;have hp:=hd_pos hc
 have hr : pSingle t ps = none:=by unfold pSingle;rw [hc];simp only [if_true];unfold pOne;rw [if_pos (.inl hz)]
 have hnil : (tl t).toList = []:=by
  have : (tl t).toList.length = 0:=by rw [ByteArray.toList_eq,data_length];exact hz
  exact List.length_eq_zero_iff.1 this
 have e1 : (tl t).toList.isEmpty = true:=by rw [hnil];rfl
 have e2 : ((tl t).toList == ([] : List UInt8)) = true:=by rw [hnil];rfl
 clear hnil
 have hus:=hz
 have HR:=aM hr;have HM:=aM hM;have HC:=aM hc;have HS:=aM h
 have HTS:=aM hts;have HP:=aM hp;clear hts hp
 clear hr hM hc h hus hz
 go_enter Try.func112,Try.ntmps112
 go_wp2_with fail
 refine (rtake_t g t ps false 92 HC.out w0 _ HS.out).mono ?_
 rintro e w1 ⟨rfl,hs1⟩
 have HS1:=aM hs1
 obtain ⟨V,hb⟩:=hs1.blk
 obtain ⟨⟨h0,h1,h2⟩,f0,f1,f2⟩:=bC3 hb
 clear hs1 hb
 have HF:=aM (show StS w0 _ g (tl t) ps true from HS1.out.bad)
 go_wp2
 go_ret
 exact PoI.no HF.out HR.out (by have:=HM.out;have:=HTS.out;omega)
set_option maxHeartbeats 4000000 in
set_option maxRecDepth 100000 in
theorem rsingle_s_t (g : Nat) (t : ByteArray) (ps : List S85) (w0 w : World) (h : StS w0 w g t ps false) (hM : ps.length + 2 * t.size ≤ 90) (hc : hdB t 92 = true) (hp0 : 0 < (tl t).size) (hs : spB (bt (tl t) 0) = true) :
  Calls Try.prog 112 #[.pointer (some ⟨g,0,none⟩)] w (PoI w0 g (pSingle t ps) (ps.length + 2 * t.size) t.size 1):=by
 have hts:=tl_size t;have hp:=hd_pos hc
 have hr : pSingle t ps = some ((ps.length : Int),tl (tl t),ps ++ [⟨1,(tl t).extract 0 1,[]⟩]):=by unfold pSingle;rw [hc];simp only [if_true];unfold pOne;rw [if_neg (by rw [hs];intro h2;rcases h2 with h2|h2;omega;exact h2 rfl)]
 obtain ⟨e1,e2⟩:=no_list (t:=(tl t)) (by omega)
 obtain ⟨z,hz1,hz2⟩:=sp_ix (tl t) hp0
 rw [hs] at hz2
 have hz3 : 0 ≤ z:=of_decide_eq_true hz2
 have hx : ∀ W : World,Calls Try.prog 83 #[.string ⟨#[42,43,63,124,40,41,91,93,46,94,36,92]⟩,.int .u8 ((((tl t))[0]'hp0).toNat : Int)] W fun e w' => e = .returned (.int .i64 z) ∧ w' = W:=fun W => by
  have:=Try.strings_IndexByte ⟨#[42,43,63,124,40,41,91,93,46,94,36,92]⟩ ((((tl t))[0]'hp0).toNat : Int) W
  refine this.mono ?_
  rintro e w' ⟨rfl,rfl⟩
  refine ⟨?_,rfl⟩
  rw [← hz1]
  simp
 have HX:=aM hx;clear hx hz1
 have hus:=tl_size (tl t);have HUS:=aM hus;clear hus
 have hle : 1 ≤ (tl t).size:=hp0
 have HR:=aM hr;have HM:=aM hM;have HC:=aM hc;have HS:=aM h
 have HTS:=aM hts;have HP:=aM hp;clear hts hp
 have HSP:=aM hs;clear hs
 clear hr hM hc h
 go_enter Try.func112,Try.ntmps112
 go_wp2_with fail
 refine (rtake_t g t ps false 92 HC.out w0 _ HS.out).mono ?_
 rintro e w1 ⟨rfl,hs1⟩
 have HS1:=aM hs1
 obtain ⟨V,hb⟩:=hs1.blk
 obtain ⟨⟨h0,h1,h2⟩,f0,f1,f2⟩:=bC3 hb
 clear hs1 hb
 go_wp2_with fail
 refine (HX.out _).mono ?_
 rintro e w2 ⟨rfl,rfl⟩
 have HF:=aM (show StS w0 _ g (tl (tl t)) ps false from HS1.out.text (tl (tl t)))
 go_wp2_with fail
 refine (rput g (tl (tl t)) ps false 1 ((tl t).extract 0 1) none 0 [] w0 _ HF.out (Kd.C_nil _ _) (Nat.le_refl _) (by have:=HM.out;omega) (by decide)).mono ?_
 rintro e w3 ⟨rfl,hs3⟩
 have HS3:=aM hs3;clear hs3
 go_wp2
 go_ret
 exact PoI.ok HS3.out HR.out (by have:=HUS.out;have:=HTS.out;have:=HP.out;omega) (by have:=HUS.out;have:=HM.out;have:=HTS.out;have:=HP.out;rw [List.length_append,List.length_singleton];omega)
set_option maxHeartbeats 4000000 in
set_option maxRecDepth 100000 in
theorem rsingle_s_f (g : Nat) (t : ByteArray) (ps : List S85) (w0 w : World) (h : StS w0 w g t ps false) (hM : ps.length + 2 * t.size ≤ 90) (hc : hdB t 92 = true) (hp0 : 0 < (tl t).size) (hs : spB (bt (tl t) 0) = false) :
  Calls Try.prog 112 #[.pointer (some ⟨g,0,none⟩)] w (PoI w0 g (pSingle t ps) (ps.length + 2 * t.size) t.size 1):=by
 have hts:=tl_size t;have hp:=hd_pos hc
 have hr : pSingle t ps = none:=by unfold pSingle;rw [hc];simp only [if_true];unfold pOne;rw [if_pos (.inr (by rw [hs];decide))]
 obtain ⟨e1,e2⟩:=no_list (t:=(tl t)) (by omega)
 obtain ⟨z,hz1,hz2⟩:=sp_ix (tl t) hp0
 rw [hs] at hz2
 have hz3 : ¬ (0 ≤ z):=of_decide_eq_false hz2
 have hx : ∀ W : World,Calls Try.prog 83 #[.string ⟨#[42,43,63,124,40,41,91,93,46,94,36,92]⟩,.int .u8 ((((tl t))[0]'hp0).toNat : Int)] W fun e w' => e = .returned (.int .i64 z) ∧ w' = W:=fun W => by
  have:=Try.strings_IndexByte ⟨#[42,43,63,124,40,41,91,93,46,94,36,92]⟩ ((((tl t))[0]'hp0).toNat : Int) W
  refine this.mono ?_
  rintro e w' ⟨rfl,rfl⟩
  refine ⟨?_,rfl⟩
  rw [← hz1]
  simp
 have HX:=aM hx;clear hx hz1
 have HR:=aM hr;have HM:=aM hM;have HC:=aM hc;have HS:=aM h
 have HTS:=aM hts;have HP:=aM hp;clear hts hp
 have HSP:=aM hs;clear hs
 clear hr hM hc h
 go_enter Try.func112,Try.ntmps112
 go_wp2_with fail
 refine (rtake_t g t ps false 92 HC.out w0 _ HS.out).mono ?_
 rintro e w1 ⟨rfl,hs1⟩
 have HS1:=aM hs1
 obtain ⟨V,hb⟩:=hs1.blk
 obtain ⟨⟨h0,h1,h2⟩,f0,f1,f2⟩:=bC3 hb
 clear hs1 hb
 go_wp2_with fail
 refine (HX.out _).mono ?_
 rintro e w2 ⟨rfl,rfl⟩
 have HF:=aM (show StS w0 _ g (tl t) ps true from HS1.out.bad)
 go_wp2
 go_ret
 exact PoI.no HF.out HR.out (by have:=HM.out;have:=HTS.out;omega)
set_option maxHeartbeats 4000000 in
set_option maxRecDepth 100000 in
theorem rsingle_n_z (g : Nat) (t : ByteArray) (ps : List S85) (w0 w : World) (h : StS w0 w g t ps false) (hM : ps.length + 2 * t.size ≤ 90) (hc : hdB t 92 = false) (hz : t.size = 0) :
  Calls Try.prog 112 #[.pointer (some ⟨g,0,none⟩)] w (PoI w0 g (pSingle t ps) (ps.length + 2 * t.size) t.size 1):=by
 have hr : pSingle t ps = none:=by unfold pSingle;rw [hc];simp only [Bool.false_eq_true,if_false];unfold pOne;rw [if_pos (.inl hz)]
 have hnil : t.toList = []:=by
  have : t.toList.length = 0:=by rw [ByteArray.toList_eq,data_length];exact hz
  exact List.length_eq_zero_iff.1 this
 have e1 : t.toList.isEmpty = true:=by rw [hnil];rfl
 have e2 : (t.toList == ([] : List UInt8)) = true:=by rw [hnil];rfl
 clear hnil
 have HR:=aM hr;have HM:=aM hM;have HC:=aM hc;have HS:=aM h
 clear hr hM hc h hz
 go_enter Try.func112,Try.ntmps112
 go_wp2_with fail
 refine (rtake_f g t ps false 92 HC.out w0 _ HS.out).mono ?_
 rintro e w' ⟨rfl,rfl⟩
 have hs1:=HS.out
 have HS1:=aM hs1
 obtain ⟨V,hb⟩:=hs1.blk
 obtain ⟨⟨h0,h1,h2⟩,f0,f1,f2⟩:=bC3 hb
 clear hs1 hb
 have HF:=aM (show StS w0 _ g t ps true from HS1.out.bad)
 go_wp2
 go_ret
 exact PoI.no HF.out HR.out (by have:=HM.out;omega)
set_option maxHeartbeats 4000000 in
set_option maxRecDepth 100000 in
theorem rsingle_n_t (g : Nat) (t : ByteArray) (ps : List S85) (w0 w : World) (h : StS w0 w g t ps false) (hM : ps.length + 2 * t.size ≤ 90) (hc : hdB t 92 = false) (hp0 : 0 < t.size) (hs : spB (bt t 0) = true) :
  Calls Try.prog 112 #[.pointer (some ⟨g,0,none⟩)] w (PoI w0 g (pSingle t ps) (ps.length + 2 * t.size) t.size 1):=by
 have hr : pSingle t ps = none:=by unfold pSingle;rw [hc];simp only [Bool.false_eq_true,if_false];unfold pOne;rw [if_pos (.inr (by rw [hs];decide))]
 obtain ⟨e1,e2⟩:=no_list (t:=t) (by omega)
 obtain ⟨z,hz1,hz2⟩:=sp_ix t hp0
 rw [hs] at hz2
 have hz3 : 0 ≤ z:=of_decide_eq_true hz2
 have hx : ∀ W : World,Calls Try.prog 83 #[.string ⟨#[42,43,63,124,40,41,91,93,46,94,36,92]⟩,.int .u8 (((t)[0]'hp0).toNat : Int)] W fun e w' => e = .returned (.int .i64 z) ∧ w' = W:=fun W => by
  have:=Try.strings_IndexByte ⟨#[42,43,63,124,40,41,91,93,46,94,36,92]⟩ (((t)[0]'hp0).toNat : Int) W
  refine this.mono ?_
  rintro e w' ⟨rfl,rfl⟩
  refine ⟨?_,rfl⟩
  rw [← hz1]
  simp
 have HX:=aM hx;clear hx hz1
 have HR:=aM hr;have HM:=aM hM;have HC:=aM hc;have HS:=aM h
 have HSP:=aM hs;clear hs
 clear hr hM hc h
 go_enter Try.func112,Try.ntmps112
 go_wp2_with fail
 refine (rtake_f g t ps false 92 HC.out w0 _ HS.out).mono ?_
 rintro e w' ⟨rfl,rfl⟩
 have hs1:=HS.out
 have HS1:=aM hs1
 obtain ⟨V,hb⟩:=hs1.blk
 obtain ⟨⟨h0,h1,h2⟩,f0,f1,f2⟩:=bC3 hb
 clear hs1 hb
 go_wp2_with fail
 refine (HX.out _).mono ?_
 rintro e w2 ⟨rfl,rfl⟩
 have HF:=aM (show StS w0 _ g t ps true from HS1.out.bad)
 go_wp2
 go_ret
 exact PoI.no HF.out HR.out (by have:=HM.out;omega)
set_option maxHeartbeats 4000000 in
set_option maxRecDepth 100000 in
theorem rsingle_n_f (g : Nat) (t : ByteArray) (ps : List S85) (w0 w : World) (h : StS w0 w g t ps false) (hM : ps.length + 2 * t.size ≤ 90) (hc : hdB t 92 = false) (hp0 : 0 < t.size) (hs : spB (bt t 0) = false) :
  Calls Try.prog 112 #[.pointer (some ⟨g,0,none⟩)] w (PoI w0 g (pSingle t ps) (ps.length + 2 * t.size) t.size 1):=by
 have hr : pSingle t ps = some ((ps.length : Int),tl t,ps ++ [⟨1,t.extract 0 1,[]⟩]):=by unfold pSingle;rw [hc];simp only [Bool.false_eq_true,if_false];unfold pOne;rw [if_neg (by rw [hs];intro h2;rcases h2 with h2|h2;omega;exact h2 rfl)]
 obtain ⟨e1,e2⟩:=no_list (t:=t) (by omega)
 obtain ⟨z,hz1,hz2⟩:=sp_ix t hp0
 rw [hs] at hz2
 have hz3 : ¬ (0 ≤ z):=of_decide_eq_false hz2
 have hx : ∀ W : World,Calls Try.prog 83 #[.string ⟨#[42,43,63,124,40,41,91,93,46,94,36,92]⟩,.int .u8 (((t)[0]'hp0).toNat : Int)] W fun e w' => e = .returned (.int .i64 z) ∧ w' = W:=fun W => by
  have:=Try.strings_IndexByte ⟨#[42,43,63,124,40,41,91,93,46,94,36,92]⟩ (((t)[0]'hp0).toNat : Int) W
  refine this.mono ?_
  rintro e w' ⟨rfl,rfl⟩
  refine ⟨?_,rfl⟩
  rw [← hz1]
  simp
 have HX:=aM hx;clear hx hz1
 have hus:=tl_size t;have HUS:=aM hus;clear hus
 have hle : 1 ≤ t.size:=hp0
 have HR:=aM hr;have HM:=aM hM;have HC:=aM hc;have HS:=aM h
 have HSP:=aM hs;clear hs
 clear hr hM hc h
 go_enter Try.func112,Try.ntmps112
 go_wp2_with fail
 refine (rtake_f g t ps false 92 HC.out w0 _ HS.out).mono ?_
 rintro e w' ⟨rfl,rfl⟩
 have hs1:=HS.out
 have HS1:=aM hs1
 obtain ⟨V,hb⟩:=hs1.blk
 obtain ⟨⟨h0,h1,h2⟩,f0,f1,f2⟩:=bC3 hb
 clear hs1 hb
 go_wp2_with fail
 refine (HX.out _).mono ?_
 rintro e w2 ⟨rfl,rfl⟩
 have HF:=aM (show StS w0 _ g (tl t) ps false from HS1.out.text (tl t))
 go_wp2_with fail
 refine (rput g (tl t) ps false 1 (t.extract 0 1) none 0 [] w0 _ HF.out (Kd.C_nil _ _) (Nat.le_refl _) (by have:=HM.out;omega) (by decide)).mono ?_
 rintro e w3 ⟨rfl,hs3⟩
 have HS3:=aM hs3;clear hs3
 go_wp2
 go_ret
 exact PoI.ok HS3.out HR.out (by have:=HUS.out;omega) (by have:=HUS.out;have:=HM.out;rw [List.length_append,List.length_singleton];omega)
theorem rsingle (g : Nat) (t : ByteArray) (ps : List S85) (w0 w : World) (h : StS w0 w g t ps false) (hM : ps.length + 2 * t.size ≤ 90) :
  Calls Try.prog 112 #[.pointer (some ⟨g,0,none⟩)] w (PoI w0 g (pSingle t ps) (ps.length + 2 * t.size) t.size 1):=by
 by_cases hc : hdB t 92 = true
 ·by_cases hz : (tl t).size = 0
  ·exact rsingle_s_z g t ps w0 w h hM hc hz
  ·by_cases hs : spB (bt (tl t) 0) = true
   ·exact rsingle_s_t g t ps w0 w h hM hc (by omega) hs
   ·exact rsingle_s_f g t ps w0 w h hM hc (by omega) (Bool.eq_false_iff.mpr hs)
 ·have hc:=Bool.eq_false_iff.mpr hc
  by_cases hz : t.size = 0
  ·exact rsingle_n_z g t ps w0 w h hM hc hz
  ·by_cases hs : spB (bt t 0) = true
   ·exact rsingle_n_t g t ps w0 w h hM hc (by omega) hs
   ·exact rsingle_n_f g t ps w0 w h hM hc (by omega) (Bool.eq_false_iff.mpr hs)
theorem C_kids (W : World) (b : Nat) (ks : List Int) (hl : ks.length ≤ 1000) (h : W.heap[b]? = some (.cells (ks.map (Value.int .i64)).toArray 3 (0,0))) : Kd.C (Kd.int .i64) W (some ⟨b,0,none⟩) ks.length ks:=by
 refine Kd.C_of_reads (d:=(0 : Int)) (h1:=fun _ => rfl) (show ReadsInt W .i64 (some ⟨b,0,none⟩) ks.length ks from ⟨rfl,by omega,fun _ => ⟨_,rfl,fun j hj => ?_⟩⟩)
 rw [add_plain,bC h j]
 simp [List.getD_eq_getElem?_getD,hj]
set_option maxHeartbeats 4000000 in
set_option maxRecDepth 100000 in
theorem rgroup (alt : ByteArray → List S85 → PR) (d : Nat) (H : AltC alt d) (g : Nat) (t : ByteArray) (ps : List S85) (w0 w : World) (h : StS w0 w g t ps false) (hM : ps.length + 2 * t.size ≤ 90) (hd0 : t.size < d) :
  Calls Try.prog 111 #[.pointer (some ⟨g,0,none⟩)] w (PoI w0 g (pGroup alt t ps) (ps.length + 2 * t.size + 1) t.size 0):=by
 have HX:=aM (H g w0 w t ps h hd0 hM)
 clear h H hd0
 have HM:=aM hM;clear hM
 go_enter Try.func111,Try.ntmps111
 go_wp2_with fail
 refine HX.out.mono ?_
 rintro e w1 ⟨k,u,qs,b,rfl,hs,q1,q2,q3⟩
 have HS:=aM hs;have Q1:=aM q1;have Q2:=aM q2;have Q3:=aM q3
 clear hs q1 q2 q3
 by_cases hc : hdB u 41 = true
 ·have HC:=aM hc;have HTS:=aM (tl_size u);have HP:=aM (hd_pos hc)
  clear hc
  go_wp2_with fail
  refine (rtake_t g u qs b 41 HC.out w0 _ HS.out).mono ?_
  rintro e w2 ⟨rfl,hs2⟩
  have HS2:=aM hs2;clear hs2
  go_wp2
  go_ret
  cases b with
  |false => exact PoI.ok HS2.out (by unfold pGroup;rw [(Q2.out rfl).1,Option.bind_some];simp only [];rw [if_pos HC.out]) (by have:=(Q2.out rfl).2.1;have:=HTS.out;omega) (by have:=(Q2.out rfl).2.2;have:=HTS.out;omega)
  |true => exact PoI.no HS2.out (by unfold pGroup;rw [Q3.out rfl];rfl) (by have:=Q1.out;have:=HTS.out;omega)
 ·have HC:=aM (Bool.eq_false_iff.mpr hc)
  clear hc
  go_wp2_with fail
  refine (rtake_f g u qs b 41 HC.out w0 _ HS.out).mono ?_
  rintro e w' ⟨rfl,rfl⟩
  obtain ⟨V,hb⟩:=HS.out.blk
  obtain ⟨⟨h0,h1,h2⟩,f0,f1,f2⟩:=bC3 hb
  clear hb
  have HF:=aM (show StS w0 _ g u qs true from HS.out.bad)
  go_wp2
  go_ret
  refine PoI.no HF.out ?_ Q1.out
  unfold pGroup
  cases b with
  |false => rw [(Q2.out rfl).1,Option.bind_some];simp only [];rw [if_neg (by rw [HC.out];decide)]
  |true => rw [Q3.out rfl];rfl
set_option maxHeartbeats 4000000 in
set_option maxRecDepth 100000 in
theorem rbase_0 (alt : ByteArray → List S85 → PR) (d : Nat) (H : AltC alt d) (g : Nat) (t : ByteArray) (ps : List S85) (w0 w : World) (h : StS w0 w g t ps false) (hM : ps.length + 2 * t.size ≤ 90) (hd0 : t.size < d + 1)  (c94 : hdB t 94 = true) :
  Calls Try.prog 97 #[.pointer (some ⟨g,0,none⟩)] w (PoI w0 g (pBase alt t ps) (ps.length + 2 * t.size) t.size 1):=by
 have hr : pBase alt t ps = some ((ps.length : Int),tl t,ps ++ [⟨10,eb,[]⟩]):=by unfold pBase;rw [if_pos c94]
 have HR:=aM hr;have HM:=aM hM;have HS:=aM h;have HA:=aM H;have HD:=aM hd0;have HTS:=aM (tl_size t)
 have C94:=aM c94;have HP:=aM (hd_pos c94)
 clear hr hM h H hd0  c94
 go_enter Try.func97,Try.ntmps97
 go_wp2_with fail
 refine (rtake_t g t ps false 94 C94.out w0 _ HS.out).mono ?_
 rintro e w1 ⟨rfl,hs1⟩
 have HS1:=aM hs1;clear hs1
 go_wp2_with fail
 refine (rput g (tl t) ps false 10 ⟨#[]⟩ none 0 [] w0 _ HS1.out (Kd.C_nil _ _) (Nat.le_refl _) (by have:=HM.out;omega) (by decide)).mono ?_
 rintro e w2 ⟨rfl,hs2⟩
 have HS2:=aM hs2;clear hs2
 go_wp2
 go_ret
 exact PoI.ok HS2.out HR.out (by have:=HTS.out;have:=HP.out;omega) (by have:=HTS.out;have:=HP.out;have:=HM.out;rw [List.length_append,List.length_singleton];omega)
set_option maxHeartbeats 4000000 in
set_option maxRecDepth 100000 in
theorem rbase_1 (alt : ByteArray → List S85 → PR) (d : Nat) (H : AltC alt d) (g : Nat) (t : ByteArray) (ps : List S85) (w0 w : World) (h : StS w0 w g t ps false) (hM : ps.length + 2 * t.size ≤ 90) (hd0 : t.size < d + 1) (c94 : hdB t 94 = false) (c36 : hdB t 36 = true) :
  Calls Try.prog 97 #[.pointer (some ⟨g,0,none⟩)] w (PoI w0 g (pBase alt t ps) (ps.length + 2 * t.size) t.size 1):=by
 have hr : pBase alt t ps = some ((ps.length : Int),tl t,ps ++ [⟨11,eb,[]⟩]):=by unfold pBase;rw [if_neg (by rw [c94];decide)];rw [if_pos c36]
 have HR:=aM hr;have HM:=aM hM;have HS:=aM h;have HA:=aM H;have HD:=aM hd0;have HTS:=aM (tl_size t)
 have C94:=aM c94
 have C36:=aM c36;have HP:=aM (hd_pos c36)
 clear hr hM h H hd0 c94 c36
 go_enter Try.func97,Try.ntmps97
 go_wp2_with fail
 refine (rtake_f g t ps false 94 C94.out w0 _ HS.out).mono ?_
 rintro e w' ⟨rfl,rfl⟩
 go_wp2_with fail
 refine (rtake_t g t ps false 36 C36.out w0 _ HS.out).mono ?_
 rintro e w1 ⟨rfl,hs1⟩
 have HS1:=aM hs1;clear hs1
 go_wp2_with fail
 refine (rput g (tl t) ps false 11 ⟨#[]⟩ none 0 [] w0 _ HS1.out (Kd.C_nil _ _) (Nat.le_refl _) (by have:=HM.out;omega) (by decide)).mono ?_
 rintro e w2 ⟨rfl,hs2⟩
 have HS2:=aM hs2;clear hs2
 go_wp2
 go_ret
 exact PoI.ok HS2.out HR.out (by have:=HTS.out;have:=HP.out;omega) (by have:=HTS.out;have:=HP.out;have:=HM.out;rw [List.length_append,List.length_singleton];omega)
set_option maxHeartbeats 4000000 in
set_option maxRecDepth 100000 in
theorem rbase_2 (alt : ByteArray → List S85 → PR) (d : Nat) (H : AltC alt d) (g : Nat) (t : ByteArray) (ps : List S85) (w0 w : World) (h : StS w0 w g t ps false) (hM : ps.length + 2 * t.size ≤ 90) (hd0 : t.size < d + 1) (c94 : hdB t 94 = false) (c36 : hdB t 36 = false) (c46 : hdB t 46 = true) :
  Calls Try.prog 97 #[.pointer (some ⟨g,0,none⟩)] w (PoI w0 g (pBase alt t ps) (ps.length + 2 * t.size) t.size 1):=by
 have hr : pBase alt t ps = some ((ps.length : Int),tl t,ps ++ [⟨2,eb,[]⟩]):=by unfold pBase;rw [if_neg (by rw [c94];decide)];rw [if_neg (by rw [c36];decide)];rw [if_pos c46]
 have HR:=aM hr;have HM:=aM hM;have HS:=aM h;have HA:=aM H;have HD:=aM hd0;have HTS:=aM (tl_size t)
 have C94:=aM c94
 have C36:=aM c36
 have C46:=aM c46;have HP:=aM (hd_pos c46)
 clear hr hM h H hd0 c94 c36 c46
 go_enter Try.func97,Try.ntmps97
 go_wp2_with fail
 refine (rtake_f g t ps false 94 C94.out w0 _ HS.out).mono ?_
 rintro e w' ⟨rfl,rfl⟩
 go_wp2_with fail
 refine (rtake_f g t ps false 36 C36.out w0 _ HS.out).mono ?_
 rintro e w' ⟨rfl,rfl⟩
 go_wp2_with fail
 refine (rtake_t g t ps false 46 C46.out w0 _ HS.out).mono ?_
 rintro e w1 ⟨rfl,hs1⟩
 have HS1:=aM hs1;clear hs1
 go_wp2_with fail
 refine (rput g (tl t) ps false 2 ⟨#[]⟩ none 0 [] w0 _ HS1.out (Kd.C_nil _ _) (Nat.le_refl _) (by have:=HM.out;omega) (by decide)).mono ?_
 rintro e w2 ⟨rfl,hs2⟩
 have HS2:=aM hs2;clear hs2
 go_wp2
 go_ret
 exact PoI.ok HS2.out HR.out (by have:=HTS.out;have:=HP.out;omega) (by have:=HTS.out;have:=HP.out;have:=HM.out;rw [List.length_append,List.length_singleton];omega)
set_option maxHeartbeats 4000000 in
set_option maxRecDepth 100000 in
theorem rbase_3 (alt : ByteArray → List S85 → PR) (d : Nat) (H : AltC alt d) (g : Nat) (t : ByteArray) (ps : List S85) (w0 w : World) (h : StS w0 w g t ps false) (hM : ps.length + 2 * t.size ≤ 90) (hd0 : t.size < d + 1) (c94 : hdB t 94 = false) (c36 : hdB t 36 = false) (c46 : hdB t 46 = false) (c91 : hdB t 91 = true) :
  Calls Try.prog 97 #[.pointer (some ⟨g,0,none⟩)] w (PoI w0 g (pBase alt t ps) (ps.length + 2 * t.size) t.size 1):=by
 have hr : pBase alt t ps = pSet (tl t) ps:=by unfold pBase;rw [if_neg (by rw [c94];decide)];rw [if_neg (by rw [c36];decide)];rw [if_neg (by rw [c46];decide)];rw [if_pos c91]
 have HR:=aM hr;have HM:=aM hM;have HS:=aM h;have HA:=aM H;have HD:=aM hd0;have HTS:=aM (tl_size t)
 have C94:=aM c94
 have C36:=aM c36
 have C46:=aM c46
 have C91:=aM c91;have HP:=aM (hd_pos c91)
 clear hr hM h H hd0 c94 c36 c46 c91
 go_enter Try.func97,Try.ntmps97
 go_wp2_with fail
 refine (rtake_f g t ps false 94 C94.out w0 _ HS.out).mono ?_
 rintro e w' ⟨rfl,rfl⟩
 go_wp2_with fail
 refine (rtake_f g t ps false 36 C36.out w0 _ HS.out).mono ?_
 rintro e w' ⟨rfl,rfl⟩
 go_wp2_with fail
 refine (rtake_f g t ps false 46 C46.out w0 _ HS.out).mono ?_
 rintro e w' ⟨rfl,rfl⟩
 go_wp2_with fail
 refine (rtake_t g t ps false 91 C91.out w0 _ HS.out).mono ?_
 rintro e w1 ⟨rfl,hs1⟩
 have HS1:=aM hs1;clear hs1
 go_wp2_with fail
 refine (rset g (tl t) ps w0 _ HS1.out (by have:=HTS.out;have:=HM.out;omega)).mono ?_
 rintro e w2 ⟨k,u,qs,b,rfl,hs,q1,q2,q3⟩
 have HF:=aM (PoI.mono (m':=ps.length + 2 * t.size) (z':=t.size) (c':=1) ⟨k,u,qs,b,rfl,hs,q1,q2,q3⟩ (by have:=HTS.out;have:=HP.out;omega) (by have:=HTS.out;have:=HP.out;omega) (by have:=HTS.out;have:=HP.out;omega))
 clear hs q1 q2 q3
 go_wp2
 go_ret
 rw [HR.out]
 exact HF.out
set_option maxHeartbeats 4000000 in
set_option maxRecDepth 100000 in
theorem rbase_4 (alt : ByteArray → List S85 → PR) (d : Nat) (H : AltC alt d) (g : Nat) (t : ByteArray) (ps : List S85) (w0 w : World) (h : StS w0 w g t ps false) (hM : ps.length + 2 * t.size ≤ 90) (hd0 : t.size < d + 1) (c94 : hdB t 94 = false) (c36 : hdB t 36 = false) (c46 : hdB t 46 = false) (c91 : hdB t 91 = false) (c40 : hdB t 40 = true) :
  Calls Try.prog 97 #[.pointer (some ⟨g,0,none⟩)] w (PoI w0 g (pBase alt t ps) (ps.length + 2 * t.size) t.size 1):=by
 have hr : pBase alt t ps = pGroup alt (tl t) ps:=by unfold pBase;rw [if_neg (by rw [c94];decide)];rw [if_neg (by rw [c36];decide)];rw [if_neg (by rw [c46];decide)];rw [if_neg (by rw [c91];decide)];rw [if_pos c40]
 have HR:=aM hr;have HM:=aM hM;have HS:=aM h;have HA:=aM H;have HD:=aM hd0;have HTS:=aM (tl_size t)
 have C94:=aM c94
 have C36:=aM c36
 have C46:=aM c46
 have C91:=aM c91
 have C40:=aM c40;have HP:=aM (hd_pos c40)
 clear hr hM h H hd0 c94 c36 c46 c91 c40
 go_enter Try.func97,Try.ntmps97
 go_wp2_with fail
 refine (rtake_f g t ps false 94 C94.out w0 _ HS.out).mono ?_
 rintro e w' ⟨rfl,rfl⟩
 go_wp2_with fail
 refine (rtake_f g t ps false 36 C36.out w0 _ HS.out).mono ?_
 rintro e w' ⟨rfl,rfl⟩
 go_wp2_with fail
 refine (rtake_f g t ps false 46 C46.out w0 _ HS.out).mono ?_
 rintro e w' ⟨rfl,rfl⟩
 go_wp2_with fail
 refine (rtake_f g t ps false 91 C91.out w0 _ HS.out).mono ?_
 rintro e w' ⟨rfl,rfl⟩
 go_wp2_with fail
 refine (rtake_t g t ps false 40 C40.out w0 _ HS.out).mono ?_
 rintro e w1 ⟨rfl,hs1⟩
 have HS1:=aM hs1;clear hs1
 go_wp2_with fail
 refine (rgroup alt d HA.out g (tl t) ps w0 _ HS1.out (by have:=HTS.out;have:=HM.out;omega) (by have:=HTS.out;have:=HD.out;have:=HP.out;omega)).mono ?_
 rintro e w2 ⟨k,u,qs,b,rfl,hs,q1,q2,q3⟩
 have HF:=aM (PoI.mono (m':=ps.length + 2 * t.size) (z':=t.size) (c':=1) ⟨k,u,qs,b,rfl,hs,q1,q2,q3⟩ (by have:=HTS.out;have:=HP.out;omega) (by have:=HTS.out;have:=HP.out;omega) (by have:=HTS.out;have:=HP.out;omega))
 clear hs q1 q2 q3
 go_wp2
 go_ret
 rw [HR.out]
 exact HF.out
set_option maxHeartbeats 4000000 in
set_option maxRecDepth 100000 in
theorem rbase_5 (alt : ByteArray → List S85 → PR) (d : Nat) (H : AltC alt d) (g : Nat) (t : ByteArray) (ps : List S85) (w0 w : World) (h : StS w0 w g t ps false) (hM : ps.length + 2 * t.size ≤ 90) (hd0 : t.size < d + 1) (c94 : hdB t 94 = false) (c36 : hdB t 36 = false) (c46 : hdB t 46 = false) (c91 : hdB t 91 = false) (c40 : hdB t 40 = false) :
  Calls Try.prog 97 #[.pointer (some ⟨g,0,none⟩)] w (PoI w0 g (pBase alt t ps) (ps.length + 2 * t.size) t.size 1):=by
 have hr : pBase alt t ps = pSingle t ps:=by unfold pBase;rw [if_neg (by rw [c94];decide)];rw [if_neg (by rw [c36];decide)];rw [if_neg (by rw [c46];decide)];rw [if_neg (by rw [c91];decide)];rw [if_neg (by rw [c40];decide)]
 have HR:=aM hr;have HM:=aM hM;have HS:=aM h;have HA:=aM H;have HD:=aM hd0;have HTS:=aM (tl_size t)
 have C94:=aM c94
 have C36:=aM c36
 have C46:=aM c46
 have C91:=aM c91
 have C40:=aM c40
 clear hr hM h H hd0 c94 c36 c46 c91 c40
 go_enter Try.func97,Try.ntmps97
 go_wp2_with fail
 refine (rtake_f g t ps false 94 C94.out w0 _ HS.out).mono ?_
 rintro e w' ⟨rfl,rfl⟩
 go_wp2_with fail
 refine (rtake_f g t ps false 36 C36.out w0 _ HS.out).mono ?_
 rintro e w' ⟨rfl,rfl⟩
 go_wp2_with fail
 refine (rtake_f g t ps false 46 C46.out w0 _ HS.out).mono ?_
 rintro e w' ⟨rfl,rfl⟩
 go_wp2_with fail
 refine (rtake_f g t ps false 91 C91.out w0 _ HS.out).mono ?_
 rintro e w' ⟨rfl,rfl⟩
 go_wp2_with fail
 refine (rtake_f g t ps false 40 C40.out w0 _ HS.out).mono ?_
 rintro e w' ⟨rfl,rfl⟩
 go_wp2_with fail
 refine (rsingle g t ps w0 _ HS.out HM.out).mono ?_
 rintro e w2 ⟨k,u,qs,b,rfl,hs,q1,q2,q3⟩
 have HF:=aM (show PoI w0 g (pSingle t ps) (ps.length + 2 * t.size) t.size 1 _ _ from ⟨k,u,qs,b,rfl,hs,q1,q2,q3⟩)
 clear hs q1 q2 q3
 go_wp2
 go_ret
 rw [HR.out]
 exact HF.out
theorem rbase (alt : ByteArray → List S85 → PR) (d : Nat) (H : AltC alt d) (g : Nat) (t : ByteArray) (ps : List S85) (w0 w : World) (h : StS w0 w g t ps false) (hM : ps.length + 2 * t.size ≤ 90) (hd0 : t.size < d + 1) :
  Calls Try.prog 97 #[.pointer (some ⟨g,0,none⟩)] w (PoI w0 g (pBase alt t ps) (ps.length + 2 * t.size) t.size 1):=by
 by_cases c94 : hdB t 94 = true
 ·exact rbase_0 alt d H g t ps w0 w h hM hd0 c94
 by_cases c36 : hdB t 36 = true
 ·exact rbase_1 alt d H g t ps w0 w h hM hd0 (Bool.eq_false_iff.mpr c94) c36
 by_cases c46 : hdB t 46 = true
 ·exact rbase_2 alt d H g t ps w0 w h hM hd0 (Bool.eq_false_iff.mpr c94) (Bool.eq_false_iff.mpr c36) c46
 by_cases c91 : hdB t 91 = true
 ·exact rbase_3 alt d H g t ps w0 w h hM hd0 (Bool.eq_false_iff.mpr c94) (Bool.eq_false_iff.mpr c36) (Bool.eq_false_iff.mpr c46) c91
 by_cases c40 : hdB t 40 = true
 ·exact rbase_4 alt d H g t ps w0 w h hM hd0 (Bool.eq_false_iff.mpr c94) (Bool.eq_false_iff.mpr c36) (Bool.eq_false_iff.mpr c46) (Bool.eq_false_iff.mpr c91) c40
 exact rbase_5 alt d H g t ps w0 w h hM hd0 (Bool.eq_false_iff.mpr c94) (Bool.eq_false_iff.mpr c36) (Bool.eq_false_iff.mpr c46) (Bool.eq_false_iff.mpr c91) (Bool.eq_false_iff.mpr c40)
set_option maxHeartbeats 4000000 in
set_option maxRecDepth 100000 in
theorem rthing (alt : ByteArray → List S85 → PR) (d : Nat) (H : AltC alt d) (g : Nat) (t : ByteArray) (ps : List S85) (w0 w : World) (h : StS w0 w g t ps false) (hM : ps.length + 2 * t.size ≤ 90) (hd0 : t.size < d + 1) :
  Calls Try.prog 77 #[.pointer (some ⟨g,0,none⟩)] w (PoI w0 g (pThing alt t ps) (ps.length + 2 * t.size) t.size 1):=by
 have HX:=aM (rbase alt d H g t ps w0 w h hM hd0)
 have HM:=aM hM;have H24:=aM (show t.size ≤ 45 by omega)
 clear h H hd0 hM
 obtain ⟨R,hR⟩ : ∃ R,pThing alt t ps = R:=⟨_,rfl⟩
 have HR:=aM hR
 rw [hR]
 clear hR
 go_enter Try.func77,Try.ntmps77
 go_wp2_with fail
 refine HX.out.mono ?_
 rintro e w1 ⟨k,u,qs,b,rfl,hs,q1,q2,q3⟩
 have HS:=aM hs;have Q1:=aM q1
 have Q2:=aM (show b = false → pStar 50 k u qs = R ∧ u.size + 1 ≤ t.size ∧ qs.length + 2 * u.size + 1 ≤ ps.length + 2 * t.size from fun hb => by
  have h2:=q2 hb
  exact ⟨by rw [← HR.out];unfold pThing;rw [h2.1,Option.bind_some],h2.2⟩)
 have Q3:=aM (show b = true → R = none from fun hb => by rw [← HR.out];unfold pThing;rw [q3 hb];rfl)
 clear hs q1 q2 q3
 go_wp2_with fail
 go_loopg [3] 50 (fun n at_ w' => ∃ (k : Int) (u : ByteArray) (qs : List S85) (b : Bool),at_ = .int .i64 k ∧ Aside0 (StS w0 w' g u qs b) ∧ Aside0 (qs.length + 2 * u.size ≤ ps.length + 2 * t.size) ∧ Aside0 (b = false → pStar n k u qs = R ∧ u.size + 1 ≤ t.size ∧ qs.length + 2 * u.size + 1 ≤ ps.length + 2 * t.size ∧ u.size < n) ∧ Aside0 (b = true → R = none))
 case atStart => exact ⟨k,u,qs,b,rfl,HS,Q1,aM (fun hb => ⟨(Q2.out hb).1,(Q2.out hb).2.1,(Q2.out hb).2.2,by have:=(Q2.out hb).2.1;have:=H24.out;omega⟩),Q3⟩
 case round =>
  clear Q1 Q2 Q3 HS HX
  obtain ⟨k,u,qs,b,rfl,HS,Q1,Q2,Q3⟩:=hrel
  obtain ⟨V,hb⟩:=HS.out.blk
  obtain ⟨⟨h0,h1,h2⟩,f0,f1,f2⟩:=bC3 hb
  clear hb
  cases b with
  |true =>
   have QN:=aM (Q3.out rfl)
   clear Q2 Q3
   go_wp2
   go_ret
   exact PoI.no HS.out QN.out Q1.out
  |false =>
   have hq:=Q2.out rfl
   cases gk with
   |zero => exact absurd hq.2.2.2 (by omega)
   |succ n =>
    by_cases c42 : hdB u 42 = true
    ·
     have C:=aM c42;have HP:=aM (hd_pos c42);have HTS:=aM (tl_size u)
     have Q2':=aM (show pStar n qs.length (tl u) (qs ++ [⟨7,eb,[k]⟩]) = R ∧ u.size + 1 ≤ t.size ∧ qs.length + 2 * u.size + 1 ≤ ps.length + 2 * t.size ∧ u.size < n + 1 from ⟨by have:=hq.1;unfold pStar at this;rw [if_pos c42] at this;exact this,hq.2⟩)
     clear hq Q2 c42 
     go_wp2_with fail
     refine (rtake_t g u qs false 42 C.out w0 _ HS.out).mono ?_
     rintro e w2 ⟨rfl,hs2⟩
     have HS2:=aM hs2;clear hs2
     go_wp2_with fail
     refine (rput g (tl u) qs false 7 ⟨#[]⟩ (some ⟨w2.heap.size,0,none⟩) 1 [k] w0 _ (HS2.out.alloc _) (C_kids _ _ [k] (by simp) (heap_alloc_new w2 _)) (Nat.le_refl _) (by have:=Q1.out;have:=HM.out;omega) (by simp)).mono ?_
     rintro e w3 ⟨rfl,hs3⟩
     have HS3:=aM hs3;clear hs3
     go_wp2_with fail
     go_roundg n
     case measure => omega
     case rel => exact ⟨_,tl u,_,false,rfl,HS3,aM (by have:=Q1.out;have:=Q2'.out.2.2.1;have:=HTS.out;have:=HP.out;rw [List.length_append,List.length_singleton];omega),aM (fun _ => ⟨Q2'.out.1,by have:=Q2'.out.2.1;have:=HTS.out;omega,by have:=Q2'.out.2.2.1;have:=HTS.out;have:=HP.out;rw [List.length_append,List.length_singleton];omega,by have:=Q2'.out.2.2.2;have:=HTS.out;have:=HP.out;omega⟩),aM (fun h => by cases h)⟩
    by_cases c43 : hdB u 43 = true
    ·
     have C:=aM c43;have HP:=aM (hd_pos c43);have HTS:=aM (tl_size u)
     have D42:=aM (Bool.eq_false_iff.mpr c42)
     have Q2':=aM (show pStar n qs.length (tl u) (qs ++ [⟨8,eb,[k]⟩]) = R ∧ u.size + 1 ≤ t.size ∧ qs.length + 2 * u.size + 1 ≤ ps.length + 2 * t.size ∧ u.size < n + 1 from ⟨by have:=hq.1;unfold pStar at this;rw [if_neg c42] at this;rw [if_pos c43] at this;exact this,hq.2⟩)
     clear hq Q2 c43 c42
     go_wp2_with fail
     refine (rtake_f g u qs false 42 D42.out w0 _ HS.out).mono ?_
     rintro e w' ⟨rfl,rfl⟩
     go_wp2_with fail
     refine (rtake_t g u qs false 43 C.out w0 _ HS.out).mono ?_
     rintro e w2 ⟨rfl,hs2⟩
     have HS2:=aM hs2;clear hs2
     go_wp2_with fail
     refine (rput g (tl u) qs false 8 ⟨#[]⟩ (some ⟨w2.heap.size,0,none⟩) 1 [k] w0 _ (HS2.out.alloc _) (C_kids _ _ [k] (by simp) (heap_alloc_new w2 _)) (Nat.le_refl _) (by have:=Q1.out;have:=HM.out;omega) (by simp)).mono ?_
     rintro e w3 ⟨rfl,hs3⟩
     have HS3:=aM hs3;clear hs3
     go_wp2_with fail
     go_roundg n
     case measure => omega
     case rel => exact ⟨_,tl u,_,false,rfl,HS3,aM (by have:=Q1.out;have:=Q2'.out.2.2.1;have:=HTS.out;have:=HP.out;rw [List.length_append,List.length_singleton];omega),aM (fun _ => ⟨Q2'.out.1,by have:=Q2'.out.2.1;have:=HTS.out;omega,by have:=Q2'.out.2.2.1;have:=HTS.out;have:=HP.out;rw [List.length_append,List.length_singleton];omega,by have:=Q2'.out.2.2.2;have:=HTS.out;have:=HP.out;omega⟩),aM (fun h => by cases h)⟩
    by_cases c63 : hdB u 63 = true
    ·
     have C:=aM c63;have HP:=aM (hd_pos c63);have HTS:=aM (tl_size u)
     have D42:=aM (Bool.eq_false_iff.mpr c42)
     have D43:=aM (Bool.eq_false_iff.mpr c43)
     have Q2':=aM (show pStar n qs.length (tl u) (qs ++ [⟨9,eb,[k]⟩]) = R ∧ u.size + 1 ≤ t.size ∧ qs.length + 2 * u.size + 1 ≤ ps.length + 2 * t.size ∧ u.size < n + 1 from ⟨by have:=hq.1;unfold pStar at this;rw [if_neg c42] at this;rw [if_neg c43] at this;rw [if_pos c63] at this;exact this,hq.2⟩)
     clear hq Q2 c63 c42 c43
     go_wp2_with fail
     refine (rtake_f g u qs false 42 D42.out w0 _ HS.out).mono ?_
     rintro e w' ⟨rfl,rfl⟩
     go_wp2_with fail
     refine (rtake_f g u qs false 43 D43.out w0 _ HS.out).mono ?_
     rintro e w' ⟨rfl,rfl⟩
     go_wp2_with fail
     refine (rtake_t g u qs false 63 C.out w0 _ HS.out).mono ?_
     rintro e w2 ⟨rfl,hs2⟩
     have HS2:=aM hs2;clear hs2
     go_wp2_with fail
     refine (rput g (tl u) qs false 9 ⟨#[]⟩ (some ⟨w2.heap.size,0,none⟩) 1 [k] w0 _ (HS2.out.alloc _) (C_kids _ _ [k] (by simp) (heap_alloc_new w2 _)) (Nat.le_refl _) (by have:=Q1.out;have:=HM.out;omega) (by simp)).mono ?_
     rintro e w3 ⟨rfl,hs3⟩
     have HS3:=aM hs3;clear hs3
     go_wp2_with fail
     go_roundg n
     case measure => omega
     case rel => exact ⟨_,tl u,_,false,rfl,HS3,aM (by have:=Q1.out;have:=Q2'.out.2.2.1;have:=HTS.out;have:=HP.out;rw [List.length_append,List.length_singleton];omega),aM (fun _ => ⟨Q2'.out.1,by have:=Q2'.out.2.1;have:=HTS.out;omega,by have:=Q2'.out.2.2.1;have:=HTS.out;have:=HP.out;rw [List.length_append,List.length_singleton];omega,by have:=Q2'.out.2.2.2;have:=HTS.out;have:=HP.out;omega⟩),aM (fun h => by cases h)⟩
    have D42:=aM (Bool.eq_false_iff.mpr c42);have D43:=aM (Bool.eq_false_iff.mpr c43);have D63:=aM (Bool.eq_false_iff.mpr c63)
    have Q2':=aM (show R = some (k,u,qs) ∧ u.size + 1 ≤ t.size ∧ qs.length + 2 * u.size + 1 ≤ ps.length + 2 * t.size from ⟨by have:=hq.1;unfold pStar at this;rw [if_neg c42,if_neg c43,if_neg c63] at this;exact this.symm,hq.2.1,hq.2.2.1⟩)
    clear hq c42 c43 c63 Q2 Q3
    go_wp2_with fail
    refine (rtake_f g u qs false 42 D42.out w0 _ HS.out).mono ?_
    rintro e w' ⟨rfl,rfl⟩
    go_wp2_with fail
    refine (rtake_f g u qs false 43 D43.out w0 _ HS.out).mono ?_
    rintro e w' ⟨rfl,rfl⟩
    go_wp2_with fail
    refine (rtake_f g u qs false 63 D63.out w0 _ HS.out).mono ?_
    rintro e w' ⟨rfl,rfl⟩
    go_wp2
    go_ret
    exact PoI.ok HS.out Q2'.out.1 Q2'.out.2.1 Q2'.out.2.2
theorem nil_list {t : ByteArray} (h : t.size = 0) : t.toList.isEmpty = true ∧ (t.toList == ([] : List UInt8)) = true:=by
 have hnil : t.toList = []:=by
  have : t.toList.length = 0:=by rw [ByteArray.toList_eq,data_length];exact h
  exact List.length_eq_zero_iff.1 this
 rw [hnil]
 exact ⟨rfl,rfl⟩
theorem stop_z {t : ByteArray} (h : t.size = 0) : stopB t = true:=by unfold stopB;rw [decide_eq_true h];rfl
theorem stop_b {t : ByteArray} (h : hdB t 124 = true) : stopB t = true:=by unfold stopB;rw [h];simp
theorem stop_r {t : ByteArray} (h : hdB t 41 = true) : stopB t = true:=by unfold stopB;rw [h];simp
theorem stop_n {t : ByteArray} (h : ¬ t.size = 0) (h1 : hdB t 124 = false) (h2 : hdB t 41 = false) : stopB t = false:=by unfold stopB;rw [h1,h2,decide_eq_false h];rfl
/-- What the tests ahead of a row's thing come to. -/
inductive Stops (t : ByteArray) : Prop
 |z (h : t.size = 0)
 |b (h : ¬ t.size = 0) (h1 : hdB t 124 = true)
 |r (h : ¬ t.size = 0) (h1 : hdB t 124 = false) (h2 : hdB t 41 = true)
 |n (h : ¬ t.size = 0) (h1 : hdB t 124 = false) (h2 : hdB t 41 = false)
theorem stops (t : ByteArray) : Stops t:=by
 by_cases h : t.size = 0
 ·exact .z h
 ·by_cases h1 : hdB t 124 = true
  ·exact .b h h1
  ·have h1:=Bool.eq_false_iff.mpr h1
   by_cases h2 : hdB t 41 = true
   ·exact .r h h1 h2
   ·exact .n h h1 (Bool.eq_false_iff.mpr h2)
set_option maxHeartbeats 4000000 in
set_option maxRecDepth 100000 in
theorem rrow_stop (alt : ByteArray → List S85 → PR) (g : Nat) (t : ByteArray) (ps : List S85) (w0 w : World) (h : StS w0 w g t ps false) (hM : ps.length + 2 * t.size ≤ 90) (hst : stopB t = true) :
  Calls Try.prog 58 #[.pointer (some ⟨g,0,none⟩)] w (PoI w0 g (pRow alt t ps) (ps.length + 2 * t.size + 1) t.size 0):=by
 have HR:=aM (show pRow alt t ps = some ((ps.length : Int),t,ps ++ [⟨12,eb,[]⟩]) by unfold pRow;rw [if_pos hst])
 have HM:=aM hM;have HS:=aM h
 obtain ⟨V,hb⟩:=h.blk
 obtain ⟨⟨h0,h1,h2⟩,f0,f1,f2⟩:=bC3 hb
 clear h hM hb
 have hcs:=stops t
 cases hcs with
 |z hz =>
  obtain ⟨e1,e2⟩:=nil_list hz
  clear hz hst
  go_enter Try.func58,Try.ntmps58
  go_wp2_with fail
  refine (rput g t ps false 12 ⟨#[]⟩ none 0 [] w0 _ HS.out (Kd.C_nil _ _) (Nat.le_refl _) (by have:=HM.out;omega) (by decide)).mono ?_
  rintro e w2 ⟨rfl,hs2⟩
  have HS2:=aM hs2;clear hs2
  go_wp2
  go_ret
  exact PoI.ok HS2.out HR.out (by omega) (by have:=HM.out;rw [List.length_append,List.length_singleton];omega)
 |b hz h1_ =>
  obtain ⟨e1,e2⟩:=no_list hz
  have X124 : ∀ W,StS w0 W g t ps false → Calls Try.prog 76 #[.pointer (some ⟨g,0,none⟩),.int .u8 124] W fun e w' => e = .returned (.bool true) ∧ W = w':=fun W h => by have:=risS g t ps false 124 w0 W h;rw [h1_] at this;exact this
  have HX124:=aM X124;clear X124
  clear hz h1_ hst
  go_enter Try.func58,Try.ntmps58
  go_wp2_with fail
  refine (HX124.out _ HS.out).mono ?_
  rintro e w' ⟨rfl,rfl⟩
  go_wp2_with fail
  refine (rput g t ps false 12 ⟨#[]⟩ none 0 [] w0 _ HS.out (Kd.C_nil _ _) (Nat.le_refl _) (by have:=HM.out;omega) (by decide)).mono ?_
  rintro e w2 ⟨rfl,hs2⟩
  have HS2:=aM hs2;clear hs2
  go_wp2
  go_ret
  exact PoI.ok HS2.out HR.out (by omega) (by have:=HM.out;rw [List.length_append,List.length_singleton];omega)
 |r hz h1_ h2_ =>
  obtain ⟨e1,e2⟩:=no_list hz
  have X124 : ∀ W,StS w0 W g t ps false → Calls Try.prog 76 #[.pointer (some ⟨g,0,none⟩),.int .u8 124] W fun e w' => e = .returned (.bool false) ∧ W = w':=fun W h => by have:=risS g t ps false 124 w0 W h;rw [h1_] at this;exact this
  have HX124:=aM X124;clear X124
  have X41 : ∀ W,StS w0 W g t ps false → Calls Try.prog 76 #[.pointer (some ⟨g,0,none⟩),.int .u8 41] W fun e w' => e = .returned (.bool true) ∧ W = w':=fun W h => by have:=risS g t ps false 41 w0 W h;rw [h2_] at this;exact this
  have HX41:=aM X41;clear X41
  clear hz h1_ h2_ hst
  go_enter Try.func58,Try.ntmps58
  go_wp2_with fail
  refine (HX124.out _ HS.out).mono ?_
  rintro e w' ⟨rfl,rfl⟩
  go_wp2_with fail
  refine (HX41.out _ HS.out).mono ?_
  rintro e w' ⟨rfl,rfl⟩
  go_wp2_with fail
  refine (rput g t ps false 12 ⟨#[]⟩ none 0 [] w0 _ HS.out (Kd.C_nil _ _) (Nat.le_refl _) (by have:=HM.out;omega) (by decide)).mono ?_
  rintro e w2 ⟨rfl,hs2⟩
  have HS2:=aM hs2;clear hs2
  go_wp2
  go_ret
  exact PoI.ok HS2.out HR.out (by omega) (by have:=HM.out;rw [List.length_append,List.length_singleton];omega)
 |n hz h1_ h2_ => exact absurd (hst.symm.trans (stop_n hz h1_ h2_)) (by decide)
set_option maxHeartbeats 4000000 in
set_option maxRecDepth 100000 in
theorem rrow_go (alt : ByteArray → List S85 → PR) (d : Nat) (H : AltC alt d) (g : Nat) (t : ByteArray) (ps : List S85) (w0 w : World) (h : StS w0 w g t ps false) (hM : ps.length + 2 * t.size ≤ 90) (hd0 : t.size < d + 1) (hz : ¬ t.size = 0) (h1_ : hdB t 124 = false) (h2_ : hdB t 41 = false) :
  Calls Try.prog 58 #[.pointer (some ⟨g,0,none⟩)] w (PoI w0 g (pRow alt t ps) (ps.length + 2 * t.size + 1) t.size 0):=by
 have hst:=stop_n hz h1_ h2_
 have HX:=aM (fun W hW => rthing alt d H g t ps w0 W hW hM hd0)
 have HH:=aM H;have HM:=aM hM;have HD:=aM hd0;have HS:=aM h;have H45:=aM (show t.size ≤ 45 by omega)
 obtain ⟨R,hR⟩ : ∃ R,pRow alt t ps = R:=⟨_,rfl⟩
 have HR:=aM (show (pThing alt t ps).bind (fun x => pRowL alt 50 x.1 x.2.1 x.2.2) = R by rw [← hR];unfold pRow;rw [if_neg (by rw [hst];decide)])
 rw [hR]
 clear hR hst
 obtain ⟨e1,e2⟩:=no_list hz
 have X124 : ∀ W,StS w0 W g t ps false → Calls Try.prog 76 #[.pointer (some ⟨g,0,none⟩),.int .u8 124] W fun e w' => e = .returned (.bool false) ∧ W = w':=fun W h => by have:=risS g t ps false 124 w0 W h;rw [h1_] at this;exact this
 have HX124:=aM X124;clear X124
 have X41 : ∀ W,StS w0 W g t ps false → Calls Try.prog 76 #[.pointer (some ⟨g,0,none⟩),.int .u8 41] W fun e w' => e = .returned (.bool false) ∧ W = w':=fun W h => by have:=risS g t ps false 41 w0 W h;rw [h2_] at this;exact this
 have HX41:=aM X41;clear X41
 obtain ⟨V,hb⟩:=h.blk
 obtain ⟨⟨h0,h1,h2⟩,f0,f1,f2⟩:=bC3 hb
 clear h hM hb H hd0 hz h1_ h2_
 go_enter Try.func58,Try.ntmps58
 go_wp2_with fail
 refine (HX124.out _ HS.out).mono ?_
 rintro e w' ⟨rfl,rfl⟩
 go_wp2_with fail
 refine (HX41.out _ HS.out).mono ?_
 rintro e w' ⟨rfl,rfl⟩
 go_wp2_with fail
 refine (HX.out _ HS.out).mono ?_
 rintro e w1 ⟨k,u,qs,b,rfl,hs,q1,q2,q3⟩
 have HS1:=aM hs;have Q1:=aM q1
 have Q2:=aM (show b = false → pRowL alt 50 k u qs = R ∧ u.size + 1 ≤ t.size ∧ qs.length + 2 * u.size + 1 ≤ ps.length + 2 * t.size from fun hb => by
  have h2:=q2 hb
  exact ⟨by rw [← HR.out,h2.1,Option.bind_some],h2.2⟩)
 have Q3:=aM (show b = true → R = none from fun hb => by rw [← HR.out,q3 hb];rfl)
 clear hs q1 q2 q3 h0 h1 h2 f0 f1 f2 e1 e2 HS HX HX124 HX41
 go_wp2_with fail
 go_loopg [3] 50 (fun n at_ w' => ∃ (k : Int) (u : ByteArray) (qs : List S85) (b : Bool),at_ = .int .i64 k ∧ Aside0 (StS w0 w' g u qs b) ∧ Aside0 (qs.length + 2 * u.size ≤ ps.length + 2 * t.size + 1) ∧ Aside0 (b = false → pRowL alt n k u qs = R ∧ u.size + 1 ≤ t.size ∧ qs.length + 2 * u.size + 1 ≤ ps.length + 2 * t.size ∧ u.size < n) ∧ Aside0 (b = true → R = none))
 case atStart => exact ⟨k,u,qs,b,rfl,HS1,aM (by have:=Q1.out;omega),aM (fun hb => ⟨(Q2.out hb).1,(Q2.out hb).2.1,(Q2.out hb).2.2,by have:=(Q2.out hb).2.1;have:=H45.out;omega⟩),Q3⟩
 case round =>
  clear Q1 Q2 Q3 HS1
  obtain ⟨k,u,qs,b,rfl,HS,Q1,Q2,Q3⟩:=hrel
  obtain ⟨V,hb⟩:=HS.out.blk
  obtain ⟨⟨h0,h1,h2⟩,f0,f1,f2⟩:=bC3 hb
  clear hb
  cases b with
  |true =>
   have QN:=aM (Q3.out rfl)
   clear Q2 Q3
   go_wp2
   go_ret
   exact PoI.no HS.out QN.out Q1.out
  |false =>
   have hq:=Q2.out rfl
   cases gk with
   |zero => exact absurd hq.2.2.2 (by omega)
   |succ n =>
    have hcs:=stops u
    cases hcs with
    |z hz =>
     obtain ⟨e1,e2⟩:=nil_list hz
     have Q2':=aM (show R = some (k,u,qs) ∧ u.size + 1 ≤ t.size ∧ qs.length + 2 * u.size + 1 ≤ ps.length + 2 * t.size from ⟨by have:=hq.1;unfold pRowL at this;rw [if_pos (stop_z hz)] at this;exact this.symm,hq.2.1,hq.2.2.1⟩)
     clear hz hq Q2 Q3
     go_wp2
     go_ret
     exact PoI.ok HS.out Q2'.out.1 (by have:=Q2'.out.2.1;omega) (by have:=Q2'.out.2.2;omega)
    |b hz h1_ =>
     obtain ⟨e1,e2⟩:=no_list hz
     have Q2':=aM (show R = some (k,u,qs) ∧ u.size + 1 ≤ t.size ∧ qs.length + 2 * u.size + 1 ≤ ps.length + 2 * t.size from ⟨by have:=hq.1;unfold pRowL at this;rw [if_pos (stop_b h1_)] at this;exact this.symm,hq.2.1,hq.2.2.1⟩)
     have X124 : ∀ W,StS w0 W g u qs false → Calls Try.prog 76 #[.pointer (some ⟨g,0,none⟩),.int .u8 124] W fun e w' => e = .returned (.bool true) ∧ W = w':=fun W h => by have:=risS g u qs false 124 w0 W h;rw [h1_] at this;exact this
     have HX124:=aM X124;clear X124
     clear hz h1_ hq Q2 Q3
     go_wp2_with fail
     refine (HX124.out _ HS.out).mono ?_
     rintro e w' ⟨rfl,rfl⟩
     go_wp2
     go_ret
     exact PoI.ok HS.out Q2'.out.1 (by have:=Q2'.out.2.1;omega) (by have:=Q2'.out.2.2;omega)
    |r hz h1_ h2_ =>
     obtain ⟨e1,e2⟩:=no_list hz
     have Q2':=aM (show R = some (k,u,qs) ∧ u.size + 1 ≤ t.size ∧ qs.length + 2 * u.size + 1 ≤ ps.length + 2 * t.size from ⟨by have:=hq.1;unfold pRowL at this;rw [if_pos (stop_r h2_)] at this;exact this.symm,hq.2.1,hq.2.2.1⟩)
     have X124 : ∀ W,StS w0 W g u qs false → Calls Try.prog 76 #[.pointer (some ⟨g,0,none⟩),.int .u8 124] W fun e w' => e = .returned (.bool false) ∧ W = w':=fun W h => by have:=risS g u qs false 124 w0 W h;rw [h1_] at this;exact this
     have HX124:=aM X124;clear X124
     have X41 : ∀ W,StS w0 W g u qs false → Calls Try.prog 76 #[.pointer (some ⟨g,0,none⟩),.int .u8 41] W fun e w' => e = .returned (.bool true) ∧ W = w':=fun W h => by have:=risS g u qs false 41 w0 W h;rw [h2_] at this;exact this
     have HX41:=aM X41;clear X41
     clear hz h1_ h2_ hq Q2 Q3
     go_wp2_with fail
     refine (HX124.out _ HS.out).mono ?_
     rintro e w' ⟨rfl,rfl⟩
     go_wp2_with fail
     refine (HX41.out _ HS.out).mono ?_
     rintro e w' ⟨rfl,rfl⟩
     go_wp2
     go_ret
     exact PoI.ok HS.out Q2'.out.1 (by have:=Q2'.out.2.1;omega) (by have:=Q2'.out.2.2;omega)
    |n hz h1_ h2_ =>
     obtain ⟨e1,e2⟩:=no_list hz
     have Q2':=aM (show (pThing alt u qs).bind (fun x => pRowL alt n x.2.2.length x.2.1 (x.2.2 ++ [⟨5,eb,[k,x.1]⟩])) = R ∧ u.size + 1 ≤ t.size ∧ qs.length + 2 * u.size + 1 ≤ ps.length + 2 * t.size ∧ u.size < n + 1 from ⟨by have:=hq.1;unfold pRowL at this;rw [if_neg (by rw [stop_n hz h1_ h2_];decide)] at this;exact this,hq.2⟩)
     have X124 : ∀ W,StS w0 W g u qs false → Calls Try.prog 76 #[.pointer (some ⟨g,0,none⟩),.int .u8 124] W fun e w' => e = .returned (.bool false) ∧ W = w':=fun W h => by have:=risS g u qs false 124 w0 W h;rw [h1_] at this;exact this
     have HX124:=aM X124;clear X124
     have X41 : ∀ W,StS w0 W g u qs false → Calls Try.prog 76 #[.pointer (some ⟨g,0,none⟩),.int .u8 41] W fun e w' => e = .returned (.bool false) ∧ W = w':=fun W h => by have:=risS g u qs false 41 w0 W h;rw [h2_] at this;exact this
     have HX41:=aM X41;clear X41
     clear hz h1_ h2_ hq Q2 Q3
     go_wp2_with fail
     refine (HX124.out _ HS.out).mono ?_
     rintro e w' ⟨rfl,rfl⟩
     go_wp2_with fail
     refine (HX41.out _ HS.out).mono ?_
     rintro e w' ⟨rfl,rfl⟩
     go_wp2_with fail
     refine (rthing alt d HH.out g u qs w0 _ HS.out (by have:=Q2'.out.2.2.1;have:=HM.out;omega) (by have:=Q2'.out.2.1;have:=HD.out;omega)).mono ?_
     rintro e w2 ⟨j,v,rs,b,rfl,hs,q1,q2,q3⟩
     have HS2:=aM hs;have P1:=aM q1;have P2:=aM q2;have P3:=aM q3
     clear hs q1 q2 q3 h0 h1 h2 f0 f1 f2
     go_wp2_with fail
     refine (rput g v rs b 5 ⟨#[]⟩ (some ⟨w2.heap.size,0,none⟩) 2 [k,j] w0 _ (HS2.out.alloc _) (C_kids _ _ [k,j] (by simp) (heap_alloc_new w2 _)) (Nat.le_refl _) (by have:=P1.out;have:=Q2'.out.2.2.1;have:=HM.out;omega) (by simp)).mono ?_
     rintro e w3 ⟨rfl,hs3⟩
     have HS3:=aM hs3;clear hs3
     go_wp2_with fail
     go_roundg n
     case measure => omega
     case rel =>
      refine ⟨_,v,_,b,rfl,HS3,aM (by have:=P1.out;have:=Q2'.out.2.2.1;rw [List.length_append,List.length_singleton];omega),aM (fun hb => ⟨?_,by have:=(P2.out hb).2.1;have:=Q2'.out.2.1;omega,by have:=(P2.out hb).2.2;have:=Q2'.out.2.2.1;rw [List.length_append,List.length_singleton];omega,by have:=(P2.out hb).2.1;have:=Q2'.out.2.2.2;omega⟩),aM (fun hb => ?_)⟩
      ·have:=Q2'.out.1
       rw [(P2.out hb).1,Option.bind_some] at this
       exact this
      ·have:=Q2'.out.1
       rw [P3.out hb] at this
       exact this.symm
theorem rrow (alt : ByteArray → List S85 → PR) (d : Nat) (H : AltC alt d) (g : Nat) (t : ByteArray) (ps : List S85) (w0 w : World) (h : StS w0 w g t ps false) (hM : ps.length + 2 * t.size ≤ 90) (hd0 : t.size < d + 1) :
  Calls Try.prog 58 #[.pointer (some ⟨g,0,none⟩)] w (PoI w0 g (pRow alt t ps) (ps.length + 2 * t.size + 1) t.size 0):=by
 have hcs:=stops t
 cases hcs with
 |z hz => exact rrow_stop alt g t ps w0 w h hM (stop_z hz)
 |b hz h1 => exact rrow_stop alt g t ps w0 w h hM (stop_b h1)
 |r hz h1 h2 => exact rrow_stop alt g t ps w0 w h hM (stop_r h2)
 |n hz h1 h2 => exact rrow_go alt d H g t ps w0 w h hM hd0 hz h1 h2
set_option maxHeartbeats 4000000 in
set_option maxRecDepth 100000 in
theorem ralternatives (d : Nat) (H : AltC (pAlt d) d) : AltC (pAlt (d + 1)) (d + 1):=by
 intro g w0 w t ps h hd0 hM
 have HX:=aM (rrow (pAlt d) d H g t ps w0 w h hM hd0)
 have HH:=aM H;have HM:=aM hM;have HD:=aM hd0;have H45:=aM (show t.size ≤ 45 by omega)
 obtain ⟨R,hR⟩ : ∃ R,pAlt (d + 1) t ps = R:=⟨_,rfl⟩
 have HR:=aM (show (pRow (pAlt d) t ps).bind (fun x => pAltL (pAlt d) 50 x.1 x.2.1 x.2.2) = R by rw [← hR];rfl)
 rw [hR]
 clear hR h hM H hd0
 go_enter Try.func38,Try.ntmps38
 go_wp2_with fail
 refine HX.out.mono ?_
 rintro e w1 ⟨k,u,qs,b,rfl,hs,q1,q2,q3⟩
 have HS1:=aM hs;have Q1:=aM q1
 have Q2:=aM (show b = false → pAltL (pAlt d) 50 k u qs = R ∧ u.size ≤ t.size from fun hb => by
  have h2:=q2 hb
  exact ⟨by rw [← HR.out,h2.1,Option.bind_some],h2.2.1⟩)
 have Q3:=aM (show b = true → R = none from fun hb => by rw [← HR.out,q3 hb];rfl)
 clear hs q1 q2 q3 HX
 go_wp2_with fail
 go_loopg [3] 50 (fun n at_ w' => ∃ (k : Int) (u : ByteArray) (qs : List S85) (b : Bool),at_ = .int .i64 k ∧ Aside0 (StS w0 w' g u qs b) ∧ Aside0 (qs.length + 2 * u.size ≤ ps.length + 2 * t.size + 1) ∧ Aside0 (b = false → pAltL (pAlt d) n k u qs = R ∧ u.size ≤ t.size ∧ u.size < n) ∧ Aside0 (b = true → R = none))
 case atStart => exact ⟨k,u,qs,b,rfl,HS1,Q1,aM (fun hb => ⟨(Q2.out hb).1,(Q2.out hb).2,by have:=(Q2.out hb).2;have:=H45.out;omega⟩),Q3⟩
 case round =>
  clear Q1 Q2 Q3 HS1
  obtain ⟨k,u,qs,b,rfl,HS,Q1,Q2,Q3⟩:=hrel
  obtain ⟨V,hb⟩:=HS.out.blk
  obtain ⟨⟨h0,h1,h2⟩,f0,f1,f2⟩:=bC3 hb
  clear hb
  cases b with
  |true =>
   have QN:=aM (Q3.out rfl)
   clear Q2 Q3
   go_wp2
   go_ret
   exact PoI.no HS.out QN.out Q1.out
  |false =>
   have hq:=Q2.out rfl
   cases gk with
   |zero => exact absurd hq.2.2 (by omega)
   |succ n =>
    by_cases c : hdB u 124 = true
    ·have C:=aM c;have HP:=aM (hd_pos c);have HTS:=aM (tl_size u)
     have Q2':=aM (show (pRow (pAlt d) (tl u) qs).bind (fun x => pAltL (pAlt d) n x.2.2.length x.2.1 (x.2.2 ++ [⟨6,eb,[k,x.1]⟩])) = R ∧ u.size ≤ t.size ∧ u.size < n + 1 from ⟨by have:=hq.1;unfold pAltL at this;rw [if_pos c] at this;exact this,hq.2⟩)
     clear hq c Q2 Q3
     go_wp2_with fail
     refine (rtake_t g u qs false 124 C.out w0 _ HS.out).mono ?_
     rintro e w2 ⟨rfl,hs2⟩
     have HS2:=aM hs2;clear hs2 h0 h1 h2 f0 f1 f2
     go_wp2_with fail
     refine (rrow (pAlt d) d HH.out g (tl u) qs w0 _ HS2.out (by have:=Q1.out;have:=HTS.out;have:=HP.out;have:=HM.out;omega) (by have:=Q2'.out.2.1;have:=HD.out;have:=HTS.out;omega)).mono ?_
     rintro e w3 ⟨j,v,rs,b,rfl,hs,q1,q2,q3⟩
     have HS3:=aM hs;have P1:=aM q1;have P2:=aM q2;have P3:=aM q3
     clear hs q1 q2 q3
     go_wp2_with fail
     refine (rput g v rs b 6 ⟨#[]⟩ (some ⟨w3.heap.size,0,none⟩) 2 [k,j] w0 _ (HS3.out.alloc _) (C_kids _ _ [k,j] (by simp) (heap_alloc_new w3 _)) (Nat.le_refl _) (by have:=P1.out;have:=Q1.out;have:=HTS.out;have:=HM.out;omega) (by simp)).mono ?_
     rintro e w4 ⟨rfl,hs4⟩
     have HS4:=aM hs4;clear hs4
     go_wp2_with fail
     go_roundg n
     case measure => omega
     case rel =>
      refine ⟨_,v,_,b,rfl,HS4,aM (by have:=P1.out;have:=Q1.out;have:=HTS.out;have:=HP.out;rw [List.length_append,List.length_singleton];omega),aM (fun hb => ⟨?_,by have:=(P2.out hb).2.1;have:=Q2'.out.2.1;have:=HTS.out;omega,by have:=(P2.out hb).2.1;have:=Q2'.out.2.2;have:=HTS.out;have:=HP.out;omega⟩),aM (fun hb => ?_)⟩
      ·have:=Q2'.out.1
       rw [(P2.out hb).1,Option.bind_some] at this
       exact this
      ·have:=Q2'.out.1
       rw [P3.out hb] at this
       exact this.symm
    ·have C:=aM (Bool.eq_false_iff.mpr c)
     have Q2':=aM (show R = some (k,u,qs) ∧ u.size ≤ t.size from ⟨by have:=hq.1;unfold pAltL at this;rw [if_neg c] at this;exact this.symm,hq.2.1⟩)
     clear hq c Q2 Q3
     go_wp2_with fail
     refine (rtake_f g u qs false 124 C.out w0 _ HS.out).mono ?_
     rintro e w' ⟨rfl,rfl⟩
     go_wp2
     go_ret
     exact PoI.ok HS.out Q2'.out.1 (by have:=Q2'.out.2;omega) (by have:=Q1.out;omega)
theorem ralt : ∀ d,AltC (pAlt d) d
 |0 => fun _ _ _ _ _ _ h => absurd h (Nat.not_lt_zero _)
 |d + 1 => ralternatives d (ralt d)
def pRead (s : ByteArray) : Option (List S85):=
 if 1 ≤ s.size ∧ s.size ≤ 24 then (pAlt 50 s []).bind fun x => if x.2.1.size = 0 then some x.2.2 else none else none
def PoRead (w : World) (o : Option (List S85)) (e : Ending) (w' : World) : Prop:=
 ∃ (v : Value) (qs : List S85) (b : Bool),e = .returned (.tuple #[.agg #[v],.bool b]) ∧ Kd.S k85 85 w' w.heap.size (fun _ => True) v qs ∧ Below w.heap.size w w' ∧ (o = none → qs = [] ∧ b = false) ∧ (∀ ps,o = some ps → qs = ps ∧ b = true)
set_option maxHeartbeats 4000000 in
set_option maxRecDepth 100000 in
theorem rread_out (s : ByteArray) (hs : ¬ (1 ≤ s.size ∧ s.size ≤ 24)) (w : World) :
  Calls Try.prog 19 #[.string s] w (PoRead w (pRead s)):=by
 have hr : pRead s = none:=by unfold pRead;rw [if_neg hs]
 have hwi : impl_within.f s.size 1 24 = some false:=by
  unfold impl_within.f
  by_cases c : (s.size : Int) ≥ 1
  ·rw [if_pos c,decide_eq_false (by omega)]
  ·rw [if_neg c]
 have HR:=aM hr;have HW:=aM hwi
 clear hr hwi hs
 go_enter Try.func19,Try.ntmps19
 go_wp2_with (go_at_call 34;refine (impl_within.calls _ _ _ false _ HW.out).mono ?_;rintro e w' ⟨rfl,⟨nd,rfl⟩⟩)
 refine bodyPost_ret (v:=.tuple #[.agg #[.slice none 0 0],.bool false]) (by simp [results,Try.results19,go_sem]) rfl ?_
 exact ⟨_,[],false,rfl,Kd.S_nil _ _ _ _ _,lS (by repeat (first|exact Below.refl _ _|apply lA|apply lN|apply lD)) (Nat.le_refl _),fun _ => ⟨rfl,rfl⟩,fun ps h => by rw [HR.out] at h;cases h⟩
set_option maxHeartbeats 4000000 in
set_option maxRecDepth 100000 in
theorem rread_in (k : Nat) (s : ByteArray) (hs : 1 ≤ s.size ∧ s.size ≤ 24) (hok : ∀ qs,pRead s = some qs → impl_PatternOk.f k qs = some true) (w : World) :
  Calls Try.prog 19 #[.string s] w (PoRead w (pRead s)):=by
 have hr : pRead s = (pAlt 50 s []).bind fun x => if x.2.1.size = 0 then some x.2.2 else none:=by unfold pRead;rw [if_pos hs]
 have hwi : impl_within.f s.size 1 24 = some true:=by
  unfold impl_within.f
  rw [if_pos (by omega),decide_eq_true (by omega)]
 have HR:=aM hr;have HW:=aM hwi;have HSZ:=aM hs;have HOK:=aM hok
 clear hr hwi hs hok
 go_enter Try.func19,Try.ntmps19
 go_wp2_with (go_at_call 34;refine (impl_within.calls _ _ _ true _ HW.out).mono ?_;rintro e w' ⟨rfl,⟨nd,rfl⟩⟩)
 obtain ⟨wa,hwa⟩ : ∃ wa,(w.alloc (.cells #[.slice none 0 0] 30)).drewN nd = wa:=⟨_,rfl⟩
 have hsz : wa.heap.size = w.heap.size + 1:=by rw [← hwa];simp
 have hBa : Below w.heap.size w wa:=by rw [← hwa];exact lN (lA (Below.refl _ _) _) _
 have hra : wa.heap[w.heap.size]? = some (.cells #[.slice none 0 0] 30 (0,0)):=by rw [← hwa];exact heap_alloc_new w _
 rw [hwa]
 have HS:=aM (show StS wa (wa.alloc (.cells #[.string s,.slice none 0 0,.bool false] 76)) (w.heap.size + 1) s [] false from ⟨none,0,by rw [← hsz];exact heap_alloc_new wa _,by omega,Kd.S_nil _ _ _ _ _,lA (Below.refl _ _) _⟩)
 have HBa:=aM hBa;have HRA:=aM hra;have HZ:=aM hsz
 clear hwa hBa hra hsz
 go_wp2_with fail
 refine (ralt 50 _ wa _ s [] HS.out (by have:=HSZ.out;omega) (by have:=HSZ.out;simp;omega)).mono ?_
 rintro e w2 ⟨j,u,qs,b,rfl,hs2,q1,q2,q3⟩
 obtain ⟨A,c,hb2,hg2,hR2,hB2⟩:=hs2
 have HR2:=aM hR2;have HB2:=aM hB2;have HBK:=aM hb2;have Q2:=aM q2;have Q3:=aM q3;have Q1:=aM q1
 have hr3:=(hB2.block w.heap.size (by have:=HZ.out;omega)).trans HRA.out
 have hlt : w.heap.size < w2.heap.size:=bL hr3
 have hne : w.heap.size ≠ w.heap.size + 1:=by omega
 obtain ⟨⟨h3,h4,h5⟩,f3,f4,f5⟩:=bC3 hb2
 have hc3 : w2.cell? ⟨w.heap.size,0,none⟩ = some (.slice none 0 0):=(bC hr3 0).trans rfl
 have hf3:=bF hr3 0
 have HR3:=aM hr3
 have HBB:=aM (show Below w.heap.size w w2 from HBa.out.trans (hB2.mono (by have:=HZ.out;omega)))
 clear hb2 hg2 hR2 hB2 q1 q2 q3 hr3
 cases b with
 |true =>
  have HN:=aM (show pRead s = none by rw [HR.out,Q3.out rfl];rfl)
  clear Q2 Q3
  go_wp2
  refine bodyPost_ret (v:=.tuple #[.agg #[.slice none 0 0],.bool false]) (by simp [results,Try.results19,go_sem,hc3,hf3,hlt]) rfl ?_
  exact ⟨_,[],false,rfl,Kd.S_nil _ _ _ _ _,lS HBB.out (Nat.le_refl _),fun _ => ⟨rfl,rfl⟩,fun ps h => by rw [HN.out] at h;cases h⟩
 |false =>
  have hq:=(Q2.out rfl).1
  clear Q2 Q3
  by_cases hu : u.size = 0
  ·obtain ⟨e1,e2⟩:=nil_list hu
   have hpr : pRead s = some qs:=by rw [HR.out,hq,Option.bind_some];simp only [];rw [if_pos hu]
   have HPO:=aM (HOK.out qs hpr);have HPR:=aM hpr
   clear hpr hq hu
   obtain ⟨_,hl,hC⟩:=Kd.S_reads' HR2.out
   have HC:=aM hC;have HL:=aM hl
   clear hC hl
   go_wp2_with (go_at_call 30;refine (impl_PatternOk.calls k A c qs true _ HC.out HL.out HPO.out).mono ?_;rintro e w3 ⟨rfl,hb3⟩;have hbk3:=(hb3.block _ (bL HBK.out)).trans HBK.out;obtain ⟨⟨x3,x4,x5⟩,y3,y4,y5⟩:=bC3 hbk3;have hr4:=(hb3.block w.heap.size (bL HR3.out)).trans HR3.out;have hc4 : w3.cell? ⟨w.heap.size,0,none⟩ = some (.slice none 0 0):=(bC hr4 0).trans rfl;have hf4:=bF hr4 0;have hlt3 : w.heap.size < w3.heap.size:=bL hr4;have HB3:=aM (show Below w.heap.size w w3 from lQ HBB.out hb3);have HS3:=aM (Kd.S_below HR2.out hb3);have HR4:=aM hr4;clear hbk3 hr4 hb3)
   refine bodyPost_ret (v:=.tuple #[.agg #[.slice A qs.length c],.bool true]) (by simp [results,Try.results19,go_sem,hc4,hf4,hlt3]) rfl ?_
   refine ⟨_,qs,true,rfl,Kd.S_mono (Kd.S_lower (Kd.S_set (Kd.S_mono HS3.out (fun _ _ => trivial)) HR4.out (by decide) 0 _) (by have:=HZ.out;omega)) (fun _ _ => trivial),lS HB3.out (Nat.le_refl _),(fun h => by rw [HPR.out] at h;cases h),fun ps h => by rw [HPR.out] at h;exact ⟨Option.some.inj h,rfl⟩⟩
  ·obtain ⟨e1,e2⟩:=no_list hu
   have HN:=aM (show pRead s = none by rw [HR.out,hq,Option.bind_some];simp only [];rw [if_neg hu])
   clear hq hu
   go_wp2
   refine bodyPost_ret (v:=.tuple #[.agg #[.slice none 0 0],.bool false]) (by simp [results,Try.results19,go_sem,hc3,hf3,hlt]) rfl ?_
   exact ⟨_,[],false,rfl,Kd.S_nil _ _ _ _ _,lS HBB.out (Nat.le_refl _),fun _ => ⟨rfl,rfl⟩,fun ps h => by rw [HN.out] at h;cases h⟩
theorem rread (k : Nat) (s : ByteArray) (hok : ∀ qs,pRead s = some qs → impl_PatternOk.f k qs = some true) (w : World) :
  Calls Try.prog 19 #[.string s] w (PoRead w (pRead s)):=by
 by_cases hs : 1 ≤ s.size ∧ s.size ≤ 24
 ·exact rread_in k s hs hok w
 ·exact rread_out s hs w
set_option maxHeartbeats 4000000
set_option maxRecDepth 100000
def sf (s : ByteArray) (a : Nat) : ByteArray:=s.extract a s.size
theorem sf_size (s : ByteArray) (a : Nat) : (sf s a).size = s.size - a:=by unfold sf;rw [ByteArray.size_extract];omega
theorem sf_bt (s : ByteArray) (a : Nat) (h : a < s.size) : bt (sf s a) 0 = ((s[a]'h).toNat : Int):=by
 have h2 : 0 < (sf s a).size:=by rw [sf_size];omega
 rw [← bt_at (sf s a) 0 h2]
 unfold sf at h2 ⊢
 simp [ByteArray.getElem_extract]
theorem sf_hd (s : ByteArray) (a : Nat) (h : a < s.size) (c : Int) : (((s[a]'h).toNat : Int) == c) = hdB (sf s a) c:=by
 unfold hdB
 rw [sf_bt s a h]
 have h2 : 0 < (sf s a).size:=by rw [sf_size];omega
 by_cases e : ((s[a]'h).toNat : Int) = c
 ·rw [decide_eq_true ⟨h2,e⟩,e];simp
 ·rw [decide_eq_false (fun h => e h.2)];simpa using e
theorem sf_tl (s : ByteArray) (a : Nat) (h : a < s.size) : tl (sf s a) = sf s (a + 1):=by
 unfold tl sf
 rw [ByteArray.extract_extract]
 congr 1
 rw [ByteArray.size_extract];omega
theorem sf_no (s : ByteArray) (a : Nat) (h : ¬ a < s.size) (c : Int) : hdB (sf s a) c = false:=decide_eq_false (by rw [sf_size];omega)
def StT (w0 W : World) (g : Nat) (s : ByteArray) (a : Nat) (ps : List S85) (b : Bool) : Prop:=
 ∃ A c,W.heap[g]? = some (.cells #[.string s,.int .i64 a,.bool b,.slice A ps.length c] 72 (0,0)) ∧ w0.heap.size ≤ g ∧ Kd.S k85 85 W w0.heap.size (fun k => k ≠ g) (.slice A ps.length c) ps ∧ Below w0.heap.size w0 W
theorem bC4 {w : World} {g : Nat} {a b c d : Value} {t : TypeId} (h : w.heap[g]? = some (.cells #[a,b,c,d] t (0,0))) : (w.cell? ⟨g,0,none⟩ = some a ∧ w.cell? ⟨g,1,none⟩ = some b ∧ w.cell? ⟨g,2,none⟩ = some c ∧ w.cell? ⟨g,3,none⟩ = some d) ∧ w.frozen? ⟨g,0,none⟩ = false ∧ w.frozen? ⟨g,1,none⟩ = false ∧ w.frozen? ⟨g,2,none⟩ = false ∧ w.frozen? ⟨g,3,none⟩ = false:=
 ⟨⟨(bC h 0).trans rfl,(bC h 1).trans rfl,(bC h 2).trans rfl,(bC h 3).trans rfl⟩,bF h 0,bF h 1,bF h 2,bF h 3⟩
theorem StT.at_ {w0 w : World} {g : Nat} {s : ByteArray} {a : Nat} {ps : List S85} {b : Bool} (h : StT w0 w g s a ps b) (a' : Nat) : StT w0 (w.setCell ⟨g,1,none⟩ (.int .i64 a')) g s a' ps b:=by
 obtain ⟨A,c,hb,hg,hR,hB⟩:=h
 exact ⟨A,c,blk_put hb 1 _ rfl,hg,Kd.S_far (p:=⟨g,1,none⟩) hR (fun k hk => hk) _,lS hB hg⟩
theorem StT.bad {w0 w : World} {g : Nat} {s : ByteArray} {a : Nat} {ps : List S85} {b : Bool} (h : StT w0 w g s a ps b) : StT w0 (w.setCell ⟨g,2,none⟩ (.bool true)) g s a ps true:=by
 obtain ⟨A,c,hb,hg,hR,hB⟩:=h
 exact ⟨A,c,blk_put hb 2 _ rfl,hg,Kd.S_far (p:=⟨g,2,none⟩) hR (fun k hk => hk) _,lS hB hg⟩
theorem StT.drewN {w0 w : World} {g : Nat} {s : ByteArray} {a : Nat} {ps : List S85} {b : Bool} (h : StT w0 w g s a ps b) (n : Nat) : StT w0 (w.drewN n) g s a ps b:=by
 obtain ⟨A,c,hb,hg,hR,hB⟩:=h
 exact ⟨A,c,bN hb _,hg,Kd.S_drewN hR _,lN hB _⟩
theorem StT.drew {w0 w : World} {g : Nat} {s : ByteArray} {a : Nat} {ps : List S85} {b : Bool} (h : StT w0 w g s a ps b) : StT w0 w.drew g s a ps b:=by
 obtain ⟨A,c,hb,hg,hR,hB⟩:=h
 exact ⟨A,c,bD hb,hg,Kd.S_drew hR,lD hB⟩
theorem StT.alloc {w0 w : World} {g : Nat} {s : ByteArray} {a : Nat} {ps : List S85} {b : Bool} (h : StT w0 w g s a ps b) (o : Obj) : StT w0 (w.alloc o) g s a ps b:=by
 obtain ⟨A,c,hb,hg,hR,hB⟩:=h
 exact ⟨A,c,bA hb _,hg,Kd.S_alloc hR _,lA hB _⟩
theorem StT.blk {w0 w : World} {g : Nat} {s : ByteArray} {a : Nat} {ps : List S85} {b : Bool} (h : StT w0 w g s a ps b) : ∃ V,w.heap[g]? = some (.cells #[.string s,.int .i64 a,.bool b,V] 72 (0,0)):=by
 obtain ⟨A,c,hb,_⟩:=h
 exact ⟨_,hb⟩
/-- What 'is' tells. -/
def isB (s : ByteArray) (a : Nat) (b : Bool) (c : Int) : Bool:=!b && hdB (sf s a) c
set_option maxHeartbeats 4000000 in
set_option maxRecDepth 100000 in
theorem sis (g : Nat) (s : ByteArray) (a : Nat) (ps : List S85) (b : Bool) (c : Int) (hs : s.size ≤ 1000) (ha : a ≤ s.size) (w0 w : World) (h : StT w0 w g s a ps b) :
  Calls Try.prog 56 #[.pointer (some ⟨g,0,none⟩),.int .u8 c] w fun e w' => e = .returned (.bool (isB s a b c)) ∧ ∃ n,w' = w.drewN n:=by
 obtain ⟨V,hb⟩:=h.blk
 obtain ⟨⟨h0,h1,h2,h3⟩,f0,f1,f2,f3⟩:=bC4 hb
 clear hb h
 cases b with
 |true =>
  have e : isB s a true c = false:=rfl
  rw [e]
  clear e ha hs
  go_enter Try.func56,Try.ntmps56
  go_wp2_with fail
  go_quiet (fail)
  go_wp2
  go_ret
  exact ⟨rfl,_,rfl⟩
 |false =>
  by_cases hlt : a < s.size
  ·have hq:=sf_hd s a hlt c
   have hI : isB s a false c = hdB (sf s a) c:=rfl
   rw [hI]
   generalize hdB (sf s a) c = q at hq ⊢
   have hd1 : decide ((a : Int) < (s.size : Int)) = true:=decide_eq_true (by omega)
   have hd4 : decide (a < s.size) = true:=decide_eq_true hlt
   have hd2 : (a : Int) < (s.size : Int):=by omega
   have hd3 : (0 : Int) ≤ (a : Int):=by omega
   clear hs ha hI
   go_enter Try.func56,Try.ntmps56
   go_wp2_with fail
   go_quiet (fail)
   go_wp2
   go_ret
   exact ⟨rfl,_,rfl⟩
  ·have e : isB s a false c = false:=by unfold isB;rw [sf_no s a hlt c];rfl
   rw [e]
   have hd1 : decide ((a : Int) < (s.size : Int)) = false:=decide_eq_false (by omega)
   have hd4 : decide (a < s.size) = false:=decide_eq_false hlt
   have hd2 : ¬ ((a : Int) < (s.size : Int)):=by omega
   clear e hlt ha hs
   go_enter Try.func56,Try.ntmps56
   go_wp2_with fail
   go_quiet (fail)
   go_wp2
   go_ret
   exact ⟨rfl,_,rfl⟩
theorem new_at {w : World} {o : Obj} {n : Nat} (h : w.heap.size = n) : (w.alloc o).heap[n]? = some o:=by rw [← h];exact heap_alloc_new w o
def StN (w0 W : World) (g : Nat) (s : ByteArray) (a : Nat) (ps : List S85) (b : Bool) (N : Nat) : Prop:=
 ∃ A c,W.heap[g]? = some (.cells #[.string s,.int .i64 a,.bool b,.slice A ps.length c] 72 (0,0)) ∧ w0.heap.size ≤ g ∧ g < N ∧ N ≤ W.heap.size ∧ Kd.S k85 85 W w0.heap.size (fun k => k ≠ g ∧ k < N) (.slice A ps.length c) ps ∧ Below w0.heap.size w0 W
theorem StT.n {w0 w : World} {g : Nat} {s : ByteArray} {a : Nat} {ps : List S85} {b : Bool} (h : StT w0 w g s a ps b) : StN w0 w g s a ps b w.heap.size:=by
 obtain ⟨A,c,hb,hg,hR,hB⟩:=h
 exact ⟨A,c,hb,hg,bL hb,Nat.le_refl _,Kd.S_mono (Kd.S_bound hR) (fun k hk => ⟨hk.1,hk.2.2.1⟩),hB⟩
theorem StN.alloc {w0 w : World} {g : Nat} {s : ByteArray} {a : Nat} {ps : List S85} {b : Bool} {N : Nat} (h : StN w0 w g s a ps b N) (o : Obj) : StN w0 (w.alloc o) g s a ps b N:=by
 obtain ⟨A,c,hb,hg,hN,hN2,hR,hB⟩:=h
 exact ⟨A,c,bA hb _,hg,hN,by simp;omega,Kd.S_alloc hR _,lA hB _⟩
theorem StN.drew {w0 w : World} {g : Nat} {s : ByteArray} {a : Nat} {ps : List S85} {b : Bool} {N : Nat} (h : StN w0 w g s a ps b N) : StN w0 w.drew g s a ps b N:=by
 obtain ⟨A,c,hb,hg,hN,hN2,hR,hB⟩:=h
 exact ⟨A,c,bD hb,hg,hN,hN2,Kd.S_drew hR,lD hB⟩
theorem R_kids (W : World) (b base : Nat) (ks : List Int) (hl : ks.length ≤ 1000) (hbase : base ≤ b) (h : W.heap[b]? = some (.cells (ks.map (Value.int .i64)).toArray 3 (0,0))) : Kd.R (Kd.int .i64) 3 W base (fun k => b ≤ k) (.slice (some ⟨b,0,none⟩) ks.length ks.length) ks:=by
 refine ⟨fun k hk => by simp [Value.ownBlock] at hk;omega,ks.map (Value.int .i64),⟨by simp [Kd.int,Kd.scalar],.inr ⟨b,ks.length,(ks.map (Value.int .i64)).toArray,rfl,hbase,h,Nat.le_refl _,by unfold maxLen;omega,by simp [Kd.int,Kd.scalar],by simp [Kd.int,Kd.scalar,List.take_of_length_le]⟩⟩,by simp [Kd.int,Kd.scalar],fun j p hj => ?_⟩
 show ((ks.map (Value.int .i64)).drop (j * 1)).take 1 = [Value.int .i64 p]
 obtain ⟨hlt,hp⟩:=List.getElem?_eq_some_iff.1 hj
 rw [Nat.mul_one,List.drop_eq_getElem_cons (by simpa using hlt)]
 simp [hp]
set_option maxHeartbeats 4000000 in
set_option maxRecDepth 100000 in
theorem sputb (g : Nat) (s : ByteArray) (a : Nat) (ps : List S85) (b : Bool) (op : Int) (text : ByteArray) (Av : Option Addr) (cv : Nat) (kids : List Int) (N : Nat) (w0 w : World) (hS : StN w0 w g s a ps b N) (hk : Kd.R (Kd.int .i64) 3 w w0.heap.size (fun k => N ≤ k) (.slice Av kids.length cv) kids) (hl : ps.length + 1 ≤ 60) :
  Calls Try.prog 57 #[.pointer (some ⟨g,0,none⟩),.agg #[.int .i64 op,.string text,.slice Av kids.length cv]] w fun e w' => e = .returned (.int .i64 ps.length) ∧ StT w0 w' g s a (ps ++ [⟨op,text,kids⟩]) b:=by
 obtain ⟨A,c,hb,hg,hN,hN2,hR,hB⟩:=hS
 obtain ⟨w1,hw1⟩ : ∃ w1,w.alloc (.cells #[.int .i64 op,.string text,.slice Av kids.length cv] 85) = w1:=⟨_,rfl⟩
 have hbx : w1.heap[w.heap.size]? = some (.cells #[.int .i64 op,.string text,.slice Av kids.length cv] 85 (0,0)):=by rw [← hw1];exact new_at rfl
 have hb1 : w1.heap[g]? = some (.cells #[.string s,.int .i64 a,.bool b,.slice A ps.length c] 72 (0,0)):=by rw [← hw1];exact bA hb _
 have hs1 : w1.heap.size = w.heap.size + 1:=by rw [← hw1];simp
 have hR1 : Kd.S k85 85 w1 w0.heap.size (fun k => k ≠ g ∧ k < N) (.slice A ps.length c) ps:=by rw [← hw1];exact Kd.S_alloc hR _
 have hB1 : Below w0.heap.size w0 w1:=by rw [← hw1];exact lA hB _
 have hk1 : Kd.R (Kd.int .i64) 3 w1 w0.heap.size (fun k => N ≤ k) (.slice Av kids.length cv) kids:=by rw [← hw1];exact rA hk _
 have HL:=aM hl;have HB1:=aM hB1;have HG:=aM hg;have HN:=aM hN;have HBK:=aM hb1;have HR1:=aM hR1;have HK1:=aM hk1;have HS1:=aM hs1
 have hN3:=aM (show N ≤ w.heap.size from hN2)
 obtain ⟨⟨h0,h1,h2,h3⟩,f0,f1,f2,f3⟩:=bC4 hb1
 obtain ⟨⟨x0,x1,x2⟩,y0,y1,y2⟩:=bC3 hbx
 have hlt : g < w1.heap.size:=bL hb1
 have hltx : w.heap.size < w1.heap.size:=bL hbx
 have hne : ¬ (w.heap.size = g):=by omega
 have hne2 : ¬ (g = w.heap.size):=by omega
 obtain ⟨i0,hi0,hz0,hz1,hz2⟩:=info_parts rinfo85
 obtain ⟨fo,htag,hRt⟩:=Kd.S_tag (Kd.S_drew (Kd.S_alloc hR1 (.cells #[.int .i64 op,.string text,.slice Av kids.length cv] 85))) ps.length (fun k => N ≤ k) (fun k hk h2 => by have:=h2.2;omega)
 have HFO:=aM htag
 have HRt:=aM (Kd.R_mono hRt (fun k hk => hk.1))
 obtain ⟨hR0_,inner,hown,hreps_⟩:=HRt.out
 rw [List.length_zipIdx] at hown
 have hR0:=aM hR0_;have hreps:=aM hreps_;have HOWN:=aM hown
 clear hl hB1 hg hN hN2 hb hR hB hb1 hR1 hk1 hbx hk htag hRt hR0_ hreps_ hown hs1
 go_enter Try.func57,Try.ntmps57
 go_wp2_with fail
 clear hw1
 go_region_law ((refine step_append_lies _ (by rfl) _ _ _ (by rfl) w0.heap.size 85 i0 _ 3 48 Try.underlying28 hi0 hz0 hz1 hz2 rfl (by omega) (.slice A ps.length c) ps.length inner (by rfl) HOWN.out ⟨w1.heap.size,0,none⟩ 1 1 [.int .i64 op,.string text,.slice Av kids.length cv] (by rfl) (by rfl) (World.news_of_block (cs:=#[.int .i64 op,.string text,.slice Av kids.length cv]) (t:=85) (fr:=(0,0)) (heap_alloc_new w1 _)) (by simp [Value.oneCell']) (by omega) (by have:=HL.out;simp [maxLen];omega) (by have:=HL.out;omega) (by have h1_:=HB1.out.size;simp at h1_ ⊢;omega) (w1.heap.size + 1) (by simp) ?_;intro gg cap w2 hown2 hgrow hat hlt2;have HOW:=aM hown2;have HGR:=aM hgrow;have HAT:=aM hat;have hbk2:=aM ((hgrow.block g (by simp;exact Nat.lt_succ_of_lt hlt) (fun e => hR0.out g e.symm rfl)).trans ((Below.heap_alloc w1 _ g hlt).trans HBK.out));obtain ⟨⟨z0,z1,z2,z3⟩,u0,u1,u2,u3⟩:=bC4 hbk2.out;clear hown2 hgrow hat))
 all_goals
  have hown3 : ∀ k,(Value.slice A ps.length c).ownBlock = some k → k < N:=fun k hk => (Kd.R_bound (Kd.S_R HR1.out)).1 k hk|>.1.2
  have hgd : ((w1.alloc (.cells #[.int .i64 op,.string text,.slice Av kids.length cv] 85)).drew).grownBy w2 (Value.slice A ps.length c).ownBlock:=⟨HGR.out.os,HGR.out.tape,HGR.out.output,HGR.out.size,HGR.out.block⟩
  have R2:=S_appended hR0.out hreps.out (k85_mkM _ w0.heap.size (fun k => N ≤ k) (⟨op,text,kids⟩ : S85) (rZ HK1.out)) HFO.out (fun k hk => ⟨by have:=HN.out;omega,fun e_ => by have:=hown3 k e_.symm;omega⟩) (fun k hk => by simp at hk;omega) HOW.out hgd (by
   rcases HAT.out with e_|e_
   ·exact .inl e_.symm
   ·exact .inr ⟨gg,rfl,by rw [e_];simp⟩)
  have B2 : Below w0.heap.size w0 w2:=Below.grown (lD (lA HB1.out _)) hgd (by have h2_:=HB1.out.size;simp;omega) (Kd.S_base HR1.out)
  have HF2:=aM (show StT w0 (w2.setCell ⟨g,3,none⟩ (.slice (some ⟨gg,0,none⟩) (ps.length + 1) cap)) g s a (ps ++ [⟨op,text,kids⟩]) b from by
   have hl1 : (ps ++ [(⟨op,text,kids⟩ : S85)]).length = ps.length + 1:=by rw [List.length_append,List.length_singleton]
   refine ⟨some ⟨gg,0,none⟩,cap,?_,HG.out,?_,lS B2 HG.out⟩
   ·rw [hl1]
    exact blk_put hbk2.out 3 _ rfl
   ·rw [hl1]
    exact Kd.S_far (p:=⟨g,3,none⟩) R2 (fun k hk => hk) _)
  have hw : wrap64 (ps.length : Int) = (ps.length : Int):=by unfold wrap64;have:=HL.out;omega
  have hl60 : ps.length + 1 ≤ 60:=HL.out
  clear R2 B2 hgd hown3
  go_wp2
  go_ret
  exact ⟨by first|rfl|simp,HF2.out⟩
theorem sput (g : Nat) (s : ByteArray) (a : Nat) (ps : List S85) (op : Int) (text : ByteArray) (Av : Option Addr) (cv : Nat) (kids : List Int) (N : Nat) (w0 w : World) (hS : StN w0 w g s a ps false N) (hk : Kd.R (Kd.int .i64) 3 w w0.heap.size (fun k => N ≤ k) (.slice Av kids.length cv) kids) (hl : ps.length + 1 ≤ 60) :
  Calls Try.prog 57 #[.pointer (some ⟨g,0,none⟩),.agg #[.int .i64 op,.string text,.slice Av kids.length cv]] w fun e w' => e = .returned (.int .i64 ps.length) ∧ StT w0 w' g s a (ps ++ [⟨op,text,kids⟩]) false:=sputb g s a ps false op text Av cv kids N w0 w hS hk hl
def spS : ByteArray:=⟨#[42,43,63,124,40,41,91,93,46,94,36,92]⟩
def spL : List Int:=[42,43,63,124,40,41,91,93,46,94,36,92]
theorem sp_at : ∀ k : Nat,∀ h : k < 12,((((⟨#[42,43,63,124,40,41,91,93,46,94,36,92]⟩ : ByteArray)[k]'h).toNat : Int) = spL.getD k 0):=by decide
theorem sp_yes (k : Nat) (h : k < 12) (c : Int) (hc : spL.getD k 0 = c) : spB c = true:=by
 refine decide_eq_true ?_
 rw [← hc,List.getD_eq_getElem?_getD,List.getElem?_eq_getElem (show k < spL.length from h)]
 exact List.getElem_mem _
theorem sp_no (c : Int) (hc : ∀ j,j < 12 → spL.getD j 0 ≠ c) : spB c = false:=by
 refine decide_eq_false fun h => ?_
 obtain ⟨j,hj,he⟩:=List.mem_iff_getElem.1 h
 refine hc j hj ?_
 rw [← he,List.getD_eq_getElem?_getD,List.getElem?_eq_getElem (show j < spL.length from hj)]
 rfl
set_option maxHeartbeats 4000000 in
set_option maxRecDepth 100000 in
theorem sspecial (c : Int) (w : World) :
  Calls Try.prog 109 #[.int .u8 c] w fun e w' => e = .returned (.bool (spB c)) ∧ w = w':=by
 go_enter Try.func109,Try.ntmps109
 go_wp2
 go_loop [4] (fun i => ∃ k : Nat,k ≤ 12 ∧ i = .int .i64 k ∧ Aside0 (∀ j,j < k → spL.getD j 0 ≠ c)) (fun i => 12 - (intOf i).toNat)
 case atStart => exact ⟨0,by omega,rfl,aM (fun j hj => absurd hj (Nat.not_lt_zero _))⟩
 case round =>
  obtain ⟨k,hk,rfl,HN⟩:=hrel
  by_cases hlt : k < 12
  ·by_cases hc : spL.getD k 0 = c
   ·have hv : (((⟨#[42,43,63,124,40,41,91,93,46,94,36,92]⟩ : ByteArray)[k]'hlt).toNat : Int) = c:=(sp_at k hlt).trans hc
    have HR:=aM (sp_yes k hlt c hc)
    have h0 : (0 : Int) ≤ (k : Int):=by omega
    have h1 : (k : Int) < 12:=by omega
    clear hc
    have hv2 : ((((⟨#[42,43,63,124,40,41,91,93,46,94,36,92]⟩ : ByteArray)[k]'hlt).toNat : Int) == c) = true:=by rw [hv];simp
    clear hv
    go_wp2
    go_ret
    exact ⟨by rw [HR.out];rfl,rfl⟩
   ·have hv2 : ((((⟨#[42,43,63,124,40,41,91,93,46,94,36,92]⟩ : ByteArray)[k]'hlt).toNat : Int) == c) = false:=by rw [sp_at k hlt];simpa using hc
    have HN2:=aM (show ∀ j,j < k + 1 → spL.getD j 0 ≠ c from fun j hj => by
     rcases Nat.lt_or_ge j k with h|h
     ·exact HN.out j h
     ·obtain rfl : j = k:=by omega
      exact hc)
    have h0 : (0 : Int) ≤ (k : Int):=by omega
    have h1 : (k : Int) < 12:=by omega
    clear hc
    go_wp2
    go_round
    case rel => exact ⟨k + 1,by omega,by go_num,HN2⟩
    case measure => simp [intOf];omega
  ·have HR:=aM (sp_no c (fun j hj => HN.out j (by omega)))
   have h1 : ¬ ((k : Int) < 12):=by omega
   go_wp2
   go_ret
   exact ⟨by rw [HR.out];rfl,rfl⟩
def PoT (w0 : World) (g : Nat) (s : ByteArray) (r : PR) (m z c : Nat) (e : Ending) (w' : World) : Prop:=
 ∃ (k : Int) (a : Nat) (qs : List S85) (b : Bool),e = .returned (.int .i64 k) ∧ StT w0 w' g s a qs b ∧ a ≤ s.size ∧ qs.length + 2 * (s.size - a) ≤ m ∧ (b = false → r = some (k,sf s a,qs) ∧ s.size - a + c ≤ z ∧ qs.length + 2 * (s.size - a) + c ≤ m) ∧ (b = true → r = none)
theorem PoT.mono {w0 : World} {g : Nat} {s : ByteArray} {r : PR} {m m' z z' c c' : Nat} {e : Ending} {w' : World} (h : PoT w0 g s r m z c e w') (hm : m ≤ m') (hz : z + c' ≤ z' + c) (hc : m + c' ≤ m' + c) : PoT w0 g s r m' z' c' e w':=by
 obtain ⟨k,u,qs,b,h1,h2,h0,h3,h4,h5⟩:=h
 exact ⟨k,u,qs,b,h1,h2,h0,by omega,fun hb => ⟨(h4 hb).1,by have:=(h4 hb).2.1;omega,by have:=(h4 hb).2.2;omega⟩,h5⟩
theorem PoT.ok {w0 : World} {g : Nat} {s : ByteArray} {r : PR} {m z c : Nat} {w' : World} {k : Int} {a : Nat} {qs : List S85} (hs : StT w0 w' g s a qs false) (ha : a ≤ s.size) (hr : r = some (k,sf s a,qs)) (hz : s.size - a + c ≤ z) (hm : qs.length + 2 * (s.size - a) + c ≤ m) : PoT w0 g s r m z c (.returned (.int .i64 k)) w':=
 ⟨k,a,qs,false,rfl,hs,ha,by omega,fun _ => ⟨hr,hz,hm⟩,fun h => by cases h⟩
theorem PoT.no {w0 : World} {g : Nat} {s : ByteArray} {r : PR} {m z c : Nat} {w' : World} {k : Int} {a : Nat} {qs : List S85} (hs : StT w0 w' g s a qs true) (ha : a ≤ s.size) (hr : r = none) (hm : qs.length + 2 * (s.size - a) ≤ m) : PoT w0 g s r m z c (.returned (.int .i64 k)) w':=
 ⟨k,a,qs,true,rfl,hs,ha,hm,(fun h => by cases h),fun _ => hr⟩
theorem StT.inc {w0 w : World} {g : Nat} {s : ByteArray} {a : Nat} {ps : List S85} {b : Bool} (h : StT w0 w g s a ps b) : StT w0 (w.setCell ⟨g,1,none⟩ (.int .i64 ((a : Int) + 1))) g s (a + 1) ps b:=h.at_ (a + 1)
def AltT (alt : ByteArray → List S85 → PR) (d : Nat) : Prop:=∀ (g : Nat) (s : ByteArray) (w0 w : World) (a : Nat) (ps : List S85),StT w0 w g s a ps false → a ≤ s.size → s.size ≤ 24 → s.size - a < d → ps.length + 2 * (s.size - a) ≤ 55 →
 Calls Try.prog 37 #[.pointer (some ⟨g,0,none⟩)] w (PoT w0 g s (alt (sf s a) ps) (ps.length + 2 * (s.size - a) + 1) (s.size - a) 0)
theorem u8_ne {v : UInt8} (h : v ≠ 93) : (((v.toNat : Nat) : Int) == 93) = false:=by
 have h4 : (v.toNat : Int) ≠ 93:=fun e => h (UInt8.toNat_inj.1 (show v.toNat = 93 by omega))
 simpa using h4
/-- Where the first ']' stands. -/
theorem ix_none {s : ByteArray} {B : Nat} (h : Go.Lib.indexByte (sf s B).data.toList 93 = -1) (q : Nat) (h0 : B ≤ q) (hq : q < s.size) : (((s[q]'hq).toNat : Int) == 93) = false:=by
 have h1:=Go.Lib.indexByte_none h (q - B)
 have h2 : (sf s B).data.toList[q - B]? = some (s[q]'hq):=by
  unfold sf
  rw [ByteArray.data_extract,Array.toList_extract,List.extract_eq_take_drop]
  rw [List.getElem?_take_of_lt (by have : s.size = s.data.size:=rfl;omega),List.getElem?_drop,show B + (q - B) = q by omega]
  rw [List.getElem?_eq_getElem (by have : s.size = s.data.size:=rfl;simpa using hq)]
  rfl
 rw [h2] at h1
 generalize s[q]'hq = v at h1
 have h3 : v ≠ 93:=fun e => h1 (by rw [e])
 exact u8_ne h3
theorem ix_some {s : ByteArray} {B n : Nat} (h : Go.Lib.indexByte (sf s B).data.toList 93 = (n : Int)) : ∃ hq : B + n < s.size,(((s[B + n]'hq).toNat : Int) == 93) = true ∧ ∀ q (h0 : B ≤ q) (h1 : q < B + n),(((s[q]'(by omega)).toNat : Int) == 93) = false:=by
 have hlt:=ix_lt h
 rw [sf_size] at hlt
 have key : ∀ q (h0 : B ≤ q) (hq : q < s.size),(sf s B).data.toList[q - B]? = some (s[q]'hq):=fun q h0 hq => by
  unfold sf
  rw [ByteArray.data_extract,Array.toList_extract,List.extract_eq_take_drop]
  rw [List.getElem?_take_of_lt (by have : s.size = s.data.size:=rfl;omega),List.getElem?_drop,show B + (q - B) = q by omega]
  rw [List.getElem?_eq_getElem (by have : s.size = s.data.size:=rfl;simpa using hq)]
  rfl
 have hs:=Go.Lib.indexByte_some h
 refine ⟨by omega,?_,fun q h0 h1 => ?_⟩
 ·have h1:=hs.1
  have h2:=key (B + n) (by omega) (by omega)
  rw [show B + n - B = n by omega,h1] at h2
  rw [← Option.some.inj h2]
  rfl
 ·have h1:=hs.2 (q - B) (by omega)
  rw [key q h0 (by omega)] at h1
  generalize s[q]'(by omega) = v at h1
  have h3 : v ≠ 93:=fun e => h1 (by rw [e])
  exact u8_ne h3
theorem sf_cut (s : ByteArray) (B i : Nat) (h : B + i < s.size) : (sf s B).extract (i + 1) (sf s B).size = sf s (B + i + 1):=by
 rw [sf_size];unfold sf
 rw [ByteArray.extract_extract]
 congr 1
 omega
theorem sf_take (s : ByteArray) (B i : Nat) (h : B + i ≤ s.size) : (sf s B).extract 0 i = s.extract B (B + i):=by
 unfold sf
 rw [ByteArray.extract_extract]
 congr 1
 omega
set_option maxHeartbeats 4000000 in
set_option maxRecDepth 100000 in
theorem sset_c_none (g : Nat) (s : ByteArray) (a : Nat) (ps : List S85) (w0 w : World) (h : StT w0 w g s a ps false) (ha : a < s.size) (h24 : s.size ≤ 24) (hM : ps.length + 2 * (s.size - a) ≤ 55) (hc : hdB (sf s (a + 1)) 94 = true) (hi : Go.Lib.indexByte (sf s (a + 1 + 1)).data.toList 93 = -1) :
  Calls Try.prog 108 #[.pointer (some ⟨g,0,none⟩)] w (PoT w0 g s (pSet (tl (sf s a)) ps) (ps.length + 2 * (s.size - (a + 1))) (s.size - (a + 1)) 0):=by
 rw [sf_tl s a ha]
 have ha2 : a + 1 < s.size:=by have:=hd_pos hc;rw [sf_size] at this;omega
 have hr : pSet (sf s (a + 1)) ps = none:=by unfold pSet;rw [hc];simp only [if_true];rw [sf_tl s (a + 1) ha2];rw [if_pos (by rw [hi];decide)]
 have hI:=sis g s (a + 1) ps false 94 (by omega) (by omega) w0
 rw [show isB s (a + 1) false 94 = true from by unfold isB;rw [hc];rfl] at hI
 have HI:=aM hI;have HR:=aM hr;have HM:=aM hM;have HS:=aM h;have H24:=aM h24;have HA:=aM ha
 have HA2:=aM ha2
 have HN:=aM (fun q (h0 : (a + 1 + 1) ≤ q) (hq : q < s.size) => ix_none hi q h0 hq)
 obtain ⟨V,hb⟩:=h.blk
 obtain ⟨⟨h0,h1,h2,h3⟩,f0,f1,f2,f3⟩:=bC4 hb
 have hb1 : (0 : Int) ≤ (a : Int):=by omega
 have hb2 : (a : Int) + 2 ≤ 1000:=by omega
 clear hI hr hM h h24 hc hi hb ha2 ha
 go_enter Try.func108,Try.ntmps108
 go_wp2_with fail
 refine (HI.out _ HS.out.inc).mono ?_
 rintro e w' ⟨rfl,nd,rfl⟩
 have HS1:=aM (StT.drewN HS.out.inc nd)
 go_wp2_with fail
 have HS2:=aM (show StT w0 _ g s (a + 1 + 1) ps false from HS1.out.inc)
 clear HS1 HI HS h0 h1 h2 h3 f0 f1 f2 f3 hb1 hb2
 go_loopg [28] (s.size + 1) (fun n v w' => ∃ q : Nat,Aside0 (StT w0 w' g s q ps false) ∧ Aside0 ((a + 1 + 1) ≤ q) ∧ Aside0 (q ≤ s.size) ∧ Aside0 (s.size - q < n))
 case atStart => exact ⟨(a + 1 + 1),HS2,aM (Nat.le_refl _),aM (by have:=HA2.out;omega),aM (by omega)⟩
 case round =>
  clear HS2
  obtain ⟨q,HS,HB,HT,HF⟩:=hrel
  obtain ⟨V2,hb⟩:=HS.out.blk
  obtain ⟨⟨h0,h1,h2,h3⟩,f0,f1,f2,f3⟩:=bC4 hb
  clear hb
  have hb1 : (0 : Int) ≤ (q : Int):=by omega
  have hb2 : (q : Int) + 1 ≤ 1000:=by have:=HT.out;have:=H24.out;omega
  by_cases hlt : q < s.size
  ·have hlt2 : q < s.size:=hlt
   have hv:=HN.out q HB.out hlt2
   have hv2 : (((s[q]'hlt2).toNat : Int) != 93) = true:=by unfold bne;rw [hv];rfl
   have hd1 : decide ((q : Int) < (s.size : Int)) = true:=decide_eq_true (by omega)
   have hd4 : decide (q < s.size) = true:=decide_eq_true hlt2
   have hd2 : (q : Int) < (s.size : Int):=by omega
   have HLT:=aM hlt2;have HLT3:=aM hlt
   clear hlt
   go_wp2_with fail
   go_quiet (fail)
   go_wp2
   cases gk with
   |zero => exact absurd HF.out (Nat.not_lt_zero _)
   |succ n =>
    go_roundg n
    case measure => omega
    case rel => exact ⟨q + 1,aM (HS.out.drewN _).inc,aM (by have:=HB.out;omega),aM (by have:=HLT3.out;omega),aM (by have:=HF.out;have:=HLT.out;omega)⟩
  ·have hqe : q = s.size:=by have:=HT.out;omega
   have hd1 : decide ((q : Int) < (s.size : Int)) = false:=decide_eq_false (by omega)
   have hd4 : decide (q < s.size) = false:=decide_eq_false (by omega)
   have hd2 : ¬ ((q : Int) < (s.size : Int)):=by omega
   have he1 : ((q : Int) == (s.size : Int)) = true:=by rw [hqe];simp
   have he2 : (q == s.size) = true:=by rw [hqe];simp
   have HQE:=aM hqe
   clear hlt hqe
   go_wp2_with fail
   go_quiet (fail)
   go_wp2
   go_quiet (fail)
   go_wp2
   go_ret
   exact PoT.no (StT.bad (StT.drewN HS.out _)) (by have:=HQE.out;omega) HR.out (by have:=HQE.out;have:=HM.out;omega)
set_option maxHeartbeats 4000000 in
set_option maxRecDepth 100000 in
theorem sset_c_zero (g : Nat) (s : ByteArray) (a : Nat) (ps : List S85) (w0 w : World) (h : StT w0 w g s a ps false) (ha : a < s.size) (h24 : s.size ≤ 24) (hM : ps.length + 2 * (s.size - a) ≤ 55) (hc : hdB (sf s (a + 1)) 94 = true) (hi : Go.Lib.indexByte (sf s (a + 1 + 1)).data.toList 93 = ((0 : Nat) : Int)) :
  Calls Try.prog 108 #[.pointer (some ⟨g,0,none⟩)] w (PoT w0 g s (pSet (tl (sf s a)) ps) (ps.length + 2 * (s.size - (a + 1))) (s.size - (a + 1)) 0):=by
 rw [sf_tl s a ha]
 have ha2 : a + 1 < s.size:=by have:=hd_pos hc;rw [sf_size] at this;omega
 have hr : pSet (sf s (a + 1)) ps = none:=by unfold pSet;rw [hc];simp only [if_true];rw [sf_tl s (a + 1) ha2];rw [if_pos (by rw [hi];decide)]
 have hI:=sis g s (a + 1) ps false 94 (by omega) (by omega) w0
 rw [show isB s (a + 1) false 94 = true from by unfold isB;rw [hc];rfl] at hI
 have HI:=aM hI;have HR:=aM hr;have HM:=aM hM;have HS:=aM h;have H24:=aM h24;have HA:=aM ha
 have HA2:=aM ha2
 obtain ⟨hq0,hq1,hq2⟩:=ix_some hi
 have HQ0:=aM hq0;have HQ1:=aM (show ∀ q (hq : q < s.size),q = (a + 1 + 1) + 0 → (((s[q]'hq).toNat : Int) == 93) = true from fun q hq e => by subst e;exact hq1);have HQ2:=aM (show ∀ q (hq : q < s.size),(a + 1 + 1) ≤ q → q < (a + 1 + 1) + 0 → (((s[q]'hq).toNat : Int) == 93) = false from fun q hq e1 e2 => hq2 q e1 e2)
 clear hq1 hq2 hq0
 obtain ⟨V,hb⟩:=h.blk
 obtain ⟨⟨h0,h1,h2,h3⟩,f0,f1,f2,f3⟩:=bC4 hb
 have hb1 : (0 : Int) ≤ (a : Int):=by omega
 have hb2 : (a : Int) + 2 ≤ 1000:=by omega
 clear hI hr hM h h24 hc hi hb ha2 ha
 go_enter Try.func108,Try.ntmps108
 go_wp2_with fail
 refine (HI.out _ HS.out.inc).mono ?_
 rintro e w' ⟨rfl,nd,rfl⟩
 have HS1:=aM (StT.drewN HS.out.inc nd)
 go_wp2_with fail
 have HS2:=aM (show StT w0 _ g s (a + 1 + 1) ps false from HS1.out.inc)
 clear HS1 HI HS h0 h1 h2 h3 f0 f1 f2 f3 hb1 hb2
 go_loopg [28] (s.size + 1) (fun n v w' => ∃ q : Nat,Aside0 (StT w0 w' g s q ps false) ∧ Aside0 ((a + 1 + 1) ≤ q) ∧ Aside0 (q ≤ (a + 1 + 1) + 0) ∧ Aside0 (s.size - q < n))
 case atStart => exact ⟨(a + 1 + 1),HS2,aM (Nat.le_refl _),aM (by omega),aM (by omega)⟩
 case round =>
  clear HS2
  obtain ⟨q,HS,HB,HT,HF⟩:=hrel
  obtain ⟨V2,hb⟩:=HS.out.blk
  obtain ⟨⟨h0,h1,h2,h3⟩,f0,f1,f2,f3⟩:=bC4 hb
  clear hb
  have hb1 : (0 : Int) ≤ (q : Int):=by omega
  have hb2 : (q : Int) + 1 ≤ 1000:=by have:=HT.out;have:=H24.out;have:=HQ0.out;omega
  by_cases hlt : q < (a + 1 + 1) + 0
  ·have hlt2 : q < s.size:=by have:=HQ0.out;omega
   have hv:=HQ2.out q hlt2 HB.out hlt
   have hv2 : (((s[q]'hlt2).toNat : Int) != 93) = true:=by unfold bne;rw [hv];rfl
   have hd1 : decide ((q : Int) < (s.size : Int)) = true:=decide_eq_true (by omega)
   have hd4 : decide (q < s.size) = true:=decide_eq_true hlt2
   have hd2 : (q : Int) < (s.size : Int):=by omega
   have HLT:=aM hlt2;have HLT3:=aM hlt
   clear hlt
   go_wp2_with fail
   go_quiet (fail)
   go_wp2
   cases gk with
   |zero => exact absurd HF.out (Nat.not_lt_zero _)
   |succ n =>
    go_roundg n
    case measure => omega
    case rel => exact ⟨q + 1,aM (HS.out.drewN _).inc,aM (by have:=HB.out;omega),aM (by have:=HLT3.out;omega),aM (by have:=HF.out;have:=HLT.out;omega)⟩
  ·have hqe : q = (a + 1 + 1) + 0:=by have:=HT.out;omega
   have hlt2 : q < s.size:=by have:=HQ0.out;omega
   have hv:=HQ1.out q hlt2 hqe
   have hv2 : (((s[q]'hlt2).toNat : Int) != 93) = false:=by unfold bne;rw [hv];rfl
   have hd1 : decide ((q : Int) < (s.size : Int)) = true:=decide_eq_true (by omega)
   have hd4 : decide (q < s.size) = true:=decide_eq_true hlt2
   have hd2 : (q : Int) < (s.size : Int):=by omega
   have he1 : ((q : Int) == (s.size : Int)) = false:=by simp;omega
   have he2 : (q == s.size) = false:=by simp;omega
   have he3 : ((q : Int) == ((a : Int) + 1 + 1)) = true:=by (try have:=HI0.out);simp;omega
   have HQE:=aM hqe;have HLT:=aM hlt2
   clear hlt hqe
   go_wp2_with fail
   go_quiet (fail)
   go_wp2
   go_quiet (fail)
   go_wp2
   go_ret
   exact PoT.no (StT.bad (StT.drewN HS.out _)) (by have:=HLT.out;omega) HR.out (by have:=HQE.out;have:=HLT.out;have:=HM.out;omega)
set_option maxHeartbeats 4000000 in
set_option maxRecDepth 100000 in
theorem sset_c_some (g : Nat) (s : ByteArray) (a : Nat) (ps : List S85) (w0 w : World) (h : StT w0 w g s a ps false) (ha : a < s.size) (h24 : s.size ≤ 24) (hM : ps.length + 2 * (s.size - a) ≤ 55) (hc : hdB (sf s (a + 1)) 94 = true) (i : Nat) (hi0 : 0 < i) (hi : Go.Lib.indexByte (sf s (a + 1 + 1)).data.toList 93 = (i : Int)) :
  Calls Try.prog 108 #[.pointer (some ⟨g,0,none⟩)] w (PoT w0 g s (pSet (tl (sf s a)) ps) (ps.length + 2 * (s.size - (a + 1))) (s.size - (a + 1)) 0):=by
 rw [sf_tl s a ha]
 have ha2 : a + 1 < s.size:=by have:=hd_pos hc;rw [sf_size] at this;omega
 obtain ⟨q_,hq_⟩ : ∃ q_,s.extract (a + 1 + 1) ((a + 1 + 1) + i) = q_:=⟨_,rfl⟩
 have hlt:=ix_lt hi
 rw [sf_size] at hlt
 have hr : pSet (sf s (a + 1)) ps = some ((ps.length : Int),sf s ((a + 1 + 1) + i + 1),ps ++ [⟨4,q_,[]⟩]):=by
  unfold pSet;rw [hc];simp only [if_true];rw [sf_tl s (a + 1) ha2]
  rw [if_neg (by rw [hi];omega),hi,Int.toNat_natCast]
  rw [show (sf s (a + 1 + 1)).extract (i + 1) (sf s (a + 1 + 1)).size = sf s ((a + 1 + 1) + i + 1) from sf_cut s (a + 1 + 1) i (by omega),show (sf s (a + 1 + 1)).extract 0 i = q_ from (sf_take s (a + 1 + 1) i (by omega)).trans hq_]
 have hI:=sis g s (a + 1) ps false 94 (by omega) (by omega) w0
 rw [show isB s (a + 1) false 94 = true from by unfold isB;rw [hc];rfl] at hI
 have HI:=aM hI;have HR:=aM hr;have HM:=aM hM;have HS:=aM h;have H24:=aM h24;have HA:=aM ha
 have HA2:=aM ha2
 obtain ⟨hq0,hq1,hq2⟩:=ix_some hi
 have HQ0:=aM hq0;have HQ1:=aM (show ∀ q (hq : q < s.size),q = (a + 1 + 1) + i → (((s[q]'hq).toNat : Int) == 93) = true from fun q hq e => by subst e;exact hq1);have HQ2:=aM (show ∀ q (hq : q < s.size),(a + 1 + 1) ≤ q → q < (a + 1 + 1) + i → (((s[q]'hq).toNat : Int) == 93) = false from fun q hq e1 e2 => hq2 q e1 e2)
 clear hq1 hq2 hq0
 have HI0:=aM hi0;have HQ_:=aM hq_;clear hi0 hlt hq_
 obtain ⟨V,hb⟩:=h.blk
 obtain ⟨⟨h0,h1,h2,h3⟩,f0,f1,f2,f3⟩:=bC4 hb
 have hb1 : (0 : Int) ≤ (a : Int):=by omega
 have hb2 : (a : Int) + 2 ≤ 1000:=by omega
 clear hI hr hM h h24 hc hi hb ha2 ha
 go_enter Try.func108,Try.ntmps108
 go_wp2_with fail
 refine (HI.out _ HS.out.inc).mono ?_
 rintro e w' ⟨rfl,nd,rfl⟩
 have HS1:=aM (StT.drewN HS.out.inc nd)
 go_wp2_with fail
 have HS2:=aM (show StT w0 _ g s (a + 1 + 1) ps false from HS1.out.inc)
 clear HS1 HI HS h0 h1 h2 h3 f0 f1 f2 f3 hb1 hb2
 go_loopg [28] (s.size + 1) (fun n v w' => ∃ q : Nat,Aside0 (StT w0 w' g s q ps false) ∧ Aside0 ((a + 1 + 1) ≤ q) ∧ Aside0 (q ≤ (a + 1 + 1) + i) ∧ Aside0 (s.size - q < n))
 case atStart => exact ⟨(a + 1 + 1),HS2,aM (Nat.le_refl _),aM (by omega),aM (by omega)⟩
 case round =>
  clear HS2
  obtain ⟨q,HS,HB,HT,HF⟩:=hrel
  obtain ⟨V2,hb⟩:=HS.out.blk
  obtain ⟨⟨h0,h1,h2,h3⟩,f0,f1,f2,f3⟩:=bC4 hb
  clear hb
  have hb1 : (0 : Int) ≤ (q : Int):=by omega
  have hb2 : (q : Int) + 1 ≤ 1000:=by have:=HT.out;have:=H24.out;have:=HQ0.out;omega
  by_cases hlt : q < (a + 1 + 1) + i
  ·have hlt2 : q < s.size:=by have:=HQ0.out;omega
   have hv:=HQ2.out q hlt2 HB.out hlt
   have hv2 : (((s[q]'hlt2).toNat : Int) != 93) = true:=by unfold bne;rw [hv];rfl
   have hd1 : decide ((q : Int) < (s.size : Int)) = true:=decide_eq_true (by omega)
   have hd4 : decide (q < s.size) = true:=decide_eq_true hlt2
   have hd2 : (q : Int) < (s.size : Int):=by omega
   have HLT:=aM hlt2;have HLT3:=aM hlt
   clear hlt
   go_wp2_with fail
   go_quiet (fail)
   go_wp2
   cases gk with
   |zero => exact absurd HF.out (Nat.not_lt_zero _)
   |succ n =>
    go_roundg n
    case measure => omega
    case rel => exact ⟨q + 1,aM (HS.out.drewN _).inc,aM (by have:=HB.out;omega),aM (by have:=HLT3.out;omega),aM (by have:=HF.out;have:=HLT.out;omega)⟩
  ·have hqe : q = (a + 1 + 1) + i:=by have:=HT.out;omega
   have hlt2 : q < s.size:=by have:=HQ0.out;omega
   have hv:=HQ1.out q hlt2 hqe
   have hv2 : (((s[q]'hlt2).toNat : Int) != 93) = false:=by unfold bne;rw [hv];rfl
   have hd1 : decide ((q : Int) < (s.size : Int)) = true:=decide_eq_true (by omega)
   have hd4 : decide (q < s.size) = true:=decide_eq_true hlt2
   have hd2 : (q : Int) < (s.size : Int):=by omega
   have he1 : ((q : Int) == (s.size : Int)) = false:=by simp;omega
   have he2 : (q == s.size) = false:=by simp;omega
   have he3 : ((q : Int) == ((a : Int) + 1 + 1)) = false:=by (try have:=HI0.out);simp;omega
   have HQE:=aM hqe;have HLT:=aM hlt2
   clear hlt hqe
   go_wp2_with fail
   go_quiet (fail)
   go_wp2
   go_quiet (fail)
   go_wp2_with fail
   have hs1 : (0 : Int) ≤ ((a : Int) + 1 + 1):=by omega
   have hs2 : ((a : Int) + 1 + 1) ≤ (q : Int):=by have:=HB.out;omega
   have hs3 : (q : Int) ≤ s.size:=by have:=HLT.out;omega
   have ht1 : (((a : Int) + 1 + 1)).toNat = (a + 1 + 1):=by omega
   have hx : s.extract (a + 1 + 1) q = q_:=by rw [HQE.out];exact HQ_.out
   go_quiet (fail)
   go_wp2_with fail
   refine (sput g s (q + 1) ps 4 q_ none 0 [] _ w0 _ (StT.n (HS.out.drewN _).inc) (Kd.R_nil _ _ _ _ _) (by have:=HM.out;omega)).mono ?_
   rintro e w3 ⟨rfl,hs4⟩
   have HS3:=aM hs4;clear hs4
   go_wp2
   go_ret
   exact PoT.ok HS3.out (by have:=HLT.out;omega) (by rw [HR.out,HQE.out]) (by have:=HQE.out;have:=HLT.out;omega) (by have:=HQE.out;have:=HLT.out;have:=HM.out;have:=HI0.out;rw [List.length_append,List.length_singleton];omega)
set_option maxHeartbeats 4000000 in
set_option maxRecDepth 100000 in
theorem sset_n_none (g : Nat) (s : ByteArray) (a : Nat) (ps : List S85) (w0 w : World) (h : StT w0 w g s a ps false) (ha : a < s.size) (h24 : s.size ≤ 24) (hM : ps.length + 2 * (s.size - a) ≤ 55) (hc : hdB (sf s (a + 1)) 94 = false) (hi : Go.Lib.indexByte (sf s (a + 1)).data.toList 93 = -1) :
  Calls Try.prog 108 #[.pointer (some ⟨g,0,none⟩)] w (PoT w0 g s (pSet (tl (sf s a)) ps) (ps.length + 2 * (s.size - (a + 1))) (s.size - (a + 1)) 0):=by
 rw [sf_tl s a ha]
 have hr : pSet (sf s (a + 1)) ps = none:=by unfold pSet;rw [hc];simp only [Bool.false_eq_true,if_false];rw [if_pos (by rw [hi];decide)]
 have hI:=sis g s (a + 1) ps false 94 (by omega) (by omega) w0
 rw [show isB s (a + 1) false 94 = false from by unfold isB;rw [hc];rfl] at hI
 have HI:=aM hI;have HR:=aM hr;have HM:=aM hM;have HS:=aM h;have H24:=aM h24;have HA:=aM ha
 have HN:=aM (fun q (h0 : (a + 1) ≤ q) (hq : q < s.size) => ix_none hi q h0 hq)
 obtain ⟨V,hb⟩:=h.blk
 obtain ⟨⟨h0,h1,h2,h3⟩,f0,f1,f2,f3⟩:=bC4 hb
 have hb1 : (0 : Int) ≤ (a : Int):=by omega
 have hb2 : (a : Int) + 2 ≤ 1000:=by omega
 clear hI hr hM h h24 hc hi hb ha
 go_enter Try.func108,Try.ntmps108
 go_wp2_with fail
 refine (HI.out _ HS.out.inc).mono ?_
 rintro e w' ⟨rfl,nd,rfl⟩
 have HS1:=aM (StT.drewN HS.out.inc nd)
 go_wp2_with fail
 have HS2:=aM (show StT w0 _ g s (a + 1) ps false from HS1.out)
 clear HS1 HI HS h0 h1 h2 h3 f0 f1 f2 f3 hb1 hb2
 go_loopg [28] (s.size + 1) (fun n v w' => ∃ q : Nat,Aside0 (StT w0 w' g s q ps false) ∧ Aside0 ((a + 1) ≤ q) ∧ Aside0 (q ≤ s.size) ∧ Aside0 (s.size - q < n))
 case atStart => exact ⟨(a + 1),HS2,aM (Nat.le_refl _),aM (by have:=HA.out;omega),aM (by omega)⟩
 case round =>
  clear HS2
  obtain ⟨q,HS,HB,HT,HF⟩:=hrel
  obtain ⟨V2,hb⟩:=HS.out.blk
  obtain ⟨⟨h0,h1,h2,h3⟩,f0,f1,f2,f3⟩:=bC4 hb
  clear hb
  have hb1 : (0 : Int) ≤ (q : Int):=by omega
  have hb2 : (q : Int) + 1 ≤ 1000:=by have:=HT.out;have:=H24.out;omega
  by_cases hlt : q < s.size
  ·have hlt2 : q < s.size:=hlt
   have hv:=HN.out q HB.out hlt2
   have hv2 : (((s[q]'hlt2).toNat : Int) != 93) = true:=by unfold bne;rw [hv];rfl
   have hd1 : decide ((q : Int) < (s.size : Int)) = true:=decide_eq_true (by omega)
   have hd4 : decide (q < s.size) = true:=decide_eq_true hlt2
   have hd2 : (q : Int) < (s.size : Int):=by omega
   have HLT:=aM hlt2;have HLT3:=aM hlt
   clear hlt
   go_wp2_with fail
   go_quiet (fail)
   go_wp2
   cases gk with
   |zero => exact absurd HF.out (Nat.not_lt_zero _)
   |succ n =>
    go_roundg n
    case measure => omega
    case rel => exact ⟨q + 1,aM (HS.out.drewN _).inc,aM (by have:=HB.out;omega),aM (by have:=HLT3.out;omega),aM (by have:=HF.out;have:=HLT.out;omega)⟩
  ·have hqe : q = s.size:=by have:=HT.out;omega
   have hd1 : decide ((q : Int) < (s.size : Int)) = false:=decide_eq_false (by omega)
   have hd4 : decide (q < s.size) = false:=decide_eq_false (by omega)
   have hd2 : ¬ ((q : Int) < (s.size : Int)):=by omega
   have he1 : ((q : Int) == (s.size : Int)) = true:=by rw [hqe];simp
   have he2 : (q == s.size) = true:=by rw [hqe];simp
   have HQE:=aM hqe
   clear hlt hqe
   go_wp2_with fail
   go_quiet (fail)
   go_wp2
   go_quiet (fail)
   go_wp2
   go_ret
   exact PoT.no (StT.bad (StT.drewN HS.out _)) (by have:=HQE.out;omega) HR.out (by have:=HQE.out;have:=HM.out;omega)
set_option maxHeartbeats 4000000 in
set_option maxRecDepth 100000 in
theorem sset_n_zero (g : Nat) (s : ByteArray) (a : Nat) (ps : List S85) (w0 w : World) (h : StT w0 w g s a ps false) (ha : a < s.size) (h24 : s.size ≤ 24) (hM : ps.length + 2 * (s.size - a) ≤ 55) (hc : hdB (sf s (a + 1)) 94 = false) (hi : Go.Lib.indexByte (sf s (a + 1)).data.toList 93 = ((0 : Nat) : Int)) :
  Calls Try.prog 108 #[.pointer (some ⟨g,0,none⟩)] w (PoT w0 g s (pSet (tl (sf s a)) ps) (ps.length + 2 * (s.size - (a + 1))) (s.size - (a + 1)) 0):=by
 rw [sf_tl s a ha]
 have hr : pSet (sf s (a + 1)) ps = none:=by unfold pSet;rw [hc];simp only [Bool.false_eq_true,if_false];rw [if_pos (by rw [hi];decide)]
 have hI:=sis g s (a + 1) ps false 94 (by omega) (by omega) w0
 rw [show isB s (a + 1) false 94 = false from by unfold isB;rw [hc];rfl] at hI
 have HI:=aM hI;have HR:=aM hr;have HM:=aM hM;have HS:=aM h;have H24:=aM h24;have HA:=aM ha
 obtain ⟨hq0,hq1,hq2⟩:=ix_some hi
 have HQ0:=aM hq0;have HQ1:=aM (show ∀ q (hq : q < s.size),q = (a + 1) + 0 → (((s[q]'hq).toNat : Int) == 93) = true from fun q hq e => by subst e;exact hq1);have HQ2:=aM (show ∀ q (hq : q < s.size),(a + 1) ≤ q → q < (a + 1) + 0 → (((s[q]'hq).toNat : Int) == 93) = false from fun q hq e1 e2 => hq2 q e1 e2)
 clear hq1 hq2 hq0
 obtain ⟨V,hb⟩:=h.blk
 obtain ⟨⟨h0,h1,h2,h3⟩,f0,f1,f2,f3⟩:=bC4 hb
 have hb1 : (0 : Int) ≤ (a : Int):=by omega
 have hb2 : (a : Int) + 2 ≤ 1000:=by omega
 clear hI hr hM h h24 hc hi hb ha
 go_enter Try.func108,Try.ntmps108
 go_wp2_with fail
 refine (HI.out _ HS.out.inc).mono ?_
 rintro e w' ⟨rfl,nd,rfl⟩
 have HS1:=aM (StT.drewN HS.out.inc nd)
 go_wp2_with fail
 have HS2:=aM (show StT w0 _ g s (a + 1) ps false from HS1.out)
 clear HS1 HI HS h0 h1 h2 h3 f0 f1 f2 f3 hb1 hb2
 go_loopg [28] (s.size + 1) (fun n v w' => ∃ q : Nat,Aside0 (StT w0 w' g s q ps false) ∧ Aside0 ((a + 1) ≤ q) ∧ Aside0 (q ≤ (a + 1) + 0) ∧ Aside0 (s.size - q < n))
 case atStart => exact ⟨(a + 1),HS2,aM (Nat.le_refl _),aM (by omega),aM (by omega)⟩
 case round =>
  clear HS2
  obtain ⟨q,HS,HB,HT,HF⟩:=hrel
  obtain ⟨V2,hb⟩:=HS.out.blk
  obtain ⟨⟨h0,h1,h2,h3⟩,f0,f1,f2,f3⟩:=bC4 hb
  clear hb
  have hb1 : (0 : Int) ≤ (q : Int):=by omega
  have hb2 : (q : Int) + 1 ≤ 1000:=by have:=HT.out;have:=H24.out;have:=HQ0.out;omega
  by_cases hlt : q < (a + 1) + 0
  ·have hlt2 : q < s.size:=by have:=HQ0.out;omega
   have hv:=HQ2.out q hlt2 HB.out hlt
   have hv2 : (((s[q]'hlt2).toNat : Int) != 93) = true:=by unfold bne;rw [hv];rfl
   have hd1 : decide ((q : Int) < (s.size : Int)) = true:=decide_eq_true (by omega)
   have hd4 : decide (q < s.size) = true:=decide_eq_true hlt2
   have hd2 : (q : Int) < (s.size : Int):=by omega
   have HLT:=aM hlt2;have HLT3:=aM hlt
   clear hlt
   go_wp2_with fail
   go_quiet (fail)
   go_wp2
   cases gk with
   |zero => exact absurd HF.out (Nat.not_lt_zero _)
   |succ n =>
    go_roundg n
    case measure => omega
    case rel => exact ⟨q + 1,aM (HS.out.drewN _).inc,aM (by have:=HB.out;omega),aM (by have:=HLT3.out;omega),aM (by have:=HF.out;have:=HLT.out;omega)⟩
  ·have hqe : q = (a + 1) + 0:=by have:=HT.out;omega
   have hlt2 : q < s.size:=by have:=HQ0.out;omega
   have hv:=HQ1.out q hlt2 hqe
   have hv2 : (((s[q]'hlt2).toNat : Int) != 93) = false:=by unfold bne;rw [hv];rfl
   have hd1 : decide ((q : Int) < (s.size : Int)) = true:=decide_eq_true (by omega)
   have hd4 : decide (q < s.size) = true:=decide_eq_true hlt2
   have hd2 : (q : Int) < (s.size : Int):=by omega
   have he1 : ((q : Int) == (s.size : Int)) = false:=by simp;omega
   have he2 : (q == s.size) = false:=by simp;omega
   have he3 : ((q : Int) == ((a : Int) + 1)) = true:=by (try have:=HI0.out);simp;omega
   have HQE:=aM hqe;have HLT:=aM hlt2
   clear hlt hqe
   go_wp2_with fail
   go_quiet (fail)
   go_wp2
   go_quiet (fail)
   go_wp2
   go_ret
   exact PoT.no (StT.bad (StT.drewN HS.out _)) (by have:=HLT.out;omega) HR.out (by have:=HQE.out;have:=HLT.out;have:=HM.out;omega)
set_option maxHeartbeats 4000000 in
set_option maxRecDepth 100000 in
theorem sset_n_some (g : Nat) (s : ByteArray) (a : Nat) (ps : List S85) (w0 w : World) (h : StT w0 w g s a ps false) (ha : a < s.size) (h24 : s.size ≤ 24) (hM : ps.length + 2 * (s.size - a) ≤ 55) (hc : hdB (sf s (a + 1)) 94 = false) (i : Nat) (hi0 : 0 < i) (hi : Go.Lib.indexByte (sf s (a + 1)).data.toList 93 = (i : Int)) :
  Calls Try.prog 108 #[.pointer (some ⟨g,0,none⟩)] w (PoT w0 g s (pSet (tl (sf s a)) ps) (ps.length + 2 * (s.size - (a + 1))) (s.size - (a + 1)) 0):=by
 rw [sf_tl s a ha]
 obtain ⟨q_,hq_⟩ : ∃ q_,s.extract (a + 1) ((a + 1) + i) = q_:=⟨_,rfl⟩
 have hlt:=ix_lt hi
 rw [sf_size] at hlt
 have hr : pSet (sf s (a + 1)) ps = some ((ps.length : Int),sf s ((a + 1) + i + 1),ps ++ [⟨3,q_,[]⟩]):=by
  unfold pSet;rw [hc];simp only [Bool.false_eq_true,if_false]
  rw [if_neg (by rw [hi];omega),hi,Int.toNat_natCast]
  rw [show (sf s (a + 1)).extract (i + 1) (sf s (a + 1)).size = sf s ((a + 1) + i + 1) from sf_cut s (a + 1) i (by omega),show (sf s (a + 1)).extract 0 i = q_ from (sf_take s (a + 1) i (by omega)).trans hq_]
 have hI:=sis g s (a + 1) ps false 94 (by omega) (by omega) w0
 rw [show isB s (a + 1) false 94 = false from by unfold isB;rw [hc];rfl] at hI
 have HI:=aM hI;have HR:=aM hr;have HM:=aM hM;have HS:=aM h;have H24:=aM h24;have HA:=aM ha
 obtain ⟨hq0,hq1,hq2⟩:=ix_some hi
 have HQ0:=aM hq0;have HQ1:=aM (show ∀ q (hq : q < s.size),q = (a + 1) + i → (((s[q]'hq).toNat : Int) == 93) = true from fun q hq e => by subst e;exact hq1);have HQ2:=aM (show ∀ q (hq : q < s.size),(a + 1) ≤ q → q < (a + 1) + i → (((s[q]'hq).toNat : Int) == 93) = false from fun q hq e1 e2 => hq2 q e1 e2)
 clear hq1 hq2 hq0
 have HI0:=aM hi0;have HQ_:=aM hq_;clear hi0 hlt hq_
 obtain ⟨V,hb⟩:=h.blk
 obtain ⟨⟨h0,h1,h2,h3⟩,f0,f1,f2,f3⟩:=bC4 hb
 have hb1 : (0 : Int) ≤ (a : Int):=by omega
 have hb2 : (a : Int) + 2 ≤ 1000:=by omega
 clear hI hr hM h h24 hc hi hb ha
 go_enter Try.func108,Try.ntmps108
 go_wp2_with fail
 refine (HI.out _ HS.out.inc).mono ?_
 rintro e w' ⟨rfl,nd,rfl⟩
 have HS1:=aM (StT.drewN HS.out.inc nd)
 go_wp2_with fail
 have HS2:=aM (show StT w0 _ g s (a + 1) ps false from HS1.out)
 clear HS1 HI HS h0 h1 h2 h3 f0 f1 f2 f3 hb1 hb2
 go_loopg [28] (s.size + 1) (fun n v w' => ∃ q : Nat,Aside0 (StT w0 w' g s q ps false) ∧ Aside0 ((a + 1) ≤ q) ∧ Aside0 (q ≤ (a + 1) + i) ∧ Aside0 (s.size - q < n))
 case atStart => exact ⟨(a + 1),HS2,aM (Nat.le_refl _),aM (by omega),aM (by omega)⟩
 case round =>
  clear HS2
  obtain ⟨q,HS,HB,HT,HF⟩:=hrel
  obtain ⟨V2,hb⟩:=HS.out.blk
  obtain ⟨⟨h0,h1,h2,h3⟩,f0,f1,f2,f3⟩:=bC4 hb
  clear hb
  have hb1 : (0 : Int) ≤ (q : Int):=by omega
  have hb2 : (q : Int) + 1 ≤ 1000:=by have:=HT.out;have:=H24.out;have:=HQ0.out;omega
  by_cases hlt : q < (a + 1) + i
  ·have hlt2 : q < s.size:=by have:=HQ0.out;omega
   have hv:=HQ2.out q hlt2 HB.out hlt
   have hv2 : (((s[q]'hlt2).toNat : Int) != 93) = true:=by unfold bne;rw [hv];rfl
   have hd1 : decide ((q : Int) < (s.size : Int)) = true:=decide_eq_true (by omega)
   have hd4 : decide (q < s.size) = true:=decide_eq_true hlt2
   have hd2 : (q : Int) < (s.size : Int):=by omega
   have HLT:=aM hlt2;have HLT3:=aM hlt
   clear hlt
   go_wp2_with fail
   go_quiet (fail)
   go_wp2
   cases gk with
   |zero => exact absurd HF.out (Nat.not_lt_zero _)
   |succ n =>
    go_roundg n
    case measure => omega
    case rel => exact ⟨q + 1,aM (HS.out.drewN _).inc,aM (by have:=HB.out;omega),aM (by have:=HLT3.out;omega),aM (by have:=HF.out;have:=HLT.out;omega)⟩
  ·have hqe : q = (a + 1) + i:=by have:=HT.out;omega
   have hlt2 : q < s.size:=by have:=HQ0.out;omega
   have hv:=HQ1.out q hlt2 hqe
   have hv2 : (((s[q]'hlt2).toNat : Int) != 93) = false:=by unfold bne;rw [hv];rfl
   have hd1 : decide ((q : Int) < (s.size : Int)) = true:=decide_eq_true (by omega)
   have hd4 : decide (q < s.size) = true:=decide_eq_true hlt2
   have hd2 : (q : Int) < (s.size : Int):=by omega
   have he1 : ((q : Int) == (s.size : Int)) = false:=by simp;omega
   have he2 : (q == s.size) = false:=by simp;omega
   have he3 : ((q : Int) == ((a : Int) + 1)) = false:=by (try have:=HI0.out);simp;omega
   have HQE:=aM hqe;have HLT:=aM hlt2
   clear hlt hqe
   go_wp2_with fail
   go_quiet (fail)
   go_wp2
   go_quiet (fail)
   go_wp2_with fail
   have hs1 : (0 : Int) ≤ ((a : Int) + 1):=by omega
   have hs2 : ((a : Int) + 1) ≤ (q : Int):=by have:=HB.out;omega
   have hs3 : (q : Int) ≤ s.size:=by have:=HLT.out;omega
   have ht1 : (((a : Int) + 1)).toNat = (a + 1):=by omega
   have hx : s.extract (a + 1) q = q_:=by rw [HQE.out];exact HQ_.out
   go_quiet (fail)
   go_wp2_with fail
   refine (sput g s (q + 1) ps 3 q_ none 0 [] _ w0 _ (StT.n (HS.out.drewN _).inc) (Kd.R_nil _ _ _ _ _) (by have:=HM.out;omega)).mono ?_
   rintro e w3 ⟨rfl,hs4⟩
   have HS3:=aM hs4;clear hs4
   go_wp2
   go_ret
   exact PoT.ok HS3.out (by have:=HLT.out;omega) (by rw [HR.out,HQE.out]) (by have:=HQE.out;have:=HLT.out;omega) (by have:=HQE.out;have:=HLT.out;have:=HM.out;have:=HI0.out;rw [List.length_append,List.length_singleton];omega)
theorem sset (g : Nat) (s : ByteArray) (a : Nat) (ps : List S85) (w0 w : World) (h : StT w0 w g s a ps false) (ha : a < s.size) (h24 : s.size ≤ 24) (hM : ps.length + 2 * (s.size - a) ≤ 55) :
  Calls Try.prog 108 #[.pointer (some ⟨g,0,none⟩)] w (PoT w0 g s (pSet (tl (sf s a)) ps) (ps.length + 2 * (s.size - (a + 1))) (s.size - (a + 1)) 0):=by
 have ht : ∀ u : ByteArray,Go.Lib.indexByte u.data.toList 93 = -1 ∨ Go.Lib.indexByte u.data.toList 93 = ((0 : Nat) : Int) ∨ ∃ i : Nat,0 < i ∧ Go.Lib.indexByte u.data.toList 93 = (i : Int):=fun u => by
  have h1:=Go.Lib.indexByte_ge u.data.toList 93
  by_cases h2 : Go.Lib.indexByte u.data.toList 93 = -1
  ·exact .inl h2
  ·by_cases h3 : Go.Lib.indexByte u.data.toList 93 = 0
   ·exact .inr (.inl h3)
   ·exact .inr (.inr ⟨(Go.Lib.indexByte u.data.toList 93).toNat,by omega,by omega⟩)
 by_cases hc : hdB (sf s (a + 1)) 94 = true
 ·rcases ht (sf s (a + 1 + 1)) with hi|hi|⟨i,hi0,hi⟩
  ·exact sset_c_none g s a ps w0 w h ha h24 hM hc hi
  ·exact sset_c_zero g s a ps w0 w h ha h24 hM hc hi
  ·exact sset_c_some g s a ps w0 w h ha h24 hM hc i hi0 hi
 ·have hc:=Bool.eq_false_iff.mpr hc
  rcases ht (sf s (a + 1)) with hi|hi|⟨i,hi0,hi⟩
  ·exact sset_n_none g s a ps w0 w h ha h24 hM hc hi
  ·exact sset_n_zero g s a ps w0 w h ha h24 hM hc hi
  ·exact sset_n_some g s a ps w0 w h ha h24 hM hc i hi0 hi
theorem one_byte (u : ByteArray) (h : 0 < u.size) : u.extract 0 1 = strOfNums [((u[0]'h).toNat : Int)]:=by
 refine ByteArray.ext ?_
 rw [ByteArray.data_extract]
 unfold strOfNums
 apply Array.toList_inj.1
 rw [Array.toList_extract,List.extract_eq_take_drop]
 simp only [List.drop_zero,Nat.sub_zero,List.map_cons,List.map_nil]
 have hl : 0 < u.data.toList.length:=by rw [data_length];exact h
 have e : ((u[0]'h)) = u.data.toList[0]'hl:=rfl
 rw [e,Int.toNat_natCast,UInt8.ofNat_toNat]
 have key : ∀ (l : List UInt8) (h : 0 < l.length),l.take 1 = [l[0]'h]:=by
  intro l h
  cases l with
  |nil => cases h
  |cons x r => simp
 exact key _ hl
theorem StN.of {w0 w : World} {g : Nat} {s : ByteArray} {a : Nat} {ps : List S85} {b : Bool} {N : Nat} (h : StT w0 w g s a ps b) (hN : w.heap.size = N) : StN w0 w g s a ps b N:=hN ▸ h.n
theorem quiet_l {P : Program} {f : FuncId} {args : Array Value} {w : World} {a n : Nat} {v : Value} (h : Calls P f args (w.drewN (a + n)) fun e w' => e = .returned v ∧ w.drewN (a + n) = w') :
  Calls P f args (w.drewN (a + n)) fun e w'' => e = .returned v ∧ ∃ m,w'' = w.drewN (a + m):=h.mono fun _ _ ⟨he,hm⟩ => ⟨he,n,hm.symm⟩
theorem quiet_l0 {P : Program} {f : FuncId} {args : Array Value} {w : World} {n : Nat} {v : Value} (h : Calls P f args (w.drewN n) fun e w' => e = .returned v ∧ w.drewN n = w') : Calls P f args (w.drewN n) fun e w'' => e = .returned v ∧ ∃ m,w'' = w.drewN m:=
 h.mono fun _ _ ⟨he,hm⟩ => ⟨he,n,hm.symm⟩
set_option maxHeartbeats 4000000 in
set_option maxRecDepth 100000 in
theorem sthing_end (alt : ByteArray → List S85 → PR) (d : Nat) (H : AltT alt d) (g : Nat) (s : ByteArray) (a : Nat) (ps : List S85) (w0 w : World) (h : StT w0 w g s a ps false) (ha : a ≤ s.size) (h24 : s.size ≤ 24) (hM : ps.length + 2 * (s.size - a) ≤ 55) (hD : s.size - a < d + 1) (hz : ¬ a < s.size) :
  Calls Try.prog 96 #[.pointer (some ⟨g,0,none⟩)] w (PoT w0 g s (pBase alt (sf s a) ps) (ps.length + 2 * (s.size - a)) (s.size - a) 1):=by
 have hr : pBase alt (sf s a) ps = none:=by
  unfold pBase
  rw [if_neg (by rw [sf_no s a hz];decide),if_neg (by rw [sf_no s a hz];decide),if_neg (by rw [sf_no s a hz];decide),if_neg (by rw [sf_no s a hz];decide),if_neg (by rw [sf_no s a hz];decide)]
  unfold pSingle
  rw [if_neg (by rw [sf_no s a hz];decide)]
  unfold pOne
  rw [if_pos (.inl (by rw [sf_size];omega))]
 have HR:=aM hr;have HM:=aM hM;have HS:=aM h;have HA:=aM ha
 obtain ⟨V,hb⟩:=h.blk
 obtain ⟨⟨h0,h1,h2,h3⟩,f0,f1,f2,f3⟩:=bC4 hb
 have hg1 : decide ((s.size : Int) ≤ (a : Int)) = true:=decide_eq_true (by omega)
 have hg4 : decide (s.size ≤ a) = true:=decide_eq_true (by omega)
 have hg2 : (s.size : Int) ≤ (a : Int):=by omega
 clear hr hM h ha h24 hD H hz hb
 go_enter Try.func96,Try.ntmps96
 go_wp2_with fail
 go_quiet (fail)
 go_wp2
 go_ret
 exact PoT.no (StT.bad (StT.drewN HS.out _)) HA.out HR.out (Nat.le_refl _)
set_option maxHeartbeats 4000000 in
set_option maxRecDepth 100000 in
theorem sthing_94 (alt : ByteArray → List S85 → PR) (d : Nat) (H : AltT alt d) (g : Nat) (s : ByteArray) (a : Nat) (ps : List S85) (w0 w : World) (h : StT w0 w g s a ps false) (ha : a ≤ s.size) (h24 : s.size ≤ 24) (hM : ps.length + 2 * (s.size - a) ≤ 55) (hD : s.size - a < d + 1) (hlt : a < s.size)  (c94 : hdB (sf s a) 94 = true) :
  Calls Try.prog 96 #[.pointer (some ⟨g,0,none⟩)] w (PoT w0 g s (pBase alt (sf s a) ps) (ps.length + 2 * (s.size - a)) (s.size - a) 1):=by
 have HR:=aM (show pBase alt (sf s a) ps = some ((ps.length : Int),sf s (a + 1),ps ++ [⟨10,eb,[]⟩]) by unfold pBase;rw [if_pos c94];rw [sf_tl s a hlt])
 have hv:=sf_hd s a hlt
 have v94:=hv 94;rw [c94] at v94
 have HS:=aM h;have HM:=aM hM;have H24:=aM h24;have HD:=aM hD;have HH:=aM H;have HLT:=aM hlt;have HA:=aM ha
 obtain ⟨V,hb⟩:=h.blk
 obtain ⟨⟨h0,h1,h2,h3⟩,f0,f1,f2,f3⟩:=bC4 hb
 have hg1 : decide ((s.size : Int) ≤ (a : Int)) = false:=decide_eq_false (by omega)
 have hg4 : decide (s.size ≤ a) = false:=decide_eq_false (by omega)
 have hg2 : ¬ ((s.size : Int) ≤ (a : Int)):=by omega
 have hd2 : (a : Int) < (s.size : Int):=by omega
 have hb1 : (0 : Int) ≤ (a : Int):=by omega
 have hb2 : (a : Int) + 2 ≤ 1000:=by omega
 clear hv h hM h24 hD H ha hb  c94
 go_enter Try.func96,Try.ntmps96
 go_wp2_with fail
 go_quiet (fail)
 go_wp2_with fail
 go_quiet (fail)
 go_wp2_with fail
 refine (sput g s (a + 1) ps 10 ⟨#[]⟩ none 0 [] _ w0 _ (StT.n (StT.inc (StT.drewN HS.out _))) (Kd.R_nil _ _ _ _ _) (by have:=HM.out;have:=HLT.out;omega)).mono ?_
 rintro e w3 ⟨rfl,hs4⟩
 have HS3:=aM hs4;clear hs4
 go_wp2
 go_ret
 exact PoT.ok HS3.out (by have:=HLT.out;omega) HR.out (by have:=HLT.out;omega) (by have:=HLT.out;have:=HM.out;rw [List.length_append,List.length_singleton];omega)
set_option maxHeartbeats 4000000 in
set_option maxRecDepth 100000 in
theorem sthing_36 (alt : ByteArray → List S85 → PR) (d : Nat) (H : AltT alt d) (g : Nat) (s : ByteArray) (a : Nat) (ps : List S85) (w0 w : World) (h : StT w0 w g s a ps false) (ha : a ≤ s.size) (h24 : s.size ≤ 24) (hM : ps.length + 2 * (s.size - a) ≤ 55) (hD : s.size - a < d + 1) (hlt : a < s.size) (c94 : hdB (sf s a) 94 = false) (c36 : hdB (sf s a) 36 = true) :
  Calls Try.prog 96 #[.pointer (some ⟨g,0,none⟩)] w (PoT w0 g s (pBase alt (sf s a) ps) (ps.length + 2 * (s.size - a)) (s.size - a) 1):=by
 have HR:=aM (show pBase alt (sf s a) ps = some ((ps.length : Int),sf s (a + 1),ps ++ [⟨11,eb,[]⟩]) by unfold pBase;rw [if_neg (by rw [c94];decide)];rw [if_pos c36];rw [sf_tl s a hlt])
 have hv:=sf_hd s a hlt
 have v94:=hv 94;rw [c94] at v94
 have v36:=hv 36;rw [c36] at v36
 have HS:=aM h;have HM:=aM hM;have H24:=aM h24;have HD:=aM hD;have HH:=aM H;have HLT:=aM hlt;have HA:=aM ha
 obtain ⟨V,hb⟩:=h.blk
 obtain ⟨⟨h0,h1,h2,h3⟩,f0,f1,f2,f3⟩:=bC4 hb
 have hg1 : decide ((s.size : Int) ≤ (a : Int)) = false:=decide_eq_false (by omega)
 have hg4 : decide (s.size ≤ a) = false:=decide_eq_false (by omega)
 have hg2 : ¬ ((s.size : Int) ≤ (a : Int)):=by omega
 have hd2 : (a : Int) < (s.size : Int):=by omega
 have hb1 : (0 : Int) ≤ (a : Int):=by omega
 have hb2 : (a : Int) + 2 ≤ 1000:=by omega
 clear hv h hM h24 hD H ha hb c94 c36
 go_enter Try.func96,Try.ntmps96
 go_wp2_with fail
 go_quiet (fail)
 go_wp2_with fail
 go_quiet (fail)
 go_wp2_with fail
 refine (sput g s (a + 1) ps 11 ⟨#[]⟩ none 0 [] _ w0 _ (StT.n (StT.inc (StT.drewN HS.out _))) (Kd.R_nil _ _ _ _ _) (by have:=HM.out;have:=HLT.out;omega)).mono ?_
 rintro e w3 ⟨rfl,hs4⟩
 have HS3:=aM hs4;clear hs4
 go_wp2
 go_ret
 exact PoT.ok HS3.out (by have:=HLT.out;omega) HR.out (by have:=HLT.out;omega) (by have:=HLT.out;have:=HM.out;rw [List.length_append,List.length_singleton];omega)
set_option maxHeartbeats 4000000 in
set_option maxRecDepth 100000 in
theorem sthing_46 (alt : ByteArray → List S85 → PR) (d : Nat) (H : AltT alt d) (g : Nat) (s : ByteArray) (a : Nat) (ps : List S85) (w0 w : World) (h : StT w0 w g s a ps false) (ha : a ≤ s.size) (h24 : s.size ≤ 24) (hM : ps.length + 2 * (s.size - a) ≤ 55) (hD : s.size - a < d + 1) (hlt : a < s.size) (c94 : hdB (sf s a) 94 = false) (c36 : hdB (sf s a) 36 = false) (c46 : hdB (sf s a) 46 = true) :
  Calls Try.prog 96 #[.pointer (some ⟨g,0,none⟩)] w (PoT w0 g s (pBase alt (sf s a) ps) (ps.length + 2 * (s.size - a)) (s.size - a) 1):=by
 have HR:=aM (show pBase alt (sf s a) ps = some ((ps.length : Int),sf s (a + 1),ps ++ [⟨2,eb,[]⟩]) by unfold pBase;rw [if_neg (by rw [c94];decide)];rw [if_neg (by rw [c36];decide)];rw [if_pos c46];rw [sf_tl s a hlt])
 have hv:=sf_hd s a hlt
 have v94:=hv 94;rw [c94] at v94
 have v36:=hv 36;rw [c36] at v36
 have v46:=hv 46;rw [c46] at v46
 have HS:=aM h;have HM:=aM hM;have H24:=aM h24;have HD:=aM hD;have HH:=aM H;have HLT:=aM hlt;have HA:=aM ha
 obtain ⟨V,hb⟩:=h.blk
 obtain ⟨⟨h0,h1,h2,h3⟩,f0,f1,f2,f3⟩:=bC4 hb
 have hg1 : decide ((s.size : Int) ≤ (a : Int)) = false:=decide_eq_false (by omega)
 have hg4 : decide (s.size ≤ a) = false:=decide_eq_false (by omega)
 have hg2 : ¬ ((s.size : Int) ≤ (a : Int)):=by omega
 have hd2 : (a : Int) < (s.size : Int):=by omega
 have hb1 : (0 : Int) ≤ (a : Int):=by omega
 have hb2 : (a : Int) + 2 ≤ 1000:=by omega
 clear hv h hM h24 hD H ha hb c94 c36 c46
 go_enter Try.func96,Try.ntmps96
 go_wp2_with fail
 go_quiet (fail)
 go_wp2_with fail
 go_quiet (fail)
 go_wp2_with fail
 refine (sput g s (a + 1) ps 2 ⟨#[]⟩ none 0 [] _ w0 _ (StT.n (StT.inc (StT.drewN HS.out _))) (Kd.R_nil _ _ _ _ _) (by have:=HM.out;have:=HLT.out;omega)).mono ?_
 rintro e w3 ⟨rfl,hs4⟩
 have HS3:=aM hs4;clear hs4
 go_wp2
 go_ret
 exact PoT.ok HS3.out (by have:=HLT.out;omega) HR.out (by have:=HLT.out;omega) (by have:=HLT.out;have:=HM.out;rw [List.length_append,List.length_singleton];omega)
set_option maxHeartbeats 4000000 in
set_option maxRecDepth 100000 in
theorem sthing_91 (alt : ByteArray → List S85 → PR) (d : Nat) (H : AltT alt d) (g : Nat) (s : ByteArray) (a : Nat) (ps : List S85) (w0 w : World) (h : StT w0 w g s a ps false) (ha : a ≤ s.size) (h24 : s.size ≤ 24) (hM : ps.length + 2 * (s.size - a) ≤ 55) (hD : s.size - a < d + 1) (hlt : a < s.size) (c94 : hdB (sf s a) 94 = false) (c36 : hdB (sf s a) 36 = false) (c46 : hdB (sf s a) 46 = false) (c91 : hdB (sf s a) 91 = true) :
  Calls Try.prog 96 #[.pointer (some ⟨g,0,none⟩)] w (PoT w0 g s (pBase alt (sf s a) ps) (ps.length + 2 * (s.size - a)) (s.size - a) 1):=by
 have HR:=aM (show pBase alt (sf s a) ps = pSet (tl (sf s a)) ps by unfold pBase;rw [if_neg (by rw [c94];decide)];rw [if_neg (by rw [c36];decide)];rw [if_neg (by rw [c46];decide)];rw [if_pos c91])
 have hv:=sf_hd s a hlt
 have v94:=hv 94;rw [c94] at v94
 have v36:=hv 36;rw [c36] at v36
 have v46:=hv 46;rw [c46] at v46
 have v91:=hv 91;rw [c91] at v91
 have HS:=aM h;have HM:=aM hM;have H24:=aM h24;have HD:=aM hD;have HH:=aM H;have HLT:=aM hlt;have HA:=aM ha
 obtain ⟨V,hb⟩:=h.blk
 obtain ⟨⟨h0,h1,h2,h3⟩,f0,f1,f2,f3⟩:=bC4 hb
 have hg1 : decide ((s.size : Int) ≤ (a : Int)) = false:=decide_eq_false (by omega)
 have hg4 : decide (s.size ≤ a) = false:=decide_eq_false (by omega)
 have hg2 : ¬ ((s.size : Int) ≤ (a : Int)):=by omega
 have hd2 : (a : Int) < (s.size : Int):=by omega
 have hb1 : (0 : Int) ≤ (a : Int):=by omega
 have hb2 : (a : Int) + 2 ≤ 1000:=by omega
 clear hv h hM h24 hD H ha hb c94 c36 c46 c91
 go_enter Try.func96,Try.ntmps96
 go_wp2_with fail
 go_quiet (fail)
 go_wp2_with fail
 go_quiet (fail)
 go_wp2_with fail
 refine (sset g s a ps w0 _ (StT.drewN HS.out _) HLT.out H24.out HM.out).mono ?_
 rintro e w3 ⟨k,u,qs,b,rfl,hs,q0,q1,q2,q3⟩
 have HF:=aM (PoT.mono (m':=ps.length + 2 * (s.size - a)) (z':=s.size - a) (c':=1) ⟨k,u,qs,b,rfl,hs,q0,q1,q2,q3⟩ (by have:=HLT.out;omega) (by have:=HLT.out;omega) (by have:=HLT.out;omega))
 clear hs q0 q1 q2 q3
 go_wp2
 go_ret
 rw [HR.out]
 exact HF.out
set_option maxHeartbeats 4000000 in
set_option maxRecDepth 100000 in
theorem sthing_40 (alt : ByteArray → List S85 → PR) (d : Nat) (H : AltT alt d) (g : Nat) (s : ByteArray) (a : Nat) (ps : List S85) (w0 w : World) (h : StT w0 w g s a ps false) (ha : a ≤ s.size) (h24 : s.size ≤ 24) (hM : ps.length + 2 * (s.size - a) ≤ 55) (hD : s.size - a < d + 1) (hlt : a < s.size) (c94 : hdB (sf s a) 94 = false) (c36 : hdB (sf s a) 36 = false) (c46 : hdB (sf s a) 46 = false) (c91 : hdB (sf s a) 91 = false) (c40 : hdB (sf s a) 40 = true) :
  Calls Try.prog 96 #[.pointer (some ⟨g,0,none⟩)] w (PoT w0 g s (pBase alt (sf s a) ps) (ps.length + 2 * (s.size - a)) (s.size - a) 1):=by
 have HR:=aM (show pBase alt (sf s a) ps = pGroup alt (sf s (a + 1)) ps by unfold pBase;rw [if_neg (by rw [c94];decide)];rw [if_neg (by rw [c36];decide)];rw [if_neg (by rw [c46];decide)];rw [if_neg (by rw [c91];decide)];rw [if_pos c40];rw [sf_tl s a hlt])
 have hv:=sf_hd s a hlt
 have v94:=hv 94;rw [c94] at v94
 have v36:=hv 36;rw [c36] at v36
 have v46:=hv 46;rw [c46] at v46
 have v91:=hv 91;rw [c91] at v91
 have v40:=hv 40;rw [c40] at v40
 have HS:=aM h;have HM:=aM hM;have H24:=aM h24;have HD:=aM hD;have HH:=aM H;have HLT:=aM hlt;have HA:=aM ha
 obtain ⟨V,hb⟩:=h.blk
 obtain ⟨⟨h0,h1,h2,h3⟩,f0,f1,f2,f3⟩:=bC4 hb
 have hg1 : decide ((s.size : Int) ≤ (a : Int)) = false:=decide_eq_false (by omega)
 have hg4 : decide (s.size ≤ a) = false:=decide_eq_false (by omega)
 have hg2 : ¬ ((s.size : Int) ≤ (a : Int)):=by omega
 have hd2 : (a : Int) < (s.size : Int):=by omega
 have hb1 : (0 : Int) ≤ (a : Int):=by omega
 have hb2 : (a : Int) + 2 ≤ 1000:=by omega
 clear hv h hM h24 hD H ha hb c94 c36 c46 c91 c40
 go_enter Try.func96,Try.ntmps96
 go_wp2_with fail
 go_quiet (fail)
 go_wp2_with fail
 go_quiet (fail)
 go_wp2_with fail
 refine (HH.out g s w0 _ (a + 1) ps (StT.inc (StT.drewN HS.out _)) HLT.out H24.out (by have:=HD.out;have:=HLT.out;omega) (by have:=HM.out;have:=HLT.out;omega)).mono ?_
 rintro e w3 ⟨k,q,qs,b,rfl,hs,q0,q1,q2,q3⟩
 have HS3:=aM hs;have Q0:=aM q0;have Q1:=aM q1;have Q2:=aM q2;have Q3:=aM q3
 clear hs q0 q1 q2 q3 h0 h1 h2 h3 f0 f1 f2 f3
 go_wp2_with fail
 refine (sis g s q qs b 41 (by have:=H24.out;omega) Q0.out w0 _ HS3.out).mono ?_
 rintro e w4 ⟨rfl,nd,rfl⟩
 have HS4:=aM (StT.drewN HS3.out nd)
 clear HS3
 obtain ⟨V2,hb⟩:=HS4.out.blk
 obtain ⟨⟨h0,h1,h2,h3⟩,f0,f1,f2,f3⟩:=bC4 hb
 clear hb
 have hb3 : (0 : Int) ≤ (q : Int):=by omega
 have hb4 : (q : Int) + 2 ≤ 1000:=by have:=Q0.out;have:=H24.out;omega
 by_cases c : isB s q b 41 = true
 ·have hb0 : b = false:=by
   cases b with
   |false => rfl
   |true => cases c
  subst hb0
  have hh : hdB (sf s q) 41 = true:=c
  have HQ:=aM hh
  have HQL:=aM (show q < s.size by have:=hd_pos hh;rw [sf_size] at this;omega)
  rw [c]
  clear hh c
  go_wp2
  go_ret
  exact PoT.ok (StT.inc HS4.out) (by have:=HQL.out;omega) (by rw [HR.out];unfold pGroup;rw [(Q2.out (by first|rfl|trivial)).1,Option.bind_some];simp only [];rw [if_pos HQ.out,sf_tl s q HQL.out]) (by have:=(Q2.out (by first|rfl|trivial)).2.1;have:=HQL.out;have:=HLT.out;omega) (by have:=(Q2.out (by first|rfl|trivial)).2.2;have:=HQL.out;have:=HLT.out;omega)
 ·have c:=Bool.eq_false_iff.mpr c
  have HN:=aM (show pGroup alt (sf s (a + 1)) ps = none by
   unfold pGroup
   cases b with
   |true => rw [Q3.out rfl];rfl
   |false =>
    rw [(Q2.out rfl).1,Option.bind_some];simp only []
    rw [if_neg (by rw [show hdB (sf s q) 41 = false from c];decide)])
  rw [c]
  clear c
  go_wp2
  go_ret
  exact PoT.no (StT.bad HS4.out) Q0.out (by rw [HR.out];exact HN.out) (by have:=Q1.out;have:=HLT.out;omega)
theorem sf_one (s : ByteArray) (a : Nat) (h : a < s.size) : (sf s a).extract 0 1 = strOfNums [((s[a]'h).toNat : Int)]:=by
 have h2 : 0 < (sf s a).size:=by rw [sf_size];omega
 rw [one_byte _ h2]
 have h3:=sf_bt s a h
 rw [← bt_at (sf s a) 0 h2] at h3
 exact congrArg (fun z => strOfNums [z]) h3
theorem conv1 (v : Int) (W : World) (n : Nat) (hn : W.heap.size = n) : (convert 43 9 (.slice (some ⟨n,0,none⟩) 1 1)).run Try.prog (W.alloc (.cells #[.int .u8 v] 5)) = .ok (.string (strOfNums [v])) (W.alloc (.cells #[.int .u8 v] 5)):=by
 subst hn
 refine run_convert_bytes_arg _ 43 5 Try.underlying43 Try.underlying5 W.heap.size 0 1 1 [v] rfl (fun i hi => ?_) 9 Try.underlying9
 obtain rfl : i = 0:=by omega
 rw [bC (heap_alloc_new W _) _]
 rfl
set_option maxHeartbeats 4000000 in
set_option maxRecDepth 100000 in
theorem sthing_byte_t (alt : ByteArray → List S85 → PR) (d : Nat) (H : AltT alt d) (g : Nat) (s : ByteArray) (a : Nat) (ps : List S85) (w0 w : World) (h : StT w0 w g s a ps false) (ha : a ≤ s.size) (h24 : s.size ≤ 24) (hM : ps.length + 2 * (s.size - a) ≤ 55) (hD : s.size - a < d + 1) (hlt : a < s.size) (c94 : hdB (sf s a) 94 = false) (c36 : hdB (sf s a) 36 = false) (c46 : hdB (sf s a) 46 = false) (c91 : hdB (sf s a) 91 = false) (c40 : hdB (sf s a) 40 = false) (c92 : hdB (sf s a) 92 = false) (hs : spB (((s[a]'hlt).toNat : Nat) : Int) = true) :
  Calls Try.prog 96 #[.pointer (some ⟨g,0,none⟩)] w (PoT w0 g s (pBase alt (sf s a) ps) (ps.length + 2 * (s.size - a)) (s.size - a) 1):=by
 have HR:=aM (show pBase alt (sf s a) ps = none by unfold pBase;rw [if_neg (by rw [c94];decide)];rw [if_neg (by rw [c36];decide)];rw [if_neg (by rw [c46];decide)];rw [if_neg (by rw [c91];decide)];rw [if_neg (by rw [c40];decide)];unfold pSingle;rw [if_neg (by rw [c92];decide)];unfold pOne;rw [if_pos (.inr (by rw [sf_bt s a hlt,hs];decide))])
 have hx:=sspecial (((s[a]'hlt).toNat : Nat) : Int);rw [hs] at hx;have HX:=aM hx;clear hx hs
 have hv:=sf_hd s a hlt
 have v94:=hv 94;rw [c94] at v94
 have v36:=hv 36;rw [c36] at v36
 have v46:=hv 46;rw [c46] at v46
 have v91:=hv 91;rw [c91] at v91
 have v40:=hv 40;rw [c40] at v40
 have v92:=hv 92;rw [c92] at v92
 have HS:=aM h;have HM:=aM hM;have H24:=aM h24;have HD:=aM hD;have HH:=aM H;have HLT:=aM hlt;have HA:=aM ha
 obtain ⟨V,hb⟩:=h.blk
 obtain ⟨⟨h0,h1,h2,h3⟩,f0,f1,f2,f3⟩:=bC4 hb
 have hg1 : decide ((s.size : Int) ≤ (a : Int)) = false:=decide_eq_false (by omega)
 have hg4 : decide (s.size ≤ a) = false:=decide_eq_false (by omega)
 have hg2 : ¬ ((s.size : Int) ≤ (a : Int)):=by omega
 have hd2 : (a : Int) < (s.size : Int):=by omega
 have hb1 : (0 : Int) ≤ (a : Int):=by omega
 have hb2 : (a : Int) + 2 ≤ 1000:=by omega
 clear hv h hM h24 hD H ha hb c94 c36 c46 c91 c40 c92
 go_enter Try.func96,Try.ntmps96
 go_wp2_with fail
 go_quiet (fail)
 go_wp2_with fail
 go_quiet (fail)
 go_wp2_with fail
 refine (HX.out _).mono ?_
 rintro e w' ⟨rfl,rfl⟩
 go_wp2
 go_ret
 exact PoT.no (StT.bad (StT.drewN HS.out _)) HA.out HR.out (Nat.le_refl _)
set_option maxHeartbeats 4000000 in
set_option maxRecDepth 100000 in
theorem sthing_byte_f (alt : ByteArray → List S85 → PR) (d : Nat) (H : AltT alt d) (g : Nat) (s : ByteArray) (a : Nat) (ps : List S85) (w0 w : World) (h : StT w0 w g s a ps false) (ha : a ≤ s.size) (h24 : s.size ≤ 24) (hM : ps.length + 2 * (s.size - a) ≤ 55) (hD : s.size - a < d + 1) (hlt : a < s.size) (c94 : hdB (sf s a) 94 = false) (c36 : hdB (sf s a) 36 = false) (c46 : hdB (sf s a) 46 = false) (c91 : hdB (sf s a) 91 = false) (c40 : hdB (sf s a) 40 = false) (c92 : hdB (sf s a) 92 = false) (hs : spB (((s[a]'hlt).toNat : Nat) : Int) = false) :
  Calls Try.prog 96 #[.pointer (some ⟨g,0,none⟩)] w (PoT w0 g s (pBase alt (sf s a) ps) (ps.length + 2 * (s.size - a)) (s.size - a) 1):=by
 have HR:=aM (show pBase alt (sf s a) ps = some ((ps.length : Int),sf s (a + 1),ps ++ [⟨1,strOfNums [((s[a]'hlt).toNat : Int)],[]⟩]) by unfold pBase;rw [if_neg (by rw [c94];decide)];rw [if_neg (by rw [c36];decide)];rw [if_neg (by rw [c46];decide)];rw [if_neg (by rw [c91];decide)];rw [if_neg (by rw [c40];decide)];unfold pSingle;rw [if_neg (by rw [c92];decide)];unfold pOne;rw [if_neg (by rw [sf_bt s a hlt,hs];intro h2;rcases h2 with h2|h2;rw [sf_size] at h2;omega;exact h2 rfl),sf_tl s a hlt,sf_one s a hlt])
 have hx:=sspecial (((s[a]'hlt).toNat : Nat) : Int);rw [hs] at hx;have HX:=aM hx;clear hx hs
 have hv:=sf_hd s a hlt
 have v94:=hv 94;rw [c94] at v94
 have v36:=hv 36;rw [c36] at v36
 have v46:=hv 46;rw [c46] at v46
 have v91:=hv 91;rw [c91] at v91
 have v40:=hv 40;rw [c40] at v40
 have v92:=hv 92;rw [c92] at v92
 have HS:=aM h;have HM:=aM hM;have H24:=aM h24;have HD:=aM hD;have HH:=aM H;have HLT:=aM hlt;have HA:=aM ha
 obtain ⟨V,hb⟩:=h.blk
 obtain ⟨⟨h0,h1,h2,h3⟩,f0,f1,f2,f3⟩:=bC4 hb
 have hg1 : decide ((s.size : Int) ≤ (a : Int)) = false:=decide_eq_false (by omega)
 have hg4 : decide (s.size ≤ a) = false:=decide_eq_false (by omega)
 have hg2 : ¬ ((s.size : Int) ≤ (a : Int)):=by omega
 have hd2 : (a : Int) < (s.size : Int):=by omega
 have hb1 : (0 : Int) ≤ (a : Int):=by omega
 have hb2 : (a : Int) + 2 ≤ 1000:=by omega
 clear hv h hM h24 hD H ha hb c94 c36 c46 c91 c40 c92
 obtain ⟨v,hvv⟩ : ∃ v : Int,((s[a]'hlt).toNat : Int) = v:=⟨_,rfl⟩
 rw [hvv] at HR HX v94 v36 v46 v91 v40 v92
 have hcv : ∀ (N : Nat) (x : Value),(convert 43 9 (.slice (some ⟨w.heap.size,0,none⟩) 1 1)).run Try.prog (((w.drewN N).setCell ⟨g,1,none⟩ x).alloc (.cells #[.int .u8 v] 5)) = .ok (.string (strOfNums [v])) (((w.drewN N).setCell ⟨g,1,none⟩ x).alloc (.cells #[.int .u8 v] 5)):=fun N x => conv1 v _ _ (by simp)
 go_enter Try.func96,Try.ntmps96
 go_wp2_with fail
 go_quiet (fail)
 go_wp2_with fail
 go_quiet (fail)
 go_wp2_with fail
 refine (HX.out _).mono ?_
 rintro e w' ⟨rfl,rfl⟩
 go_wp2_with fail
 refine (sput g s (a + 1) ps 1 (strOfNums [v]) none 0 [] w.heap.size w0 _ (StN.alloc (StN.of (StT.inc (StT.drewN HS.out _)) (by simp)) _) (Kd.R_nil _ _ _ _ _) (by have:=HM.out;have:=HLT.out;omega)).mono ?_
 rintro e w3 ⟨rfl,hs4⟩
 have HS3:=aM hs4;clear hs4
 go_wp2
 go_ret
 exact PoT.ok HS3.out (by have:=HLT.out;omega) HR.out (by have:=HLT.out;omega) (by have:=HLT.out;have:=HM.out;rw [List.length_append,List.length_singleton];omega)
set_option maxHeartbeats 4000000 in
set_option maxRecDepth 100000 in
theorem sthing_esc_z (alt : ByteArray → List S85 → PR) (d : Nat) (H : AltT alt d) (g : Nat) (s : ByteArray) (a : Nat) (ps : List S85) (w0 w : World) (h : StT w0 w g s a ps false) (ha : a ≤ s.size) (h24 : s.size ≤ 24) (hM : ps.length + 2 * (s.size - a) ≤ 55) (hD : s.size - a < d + 1) (hlt : a < s.size) (c94 : hdB (sf s a) 94 = false) (c36 : hdB (sf s a) 36 = false) (c46 : hdB (sf s a) 46 = false) (c91 : hdB (sf s a) 91 = false) (c40 : hdB (sf s a) 40 = false) (c92 : hdB (sf s a) 92 = true) (hz : ¬ a + 1 < s.size) :
  Calls Try.prog 96 #[.pointer (some ⟨g,0,none⟩)] w (PoT w0 g s (pBase alt (sf s a) ps) (ps.length + 2 * (s.size - a)) (s.size - a) 1):=by
 have HR:=aM (show pBase alt (sf s a) ps = none by unfold pBase;rw [if_neg (by rw [c94];decide)];rw [if_neg (by rw [c36];decide)];rw [if_neg (by rw [c46];decide)];rw [if_neg (by rw [c91];decide)];rw [if_neg (by rw [c40];decide)];unfold pSingle;rw [if_pos c92,sf_tl s a hlt];unfold pOne;rw [if_pos (.inl (by rw [sf_size];omega))])
 have hv:=sf_hd s a hlt
 have v94:=hv 94;rw [c94] at v94
 have v36:=hv 36;rw [c36] at v36
 have v46:=hv 46;rw [c46] at v46
 have v91:=hv 91;rw [c91] at v91
 have v40:=hv 40;rw [c40] at v40
 have v92:=hv 92;rw [c92] at v92
 have HS:=aM h;have HM:=aM hM;have H24:=aM h24;have HD:=aM hD;have HH:=aM H;have HLT:=aM hlt;have HA:=aM ha
 obtain ⟨V,hb⟩:=h.blk
 obtain ⟨⟨h0,h1,h2,h3⟩,f0,f1,f2,f3⟩:=bC4 hb
 have hg1 : decide ((s.size : Int) ≤ (a : Int)) = false:=decide_eq_false (by omega)
 have hg4 : decide (s.size ≤ a) = false:=decide_eq_false (by omega)
 have hg2 : ¬ ((s.size : Int) ≤ (a : Int)):=by omega
 have hd2 : (a : Int) < (s.size : Int):=by omega
 have hb1 : (0 : Int) ≤ (a : Int):=by omega
 have hb2 : (a : Int) + 2 ≤ 1000:=by omega
 clear hv h hM h24 hD H ha hb c94 c36 c46 c91 c40 c92
 have hk1 : decide ((s.size : Int) ≤ (a : Int) + 1) = true:=decide_eq_true (by omega)
 have hk2 : (s.size : Int) ≤ (a : Int) + 1:=by omega
 clear hz
 go_enter Try.func96,Try.ntmps96
 go_wp2_with fail
 go_quiet (fail)
 go_wp2_with fail
 go_quiet (fail)
 go_wp2_with fail
 go_quiet (fail)
 go_wp2
 go_ret
 exact PoT.no (StT.bad (StT.drewN (StT.inc (StT.drewN HS.out _)) _)) (by have:=HLT.out;omega) HR.out (by have:=HLT.out;omega)
set_option maxHeartbeats 4000000 in
set_option maxRecDepth 100000 in
theorem sthing_esc_t (alt : ByteArray → List S85 → PR) (d : Nat) (H : AltT alt d) (g : Nat) (s : ByteArray) (a : Nat) (ps : List S85) (w0 w : World) (h : StT w0 w g s a ps false) (ha : a ≤ s.size) (h24 : s.size ≤ 24) (hM : ps.length + 2 * (s.size - a) ≤ 55) (hD : s.size - a < d + 1) (hlt : a < s.size) (c94 : hdB (sf s a) 94 = false) (c36 : hdB (sf s a) 36 = false) (c46 : hdB (sf s a) 46 = false) (c91 : hdB (sf s a) 91 = false) (c40 : hdB (sf s a) 40 = false) (c92 : hdB (sf s a) 92 = true) (hlt2 : a + 1 < s.size) (hs : spB (((s[a + 1]'hlt2).toNat : Nat) : Int) = true) :
  Calls Try.prog 96 #[.pointer (some ⟨g,0,none⟩)] w (PoT w0 g s (pBase alt (sf s a) ps) (ps.length + 2 * (s.size - a)) (s.size - a) 1):=by
 have HR:=aM (show pBase alt (sf s a) ps = some ((ps.length : Int),sf s (a + 1 + 1),ps ++ [⟨1,strOfNums [((s[a + 1]'hlt2).toNat : Int)],[]⟩]) by unfold pBase;rw [if_neg (by rw [c94];decide)];rw [if_neg (by rw [c36];decide)];rw [if_neg (by rw [c46];decide)];rw [if_neg (by rw [c91];decide)];rw [if_neg (by rw [c40];decide)];unfold pSingle;rw [if_pos c92,sf_tl s a hlt];unfold pOne;rw [if_neg (by rw [sf_bt s (a + 1) hlt2,hs];intro h2;rcases h2 with h2|h2;rw [sf_size] at h2;omega;exact h2 rfl),sf_tl s (a + 1) hlt2,sf_one s (a + 1) hlt2])
 have hx:=sspecial (((s[a + 1]'hlt2).toNat : Nat) : Int);rw [hs] at hx;have HX:=aM hx;clear hx hs
 have hv:=sf_hd s a hlt
 have v94:=hv 94;rw [c94] at v94
 have v36:=hv 36;rw [c36] at v36
 have v46:=hv 46;rw [c46] at v46
 have v91:=hv 91;rw [c91] at v91
 have v40:=hv 40;rw [c40] at v40
 have v92:=hv 92;rw [c92] at v92
 have HS:=aM h;have HM:=aM hM;have H24:=aM h24;have HD:=aM hD;have HH:=aM H;have HLT:=aM hlt;have HA:=aM ha
 obtain ⟨V,hb⟩:=h.blk
 obtain ⟨⟨h0,h1,h2,h3⟩,f0,f1,f2,f3⟩:=bC4 hb
 have hg1 : decide ((s.size : Int) ≤ (a : Int)) = false:=decide_eq_false (by omega)
 have hg4 : decide (s.size ≤ a) = false:=decide_eq_false (by omega)
 have hg2 : ¬ ((s.size : Int) ≤ (a : Int)):=by omega
 have hd2 : (a : Int) < (s.size : Int):=by omega
 have hb1 : (0 : Int) ≤ (a : Int):=by omega
 have hb2 : (a : Int) + 2 ≤ 1000:=by omega
 clear hv h hM h24 hD H ha hb c94 c36 c46 c91 c40 c92
 have hk1 : decide ((s.size : Int) ≤ (a : Int) + 1) = false:=decide_eq_false (by omega)
 have hk2 : ¬ ((s.size : Int) ≤ (a : Int) + 1):=by omega
 have hk3 : (a : Int) + 1 < (s.size : Int):=by omega
 have hk4 : (0 : Int) ≤ (a : Int) + 1:=by omega
 have hk5 : ((a : Int) + 1).toNat = a + 1:=by omega
 have HLT2:=aM hlt2
 obtain ⟨v,hvv⟩ : ∃ v : Int,((s[a + 1]'hlt2).toNat : Int) = v:=⟨_,rfl⟩
 rw [hvv] at HR HX
 have hcv : ∀ (N M : Nat) (x y : Value),(convert 43 9 (.slice (some ⟨w.heap.size,0,none⟩) 1 1)).run Try.prog (((((w.drewN N).setCell ⟨g,1,none⟩ x).drewN M).setCell ⟨g,1,none⟩ y).alloc (.cells #[.int .u8 v] 5)) = .ok (.string (strOfNums [v])) (((((w.drewN N).setCell ⟨g,1,none⟩ x).drewN M).setCell ⟨g,1,none⟩ y).alloc (.cells #[.int .u8 v] 5)):=fun N M x y => conv1 v _ _ (by simp)
 go_enter Try.func96,Try.ntmps96
 go_wp2_with fail
 go_quiet (fail)
 go_wp2_with fail
 go_quiet (fail)
 go_wp2_with fail
 go_quiet ((go_at_call 109;first|exact quiet_l0 (HX.out _)|exact quiet_l (HX.out _)|exact Calls.quiet_of_same ((HX.out _).mono (fun _ _ h => ⟨h.1,h.2.symm⟩))))
 go_wp2_with fail
 go_quiet (fail)
 go_wp2_with fail
 refine (sput g s (a + 1 + 1) ps 1 (strOfNums [v]) none 0 [] w.heap.size w0 _ (StN.alloc (StN.of (StT.inc (StT.drewN (StT.inc (StT.drewN HS.out _)) _)) (by simp)) _) (Kd.R_nil _ _ _ _ _) (by have:=HM.out;have:=HLT.out;omega)).mono ?_
 rintro e w3 ⟨rfl,hs4⟩
 have HS3:=aM hs4;clear hs4
 go_wp2
 go_ret
 exact PoT.ok HS3.out (by have:=HLT2.out;omega) HR.out (by have:=HLT2.out;omega) (by have:=HLT2.out;have:=HM.out;rw [List.length_append,List.length_singleton];omega)
set_option maxHeartbeats 4000000 in
set_option maxRecDepth 100000 in
theorem sthing_esc_f (alt : ByteArray → List S85 → PR) (d : Nat) (H : AltT alt d) (g : Nat) (s : ByteArray) (a : Nat) (ps : List S85) (w0 w : World) (h : StT w0 w g s a ps false) (ha : a ≤ s.size) (h24 : s.size ≤ 24) (hM : ps.length + 2 * (s.size - a) ≤ 55) (hD : s.size - a < d + 1) (hlt : a < s.size) (c94 : hdB (sf s a) 94 = false) (c36 : hdB (sf s a) 36 = false) (c46 : hdB (sf s a) 46 = false) (c91 : hdB (sf s a) 91 = false) (c40 : hdB (sf s a) 40 = false) (c92 : hdB (sf s a) 92 = true) (hlt2 : a + 1 < s.size) (hs : spB (((s[a + 1]'hlt2).toNat : Nat) : Int) = false) :
  Calls Try.prog 96 #[.pointer (some ⟨g,0,none⟩)] w (PoT w0 g s (pBase alt (sf s a) ps) (ps.length + 2 * (s.size - a)) (s.size - a) 1):=by
 have HR:=aM (show pBase alt (sf s a) ps = none by unfold pBase;rw [if_neg (by rw [c94];decide)];rw [if_neg (by rw [c36];decide)];rw [if_neg (by rw [c46];decide)];rw [if_neg (by rw [c91];decide)];rw [if_neg (by rw [c40];decide)];unfold pSingle;rw [if_pos c92,sf_tl s a hlt];unfold pOne;rw [if_pos (.inr (by rw [sf_bt s (a + 1) hlt2,hs];decide))])
 have hx:=sspecial (((s[a + 1]'hlt2).toNat : Nat) : Int);rw [hs] at hx;have HX:=aM hx;clear hx hs
 have hv:=sf_hd s a hlt
 have v94:=hv 94;rw [c94] at v94
 have v36:=hv 36;rw [c36] at v36
 have v46:=hv 46;rw [c46] at v46
 have v91:=hv 91;rw [c91] at v91
 have v40:=hv 40;rw [c40] at v40
 have v92:=hv 92;rw [c92] at v92
 have HS:=aM h;have HM:=aM hM;have H24:=aM h24;have HD:=aM hD;have HH:=aM H;have HLT:=aM hlt;have HA:=aM ha
 obtain ⟨V,hb⟩:=h.blk
 obtain ⟨⟨h0,h1,h2,h3⟩,f0,f1,f2,f3⟩:=bC4 hb
 have hg1 : decide ((s.size : Int) ≤ (a : Int)) = false:=decide_eq_false (by omega)
 have hg4 : decide (s.size ≤ a) = false:=decide_eq_false (by omega)
 have hg2 : ¬ ((s.size : Int) ≤ (a : Int)):=by omega
 have hd2 : (a : Int) < (s.size : Int):=by omega
 have hb1 : (0 : Int) ≤ (a : Int):=by omega
 have hb2 : (a : Int) + 2 ≤ 1000:=by omega
 clear hv h hM h24 hD H ha hb c94 c36 c46 c91 c40 c92
 have hk1 : decide ((s.size : Int) ≤ (a : Int) + 1) = false:=decide_eq_false (by omega)
 have hk2 : ¬ ((s.size : Int) ≤ (a : Int) + 1):=by omega
 have hk3 : (a : Int) + 1 < (s.size : Int):=by omega
 have hk4 : (0 : Int) ≤ (a : Int) + 1:=by omega
 have hk5 : ((a : Int) + 1).toNat = a + 1:=by omega
 have HLT2:=aM hlt2
 obtain ⟨v,hvv⟩ : ∃ v : Int,((s[a + 1]'hlt2).toNat : Int) = v:=⟨_,rfl⟩
 rw [hvv] at HX
 have hcv : ∀ (N M : Nat) (x y : Value),(convert 43 9 (.slice (some ⟨w.heap.size,0,none⟩) 1 1)).run Try.prog (((((w.drewN N).setCell ⟨g,1,none⟩ x).drewN M).setCell ⟨g,1,none⟩ y).alloc (.cells #[.int .u8 v] 5)) = .ok (.string (strOfNums [v])) (((((w.drewN N).setCell ⟨g,1,none⟩ x).drewN M).setCell ⟨g,1,none⟩ y).alloc (.cells #[.int .u8 v] 5)):=fun N M x y => conv1 v _ _ (by simp)
 go_enter Try.func96,Try.ntmps96
 go_wp2_with fail
 go_quiet (fail)
 go_wp2_with fail
 go_quiet (fail)
 go_wp2_with fail
 go_quiet ((go_at_call 109;first|exact quiet_l0 (HX.out _)|exact quiet_l (HX.out _)|exact Calls.quiet_of_same ((HX.out _).mono (fun _ _ h => ⟨h.1,h.2.symm⟩))))
 go_wp2
 go_ret
 exact PoT.no (StT.bad (StT.drewN (StT.inc (StT.drewN HS.out _)) _)) (by have:=HLT.out;omega) HR.out (by have:=HLT.out;omega)
theorem sthing (alt : ByteArray → List S85 → PR) (d : Nat) (H : AltT alt d) (g : Nat) (s : ByteArray) (a : Nat) (ps : List S85) (w0 w : World) (h : StT w0 w g s a ps false) (ha : a ≤ s.size) (h24 : s.size ≤ 24) (hM : ps.length + 2 * (s.size - a) ≤ 55) (hD : s.size - a < d + 1) :
  Calls Try.prog 96 #[.pointer (some ⟨g,0,none⟩)] w (PoT w0 g s (pBase alt (sf s a) ps) (ps.length + 2 * (s.size - a)) (s.size - a) 1):=by
 by_cases hlt : a < s.size
 ·by_cases c94 : hdB (sf s a) 94 = true
  ·exact sthing_94 alt d H g s a ps w0 w h ha h24 hM hD hlt c94
  by_cases c36 : hdB (sf s a) 36 = true
  ·exact sthing_36 alt d H g s a ps w0 w h ha h24 hM hD hlt (Bool.eq_false_iff.mpr c94) c36
  by_cases c46 : hdB (sf s a) 46 = true
  ·exact sthing_46 alt d H g s a ps w0 w h ha h24 hM hD hlt (Bool.eq_false_iff.mpr c94) (Bool.eq_false_iff.mpr c36) c46
  by_cases c91 : hdB (sf s a) 91 = true
  ·exact sthing_91 alt d H g s a ps w0 w h ha h24 hM hD hlt (Bool.eq_false_iff.mpr c94) (Bool.eq_false_iff.mpr c36) (Bool.eq_false_iff.mpr c46) c91
  by_cases c40 : hdB (sf s a) 40 = true
  ·exact sthing_40 alt d H g s a ps w0 w h ha h24 hM hD hlt (Bool.eq_false_iff.mpr c94) (Bool.eq_false_iff.mpr c36) (Bool.eq_false_iff.mpr c46) (Bool.eq_false_iff.mpr c91) c40
  by_cases c92 : hdB (sf s a) 92 = true
  ·by_cases hlt2 : a + 1 < s.size
   ·by_cases hs : spB (((s[a + 1]'hlt2).toNat : Nat) : Int) = true
    ·exact sthing_esc_t alt d H g s a ps w0 w h ha h24 hM hD hlt (Bool.eq_false_iff.mpr c94) (Bool.eq_false_iff.mpr c36) (Bool.eq_false_iff.mpr c46) (Bool.eq_false_iff.mpr c91) (Bool.eq_false_iff.mpr c40) c92 hlt2 hs
    ·exact sthing_esc_f alt d H g s a ps w0 w h ha h24 hM hD hlt (Bool.eq_false_iff.mpr c94) (Bool.eq_false_iff.mpr c36) (Bool.eq_false_iff.mpr c46) (Bool.eq_false_iff.mpr c91) (Bool.eq_false_iff.mpr c40) c92 hlt2 (Bool.eq_false_iff.mpr hs)
   ·exact sthing_esc_z alt d H g s a ps w0 w h ha h24 hM hD hlt (Bool.eq_false_iff.mpr c94) (Bool.eq_false_iff.mpr c36) (Bool.eq_false_iff.mpr c46) (Bool.eq_false_iff.mpr c91) (Bool.eq_false_iff.mpr c40) c92 hlt2
  by_cases hs : spB (((s[a]'hlt).toNat : Nat) : Int) = true
  ·exact sthing_byte_t alt d H g s a ps w0 w h ha h24 hM hD hlt (Bool.eq_false_iff.mpr c94) (Bool.eq_false_iff.mpr c36) (Bool.eq_false_iff.mpr c46) (Bool.eq_false_iff.mpr c91) (Bool.eq_false_iff.mpr c40) (Bool.eq_false_iff.mpr c92) hs
  ·exact sthing_byte_f alt d H g s a ps w0 w h ha h24 hM hD hlt (Bool.eq_false_iff.mpr c94) (Bool.eq_false_iff.mpr c36) (Bool.eq_false_iff.mpr c46) (Bool.eq_false_iff.mpr c91) (Bool.eq_false_iff.mpr c40) (Bool.eq_false_iff.mpr c92) (Bool.eq_false_iff.mpr hs)
 ·exact sthing_end alt d H g s a ps w0 w h ha h24 hM hD hlt
theorem hd_other {u : ByteArray} {c x : Int} (h : hdB u c = true) (hne : c ≠ x) : hdB u x = false:=decide_eq_false fun h2 => hne ((hd_bt h).symm.trans h2.2)
set_option maxHeartbeats 4000000 in
set_option maxRecDepth 100000 in
theorem smany (alt : ByteArray → List S85 → PR) (d : Nat) (H : AltT alt d) (g : Nat) (s : ByteArray) (a : Nat) (ps : List S85) (w0 w : World) (h : StT w0 w g s a ps false) (ha : a ≤ s.size) (h24 : s.size ≤ 24) (hM : ps.length + 2 * (s.size - a) ≤ 55) (hD : s.size - a < d + 1) :
  Calls Try.prog 75 #[.pointer (some ⟨g,0,none⟩)] w (PoT w0 g s (pThing alt (sf s a) ps) (ps.length + 2 * (s.size - a)) (s.size - a) 1):=by
 have HX:=aM (sthing alt d H g s a ps w0 w h ha h24 hM hD)
 have HM:=aM hM;have H24:=aM h24;have HA:=aM ha
 clear h H hD hM h24 ha
 obtain ⟨R,hR⟩ : ∃ R,pThing alt (sf s a) ps = R:=⟨_,rfl⟩
 have HR:=aM hR
 rw [hR]
 clear hR
 go_enter Try.func75,Try.ntmps75
 go_wp2_with fail
 refine HX.out.mono ?_
 rintro e w1 ⟨k,q,qs,b,rfl,hs,q0,q1,q2,q3⟩
 have HS:=aM hs;have Q0:=aM q0;have Q1:=aM q1
 have Q2:=aM (show b = false → pStar 50 k (sf s q) qs = R ∧ s.size - q + 1 ≤ s.size - a ∧ qs.length + 2 * (s.size - q) + 1 ≤ ps.length + 2 * (s.size - a) from fun hb => by
  have h2:=q2 hb
  exact ⟨by rw [← HR.out];unfold pThing;rw [h2.1,Option.bind_some],h2.2⟩)
 have Q3:=aM (show b = true → R = none from fun hb => by rw [← HR.out];unfold pThing;rw [q3 hb];rfl)
 clear hs q0 q1 q2 q3
 go_wp2_with fail
 go_loopg [3] 50 (fun n at_ w' => ∃ (k : Int) (q : Nat) (qs : List S85) (b : Bool),at_ = .int .i64 k ∧ Aside0 (StT w0 w' g s q qs b) ∧ Aside0 (q ≤ s.size) ∧ Aside0 (qs.length + 2 * (s.size - q) ≤ ps.length + 2 * (s.size - a)) ∧ Aside0 (b = false → pStar n k (sf s q) qs = R ∧ s.size - q + 1 ≤ s.size - a ∧ qs.length + 2 * (s.size - q) + 1 ≤ ps.length + 2 * (s.size - a) ∧ s.size - q < n) ∧ Aside0 (b = true → R = none))
 case atStart => exact ⟨k,q,qs,b,rfl,HS,Q0,Q1,aM (fun hb => ⟨(Q2.out hb).1,(Q2.out hb).2.1,(Q2.out hb).2.2,by have:=H24.out;omega⟩),Q3⟩
 case round =>
  clear Q0 Q1 Q2 Q3 HS HX
  obtain ⟨k,q,qs,b,rfl,HS,Q0,Q1,Q2,Q3⟩:=hrel
  obtain ⟨V,hb⟩:=HS.out.blk
  obtain ⟨⟨h0,h1,h2,h3⟩,f0,f1,f2,f3⟩:=bC4 hb
  have HBS:=aM (show w0.heap.size ≤ wr.heap.size from by obtain ⟨_,_,_,_,_,hB⟩:=HS.out;exact hB.size)
  clear hb
  have hb3 : (0 : Int) ≤ (q : Int):=by omega
  have hb4 : (q : Int) + 2 ≤ 1000:=by have:=Q0.out;have:=H24.out;omega
  cases b with
  |true =>
   have QN:=aM (Q3.out rfl)
   clear Q2 Q3
   have HI42:=aM (show ∀ W,StT w0 W g s q qs true → Calls Try.prog 56 #[.pointer (some ⟨g,0,none⟩),.int .u8 42] W fun e w' => e = .returned (.bool false) ∧ ∃ n,w' = W.drewN n from fun W hW => by have:=sis g s q qs true 42 (by have:=H24.out;omega) Q0.out w0 W hW;rw [show isB s q true 42 = false from rfl] at this;exact this)
   have HI43:=aM (show ∀ W,StT w0 W g s q qs true → Calls Try.prog 56 #[.pointer (some ⟨g,0,none⟩),.int .u8 43] W fun e w' => e = .returned (.bool false) ∧ ∃ n,w' = W.drewN n from fun W hW => by have:=sis g s q qs true 43 (by have:=H24.out;omega) Q0.out w0 W hW;rw [show isB s q true 43 = false from rfl] at this;exact this)
   have HI63:=aM (show ∀ W,StT w0 W g s q qs true → Calls Try.prog 56 #[.pointer (some ⟨g,0,none⟩),.int .u8 63] W fun e w' => e = .returned (.bool false) ∧ ∃ n,w' = W.drewN n from fun W hW => by have:=sis g s q qs true 63 (by have:=H24.out;omega) Q0.out w0 W hW;rw [show isB s q true 63 = false from rfl] at this;exact this)
   go_wp2_with fail
   refine (HI42.out _ HS.out).mono ?_
   rintro e w' ⟨rfl,nd42,rfl⟩
   go_wp2_with fail
   refine (HI43.out _ (StT.drewN HS.out _)).mono ?_
   rintro e w' ⟨rfl,nd43,rfl⟩
   go_wp2_with fail
   refine (HI63.out _ (StT.drewN HS.out _)).mono ?_
   rintro e w' ⟨rfl,nd63,rfl⟩
   go_wp2
   go_ret
   exact PoT.no (StT.drewN HS.out _) Q0.out QN.out Q1.out
  |false =>
   have hq:=Q2.out rfl
   cases gk with
   |zero => exact absurd hq.2.2.2 (by omega)
   |succ n =>
    by_cases c42 : hdB (sf s q) 42 = true
    ·have hlt : q < s.size:=by have:=hd_pos c42;rw [sf_size] at this;omega
     have Q2':=aM (show pStar n qs.length (sf s (q + 1)) (qs ++ [⟨7,eb,[k]⟩]) = R ∧ s.size - q + 1 ≤ s.size - a ∧ qs.length + 2 * (s.size - q) + 1 ≤ ps.length + 2 * (s.size - a) ∧ s.size - q < n + 1 from ⟨by have:=hq.1;unfold pStar at this;rw [if_pos c42,sf_tl s q hlt] at this;exact this,hq.2⟩)
     have HLT:=aM hlt
     have v43:=sf_hd s q hlt 43;rw [hd_other c42 (show (42 : Int) ≠ 43 by decide)] at v43
     have v63:=sf_hd s q hlt 63;rw [hd_other c42 (show (42 : Int) ≠ 63 by decide)] at v63
     have HI42:=aM (show ∀ W,StT w0 W g s q qs false → Calls Try.prog 56 #[.pointer (some ⟨g,0,none⟩),.int .u8 42] W fun e w' => e = .returned (.bool true) ∧ ∃ n,w' = W.drewN n from fun W hW => by have:=sis g s q qs false 42 (by have:=H24.out;omega) Q0.out w0 W hW;rw [show isB s q false 42 = true from c42] at this;exact this)
     have hd2 : (q : Int) < (s.size : Int):=by omega
     clear hq Q2 Q3 c42 
     go_wp2_with fail
     refine (HI42.out _ HS.out).mono ?_
     rintro e w' ⟨rfl,nd42,rfl⟩
     go_wp2_with fail
     go_quiet (fail)
     go_wp2_with fail
     go_quiet (fail)
     go_wp2_with fail
     refine (sput g s (q + 1) qs 7 ⟨#[]⟩ (some ⟨wr.heap.size,0,none⟩) 1 [k] wr.heap.size w0 _ (StN.alloc (StN.of (StT.inc (StT.drewN HS.out _)) (by simp)) _) (R_kids _ wr.heap.size _ [k] (by simp) HBS.out (new_at (by simp))) (by have:=Q1.out;have:=HM.out;have:=HLT.out;have:=HA.out;omega)).mono ?_
     rintro e w3 ⟨rfl,hs3⟩
     have HS3:=aM hs3;clear hs3
     go_wp2_with fail
     go_roundg n
     case measure => omega
     case rel => exact ⟨_,q + 1,_,false,rfl,HS3,aM (by have:=HLT.out;omega),aM (by have:=Q2'.out.2.2.1;have:=HLT.out;rw [List.length_append,List.length_singleton];omega),aM (fun _ => ⟨Q2'.out.1,by have:=Q2'.out.2.1;have:=HLT.out;omega,by have:=Q2'.out.2.2.1;have:=HLT.out;rw [List.length_append,List.length_singleton];omega,by have:=Q2'.out.2.2.2;have:=HLT.out;omega⟩),aM (fun h => by cases h)⟩
    by_cases c43 : hdB (sf s q) 43 = true
    ·have hlt : q < s.size:=by have:=hd_pos c43;rw [sf_size] at this;omega
     have Q2':=aM (show pStar n qs.length (sf s (q + 1)) (qs ++ [⟨8,eb,[k]⟩]) = R ∧ s.size - q + 1 ≤ s.size - a ∧ qs.length + 2 * (s.size - q) + 1 ≤ ps.length + 2 * (s.size - a) ∧ s.size - q < n + 1 from ⟨by have:=hq.1;unfold pStar at this;rw [if_neg c42] at this;rw [if_pos c43,sf_tl s q hlt] at this;exact this,hq.2⟩)
     have HLT:=aM hlt
     have v43:=sf_hd s q hlt 43;rw [c43] at v43
     have v63:=sf_hd s q hlt 63;rw [hd_other c43 (show (43 : Int) ≠ 63 by decide)] at v63
     have HI42:=aM (show ∀ W,StT w0 W g s q qs false → Calls Try.prog 56 #[.pointer (some ⟨g,0,none⟩),.int .u8 42] W fun e w' => e = .returned (.bool false) ∧ ∃ n,w' = W.drewN n from fun W hW => by have:=sis g s q qs false 42 (by have:=H24.out;omega) Q0.out w0 W hW;rw [show isB s q false 42 = false from Bool.eq_false_iff.mpr c42] at this;exact this)
     have HI43:=aM (show ∀ W,StT w0 W g s q qs false → Calls Try.prog 56 #[.pointer (some ⟨g,0,none⟩),.int .u8 43] W fun e w' => e = .returned (.bool true) ∧ ∃ n,w' = W.drewN n from fun W hW => by have:=sis g s q qs false 43 (by have:=H24.out;omega) Q0.out w0 W hW;rw [show isB s q false 43 = true from c43] at this;exact this)
     have hd2 : (q : Int) < (s.size : Int):=by omega
     clear hq Q2 Q3 c43 c42
     go_wp2_with fail
     refine (HI42.out _ HS.out).mono ?_
     rintro e w' ⟨rfl,nd42,rfl⟩
     go_wp2_with fail
     refine (HI43.out _ (StT.drewN HS.out _)).mono ?_
     rintro e w' ⟨rfl,nd43,rfl⟩
     go_wp2_with fail
     go_quiet (fail)
     go_wp2_with fail
     go_quiet (fail)
     go_wp2_with fail
     refine (sput g s (q + 1) qs 8 ⟨#[]⟩ (some ⟨wr.heap.size,0,none⟩) 1 [k] wr.heap.size w0 _ (StN.alloc (StN.of (StT.inc (StT.drewN HS.out _)) (by simp)) _) (R_kids _ wr.heap.size _ [k] (by simp) HBS.out (new_at (by simp))) (by have:=Q1.out;have:=HM.out;have:=HLT.out;have:=HA.out;omega)).mono ?_
     rintro e w3 ⟨rfl,hs3⟩
     have HS3:=aM hs3;clear hs3
     go_wp2_with fail
     go_roundg n
     case measure => omega
     case rel => exact ⟨_,q + 1,_,false,rfl,HS3,aM (by have:=HLT.out;omega),aM (by have:=Q2'.out.2.2.1;have:=HLT.out;rw [List.length_append,List.length_singleton];omega),aM (fun _ => ⟨Q2'.out.1,by have:=Q2'.out.2.1;have:=HLT.out;omega,by have:=Q2'.out.2.2.1;have:=HLT.out;rw [List.length_append,List.length_singleton];omega,by have:=Q2'.out.2.2.2;have:=HLT.out;omega⟩),aM (fun h => by cases h)⟩
    by_cases c63 : hdB (sf s q) 63 = true
    ·have hlt : q < s.size:=by have:=hd_pos c63;rw [sf_size] at this;omega
     have Q2':=aM (show pStar n qs.length (sf s (q + 1)) (qs ++ [⟨9,eb,[k]⟩]) = R ∧ s.size - q + 1 ≤ s.size - a ∧ qs.length + 2 * (s.size - q) + 1 ≤ ps.length + 2 * (s.size - a) ∧ s.size - q < n + 1 from ⟨by have:=hq.1;unfold pStar at this;rw [if_neg c42] at this;rw [if_neg c43] at this;rw [if_pos c63,sf_tl s q hlt] at this;exact this,hq.2⟩)
     have HLT:=aM hlt
     have v43:=sf_hd s q hlt 43;rw [Bool.eq_false_iff.mpr c43] at v43
     have v63:=sf_hd s q hlt 63;rw [c63] at v63
     have HI42:=aM (show ∀ W,StT w0 W g s q qs false → Calls Try.prog 56 #[.pointer (some ⟨g,0,none⟩),.int .u8 42] W fun e w' => e = .returned (.bool false) ∧ ∃ n,w' = W.drewN n from fun W hW => by have:=sis g s q qs false 42 (by have:=H24.out;omega) Q0.out w0 W hW;rw [show isB s q false 42 = false from Bool.eq_false_iff.mpr c42] at this;exact this)
     have HI43:=aM (show ∀ W,StT w0 W g s q qs false → Calls Try.prog 56 #[.pointer (some ⟨g,0,none⟩),.int .u8 43] W fun e w' => e = .returned (.bool false) ∧ ∃ n,w' = W.drewN n from fun W hW => by have:=sis g s q qs false 43 (by have:=H24.out;omega) Q0.out w0 W hW;rw [show isB s q false 43 = false from Bool.eq_false_iff.mpr c43] at this;exact this)
     have HI63:=aM (show ∀ W,StT w0 W g s q qs false → Calls Try.prog 56 #[.pointer (some ⟨g,0,none⟩),.int .u8 63] W fun e w' => e = .returned (.bool true) ∧ ∃ n,w' = W.drewN n from fun W hW => by have:=sis g s q qs false 63 (by have:=H24.out;omega) Q0.out w0 W hW;rw [show isB s q false 63 = true from c63] at this;exact this)
     have hd2 : (q : Int) < (s.size : Int):=by omega
     clear hq Q2 Q3 c63 c42 c43
     go_wp2_with fail
     refine (HI42.out _ HS.out).mono ?_
     rintro e w' ⟨rfl,nd42,rfl⟩
     go_wp2_with fail
     refine (HI43.out _ (StT.drewN HS.out _)).mono ?_
     rintro e w' ⟨rfl,nd43,rfl⟩
     go_wp2_with fail
     refine (HI63.out _ (StT.drewN HS.out _)).mono ?_
     rintro e w' ⟨rfl,nd63,rfl⟩
     go_wp2_with fail
     go_quiet (fail)
     go_wp2_with fail
     go_quiet (fail)
     go_wp2_with fail
     refine (sput g s (q + 1) qs 9 ⟨#[]⟩ (some ⟨wr.heap.size,0,none⟩) 1 [k] wr.heap.size w0 _ (StN.alloc (StN.of (StT.inc (StT.drewN HS.out _)) (by simp)) _) (R_kids _ wr.heap.size _ [k] (by simp) HBS.out (new_at (by simp))) (by have:=Q1.out;have:=HM.out;have:=HLT.out;have:=HA.out;omega)).mono ?_
     rintro e w3 ⟨rfl,hs3⟩
     have HS3:=aM hs3;clear hs3
     go_wp2_with fail
     go_roundg n
     case measure => omega
     case rel => exact ⟨_,q + 1,_,false,rfl,HS3,aM (by have:=HLT.out;omega),aM (by have:=Q2'.out.2.2.1;have:=HLT.out;rw [List.length_append,List.length_singleton];omega),aM (fun _ => ⟨Q2'.out.1,by have:=Q2'.out.2.1;have:=HLT.out;omega,by have:=Q2'.out.2.2.1;have:=HLT.out;rw [List.length_append,List.length_singleton];omega,by have:=Q2'.out.2.2.2;have:=HLT.out;omega⟩),aM (fun h => by cases h)⟩
    have Q2':=aM (show R = some (k,sf s q,qs) ∧ s.size - q + 1 ≤ s.size - a ∧ qs.length + 2 * (s.size - q) + 1 ≤ ps.length + 2 * (s.size - a) from ⟨by have:=hq.1;unfold pStar at this;rw [if_neg c42,if_neg c43,if_neg c63] at this;exact this.symm,hq.2.1,hq.2.2.1⟩)
    have HI42:=aM (show ∀ W,StT w0 W g s q qs false → Calls Try.prog 56 #[.pointer (some ⟨g,0,none⟩),.int .u8 42] W fun e w' => e = .returned (.bool false) ∧ ∃ n,w' = W.drewN n from fun W hW => by have:=sis g s q qs false 42 (by have:=H24.out;omega) Q0.out w0 W hW;rw [show isB s q false 42 = false from Bool.eq_false_iff.mpr c42] at this;exact this)
    have HI43:=aM (show ∀ W,StT w0 W g s q qs false → Calls Try.prog 56 #[.pointer (some ⟨g,0,none⟩),.int .u8 43] W fun e w' => e = .returned (.bool false) ∧ ∃ n,w' = W.drewN n from fun W hW => by have:=sis g s q qs false 43 (by have:=H24.out;omega) Q0.out w0 W hW;rw [show isB s q false 43 = false from Bool.eq_false_iff.mpr c43] at this;exact this)
    have HI63:=aM (show ∀ W,StT w0 W g s q qs false → Calls Try.prog 56 #[.pointer (some ⟨g,0,none⟩),.int .u8 63] W fun e w' => e = .returned (.bool false) ∧ ∃ n,w' = W.drewN n from fun W hW => by have:=sis g s q qs false 63 (by have:=H24.out;omega) Q0.out w0 W hW;rw [show isB s q false 63 = false from Bool.eq_false_iff.mpr c63] at this;exact this)
    clear hq c42 c43 c63 Q2 Q3
    go_wp2_with fail
    refine (HI42.out _ HS.out).mono ?_
    rintro e w' ⟨rfl,nd42,rfl⟩
    go_wp2_with fail
    refine (HI43.out _ (StT.drewN HS.out _)).mono ?_
    rintro e w' ⟨rfl,nd43,rfl⟩
    go_wp2_with fail
    refine (HI63.out _ (StT.drewN HS.out _)).mono ?_
    rintro e w' ⟨rfl,nd63,rfl⟩
    go_wp2
    go_ret
    exact PoT.ok (StT.drewN HS.out _) Q0.out Q2'.out.1 Q2'.out.2.1 Q2'.out.2.2
set_option maxHeartbeats 4000000 in
set_option maxRecDepth 100000 in
theorem srow_stop (alt : ByteArray → List S85 → PR) (g : Nat) (s : ByteArray) (a : Nat) (ps : List S85) (w0 w : World) (h : StT w0 w g s a ps false) (ha : a ≤ s.size) (h24 : s.size ≤ 24) (hM : ps.length + 2 * (s.size - a) ≤ 55) (hst : stopB (sf s a) = true) :
  Calls Try.prog 55 #[.pointer (some ⟨g,0,none⟩)] w (PoT w0 g s (pRow alt (sf s a) ps) (ps.length + 2 * (s.size - a) + 1) (s.size - a) 0):=by
 have HR:=aM (show pRow alt (sf s a) ps = some ((ps.length : Int),sf s a,ps ++ [⟨12,eb,[]⟩]) by unfold pRow;rw [if_pos hst])
 have HM:=aM hM;have HS:=aM h;have HA:=aM ha;have H24:=aM h24
 obtain ⟨V,hb⟩:=h.blk
 obtain ⟨⟨h0,h1,h2,h3⟩,f0,f1,f2,f3⟩:=bC4 hb
 clear h hM ha hb h24
 have hcs:=stops (sf s a)
 cases hcs with
 |z hz =>
  have hge : ¬ a < s.size:=by rw [sf_size] at hz;omega
  have hg1 : decide ((s.size : Int) ≤ (a : Int)) = true:=decide_eq_true (by omega)
  have hg4 : decide (s.size ≤ a) = true:=decide_eq_true (by omega)
  have hg2 : (s.size : Int) ≤ (a : Int):=by omega
  have hg5 : decide ((a : Int) < (s.size : Int)) = false:=decide_eq_false (by omega)
  have hg6 : decide (a < s.size) = false:=decide_eq_false (by omega)
  clear hz hge
  clear hst
  go_enter Try.func55,Try.ntmps55
  go_wp2_with fail
  go_quiet (fail)
  go_wp2_with fail
  refine (sput g s a ps 12 ⟨#[]⟩ none 0 [] _ w0 _ (StT.n (StT.drewN HS.out _)) (Kd.R_nil _ _ _ _ _) (by have:=HM.out;omega)).mono ?_
  rintro e w3 ⟨rfl,hs4⟩
  have HS3:=aM hs4;clear hs4
  go_wp2
  go_ret
  exact PoT.ok HS3.out HA.out HR.out (by omega) (by rw [List.length_append,List.length_singleton];omega)
 |b hz h1_ =>
  have hlt : a < s.size:=by rw [sf_size] at hz;omega
  have hg1 : decide ((s.size : Int) ≤ (a : Int)) = false:=decide_eq_false (by omega)
  have hg4 : decide (s.size ≤ a) = false:=decide_eq_false (by omega)
  have hg2 : ¬ ((s.size : Int) ≤ (a : Int)):=by omega
  have hg5 : decide ((a : Int) < (s.size : Int)) = true:=decide_eq_true (by omega)
  have hg6 : decide (a < s.size) = true:=decide_eq_true (by omega)
  have hg7 : (a : Int) < (s.size : Int):=by omega
  have hg8 : (0 : Int) ≤ (a : Int):=by omega
  have v124:=sf_hd s a hlt 124;rw [h1_] at v124
  clear hz h1_
  clear hst
  go_enter Try.func55,Try.ntmps55
  go_wp2_with fail
  go_quiet (fail)
  go_wp2_with fail
  refine (sput g s a ps 12 ⟨#[]⟩ none 0 [] _ w0 _ (StT.n (StT.drewN HS.out _)) (Kd.R_nil _ _ _ _ _) (by have:=HM.out;omega)).mono ?_
  rintro e w3 ⟨rfl,hs4⟩
  have HS3:=aM hs4;clear hs4
  go_wp2
  go_ret
  exact PoT.ok HS3.out HA.out HR.out (by omega) (by rw [List.length_append,List.length_singleton];omega)
 |r hz h1_ h2_ =>
  have hlt : a < s.size:=by rw [sf_size] at hz;omega
  have hg1 : decide ((s.size : Int) ≤ (a : Int)) = false:=decide_eq_false (by omega)
  have hg4 : decide (s.size ≤ a) = false:=decide_eq_false (by omega)
  have hg2 : ¬ ((s.size : Int) ≤ (a : Int)):=by omega
  have hg5 : decide ((a : Int) < (s.size : Int)) = true:=decide_eq_true (by omega)
  have hg6 : decide (a < s.size) = true:=decide_eq_true (by omega)
  have hg7 : (a : Int) < (s.size : Int):=by omega
  have hg8 : (0 : Int) ≤ (a : Int):=by omega
  have v124:=sf_hd s a hlt 124;rw [h1_] at v124
  have v41:=sf_hd s a hlt 41;rw [h2_] at v41
  clear hz h1_ h2_
  clear hst
  go_enter Try.func55,Try.ntmps55
  go_wp2_with fail
  go_quiet (fail)
  go_wp2_with fail
  refine (sput g s a ps 12 ⟨#[]⟩ none 0 [] _ w0 _ (StT.n (StT.drewN HS.out _)) (Kd.R_nil _ _ _ _ _) (by have:=HM.out;omega)).mono ?_
  rintro e w3 ⟨rfl,hs4⟩
  have HS3:=aM hs4;clear hs4
  go_wp2
  go_ret
  exact PoT.ok HS3.out HA.out HR.out (by omega) (by rw [List.length_append,List.length_singleton];omega)
 |n hz h1_ h2_ => exact absurd (hst.symm.trans (stop_n hz h1_ h2_)) (by decide)
set_option maxHeartbeats 4000000 in
set_option maxRecDepth 100000 in
theorem srow_go (alt : ByteArray → List S85 → PR) (d : Nat) (H : AltT alt d) (g : Nat) (s : ByteArray) (a : Nat) (ps : List S85) (w0 w : World) (h : StT w0 w g s a ps false) (ha : a ≤ s.size) (h24 : s.size ≤ 24) (hM : ps.length + 2 * (s.size - a) ≤ 55) (hD : s.size - a < d + 1) (hz : ¬ (sf s a).size = 0) (h1_ : hdB (sf s a) 124 = false) (h2_ : hdB (sf s a) 41 = false) :
  Calls Try.prog 55 #[.pointer (some ⟨g,0,none⟩)] w (PoT w0 g s (pRow alt (sf s a) ps) (ps.length + 2 * (s.size - a) + 1) (s.size - a) 0):=by
 have hst:=stop_n hz h1_ h2_
 have HX:=aM (fun W hW => smany alt d H g s a ps w0 W hW ha h24 hM hD)
 have HH:=aM H;have HM:=aM hM;have HD:=aM hD;have HS:=aM h;have H24:=aM h24;have HA:=aM ha
 obtain ⟨R,hR⟩ : ∃ R,pRow alt (sf s a) ps = R:=⟨_,rfl⟩
 have HR:=aM (show (pThing alt (sf s a) ps).bind (fun x => pRowL alt 50 x.1 x.2.1 x.2.2) = R by rw [← hR];unfold pRow;rw [if_neg (by rw [hst];decide)])
 rw [hR]
 clear hR hst
 have hlt : a < s.size:=by rw [sf_size] at hz;omega
 have hg1 : decide ((s.size : Int) ≤ (a : Int)) = false:=decide_eq_false (by omega)
 have hg4 : decide (s.size ≤ a) = false:=decide_eq_false (by omega)
 have hg2 : ¬ ((s.size : Int) ≤ (a : Int)):=by omega
 have hg5 : decide ((a : Int) < (s.size : Int)) = true:=decide_eq_true (by omega)
 have hg6 : decide (a < s.size) = true:=decide_eq_true (by omega)
 have hg7 : (a : Int) < (s.size : Int):=by omega
 have hg8 : (0 : Int) ≤ (a : Int):=by omega
 have v124:=sf_hd s a hlt 124;rw [h1_] at v124
 have v41:=sf_hd s a hlt 41;rw [h2_] at v41
 obtain ⟨V,hb⟩:=h.blk
 obtain ⟨⟨h0,h1,h2,h3⟩,f0,f1,f2,f3⟩:=bC4 hb
 clear h hM hb H hD hz h1_ h2_ ha h24
 go_enter Try.func55,Try.ntmps55
 go_wp2_with fail
 go_quiet (fail)
 go_wp2_with fail
 refine (HX.out _ (StT.drewN HS.out _)).mono ?_
 rintro e w1 ⟨k,q,qs,b,rfl,hs,q0,q1,q2,q3⟩
 have HS1:=aM hs;have Q0:=aM q0;have Q1:=aM q1
 have Q2:=aM (show b = false → pRowL alt 50 k (sf s q) qs = R ∧ s.size - q + 1 ≤ s.size - a ∧ qs.length + 2 * (s.size - q) + 1 ≤ ps.length + 2 * (s.size - a) from fun hb => by
  have h2:=q2 hb
  exact ⟨by rw [← HR.out,h2.1,Option.bind_some],h2.2⟩)
 have Q3:=aM (show b = true → R = none from fun hb => by rw [← HR.out,q3 hb];rfl)
 go_wp2_with fail
 go_loopg [3] 50 (fun n at_ w' => ∃ (k : Int) (q : Nat) (qs : List S85) (b : Bool),at_ = .int .i64 k ∧ Aside0 (StT w0 w' g s q qs b) ∧ Aside0 (q ≤ s.size) ∧ Aside0 (qs.length + 2 * (s.size - q) ≤ ps.length + 2 * (s.size - a) + 1) ∧ Aside0 (b = false → pRowL alt n k (sf s q) qs = R ∧ s.size - q + 1 ≤ s.size - a ∧ qs.length + 2 * (s.size - q) + 1 ≤ ps.length + 2 * (s.size - a) ∧ s.size - q < n) ∧ Aside0 (b = true → R = none))
 case atStart => exact ⟨k,q,qs,b,rfl,HS1,Q0,aM (by have:=Q1.out;omega),aM (fun hb => ⟨(Q2.out hb).1,(Q2.out hb).2.1,(Q2.out hb).2.2,by have:=H24.out;omega⟩),Q3⟩
 case round =>
  clear Q0 Q1 Q2 Q3 HS1 HS HX hs q0 q1 q2 q3
  obtain ⟨k,q,qs,b,rfl,HS,Q0,Q1,Q2,Q3⟩:=hrel
  obtain ⟨V,hb⟩:=HS.out.blk
  obtain ⟨⟨h0,h1,h2,h3⟩,f0,f1,f2,f3⟩:=bC4 hb
  clear hb
  cases b with
  |true =>
   have QN:=aM (Q3.out rfl)
   clear Q2 Q3
   go_wp2_with fail
   go_quiet (fail)
   go_wp2
   go_ret
   exact PoT.no (StT.drewN HS.out _) Q0.out QN.out Q1.out
  |false =>
   have hq:=Q2.out rfl
   cases gk with
   |zero => exact absurd hq.2.2.2 (by omega)
   |succ n =>
    have hcs:=stops (sf s q)
    cases hcs with
    |z hz =>
     have Q2':=aM (show R = some (k,sf s q,qs) ∧ s.size - q + 1 ≤ s.size - a ∧ qs.length + 2 * (s.size - q) + 1 ≤ ps.length + 2 * (s.size - a) from ⟨by have:=hq.1;unfold pRowL at this;rw [if_pos (stop_z hz)] at this;exact this.symm,hq.2.1,hq.2.2.1⟩)
     have hge : ¬ q < s.size:=by rw [sf_size] at hz;omega
     have hg1 : decide ((s.size : Int) ≤ (q : Int)) = true:=decide_eq_true (by omega)
     have hg4 : decide (s.size ≤ q) = true:=decide_eq_true (by omega)
     have hg2 : (s.size : Int) ≤ (q : Int):=by omega
     have hg5 : decide ((q : Int) < (s.size : Int)) = false:=decide_eq_false (by omega)
     have hg6 : decide (q < s.size) = false:=decide_eq_false (by omega)
     clear hz hge hq Q2 Q3
     go_wp2_with fail
     go_quiet (fail)
     go_wp2
     go_ret
     exact PoT.ok (StT.drewN HS.out _) Q0.out Q2'.out.1 (by have:=Q2'.out.2.1;omega) (by have:=Q2'.out.2.2;omega)
    |b hz h1_ =>
     have Q2':=aM (show R = some (k,sf s q,qs) ∧ s.size - q + 1 ≤ s.size - a ∧ qs.length + 2 * (s.size - q) + 1 ≤ ps.length + 2 * (s.size - a) from ⟨by have:=hq.1;unfold pRowL at this;rw [if_pos (stop_b h1_)] at this;exact this.symm,hq.2.1,hq.2.2.1⟩)
     have hlt : q < s.size:=by rw [sf_size] at hz;omega
     have hg1 : decide ((s.size : Int) ≤ (q : Int)) = false:=decide_eq_false (by omega)
     have hg4 : decide (s.size ≤ q) = false:=decide_eq_false (by omega)
     have hg2 : ¬ ((s.size : Int) ≤ (q : Int)):=by omega
     have hg5 : decide ((q : Int) < (s.size : Int)) = true:=decide_eq_true (by omega)
     have hg6 : decide (q < s.size) = true:=decide_eq_true (by omega)
     have hg7 : (q : Int) < (s.size : Int):=by omega
     have hg8 : (0 : Int) ≤ (q : Int):=by omega
     have v124:=sf_hd s q hlt 124;rw [h1_] at v124
     have u124 : ((((s[q]'hlt).toNat : Nat) : Int) != 124) = false:=by unfold bne;rw [v124];rfl
     clear hz h1_ hq Q2 Q3
     go_wp2_with fail
     go_quiet (fail)
     go_wp2
     go_ret
     exact PoT.ok (StT.drewN HS.out _) Q0.out Q2'.out.1 (by have:=Q2'.out.2.1;omega) (by have:=Q2'.out.2.2;omega)
    |r hz h1_ h2_ =>
     have Q2':=aM (show R = some (k,sf s q,qs) ∧ s.size - q + 1 ≤ s.size - a ∧ qs.length + 2 * (s.size - q) + 1 ≤ ps.length + 2 * (s.size - a) from ⟨by have:=hq.1;unfold pRowL at this;rw [if_pos (stop_r h2_)] at this;exact this.symm,hq.2.1,hq.2.2.1⟩)
     have hlt : q < s.size:=by rw [sf_size] at hz;omega
     have hg1 : decide ((s.size : Int) ≤ (q : Int)) = false:=decide_eq_false (by omega)
     have hg4 : decide (s.size ≤ q) = false:=decide_eq_false (by omega)
     have hg2 : ¬ ((s.size : Int) ≤ (q : Int)):=by omega
     have hg5 : decide ((q : Int) < (s.size : Int)) = true:=decide_eq_true (by omega)
     have hg6 : decide (q < s.size) = true:=decide_eq_true (by omega)
     have hg7 : (q : Int) < (s.size : Int):=by omega
     have hg8 : (0 : Int) ≤ (q : Int):=by omega
     have v124:=sf_hd s q hlt 124;rw [h1_] at v124
     have v41:=sf_hd s q hlt 41;rw [h2_] at v41
     have u124 : ((((s[q]'hlt).toNat : Nat) : Int) != 124) = true:=by unfold bne;rw [v124];rfl
     have u41 : ((((s[q]'hlt).toNat : Nat) : Int) != 41) = false:=by unfold bne;rw [v41];rfl
     clear hz h1_ h2_ hq Q2 Q3
     go_wp2_with fail
     go_quiet (fail)
     go_wp2
     go_ret
     exact PoT.ok (StT.drewN HS.out _) Q0.out Q2'.out.1 (by have:=Q2'.out.2.1;omega) (by have:=Q2'.out.2.2;omega)
    |n hz h1_ h2_ =>
     have Q2':=aM (show (pThing alt (sf s q) qs).bind (fun x => pRowL alt n x.2.2.length x.2.1 (x.2.2 ++ [⟨5,eb,[k,x.1]⟩])) = R ∧ s.size - q + 1 ≤ s.size - a ∧ qs.length + 2 * (s.size - q) + 1 ≤ ps.length + 2 * (s.size - a) ∧ s.size - q < n + 1 from ⟨by have:=hq.1;unfold pRowL at this;rw [if_neg (by rw [stop_n hz h1_ h2_];decide)] at this;exact this,hq.2⟩)
     have hlt : q < s.size:=by rw [sf_size] at hz;omega
     have hg1 : decide ((s.size : Int) ≤ (q : Int)) = false:=decide_eq_false (by omega)
     have hg4 : decide (s.size ≤ q) = false:=decide_eq_false (by omega)
     have hg2 : ¬ ((s.size : Int) ≤ (q : Int)):=by omega
     have hg5 : decide ((q : Int) < (s.size : Int)) = true:=decide_eq_true (by omega)
     have hg6 : decide (q < s.size) = true:=decide_eq_true (by omega)
     have hg7 : (q : Int) < (s.size : Int):=by omega
     have hg8 : (0 : Int) ≤ (q : Int):=by omega
     have v124:=sf_hd s q hlt 124;rw [h1_] at v124
     have v41:=sf_hd s q hlt 41;rw [h2_] at v41
     have u124 : ((((s[q]'hlt).toNat : Nat) : Int) != 124) = true:=by unfold bne;rw [v124];rfl
     have u41 : ((((s[q]'hlt).toNat : Nat) : Int) != 41) = true:=by unfold bne;rw [v41];rfl
     clear hz h1_ h2_ hq Q2 Q3
     go_wp2_with fail
     go_quiet (fail)
     go_wp2_with fail
     refine (smany alt d HH.out g s q qs w0 _ (StT.drewN HS.out _) Q0.out H24.out (by have:=Q2'.out.2.2.1;have:=HM.out;omega) (by have:=Q2'.out.2.1;have:=HD.out;omega)).mono ?_
     rintro e w2 ⟨j,v,rs,b,rfl,hs,q0,q1,q2,q3⟩
     have HS2:=aM hs;have P0:=aM q0;have P1:=aM q1;have P2:=aM q2;have P3:=aM q3
     clear hs q0 q1 q2 q3 h0 h1 h2 h3 f0 f1 f2 f3
     have HBS:=aM (show w0.heap.size ≤ w2.heap.size from by obtain ⟨_,_,_,_,_,hB⟩:=HS2.out;exact hB.size)
     go_wp2_with fail
     refine (sputb g s v rs b 5 ⟨#[]⟩ (some ⟨w2.heap.size,0,none⟩) 2 [k,j] w2.heap.size w0 _ (StN.alloc (StN.of HS2.out rfl) _) (R_kids _ w2.heap.size _ [k,j] (by simp) HBS.out (new_at rfl)) (by have:=P1.out;have:=Q2'.out.2.2.1;have:=HM.out;omega)).mono ?_
     rintro e w3 ⟨rfl,hs3⟩
     have HS3:=aM hs3;clear hs3
     go_wp2_with fail
     go_roundg n
     case measure => omega
     case rel =>
      refine ⟨_,v,_,b,rfl,HS3,P0,aM (by have:=P1.out;have:=Q2'.out.2.2.1;rw [List.length_append,List.length_singleton];omega),aM (fun hb => ⟨?_,by have:=(P2.out hb).2.1;have:=Q2'.out.2.1;omega,by have:=(P2.out hb).2.2;have:=Q2'.out.2.2.1;rw [List.length_append,List.length_singleton];omega,by have:=(P2.out hb).2.1;have:=Q2'.out.2.2.2;omega⟩),aM (fun hb => ?_)⟩
      ·have:=Q2'.out.1
       rw [(P2.out hb).1,Option.bind_some] at this
       exact this
      ·have:=Q2'.out.1
       rw [P3.out hb] at this
       exact this.symm
theorem srow (alt : ByteArray → List S85 → PR) (d : Nat) (H : AltT alt d) (g : Nat) (s : ByteArray) (a : Nat) (ps : List S85) (w0 w : World) (h : StT w0 w g s a ps false) (ha : a ≤ s.size) (h24 : s.size ≤ 24) (hM : ps.length + 2 * (s.size - a) ≤ 55) (hD : s.size - a < d + 1) :
  Calls Try.prog 55 #[.pointer (some ⟨g,0,none⟩)] w (PoT w0 g s (pRow alt (sf s a) ps) (ps.length + 2 * (s.size - a) + 1) (s.size - a) 0):=by
 have hcs:=stops (sf s a)
 cases hcs with
 |z hz => exact srow_stop alt g s a ps w0 w h ha h24 hM (stop_z hz)
 |b hz h1 => exact srow_stop alt g s a ps w0 w h ha h24 hM (stop_b h1)
 |r hz h1 h2 => exact srow_stop alt g s a ps w0 w h ha h24 hM (stop_r h2)
 |n hz h1 h2 => exact srow_go alt d H g s a ps w0 w h ha h24 hM hD hz h1 h2
set_option maxHeartbeats 4000000 in
set_option maxRecDepth 100000 in
theorem salt (d : Nat) (H : AltT (pAlt d) d) : AltT (pAlt (d + 1)) (d + 1):=by
 intro g s w0 w a ps h ha h24 hD hM
 have HX:=aM (srow (pAlt d) d H g s a ps w0 w h ha h24 hM hD)
 have HH:=aM H;have HM:=aM hM;have HD:=aM hD;have H24:=aM h24;have HA:=aM ha
 obtain ⟨R,hR⟩ : ∃ R,pAlt (d + 1) (sf s a) ps = R:=⟨_,rfl⟩
 have HR:=aM (show (pRow (pAlt d) (sf s a) ps).bind (fun x => pAltL (pAlt d) 50 x.1 x.2.1 x.2.2) = R by rw [← hR];rfl)
 rw [hR]
 clear hR h hM H hD h24 ha
 go_enter Try.func37,Try.ntmps37
 go_wp2_with fail
 refine HX.out.mono ?_
 rintro e w1 ⟨k,q,qs,b,rfl,hs,q0,q1,q2,q3⟩
 have HS1:=aM hs;have Q0:=aM q0;have Q1:=aM q1
 have Q2:=aM (show b = false → pAltL (pAlt d) 50 k (sf s q) qs = R ∧ s.size - q ≤ s.size - a from fun hb => by
  have h2:=q2 hb
  exact ⟨by rw [← HR.out,h2.1,Option.bind_some],h2.2.1⟩)
 have Q3:=aM (show b = true → R = none from fun hb => by rw [← HR.out,q3 hb];rfl)
 clear hs q0 q1 q2 q3 HX
 go_wp2_with fail
 go_loopg [3] 50 (fun n at_ w' => ∃ (k : Int) (q : Nat) (qs : List S85) (b : Bool),at_ = .int .i64 k ∧ Aside0 (StT w0 w' g s q qs b) ∧ Aside0 (q ≤ s.size) ∧ Aside0 (qs.length + 2 * (s.size - q) ≤ ps.length + 2 * (s.size - a) + 1) ∧ Aside0 (b = false → pAltL (pAlt d) n k (sf s q) qs = R ∧ s.size - q ≤ s.size - a ∧ s.size - q < n) ∧ Aside0 (b = true → R = none))
 case atStart => exact ⟨k,q,qs,b,rfl,HS1,Q0,Q1,aM (fun hb => ⟨(Q2.out hb).1,(Q2.out hb).2,by have:=H24.out;omega⟩),Q3⟩
 case round =>
  clear Q0 Q1 Q2 Q3 HS1
  obtain ⟨k,q,qs,b,rfl,HS,Q0,Q1,Q2,Q3⟩:=hrel
  obtain ⟨V,hb⟩:=HS.out.blk
  obtain ⟨⟨h0,h1,h2,h3⟩,f0,f1,f2,f3⟩:=bC4 hb
  clear hb
  cases b with
  |true =>
   have QN:=aM (Q3.out rfl)
   clear Q2 Q3
   have HI:=aM (show ∀ W,StT w0 W g s q qs true → Calls Try.prog 56 #[.pointer (some ⟨g,0,none⟩),.int .u8 124] W fun e w' => e = .returned (.bool false) ∧ ∃ n,w' = W.drewN n from fun W hW => by have:=sis g s q qs true 124 (by have:=H24.out;omega) Q0.out w0 W hW;rw [show isB s q true 124 = false from rfl] at this;exact this)
   go_wp2_with fail
   refine (HI.out _ HS.out).mono ?_
   rintro e w' ⟨rfl,nd,rfl⟩
   go_wp2
   go_ret
   exact PoT.no (StT.drewN HS.out _) Q0.out QN.out Q1.out
  |false =>
   have hq:=Q2.out rfl
   cases gk with
   |zero => exact absurd hq.2.2 (by omega)
   |succ n =>
    by_cases c : hdB (sf s q) 124 = true
    ·have hlt : q < s.size:=by have:=hd_pos c;rw [sf_size] at this;omega
     have HLT:=aM hlt
     have hb3 : (0 : Int) ≤ (q : Int):=by omega
     have hb4 : (q : Int) + 2 ≤ 1000:=by have:=Q0.out;have:=H24.out;omega
     have Q2':=aM (show (pRow (pAlt d) (sf s (q + 1)) qs).bind (fun x => pAltL (pAlt d) n x.2.2.length x.2.1 (x.2.2 ++ [⟨6,eb,[k,x.1]⟩])) = R ∧ s.size - q ≤ s.size - a ∧ s.size - q < n + 1 from ⟨by have:=hq.1;unfold pAltL at this;rw [if_pos c,sf_tl s q hlt] at this;exact this,hq.2⟩)
     have HI:=aM (show ∀ W,StT w0 W g s q qs false → Calls Try.prog 56 #[.pointer (some ⟨g,0,none⟩),.int .u8 124] W fun e w' => e = .returned (.bool true) ∧ ∃ n,w' = W.drewN n from fun W hW => by have:=sis g s q qs false 124 (by have:=H24.out;omega) Q0.out w0 W hW;rw [show isB s q false 124 = true from c] at this;exact this)
     clear hq c Q2 Q3 hlt
     go_wp2_with fail
     refine (HI.out _ HS.out).mono ?_
     rintro e w' ⟨rfl,nd,rfl⟩
     go_wp2_with fail
     refine (srow (pAlt d) d HH.out g s (q + 1) qs w0 _ (StT.inc (StT.drewN HS.out _)) HLT.out H24.out (by have:=Q1.out;have:=HLT.out;have:=HM.out;omega) (by have:=Q2'.out.2.1;have:=HD.out;have:=HLT.out;omega)).mono ?_
     rintro e w3 ⟨j,v,rs,b,rfl,hs,q0,q1,q2,q3⟩
     have HS3:=aM hs;have P0:=aM q0;have P1:=aM q1;have P2:=aM q2;have P3:=aM q3
     clear hs q0 q1 q2 q3
     have HBS:=aM (show w0.heap.size ≤ w3.heap.size from by obtain ⟨_,_,_,_,_,hB⟩:=HS3.out;exact hB.size)
     go_wp2_with fail
     refine (sputb g s v rs b 6 ⟨#[]⟩ (some ⟨w3.heap.size,0,none⟩) 2 [k,j] w3.heap.size w0 _ (StN.alloc (StN.of HS3.out rfl) _) (R_kids _ w3.heap.size _ [k,j] (by simp) HBS.out (new_at rfl)) (by have:=P1.out;have:=Q1.out;have:=HLT.out;have:=HM.out;omega)).mono ?_
     rintro e w4 ⟨rfl,hs4⟩
     have HS4:=aM hs4;clear hs4
     go_wp2_with fail
     go_roundg n
     case measure => omega
     case rel =>
      refine ⟨_,v,_,b,rfl,HS4,P0,aM (by have:=P1.out;have:=Q1.out;have:=HLT.out;rw [List.length_append,List.length_singleton];omega),aM (fun hb => ⟨?_,by have:=(P2.out hb).2.1;have:=Q2'.out.2.1;have:=HLT.out;omega,by have:=(P2.out hb).2.1;have:=Q2'.out.2.2;have:=HLT.out;omega⟩),aM (fun hb => ?_)⟩
      ·have:=Q2'.out.1
       rw [(P2.out hb).1,Option.bind_some] at this
       exact this
      ·have:=Q2'.out.1
       rw [P3.out hb] at this
       exact this.symm
    ·have Q2':=aM (show R = some (k,sf s q,qs) ∧ s.size - q ≤ s.size - a from ⟨by have:=hq.1;unfold pAltL at this;rw [if_neg c] at this;exact this.symm,hq.2.1⟩)
     have HI:=aM (show ∀ W,StT w0 W g s q qs false → Calls Try.prog 56 #[.pointer (some ⟨g,0,none⟩),.int .u8 124] W fun e w' => e = .returned (.bool false) ∧ ∃ n,w' = W.drewN n from fun W hW => by have:=sis g s q qs false 124 (by have:=H24.out;omega) Q0.out w0 W hW;rw [show isB s q false 124 = false from Bool.eq_false_iff.mpr c] at this;exact this)
     clear hq c Q2 Q3
     go_wp2_with fail
     refine (HI.out _ HS.out).mono ?_
     rintro e w' ⟨rfl,nd,rfl⟩
     go_wp2
     go_ret
     exact PoT.ok (StT.drewN HS.out _) Q0.out Q2'.out.1 (by have:=Q2'.out.2;omega) (by have:=Q1.out;omega)
theorem salt_all : ∀ d,AltT (pAlt d) d
 |0 => fun _ _ _ _ _ _ _ _ _ h => absurd h (Nat.not_lt_zero _)
 |d + 1 => salt d (salt_all d)
theorem sf_zero (s : ByteArray) : sf s 0 = s:=by unfold sf;simp
set_option maxHeartbeats 4000000 in
set_option maxRecDepth 100000 in
theorem sread_out (s : ByteArray) (hs : ¬ (1 ≤ s.size ∧ s.size ≤ 24)) (w : World) :
  Calls Try.prog 18 #[.string s] w (PoRead w (pRead s)):=by
 have hr : pRead s = none:=by unfold pRead;rw [if_neg hs]
 have hwi : spec_l01In.f s.size 1 24 = some false:=by
  unfold spec_l01In.f
  by_cases c : (s.size : Int) ≥ 1
  ·first|rw [if_pos (by omega),decide_eq_false (by omega)]|(simp;omega)
  ·first|rw [if_neg (by omega)]|(simp;omega)
 have HR:=aM hr;have HW:=aM hwi
 clear hr hwi hs
 go_enter Try.func18,Try.ntmps18
 go_wp2_with (go_at_call 33;refine (spec_l01In.calls _ _ _ false _ HW.out).mono ?_;rintro e w' ⟨rfl,⟨nd,rfl⟩⟩)
 refine bodyPost_ret (v:=.tuple #[.agg #[.slice none 0 0],.bool false]) (by simp [results,Try.results18,go_sem]) rfl ?_
 exact ⟨_,[],false,rfl,Kd.S_nil _ _ _ _ _,lS (by repeat (first|exact Below.refl _ _|apply lA|apply lN|apply lD)) (Nat.le_refl _),fun _ => ⟨rfl,rfl⟩,fun ps h => by rw [HR.out] at h;cases h⟩
set_option maxHeartbeats 4000000 in
set_option maxRecDepth 100000 in
theorem sread_in (s : ByteArray) (hs : 1 ≤ s.size ∧ s.size ≤ 24) (w : World) :
  Calls Try.prog 18 #[.string s] w (PoRead w (pRead s)):=by
 have hr : pRead s = (pAlt 50 s []).bind fun x => if x.2.1.size = 0 then some x.2.2 else none:=by unfold pRead;rw [if_pos hs]
 have hwi : spec_l01In.f s.size 1 24 = some true:=by
  unfold spec_l01In.f
  first|rw [if_pos (by omega),decide_eq_true (by omega)]|(simp;omega)
 have HR:=aM hr;have HW:=aM hwi;have HSZ:=aM hs
 clear hr hwi hs
 go_enter Try.func18,Try.ntmps18
 go_wp2_with (go_at_call 33;refine (spec_l01In.calls _ _ _ true _ HW.out).mono ?_;rintro e w' ⟨rfl,⟨nd,rfl⟩⟩)
 obtain ⟨wa,hwa⟩ : ∃ wa,(w.alloc (.cells #[.slice none 0 0] 30)).drewN nd = wa:=⟨_,rfl⟩
 have hsz : wa.heap.size = w.heap.size + 1:=by rw [← hwa];simp
 have hBa : Below w.heap.size w wa:=by rw [← hwa];exact lN (lA (Below.refl _ _) _) _
 have hra : wa.heap[w.heap.size]? = some (.cells #[.slice none 0 0] 30 (0,0)):=by rw [← hwa];exact heap_alloc_new w _
 rw [hwa]
 have HS:=aM (show StT wa (wa.alloc (.cells #[.string s,.int .i64 0,.bool false,.slice none 0 0] 72)) (w.heap.size + 1) s 0 [] false from ⟨none,0,by rw [← hsz];exact heap_alloc_new wa _,by omega,Kd.S_nil _ _ _ _ _,lA (Below.refl _ _) _⟩)
 have HBa:=aM hBa;have HRA:=aM hra;have HZ:=aM hsz
 clear hwa hBa hra hsz
 go_wp2_with fail
 refine (salt_all 50 _ s wa _ 0 [] HS.out (by omega) (by have:=HSZ.out;omega) (by have:=HSZ.out;omega) (by have:=HSZ.out;simp;omega)).mono ?_
 rintro e w2 ⟨j,q,qs,b,rfl,hs2,q0,q1,q2,q3⟩
 obtain ⟨A,c,hb2,hg2,hR2,hB2⟩:=hs2
 have HR2:=aM hR2;have HB2:=aM hB2;have HBK:=aM hb2;have Q2:=aM q2;have Q3:=aM q3;have Q1:=aM q1;have Q0:=aM q0
 have hr3:=(hB2.block w.heap.size (by have:=HZ.out;omega)).trans HRA.out
 have hlt : w.heap.size < w2.heap.size:=bL hr3
 have hne : w.heap.size ≠ w.heap.size + 1:=by omega
 obtain ⟨⟨h3,h4,h5,h6⟩,f3,f4,f5,f6⟩:=bC4 hb2
 have hc3 : w2.cell? ⟨w.heap.size,0,none⟩ = some (.slice none 0 0):=(bC hr3 0).trans rfl
 have hf3:=bF hr3 0
 have HR3:=aM hr3
 have HBB:=aM (show Below w.heap.size w w2 from HBa.out.trans (hB2.mono (by have:=HZ.out;omega)))
 clear hb2 hg2 hR2 hB2 q1 q2 q3 hr3 q0
 cases b with
 |true =>
  have HN:=aM (show pRead s = none by rw [HR.out];have:=Q3.out rfl;rw [sf_zero] at this;rw [this];rfl)
  clear Q2 Q3
  go_wp2
  refine bodyPost_ret (v:=.tuple #[.agg #[.slice none 0 0],.bool false]) (by simp [results,Try.results18,go_sem,hc3,hf3,hlt]) rfl ?_
  exact ⟨_,[],false,rfl,Kd.S_nil _ _ _ _ _,lS HBB.out (Nat.le_refl _),fun _ => ⟨rfl,rfl⟩,fun ps h => by rw [HN.out] at h;cases h⟩
 |false =>
  have hq:=(Q2.out rfl).1
  rw [sf_zero] at hq
  clear Q2 Q3
  by_cases hu : q < s.size
  ·have HN:=aM (show pRead s = none by rw [HR.out,hq,Option.bind_some];simp only [];rw [if_neg (by rw [sf_size];omega)])
   have hg1 : decide ((q : Int) < (s.size : Int)) = true:=decide_eq_true (by omega)
   have hg2 : decide (q < s.size) = true:=decide_eq_true hu
   clear hq
   go_wp2
   refine bodyPost_ret (v:=.tuple #[.agg #[.slice none 0 0],.bool false]) (by simp [results,Try.results18,go_sem,hc3,hf3,hlt]) rfl ?_
   exact ⟨_,[],false,rfl,Kd.S_nil _ _ _ _ _,lS HBB.out (Nat.le_refl _),fun _ => ⟨rfl,rfl⟩,fun ps h => by rw [HN.out] at h;cases h⟩
  ·have hpr : pRead s = some qs:=by rw [HR.out,hq,Option.bind_some];simp only [];rw [if_pos (by rw [sf_size];omega)]
   have HPR:=aM hpr
   have hg1 : decide ((q : Int) < (s.size : Int)) = false:=decide_eq_false (by omega)
   have hg2 : decide (q < s.size) = false:=decide_eq_false hu
   clear hpr hq
   go_wp2
   refine bodyPost_ret (v:=.tuple #[.agg #[.slice A qs.length c],.bool true]) (by simp [results,Try.results18,go_sem,hc3,hf3,hlt]) rfl ?_
   refine ⟨_,qs,true,rfl,Kd.S_mono (Kd.S_lower (Kd.S_set (Kd.S_mono HR2.out (fun _ _ => trivial)) HR3.out (by decide) 0 _) (by have:=HZ.out;omega)) (fun _ _ => trivial),lS HBB.out (Nat.le_refl _),(fun h => by rw [HPR.out] at h;cases h),fun ps h => by rw [HPR.out] at h;exact ⟨Option.some.inj h,rfl⟩⟩
theorem sread (s : ByteArray) (w : World) :
  Calls Try.prog 18 #[.string s] w (PoRead w (pRead s)):=by
 by_cases hs : 1 ≤ s.size ∧ s.size ≤ 24
 ·exact sread_in s hs w
 ·exact sread_out s hs w
set_option maxHeartbeats 4000000
set_option maxRecDepth 100000
def markL (k : Nat) : Nat → List S85 → Int → Nat → Option (Int × List S85)
 |0,_,_,_ => none
 |n + 1,xs,m,i => if i < xs.length then (if 0 ≤ m ∧ m ≤ 1000000 then (laws_markText.f k (m + 1)).bind fun t => (laws_markIntS.f k (xs.getD i z85).f2 (m + 1 + 1)).bind fun r => markL k n (xs.set i ⟨m,t,r.2⟩) r.1 (i + 1) else none) else some (m,xs)
theorem seg1 (w : World) (g o : Nat) (v : Value) : w.setCells g o [v] = w.setCell ⟨g,o,none⟩ v:=rfl
theorem H_cells {α : Type} {d : Kd α} {e base g n cap : Nat} {W : World} {ok oki : Nat → Prop} {xs : List α} {i : Int} {c : List Value} (h : Kd.H d e W base ok (.slice (some ⟨g,0,none⟩) n cap) xs i oki c) (h0 : 0 ≤ i) (h1 : i < n) :
  (∀ j u,c[j]? = some u → W.cell? ⟨g,i.toNat * d.sz + j,none⟩ = some u) ∧ ∀ j,W.frozen? ⟨g,i.toNat * d.sz + j,none⟩ = false:=by
 obtain ⟨rows,_,hraw,_,_,hcc,_⟩:=Kd.H_raw h h0 h1
 obtain ⟨_,_,_,_,hfr⟩:=Kd.R_elem hraw [] i h0 h1
 exact ⟨hcc,hfr⟩
theorem H_put {e base g n cap : Nat} {W : World} {ok oki : Nat → Prop} {xs : List S85} {i : Nat} {c c' : List Value} (h : Kd.H k85 e W base ok (.slice (some ⟨g,0,none⟩) n cap) xs (i : Int) oki c) (h1 : (i : Int) < n) (j : Nat) (v : Value) (hv : v.oneCell' = true) (hj : j + 1 ≤ 3) (hc : c' = c.take j ++ [v] ++ c.drop (j + 1)) :
  Kd.H k85 e (W.setCell ⟨g,i * 3 + j,none⟩ v) base ok (.slice (some ⟨g,0,none⟩) n cap) xs (i : Int) oki c':=by
 have:=(Kd.H_seg h (by omega) h1 (seg:=[v]) (j:=j) hj (fun q hq => by rw [List.mem_singleton.1 hq];exact hv)).1
 rw [Int.toNat_natCast] at this
 rw [hc]
 exact this
set_option maxHeartbeats 4000000 in
set_option maxRecDepth 100000 in
theorem smark_cons (k : Nat) (ok : Nat → Prop) (g c : Nat) (xs : List S85) (hl : xs.length ≤ 1000) (m r : Int) (zs : List S85) (w0 w : World) (hB : Below w0.heap.size w0 w) (hS : Kd.S k85 85 w w0.heap.size ok (.slice (some ⟨g,0,none⟩) xs.length c) xs) (h : markL k k xs m 0 = some (r,zs)) :
  Calls Try.prog 36 #[.slice (some ⟨g,0,none⟩) xs.length c,.int .i64 m] w fun e w' => e = .returned (.int .i64 r) ∧ Kd.S k85 85 w' w0.heap.size ok (.slice (some ⟨g,0,none⟩) xs.length c) zs ∧ Below w0.heap.size w0 w' ∧ Kept w w' ok:=by
 have HS0:=aM hS;have HB0:=aM hB;have HH:=aM h;have HL:=aM hl
 have hokg : ok g:=by obtain ⟨f,hR⟩:=hS;exact hR.1 g (by simp [Value.ownBlock])
 have HOG:=aM hokg
 have hgb : w0.heap.size ≤ g:=Kd.S_base hS g (by simp [Value.ownBlock])
 have HGB:=aM hgb
 obtain ⟨n0,hn0⟩ : ∃ n0,xs.length = n0:=⟨_,rfl⟩
 rw [hn0]
 rw [hn0] at HS0 HL
 have HN0:=aM hn0
 clear hS hB h hl hokg hgb hn0
 go_enter Try.func36,Try.ntmps36
 go_wp2
 go_loopg [1,5] k (fun n m_ i_ w' => ∃ (m : Int) (i : Nat) (ys : List S85),m_ = .int .i64 m ∧ i_ = .int .i64 i ∧ Aside0 (markL k n ys m i = some (r,zs)) ∧ Aside0 (ys.length = n0) ∧ Aside0 (Kd.S k85 85 w' w0.heap.size ok (.slice (some ⟨g,0,none⟩) n0 c) ys) ∧ Aside0 (Below w0.heap.size w0 w') ∧ Aside0 (Kept w w' ok))
 case atStart => exact ⟨m,0,xs,rfl,rfl,HH,HN0,HS0,HB0,aM (Kept.refl w ok)⟩
 case round =>
  clear HS0 HB0 HH HN0
  obtain ⟨m,i,ys,rfl,rfl,HM,HY,HS,HB,HK⟩:=hrel
  cases gk with
  |zero => exact absurd HM.out (by simp [markL])
  |succ n =>
   have h:=HM.out
   unfold markL at h
   by_cases hi : i < ys.length
   ·rw [if_pos hi] at h
    by_cases hm : 0 ≤ m ∧ m ≤ 1000000
    ·rw [if_pos hm] at h
     obtain ⟨t,ht,h⟩:=Option.bind_eq_some_iff.mp h
     obtain ⟨⟨r1,ks⟩,hk,h⟩:=Option.bind_eq_some_iff.mp h
     have HT:=aM ht;have HKS:=aM hk;have HR:=aM h
     have hin : i < n0:=by have:=HY.out;omega
     clear HM h ht hk
     obtain ⟨oki,c3,hcl,hMi,hcc,hfr,hoki,hH⟩:=Kd.S_elem HS.out z85 (i : Int) (by omega) (by omega)
     obtain ⟨v2,rfl,hRk⟩:=k85_openM hMi
     rw [Int.toNat_natCast] at hRk hcc hfr
     have b0 : wr.cell? ⟨g,i * 3,none⟩ = some (.int .i64 (ys.getD i z85).f0):=hcc 0 _ rfl
     have b1 : wr.cell? ⟨g,i * 3 + 1,none⟩ = some (.string (ys.getD i z85).f1):=hcc 1 _ rfl
     have b2 : wr.cell? ⟨g,i * 3 + 2,none⟩ = some v2:=hcc 2 _ rfl
     have f0 : wr.frozen? ⟨g,i * 3,none⟩ = false:=hfr 0
     have f1 : wr.frozen? ⟨g,i * 3 + 1,none⟩ = false:=hfr 1
     have f2 : wr.frozen? ⟨g,i * 3 + 2,none⟩ = false:=hfr 2
     have HHo:=aM hH;have HRK:=aM hRk;have HOK:=aM hoki
     have hlt : g < wr.heap.size:=World.block_lt_of_cell? wr _ b0
     have hi0 : (0 : Int) ≤ (i : Int):=by omega
     have hi1 : (i : Int) < (n0 : Int):=by omega
     have hi2 : (i : Int) + 1 ≤ 2000:=by have:=HL.out;omega
     obtain ⟨hm0,hm1⟩:=hm
     clear hH hRk hoki hMi hcc hfr hcl hi
     go_wp2_with fail
     have H1:=aM (H_put HHo.out hi1 0 (.int .i64 m) rfl (by omega) rfl)
     have R1:=aM (rF (p:=⟨g,i * 3 + 0,none⟩) HRK.out (fun k hk => (HOK.out k hk).2) (.int .i64 m))
     have K1:=aM (Kept.setCell (p:=⟨g,i * 3 + 0,none⟩) HK.out (.inl HOG.out) (.int .i64 m))
     have B1:=aM (lS (j:=i * 3 + 0) (v:=.int .i64 m) HB.out HGB.out)
     clear HHo HRK HK HB
     refine (laws_markText.calls k (m + 1) t _ HT.out).mono ?_
     rintro e w2 ⟨rfl,hb⟩
     have H2:=aM (Kd.H_below H1.out hb);have R2:=aM (rB R1.out hb);have K2:=aM (Kept.below K1.out hb);have B2:=aM (lP B1.out hb)
     clear H1 R1 K1 B1 hb b0 b1 b2 f0 f1 f2 hlt
     obtain ⟨hcc,hfr⟩:=H_cells H2.out hi0 hi1
     rw [Int.toNat_natCast] at hcc hfr
     have b1 : w2.cell? ⟨g,i * 3 + 1,none⟩ = some (.string (ys.getD i z85).f1):=hcc 1 _ rfl
     have b2 : w2.cell? ⟨g,i * 3 + 2,none⟩ = some v2:=hcc 2 _ rfl
     have f1 : w2.frozen? ⟨g,i * 3 + 1,none⟩ = false:=hfr 1
     clear hcc hfr
     have H3:=aM (H_put H2.out hi1 1 (.string t) rfl (by omega) rfl)
     have R3:=aM (rF (p:=⟨g,i * 3 + 1,none⟩) R2.out (fun k hk => (HOK.out k hk).2) (.string t))
     have K3:=aM (Kept.setCell (p:=⟨g,i * 3 + 1,none⟩) K2.out (.inl HOG.out) (.string t))
     have B3:=aM (lS (j:=i * 3 + 1) (v:=.string t) B2.out HGB.out)
     clear H2 R2 K2 B2
     have hm2 : m + 1 ≤ 1000002:=by omega
     go_wp2_with fail
     refine (laws_markIntS.calls k oki v2 (ys.getD i z85).f2 (m + 1 + 1) r1 ks w0 _ B3.out R3.out HKS.out).mono ?_
     rintro e w4 ⟨rfl,hR4,hB4,hK4⟩
     have S4:=aM (Kd.H_back (x':=(⟨m,t,ks⟩ : S85)) (Kd.H_step H3.out (fun k _ hn hlt => hK4.2 k hlt hn)) (k85_mkM w4 w0.heap.size oki (⟨m,t,ks⟩ : S85) (Kd.R_mono (Kd.R_tight rfl hR4) (fun q hq => R3.out.1 q hq.symm))) (fun _ hk => hk))
     have K4:=aM (Kept.then_ K3.out hK4 (fun q hq => .inl (HOK.out q hq).1))
     have B4:=aM hB4
     clear H3 R3 K3 B3 hR4 hB4 hK4
     go_wp2_with fail
     go_roundg n
     case measure => omega
     case rel => exact ⟨r1,i + 1,ys.set i ⟨m,t,ks⟩,rfl,rfl,HR,aM (by rw [List.length_set];exact HY.out),S4,B4,K4⟩
    ·rw [if_neg hm] at h
     cases h
   ·rw [if_neg hi] at h
    have h2:=Option.some.inj h
    injection h2 with e1 e2
    subst e1 e2
    have hi1 : ¬ ((i : Int) < (n0 : Int)):=by have:=HY.out;omega
    clear h hi HM
    go_wp2
    go_ret
    exact ⟨rfl,HS.out,HB.out,HK.out⟩
theorem smark_nil (k : Nat) (ok : Nat → Prop) (m : Int) (A : Option Addr) (c : Nat) (w : World) :
  Calls Try.prog 36 #[.slice A 0 c,.int .i64 m] w fun e w' => e = .returned (.int .i64 m) ∧ w = w':=by
 go_enter Try.func36,Try.ntmps36
 go_wp2
 refine wp_loop_rounds 1 ?_
 rw [rounds_succ]
 go_wp2
 go_ret
 exact ⟨rfl,rfl⟩
def markP (k : Nat) (xs : List S85) (m : Int) : Option (Int × List S85):=if xs.length ≤ 1000 then (if xs.length = 0 then some (m,xs) else markL k k xs m 0) else none
theorem smarkS (k : Nat) (ok : Nat → Prop) (v : Value) (xs : List S85) (m r : Int) (zs : List S85) (w0 w : World) (hB : Below w0.heap.size w0 w) (hS : Kd.S k85 85 w w0.heap.size ok v xs) (h : markP k xs m = some (r,zs)) :
  Calls Try.prog 36 #[v,.int .i64 m] w fun e w' => e = .returned (.int .i64 r) ∧ Kd.S k85 85 w' w0.heap.size ok v zs ∧ Below w0.heap.size w0 w' ∧ Kept w w' ok:=by
 unfold markP at h
 by_cases hl : xs.length ≤ 1000
 ·rw [if_pos hl] at h
  by_cases h0 : xs.length = 0
  ·rw [if_pos h0] at h
   obtain ⟨A,c,rfl⟩:=Kd.S_slice hS
   have h2:=Option.some.inj h
   injection h2 with e1 e2
   subst e1 e2
   rw [h0] at hS ⊢
   refine (smark_nil k ok m A c w).mono ?_
   rintro e w' ⟨rfl,rfl⟩
   exact ⟨rfl,hS,hB,Kept.refl _ _⟩
  ·rw [if_neg h0] at h
   obtain ⟨g,c,rfl,_⟩:=Kd.S_form hS (by omega)
   exact smark_cons k ok g c xs hl m r zs w0 w hB hS h
 ·rw [if_neg hl] at h
  cases h
set_option maxHeartbeats 4000000 in
set_option maxRecDepth 100000 in
theorem smarkP (k : Nat) (ok : Nat → Prop) (v : Value) (xs : List S85) (m r : Int) (zs : List S85) (w0 w : World) (hB : Below w0.heap.size w0 w) (hS : Kd.S k85 85 w w0.heap.size ok v xs) (h : markP k xs m = some (r,zs)) :
  Calls Try.prog 15 #[.agg #[v],.int .i64 m] w fun e w' => e = .returned (.int .i64 r) ∧ Kd.S k85 85 w' w0.heap.size ok v zs ∧ Below w0.heap.size w0 w' ∧ Kept w w' ok:=by
 have hv:=Kd.R_val (Kd.S_R hS)
 obtain ⟨A,c,rfl⟩:=Kd.S_slice hS
 have HX:=aM (smarkS k ok (.slice A xs.length c) xs m r zs w0 (w.alloc (.cells #[.slice A xs.length c] 30)) (lA hB _) (Kd.S_alloc hS _) h)
 clear hS hB h hv
 go_enter Try.func15,Try.ntmps15
 go_wp2_with fail
 refine HX.out.mono ?_
 rintro e w2 ⟨rfl,h1,h2,h3⟩
 have H1:=aM h1;have H2:=aM h2;have H3:=aM h3
 clear h1 h2 h3
 go_wp2
 go_ret
 exact ⟨rfl,H1.out,H2.out,Kept.then_ (Kept.alloc (Kept.refl w ok) _) H3.out (fun q hq => .inl hq)⟩
theorem name_w {P : Program} {f : FuncId} {a : Array Value} {w : World} {Q : Ending → World → Prop} (h : ∀ W,w = W → Calls P f a W Q) : Calls P f a w Q:=h w rfl
set_option maxHeartbeats 4000000
set_option maxRecDepth 100000
def PoR (w : World) (o : Option (List S85)) (e : Ending) (w' : World) : Prop:=
 ∃ v : Value,e = .returned (.tuple #[.agg #[v],.bool o.isSome]) ∧ Kd.S k85 85 w' w.heap.size (fun _ => True) v (o.getD []) ∧ Below w.heap.size w w'
theorem PoRead.to {w : World} {o : Option (List S85)} {e : Ending} {w' : World} (h : PoRead w o e w') : PoR w o e w':=by
 obtain ⟨v,qs,b,he,hs,hb,h0,h1⟩:=h
 cases o with
 |none => obtain ⟨rfl,rfl⟩:=h0 rfl;exact ⟨v,he,hs,hb⟩
 |some ps => obtain ⟨rfl,rfl⟩:=h1 ps rfl;exact ⟨v,he,hs,hb⟩
set_option maxHeartbeats 4000000 in
set_option maxRecDepth 100000 in
theorem rp_walk (k : Nat) (s : ByteArray) (hs : s.size ≤ 1048576) (qs zs : List S85) (b : Bool) (r : Int) (w : World)
  (hq : (pRead s).getD [] = qs) (hbq : (pRead s).isSome = b) (hok : ∀ ps,pRead s = some ps → impl_PatternOk.f k ps = some true) (he : laws_eqPattern.f k qs qs = some true) (hm : markP k qs 1 = some (r,zs)) (hh : laws_heldPattern.f k zs 1 = some r) (hr : 0 ≤ r) :
  Calls Try.prog 5 #[.string s] w fun e w' => e = .returned (.bool true) ∧ Below w.heap.size w w':=by
 have HS:=aM (fun W => (sread s W).mono fun _ _ h => PoRead.to h)
 have HI:=aM (fun W => (rread k s hok W).mono fun _ _ h => PoRead.to h)
 have HQ:=aM hq;have HBQ:=aM hbq;have HE:=aM he;have HM:=aM hm;have HH:=aM hh
 have h20 : decide ((1048576 : Int) < (s.size : Int)) = false:=decide_eq_false (by omega)
 have h21 : ¬ ((1048576 : Int) < (s.size : Int)):=by omega
 have h22 : decide (1048576 < s.size) = false:=decide_eq_false (by omega)
 clear hq hbq hok he hm hh hs
 go_enter Try.func5,Try.ntmps5
 go_wp2_with fail
 refine (HS.out _).mono ?_
 rintro e w2 ⟨v0,rfl,hS0,hB0⟩
 rw [HBQ.out]
 rw [HQ.out] at hS0
 obtain ⟨A0,c0,rfl⟩:=Kd.S_slice hS0
 have S0:=aM (show Kd.S k85 85 w2 w.heap.size (fun q => q < w2.heap.size) (.slice A0 qs.length c0) qs from Kd.S_mono (Kd.S_bound hS0) (fun q hq => hq.2.2.1))
 have B2:=aM hB0
 clear hS0 hB0
 go_wp2_with fail
 refine name_w fun w3 hw3 => ?_
 have hsz3 : w3.heap.size = w2.heap.size + 1:=by rw [← hw3];simp
 have b3:=aM (show w3.heap[w2.heap.size]? = some (.cells #[.slice A0 qs.length c0] 30 (0,0)) from by rw [← hw3];exact new_at rfl)
 have S3:=aM (show Kd.S k85 85 w3 w.heap.size (fun q => q < w2.heap.size) (.slice A0 qs.length c0) qs from by rw [← hw3];exact Kd.S_alloc S0.out _)
 have B3:=aM (show Below w.heap.size w w3 from by rw [← hw3];exact lA B2.out _)
 have Z3:=aM hsz3
 have BK:=aM B3.out
 clear hw3 S0 B2 hsz3
 refine (HI.out _).mono ?_
 rintro e w4 ⟨v1,rfl,hS1,hB1⟩
 rw [HBQ.out]
 rw [HQ.out] at hS1
 obtain ⟨A1,c1,rfl⟩:=Kd.S_slice hS1
 have T4:=aM (show Kd.S k85 85 w4 w3.heap.size (fun q => w3.heap.size ≤ q ∧ q < w4.heap.size) (.slice A1 qs.length c1) qs from Kd.S_mono (Kd.S_bound hS1) (fun q hq => ⟨hq.2.1,hq.2.2.1⟩))
 have S4:=aM (Kd.S_below S3.out hB1);have b4:=aM (bB b3.out hB1);have B4:=aM (lP B3.out hB1);have C4:=aM hB1
 have Z4:=aM hB1.size
 clear hS1 hB1 S3 b3 B3
 have p0 : w4.cell? ⟨w2.heap.size,0,none⟩ = some (.slice A0 qs.length c0):=(bC b4.out 0).trans rfl
 have p1 : w2.heap.size < w4.heap.size:=bL b4.out
 go_wp2_with fail
 refine name_w fun w5 hw5 => ?_
 have b5:=aM (show w5.heap[w2.heap.size]? = some (.cells #[.slice A0 qs.length c0] 30 (0,0)) from by rw [← hw5];exact bA b4.out _)
 have g5:=aM (show w5.heap[w4.heap.size]? = some (.cells #[.slice A1 qs.length c1] 30 (0,0)) from by rw [← hw5];exact new_at rfl)
 have S5:=aM (show Kd.S k85 85 w5 w.heap.size (fun q => q < w2.heap.size) (.slice A0 qs.length c0) qs from by rw [← hw5];exact Kd.S_alloc S4.out _)
 have T5:=aM (show Kd.S k85 85 w5 w3.heap.size (fun q => w3.heap.size ≤ q ∧ q < w4.heap.size) (.slice A1 qs.length c1) qs from by rw [← hw5];exact Kd.S_alloc T4.out _)
 have B5:=aM (show Below w.heap.size w w5 from by rw [← hw5];exact lA B4.out _)
 have C5:=aM (show Below w3.heap.size w3 w5 from by rw [← hw5];exact lA C4.out _)
 clear hw5 S4 T4 b4 B4 C4 p0 p1
 obtain ⟨_,l0_,C0_⟩:=Kd.S_reads' S5.out
 obtain ⟨_,l1_,C1_⟩:=Kd.S_reads' T5.out
 refine (laws_eqPattern.calls k A1 c1 qs A0 c0 qs true w5 C1_ l1_ C0_ l0_ HE.out).mono ?_
 rintro e w6 ⟨rfl,hb⟩
 clear C0_ C1_ l0_ l1_
 have b6:=aM (bB b5.out hb);have g6:=aM (bB g5.out hb);have S6:=aM (Kd.S_below S5.out hb);have T6:=aM (Kd.S_below T5.out hb);have B6:=aM (lP B5.out hb);have C6:=aM (lP C5.out hb)
 clear hb b5 g5 S5 T5 B5 C5
 have p0 : w6.cell? ⟨w4.heap.size,0,none⟩ = some (.slice A1 qs.length c1):=(bC g6.out 0).trans rfl
 go_wp2_with fail
 refine (smarkP k _ _ qs 1 r zs w3 w6 C6.out T6.out HM.out).mono ?_
 rintro e w7 ⟨rfl,hT,hC,hK⟩
 have hzl : zs.length = qs.length:=(Kd.S_reads' hT).1.symm
 have b7:=aM (blk_kept b6.out hK (by have:=Z3.out;omega));have g7:=aM (blk_kept g6.out hK (by omega));have S7:=aM (Kd.S_kept S6.out hK (fun q hq h2 => by have:=Z3.out;omega));have T7:=aM hT;have B7:=aM (show Below w.heap.size w w7 from BK.out.trans (hC.mono BK.out.size));have C7:=aM hC
 clear hT hC hK b6 g6 S6 T6 B6 C6 p0
 rw [← hzl] at T7
 have p0 : w7.cell? ⟨w4.heap.size,0,none⟩ = some (.slice A1 zs.length c1):=(bC g7.out 0).trans (by rw [hzl];rfl)
 have HZL:=aM hzl
 clear hzl
 obtain ⟨_,l1_,C1_⟩:=Kd.S_reads' T7.out
 have hr1 : ¬ (r < 0):=by omega
 go_wp2_with fail
 refine (laws_heldPattern.calls k A1 c1 zs 1 r w7 C1_ l1_ HH.out).mono ?_
 rintro e w8 ⟨rfl,hb⟩
 clear C1_ l1_
 have b8:=aM (bB b7.out hb);have g8:=aM (bB g7.out hb);have S8:=aM (Kd.S_below S7.out hb);have T8:=aM (Kd.S_below T7.out hb);have B8:=aM (lP B7.out hb);have C8:=aM (lP C7.out hb)
 clear hb b7 g7 S7 T7 B7 C7 p0
 go_wp2_with fail
 refine (HI.out _).mono ?_
 rintro e w9 ⟨v2,rfl,hS2,hB2⟩
 rw [HBQ.out]
 rw [HQ.out] at hS2
 obtain ⟨A2,c2,rfl⟩:=Kd.S_slice hS2
 have b9:=aM (bB b8.out hB2);have g9:=aM (bB g8.out hB2);have S9:=aM (Kd.S_below S8.out hB2);have T9:=aM (Kd.S_below T8.out hB2);have B9:=aM (lP B8.out hB2);have U9:=aM hS2
 clear hS2 hB2 b8 g8 S8 T8 B8 C8
 have p0 : w9.cell? ⟨w2.heap.size,0,none⟩ = some (.slice A0 qs.length c0):=(bC b9.out 0).trans rfl
 have p1 : w2.heap.size < w9.heap.size:=bL b9.out
 have p2 : w9.cell? ⟨w4.heap.size,0,none⟩ = some (.slice A1 zs.length c1):=(bC g9.out 0).trans (by rw [HZL.out];rfl)
 have p3 : w4.heap.size < w9.heap.size:=bL g9.out
 go_wp2_with fail
 refine name_w fun w10 hw10 => ?_
 have g10:=aM (show w10.heap[w4.heap.size]? = some (.cells #[.slice A1 qs.length c1] 30 (0,0)) from by rw [← hw10];exact bA g9.out _)
 have S10:=aM (show Kd.S k85 85 w10 w.heap.size (fun q => q < w2.heap.size) (.slice A0 qs.length c0) qs from by rw [← hw10];exact Kd.S_alloc S9.out _)
 have T10:=aM (show Kd.S k85 85 w10 w3.heap.size (fun q => w3.heap.size ≤ q ∧ q < w4.heap.size) (.slice A1 zs.length c1) zs from by rw [← hw10];exact Kd.S_alloc T9.out _)
 have U10:=aM (show Kd.S k85 85 w10 w8.heap.size (fun _ => True) (.slice A2 qs.length c2) qs from by rw [← hw10];exact Kd.S_alloc U9.out _)
 have B10:=aM (show Below w.heap.size w w10 from by rw [← hw10];exact lA B9.out _)
 clear hw10 b9 g9 S9 T9 U9 B9 p0 p1 p2 p3
 obtain ⟨_,l0_,C0_⟩:=Kd.S_reads' S10.out
 obtain ⟨_,l1_,C1_⟩:=Kd.S_reads' U10.out
 refine (laws_eqPattern.calls k A2 c2 qs A0 c0 qs true w10 C1_ l1_ C0_ l0_ HE.out).mono ?_
 rintro e w11 ⟨rfl,hb⟩
 clear C0_ C1_ l0_ l1_
 have g11:=aM (bB g10.out hb);have T11:=aM (Kd.S_below T10.out hb);have B11:=aM (lP B10.out hb)
 clear hb g10 S10 T10 U10 B10
 have p0 : w11.cell? ⟨w4.heap.size,0,none⟩ = some (.slice A1 zs.length c1):=(bC g11.out 0).trans (by rw [HZL.out];rfl)
 obtain ⟨_,l1_,C1_⟩:=Kd.S_reads' T11.out
 go_wp2_with fail
 refine (laws_heldPattern.calls k A1 c1 zs 1 r w11 C1_ l1_ HH.out).mono ?_
 rintro e w12 ⟨rfl,hb⟩
 have B12:=aM (lP B11.out hb)
 clear C1_ l1_ hb
 go_wp2
 go_ret
 exact ⟨rfl,B12.out⟩
def laws_FnExactReadPattern.f (k : Nat) (s : ByteArray) : Option Bool:=
 if s.size ≤ 1048576 then
  (markP k ((pRead s).getD []) 1).bind fun m =>
  if (pRead s = none ∨ impl_PatternOk.f k ((pRead s).getD []) = some true) ∧ laws_eqPattern.f k ((pRead s).getD []) ((pRead s).getD []) = some true ∧ laws_heldPattern.f k m.2 1 = some m.1 ∧ 0 ≤ m.1 then some true else none
 else some true
theorem laws_FnExactReadPattern.calls (k : Nat) (a0 : ByteArray) (r : Bool) (w : World) (h : laws_FnExactReadPattern.f k a0 = some r) :
  Calls Try.prog 5 #[.string a0] w fun e w' => e = .returned (.bool r) ∧ Below w.heap.size w w':=by
 unfold laws_FnExactReadPattern.f at h
 by_cases hs : a0.size ≤ 1048576
 ·rw [if_pos hs] at h
  obtain ⟨⟨m,zs⟩,hm,h⟩:=Option.bind_eq_some_iff.mp h
  split at h
  ·next hc =>
   obtain ⟨h1,h2,h3,h4⟩:=hc
   obtain rfl:=Option.some.inj h
   refine rp_walk k a0 hs _ zs _ m w rfl rfl (fun ps hps => ?_) h2 hm h3 h4
   rcases h1 with h1|h1
   ·rw [hps] at h1;cases h1
   ·rw [hps] at h1;exact h1
  ·cases h
 ·rw [if_neg hs] at h
  obtain rfl:=Option.some.inj h
  have h20 : decide ((1048576 : Int) < (a0.size : Int)) = true:=decide_eq_true (by omega)
  have h21 : (1048576 : Int) < (a0.size : Int):=by omega
  have h22 : decide (1048576 < a0.size) = true:=decide_eq_true (by omega)
  have HB:=aM (Below.refl w.heap.size w)
  clear h hs
  go_enter Try.func5,Try.ntmps5
  go_wp2
  go_ret
  exact ⟨rfl,HB.out⟩
def laws_FnExactReadPattern.Pure : Prop:=∀ (a0 : ByteArray),a0.size ≤ 140737488351232 → ∃ k,laws_FnExactReadPattern.f k a0 = some true
theorem laws_FnExactReadPattern.walk (P : laws_FnExactReadPattern.Pure) (a0 : ByteArray) (w : World) (w0 : a0.size ≤ 140737488351232) :
  Calls Try.prog 5 #[.string a0] w fun e w' => e = .returned (.bool true) ∧ Below w.heap.size w w':=by
 obtain ⟨k,h⟩:=P a0 w0
 exact laws_FnExactReadPattern.calls k a0 true w h

end Go.Proofs.Ytnjomkadjcjcnaa.QFnExactReadPattern
